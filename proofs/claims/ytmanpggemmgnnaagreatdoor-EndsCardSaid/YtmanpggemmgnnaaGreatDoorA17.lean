/- Ends: a part. Conditions: none. -/
import Derived.Conc.AtomicLaws2
import Derived.Test.YtmanpggemmgnnaaGreatDoorA15
set_option linter.all false
set_option maxHeartbeats 8000000
set_option maxRecDepth 1000000
namespace Go.Proofs.YtmanpggemmgnnaaGreatDoor
noncomputable section
open Go Go.Conc Tryz
def xl{p:Prop}(h:p:=by kernel_rfl):p:=h
section
open Go.ConcN (sumTo upd upd_ne upd_same)
namespace Co
open Kv Ka Ky
section
variable {P:Program}{Post:Value->World->Prop}{K:Cy}
def zC{es d d' Z h w}(hm:∀e∈es,e.mute=true)(hd:deafBehind d es=d'):JP Z Z.ic h d d' w w es:=
 ⟨id,λ_ _=>⟨⟨rfl,rfl⟩,rfl,rfl⟩,λ_ _ _ h=>h,λe he=>by
   obtain⟨V,J⟩:=gu (hm e he);exact⟨λx E=>(by rw[V]at E;cases E),λs _=>J _⟩,hd⟩
def WT.slip(aH:K.Ok)(hs:K.Z.bP K.s){cs:List Frame}:∀(n:Nat) {fr fr':Frame} {csl csl':List Frame} {an nM:List An} {jX:List (FuncId×List Io)} {d:Nat} {w:World},Ky.walk P n fr csl an=some (fr',csl',nM,jX)->lW K.s jX->jv P jX=true->
 (∀U,aQ K.Z w U->WT P Post K (kg P d jX) (G fr' (csl'++cs)) U)->WT P Post K d (G fr (csl++cs)) w
 |0,fr,fr',csl,csl',an,nM,jX,d,w,h,_,_,Q=>by
  simp only[Ky.walk,cI,dp]at h;obtain⟨rfl,rfl,rfl,rfl⟩:=h;exact Q w (aQ.refl _ _)
 |n+1,fr,fr',csl,csl',an,nM,jX,d,w,h,UT,hb,Q=>by
  simp only[Ky.walk]at h;split at h
  ·cases h
  ·rename_i Bj cs1 VV io lT;split at h
   ·cases h
   ·rename_i fr2 cs2 as2 Mf hw;cases h;simp only[jv,gG,bw]at hb;obtain⟨b1,b2⟩:=hb;exact WT.step aH rfl λU ha A=>⟨_,U,_,_,gK lT (K.h==0) cs U U (mJ UT.1 U (A.2 K.s hs).1),zC (yD b1) rfl,WT.slip aH hs n hw UT.2 b2 λw'' yP=>Q w'' (ha.trans yP)⟩
def Ey.slip(aH:K.Ok)(hs:K.Z.bP K.s){cs:List Frame}:∀(n:Nat) {fr fr':Frame} {csl csl':List Frame} {an nM:List An} {jX:List (FuncId×List Io)} {d:Nat} {w:World},Ky.walk P n fr csl an=some (fr',csl',nM,jX)->lW K.s jX->jv P jX=true->
 (∀U,aQ K.Z w U->Ey P Post K (kg P d jX) (G fr' (csl'++cs)) U)->Ey P Post K d (G fr (csl++cs)) w
 |0,fr,fr',csl,csl',an,nM,jX,d,w,h,_,_,Q=>by
  simp only[Ky.walk,cI,dp]at h;obtain⟨rfl,rfl,rfl,rfl⟩:=h;exact Q w (aQ.refl _ _)
 |n+1,fr,fr',csl,csl',an,nM,jX,d,w,h,UT,hb,Q=>by
  simp only[Ky.walk]at h;split at h
  ·cases h
  ·rename_i Bj cs1 VV io lT;split at h
   ·cases h
   ·rename_i fr2 cs2 as2 Mf hw;cases h;simp only[jv,gG,bw]at hb;obtain⟨b1,b2⟩:=hb;exact Ey.step aH rfl λU ha A=>⟨_,_,_,gK lT (K.h==0) cs U U (mJ UT.1 U (A.2 K.s hs).1),zC (yD b1) rfl,Ey.slip aH hs n hw UT.2 b2 λw'' yP=>Q w'' (ha.trans yP)⟩
def kH{fr csl an fr' csl' nM fn io}(h:Ky.walk P 1 fr csl an=some (fr',csl',nM,[(fn,io)]))main cs w U(hb:jg io w U):stepG P main (G fr (csl++cs)) w=.go (G fr' (csl'++cs)) U (seen P fn (gV io).toArray):=by
 simp only[Ky.walk]at h;split at h
 ·cases h
 ·rename_i Bj cs1 VV io1 lT;simp only[cI,dp,od,qs]at h;obtain⟨rfl,rfl,rfl,rfl,rfl⟩:=h;exact gK lT main cs w U hb
def WT.aQn{c μ a aS aF w d}(aH:K.Ok)(h0:K.h=0)(hs:K.Z.bP K.s)(L:0<c)(I:∀ρ x,K.R ρ x->Rc K.b K.m c μ ρ x)(uv:a.status=.running)
 (hgo:∀U,U.shape? K.s=some (79,8)->U.cell? (dE K.s)=some (.int .u64 (aa c 0))->U.frozen? (dE K.s)=false->stepG P (K.h==0) a U=.go aS (U.setCell (dE K.s) (.int .u64 (aa c 1))) (je K.s)) (vy:∀c' U,c'<=8->c'≠c->U.shape? K.s=some (79,8)->U.frozen? (dE K.s)=false->U.cell? (dE K.s)=some (.int .u64 (aa c' 0))->stepG P (K.h==0) a U=.go aF U #[su (dE K.s)])
 (hS:∀U,aQ K.Z w U->Ey P Post K d aS U) (hF:∀U,aQ K.Z w U->WT P Post {K with R:=λ_ x=>x<μ} d aF U):WT P Post K d a w:=by
 refine WT.iQ aH uv λgs t q ρ p U uG ha gW bz C hd hRR iF w₁ sl₁ xf uw=>?_;obtain⟨g5,f5⟩:=C.wd.sI hs;obtain⟨g6,f6⟩:=C.wd.wh hs;have fT:=(C.wd.keep.2 K.s hs).1;by_cases e:cnt ρ K.b K.m=c
 ·rw[e]at g5;have jw:=hgo U fT g5 f5;have jY:(U.setCell (dE K.s) (.int .u64 (aa c 1))).cell? (dE K.s)=some (.int .u64 (aa c 1)):=World.cell?_setCell_same _ _ _ (by rw[g5]);obtain⟨C2,zv,uL⟩:=C.Fa (a':=aS) (U:=U.setCell (dE K.s) (.int .u64 (aa c 1))) (es:=je K.s) (d:=d) (d':=d) (m':=K.m) (wt':=1) (sm':=0) hd ha gW.1 (.inl h0) (λA=>uD A C.wf hs) (λc k _ A=>ku rfl A rfl)
   (lU C.wf hs λe he=>by simp[je]at he;rcases he with rfl|rfl<;>simp) (deafBehind_still (by intro e he;simp[je,su,Bt]at he;rcases he with rfl|rfl<;>simp) d) C.ge
   ⟨λ_=>by rw[e];exact⟨jY,(aZ rfl).trans f5⟩,λ_=>⟨(l8 _ _ (by simp[iD])).trans g6,(aZ rfl).trans f6⟩,C.wd.J5,by omega,λ_=>rfl,(λi hi=>by have:=bz.2.2 i;rcases hi with hi|hi<;>rw[hi]at this<;>cases this),(λi hi=>by have:=bz.2.2 i;rw[hi]at this;cases this),C.wd.NT⟩
  exact iW.next (uw.trans (runT_crowd_go (sl:=xf) ha jw)) (hS _ (iF.trans (Aside.setCell hs (.inl rfl)).d) _ _ q xf ρ p 1 0 (by simpa using uG) zv gW (.inl ⟨rfl,rfl,.inl (by omega)⟩) C2 uL)
 ·have tP:sumTo gs.size q<μ:=by
   rcases I ρ _ hRR with⟨V,_⟩|V
   ·exact absurd V e
   ·exact V
  have jw:=vy _ U C.wd.J5 e fT f5 g5;obtain⟨C2,zv,uL⟩:=C.Fa (a':=aF) (U:=U) (es:=#[su (dE K.s)]) (d:=d) (d':=d) (m':=K.m) (wt':=0) (sm':=0) hd ha gW.1 (.inl h0) id (λc k _ A=>A) (lU C.wf hs λe he=>by simp at he;rcases he with rfl;simp)
   (deafBehind_still (by intro e he;simp[su]at he;rcases he with rfl;simp) d) C.ge C.wd.toWdB
  exact iW.next (uw.trans (runT_crowd_go (sl:=xf) ha jw)) (hF U iF _ _ q xf ρ p (by simpa using uG) zv gW bz C2 uL (by simpa using tP))
def KS{kk ops i o f xs ats fn fr cs w rest ad}(hm:fr.mode=.run)(Y:fr.roundOf=none)(ht:fr.todo=.inRegion ops (i::rest)::kk)(ho:ops[i]? =some o)(hw:Region.wanted o (yielded ops fr.tmps)=true)
 (vh:o.op=.call {callee:=.value (.func f),args:=xs,argTypes:=ats}) (hf:P.funcs[f]? =some fn) (CH:(fn.name== "runtime.NumGoroutine")=false) (hb:fn.body.isNone=true) (Q:Extern.findNext fn=none) (he:Extern.find fn=some Extern.Sync.semacquire)  (E:(xs.map fr.eval)[0]? =some (.pointer (some ad))) main  (L:w.cell? ad=some (.int .u32 0)):
 stepG P main (G fr cs) w=.go {G fr cs with status:=.blocked} w #[]:=by
 have e:fr=fr.at ⟨fr.tmps,fr.defers⟩ (.inRegion ops (i::rest)::kk):=by
  cases fr with
  |mk a b c d e f g=>simp only at hm Y ht;subst hm;subst Y;subst ht;rfl
 have oU:fr.eval=(⟨fr.tmps,fr.defers⟩:Act).eval:=by funext x;cases x<;>rfl
 rw[oU]at E;have:=stepG_semacquire_wait (P:=P) (main:=main) (b:=fr) (a:=⟨fr.tmps,fr.defers⟩) (kk:=kk) (rest:=rest) (cs:=cs) (w:=w) ho hw vh hf CH hb Q he E L;rw[<-e]at this;exact this
end
end Co
end
namespace Co
open Kv Ka Ky
def vK(s:Nat):Value:=.pointer (some ⟨s,5,none⟩)
noncomputable def BR(s:Nat):Frame:=Frame.enter prog 41 #[vK s] .normal
noncomputable def uF(s:Nat):Frame:=aR prog 23 (BR s) [] []
noncomputable def aMJ:List Item:=((bu prog 23 (BR 0) [] []).headD default).todo
def tmG(s:Nat)(f:Nat->Value):Array Value:=⟨(List.range 84).map λi=>if i=0 then vK s else f i⟩
def tmC(s:Nat)(c:Nat)(f:Nat->Value):Array Value:=⟨(List.range 84).map λi=>if i=0 then vK s else if i=2 then .int .u64 (aa c 0)else if i=4 then .int .u32 0 else f i⟩
noncomputable def W1(s:Nat)(f:Nat->Value):Frame:={fn:=41,tmps:=tmG s f,todo:=aMJ,defers:=[],mode:=.run,kind:=.normal}
noncomputable def w1f(s:Nat)(i:Nat):Value:=((bu prog 23 (BR s) [] []).headD default).tmps.getD i undef
def cZ(P:Program)(n:Nat)(fr:Frame)(csl:List Frame)(an:List An)(d:Nat):Option (Frame×List Frame×List (FuncId×List Io)×Bool×Nat):=(Ky.walk P n fr csl an).map λx=>(x.1,x.2.1,thin x.2.2.2,jv P x.2.2.2,kg P d x.2.2.2)
def V3 s:cZ prog 23 (BR s) [] [] 0=some (uF s,[W1 s (w1f s)],[(41,[.mk (.extern 56),.mk .disable])],true,1):=xl
noncomputable def lF(s:Nat)(x:Int):Frame:=aR prog 1 (uF s) [] [.val (.int .u64 x)]
def Qv s x c:Ky.walk prog 1 (uF s) [c] [.val (.int .u64 x)]=some (lF s x,[c],[],[(57,[.mk (.extern 98),.ld .atomic (dE s) (.int .u64 x)])])/\seen prog 57 (gV [.mk (.extern 98),.ld .atomic (dE s) (.int .u64 x)]).toArray=#[su (dE s)]:=⟨xl,xl⟩
noncomputable def zF(s:Nat)(f:Nat->Value):Frame:=aR prog 36 (lF s (aa 0 0)) [W1 s f] an2
noncomputable def zG(s:Nat)(f:Nat->Value):Frame:=aR prog 1 (zF s f) [] []
def aA1 s f:cZ prog 36 (lF s (aa 0 0)) [W1 s f] an2 1=some (zF s f,[],[(41,[.mk (.extern 58),.mk .enable]),(41,[.sh s (some (79,8)),.sh s (some (79,8))])],true,0):=xl
def V5 s f:Ky.walk prog 1 (zF s f) [] []=some (zG s f,[],[],[(41,[.mk (.extern 59),.mk (.acquire (dE s))])])/\seen prog 41 (gV [.mk (.extern 59),.mk (.acquire (dE s))]).toArray=#[rZ (.acquire (dE s))]:=⟨xl,xl⟩
def aA2 s f C:cZ prog 20 (zG s f) [C] [] 0=some (C.finish (.tuple #[]),[],[],true,0):=xl
noncomputable def aMH:List Item:=((bu prog 37 (lF 0 (aa 1 0)) [W1 0 (w1f 0)] []).headD default).todo
noncomputable def WC(s:Nat)(c:Nat)(f:Nat->Value):Frame:={fn:=41,tmps:=tmC s c f,todo:=aMH,defers:=[],mode:=.run,kind:=.normal}
noncomputable def EI(s:Nat)(c:Nat)(f:Nat->Value)(i:Nat):Value:=((bu prog 37 (lF s (aa c 0)) [W1 s f] []).headD default).tmps.getD i undef
noncomputable def Es(s:Nat)(x y:Int):Frame:=aR prog 11 (Frame.enter prog 61 #[vK s,.int .u64 x,.int .u64 y] .normal) [] []
def R8 s f:cZ prog 37 (lF s (aa 1 0)) [W1 s f] [] 1=some (Frame.enter prog 61 #[vK s,.int .u64 (aa 1 0),.int .u64 (aa 1 1)] .normal,[WC s 1 (EI s 1 f)],[],true,1):=xl
def R7 s f:cZ prog 37 (lF s (aa 2 0)) [W1 s f] [] 1=some (Frame.enter prog 61 #[vK s,.int .u64 (aa 2 0),.int .u64 (aa 2 1)] .normal,[WC s 2 (EI s 2 f)],[],true,1):=xl
def R6 s f:cZ prog 37 (lF s (aa 3 0)) [W1 s f] [] 1=some (Frame.enter prog 61 #[vK s,.int .u64 (aa 3 0),.int .u64 (aa 3 1)] .normal,[WC s 3 (EI s 3 f)],[],true,1):=xl
def R5 s f:cZ prog 37 (lF s (aa 4 0)) [W1 s f] [] 1=some (Frame.enter prog 61 #[vK s,.int .u64 (aa 4 0),.int .u64 (aa 4 1)] .normal,[WC s 4 (EI s 4 f)],[],true,1):=xl
def R4 s f:cZ prog 37 (lF s (aa 5 0)) [W1 s f] [] 1=some (Frame.enter prog 61 #[vK s,.int .u64 (aa 5 0),.int .u64 (aa 5 1)] .normal,[WC s 5 (EI s 5 f)],[],true,1):=xl
def RZ s f:cZ prog 37 (lF s (aa 6 0)) [W1 s f] [] 1=some (Frame.enter prog 61 #[vK s,.int .u64 (aa 6 0),.int .u64 (aa 6 1)] .normal,[WC s 6 (EI s 6 f)],[],true,1):=xl
def RY s f:cZ prog 37 (lF s (aa 7 0)) [W1 s f] [] 1=some (Frame.enter prog 61 #[vK s,.int .u64 (aa 7 0),.int .u64 (aa 7 1)] .normal,[WC s 7 (EI s 7 f)],[],true,1):=xl
def RX s f:cZ prog 37 (lF s (aa 8 0)) [W1 s f] [] 1=some (Frame.enter prog 61 #[vK s,.int .u64 (aa 8 0),.int .u64 (aa 8 1)] .normal,[WC s 8 (EI s 8 f)],[],true,1):=xl
def aA4 s f c(h0:0<c)(h8:c<=8):cZ prog 37 (lF s (aa c 0)) [W1 s f] [] 1=some (Frame.enter prog 61 #[vK s,.int .u64 (aa c 0),.int .u64 (aa c 1)] .normal,[WC s c (EI s c f)],[],true,1):=by
 have h:c=1\/c=2\/c=3\/c=4\/c=5\/c=6\/c=7\/c=8:=by omega
 rcases h with rfl|rfl|rfl|rfl|rfl|rfl|rfl|rfl
 ·exact R8 s f
 ·exact R7 s f
 ·exact R6 s f
 ·exact R5 s f
 ·exact R4 s f
 ·exact RZ s f
 ·exact RY s f
 ·exact RX s f
def aA8 s x y:cZ prog 11 (Frame.enter prog 61 #[vK s,.int .u64 x,.int .u64 y] .normal) [] [] 1=some (Es s x y,[],[],true,1):=xl
noncomputable def wmf(s:Nat)(c:Nat)(x y:Int)(f:Nat->Value)(i:Nat):Value:=((bu prog 25 ((Es s x y).finish (.bool false)) [WC s c f] []).headD default).tmps.getD i undef
def aA7 s c x y f:cZ prog 25 ((Es s x y).finish (.bool false)) [WC s c f] [] 1=some (uF s,[W1 s (wmf s c x y f)],[],true,1):=xl
noncomputable def pF(s:Nat)(c:Nat)(x y:Int)(f:Nat->Value):Frame:=aR prog 20 ((Es s x y).finish (.bool true)) [WC s c f] an2
def aEO s c x y f:cZ prog 20 ((Es s x y).finish (.bool true)) [WC s c f] an2 1=some (pF s c x y f,[],[(41,[.sh s (some (79,8)),.sh s (some (79,8))])],true,1):=xl
noncomputable def aMG:List Item:=(aR prog 1 (pF 0 1 0 0 (w1f 0)) [] []).todo
noncomputable def PF(s:Nat)(c:Nat)(f:Nat->Value):Frame:={fn:=41,tmps:=tmC s c f,todo:=aMG,defers:=[],mode:=.run,kind:=.normal}
noncomputable def wpf(s:Nat)(c:Nat)(x y:Int)(f:Nat->Value)(i:Nat):Value:=(aR prog 1 (pF s c x y f) [] []).tmps.getD i undef
def aA6 s c x y f:Ky.walk prog 1 (pF s c x y f) [] []=some (PF s c (wpf s c x y f),[],[],[(41,[.mk (.extern 63),.mk (.write (iD s))])])/\seen prog 41 (gV [.mk (.extern 63),.mk (.write (iD s))]).toArray=#[rZ (.write (iD s))]:=⟨xl,xl⟩
noncomputable def aER:List Item:=(aR prog 23 (PF 0 1 (w1f 0)) [] []).todo
def tmQ(s:Nat)(f:Nat->Value):Array Value:=⟨(List.range 84).map λi=>if i=0 then vK s else if i=70 then .pointer (some (iD s))else if i=71 then .bool false else f i⟩
noncomputable def QF(s:Nat)(f:Nat->Value):Frame:={fn:=41,tmps:=tmQ s f,todo:=aER,defers:=[],mode:=.run,kind:=.normal}
noncomputable def wqf(s:Nat)(c:Nat)(f:Nat->Value)(i:Nat):Value:=(aR prog 23 (PF s c f) [] []).tmps.getD i undef
def Sk s f:cZ prog 23 (PF s 1 f) [] [] 1=some (QF s (wqf s 1 f),[],[],true,1):=xl
def Sj s f:cZ prog 23 (PF s 2 f) [] [] 1=some (QF s (wqf s 2 f),[],[],true,1):=xl
def Si s f:cZ prog 23 (PF s 3 f) [] [] 1=some (QF s (wqf s 3 f),[],[],true,1):=xl
def Sg s f:cZ prog 23 (PF s 4 f) [] [] 1=some (QF s (wqf s 4 f),[],[],true,1):=xl
def Sc s f:cZ prog 23 (PF s 5 f) [] [] 1=some (QF s (wqf s 5 f),[],[],true,1):=xl
def Sb s f:cZ prog 23 (PF s 6 f) [] [] 1=some (QF s (wqf s 6 f),[],[],true,1):=xl
def Sa s f:cZ prog 23 (PF s 7 f) [] [] 1=some (QF s (wqf s 7 f),[],[],true,1):=xl
def R9 s f:cZ prog 23 (PF s 8 f) [] [] 1=some (QF s (wqf s 8 f),[],[],true,1):=xl
def aA5 s f c(h0:0<c)(h8:c<=8):cZ prog 23 (PF s c f) [] [] 1=some (QF s (wqf s c f),[],[],true,1):=by
 have h:c=1\/c=2\/c=3\/c=4\/c=5\/c=6\/c=7\/c=8:=by omega
 rcases h with rfl|rfl|rfl|rfl|rfl|rfl|rfl|rfl
 ·exact Sk s f
 ·exact Sj s f
 ·exact Si s f
 ·exact Sg s f
 ·exact Sc s f
 ·exact Sb s f
 ·exact Sa s f
 ·exact R9 s f
noncomputable def rF(s:Nat)(f:Nat->Value):Frame:=aR prog 1 (QF s f) [] [.val (.int .u32 1)]
def aEG(s:Nat):List Io:=[.mk (.extern 65),.mk .disable,.ld .atomic (iD s) (.int .u32 1),.st .atomic (iD s) (.int .u32 0),.mk .enable]
def aIN s f:Ky.walk prog 1 (QF s f) [] [.val (.int .u32 1)]=some (rF s f,[],[],[(41,aEG s)])/\seen prog 41 (gV (aEG s)).toArray=za s:=⟨xl,xl⟩
noncomputable def aMI:List Item:=((bu prog 16 (rF 0 (w1f 0)) [] []).headD default).todo
noncomputable def W2(s:Nat)(f:Nat->Value):Frame:={fn:=41,tmps:=tmG s f,todo:=aMI,defers:=[],mode:=.run,kind:=.normal}
noncomputable def w2f(s:Nat)(f:Nat->Value)(i:Nat):Value:=((bu prog 16 (rF s f) [] []).headD default).tmps.getD i undef
def V4 s f:cZ prog 16 (rF s f) [] [] 1=some (uF s,[W2 s (w2f s f)],[],true,1):=xl
noncomputable def yF(s:Nat)(f:Nat->Value):Frame:=aR prog 16 (lF s (aa 0 0)) [W2 s f] an2
noncomputable def yG(s:Nat)(f:Nat->Value):Frame:=aR prog 1 (yF s f) [] []
def VZ s f:cZ prog 16 (lF s (aa 0 0)) [W2 s f] an2 1=some (yF s f,[],[(41,[.mk (.extern 58),.mk .enable]),(41,[.sh s (some (79,8)),.sh s (some (79,8))])],true,0):=xl
def aA9 s f:Ky.walk prog 1 (yF s f) [] []=some (yG s f,[],[],[(41,[.mk (.extern 59),.mk (.acquire (dE s))])]):=xl
def aA3 s f C:cZ prog 10 (yG s f) [C] [] 0=some (C.finish (.tuple #[]),[],[],true,0):=xl
def cnA(x:Int):List An:=[.QM (some (79,8)),.frz false,.val (.int .u64 x)]
def YE(s:Nat)(x:Int):List Io:=[.mk (.extern 99),.sh s (some (79,8)),.fz (dE s) false,.ld .atomic (dE s) (.int .u64 x)]
def aD9(s:Nat)(x y:Int):List Io:=[.mk (.extern 99),.sh s (some (79,8)),.fz (dE s) false,.ld .atomic (dE s) (.int .u64 x),.st .atomic (dE s) (.int .u64 y)]
def UA s x:seen prog 61 (gV (YE s x)).toArray=#[su (dE s)]:=xl
def Zq s x y:seen prog 61 (gV (aD9 s x y)).toArray=je s:=xl
def aCE s c(h0:0<c)(h8:c<=8):Ky.walk prog 1 (Es s (aa c 0) (aa c 1)) [] (cnA (aa c 0))=some ((Es s (aa c 0) (aa c 1)).finish (.bool true),[],[],[(61,aD9 s (aa c 0) (aa c 1))]):=by
 have h:c=1\/c=2\/c=3\/c=4\/c=5\/c=6\/c=7\/c=8:=by omega
 rcases h with rfl|rfl|rfl|rfl|rfl|rfl|rfl|rfl<;>(show _=_;kernel_rfl)
def YD s c d(h0:0<c)(h8:c<=8)(hd:d<=8)(tW:d≠c):Ky.walk prog 1 (Es s (aa c 0) (aa c 1)) [] (cnA (aa d 0))=some ((Es s (aa c 0) (aa c 1)).finish (.bool false),[],[],[(61,YE s (aa d 0))]):=by
 have h:c=1\/c=2\/c=3\/c=4\/c=5\/c=6\/c=7\/c=8:=by omega
 have k:d=0\/d=1\/d=2\/d=3\/d=4\/d=5\/d=6\/d=7\/d=8:=by omega
 rcases h with rfl|rfl|rfl|rfl|rfl|rfl|rfl|rfl<;>rcases k with rfl|rfl|rfl|rfl|rfl|rfl|rfl|rfl|rfl<;>first|exact absurd rfl tW|(show _=_;kernel_rfl)
noncomputable def Yd:Array Oper:=match aER with
 | .inRegion ops _::_=>ops
 |_=>#[]
noncomputable def qK:List Item:=match aER with
 |_::k=>k
 |_=>[]
noncomputable def qO:Oper:=match Yd[4]? with
 |some o=>o
 |none=>{dst:=none,op:=.nilCheck (.tmp 0),type:=0,pos:= "",after:=#[],guard:=none}
def aB2 s f:(QF s f).todo=.inRegion Yd [4]::qK/\Yd[4]? =some qO/\Region.wanted qO (yielded Yd (QF s f).tmps)=true/\qO.op=.call {callee:=.value (.func 65),args:=#[.tmp 70,.tmp 71],argTypes:=#[125,4]}:=⟨xl,xl,xl,xl⟩
def aJn:(f65.name== "runtime.NumGoroutine")=false/\f65.body.isNone=true/\Extern.findNext f65=none/\Extern.find f65=some Extern.Sync.semacquire:=⟨xl,xl,xl,xl⟩
def aFh s f:((#[.tmp 70,.tmp 71]:Array Operand).map (QF s f).eval)[0]? =some (.pointer (some (iD s))):=xl
def aJm s f:(QF s f).mode=.run/\(QF s f).roundOf=none:=⟨xl,xl⟩
def Yc s f cs main w(L:w.cell? (iD s)=some (.int .u32 0)):stepG prog main (G (QF s f) cs) w=.go {G (QF s f) cs with status:=.blocked} w #[]:=by obtain⟨V,J,h3,h4⟩:=aB2 s f;obtain⟨e1,e2,e3,e4⟩:=aJn;have oU:=aFh s f;have hm:=aJm s f;have hf:prog.funcs[65]? =some f65:=func65;generalize QF s f=fr at *;generalize f65=fn at *;generalize prog=P at *;generalize Yd=ops at *;generalize qK=kk at *;generalize qO=o at *;exact KS hm.1 hm.2 V J h3 h4 hf e1 e2 e3 e4 oU main L
section
variable {P:Program}{Post:Value->World->Prop}{K:Cy}
def WT.sum{n fr csl an d fr' csl' l d' w cs}(aH:K.Ok)(hs:K.Z.bP K.s)(h:cZ P n fr csl an d=some (fr',csl',l,true,d'))(hl:lW K.s l)(Q:∀U,aQ K.Z w U->WT P Post K d' (G fr' (csl'++cs)) U):WT P Post K d (G fr (csl++cs)) w:=by unfold cZ at h;obtain⟨⟨x1,x2,x3,x4⟩,E,e⟩:=aY.1 h;simp only[dp]at e;obtain⟨rfl,rfl,e3,e4,rfl⟩:=e;exact WT.slip aH hs n E (jP (e3▸hl)) e4 Q
def Ey.sum{n fr csl an d fr' csl' l d' w cs}(aH:K.Ok)(hs:K.Z.bP K.s)(h:cZ P n fr csl an d=some (fr',csl',l,true,d'))(hl:lW K.s l)(Q:∀U,aQ K.Z w U->Ey P Post K d' (G fr' (csl'++cs)) U):Ey P Post K d (G fr (csl++cs)) w:=by unfold cZ at h;obtain⟨⟨x1,x2,x3,x4⟩,E,e⟩:=aY.1 h;simp only[dp]at e;obtain⟨rfl,rfl,e3,e4,rfl⟩:=e;exact Ey.slip aH hs n E (jP (e3▸hl)) e4 Q
variable {C:Frame}{cs:List Frame}{w:World}
def Cy.Ok.retired(aH:K.Ok)(h0:K.h=0)(hmn:K.m=K.n)(hσ:∀i,0<i->i<K.n->K.σ i=none){R}(cl:∀ρ ρ' μ μ',R ρ μ->aj ρ ρ'->μ'<=μ->(μ'=μ->ρ'=ρ)->R ρ' μ'):({K with b:=K.n,R:=R}:Cy).Ok:=by
 refine⟨λi x hi E Lz hb=>?_,aH.wk,aH.mn,aH.pos,aH.lt,aI _,cl,.inl h0,λh=>?_⟩
 ·rcases gw i with e|e
  ·exact e
  ·rw[hσ i e hi]at E;cases E
 ·have:K.n<K.m:=h;omega
def H7(aH:K.Ok)(bY:K.Z.Wf)(h0:K.h=0)(hs:K.Z.bP K.s)(hmn:K.m=K.n)(hσ:∀i,0<i->i<K.n->K.σ i=none)(Gk:0<K.b)(Q:∀U,aQ K.Z w U->WT prog Post {K with b:=K.n,R:=λ_ _=>True} 0 (G (C.finish (.tuple #[])) cs) U):WT prog Post K 0 (G (BR K.s) (C::cs)) w:=by
 have hT:∀(ρ ρ':Nat->aU) (μ μ':Nat),True->aj ρ ρ'->μ'<=μ->(μ'=μ->ρ'=ρ)->True:=λ_ _ _ _ _ _ _ _=>trivial;have LL:∀(fr:Frame) (n:Nat),cZ prog n fr [C] [] 0=some (C.finish (.tuple #[]),[],[],true,0)->∀U,aQ K.Z w U->WT prog Post {K with b:=K.n,R:=λ_ _=>True} 0 (G fr (C::cs)) U:=λfr n e U ha=>
  WT.sum (K:={K with b:=K.n,R:=λ_ _=>True}) (cs:=cs) (aH.retired h0 hmn hσ hT) hs e trivial λw'' yP=>Q w'' (ha.trans yP)
 have loop:∀μ f U,aQ K.Z w U->WT prog Post {K with R:=λ_ x=>x<μ} 1 (G (uF K.s) (W1 K.s f::C::cs)) U:=by
  intro μ
  induction μ using Nat.strongRecOn with
  |ind μ ih=>
   intro f U ha;have aOZ:=aH.Kb (R:=λ_ x=>x<μ) aAC;refine WT.load (K:={K with R:=λ_ x=>x<μ}) aOZ h0 hs rfl (λc=>G (lF K.s (aa c 0)) (W1 K.s f::C::cs)) (λc w2 _ L=>?_) (λw2 zv=>?_) (λc μ' w2 ρ h0c h8 zv tP=>?_)
   ·obtain⟨e1,e2⟩:=Qv K.s (aa c 0) (W1 K.s f);have:=kH e1 (K.h==0) (C::cs) w2 w2 ⟨L,rfl⟩;rw[e2]at this;exact this
   ·have Pt:=aH.Kb (R:=R0 K.b K.m) aEH;refine WT.sum (K:={K with R:=R0 K.b K.m}) (csl:=[W1 K.s f]) (cs:=C::cs) Pt hs (aA1 K.s f) ⟨cq,⟨rfl,rfl,rfl,rfl,cq⟩,cq⟩ λw3 ha3=>?_;refine WT.XT (K:={K with R:=R0 K.b K.m}) Pt h0 hs hmn hσ (λ_ _ h=>h) rfl (a':=G (zG K.s f) (C::cs)) (λw4 _=>?_) (λw4 ha4=>LL _ 20 (aA2 K.s f C) w4 (((ha.trans zv).trans ha3).trans ha4));obtain⟨e1,e2⟩:=V5 K.s f;have:=kH e1 (K.h==0) (C::cs) w4 w4 rfl;rw[e2]at this;exact this
   ·have lC:μ'<μ:=tP;have Ps:=aH.Kb (R:=Rc K.b K.m c μ') aLz;refine WT.sum (K:={K with R:=Rc K.b K.m c μ'}) (csl:=[W1 K.s f]) (cs:=C::cs) Ps hs (aA4 K.s f c h0c h8) trivial λw3 ha3=>?_;refine WT.sum (K:={K with R:=Rc K.b K.m c μ'}) (csl:=[]) (cs:=WC K.s c (EI K.s c f)::C::cs) Ps hs (aA8 K.s (aa c 0) (aa c 1)) trivial λw4 ha4=>?_;have hA4:=(((ha.trans zv).trans ha3).trans ha4)
    refine WT.aQn (K:={K with R:=Rc K.b K.m c μ'}) (c:=c) (μ:=μ') Ps h0 hs h0c (λ_ _ h=>h) rfl (aS:=G ((Es K.s (aa c 0) (aa c 1)).finish (.bool true)) (WC K.s c (EI K.s c f)::C::cs)) (aF:=G ((Es K.s (aa c 0) (aa c 1)).finish (.bool false)) (WC K.s c (EI K.s c f)::C::cs)) (λw5 fT L hf=>?_) (λc' w5 ZI tW fT hf L=>?_) (λw5 ha5=>?_) (λw5 ha5=>?_)
    ·have:=kH (aCE K.s c h0c h8) (K.h==0) (WC K.s c (EI K.s c f)::C::cs) w5 (w5.setCell (dE K.s) (.int .u64 (aa c 1))) ⟨fT,hf,L,⟨_,L⟩,hf,rfl⟩;rw[Zq]at this;exact this
    ·have:=kH (YD K.s c c' h0c h8 ZI tW) (K.h==0) (WC K.s c (EI K.s c f)::C::cs) w5 w5 ⟨fT,hf,L,rfl⟩;rw[UA]at this;exact this
    ·have hA5:=hA4.trans ha5;refine Ey.sum (K:={K with R:=Rc K.b K.m c μ'}) (csl:=[WC K.s c (EI K.s c f)]) (cs:=C::cs) Ps hs (aEO K.s c (aa c 0) (aa c 1) (EI K.s c f)) ⟨⟨rfl,rfl,rfl,rfl,cq⟩,cq⟩ λw6 ha6=>?_;obtain⟨e1,e2⟩:=aA6 K.s c (aa c 0) (aa c 1) (EI K.s c f);refine Ey.say (K:={K with R:=Rc K.b K.m c μ'}) Ps hs bY rfl (es:=#[rZ (.write (iD K.s))]) (d':=1) (a':=G (PF K.s c (wpf K.s c (aa c 0) (aa c 1) (EI K.s c f))) (C::cs)) (λe he=>?_) rfl (λw7 _=>?_) (λw7 ha7=>?_)
     ·simp at he;subst he;exact .inr (.inr (.inr (.inr (.inr (.inr ⟨h0,.inr rfl⟩)))))
     ·have:=kH e1 (K.h==0) (C::cs) w7 w7 rfl;rw[e2]at this;exact this
     ·refine Ey.sum (K:={K with R:=Rc K.b K.m c μ'}) (csl:=[]) (cs:=C::cs) Ps hs (aA5 K.s _ c h0c h8) trivial λw8 ha8=>?_;generalize wqf K.s c (wpf K.s c (aa c 0) (aa c 1) (EI K.s c f))=g;obtain⟨u1,u2⟩:=aIN K.s g;have Pt:=aH.Kb (R:=R0 K.b K.m) aEH;refine Ey.sema (K:={K with R:=Rc K.b K.m c μ'}) Ps h0 hs hmn hσ Gk rfl rfl (aB:=G (rF K.s g) (C::cs)) (es:=za K.s) (λw9 L=>Yc K.s g (C::cs) _ w9 L) (λw9 L hf=>?_) (λe he=>?_) (by simp[deafBehind,za,rZ,su,Bt]) (λw9 ha9=>?_)
      ·have:=kH u1 (K.h==0) (C::cs) w9 (w9.setCell (iD K.s) (.int .u32 0)) ⟨L,⟨_,L⟩,hf,rfl⟩;rw[u2]at this;exact this
      ·simp[za]at he;rcases he with rfl|rfl|rfl|rfl<;>simp[rZ,Event.mute]
      ·have hA9:=(((hA5.trans ha6).trans ha7).trans ha8).trans ha9;refine WT.sum (K:={K with R:=R0 K.b K.m}) (csl:=[]) (cs:=C::cs) Pt hs (V4 K.s g) trivial λw10 aPL=>?_;refine WT.aJH (K:={K with R:=R0 K.b K.m}) Pt h0 hs (λ_ _ h=>h) rfl (a':=G (lF K.s (aa 0 0)) (W2 K.s (w2f K.s g)::C::cs)) (λw11 L=>?_) (λw11 aPK=>?_)
       ·obtain⟨e1,e2⟩:=Qv K.s (aa 0 0) (W2 K.s (w2f K.s g));have:=kH e1 (K.h==0) (C::cs) w11 w11 ⟨L,rfl⟩;rw[e2]at this;exact this
       ·refine WT.sum (K:={K with R:=R0 K.b K.m}) (csl:=[W2 K.s (w2f K.s g)]) (cs:=C::cs) Pt hs (VZ K.s (w2f K.s g)) ⟨cq,⟨rfl,rfl,rfl,rfl,cq⟩,cq⟩ λw12 aPJ=>?_;refine WT.XT (K:={K with R:=R0 K.b K.m}) Pt h0 hs hmn hσ (λ_ _ h=>h) rfl (a':=G (yG K.s (w2f K.s g)) (C::cs)) (λw13 _=>?_) (λw13 aPI=>LL _ 10 (aA3 K.s (w2f K.s g) C) w13 ((((hA9.trans aPL).trans aPK).trans aPJ).trans aPI));have:=kH (aA9 K.s (w2f K.s g)) (K.h==0) (C::cs) w13 w13 rfl;rw[(V5 K.s (w1f K.s)).2]at this;exact this
    ·have aOY:=aH.Kb (R:=λ_ x=>x<μ') aAC;exact WT.sum (K:={K with R:=λ_ x=>x<μ'}) (csl:=[WC K.s c (EI K.s c f)]) (cs:=C::cs) aOY hs (aA7 K.s c (aa c 0) (aa c 1) (EI K.s c f)) trivial λw6 ha6=>ih μ' lC _ w6 ((hA4.trans ha5).trans ha6)
 refine WT.sum (csl:=[]) (cs:=C::cs) aH hs (V3 K.s) ⟨cq,cq⟩ λU ha=>?_;exact WT.meas λμ=>loop μ _ U ha
end
end Co
