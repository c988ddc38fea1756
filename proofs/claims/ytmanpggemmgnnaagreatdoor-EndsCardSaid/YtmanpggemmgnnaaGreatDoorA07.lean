/- Ends: a part. Conditions: none. -/
import Derived.Conc.EventLaws
import Derived.Test.YtmanpggemmgnnaaGreatDoorA05
set_option linter.all false
namespace Go.Proofs.YtmanpggemmgnnaaGreatDoor
noncomputable section
open Go Go.Conc
namespace Ka
section
variable {P:Program}{fs:Array Func}{Sp:FuncId->Prop}{C:Cut}{c0:Frame}{cs:List Frame}{main:Bool}{Stop:Frame->World->Prop}
def Kg{wv wa} τ d:Vw C (re wv τ d) wa↔Vw C wv wa:=⟨λh=>⟨h.size,h.os,h.same,h.cut,h.chan,h.plain,h.loops⟩,λh=>⟨h.size,h.os,h.same,h.cut,h.chan,h.plain,h.loops⟩⟩
def QL{fr csl fr' csl' wv d}(e:∀w,stepG P main (G fr (csl++cs)) w=.go (G fr' (csl'++cs)) w)(h:kJ P C main cs Stop fr' csl' wv d):kJ P C main cs Stop fr csl wv d:=
 kJ.of P C main cs Stop λwa X=>⟨fr',csl',wv,wa,#[],e wa,⟨X,Hid.refl C wa,by simp⟩,h⟩
def XG{l St fr csl wv d}(h:kJ P C main (l++cs) St fr csl wv d)(Q:∀fr' wv',St fr' wv'->kJ P C main cs Stop fr' l wv' 0):kJ P C main cs Stop fr (csl++l) wv d:=by
 induction h with
 |stop h=>exact Q _ _ h
 |step n h ih ih'=>refine .step (λwa X=>((n wa X).1,(n wa X).2.1++l,(n wa X).2.2.1,(n wa X).2.2.2)) (λwa X=>?_) λwa X=>ih' wa X;obtain⟨bO,es,e1,e2⟩:=h wa X;exact⟨bO,es,by simpa only[fN]using e1,e2⟩
def Gu(tmps:Array Value){f:ResultVar->Sem Value}(hf:∀t,f (.tmp t)=pure (tmps.getD t undef)):∀(l:List ResultVar),(∀r∈l,∃t,r=.tmp t)->∃vs:List Value,l.mapM f=pure vs
 |[],_=>⟨[],rfl⟩
 |r::l,h=>by
  obtain⟨t,rfl⟩:=h r bj;obtain⟨vs,e⟩:=Gu tmps hf l λr Y=>h r (bc _ Y);refine⟨tmps.getD t undef::vs,?_⟩;rw[List.mapM_cons,e,hf];rfl
def O4{α}(tmps:Array Value){f:ResultVar->Sem Value}(hf:∀t,f (.tmp t)=pure (tmps.getD t undef))(l:Array ResultVar)(h:∀r∈l,∃t,r=.tmp t)(k:Array Value->α):∃v,(l.mapM f >>= λvs=>pure (k vs):Sem α)=pure v:=by obtain⟨vs,e⟩:=Gu tmps hf l.toList λr Y=>h r (n9.1 Y);rw[oY,e];exact⟨_,rfl⟩
def xO{fn}(h:∀r∈fn.results,∃t,r=.tmp t)tmps:∃v,results fn tmps=pure v:=by unfold results;exact O4 tmps (λt=>rfl) fn.results h _
def TG{f fn c args wv csl fr}(F:Fits P fs Sp C)(B:Base c0)(S:Qk P fs Sp C)(gz:fs[f]? =P.funcs[f]?)(hf:fs[f]? =some fn)(hb:fn.body=some c)(vd:∀r∈fn.results,∃t,r=.tmp t)
 (Post:Value->World->Prop) (hP:∀v w τ d,Post v (re w τ d)->Post v w)
 (ve:∀τ d,Calls (Pf P fs) f args (re wv τ d) λe U=>∃v,e=.returned v/\Post v U)
 (Ze:∀v wv',Post v wv'->kJ P C main cs Stop (fr.finish v) csl wv' 0):kJ P C main cs Stop (Frame.enter P f args .normal) (fr::csl) wv 0:=by
 have J2:P.funcs[f]? =some fn:=gz▸hf;let St:Frame->World->Prop:=λfr' U=>fr'.fn=f/\fr'.mode=.returning/\fr'.defers=[]/\fr'.kind=.normal/\∃v,results fn fr'.tmps=pure v/\Post v U;have YH:kJ P C main ((fr::csl)++cs) St (Frame.enter P f args .normal) [] wv 0:=by
  refine nW F B S (yx F gz hf hb args (.inl rfl)) (λτ d=>?_) (λfr' w τ d h=>?_)
  ·obtain⟨e,U,fr',⟨v,rfl,DY⟩,L,AW,hm,hd,A,Vh,DO,Y⟩:=ve τ d [c0];obtain⟨N,hN⟩:Steps (Pf P fs) (lone (Frame.enter (Pf P fs) f args .normal) [c0] (re wv τ d)) (lone fr' [c0] U):=L;refine⟨N,fr',U,⟨AW,hm,hd,A,?_⟩,by rw[<-yz gz];exact hN⟩;have:(Pf P fs).funcs[fr'.fn]? =some fn:=by rw[AW];exact hf
   rw[this]at DO;obtain rfl:=ay DO;obtain⟨u,hu⟩:=xO vd fr'.tmps;rw[hu]at Y;obtain rfl:u=v:=by have:Result.ok u U=Result.ok v U:=Y;exact(Result.ok.inj this).1
   exact⟨u,hu,DY⟩
  ·obtain⟨V,J,h3,h4,v,h5,h6⟩:=h;exact⟨V,J,h3,h4,v,h5,hP _ _ _ _ h6⟩
 refine XG (csl:=[]) YH λfr' wv' ⟨V,J,h3,h4,v,h5,h6⟩=>?_;refine QL (fr':=fr.finish v) (csl':=csl) (λw=>?_) (Ze v wv' h6);have e:stepG P main (G fr' (fr::csl++cs)) w=unwind P main fr' (fr::csl++cs) none w:=by unfold stepG G;simp only[J]
 rw[e];unfold unwind;simp only[h3,J,V,J2,h5,cf];simp only[doReturn,h4];rfl
end
end Ka
section
open Ky
namespace Ka
section
variable {P:Program}{C:Cut}{cs:List Frame}{main:Bool}{Stop:Frame->World->Prop}
def I9(C:Cut):Mark->Prop
 | .extern _| .noRoom| .disable| .enable=>True
 | .acquire a| .release a| .releaseMerge a=>C.ch a.block=false/\∀n,C.hd a.block=some n->a.off<n
 |_=>False
def nD(C:Cut):List Io->World->World->Prop
 |[],w,U=>U=w
 | .ld _ a v::l,w,U=>w.cell? a=some v/\nD C l w U
 | .st _ a v::l,w,U=>(∃x,w.cell? a=some x)/\w.frozen? a=false/\nD C l (w.setCell a v) U
 | .mk m::l,w,U=>I9 C m/\nD C l w U
 | .sh r x::l,w,U=>(∀wa,Vw C w wa->wa.shape? r=x)/\nD C l w U
 | .fz a b::l,w,U=>(∀wa,Vw C w wa->wa.frozen? a=b)/\nD C l w U
 | .nw o r::l,w,U=>r=w.heap.size/\iK C o/\nD C l {w with heap:=w.heap.push o} U
 |_::_,_,_=>False
def aEX{wv wa o}(P:Program)(X:Vw C wv wa)(ho:iK C o):Vw C {wv with heap:=wv.heap.push o} {wa with heap:=wa.heap.push o}/\Hid C wa {wa with heap:=wa.heap.push o}:=by
 obtain⟨k,τ,r,V,J⟩:=Q9 (P:=P) (hn:=P) ho wv wa X;have h3:=V τ 0 λi q _=>by rw[j0]
 cases r with
 |halt x w=>cases h3
 |ok a w=>
  obtain⟨_,bO,es,e1,e2,e3,_⟩:=J;have e4:=e1 #[];simp only[Sem.runT,dp,Result.ok.injEq]at e4;obtain⟨⟨_,rfl⟩,_⟩:=e4;have e5:re {wv with heap:=wv.heap.push o} τ 0=re w τ (0+k):=by have:Sem.run P (.new o .pure) (re wv τ 0)=.ok (re wv τ 0).heap.size {(re wv τ 0)with heap:=(re wv τ 0).heap.push o}:=rfl;rw[this]at h3;simp only[JW,Result.ok.injEq]at h3;exact h3.2
  refine⟨?_,e3⟩;have:=(Kg (C:=C) (wa:={wa with heap:=wa.heap.push o}) τ (0+k)).2 e2;rw[<-e5]at this;exact(Kg τ 0).1 this
def NW io:∀{wv wv' wa},nD C io wv wv'->Vw C wv wa->∃bO,jg io wa bO/\Vw C wv' bO/\Hid C wa bO/\∀e∈gV io,oQ C e\/e.mute=true:=by
 induction io with
 |nil=>intro wv wv' wa h X;cases h;exact⟨wa,rfl,X,Hid.refl C wa,λe he=>by cases he⟩
 |cons i l ih=>
  intro wv wv' wa h X;cases i with
  |ld m a v=>
   obtain⟨L,h⟩:=h;obtain⟨bO,V,J,h3,h4⟩:=ih h X;obtain⟨e1,e2,e3⟩:=X.cell L;refine⟨bO,⟨e1,V⟩,J,h3,λe he=>?_⟩;rcases bm.1 he with rfl|he
   ·exact .inl ⟨e2,λn Q=>⟨(e3 n Q).1,(e3 n Q).2,λx=>by cases x⟩⟩
   ·exact h4 e he
  |st m a v=>
   obtain⟨⟨x,E⟩,hf,h⟩:=h;obtain⟨e1,e2,e3⟩:=X.cell E;obtain⟨f1,f2⟩:=uB X E hf;obtain⟨bO,V,J,h3,h4⟩:=ih h (X.setCell E);refine⟨bO,⟨⟨x,e1⟩,f1,V⟩,J,(Hid.setCell X E f2).trans h3,λe he=>?_⟩;rcases bm.1 he with rfl|he
   ·exact .inl ⟨e2,λn Q=>⟨(e3 n Q).1,(e3 n Q).2,λ_=>f2 n Q⟩⟩
   ·exact h4 e he
  |mk m=>
   obtain⟨hm,h⟩:=h;obtain⟨bO,V,J,h3,h4⟩:=ih h X;refine⟨bO,V,J,h3,λe he=>?_⟩;rcases bm.1 he with rfl|he
   ·cases m<;>first|exact .inr rfl|exact .inl trivial|exact .inl hm|exact hm.elim
   ·exact h4 e he
  |sh r x=>obtain⟨E,h⟩:=h;obtain⟨bO,V,J,h3,h4⟩:=ih h X;exact⟨bO,⟨E wa X,V⟩,J,h3,h4⟩
  |fz a b=>obtain⟨E,h⟩:=h;obtain⟨bO,V,J,h3,h4⟩:=ih h X;exact⟨bO,⟨E wa X,V⟩,J,h3,h4⟩
  |nw o r=>obtain⟨Y,ho,h⟩:=h;obtain⟨e1,e2⟩:=aEX (default:Program) X ho;obtain⟨bO,V,J,h3,h4⟩:=ih h e1;exact⟨bO,⟨Y.trans X.size,V⟩,J,e2.trans h3,h4⟩
  |_=>exact h.elim
def nC(P:Program)(C:Cut):List (FuncId×List Io)->World->World->Nat->Nat->Prop
 |[],w,U,d,d'=>U=w/\d'=d
 |(fn,io)::l,w,U,d,d'=>∃w1,nD C io w w1/\nC P C l w1 U (deafBehind d (seen P fn (gV io).toArray)) d'
def KP:∀(n:Nat) {fr fr':Frame} {csl csl':List Frame} {as xC:List An} {jX:List (FuncId×List Io)} {wv wv':World} {d d':Nat},walk P n fr csl as=some (fr',csl',xC,jX)->nC P C jX wv wv' d d'->
 kJ P C main cs Stop fr' csl' wv' d'->kJ P C main cs Stop fr csl wv d
 |0,fr,fr',csl,csl',as,xC,jX,wv,wv',d,d',h,hb,hs=>by
  simp only[walk,cI,dp]at h;obtain⟨rfl,rfl,rfl,rfl⟩:=h;obtain⟨rfl,rfl⟩:=hb;exact hs
 |n+1,fr,fr',csl,csl',as,xC,jX,wv,wv',d,d',h,hb,hs=>by
  simp only[walk]at h;split at h
  ·cases h
  ·rename_i Bj cs1 VV io lT;split at h
   ·cases h
   ·rename_i fr2 cs2 as2 Mf hw;cases h;obtain⟨w1,xd,wj⟩:=hb;refine kJ.ofS P C main cs Stop λwa X=>?_;obtain⟨bO,V,J,h3,h4⟩:=NW io xd X;refine⟨Bj,cs1,w1,bO,_,_,gK lT main cs wa bO V,⟨J,h3,λe he=>h4 e (by simpa using mem_seen he),rfl⟩,KP n hw wj hs⟩
end
section
variable {P:Program}{main:Bool}{R:World->World->Prop}{LV:World->World->Array Event->Prop}{Stop:Goroutine->World->Prop}
def G9(trans:∀a b c,R a b->R b c->R a c):∀(n m:Nat) {fr fr':Frame} {csl csl' cs:List Frame} {as xC:List An} {jX:List (FuncId×List Io)} {w:World},walk P n fr csl as=some (fr',csl',xC,jX)->
 (∀x∈jX,∀w₁,R w w₁->jg x.2 w₁ w₁/\LV w₁ w₁ (seen P x.1 (gV x.2).toArray))->Goes P main R LV Stop m (G fr' (csl'++cs)) w->Goes P main R LV Stop (m+n) (G fr (csl++cs)) w
 |0,m,fr,fr',csl,csl',cs,as,xC,jX,w,h,hb,hs=>by
  simp only[walk,cI,dp]at h;obtain⟨rfl,rfl,rfl,rfl⟩:=h;exact hs
 |n+1,m,fr,fr',csl,csl',cs,as,xC,jX,w,h,hb,hs=>by
  simp only[walk]at h;split at h
  ·cases h
  ·rename_i Bj cs1 VV io lT;split at h
   ·cases h
   ·rename_i fr2 cs2 as2 Mf hw;cases h;refine Goes.step (n:=m+n) rfl λw₁ Y=>?_;obtain⟨b1,b2⟩:=hb _ bj w₁ Y;rw[gK lT main cs w₁ w₁ b1,goes_go];refine⟨b2,G9 trans n m hw (λx E w₂ B8=>hb x (bc _ E) w₂ (trans _ _ _ Y B8)) (hs.rely trans Y)⟩
end
end Ka
end
