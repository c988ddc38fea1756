/- Ends: a part. Conditions: none. -/
import Derived.Conc.Beside
import Derived.Test.YtmanpggemmgnnaaGreatDoorA04
set_option linter.all false
namespace Go.Proofs.YtmanpggemmgnnaaGreatDoor
noncomputable section
open Go Go.Conc
namespace Ka
def Hy(C:Cut)(d d':Nat)(wv wa bO:World)(es:Array Event):Prop:=Vw C wv bO/\Hid C wa bO/\(∀e∈es,oQ C e\/e.mute=true)/\deafBehind d es=d'
def Real.toS{C wv wa bO es}(h:Real C wv wa bO es)d:Hy C d d wv wa bO es:=
 ⟨h.1,h.2.1,λe he=>.inl (h.2.2 e he),deafBehind_still (λe he=>by
   have:=h.2.2 e he;constructor<;>(intro x;unfold oQ at this;rw[x]at this;exact this)) d⟩
section
variable (P:Program)(C:Cut)(main:Bool)(cs:List Frame)(Stop:Frame->World->Prop)
inductive kJ:Frame->List Frame->World->Nat->Prop
 |stop{fr}  {wv} (h:Stop fr wv):kJ fr [] wv 0
 |step{fr}  {csl} {wv} {d} (n:∀wa,Vw C wv wa->Frame×List Frame×World×Nat)
  (h:∀wa X,∃bO es,stepG P main (G fr (csl++cs)) wa=.go (G (n wa X).1 ((n wa X).2.1++cs)) bO es/\Hy C d (n wa X).2.2.2 (n wa X).2.2.1 wa bO es)
  (ih:∀wa X,kJ (n wa X).1 (n wa X).2.1 (n wa X).2.2.1 (n wa X).2.2.2):kJ fr csl wv d
def kJ.ofS{wv fr csl d}(h:∀wa,Vw C wv wa->∃fr' csl' wv' bO es d',stepG P main (G fr (csl++cs)) wa=.go (G fr' (csl'++cs)) bO es/\Hy C d d' wv' wa bO es/\kJ P C main cs Stop fr' csl' wv' d'):kJ P C main cs Stop fr csl wv d:=by
 have h':∀wa,Vw C wv wa->∃x:Frame×List Frame×World×Nat,(∃bO es,stepG P main (G fr (csl++cs)) wa=.go (G x.1 (x.2.1++cs)) bO es/\Hy C d x.2.2.2 x.2.2.1 wa bO es)/\kJ P C main cs Stop x.1 x.2.1 x.2.2.1 x.2.2.2:=λwa X=>by
  obtain⟨fr',csl',wv',bO,es,d',e1,e2,e3⟩:=h wa X;exact⟨(fr',csl',wv',d'),⟨bO,es,e1,e2⟩,e3⟩
 exact .step (λwa X=>Classical.choose (h' wa X)) (λwa X=>(ez (h' wa X)).1) λwa X=>(ez (h' wa X)).2
def kJ.of{wv fr csl d}(h:∀wa,Vw C wv wa->∃fr' csl' wv' bO es,stepG P main (G fr (csl++cs)) wa=.go (G fr' (csl'++cs)) bO es/\Real C wv' wa bO es/\kJ P C main cs Stop fr' csl' wv' d):kJ P C main cs Stop fr csl wv d:=
 kJ.ofS P C main cs Stop λwa X=>let ⟨fr',csl',wv',bO,es,e1,e2,e3⟩:=h wa X;⟨fr',csl',wv',bO,es,d,e1,e2.toS d,e3⟩
end
def oN(k:CallKind)(fr:Frame)(v:Value):Frame:=match k with
 | .normal=>fr.finish v
 |_=>fr
section
variable (P:Program)(fs:Array Func)(Sp:FuncId->Prop)(C:Cut)
def Ql(f:FuncId)(args:Array Value)(wv:World)(v:Value)(wv':World):Prop:=
 (∃n,∀k fr l τ d,(k=.normal\/k=.deferred)->jV fr.mode->l≠[]->
   runN (Pf P fs) (n+1) (lone (Frame.enter (Pf P fs) f args k) (fr::l) (re wv τ d))=.next (lone (oN k fr v) l (re wv' τ d))/\
   ∀i,i<=n->∃fr' l' U,runN (Pf P fs) i (lone (Frame.enter (Pf P fs) f args k) (fr::l) (re wv τ d))=.next (lone fr' l' U)/\2<=l'.length)/\
 ∀main cs Stop k fr csl,(k=.normal\/k=.deferred)->fH P fs fr->kJ P C main cs Stop (oN k fr v) csl wv' 0->kJ P C main cs Stop (Frame.enter P f args k) (fr::csl) wv 0
def EA(f:FuncId)(args:Array Value)(wv:World):Prop:=
 ∃n,∀k fr l τ d,(k=.normal\/k=.deferred)->l≠[]->
  (∃o w,runN (Pf P fs) (n+1) (lone (Frame.enter (Pf P fs) f args k) (fr::l) (re wv τ d))=.ended o w)/\
  ∀i,i<=n->∃fr' l' U,runN (Pf P fs) i (lone (Frame.enter (Pf P fs) f args k) (fr::l) (re wv τ d))=.next (lone fr' l' U)/\2<=l'.length
def Qk:Prop:=∀f,Sp f->∀args wv wa,Vw C wv wa->(∃v wv',Ql P fs C f args wv v wv')\/EA P fs f args wv
end
section
variable {P:Program}{fs:Array Func}{Sp:FuncId->Prop}{C:Cut}{c0:Frame}{cs:List Frame}{main:Bool}{Stop:Frame->World->Prop}
def og{p fr l w fr' l' U es}(h:stepG p true (G fr l) w=.go (G fr' l') U es):step p (lone fr l w)=.next (lone fr' l' U):=
 step_lone_go (by show(stepG p true (G fr l) w).bare=_;rw[h];rfl)
def mV{p fr l w o U es}(h:stepG p true (G fr l) w=.ended o U es):step p (lone fr l w)=.ended o U:=
 step_lone_ended (by show(stepG p true (G fr l) w).bare=_;rw[h];rfl)
def YK{fr}(B:Base c0)p(h:fr=c0\/∃ch,fr={c0 with mode:=.panicking ch})w:∃o U,step p (lone fr [] w)=.ended o U:=by
 rcases h with rfl|⟨ch,rfl⟩
 ·exact⟨_,_,mV (es:=#[]) (by unfold stepG G;simp only[B.mode];unfold stepG.exec;simp only[B.todo];rfl)⟩
 ·exact⟨_,_,mV (es:=#[]) (by unfold stepG G;simp only[];unfold unwind;simp only[B.defers];unfold callDeferred;rfl)⟩
structure Node P fs C main cs Stop where
 fr:Frame
 csl:List Frame
 wv:World
 ok:fH P fs fr
 rq:∀x∈csl,fH P fs x
 bad:¬kJ P C main cs Stop fr csl wv 0
def Node.at(c0:Frame)(n:Node P fs C main cs Stop)(τ:Nat->Question->Nat)(d:Nat):Machine:=lone n.fr (n.csl++[c0]) (re n.wv τ d)
def Gr(p:Program)(m:Machine)(i:Nat):Prop:=∃fr' l' U,runN p i m=.next (lone fr' l' U)/\l'.length≠1
def Uu(F:Fits P fs Sp C)(B:Base c0)(S:Qk P fs Sp C)(n:Node P fs C main cs Stop):
 ∃(k:Nat) (τ:Nat->Question->Nat) (m:Nat) (x:Option (Node P fs C main cs Stop)),∀τ' d,(∀i q,i<k->τ' (d+i) q=τ i q)->
  (∀i,0<i->i<=m->Gr (Pf P fs) (n.at c0 τ' d) i)/\
  match x with
  |some n'=>runN (Pf P fs) (m+1) (n.at c0 τ' d)=.next (n'.at c0 τ' (d+k))
  |none=>∃o w,runN (Pf P fs) (m+1) (n.at c0 τ' d)=.ended o w:=by
 classical
 have vy:∃wa,∃_:Vw C n.wv wa,∀fr' csl' wv' bO es,stepG P main (G n.fr (n.csl++cs)) wa=.go (G fr' (csl'++cs)) bO es->Real C wv' wa bO es->¬kJ P C main cs Stop fr' csl' wv' 0:=by refine fS λhh=>n.bad (kJ.of P C main cs Stop λwa X=>fS λE=>hh ⟨wa,X,λfr' csl' wv' bO es V J h3=>E ⟨fr',csl',wv',bO,es,V,J,h3⟩⟩)
 obtain⟨wa,X,vy⟩:=vy;obtain⟨k,τ,out,V,J⟩:=aBG (main:=main) (cs:=cs) F B n.ok n.rq n.wv wa X;cases out with
 |dead=>refine⟨k,τ,0,none,λτ' d ht=>⟨λi h0 V=>by omega,?_⟩⟩;obtain⟨o,w,es,e⟩:=V τ' d ht;exact⟨o,w,by simp only[runN,Node.at,mV e]⟩
 |low=>
  refine⟨k,τ,1,none,λτ' d ht=>?_⟩;obtain⟨g,w,es,e,fr',rfl,u6⟩:=V τ' d ht;have e1:=og e;obtain⟨o,U,e2⟩:=YK B (Pf P fs) u6 w;refine⟨λi h0 hi=>⟨fr',[],w,?_,by simp⟩,o,U,by simp only[runN,Node.at,e1,e2]⟩;obtain rfl:i=1:=by omega
  simp only[runN,Node.at,e1]
 |go fr' csl' wv'=>obtain⟨aH,aGb,bO,es,e,Y⟩:=J;refine⟨k,τ,0,some ⟨fr',csl',wv',aH,aGb,vy _ _ _ _ _ e Y⟩,λτ' d ht=>⟨λi h0 V=>by omega,?_⟩⟩;obtain⟨yt,e'⟩:=V τ' d ht;show runN _ 1 _=_;simp only[runN,Node.at,og e']
 |sp f args ck fr' csl' wv'=>
  obtain⟨Av,G5,aH,aGb,bO,es,e,Y⟩:=J;have aGA:=vy (Frame.enter P f args ck) (fr'::csl') wv' bO es e Y;rcases S f Av args wv' bO Y.1 with⟨v,aMD,⟨m,hm⟩,aKj⟩|⟨m,hm⟩
  ·have aK6:¬kJ P C main cs Stop (oN ck fr' v) csl' aMD 0:=λhh=>aGA (aKj main cs Stop ck fr' csl' G5 aH hh);have Be:fH P fs (oN ck fr' v):=by
    rcases G5 with rfl|rfl
    ·exact aH.finish v
    ·exact aH
   refine⟨k,τ,m+1,some ⟨_,_,_,Be,aGb,aK6⟩,λτ' d ht=>?_⟩;obtain⟨yt,e'⟩:=V τ' d ht;have A3:=og e';have hm':=hm ck fr' (csl'++[c0]) τ' (d+k) G5 aH.mode (by simp);refine⟨λi h0 hi=>?_,?_⟩
   ·obtain⟨j,rfl⟩:∃j,i=j+1:=⟨i - 1,by omega⟩
    obtain⟨wm,l',U,e2,hl⟩:=hm'.2 j (by omega);exact⟨wm,l',U,by simp only[runN,Node.at,A3];exact e2,by omega⟩
   ·show runN _ (m+1+1) _=_;rw[show m+1+1=(m+1)+1 from rfl];simp only[runN,Node.at,A3];exact hm'.1
  ·refine⟨k,τ,m+1,none,λτ' d ht=>?_⟩;obtain⟨yt,e'⟩:=V τ' d ht;have A3:=og e';have hm':=hm ck fr' (csl'++[c0]) τ' (d+k) G5 (by simp);refine⟨λi h0 hi=>?_,?_⟩
   ·obtain⟨j,rfl⟩:∃j,i=j+1:=⟨i - 1,by omega⟩
    obtain⟨wm,l',U,e2,hl⟩:=hm'.2 j (by omega);exact⟨wm,l',U,by simp only[runN,Node.at,A3];exact e2,by omega⟩
   ·obtain⟨o,w,e2⟩:=hm'.1;exact⟨o,w,by show runN _ ((m+1)+1) _=_;simp only[runN,Node.at,A3];exact e2⟩
def Lu{fr l w fr' l' U}(h:lone fr l w=lone fr' l' U):fr=fr'/\l=l'/\w=U:=by unfold lone at h;simp only[Machine.mk.injEq,Array.mk.injEq,od,Goroutine.mk.injEq,qs,true_and]at h;exact⟨h.2.1,h.2.2,h.1⟩
section aE8
variable {hk:Type}(K:hk->Nat)(T':hk->Nat->Question->Nat)(hv:hk->Option hk)(a0:hk)
def KN:Nat->Option hk
 |0=>some a0
 |i+1=>(KN i).bind hv
def spK(i:Nat):Nat:=match KN hv a0 i with
 |some a=>K a
 |none=>0
def spT(i:Nat):Nat->Question->Nat:=match KN hv a0 i with
 |some a=>T' a
 |none=>λ_ _=>0
def IE:Nat->Nat
 |0=>0
 |i+1=>IE i+spK K hv a0 i
open Classical in
def Ot(j:Nat)(q:Question):Nat:=
 if h:∃i,IE K hv a0 i<=j/\j<IE K hv a0 (i+1)then spT T' hv a0 (Classical.choose h) (j - IE K hv a0 (Classical.choose h)) q else 0
def XC{i j}(h:i<=j):IE K hv a0 i<=IE K hv a0 j:=by
 induction h with
 |refl=>exact aI _
 |step _ ih=>exact cV ih (sx _ _)
def TE i j q(hj:j<spK K hv a0 i):Ot K T' hv a0 (IE K hv a0 i+j) q=spT T' hv a0 i j q:=by
 have h:∃i',IE K hv a0 i'<=IE K hv a0 i+j/\IE K hv a0 i+j<IE K hv a0 (i'+1):=⟨i,sx _ _,Nat.add_lt_add_left hj _⟩
 unfold Ot;rw[tA h];have hs:=ez h;generalize Classical.choose h=i' at hs;have e:i'=i:=by
  rcases Nat.lt_trichotomy i' i with x|x|x
  ·have:=XC K hv a0 (show i'+1<=i from x);omega
  ·exact x
  ·have V:=XC K hv a0 (show i+1<=i' from x);have J:IE K hv a0 (i+1)=IE K hv a0 i+spK K hv a0 i:=rfl;omega
 subst e;rw[show IE K hv a0 i'+j - IE K hv a0 i'=j from by omega]
end aE8
def nW{fr wv}(F:Fits P fs Sp C)(B:Base c0)(S:Qk P fs Sp C)(ok:fH P fs fr)
 (H:∀τ d,∃N fr' U,Stop fr' U/\runN (Pf P fs) N (lone fr [c0] (re wv τ d))=.next (lone fr' [c0] U)) (hS:∀fr w τ d,Stop fr (re w τ d)->Stop fr w):kJ P C main cs Stop fr [] wv 0:=by
 refine fS λaGA=>?_;let a0:Node P fs C main cs Stop:=⟨fr,[],wv,ok,(λx E=>by cases E),aGA⟩
 have Q:=λn:Node P fs C main cs Stop=>Uu F B S n;let K:=λn=>Classical.choose (Q n);let T':=λn=>Classical.choose (ez (Q n));let M:=λn=>Classical.choose (ez (ez (Q n)));let hv:=λn=>Classical.choose (ez (ez (ez (Q n))));have hX:∀n τ' d,(∀i q,i<K n->τ' (d+i) q=T' n i q)->(∀i,0<i->i<=M n->Gr (Pf P fs) (n.at c0 τ' d) i)/\match hv n with
  |some n'=>runN (Pf P fs) (M n+1) (n.at c0 τ' d)=.next (n'.at c0 τ' (d+K n))
  |none=>∃o w,runN (Pf P fs) (M n+1) (n.at c0 τ' d)=.ended o w:=λn=>ez (ez (ez (ez (Q n))))
 let τ:=Ot K T' hv a0;have YH:∀r i n,KN hv a0 i=some n->∀fr' U,Stop fr' U->runN (Pf P fs) r (n.at c0 τ (IE K hv a0 i))=.next (lone fr' [c0] U)->False:=by
  intro r
  induction r using Nat.strongRecOn with
  |ind r ih=>
   intro i n hi fr' U uw Y;have A:spK K hv a0 i=K n:=by unfold spK;rw[hi]
   have ht:spT T' hv a0 i=T' n:=by unfold spT;rw[hi]
   have aGD:∀j q,j<K n->τ (IE K hv a0 i+j) q=T' n j q:=λj q hj=>by
    rw[<-ht];exact TE K T' hv a0 i j q (by rw[A];exact hj)
   obtain⟨V,J⟩:=hX n τ (IE K hv a0 i) aGD;rcases gw r with rfl|jZ
   ·simp only[runN,Stepped.next.injEq]at Y;obtain⟨e1,e2,e3⟩:=Lu Y;have aPw:n.csl=[]:=by
     cases L:n.csl with
     |nil=>rfl
     |cons x l=>rw[L]at e2;simp at e2
    refine n.bad ?_;rw[aPw];refine .stop ?_;rw[e1];exact hS fr' n.wv τ _ (by rw[e3];exact uw)
   ·rcases ir (M n) r with tP|hge
    ·have e:r=(M n+1)+(r - (M n+1)):=by omega
     rw[e,runN_add]at Y;cases E:hv n with
     |none=>rw[E]at J;obtain⟨o,w,J⟩:=J;rw[J]at Y;cases Y
     |some n'=>rw[E]at J;simp only at J;rw[J]at Y;refine ih (r - (M n+1)) (by omega) (i+1) n' (by show(KN hv a0 i).bind hv=_;rw[hi];exact E) fr' U uw ?_;show runN _ _ (n'.at c0 τ (IE K hv a0 i+spK K hv a0 i))=_;rw[A];exact Y
    ·obtain⟨wm,l',w'',e,hl⟩:=V r jZ hge;rw[e]at Y;obtain⟨_,e2,_⟩:=Lu (Stepped.next.inj Y);rw[e2]at hl;exact hl rfl
 obtain⟨N,fr',U,uw,Y⟩:=H τ 0;exact YH N 0 a0 rfl fr' U uw Y
end
end Ka
