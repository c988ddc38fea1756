/- Races: a part. Conditions: none. -/
import Derived.Conc.Beside
import Derived.Test.YtmanpggemmgnnaaGreatDoorA04
set_option linter.all false
namespace Go.Proofs.YtmanpggemmgnnaaGreatDoor
noncomputable section
open Go Go.Conc
namespace Ka
def Hy (C:Cut) (d d':Nat) (wv wa bO:World) (es:Array Event):Prop:=Vw C wv bO/\Hid C wa bO/\(∀e∈es,oQ C e\/e.mute=true)/\deafBehind d es=d'
theorem Real.toS {C:Cut} {wv wa bO:World} {es:Array Event} (h:Real C wv wa bO es) (d:Nat):Hy C d d wv wa bO es:=
 ⟨h.1,h.2.1,λe he=>.inl (h.2.2 e he),deafBehind_still (λe he=>by
   have:=h.2.2 e he;constructor<;>(intro x;unfold oQ at this;rw [x] at this;exact this)) d⟩
section
variable (P:Program) (C:Cut) (main:Bool) (cs:List Frame) (Stop:Frame->World->Prop)
inductive kJ:Frame->List Frame->World->Nat->Prop
 |stop {fr:Frame} {wv:World} (h:Stop fr wv):kJ fr [] wv 0
 |step {fr:Frame} {csl:List Frame} {wv:World} {d:Nat} (n:∀wa,Vw C wv wa->Frame×List Frame×World×Nat)
  (h:∀wa hv,∃bO es,stepG P main (G fr (csl++cs)) wa=.go (G (n wa hv).1 ((n wa hv).2.1++cs)) bO es/\Hy C d (n wa hv).2.2.2 (n wa hv).2.2.1 wa bO es)
  (ih:∀wa hv,kJ (n wa hv).1 (n wa hv).2.1 (n wa hv).2.2.1 (n wa hv).2.2.2):kJ fr csl wv d
theorem kJ.ofS {fr:Frame} {csl:List Frame} {wv:World} {d:Nat} (h:∀wa,Vw C wv wa->∃fr' csl' wv' bO es d',stepG P main (G fr (csl++cs)) wa=.go (G fr' (csl'++cs)) bO es/\Hy C d d' wv' wa bO es/\kJ P C main cs Stop fr' csl' wv' d'):kJ P C main cs Stop fr csl wv d:=by
 have h':∀wa,Vw C wv wa->∃x:Frame×List Frame×World×Nat,(∃bO es,stepG P main (G fr (csl++cs)) wa=.go (G x.1 (x.2.1++cs)) bO es/\Hy C d x.2.2.2 x.2.2.1 wa bO es)/\kJ P C main cs Stop x.1 x.2.1 x.2.2.1 x.2.2.2:=λwa hv=>by
  obtain ⟨fr',csl',wv',bO,es,d',e1,e2,e3⟩:=h wa hv;exact ⟨(fr',csl',wv',d'),⟨bO,es,e1,e2⟩,e3⟩
 exact .step (λwa hv=>Classical.choose (h' wa hv)) (λwa hv=>(Classical.choose_spec (h' wa hv)).1) λwa hv=>(Classical.choose_spec (h' wa hv)).2
theorem kJ.of {fr:Frame} {csl:List Frame} {wv:World} {d:Nat} (h:∀wa,Vw C wv wa->∃fr' csl' wv' bO es,stepG P main (G fr (csl++cs)) wa=.go (G fr' (csl'++cs)) bO es/\Real C wv' wa bO es/\kJ P C main cs Stop fr' csl' wv' d):kJ P C main cs Stop fr csl wv d:=
 kJ.ofS P C main cs Stop λwa hv=>let ⟨fr',csl',wv',bO,es,e1,e2,e3⟩:=h wa hv;⟨fr',csl',wv',bO,es,d,e1,e2.toS d,e3⟩
end
def oN (k:CallKind) (fr:Frame) (v:Value):Frame:=match k with
 | .normal=>fr.finish v
 |_=>fr
section
variable (P:Program) (fs:Array Func) (Sp:FuncId->Prop) (C:Cut)
def Ql (f:FuncId) (args:Array Value) (wv:World) (v:Value) (wv':World):Prop:=
 (∃n,∀(k:CallKind) (fr:Frame) (l:List Frame) (τ:Nat->Question->Nat) (d:Nat),(k=.normal\/k=.deferred)->jV fr.mode->l≠[]->
   runN (Pf P fs) (n+1) (lone (Frame.enter (Pf P fs) f args k) (fr::l) (re wv τ d))=.next (lone (oN k fr v) l (re wv' τ d))/\
   ∀i,i<=n->∃fr' l' w',runN (Pf P fs) i (lone (Frame.enter (Pf P fs) f args k) (fr::l) (re wv τ d))=.next (lone fr' l' w')/\2<=l'.length)/\
 ∀(main:Bool) (cs:List Frame) (Stop:Frame->World->Prop) (k:CallKind) (fr:Frame) (csl:List Frame),(k=.normal\/k=.deferred)->fH P fs fr->kJ P C main cs Stop (oN k fr v) csl wv' 0->kJ P C main cs Stop (Frame.enter P f args k) (fr::csl) wv 0
def EA (f:FuncId) (args:Array Value) (wv:World):Prop:=
 ∃n,∀(k:CallKind) (fr:Frame) (l:List Frame) (τ:Nat->Question->Nat) (d:Nat),(k=.normal\/k=.deferred)->l≠[]->
  (∃o w,runN (Pf P fs) (n+1) (lone (Frame.enter (Pf P fs) f args k) (fr::l) (re wv τ d))=.ended o w)/\
  ∀i,i<=n->∃fr' l' w',runN (Pf P fs) i (lone (Frame.enter (Pf P fs) f args k) (fr::l) (re wv τ d))=.next (lone fr' l' w')/\2<=l'.length
def Qk:Prop:=∀f,Sp f->∀args wv wa,Vw C wv wa->(∃v wv',Ql P fs C f args wv v wv')\/EA P fs f args wv
end
section
variable {P:Program} {fs:Array Func} {Sp:FuncId->Prop} {C:Cut} {c0:Frame} {cs:List Frame} {main:Bool} {Stop:Frame->World->Prop}
theorem og {p:Program} {fr fr':Frame} {l l':List Frame} {w w':World} {es:Array Event} (h:stepG p true (G fr l) w=.go (G fr' l') w' es):step p (lone fr l w)=.next (lone fr' l' w'):=
 step_lone_go (by show (stepG p true (G fr l) w).bare=_;rw [h];rfl)
theorem mV {p:Program} {fr:Frame} {l:List Frame} {w w':World} {o:Outcome} {es:Array Event} (h:stepG p true (G fr l) w=.ended o w' es):step p (lone fr l w)=.ended o w':=
 step_lone_ended (by show (stepG p true (G fr l) w).bare=_;rw [h];rfl)
theorem YK (B:Base c0) (p:Program) {fr:Frame} (h:fr=c0\/∃ch,fr={c0 with mode:=.panicking ch}) (w:World):∃o w',step p (lone fr [] w)=.ended o w':=by
 rcases h with rfl|⟨ch,rfl⟩
 ·exact ⟨_,_,mV (es:=#[]) (by unfold stepG G;simp only [B.mode];unfold stepG.exec;simp only [B.todo];rfl)⟩
 ·exact ⟨_,_,mV (es:=#[]) (by unfold stepG G;simp only [];unfold unwind;simp only [B.defers];unfold callDeferred;rfl)⟩
structure Node (P:Program) (fs:Array Func) (C:Cut) (main:Bool) (cs:List Frame) (Stop:Frame->World->Prop) where
 fr:Frame
 csl:List Frame
 wv:World
 ok:fH P fs fr
 rq:∀x∈csl,fH P fs x
 bad:¬kJ P C main cs Stop fr csl wv 0
def Node.at (c0:Frame) (n:Node P fs C main cs Stop) (τ:Nat->Question->Nat) (d:Nat):Machine:=lone n.fr (n.csl++[c0]) (re n.wv τ d)
def Gr (p:Program) (m:Machine) (i:Nat):Prop:=∃fr' l' w',runN p i m=.next (lone fr' l' w')/\l'.length≠1
theorem Uu (F:Fits P fs Sp C) (B:Base c0) (S:Qk P fs Sp C) (n:Node P fs C main cs Stop):
 ∃(k:Nat) (τ:Nat->Question->Nat) (m:Nat) (x:Option (Node P fs C main cs Stop)),∀τ' d,(∀i q,i<k->τ' (d+i) q=τ i q)->
  (∀i,0<i->i<=m->Gr (Pf P fs) (n.at c0 τ' d) i)/\
  match x with
  |some n'=>runN (Pf P fs) (m+1) (n.at c0 τ' d)=.next (n'.at c0 τ' (d+k))
  |none=>∃o w,runN (Pf P fs) (m+1) (n.at c0 τ' d)=.ended o w:=by
 classical
 have iw:∃wa,∃_:Vw C n.wv wa,∀fr' csl' wv' bO es,stepG P main (G n.fr (n.csl++cs)) wa=.go (G fr' (csl'++cs)) bO es->Real C wv' wa bO es->¬kJ P C main cs Stop fr' csl' wv' 0:=by refine Classical.byContradiction λhh=>n.bad (kJ.of P C main cs Stop λwa hv=>Classical.byContradiction λhx=>hh ⟨wa,hv,λfr' csl' wv' bO es h1 h2 h3=>hx ⟨fr',csl',wv',bO,es,h1,h2,h3⟩⟩)
 obtain ⟨wa,hv,iw⟩:=iw;obtain ⟨k,τ,out,h1,h2⟩:=aBG (main:=main) (cs:=cs) F B n.ok n.rq n.wv wa hv;cases out with
 |dead=>refine ⟨k,τ,0,none,λτ' d ht=>⟨λi h0 h1=>by omega,?_⟩⟩;obtain ⟨o,w,es,e⟩:=h1 τ' d ht;exact ⟨o,w,by simp only [runN,Node.at,mV e]⟩
 |low=>
  refine ⟨k,τ,1,none,λτ' d ht=>?_⟩;obtain ⟨g,w,es,e,fr',rfl,u6⟩:=h1 τ' d ht;have e1:=og e;obtain ⟨o,w',e2⟩:=YK B (Pf P fs) u6 w;refine ⟨λi h0 hi=>⟨fr',[],w,?_,by simp⟩,o,w',by simp only [runN,Node.at,e1,e2]⟩;obtain rfl:i=1:=by omega
  simp only [runN,Node.at,e1]
 |go fr' csl' wv'=>obtain ⟨aH,aGb,bO,es,e,hr⟩:=h2;refine ⟨k,τ,0,some ⟨fr',csl',wv',aH,aGb,iw _ _ _ _ _ e hr⟩,λτ' d ht=>⟨λi h0 h1=>by omega,?_⟩⟩;obtain ⟨qY,e'⟩:=h1 τ' d ht;show runN _ 1 _=_;simp only [runN,Node.at,og e']
 |sp f args ck fr' csl' wv'=>
  obtain ⟨DV,G5,aH,aGb,bO,es,e,hr⟩:=h2;have aGA:=iw (Frame.enter P f args ck) (fr'::csl') wv' bO es e hr;rcases S f DV args wv' bO hr.1 with ⟨v,aMD,⟨m,hm⟩,aKj⟩|⟨m,hm⟩
  ·have aK6:¬kJ P C main cs Stop (oN ck fr' v) csl' aMD 0:=λhh=>aGA (aKj main cs Stop ck fr' csl' G5 aH hh);have Be:fH P fs (oN ck fr' v):=by
    rcases G5 with rfl|rfl
    ·exact aH.finish v
    ·exact aH
   refine ⟨k,τ,m+1,some ⟨_,_,_,Be,aGb,aK6⟩,λτ' d ht=>?_⟩;obtain ⟨qY,e'⟩:=h1 τ' d ht;have DU:=og e';have hm':=hm ck fr' (csl'++[c0]) τ' (d+k) G5 aH.mode (by simp);refine ⟨λi h0 hi=>?_,?_⟩
   ·obtain ⟨j,rfl⟩:∃j,i=j+1:=⟨i - 1,by omega⟩
    obtain ⟨wm,l',w',e2,hl⟩:=hm'.2 j (by omega);exact ⟨wm,l',w',by simp only [runN,Node.at,DU];exact e2,by omega⟩
   ·show runN _ (m+1+1) _=_;rw [show m+1+1=(m+1)+1 from rfl];simp only [runN,Node.at,DU];exact hm'.1
  ·refine ⟨k,τ,m+1,none,λτ' d ht=>?_⟩;obtain ⟨qY,e'⟩:=h1 τ' d ht;have DU:=og e';have hm':=hm ck fr' (csl'++[c0]) τ' (d+k) G5 (by simp);refine ⟨λi h0 hi=>?_,?_⟩
   ·obtain ⟨j,rfl⟩:∃j,i=j+1:=⟨i - 1,by omega⟩
    obtain ⟨wm,l',w',e2,hl⟩:=hm'.2 j (by omega);exact ⟨wm,l',w',by simp only [runN,Node.at,DU];exact e2,by omega⟩
   ·obtain ⟨o,w,e2⟩:=hm'.1;exact ⟨o,w,by show runN _ ((m+1)+1) _=_;simp only [runN,Node.at,DU];exact e2⟩
theorem Lu {fr fr':Frame} {l l':List Frame} {w w':World} (h:lone fr l w=lone fr' l' w'):fr=fr'/\l=l'/\w=w':=by unfold lone at h;simp only [Machine.mk.injEq,Array.mk.injEq,List.cons.injEq,Goroutine.mk.injEq,and_true,true_and] at h;exact ⟨h.2.1,h.2.2,h.1⟩
section aE8
variable {A:Type} (K:A->Nat) (T':A->Nat->Question->Nat) (X:A->Option A) (a0:A)
def KN:Nat->Option A
 |0=>some a0
 |i+1=>(KN i).bind X
def spK (i:Nat):Nat:=match KN X a0 i with
 |some a=>K a
 |none=>0
def spT (i:Nat):Nat->Question->Nat:=match KN X a0 i with
 |some a=>T' a
 |none=>λ_ _=>0
def IE:Nat->Nat
 |0=>0
 |i+1=>IE i+spK K X a0 i
open Classical in
def Ot (j:Nat) (q:Question):Nat:=
 if h:∃i,IE K X a0 i<=j/\j<IE K X a0 (i+1) then spT T' X a0 (Classical.choose h) (j - IE K X a0 (Classical.choose h)) q else 0
theorem XC {i j:Nat} (h:i<=j):IE K X a0 i<=IE K X a0 j:=by
 induction h with
 |refl=>exact Nat.le_refl _
 |step _ ih=>exact Nat.le_trans ih (Nat.le_add_right _ _)
theorem TE (i j:Nat) (q:Question) (hj:j<spK K X a0 i):Ot K T' X a0 (IE K X a0 i+j) q=spT T' X a0 i j q:=by
 have h:∃i',IE K X a0 i'<=IE K X a0 i+j/\IE K X a0 i+j<IE K X a0 (i'+1):=⟨i,Nat.le_add_right _ _,Nat.add_lt_add_left hj _⟩
 unfold Ot;rw [dif_pos h];have hs:=Classical.choose_spec h;generalize Classical.choose h=i' at hs;have e:i'=i:=by
  rcases Nat.lt_trichotomy i' i with x|x|x
  ·have:=XC K X a0 (show i'+1<=i from x);omega
  ·exact x
  ·have h1:=XC K X a0 (show i+1<=i' from x);have h2:IE K X a0 (i+1)=IE K X a0 i+spK K X a0 i:=rfl;omega
 subst e;rw [show IE K X a0 i'+j - IE K X a0 i'=j from by omega]
end aE8
theorem nW (F:Fits P fs Sp C) (B:Base c0) (S:Qk P fs Sp C) {fr:Frame} {wv:World} (ok:fH P fs fr)
 (H:∀τ d,∃N fr' w',Stop fr' w'/\runN (Pf P fs) N (lone fr [c0] (re wv τ d))=.next (lone fr' [c0] w')) (hS:∀fr w τ d,Stop fr (re w τ d)->Stop fr w):kJ P C main cs Stop fr [] wv 0:=by
 refine Classical.byContradiction λaGA=>?_;let a0:Node P fs C main cs Stop:=⟨fr,[],wv,ok,(λx hx=>by cases hx),aGA⟩
 have hn:=λn:Node P fs C main cs Stop=>Uu F B S n;let K:=λn=>Classical.choose (hn n);let T':=λn=>Classical.choose (Classical.choose_spec (hn n));let M:=λn=>Classical.choose (Classical.choose_spec (Classical.choose_spec (hn n)));let X:=λn=>Classical.choose (Classical.choose_spec (Classical.choose_spec (Classical.choose_spec (hn n))));have hX:∀n τ' d,(∀i q,i<K n->τ' (d+i) q=T' n i q)->(∀i,0<i->i<=M n->Gr (Pf P fs) (n.at c0 τ' d) i)/\match X n with
  |some n'=>runN (Pf P fs) (M n+1) (n.at c0 τ' d)=.next (n'.at c0 τ' (d+K n))
  |none=>∃o w,runN (Pf P fs) (M n+1) (n.at c0 τ' d)=.ended o w:=λn=>Classical.choose_spec (Classical.choose_spec (Classical.choose_spec (Classical.choose_spec (hn n))))
 let τ:=Ot K T' X a0;have YH:∀r i n,KN X a0 i=some n->∀fr' w',Stop fr' w'->runN (Pf P fs) r (n.at c0 τ (IE K X a0 i))=.next (lone fr' [c0] w')->False:=by
  intro r
  induction r using Nat.strongRecOn with
  |ind r ih=>
   intro i n hi fr' w' dN hr;have hk:spK K X a0 i=K n:=by unfold spK;rw [hi]
   have ht:spT T' X a0 i=T' n:=by unfold spT;rw [hi]
   have aGD:∀j q,j<K n->τ (IE K X a0 i+j) q=T' n j q:=λj q hj=>by
    rw [<-ht];exact TE K T' X a0 i j q (by rw [hk];exact hj)
   obtain ⟨h1,h2⟩:=hX n τ (IE K X a0 i) aGD;rcases Nat.eq_zero_or_pos r with rfl|jZ
   ·simp only [runN,Stepped.next.injEq] at hr;obtain ⟨e1,e2,e3⟩:=Lu hr;have aPw:n.csl=[]:=by
     cases hc:n.csl with
     |nil=>rfl
     |cons x l=>rw [hc] at e2;simp at e2
    refine n.bad ?_;rw [aPw];refine .stop ?_;rw [e1];exact hS fr' n.wv τ _ (by rw [e3];exact dN)
   ·rcases Nat.lt_or_ge (M n) r with aI|hge
    ·have e:r=(M n+1)+(r - (M n+1)):=by omega
     rw [e,runN_add] at hr;cases hx:X n with
     |none=>rw [hx] at h2;obtain ⟨o,w,h2⟩:=h2;rw [h2] at hr;cases hr
     |some n'=>rw [hx] at h2;simp only at h2;rw [h2] at hr;refine ih (r - (M n+1)) (by omega) (i+1) n' (by show (KN X a0 i).bind X=_;rw [hi];exact hx) fr' w' dN ?_;show runN _ _ (n'.at c0 τ (IE K X a0 i+spK K X a0 i))=_;rw [hk];exact hr
    ·obtain ⟨wm,l',w'',e,hl⟩:=h1 r jZ hge;rw [e] at hr;obtain ⟨_,e2,_⟩:=Lu (Stepped.next.inj hr);rw [e2] at hl;exact hl rfl
 obtain ⟨N,fr',w',dN,hr⟩:=H τ 0;exact YH N 0 a0 rfl fr' w' dN hr
end
end Ka
end
end Go.Proofs.YtmanpggemmgnnaaGreatDoor
