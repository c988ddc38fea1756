/- Races: a part. Conditions: none. -/
import Derived.Test.YtmanpggemmgnnaaGreatDoorA07
import Derived.Test.YtmanpggemmgnnaaGreatDoorA13
set_option linter.all false
namespace Go.Proofs.YtmanpggemmgnnaaGreatDoor
noncomputable section
open Go Go.Conc
section
open Go.ConcN (sumTo upd sumTo_upd upd_ne upd_same RelBy)
namespace Co
open Kv Ka Ky
structure Sd where
 c:Nat
 z:Value
 ok:Bool
 home:Goroutine->Prop
def aU.gone:aU->Prop
 | .quit| .leave _=>True
 |_=>False
structure Cy where
 Z:Gh
 b:Nat
 s:Nat
 m:Nat
 h:Nat
 n:Nat
 σ:Nat->Option Sd
 R:(Nat->aU)->Nat->Prop
def Sat (x:Option Sd) (r:aU):Prop:=match x with
 |some x=>r=.fq x.c x.z x.ok x.home
 |none=>r.gone
def EH (σ:Nat->Option Sd) (h n:Nat) (ρ:Nat->aU):Prop:=ρ h=.hold/\∀i,i≠h->(i<n->Sat (σ i) (ρ i))/\(n<=i->ρ i=.hold)
theorem EH.aA {σ:Nat->Option Sd} {h n:Nat} {ρ ρ':Nat->aU} (a:EH σ h n ρ) (k:aj ρ ρ'):EH σ h n ρ':=by
 refine ⟨?_,λi hi=>⟨λhn=>?_,λhn=>?_⟩⟩
 ·rcases k h with e|⟨⟨st,e⟩,_⟩
  ·rw [e];exact a.1
  ·rw [a.1] at e;cases e
 ·have hs:=(a.2 i hi).1 hn;rcases k i with e|⟨⟨st,e⟩,hl⟩
  ·rw [e];exact hs
  ·unfold Sat at hs ⊢;cases hx:σ i with
   |some x=>rw [hx,e] at hs;cases hs
   |none=>show (ρ' i).gone;cases hr:ρ' i<;>first|trivial|(rw [hr] at hl;exact hl.1)
 ·have hs:=(a.2 i hi).2 hn;rcases k i with e|⟨⟨st,e⟩,hl⟩
  ·rw [e];exact hs
  ·rw [hs] at e;cases e
structure Cy.Ok (K:Cy):Prop where
 low:∀i x,i<K.n->K.σ i=some x->i≠K.h->i<K.b->i=0
 wk:∀i x,i<K.n->K.σ i=some x->i≠K.h->0<i->∃k,K.Z.own i=some k/\x.c=k.o
 mn:∀x,K.σ 0=some x->0≠K.h->∃k,K.Z.own K.h=some k/\x.c=k.a
 pos:0<K.n
 lt:K.h<K.n
 bn:K.b<=K.n
 cl:∀ρ ρ' μ μ',K.R ρ μ->aj ρ ρ'->μ'<=μ->(μ'=μ->ρ'=ρ)->K.R ρ' μ'
 hb:K.h=0\/K.b<=K.h
 bP:K.b<K.m->K.Z.bP K.s
theorem Cy.low (K:Cy) (aH:K.Ok) {ρ:Nat->aU} (a:EH K.σ K.h K.n ρ):Low K.b ρ:=λi c z ok home e hb=>by
 by_cases hi:i=K.h
 ·subst hi;rw [a.1] at e;cases e
 ·rcases Nat.lt_or_ge i K.n with hn|hn
  rotate_left
  ·rw [(a.2 i hi).2 hn] at e;cases e
  have:=(a.2 i hi).1 hn;unfold Sat at this;cases hx:K.σ i with
  |none=>rw [hx,e] at this;exact this.elim
  |some x=>exact aH.low i x hn hx hi hb
theorem Cy.NY (K:Cy) (aH:K.Ok) {ρ:Nat->aU} (a:EH K.σ K.h K.n ρ) {c:Nat} (h:used K.Z ρ c):K.Z.ic c:=by
 rcases h with ⟨i,z,ok,home,e⟩|⟨i,k,_,ho,rfl⟩
 ·have hi:i≠K.h:=λhi=>by subst hi;rw [a.1] at e;cases e
  rcases Nat.lt_or_ge i K.n with hn|hn
  rotate_left
  ·rw [(a.2 i hi).2 hn] at e;cases e
  have:=(a.2 i hi).1 hn;unfold Sat at this;cases hx:K.σ i with
  |none=>rw [hx,e] at this;exact this.elim
  |some x=>
   rw [hx,e] at this;have VH:x.c=c:=by cases this;rfl
   rcases Nat.eq_zero_or_pos i with rfl|h0
   ·obtain ⟨k,hk,e'⟩:=aH.mn x hx hi;exact .inr ⟨_,k,hk,.inr (VH.symm.trans e')⟩
   ·obtain ⟨k,hk,e'⟩:=aH.wk i x hn hx hi h0;exact .inr ⟨_,k,hk,.inl (VH.symm.trans e')⟩
 ·exact .inr ⟨i,k,ho,.inr rfl⟩
def WT (P:Program) (Post:Value->World->Prop) (K:Cy) (d:Nat) (a:Goroutine) (w:World):Prop:=
 ∀gs t q sl ρ p,gs.size=K.n->gs[K.h]? =some a->EH K.σ K.h K.n ρ->Calm ρ 0 0->Core P K.Z K.b K.s p K.m K.h ρ 0 0 t gs w q->Deaf t K.h=d->K.R ρ (sumTo gs.size q)->iW P Post (crowd gs w sl) t
section
variable {P:Program} {Post:Value->World->Prop} {K:Cy} {d:Nat} {a:Goroutine} {w:World}
theorem WT.step (aH:K.Ok) (bJ:a.status=.running) (hs:∀w',aQ K.Z w w'->K.Z.K w'->∃a' w'' es d',stepG P (K.h==0) a w'=.go a' w'' es/\JP K.Z K.Z.ic K.h d d' w' w'' es/\WT P Post K d' a' w''):WT P Post K d a w:=by intro gs t q sl ρ p bW ha gW bz C hd hR;refine picked bJ (λjA w₁ w' t' ρ' wt' sm' q' sl₁ jQ qV uz C' lD hc Ji iF EG _ dN=>?_) ha C (K.low aH gW);obtain ⟨e1,e2,BI⟩:=hc.calm bz;subst e1;subst e2;obtain ⟨a',w'',es,d',hgo,hH,hW⟩:=hs w' iF C'.wd.keep;have qy:=gW.aA lD;obtain ⟨C2,vZ,uL⟩:=C'.own (EG.trans hd) uz qy.1 aH.hb (a':=a') (w':=w'') (es:=es) (d:=d) (d':=d') ⟨hH.keep,hH.grp,λc k hc=>hH.chan c k (hc.elim id (K.NY aH qy)),hH.gV,hH.deaf⟩;exact iW.next (dN.trans (runT_crowd_go (sl:=jQ) uz hgo)) (hW _ _ _ _ _ _ (by simpa using qV.trans bW) vZ qy ⟨rfl,rfl,BI⟩ C2 uL (by have:=aH.cl _ _ _ _ hR lD Ji.1 Ji.2;simpa using this))
end
def Vg:Nat->Nat×Nat
 |0=>(1,2)
 |1=>(9,11)
 |_=>(1,11)
def Gh.iq (Z:Gh) (r:Nat):Prop:=∃g k,Z.own g=some k/\k.r=r
open Classical in
def Gh.cut (Z:Gh) (N:Code->Prop) (ty:TypeId->Prop) (φ:Nat):Cut where
 hd r:=if Z.bP r then some 5 else if Z.iq r then some 16 else none
 fz r:=if Z.iq r/\¬Z.bP r then Vg φ else (0,0)
 ch r:=decide (Z.ic r)
 N:=N
 ty:=ty
 lq r:=if Z.rW r then none else Z.lq r
section
variable {Z:Gh} {N:Code->Prop} {ty:TypeId->Prop} {φ:Nat} {wv w w':World}
theorem iG {s:Nat} (h:Z.bP s):(Z.cut N ty φ).hd s=some 5:=by simp [Gh.cut,h]
theorem lH (bY:Z.Wf) {g:Nat} {k:dR} (h:Z.own g=some k):(Z.cut N ty φ).hd k.r=some 16:=by
 have h1:=bY.apart g k h;have h2:Z.iq k.r:=⟨g,k,h,rfl⟩
 simp [Gh.cut,h1,h2]
theorem zN (bY:Z.Wf) {g:Nat} {k:dR} (h:Z.own g=some k):(Z.cut N ty φ).fz k.r=Vg φ:=by
 have h1:=bY.apart g k h;have h2:Z.iq k.r:=⟨g,k,h,rfl⟩
 simp [Gh.cut,h1,h2]
theorem iU {c:Nat}:(Z.cut N ty φ).ch c=true↔Z.ic c:=by simp [Gh.cut]
theorem qA {r n:Nat} (h:(Z.cut N ty φ).hd r=some n):(Z.bP r/\n=5)\/(¬Z.bP r/\Z.iq r/\n=16):=by
 unfold Gh.cut at h;simp only at h;split at h
 ·rename_i hs;cases h;exact .inl ⟨hs,rfl⟩
 ·rename_i hs;split at h
  ·rename_i hc;cases h;exact .inr ⟨hs,hc,rfl⟩
  ·cases h
theorem eY {r:Nat}:(Z.cut N ty φ).free r↔¬Z.bP r/\¬Z.iq r/\¬Z.ic r:=by
 unfold Cut.free Gh.cut;simp only;by_cases h1:Z.bP r
 ·simp [h1]
 ·by_cases h2:Z.iq r
  ·simp [h1,h2]
  ·simp [h1,h2]
theorem RF {c:Nat} (h:Z.rW c):(Z.cut N ty φ).lq c=none:=by simp [Gh.cut,h]
theorem dm (hv:Vw (Z.cut N ty φ) wv w) (ha:aQ Z w w'):Vw (Z.cut N ty φ) wv w':=by
 obtain ⟨d,hp,rfl,bW,vX⟩:=ha;have Zc:∀r:Nat,Ob Z r w.heap[r]? hp[r]? :=vX;refine ⟨hv.size.trans bW.symm,hv.os,λr hr=>?_,λr n hr=>?_,λr hr=>?_,hv.plain,hv.loops⟩
 ·obtain ⟨h1,h2,h3⟩:=eY.1 hr;rw [hv.same r hr];show w.heap[r]? =hp[r]?;rcases Zc r with e|⟨hc,_⟩|⟨hs,_⟩
  ·exact e.symm
  ·exact absurd (.inr hc) h3
  ·exact absurd hs h1
 ·obtain ⟨cv,ca,t,e1,e2,e3,e4,e5,e6⟩:=hv.cut r n hr;rcases Zc r with e|⟨_,o,o',e,ho,_⟩|⟨hs,c,c',t',fr,e,e',qV,hc⟩
  ·exact ⟨cv,ca,t,e1,e.trans e2,e3,e4,e5,e6⟩
  ·rw [e2] at e;cases e;cases ho
  ·rw [e2] at e;cases e;rcases qA hr with ⟨_,rfl⟩|⟨h1,_⟩
   ·exact ⟨cv,c',t,e1,e',e3,by rw [qV];exact e4,λi hi=>by rw [hc i (by omega) (by omega)];exact e5 i hi,e6⟩
   ·exact absurd hs h1
 ·obtain ⟨e1,o,e2,e3⟩:=hv.chan r hr;refine ⟨e1,?_⟩;show ∃o,hp[r]? =some o/\_;rcases Zc r with e|⟨_,o1,o',e,ho,e',Jl⟩|⟨hs,c,c',t',fr,e,e',qV,hc⟩
  ·exact ⟨o,e.trans e2,e3⟩
  ·refine ⟨o',e',?_⟩;unfold wL;rw [RF ‹_›];exact Jl
  ·rw [e2] at e;cases e;cases e3.off
def aLA (Z:Gh) (a:Addr):Prop:=∃g k,Z.own g=some k/\a.block=k.r/\IW a.off
theorem Jk (bY:Z.Wf) {h d d':Nat} {wv' wa bO:World} {es:Array Event} (hv:Vw (Z.cut N ty φ) wv wa) (R:Hy (Z.cut N ty φ) d d' wv' wa bO es) (hp:∀a v,aLA Z a->wa.cell? a=some v->bO.cell? a=some v)
 (hw:∀e∈es,∀a,e.loc=.cell a->e.write=true->¬aLA Z a):JP Z Z.ic h d d' wa bO es:=by
 obtain ⟨_,hh,he,hd⟩:=R;have aKa:∀s,Z.bP s->wa.shape? s=some (79,8)->bO.shape? s=some (79,8):=λs hs k4=>by
  obtain ⟨cv,ca,t,e1,e2,e3,e4,e5,e6⟩:=hv.cut s 5 (iG hs);obtain ⟨ca',f1,f2,f3⟩:=hh.cells s 5 (iG hs) ca t (0,0) e2;unfold World.shape? at k4 ⊢;rw [e2] at k4;rw [f1];simp only [f2] at k4 ⊢;exact k4
 refine ⟨λhk=>⟨λg k ho=>?_,λs hs=>⟨aKa s hs (hk.2 s hs).1,λh=>?_⟩⟩,λs hs=>?_,λc m hc hcm=>?_,λe hee=>?_,hd⟩
 ·obtain ⟨k1,k2,k3,k4⟩:=hk.1 g k ho;exact ⟨hp _ _ ⟨g,k,ho,rfl,.inl rfl⟩ k1,hp _ _ ⟨g,k,ho,rfl,.inr (.inl rfl)⟩ k2,hp _ _ ⟨g,k,ho,rfl,.inr (.inr rfl)⟩ k3,aKa k.s (bY.bP g k ho) k4⟩
 ·obtain ⟨cv,ca,t,e1,e2,e3,e4,e5,e6⟩:=hv.cut s 5 (iG hs);obtain ⟨ca',f1,f2,f3⟩:=hh.cells s 5 (iG hs) ca t (0,0) e2;have h7:=(hk.2 s hs).2 h;unfold World.cell? at h7 ⊢;rw [e2] at h7;rw [f1];simp only [f3 7 (.inl (by omega))];exact h7
 ·obtain ⟨cv,ca,t,e1,e2,e3,e4,e5,e6⟩:=hv.cut s 5 (iG hs);obtain ⟨ca',f1,f2,f3⟩:=hh.cells s 5 (iG hs) ca t (0,0) e2;have hb:∀o,5<=o->bO.cell? ⟨s,o,none⟩=wa.cell? ⟨s,o,none⟩/\bO.frozen? ⟨s,o,none⟩=wa.frozen? ⟨s,o,none⟩:=λo ho=>by
   unfold World.cell? World.frozen?;rw [e2,f1];simp only [f3 o (.inl ho),and_self]
  exact ⟨hb 5 (by omega),hb 6 (by omega)⟩
 ·have aI:c<wa.heap.size:=by
   obtain ⟨h,_⟩:=Array.getElem?_eq_some_iff.1 hcm;exact h
  rw [hh.chans c (iU.2 hc) aI];exact hcm
 ·have key:(∀x,(MemAct.ofEvent e).touch?=some x->(Z.sh x.loc->x.kind≠.plain)/\(x.write=true->∀g,¬Z.pr g x.loc)/\(x.kind=.said->h=0))/\∀s,Z.bP s->MemAct.ofEvent e≠.mark (.release (dE s)):=by
   rcases he e hee with aH|hmu
   rotate_left
   ·obtain ⟨h1,h2⟩:=gu hmu;exact ⟨λx hx=>(by rw [h1] at hx;cases hx),λs _=>h2 _⟩
   obtain ⟨l,wr,sy⟩:=e;cases l with
   |cell a=>
    refine ⟨λx hx=>?_,λs _=>fD (e:=⟨.cell a,wr,sy⟩) (λm x=>by cases x) _⟩;rw [ofEvent_cell0] at hx;simp only [MemAct.touch?,Option.some.injEq] at hx;subst hx;refine ⟨λfT=>?_,λhwr g hpr=>?_,by cases sy<;>simp⟩
    ·rcases fT with ⟨s,hs,e|e⟩|⟨g,k,_,e|e⟩
     ·have e:=Loc.cell.inj e;have:=(aH.2 5 (by rw [e];exact iG hs)).2.1;rw [e] at this;exact absurd this (by simp [dE])
     ·have e:=Loc.cell.inj e;have:=(aH.2 5 (by rw [e];exact iG hs)).2.1;rw [e] at this;exact absurd this (by simp [iD])
     ·cases e
     ·cases e
    ·obtain ⟨g',k,o,ho,hpo,e,_⟩:=hpr;have e:=Loc.cell.inj e;exact hw _ hee a rfl hwr ⟨g',k,ho,by rw [e],by rw [e];exact hpo⟩
   |obj r=>
    refine ⟨λx hx=>?_,λs _=>fD (e:=⟨.obj r,wr,sy⟩) (λm x=>by cases x) _⟩;have fI:x=⟨.obj r,wr,if sy then .atomic else .plain⟩:=by cases wr<;>cases sy<;>simp [MemAct.ofEvent,MemAct.touch?] at hx ⊢<;>exact hx.symm
    subst fI;refine ⟨λfT=>?_,λhwr g hpr=>?_,by cases sy<;>simp⟩
    ·have how:Z.rW r:=by
      rcases fT with ⟨s,hs,e|e⟩|⟨g,k,ho,e|e⟩
      ·cases e
      ·cases e
      ·exact ⟨g,k,ho,.inl (Loc.obj.inj e)⟩
      ·exact ⟨g,k,ho,.inr (Loc.obj.inj e)⟩
     rcases aH with h|⟨_,h|h⟩
     ·rw [iU.2 (.inr how)] at h;cases h
     ·simp only at h;subst h;simp
     ·rw [RF how] at h;cases h
    ·obtain ⟨g',k,o,ho,hpo,e,_⟩:=hpr;cases e
   |mark m=>
    cases m with
    |release a=>
     refine ⟨(λx hx=>by cases hx),λs hs e=>?_⟩;have e:a=dE s:=by cases e;rfl
     have:=aH.2 5 (by rw [e];exact iG hs);rw [e] at this;exact absurd this (by simp [dE])
    |read a=>exact aH.elim
    |write a=>exact aH.elim
    |_=>exact ⟨(λx hx=>by cases hx),λs _ e=>by cases e⟩
   |_=>refine ⟨λx hx=>?_,λs _=>fD (e:=⟨_,wr,sy⟩) (λm x=>by cases x) _⟩
       cases wr<;>cases sy<;>simp [MemAct.ofEvent,MemAct.touch?] at hx<;>subst hx<;>
        exact ⟨λfT=>(by rcases fT with ⟨s,hs,e|e⟩|⟨g,k,ho,e|e⟩<;>cases e),λhwr g hpr=>(by obtain ⟨g',k,o,ho,hpo,e,_⟩:=hpr;cases e),by simp⟩
  exact key
theorem Rk (bY:Z.Wf) {h d d':Nat} {wv' wa bO:World} {es:Array Event} (hv:Vw (Z.cut N ty 2) wv wa) (R:Hy (Z.cut N ty 2) d d' wv' wa bO es):JP Z Z.ic h d d' wa bO es:=by
 refine Jk bY hv R (λa v hp hc=>?_) (λe he a hl hw hp=>?_)
 ·obtain ⟨g,k,hk,hb,ho⟩:=hp;obtain ⟨cv,ca,t,f1,f2,f3,f4,f5,f6⟩:=hv.cut k.r 16 (lH bY hk);obtain ⟨ca',g1,g2,g3⟩:=R.2.1.cells k.r 16 (lH bY hk) ca t (0,0) f2;unfold World.cell? at hc ⊢;rw [hb] at hc ⊢;rw [f2] at hc;rw [g1];simp only at hc ⊢;have:ca'[a.off]? =ca[a.off]? :=by
   rw [zN bY hk] at g3;simp only [Vg] at g3;rcases ho with e|e|e<;>exact g3 _ (.inr (by omega))
  rw [this];exact hc
 ·obtain ⟨g,k,hk,hb,ho⟩:=hp;have h0:=R.2.2.1 e he;obtain ⟨l,wr,sy⟩:=e;simp only at hl hw;subst hl;subst hw;rcases h0 with h0|h0
  rotate_left
  ·cases h0
  have q0:=(h0.2 16 (by rw [hb];exact lH bY hk)).2.2 rfl;rw [hb,zN bY hk] at q0;simp only [Vg] at q0;rcases ho with e|e|e<;>omega
end
end Co
end
section
open Go.ConcN (sumTo upd sumTo_upd upd_ne upd_same RelBy)
namespace Co
open Kv Ka Ky
def Cy.pass (K:Cy) (j:Nat) (xh:Option Sd):Cy:={K with h:=j,σ:=upd K.σ K.h xh,R:=λ_ _=>True}
def opn (w:World) (c:Nat):Prop:=∃m,w.heap[c]? =some (.chan 0 #[] false m m false)
theorem xW {w:World} {c k x:Nat} (hc:w.heap[c]? =some (.chan 0 #[] false k k false)) (h:opn w x):opn (w.setChan c 0 #[] false (k+1) (k+1) false) x:=by
 obtain ⟨m,hm⟩:=h;unfold opn;rw [ja];by_cases e:c=x/\x<w.heap.size
 ·rw [if_pos e];exact ⟨k+1,rfl⟩
 ·rw [if_neg e];exact ⟨m,hm⟩
section
variable {P:Program} {Post:Value->World->Prop} {Z:Gh} {b s p m h n:Nat} {ρ:Nat->aU} {wt sm:Nat} {t:Trace} {gs:Array Goroutine} {w w':World} {q:Nat->Nat} {K:Cy} {a a₂:Goroutine}
theorem Cy.uh (K:Cy) (aH:K.Ok) (a:EH K.σ K.h K.n ρ) {i c:Nat} {z:Value} {ok:Bool} {home:Goroutine->Prop} (e:ρ i=.fq c z ok home):i≠K.h/\i<K.n/\((0<i/\∃k,K.Z.own i=some k/\c=k.o)\/(i=0/\∃k,K.Z.own K.h=some k/\c=k.a)):=by
 have hi:i≠K.h:=λhi=>by subst hi;rw [a.1] at e;cases e
 rcases Nat.lt_or_ge i K.n with hn|hn
 rotate_left
 ·rw [(a.2 i hi).2 hn] at e;cases e
 refine ⟨hi,hn,?_⟩;have:=(a.2 i hi).1 hn;unfold Sat at this;cases hx:K.σ i with
 |none=>rw [hx,e] at this;exact this.elim
 |some x=>
  rw [hx,e] at this;have VH:x.c=c:=by cases this;rfl
  rcases Nat.eq_zero_or_pos i with rfl|h0
  ·obtain ⟨k,hk,e'⟩:=aH.mn x hx hi;exact .inr ⟨rfl,k,hk,VH.symm.trans e'⟩
  ·obtain ⟨k,hk,e'⟩:=aH.wk i x hn hx hi h0;exact .inl ⟨h0,k,hk,VH.symm.trans e'⟩
theorem Cy.Ht (K:Cy) (aH:K.Ok) (bY:K.Z.Wf) (a:EH K.σ K.h K.n ρ):(∀i j c z ok home z' ok' ym,ρ i=.fq c z ok home->ρ j=.fq c z' ok' ym->i=j)/\
 (∀i k j c z ok home,ρ i=.leave .a->K.Z.own i=some k->ρ j=.fq c z ok home->c≠k.a)/\(∀i k j k',ρ i=.leave .a->K.Z.own i=some k->ρ j=.leave .a->K.Z.own j=some k'->k.a=k'.a->i=j):=by
 refine ⟨λi j c z ok home z' ok' ym e e'=>?_,λi k j c z ok home e hk e'=>?_,λi k j k' _ hk _ lh e=>(bY.Eo i k j k' hk lh).2.2 e⟩
 ·obtain ⟨_,_,h1⟩:=K.uh aH a e;obtain ⟨_,_,h2⟩:=K.uh aH a e';rcases h1 with ⟨_,k1,o1,c1⟩|⟨rfl,k1,o1,c1⟩<;>rcases h2 with ⟨_,k2,o2,c2⟩|⟨rfl,k2,o2,c2⟩
  ·exact (bY.Eo i k1 j k2 o1 o2).2.1 (c1.symm.trans c2)
  ·exact absurd (c1.symm.trans c2) (bY.Eo i k1 K.h k2 o1 o2).1
  ·exact absurd (c2.symm.trans c1) (bY.Eo j k2 K.h k1 o2 o1).1
  ·rfl
 ·obtain ⟨_,_,h2⟩:=K.uh aH a e';rcases h2 with ⟨_,k2,o2,c2⟩|⟨rfl,k2,o2,c2⟩
  ·rw [c2];exact (bY.Eo j k2 i k o2 hk).1
  ·intro ex;have:=(bY.Eo K.h k2 i k o2 hk).2.2 (c2.symm.trans ex);subst this;rw [a.1] at e;cases e
theorem Td.quiet {h':Nat} {ρ':Nat->aU} {u:Trace} (H:Td Z b s p h n ρ t) (VM:PX Z.sh Z.pr Z.me h' (t++u)) (hn:∀op∈u,op.act.touch?=none/\op.act≠.mark (.release (dE s))) (hq:∀g,∀op∈u,∀d,deafStep g d op=d) (hr:∀i,(ρ' i).rel=true->(ρ i).rel=true/\∀op∈u,op.g≠i) (hgn:∀op∈u,op.g<n):Td Z b s p h' n ρ' (t++u):=by
 refine ⟨λj hj=>?_,λx g hx=>?_,VM,λx g hx h0 hb hc=>?_,λj hj uZ hrj=>?_,λhz x hx e=>?_,by have:=H.ple;simp only [Array.size_append];omega⟩
 ·rw [Deaf_quiet (hq j)];exact H.above j hj
 ·obtain ⟨op,ho,hog⟩:=Option.map_eq_some_iff.1 hx;rcases getElem?_append_cases ho with ⟨lC,Jl⟩|⟨_,JX⟩
  ·exact H.nL x g (by rw [<-g?_old (u:=u) lC];exact hx)
  ·rw [<-hog];exact hgn op JX
 ·obtain ⟨op,ho,hog⟩:=Option.map_eq_some_iff.1 hx;rcases getElem?_append_cases ho with ⟨lC,Jl⟩|⟨_,JX⟩
  ·have fI:t.g? x=some g:=by rw [<-g?_old (u:=u) lC];exact hx
   obtain ⟨j,hj,kz⟩:=H.ho x g fI h0 hb ((Go.Conc.counts_old lC).1 hc);have hjl:j<t.size:=by obtain ⟨z,hz,_⟩:=Option.map_eq_some_iff.1 hj;exact lt_size_of_getElem? hz
   exact ⟨j,by rw [g?_old hjl];exact hj,hb_app u kz⟩
  ·obtain ⟨a,ha,_⟩:=hc;obtain ⟨act,ZP,iX⟩:=Option.bind_eq_some_iff.1 ha;obtain ⟨op',Jl,rfl⟩:=Option.map_eq_some_iff.1 ZP;rw [ho] at Jl;obtain rfl:=Option.some.inj Jl;rw [(hn op JX).1] at iX;cases iX
 ·obtain ⟨h1,h2⟩:=hr j hrj;obtain ⟨r,hp,jf⟩:=H.rel j hj uZ h1;exact ⟨r,hp,jf.appNot h2⟩
 ·obtain ⟨op,ho,hoa⟩:=Option.map_eq_some_iff.1 e;rcases getElem?_append_cases ho with ⟨lC,Jl⟩|⟨_,JX⟩
  ·exact H.norel hz x hx (by rw [<-act?_old (u:=u) lC];exact e)
  ·exact (hn op JX).2 hoa
theorem Core.pass (C:Core P K.Z K.b K.s p K.m K.h ρ wt sm t gs w q) {j:Nat} {xh:Option Sd} {rh:aU} (aH:K.Ok) (Be:(K.pass j xh).Ok) (bW:gs.size=K.n) (gW:EH K.σ K.h K.n ρ) (bz:Calm ρ wt sm) {x:Sd} (hj:K.σ j=some x) (MG:j≠K.h) (uZ:j<K.n)
 (pJ:Sat xh rh) (hrh:(∃c z ok home,rh=.fq c z ok home)\/rh=.leave .a) {k:Nat} (hc:w.heap[x.c]? =some (.chan 0 #[] false k k false)) {jA:Array Goroutine} {H':Goroutine} {u:Trace} (qV:jA.size=gs.size) (DZ:∀y,y≠K.h->y≠j->jA[y]? =gs[y]?) (hH:jA[K.h]? =some H')
 (ZB:∀y,Deaf (t++u) y=Deaf t y) {nh:Nat} (Jp:Idle P K.Z (t++u) K.h nh H' rh) (VM:PX K.Z.sh K.Z.pr K.Z.me j (t++u)) (hn:∀op∈u,op.act.touch?=none/\op.act≠.mark (.release (dE K.s))) (hq:∀g,∀op∈u,∀d,deafStep g d op=d) (hu:∀op∈u,op.g=K.h\/op.g=j):
 ∃ρ',EH (K.pass j xh).σ j K.n ρ'/\Calm ρ' wt sm/\Core P K.Z K.b K.s p K.m j ρ' wt sm (t++u) jA (w.setChan x.c 0 #[] false (k+1) (k+1) false) (upd q K.h nh):=by
 have hρj:ρ j=.fq x.c x.z x.ok x.home:=by have:=(gW.2 j MG).1 uZ;unfold Sat at this;rw [hj] at this;exact this
 have MQ:rh.cnt=1/\rh.kQ=false/\rh.rel=false:=by rcases hrh with ⟨c,z,ok,home,rfl⟩|rfl<;>exact ⟨rfl,rfl,rfl⟩
 let ρ':=upd (upd ρ j .hold) K.h rh;have eh:ρ' K.h=rh:=upd_same _ _ _;have ej:ρ' j=.hold:=by show upd _ _ _ _=_;rw [upd_ne _ _ MG,upd_same]
 have eo:∀i,i≠K.h->i≠j->ρ' i=ρ i:=λi h1 h2=>by show upd _ _ _ _=_;rw [upd_ne _ _ h1,upd_ne _ _ h2]
 have qy:EH (K.pass j xh).σ j K.n ρ':=by
  refine ⟨ej,λi hi=>?_⟩;by_cases e:i=K.h
  ·subst e;refine ⟨λ_=>?_,λhx=>absurd aH.lt (by omega)⟩;rw [eh];show Sat (upd K.σ K.h xh K.h) rh;rw [upd_same];exact pJ
  ·rw [eo i e hi];show (_->Sat (upd K.σ K.h xh i) _)/\_;rw [upd_ne _ _ e];exact gW.2 i e
 have qx:Calm ρ' wt sm:=(bz.upd (r':=.hold) rfl).upd MQ.2.1;have nk:∀i,(ρ' i).cnt=(ρ i).cnt:=λi=>by
  by_cases e:i=K.h
  ·subst e;rw [eh,MQ.1,gW.1];rfl
  ·by_cases e2:i=j
   ·subst e2;rw [ej,hρj];rfl
   ·rw [eo i e e2]
 have aAc:cnt ρ' K.b K.m=cnt ρ K.b K.m:=by unfold cnt;congr 1;funext i;rw [nk i]
 obtain ⟨GQ,BG,Pn⟩:=(K.pass j xh).Ht Be C.wf qy;have aEh:∀i k',i<gs.size->K.Z.own i=some k'->(ρ' i).alive->opn w k'.o/\opn w k'.a:=λi k' hi ho zH=>by
  refine C.wd.both i k' hi ho ?_;by_cases e:i=K.h
  ·subst e;rw [gW.1];trivial
  ·by_cases e2:i=j
   ·subst e2;rw [hρj];trivial
   ·rw [<-eo i e e2];exact zH
 have hhn:K.h<gs.size:=by rw [bW];exact aH.lt
 have hbh:∀k',K.Z.own K.h=some k'->opn w k'.o/\opn w k'.a:=λk' ho=>C.wd.both K.h k' hhn ho (by rw [gW.1];trivial);refine ⟨ρ',qy,qx,C.wf,C.pos,by rw [qV];exact C.ge,λy g hy hg=>?_,?_,?_⟩
 ·by_cases e:y=K.h
  ·subst e;rw [hH] at hg;obtain rfl:=Option.some.inj hg;rw [upd_same,eh];exact Jp
  ·rw [DZ y e hy] at hg;rw [upd_ne q nh e,eo y e hy];have hi:=C.idle y g e hg;revert hi;cases ρ y with
   |quit=>intro h;exact ⟨h.1,by rw [ZB];exact h.2⟩
   |hold=>exact id
   |fq c z ok home=>intro h;exact ⟨(ZB y).trans h.1,h.2⟩
   |leave st=>intro h;exact ⟨h.1,by rw [ZB];exact h.2⟩
 ·rw [qV];refine ⟨⟨λi c z ok home e=>xW hc ?_,λi k' e ho=>xW hc ?_,GQ,BG,Pn,zT C.wd.keep ⟨_,hc,rfl⟩,λi k' hi ho zH=>⟨xW hc (aEh i k' hi ho zH).1,xW hc (aEh i k' hi ho zH).2⟩,λi k' hi ho u7=>xW hc (C.wd.Dm i k' hi ho u7),C.wd.own,λi st e=>?_⟩,⟨λhb=>?_,λhb=>?_,by rw [aAc];exact C.wd.J5,C.wd.NF,C.wd.ND,λi hi=>?_,λi hi=>?_,λi i' h1 h2=>?_⟩⟩
  ·by_cases e1:i=K.h
   ·obtain ⟨_,_,h2⟩:=(K.pass j xh).uh Be qy e;rcases h2 with ⟨_,k',ho,rfl⟩|⟨_,k',ho,rfl⟩
    ·rw [e1] at ho;exact (hbh k' ho).1
    ·exact (C.wd.both j k' (by rw [bW];exact uZ) ho (by rw [hρj];trivial)).2
   ·by_cases e2:i=j
    ·subst e2;rw [ej] at e;cases e
    ·rw [eo i e1 e2] at e;exact C.wd.chans i c z ok home e
  ·by_cases e1:i=K.h
   ·rw [e1] at ho;exact (hbh k' ho).2
   ·by_cases e2:i=j
    ·subst e2;rw [ej] at e;cases e
    ·rw [eo i e1 e2] at e;exact C.wd.ans i k' e ho
  ·by_cases e1:i=K.h
   ·subst e1;rw [eh] at e;subst e;have:=Jp.1;exact ⟨by rcases aH.hb with x|x<;>omega,hhn⟩
   ·by_cases e2:i=j
    ·subst e2;rw [ej] at e;cases e
    ·rw [eo i e1 e2] at e;exact C.wd.UD i st e
  ·obtain ⟨e1,e2⟩:=jd (b':=false) (m:=k+1) (m':=k+1) (c:=x.c) (w:=w) ⟨_,hc,rfl⟩ (dE K.s);rw [e1,e2,aAc];exact C.wd.sI hb
  ·obtain ⟨e1,e2⟩:=jd (b':=false) (m:=k+1) (m':=k+1) (c:=x.c) (w:=w) ⟨_,hc,rfl⟩ (iD K.s);rw [e1,e2];exact C.wd.wh hb
  ·have:=qx.2.2 i;rcases hi with hi|hi<;>rw [hi] at this<;>cases this
  ·have:=qx.2.2 i;rw [hi] at this;cases this
  ·rw [qx.2.2 i] at h1;cases h1
 ·rw [qV];refine C.td.quiet VM hn hq (λi hi=>?_) λop dC=>by rcases hu op dC with x|x<;>rw [x]<;>omega
  by_cases e1:i=K.h
  ·rw [e1,eh,MQ.2.2] at hi;cases hi
  ·by_cases e2:i=j
   ·rw [e2,ej] at hi;cases hi
   ·rw [eo i e1 e2] at hi;exact ⟨hi,λop dC=>by rcases hu op dC with x|x<;>rw [x]<;>first|exact λy=>e1 y.symm|exact λy=>e2 y.symm⟩
end
end Co
end
section
open Go.ConcN (sumTo upd sumTo_upd upd_ne upd_same RelBy)
namespace Co
open Kv Ka Ky
section
variable {P:Program} {Post:Value->World->Prop} {Z:Gh} {b s p m h n:Nat} {ρ:Nat->aU} {wt sm:Nat} {t:Trace} {gs:Array Goroutine} {w w':World} {q:Nat->Nat} {K:Cy} {a a₂:Goroutine}
theorem Core.more (C:Core P Z b s p m h ρ wt sm t gs w q) {i:Nat} (aI:i<gs.size) (jZ:i<b->i=0) (hr:(ρ i).rel=false) {fn:FuncId} {pos:String} {es:Array Event} (yo:∀e∈es,EvR (Z.pr i) e):Core P Z b s p m h ρ wt sm (t++MemOp.ofEvents i fn pos es) gs w q/\∀y,Deaf (t++MemOp.ofEvents i fn pos es) y=Deaf t y:=by
 obtain ⟨_,_,hd⟩:=BK (i:=i) (fn:=fn) (pos:=pos) yo;have hD:∀y,Deaf (t++MemOp.ofEvents i fn pos es) y=Deaf t y:=λy=>by
  by_cases e:y=i
  ·subst e;exact hd t
  ·exact Deaf_other t (λz=>e z.symm) _ gX
 refine ⟨⟨C.wf,C.pos,C.ge,λx y hx hy=>?_,C.wd,C.td.reads C.wf aI jZ hr yo⟩,hD⟩;have hi:=C.idle x y hx hy;revert hi;cases ρ x with
 |quit=>intro h;exact ⟨h.1,by rw [hD];exact h.2⟩
 |hold=>exact id
 |fq c z ok home=>intro h;exact ⟨(hD x).trans h.1,h.2⟩
 |leave st=>intro h;exact ⟨h.1,by rw [hD];exact h.2⟩
theorem Core.setH (C:Core P Z b s p m h ρ wt sm t gs w q) (x:Goroutine):Core P Z b s p m h ρ wt sm t (gs.setIfInBounds h x) w q:=by refine ⟨C.wf,C.pos,by simpa using C.ge,λi y hi hy=>?_,by simpa using C.wd,by simpa using C.td⟩;rw [Array.getElem?_setIfInBounds_ne (λe=>hi e.symm)] at hy;exact C.idle i y hi hy
theorem WT.give {j:Nat} {x:Sd} {xh:Option Sd} {rh:aU} {v z':Value} (aH:K.Ok) (Be:(K.pass j xh).Ok) (hj:K.σ j=some x) (MG:j≠K.h) (uZ:j<K.n) (pJ:Sat xh rh) (hrh:(∃c z ok home,rh=.fq c z ok home)\/rh=.leave .a) (bJ:a.status=.running)
 (hsend:∀w',aQ K.Z w w'->K.Z.K w'->∃es,stepG P (K.h==0) a w'=.comm a₂ #[scase x.c v z'] true .send w' es/\∀e∈es,EvR (K.Z.pr K.h) e)
 {nh:Nat} (Jp:∀t',Deaf t' K.h=0->Idle P K.Z t' K.h nh (Go.Conc.served a₂ undef) rh)
 (hn:∀g₂ w',x.home g₂->aQ K.Z w w'->K.Z.K w'->WT P Post (K.pass j xh) 0 (Go.Conc.served g₂ (recvd x.ok v true)) w'):WT P Post K 0 a w:=by
 have fin:∀gs₁ w₁ t₁ ρ₁ p q₁ (sl₁:Option (Nat×Nat)) g₂ jA k,gs₁.size=K.n->Core P K.Z K.b K.s p K.m K.h ρ₁ 0 0 t₁ gs₁ w₁ q₁->EH K.σ K.h K.n ρ₁->Calm ρ₁ 0 0->Deaf t₁ K.h=0->aQ K.Z w w₁->x.home g₂->w₁.heap[x.c]? =some (.chan 0 #[] false k k false)->jA.size=gs₁.size->(∀y,y≠K.h->y≠j->jA[y]? =gs₁[y]?)->
  jA[K.h]? =some (Go.Conc.served a₂ undef)->jA[j]? =some (Go.Conc.served g₂ (recvd x.ok v true))->iW P Post (crowd jA (w₁.setChan x.c 0 #[] false (k+1) (k+1) false) sl₁) (t₁++met K.h j a₂.frame.fn a₂.frame.place g₂.frame.fn g₂.frame.place x.c k 0):=by
  intro gs₁ w₁ t₁ ρ₁ p q₁ sl₁ g₂ jA k bW C gW bz hd0 iF Zu hc qV DZ hH hJ;have hρj:ρ₁ j=.fq x.c x.z x.ok x.home:=by have:=(gW.2 j MG).1 uZ;unfold Sat at this;rw [hj] at this;exact this
  have hmq:=λg=>met_quiet K.h j a₂.frame.fn a₂.frame.place g₂.frame.fn g₂.frame.place x.c k 0 g;have hD:∀y,Deaf (t₁++met K.h j a₂.frame.fn a₂.frame.place g₂.frame.fn g₂.frame.place x.c k 0) y=Deaf t₁ y:=λy=>Deaf_quiet (hmq y);have hdj:Deaf t₁ j=0:=by
   have aI:j<gs₁.size:=by omega
   have:=C.idle j _ MG (Array.getElem?_eq_getElem aI);rw [hρj] at this;exact this.1
  obtain ⟨ρ',h1,h2,h3⟩:=C.pass (nh:=nh) aH Be bW gW bz hj MG uZ pJ hrh hc qV DZ hH hD (Jp _ ((hD _).trans hd0)) (C.td.px.give hd0 hdj _ _ _ _ _ _ _ (λ_ _ h=>h) (λ_ _ h _=>h))
   (λop dC=>⟨met_mute _ _ _ _ _ _ _ _ _ op dC,by simp only [met,List.mem_toArray,List.mem_cons,List.not_mem_nil,or_false] at dC;rcases dC with rfl|rfl|rfl|rfl<;>exact λx=>by cases x⟩) hmq
   (λop dC=>by simp only [met,List.mem_toArray,List.mem_cons,List.not_mem_nil,or_false] at dC;rcases dC with rfl|rfl|rfl|rfl<;>simp)
  have gN:K.Z.rW x.c:=by
   obtain ⟨_,_,h2⟩:=K.uh aH gW hρj;rcases h2 with ⟨_,k',ho,e⟩|⟨_,k',ho,e⟩
   ·exact ⟨_,k',ho,.inl e⟩
   ·exact ⟨_,k',ho,.inr e⟩
  exact hn g₂ _ Zu (iF.trans (Aside.setChan gN hc).d) h3.wd.keep jA _ _ sl₁ ρ' p (by show jA.size=K.n;omega) hJ h1 h2 h3 ((hD j).trans hdj) trivial
 have wait:∀(μ:Nat) gs₁ w₁ t₁ ρ₁ p q₁ (sl₁:Option (Nat×Nat)),gs₁.size=K.n->gs₁[K.h]? =some (parked a₂ #[scase x.c v z'] .send)->Core P K.Z K.b K.s p K.m K.h ρ₁ 0 0 t₁ gs₁ w₁ q₁->EH K.σ K.h K.n ρ₁->Calm ρ₁ 0 0->Deaf t₁ K.h=0->aQ K.Z w w₁->0<q₁ j->sumTo gs₁.size q₁=μ->iW P Post (crowd gs₁ w₁ sl₁) t₁:=by
  intro μ
  induction μ using Nat.strongRecOn with
  |ind μ ih=>
   intro gs₁ w₁ t₁ ρ₁ p q₁ sl₁ bW ha C gW bz hd0 iF hq hμ;have hρj:ρ₁ j=.fq x.c x.z x.ok x.home:=by have:=(gW.2 j MG).1 uZ;unfold Sat at this;rw [hj] at this;exact this
   have U3:j<gs₁.size:=by omega
   obtain ⟨gj,hgj⟩:∃gj,gs₁[j]? =some gj:=⟨gs₁[j],Array.getElem?_eq_getElem U3⟩
   have Zr:=C.idle j gj MG hgj;rw [hρj] at Zr;obtain ⟨hdj,hSj⟩:=Zr;have aKM:gj.status=.running:=(ik.status C.wd.keep.1 hSj).elim (·.1) (λz=>by omega);obtain ⟨k,hc⟩:=C.wd.chans j x.c x.z x.ok x.home hρj;obtain ⟨i,g,d,jQ,hi,hg,dN⟩:=crowd_pick (P:=P) (w:=w₁) (sl:=sl₁) (C.awake ha (.inr rfl)) ⟨j,gj,hgj,aKM⟩;have Cd:=C.at d;have hih:i≠K.h:=by rintro rfl;rw [ha] at hi;obtain rfl:=Option.some.inj hi;cases hg
   have G7:=iF.trans (aQ.Rz K.Z w₁ d);by_cases ej:i=j/\∃g₂,kL P (i==0) K.Z.K0 (K.Z.pr i) x.c x.z x.ok x.home g g₂
   ·obtain ⟨rfl,g₂,iX⟩:=ej;obtain ⟨_,_,_,_,Zu,es,yo,jw⟩:=iX;have hcd:(w₁.at d).heap[x.c]? =some (.chan 0 #[] false k k false):=hc;have hp:partners (gs₁.setIfInBounds i ph) x.c true=[(K.h,0)]:=by
     rw [partners_one (stand_get (Ne.symm MG) ha) λy gy hyh hy=>by
      rcases getElem?_stand gs₁ i y gy hy with ⟨_,rfl⟩|⟨_,hy'⟩
      ·exact offersAt_ph _ _
      ·exact (C.idle y gy hyh hy').noSend C.wd.keep _]
     simp [offersAt_parked_send]
    obtain ⟨C2,hD2⟩:=Cd.more (i:=i) (fn:=g.frame.fn) (pos:=g.frame.place) U3 (K.low aH gW i _ _ _ _ hρj) (by rw [hρj];rfl) yo;refine iW.next (dN.trans (crowd_recv_meets (sl:=jQ) hi (jw _ Cd.wd.keep.1) hcd (Ne.symm MG) ha hp)) ?_;rw [<-Array.append_assoc];refine fin gs₁ (w₁.at d) _ ρ₁ p q₁ jQ g₂ _ k bW C2 gW bz ((hD2 _).trans hd0) G7 Zu hcd (by simp) (λy hy hyj=>?_) ?_ ?_
    ·rw [Array.getElem?_setIfInBounds_ne (λz=>hyj z.symm),Array.getElem?_setIfInBounds_ne (λz=>hy z.symm)]
    ·rw [Array.getElem?_setIfInBounds_ne MG,Array.getElem?_setIfInBounds_self_of_lt (by rw [bW];exact aH.lt),finishComm_send]
    ·rw [Array.getElem?_setIfInBounds_self_of_lt (by simpa using U3),finishComm_recv]
   ·obtain ⟨jA,w',ops,r',n',wt',sm',h1,h2,h3,h4,h5,h6,h7,h8,hsw,h9,Ay⟩:=by_step (sl:=jQ) Cd hi hih hg ((K.low aH gW) i) λc z ok home g₂ gx hr iX MI=>by
     rw [ha] at MI;obtain rfl:=Option.some.inj MI;rw [offersAt_parked_send,if_neg];intro ec;have wV:i=j:=C.wd.uS i j c z ok home x.z x.ok x.home hr (ec▸hρj);subst wV;rw [hρj] at hr;cases hr;exact ej ⟨rfl,g₂,iX⟩
    obtain ⟨e1,e2,BI⟩:=h8.calm bz;subst e1;subst e2;have qX:∃k',w'.heap[x.c]? =some (.chan 0 #[] false k' k' false):=h3.wd.chans j x.c x.z x.ok x.home (by
     have:=(h7.aA j)
     rcases this with e|⟨⟨st,e⟩,_⟩
     ·rw [e];exact hρj
     ·rw [hρj] at e;cases e)
    refine iW.next (dN.trans h1) (ih (sumTo jA.size (upd q₁ i n')) ?_ jA w' _ _ p _ jQ (h2.trans bW) ?_ h3 (gW.aA h7.aA) ⟨rfl,rfl,BI⟩ ?_ (G7.trans h5.d) ?_ rfl)
    ·rw [h2,<-hμ];exact vE (Array.getElem?_eq_some_iff.1 hi).1 h4
    ·rcases h6 _ ha with y|y
     ·exact y
     ·obtain ⟨k',lh⟩:=qX;rw [y,again_send_open lh]
    ·rw [Deaf_other t₁ (g':=i) hih ops h9];exact hd0
    ·by_cases wV:j=i
     ·subst wV;rw [upd_same];rcases Nat.eq_zero_or_pos n' with h0|h0
      ·obtain ⟨g₂,iX⟩:=Ay _ _ _ _ hρj h0;exact absurd ⟨rfl,g₂,iX⟩ ej
      ·exact h0
     ·rw [upd_ne _ _ wV];exact hq
 intro gs t q sl ρ p bW ha gW bz C hd _;refine picked bJ (λgs₁ w₁ w₂ t₁ ρ₁ wt' sm' q₁ sl₁ jQ hsz₁ ha₁ C₁ lD hc₁ Ji iF EG _ dN=>?_) ha C (K.low aH gW);obtain ⟨e1,e2,BI⟩:=hc₁.calm bz;subst e1;subst e2;have hag₁:=gW.aA lD;have hρj:ρ₁ j=.fq x.c x.z x.ok x.home:=by have:=(hag₁.2 j MG).1 uZ;unfold Sat at this;rw [hj] at this;exact this
 have aJ4:gs₁.size=K.n:=hsz₁.trans bW;have U3:j<gs₁.size:=by omega
 have aGn:K.h<gs₁.size:=by have:=aH.lt;omega
 obtain ⟨gj,hgj⟩:∃gj,gs₁[j]? =some gj:=⟨gs₁[j],Array.getElem?_eq_getElem U3⟩
 have Zr:=C₁.idle j gj MG hgj;rw [hρj] at Zr;obtain ⟨hdj,hSj⟩:=Zr;obtain ⟨k,hc⟩:=C₁.wd.chans j x.c x.z x.ok x.home hρj;obtain ⟨es,hgo,yo⟩:=hsend w₂ iF C₁.wd.keep;obtain ⟨C2,hD2⟩:=C₁.more (i:=K.h) (fn:=a.frame.fn) (pos:=a.frame.place) aGn (λhb=>by rcases aH.hb with y|y<;>omega) (by rw [hag₁.1];rfl) yo;have uL:Deaf (t₁++MemOp.ofEvents K.h a.frame.fn a.frame.place es) K.h=0:=(hD2 _).trans (EG.trans hd);have nP:∀(y:Nat) (gy:Goroutine),y≠j->(gs₁.setIfInBounds K.h ph)[y]? =some gy->offersAt gy x.c false=[]:=by
  intro y gy hyj hy;rcases getElem?_stand gs₁ K.h y gy hy with ⟨_,rfl⟩|⟨hyh,hy'⟩
  ·exact offersAt_ph _ _
  ·exact (C₁.idle y gy hyh hy').aFE C₁.wd.keep λz ok home e=>hyj (C₁.wd.uS y j x.c z ok home x.z x.ok x.home e hρj)
 rcases hSj with ⟨kk,w₀,hq,hG⟩|⟨hq0,g₀,g₂,rfl,iX⟩
 ·have hjr:gj.status=.running:=(ik.status C₁.wd.keep.1 (.inl ⟨kk,w₀,hq,hG⟩)).elim (·.1) (λz=>by omega);have hp:partners (gs₁.setIfInBounds K.h ph) x.c false=[]:=partners_nil λy gy hy=>by
   by_cases hyj:y=j
   ·subst hyj;rw [stand_get MG hgj] at hy;obtain rfl:=Option.some.inj hy;exact offersAt_of_not_blocked (by rw [hjr];simp) _ _
   ·exact nP y gy hyj hy
  have hw:∀cc∈#[scase x.c v z'],NoWays w₂ (gs₁.setIfInBounds K.h ph) cc:=by intro cc Av;simp only [List.mem_toArray,List.mem_cons,List.not_mem_nil,or_false] at Av;subst Av;exact ways_send_none hc (Nat.le_refl _) hp
  exact iW.next (dN.trans (crowd_waits (sl:=jQ) ha₁ hgo hw)) (wait _ _ _ _ ρ₁ p q₁ jQ (by simpa using aJ4) (Array.getElem?_setIfInBounds_self_of_lt aGn) (C2.setH _) hag₁ ⟨rfl,rfl,BI⟩ uL iF (by omega) rfl)
 ·have hp:partners (gs₁.setIfInBounds K.h ph) x.c false=[(j,0)]:=by
   rw [partners_one (stand_get MG hgj) λy gy hyj hy=>nP y gy hyj hy,offersAt_parked_recv];simp
  refine iW.next (dN.trans (crowd_send_meets (sl:=jQ) ha₁ hgo hc MG hgj hp)) ?_;rw [<-Array.append_assoc];refine fin gs₁ w₂ _ ρ₁ p q₁ jQ g₂ _ k aJ4 C2 hag₁ ⟨rfl,rfl,BI⟩ uL iF iX.2.2.2.2.1 hc (by simp) (λy hy hyj=>?_) ?_ ?_
  ·rw [Array.getElem?_setIfInBounds_ne (λz=>hy z.symm),Array.getElem?_setIfInBounds_ne (λz=>hyj z.symm)]
  ·rw [Array.getElem?_setIfInBounds_self_of_lt (by simpa using aGn),finishComm_send]
  ·rw [Array.getElem?_setIfInBounds_ne (λz=>MG z.symm),Array.getElem?_setIfInBounds_self_of_lt U3,finishComm_recv]
end
end Co
end
end
end Go.Proofs.YtmanpggemmgnnaaGreatDoor
