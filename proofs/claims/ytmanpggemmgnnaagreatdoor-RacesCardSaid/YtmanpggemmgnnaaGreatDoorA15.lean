/- Races: a part. Conditions: none. -/
import Derived.Test.YtmanpggemmgnnaaGreatDoorA12
import Derived.Test.YtmanpggemmgnnaaGreatDoorA14
set_option linter.all false
set_option maxHeartbeats 8000000
set_option maxRecDepth 1000000
namespace Go.Proofs.YtmanpggemmgnnaaGreatDoor
noncomputable section
open Go Go.Conc
theorem k15 {p:Prop} (h:p:=by kernel_rfl):p:=h
section
open Go.ConcN (sumTo upd sumTo_upd upd_ne upd_same RelBy)
namespace Co
open Kv Ka Ky
section
variable {P:Program} {Post:Value->World->Prop} {K:Cy} {Z:Gh} {N:Code->Prop} {ty:TypeId->Prop}
theorem WT.sim {cs:List Frame} {Stop:Frame->World->Prop} (aH:K.Ok) (bY:K.Z.Wf) {fr:Frame} {csl:List Frame} {wv:World} {d:Nat} (H:kJ P (K.Z.cut N ty 2) (K.h==0) cs Stop fr csl wv d) (hn:∀fr' wv' w',Stop fr' wv'->Vw (K.Z.cut N ty 2) wv' w'->WT P Post K 0 (G fr' cs) w'):∀{w:World},Vw (K.Z.cut N ty 2) wv w->WT P Post K d (G fr (csl++cs)) w:=by
 induction H with
 |stop h=>intro w hv;exact hn _ _ _ h hv
 |step n h ih0 ih=>intro w hv;refine WT.step aH rfl λw' ha _=>?_;have iM:=dm hv ha;obtain ⟨bO,es,e,R⟩:=h w' iM;exact ⟨_,bO,es,_,e,Rk bY iM R,ih w' iM R.1⟩
theorem WT.walk (aH:K.Ok) (bY:K.Z.Wf) {cs:List Frame}:∀(n:Nat) {fr fr':Frame} {csl csl':List Frame} {an nM:List An} {jX:List (FuncId×List Io)} {wv wv':World} {d d':Nat},Ky.walk P n fr csl an=some (fr',csl',nM,jX)->nC P (K.Z.cut N ty 2) jX wv wv' d d'->
 (∀w',Vw (K.Z.cut N ty 2) wv' w'->WT P Post K d' (G fr' (csl'++cs)) w')->∀w,Vw (K.Z.cut N ty 2) wv w->WT P Post K d (G fr (csl++cs)) w
 |0,fr,fr',csl,csl',an,nM,jX,wv,wv',d,d',h,hb,hn=>by
  simp only [Ky.walk,Option.some.injEq,Prod.mk.injEq] at h;obtain ⟨rfl,rfl,rfl,rfl⟩:=h;obtain ⟨rfl,rfl⟩:=hb;exact hn
 |n+1,fr,fr',csl,csl',an,nM,jX,wv,wv',d,d',h,hb,hn=>by
  simp only [Ky.walk] at h;split at h
  ·cases h
  ·rename_i Bj NQ VV io lT;split at h
   ·cases h
   ·rename_i fr2 cs2 as2 Mf hw;cases h;obtain ⟨w1,ll,gQ⟩:=hb;intro w hv;refine WT.step aH rfl λw' ha _=>?_;have iM:=dm hv ha;obtain ⟨bO,h1,h2,h3,h4⟩:=NW io ll iM;exact ⟨_,bO,_,_,gK lT (K.h==0) cs w' bO h1,Rk bY iM ⟨h2,h3,λe he=>h4 e (by simpa using mem_seen he),rfl⟩,WT.walk aH bY n hw gQ hn bO h2⟩
theorem WT.uM (aH:K.Ok) (bY:K.Z.Wf) {cs:List Frame} (n:Nat) {fr:Frame} {csl:List Frame} {an:List An} {wv wv':World} {d d':Nat} (h:bV (Ky.walk P n fr csl an)=true) (hb:nC P (K.Z.cut N ty 2) (thin (bM P n fr csl an)) wv wv' d d')
 (hn:∀w',Vw (K.Z.cut N ty 2) wv' w'->WT P Post K d' (G (aR P n fr csl an) (bu P n fr csl an++cs)) w') {w:World} (hv:Vw (K.Z.cut N ty 2) wv w):WT P Post K d (G fr (csl++cs)) w:=
 WT.walk aH bY n (l9 h) (ma hb) hn w hv
open Classical in
noncomputable def Gh.rc (Z:Gh) (ψ:Nat) (wv:World):World:={wv with heap:=wv.heap.mapIdx λr o=>if Z.iq r/\¬Z.bP r then (match o with| .cells c t _=>.cells c t (Vg ψ)|o=>o) else o}
theorem oG (Z:Gh) (ψ:Nat) (wv:World) (r:Nat):(Z.rc ψ wv).heap[r]? =(wv.heap[r]?).map λo=>open Classical in if Z.iq r/\¬Z.bP r then (match o with| .cells c t _=>.cells c t (Vg ψ)|o=>o) else o:=by unfold Gh.rc;exact Array.getElem?_mapIdx
theorem QW {ψ:Nat} {wv:World} {r:Nat} (h:¬Z.iq r):(Z.rc ψ wv).heap[r]? =wv.heap[r]? :=by rw [oG];simp only [h,false_and,if_false];cases wv.heap[r]? <;>rfl
theorem aFg {ψ:Nat} {wv:World} {r:Nat} (h:Z.bP r):(Z.rc ψ wv).heap[r]? =wv.heap[r]? :=by rw [oG];simp only [h,not_true,and_false,if_false];cases wv.heap[r]? <;>rfl
theorem aBY {ψ:Nat} {wv:World} (a:Addr):(Z.rc ψ wv).cell? a=wv.cell? a:=by
 unfold World.cell?;rw [oG];cases wv.heap[a.block]? with
 |none=>rfl
 |some o=>
  simp only [Option.map_some];by_cases h:Z.iq a.block/\¬Z.bP a.block
  ·rw [if_pos h];cases o<;>rfl
  ·rw [if_neg h]
theorem X5 {ψ:Nat} {wv:World} {r:Nat} {o:Obj} (h:wv.heap[r]? =some o) (ho:∀c t fr,o≠.cells c t fr):(Z.rc ψ wv).heap[r]? =some o:=by
 rw [oG,h];cases o with
 |cells c t fr=>exact absurd rfl (ho _ _ _)
 |_=>simp only [Option.map_some,ite_self]
theorem X6 {ψ:Nat} {wv:World} {r:Nat} {o:Obj} (h:(Z.rc ψ wv).heap[r]? =some o):wv.heap[r]? =some o\/∃c t fr fr',wv.heap[r]? =some (.cells c t fr)/\o=.cells c t fr':=by
 rw [oG] at h;obtain ⟨x,hx,e⟩:=Option.map_eq_some_iff.1 h;by_cases h:Z.iq r/\¬Z.bP r
 ·rw [if_pos h] at e;cases x with
  |cells c t fr=>exact .inr ⟨c,t,fr,_,hx,e.symm⟩
  |_=>exact .inl (by rw [hx,<-e])
 ·rw [if_neg h] at e;exact .inl (by rw [hx,<-e])
theorem Wn {φ ψ:Nat} {wv w:World} (hv:Vw (Z.cut N ty φ) wv w):Vw (Z.cut N ty ψ) (Z.rc ψ wv) w:=by
 refine ⟨by rw [<-hv.size];unfold Gh.rc;simp,hv.os,λr hr=>?_,λr n hr=>?_,λr hr=>?_,λr o ho=>?_,λr l hl=>?_⟩
 ·have jf:=eY.1 hr;rw [QW jf.2.1];exact hv.same r (eY.2 jf)
 ·obtain ⟨cv,ca,t,e1,e2,e3,e4,e5,e6⟩:=hv.cut r n hr;refine ⟨cv,ca,t,?_,e2,e3,e4,e5,e6⟩;rw [oG,e1];rcases qA hr with ⟨hs,_⟩|⟨hs,hc,_⟩
  ·simp only [Option.map_some,hs,not_true,and_false,if_false];simp [Gh.cut,hs]
  ·simp [hs,hc,Gh.cut]
 ·obtain ⟨e1,o,e2,e3⟩:=hv.chan r hr;exact ⟨X5 e1 (λ_ _ _=>NV),o,e2,e3⟩
 ·rcases X6 ho with h|⟨c,t,fr,fr',h,rfl⟩
  ·exact hv.plain r o h
  ·exact λhc=>⟨rfl,rfl,λ_ _=>by simp⟩
 ·rcases X6 hl with h|⟨c,t,fr,fr',h,e⟩
  ·exact hv.loops r l h
  ·cases e
theorem aAE {fr fr':Frame} {l l':List Frame} (h:G fr l=G fr' l'):fr=fr'/\l=l':=by unfold G at h;simp only [Goroutine.mk.injEq,and_true,true_and] at h;exact h
theorem aBU {main:Bool} {cs:List Frame} {St0 St1:Frame->World->Prop} {c:Frame} (aH:K.Ok) (bY:K.Z.Wf) (hm:(K.h==0)=main) {d:Nat} {fr:Frame} {csl:List Frame} {wv0:World}
 (hr0:∀fr wv,St0 fr wv->∀w,∃g',stepG P main (G fr (c::cs)) w=.go (G g' cs) w) (hr1:∀fr wv,St1 fr wv->∀w,∃g',stepG P main (G fr (c::cs)) w=.go (G g' cs) w)
 (hn:∀fr' aA0 aIM w',St0 fr' aA0->St1 fr' aIM->Vw (K.Z.cut N ty 0) aA0 w'->WT P Post K 0 (G fr' (c::cs)) w')
 (H0:kJ P (K.Z.cut N ty 0) main (c::cs) St0 fr csl wv0 d):∀{wv1 w:World},kJ P (K.Z.cut N ty 1) main (c::cs) St1 fr csl wv1 d->Vw (K.Z.cut N ty 0) wv0 w->Vw (K.Z.cut N ty 1) wv1 w->WT P Post K d (G fr (csl++c::cs)) w:=by
 induction H0 with
 |stop h0=>
  intro wv1 w H1 NJ Fj;cases H1 with
  |stop h1=>exact hn _ _ _ _ h0 h1 NJ
  |step n1 h1 ih1=>
   exfalso;obtain ⟨bO,es,e,_⟩:=h1 w Fj;obtain ⟨g',e'⟩:=hr0 _ _ h0 w;rw [List.nil_append,e'] at e;have:=(aAE (GStep.go.inj e).1).2;have:=congrArg List.length this;simp at this;omega
 |step n0 h0 ih0 ih=>
  intro wv1 w H1 NJ Fj;cases H1 with
  |stop h1=>exfalso;obtain ⟨bO,es,e,_⟩:=h0 w NJ;obtain ⟨g',e'⟩:=hr1 _ _ h1 w;rw [List.nil_append,e'] at e;have:=(aAE (GStep.go.inj e).1).2;have:=congrArg List.length this;simp at this;omega
  |step n1 h1 ih1=>
   refine WT.step aH rfl λw' ha _=>?_;have YX:=dm NJ ha;have aFY:=dm Fj ha;obtain ⟨wa0,jH,e0,R0⟩:=h0 w' YX;obtain ⟨wa1,es1,e1,R1⟩:=h1 w' aFY;have S1:=ih1 w' aFY;rw [e0] at e1;obtain ⟨eg,ew,ee⟩:=GStep.go.inj e1;obtain ⟨ef,ec⟩:=aAE eg;have ec:=List.append_cancel_right ec;subst ew;subst ee;have ed:(n0 w' YX).2.2.2=(n1 w' aFY).2.2.2:=R0.2.2.2.symm.trans R1.2.2.2;rw [<-ef,<-ec,<-ed] at S1;refine ⟨_,wa0,jH,_,by rw [hm];exact e0,Jk bY YX R0 (λa v hp hc=>?_) (λe he a hl hw hp=>?_),ih w' YX S1 R0.1 R1.1⟩
   ·obtain ⟨g,k,hk,hb,ho⟩:=hp;obtain ⟨cv,ca,t,f1,f2,f3,f4,f5,f6⟩:=YX.cut k.r 16 (lH bY hk);have c0:=R0.2.1.cells k.r 16 (lH bY hk) ca t (0,0) f2;have c1:=R1.2.1.cells k.r 16 (lH bY hk) ca t (0,0) f2;obtain ⟨ca',g1,g2,g3⟩:=c0;obtain ⟨aVw,g1',g2',g3'⟩:=c1;rw [g1] at g1';cases g1';unfold World.cell? at hc ⊢;rw [hb] at hc ⊢;rw [f2] at hc;rw [g1];simp only at hc ⊢;have:ca'[a.off]? =ca[a.off]? :=by
     rw [zN bY hk] at g3 g3';simp only [Vg] at g3 g3';rcases ho with e|e|e
     ·exact g3 _ (.inr (by omega))
     ·exact g3' _ (.inr (by omega))
     ·exact g3' _ (.inr (by omega))
    rw [this];exact hc
   ·obtain ⟨g,k,hk,hb,ho⟩:=hp;have h0:=R0.2.2.1 e he;have h1:=R1.2.2.1 e he;obtain ⟨l,wr,sy⟩:=e;simp only at hl hw;subst hl;subst hw;rcases h0 with h0|h0
    rotate_left
    ·cases h0
    rcases h1 with h1|h1
    rotate_left
    ·cases h1
    have q0:=(h0.2 16 (by rw [hb];exact lH bY hk)).2.2 rfl;have q1:=(h1.2 16 (by rw [hb];exact lH bY hk)).2.2 rfl;rw [hb,zN bY hk] at q0 q1;simp only [Vg] at q0 q1;rcases ho with e|e|e<;>omega
theorem KQ {fs:Array Func} {Sp:FuncId->Prop} {C:Cut} {c0:Frame} {cs:List Frame} {main:Bool} (F:Fits P fs Sp C) (B:Base c0) (S:Qk P fs Sp C) {f:FuncId} {args:Array Value} {wv:World} {fn:Func} {c:Code} (gz:fs[f]? =P.funcs[f]?) (hf:fs[f]? =some fn) (hb:fn.body=some c) (iO:∀r∈fn.results,∃t,r=.tmp t)
 (Post:Value->World->Prop) (hP:∀v w τ d,Post v (re w τ d)->Post v w) (ve:∀τ d,Calls (Pf P fs) f args (re wv τ d) λe w'=>∃v,e=.returned v/\Post v w'):
 kJ P C main cs (λfr' w'=>fr'.fn=f/\fr'.mode=.returning/\fr'.defers=[]/\fr'.kind=.normal/\∃v,results fn fr'.tmps=pure v/\Post v w') (Frame.enter P f args .normal) [] wv 0:=by
 refine nW F B S (yx F gz hf hb args (.inl rfl)) (λτ d=>?_) (λfr' w τ d h=>?_)
 ·obtain ⟨e,w',fr',⟨v,rfl,DY⟩,hc,Bh,hm,hd,hk,Vh,NM,hr⟩:=ve τ d [c0];obtain ⟨N,hN⟩:Steps (Pf P fs) (lone (Frame.enter (Pf P fs) f args .normal) [c0] (re wv τ d)) (lone fr' [c0] w'):=hc;refine ⟨N,fr',w',⟨Bh,hm,hd,hk,?_⟩,by rw [<-yz gz];exact hN⟩;have:(Pf P fs).funcs[fr'.fn]? =some fn:=by rw [Bh];exact hf
  rw [this] at NM;obtain rfl:=Option.some.inj NM;obtain ⟨u,hu⟩:=xO iO fr'.tmps;rw [hu] at hr;obtain rfl:u=v:=by have:Result.ok u w'=Result.ok v w':=hr;exact (Result.ok.inj this).1
  exact ⟨u,hu,DY⟩
 ·obtain ⟨h1,h2,h3,h4,v,h5,h6⟩:=h;exact ⟨h1,h2,h3,h4,v,h5,hP _ _ _ _ h6⟩
theorem BX {main:Bool} {f:FuncId} {fn:Func} {fr' c:Frame} {cs:List Frame} {v:Value} (hfP:P.funcs[f]? =some fn) (h1:fr'.fn=f) (h2:fr'.mode=.returning) (h3:fr'.defers=[]) (h4:fr'.kind=.normal) (h5:results fn fr'.tmps=pure v) (w:World):stepG P main (G fr' (c::cs)) w=.go (G (c.finish v) cs) w:=by
 have e:stepG P main (G fr' (c::cs)) w=unwind P main fr' (c::cs) none w:=by unfold stepG G;simp only [h2]
 rw [e];unfold unwind;simp only [h3,h2,h1,hfP,h5];simp only [doReturn,h4];rfl
theorem WT.unit {fs:Array Func} {Sp:FuncId->Prop} {c0:Frame} (aH:K.Ok) (bY:K.Z.Wf) (F:∀φ,Fits P fs Sp (K.Z.cut N ty φ)) (B:Base c0) (S:∀φ,Qk P fs Sp (K.Z.cut N ty φ)) {f:FuncId} {args:Array Value} {wv:World} {fr:Frame} {cs:List Frame} {fn:Func} {c:Code} (gz:fs[f]? =P.funcs[f]?) (hf:fs[f]? =some fn) (hb:fn.body=some c) (iO:∀r∈fn.results,∃t,r=.tmp t)
 (Q:Value->World->Prop) (hQ:∀v w τ d,Q v (re w τ d)->Q v w) (PK:∀τ d,Calls (Pf P fs) f args (re (K.Z.rc 0 wv) τ d) λe w'=>∃v,e=.returned v/\Q v w') (PI:∀τ d,Calls (Pf P fs) f args (re (K.Z.rc 1 wv) τ d) λe _=>∃v,e=.returned v/\True)
 (Ze:∀v wv' w',Q v wv'->Vw (K.Z.cut N ty 0) wv' w'->WT P Post K 0 (G (fr.finish v) cs) w') {w:World} (hv:Vw (K.Z.cut N ty 2) wv w):WT P Post K 0 (G (Frame.enter P f args .normal) (fr::cs)) w:=by
 have hfP:P.funcs[f]? =some fn:=gz▸hf;have S0:=KQ (cs:=fr::cs) (main:=K.h==0) (F 0) B (S 0) gz hf hb iO Q hQ PK;have S1:=KQ (cs:=fr::cs) (main:=K.h==0) (F 1) B (S 1) gz hf hb iO (λ_ _=>True) (λ_ _ _ _ h=>h) PI;refine aBU (csl:=[]) aH bY rfl ?_ ?_ ?_ S0 S1 (Wn hv) (Wn hv)
 ·rintro fr' wv ⟨h1,h2,h3,h4,v,h5,_⟩ w;exact ⟨_,BX hfP h1 h2 h3 h4 h5 w⟩
 ·rintro fr' wv ⟨h1,h2,h3,h4,v,h5,_⟩ w;exact ⟨_,BX hfP h1 h2 h3 h4 h5 w⟩
 ·rintro fr' aA0 aIM w' ⟨h1,h2,h3,h4,v,h5,h6⟩ _ hv;refine WT.step aH rfl λw'' ha _=>⟨_,w'',_,0,BX hfP h1 h2 h3 h4 h5 w'',?_,Ze v aA0 w'' h6 (dm hv ha)⟩
  have Mm:=dm hv ha;exact Jk bY Mm ⟨Mm,Hid.refl _ _,by simp,rfl⟩ (λ_ _ _ h=>h) (by simp)
end
end Co
end
section
open Go.ConcN (sumTo upd sumTo_upd upd_ne upd_same RelBy)
namespace Co
open Kv Ka Ky
theorem Az {P:Program} {main:Bool} {K K':World->Prop} {Pv Pv':Loc->Prop} {St St':Goroutine->World->Prop} (hK:∀w,K' w->K w) (hP:∀l,Pv l->Pv' l) (hS:∀g w,St g w->St' g w):∀(n:Nat) {g:Goroutine} {w:World},Goes P main (RK K) (DW Pv) St n g w->Goes P main (RK K') (DW Pv') St' n g w
 |0,_,_,h=>λw₁ r=>hS _ _ (h w₁ (hK _ r))
 |n+1,g,w,h=>by
  rcases h with h|⟨hr,h⟩
  ·exact .inl λw₁ r=>hS _ _ (h w₁ (hK _ r))
  ·refine .inr ⟨hr,λw₁ r=>?_⟩;have hx:=h w₁ (hK _ r);cases hgo:stepG P main g w₁ with
   |go g' w' es=>rw [hgo,goes_go] at hx;rw [goes_go];exact ⟨⟨hx.1.1,λe he=>by obtain ⟨a,e1,e2⟩:=hx.1.2 e he;exact ⟨a,e1,hP _ e2⟩⟩,Az hK hP hS n hx.2⟩
   |_=>rw [hgo] at hx;exact hx.elim
theorem AL {P:Program} {main:Bool} {K K':World->Prop} {Pv Pv':Loc->Prop} (hK:∀w,K' w->K w) (hP:∀l,Pv l->Pv' l) {c:Nat} {z:Value} {ok:Bool} {home:Goroutine->Prop} {g g₂:Goroutine} (h:kL P main K Pv c z ok home g g₂):kL P main K' Pv' c z ok home g g₂:=by obtain ⟨h1,h2,h3,h4,h5,es,h6,h7⟩:=h;exact ⟨h1,h2,h3,h4,h5,es,λe he=>(by obtain ⟨a,e1,e2⟩:=h6 e he;exact ⟨a,e1,hP _ e2⟩),λw hw=>h7 w (hK w hw)⟩
theorem ik.mono {P:Program} {main:Bool} {K K':World->Prop} {Pv Pv':Loc->Prop} (hK:∀w,K' w->K w) (hP:∀l,Pv l->Pv' l) {c:Nat} {z:Value} {ok:Bool} {home:Goroutine->Prop} {n:Nat} {g:Goroutine} (h:ik P main K Pv c z ok home n g):ik P main K' Pv' c z ok home n g:=by
 rcases h with ⟨k,w,e,h⟩|⟨e,g₀,g₂,e2,h⟩
 ·exact .inl ⟨k,w,e,Az hK hP (λg w ⟨g₂,h⟩=>⟨g₂,AL hK hP h⟩) k h⟩
 ·exact .inr ⟨e,g₀,g₂,e2,AL hK hP h⟩
def Gh.gL (Z:Gh) (c:Nat):Gh:={Z with nch:=λx=>Z.nch x\/x=c}
def Gh.jk (Z:Gh) (s:Nat):Gh:={Z with bP:=λx=>Z.bP x\/x=s}
def Gh.jl (Z:Gh) (c:Nat):Gh:={Z with cls:=λx=>Z.cls x\/x=c}
def Gh.cO (Z:Gh) (n:Nat) (k:dR):Gh:={Z with own:=upd Z.own n (some k)}
theorem Iw {b n:Nat} {f:Nat->Nat} (h:∀i,f i<=1) (hb:b<=n):sumTo n (λi=>if b<=i then f i else 0)<=n - b:=by
 induction n with
 |zero=>simp [sumTo]
 |succ n ih=>
  rcases Nat.lt_or_ge n b with aI|hge
  ·have e:b=n+1:=by omega
   subst e;have:∀j,j<=n+1->sumTo j (λi=>if n+1<=i then f i else 0)=0:=by
    intro j
    induction j with
    |zero=>intro _;rfl
    |succ j ihj=>intro hj;simp only [sumTo];rw [ihj (by omega),if_neg (by omega)]
   rw [this _ (Nat.le_refl _)];omega
  ·have:=ih hge;simp only [sumTo,if_pos hge];have:=h n;omega
theorem aU.Em (r:aU):r.cnt<=1:=by
 cases r with
 |leave st=>cases st<;>simp [aU.cnt]
 |_=>simp [aU.cnt]
theorem Em {ρ:Nat->aU} {b n:Nat} (hb:b<=n):cnt ρ b n<=n - b:=Iw (λi=>(ρ i).Em) hb
theorem aAm {ρ:Nat->aU} {b n:Nat} (hb:b<=n):cnt ρ b (n+1)=cnt ρ b n+(ρ n).cnt:=by unfold cnt;simp only [sumTo,if_pos hb]
section
variable {P:Program} {Post:Value->World->Prop} {Z:Gh} {b s p m h n:Nat} {ρ:Nat->aU} {wt sm:Nat} {t:Trace} {gs:Array Goroutine} {w w':World} {q:Nat->Nat} {K:Cy} {a:Goroutine} {d:Nat}
theorem WT.grow {K K':Cy} (hh:K'.h=K.h) (hn:K'.n=K.n) (hσ:K'.σ=K.σ) (hR:∀ρ μ,K.R ρ μ->K'.R ρ μ)
 (hC:∀gs t q ρ p,gs.size=K.n->EH K.σ K.h K.n ρ->Core P K.Z K.b K.s p K.m K.h ρ 0 0 t gs w q->∃p',Core P K'.Z K'.b K'.s p' K'.m K.h ρ 0 0 t gs w q) (hW:WT P Post K' d a w):WT P Post K d a w:=by
 intro gs t q sl ρ p bW ha gW bz C hd hr;obtain ⟨p',C'⟩:=hC gs t q ρ p bW gW C;exact hW gs t q sl ρ p' (bW.trans hn.symm) (by rw [hh];exact ha) (by rw [hσ,hh,hn];exact gW) bz (by rw [hh];exact C') (by rw [hh];exact hd) (hR _ _ hr)
theorem Core.gL (C:Core P Z b s p m h ρ wt sm t gs w q) (c:Nat):Core P (Z.gL c) b s p m h ρ wt sm t gs w q:=
 ⟨⟨C.wf.bP,C.wf.apart,C.wf.Eo⟩,C.pos,C.ge,λi g hi hg=>by
   have:=C.idle i g hi hg;revert this;cases ρ i<;>exact id,⟨⟨C.wd.chans,C.wd.ans,C.wd.uS,C.wd.apart,C.wd.qH,C.wd.keep,C.wd.both,C.wd.Dm,C.wd.own,C.wd.UD⟩,⟨C.wd.sI,C.wd.wh,C.wd.J5,C.wd.NF,C.wd.ND,C.wd.Wj,C.wd.wky,C.wd.NT⟩⟩,⟨C.td.above,C.td.nL,C.td.px,C.td.ho,C.td.rel,C.td.norel,C.td.ple⟩⟩
theorem Core.jl (C:Core P Z b s p m h ρ wt sm t gs w q) (c:Nat):Core P (Z.jl c) b s p m h ρ wt sm t gs w q:=
 ⟨⟨C.wf.bP,C.wf.apart,C.wf.Eo⟩,C.pos,C.ge,λi g hi hg=>by
   have:=C.idle i g hi hg;revert this;cases ρ i<;>exact id,⟨⟨C.wd.chans,C.wd.ans,C.wd.uS,C.wd.apart,C.wd.qH,C.wd.keep,C.wd.both,λi k hi ho hc=>C.wd.Dm i k hi ho (λx=>hc (.inl x)),C.wd.own,C.wd.UD⟩,⟨C.wd.sI,C.wd.wh,C.wd.J5,C.wd.NF,C.wd.ND,C.wd.Wj,C.wd.wky,C.wd.NT⟩⟩,⟨C.td.above,C.td.nL,C.td.px,C.td.ho,C.td.rel,C.td.norel,C.td.ple⟩⟩
theorem WT.gL (c:Nat) (hW:WT P Post {K with Z:=K.Z.gL c} d a w):WT P Post K d a w:=
 WT.grow (K':={K with Z:=K.Z.gL c}) rfl rfl rfl (λ_ _ h=>h) (λ_ _ _ _ p _ _ C=>⟨p,C.gL c⟩) hW
theorem Core.jk (C:Core P Z b s p m h ρ 0 0 t gs w q) (hbn:b=gs.size) {s':Nat} (nk:∀g k,Z.own g=some k->k.r≠s') (Jg:∀i,(ρ i).kQ=false) (h5:w.cell? (dE s')=some (.int .u64 (aa 0 0))/\w.frozen? (dE s')=false) (h6:w.cell? (iD s')=some (.int .u32 0)/\w.frozen? (iD s')=false) (fT:w.shape? s'=some (79,8)/\(¬Z.Dl s'->w.cell? ⟨s',7,none⟩=some (.bool false))):
 Core P (Z.jk s') b s' t.size gs.size h ρ 0 0 t gs w q:=by
 have e0:cnt ρ b gs.size=0:=by have:=Em (ρ:=ρ) (b:=b) (n:=gs.size) (by omega);omega
 have VM:=C.td.px.aJa (Sh':=(Z.jk s').sh) (λl hl=>by
  rcases hl with ⟨x,hx,e⟩|e
  ·exact .inl ⟨x,.inl hx,e⟩
  ·exact .inr e) (λg l hl=>C.wf.Lr hl)
 refine ⟨⟨λg k hk=>.inl (C.wf.bP g k hk),λg k hk hs=>hs.elim (C.wf.apart g k hk) (nk g k hk),C.wf.Eo⟩,C.pos,Nat.le_refl _,λi g hi hg=>?_,⟨⟨C.wd.chans,C.wd.ans,C.wd.uS,C.wd.apart,C.wd.qH,⟨C.wd.keep.1,λx hx=>hx.elim (C.wd.keep.2 x) (λe=>e▸fT)⟩,C.wd.both,C.wd.Dm,λi h1 h2=>by omega,C.wd.UD⟩,
  ⟨λ_=>by rw [e0];exact h5,λ_=>h6,by omega,by omega,λh=>rfl,λi hi=>?_,λi hi=>?_,C.wd.NT⟩⟩,⟨C.td.above,C.td.nL,⟨VM.clean,VM.known,VM.wrote,VM.plain⟩,C.td.ho,λi h1 h2=>by omega,λ_ i hi e=>?_,Nat.le_refl _⟩⟩
 ·have:=C.idle i g hi hg;revert this;cases ρ i with
  |fq c z ok home=>intro h;exact ⟨h.1,h.2⟩
  |_=>exact id
 ·have:=Jg i;rcases hi with hi|hi<;>rw [hi] at this<;>cases this
 ·have:=Jg i;rw [hi] at this;cases this
 ·unfold Trace.act? at e;rw [Array.getElem?_eq_none hi] at e;cases e
theorem Nr {Z:Gh} {w w':World} (ha:aQ Z w w') {r:Nat} {x:TypeId×Nat} (h:w.shape? r=some x):w'.shape? r=some x:=by
 obtain ⟨d,hp,rfl,_,vX⟩:=ha;have Zc:∀r:Nat,Ob Z r w.heap[r]? hp[r]? :=vX;unfold World.shape? at h ⊢;rcases Zc r with e|⟨_,o,o',e,ho,_⟩|⟨_,c,c',t,fr,e,e',bW,_⟩
 ·show (match hp[r]? with|some (.cells c elem _)=>some (elem,c.size)|_=>none)=_;rw [e];exact h
 ·rw [e] at h;cases o<;>first|cases ho;done|cases h
 ·show (match hp[r]? with|some (.cells c elem _)=>some (elem,c.size)|_=>none)=_;rw [e'];rw [e] at h;simp only at h ⊢;rw [bW];exact h
theorem WT.jk {s':Nat} (hbn:K.b=K.n) (nk:∀g k,K.Z.own g=some k->k.r≠s') (h5:w.cell? (dE s')=some (.int .u64 (aa 0 0))/\w.frozen? (dE s')=false) (h6:w.cell? (iD s')=some (.int .u32 0)/\w.frozen? (iD s')=false) (fT:w.shape? s'=some (79,8)/\(¬K.Z.Dl s'->w.cell? ⟨s',7,none⟩=some (.bool false)))
 (hW:WT P Post {K with Z:=K.Z.jk s',s:=s',m:=K.n} d a w):WT P Post K d a w:=by
 intro gs t q sl ρ p bW ha gW bz C hd hr;have C':=C.jk (by omega) nk bz.2.2 h5 h6 fT;rw [bW] at C';exact hW gs t q sl ρ _ bW ha gW bz C' hd hr
theorem WT.iQ (aH:K.Ok) (bJ:a.status=.running) (hs:∀gs t q ρ p w',gs.size=K.n->gs[K.h]? =some a->EH K.σ K.h K.n ρ->Calm ρ 0 0->Core P K.Z K.b K.s p K.m K.h ρ 0 0 t gs w' q->Deaf t K.h=d->K.R ρ (sumTo gs.size q)->aQ K.Z w w'->∀w₁ sl₁ jQ,stepT P (crowd gs w₁ sl₁)=runT P (crowd gs w' jQ) K.h->iW P Post (crowd gs w₁ sl₁) t):WT P Post K d a w:=by intro gs t q sl ρ p bW ha gW bz C hd hR;refine picked bJ (λjA w₁ w' t' ρ' wt' sm' q' sl₁ jQ qV uz C' lD hc Ji iF EG _ dN=>?_) ha C (K.low aH gW);obtain ⟨e1,e2,BI⟩:=hc.calm bz;subst e1;subst e2;have Mo:=qV.trans bW;exact hs jA t' q' ρ' p w' Mo uz (gW.aA lD) ⟨rfl,rfl,BI⟩ C' (EG.trans hd) (aH.cl _ _ _ _ hR lD Ji.1 Ji.2) iF w₁ sl₁ jQ dN
theorem lU {s:Nat} (bY:Z.Wf) (hs:Z.bP s) {es:Array Event} (yo:∀e∈es,e.mute=true\/e=su (dE s)\/e=Bt (dE s)\/e=su (iD s)\/e=Bt (iD s)\/e=rZ (.acquire (dE s))\/(h=0/\(e=rZ (.read (iD s))\/e=rZ (.write (iD s))))):
 ∀e∈es,(∀x,(MemAct.ofEvent e).touch?=some x->(Z.sh x.loc->x.kind≠.plain)/\(x.write=true->∀g,¬Z.pr g x.loc)/\(x.kind=.said->h=0))/\∀s,Z.bP s->MemAct.ofEvent e≠.mark (.release (dE s)):=by
 have hnp:∀o g,¬Z.pr g (.cell ⟨s,o,none⟩):=λo g ⟨g',k,o',hk,_,e,_⟩=>by
  have:s=k.r:=congrArg Addr.block (Loc.cell.inj e);exact bY.apart g' k hk (this▸hs)
 intro e he;rcases yo e he with hm|rfl|rfl|rfl|rfl|rfl|⟨h0,rfl|rfl⟩
 ·obtain ⟨h1,h2⟩:=gu hm;exact ⟨λx hx=>(by rw [h1] at hx;cases hx),λs _=>h2 _⟩
 all_goals refine ⟨λx hx=>?_,λs' _=>(by first|exact fD (e:=su _) (λm x=>by cases x) _|exact fD (e:=Bt _) (λm x=>by cases x) _|exact λx=>by cases x)⟩
 all_goals first|(cases hx;done)|skip
 all_goals
  simp only [su,Bt,rZ,ofEvent_cell0,MemAct.ofEvent,MemAct.touch?,Option.some.injEq] at hx;subst hx;exact ⟨λ_=>by simp,λ_ g=>hnp _ g,λh=>by first|exact h0|simp at h⟩
theorem WT.add (aH:K.Ok) (h0:K.h=0) (hs:K.Z.bP K.s) (hm:K.m=K.n) (h8:K.n - K.b<8) (bJ:a.status=.running) (a':Nat->Goroutine)
 (hgo:∀c w',c<8->w'.cell? (dE K.s)=some (.int .u64 (aa c 0))->w'.frozen? (dE K.s)=false->stepG P (K.h==0) a w'=.go (a' c) (w'.setCell (dE K.s) (.int .u64 (aa (c+1) 0))) (je K.s))
 (hn:∀c w',c<8->aQ K.Z w w'->WT P Post {K with m:=K.n+1} d (a' c) w'):WT P Post K d a w:=by
 refine WT.iQ aH bJ λgs t q ρ p w' bW ha gW bz C hd hR iF w₁ sl₁ jQ dN=>?_;have ZI:cnt ρ K.b K.m<8:=by have:=Em (ρ:=ρ) (b:=K.b) (n:=K.m) (by have:=aH.bn;omega);omega
 obtain ⟨g5,f5⟩:=C.wd.sI hs;obtain ⟨g6,f6⟩:=C.wd.wh hs;have jw:=hgo _ w' ZI g5 f5;have lu:ρ K.n=.hold:=(gW.2 K.n (by have:=aH.lt;omega)).2 (Nat.le_refl _);have ec:cnt ρ K.b (K.n+1)=cnt ρ K.b K.m+1:=by rw [hm,aAm aH.bn,lu];rfl
 have jY:(w'.setCell (dE K.s) (.int .u64 (aa (cnt ρ K.b K.m+1) 0))).cell? (dE K.s)=some (.int .u64 (aa (cnt ρ K.b K.m+1) 0)):=World.cell?_setCell_same _ _ _ (by rw [g5]);obtain ⟨C2,vZ,uL⟩:=C.Fa (a':=a' (cnt ρ K.b K.m)) (w':=w'.setCell (dE K.s) (.int .u64 (aa (cnt ρ K.b K.m+1) 0))) (es:=je K.s) (d:=d) (d':=d) (m':=K.n+1) (wt':=0) (sm':=0) hd ha gW.1 (.inl h0) (λhk=>uD hk C.wf hs) (λc k _ hk=>ku rfl hk rfl)
  (lU C.wf hs λe he=>by simp [je] at he;rcases he with rfl|rfl<;>simp) (deafBehind_still (by intro e he;simp [je,su,Bt] at he;rcases he with rfl|rfl<;>simp) d) (by omega)
  ⟨λ_=>by rw [ec];exact ⟨jY,(aZ rfl).trans f5⟩,λ_=>⟨(l8 _ _ (by simp [iD])).trans g6,(aZ rfl).trans f6⟩,by omega,by omega,λ_=>rfl,(λi hi=>by have:=bz.2.2 i;rcases hi with hi|hi<;>rw [hi] at this<;>cases this),(λi hi=>by have:=bz.2.2 i;rw [hi] at this;cases this),C.wd.NT⟩
 refine iW.next (dN.trans (runT_crowd_go (sl:=jQ) ha jw)) (hn _ _ ZI (iF.trans (Aside.setCell hs (.inl rfl)).d) _ _ q jQ ρ p (by simpa using bW) vZ gW bz C2 uL (by simpa using hR))
theorem WT.say (aH:K.Ok) (hs:K.Z.bP K.s) (bY:K.Z.Wf) (bJ:a.status=.running) {es:Array Event} {a':Goroutine} {d':Nat} (yo:∀e∈es,e.mute=true\/e=su (dE K.s)\/e=Bt (dE K.s)\/e=su (iD K.s)\/e=Bt (iD K.s)\/e=rZ (.acquire (dE K.s))\/(K.h=0/\(e=rZ (.read (iD K.s))\/e=rZ (.write (iD K.s)))))
 (hd:deafBehind d es=d') (hgo:∀w',aQ K.Z w w'->stepG P (K.h==0) a w'=.go a' w' es) (hn:∀w',aQ K.Z w w'->WT P Post K d' a' w'):WT P Post K d a w:=
 WT.step aH bJ λw' ha _=>⟨a',w',es,d',hgo w' ha,⟨id,λ_ _=>⟨⟨rfl,rfl⟩,rfl,rfl⟩,λ_ _ _ h=>h,lU bY hs yo,hd⟩,hn w' ha⟩
theorem WT.aHi {j:Nat} {k:dR} (aH:K.Ok) (h0:K.h=0) (hj:K.Z.own j=some k) (uZ:j<K.n) (wU:j≠0) (hσ:K.σ j=none) (u7:¬K.Z.cls k.o) (bJ:a.status=.running) {a':Goroutine}
 (hgo:∀w' m,aQ K.Z w w'->w'.heap[k.o]? =some (.chan 0 #[] false m m false)->stepG P (K.h==0) a w'=.go a' (w'.setChan k.o 0 #[] true m m false) (closeEvents k.o))
 (hn:∀w',aQ K.Z w w'->WT P Post {K with Z:=K.Z.jl k.o} d a' w'):WT P Post K d a w:=by
 refine WT.iQ aH bJ λgs t q ρ p w' bW ha gW bz C hd hR iF w₁ sl₁ jQ dN=>?_;obtain ⟨m,hm⟩:=C.wd.Dm j k (by omega) hj u7;have jw:=hgo w' m iF hm;have hex:∃o,w'.heap[k.o]? =some o/\o.isChan=true:=⟨_,hm,rfl⟩
 have Cc:=C.jl k.o;have aKs:∀i k',K.Z.own i=some k'->(ρ i).alive->i<gs.size->k'.o≠k.o:=λi k' ho zH hi e=>by
  have:i=j:=(C.wf.Eo i k' j k ho hj).2.1 e;subst this;have:=(gW.2 i (by rw [h0];exact wU)).1 uZ;rw [hσ] at this;unfold Sat at this;cases hr:ρ i<;>rw [hr] at this zH<;>first|exact this|exact zH
 have h1:∀c kk,aFH (K.Z.jl k.o) gs.size ρ c->w'.heap[c]? =some (.chan 0 #[] false kk kk false)->(w'.setChan k.o 0 #[] true m m false).heap[c]? =some (.chan 0 #[] false kk kk false):=λc kk hc G5=>by
  refine (heap_setChan_ne ?_).trans G5;rcases hc with hc|⟨i,k',hi,ho,zH,rfl|rfl⟩|⟨i,k',hi,ho,hnc,rfl⟩
  ·rcases hc with ⟨i,z,ok,home,e⟩|⟨i,k',e,ho,rfl⟩
   ·obtain ⟨hih,Bf,hw⟩:=K.uh aH gW e;rcases hw with ⟨_,k',ho,rfl⟩|⟨rfl,_⟩
    ·exact aKs i k' ho (by rw [e];trivial) (by omega)
    ·exact absurd h0.symm hih
   ·exact (C.wf.Eo j k i k' hj ho).1.symm
  ·exact aKs i k' ho zH hi
  ·exact (C.wf.Eo j k i k' hj ho).1.symm
  ·exact λe=>hnc (.inr e)
 have h2:∀e∈closeEvents k.o,(∀x,(MemAct.ofEvent e).touch?=some x->((K.Z.jl k.o).sh x.loc->x.kind≠.plain)/\(x.write=true->∀g,¬(K.Z.jl k.o).pr g x.loc)/\(x.kind=.said->K.h=0))/\∀s,(K.Z.jl k.o).bP s->MemAct.ofEvent e≠.mark (.release (dE s)):=by
  intro e he;simp only [closeEvents,List.mem_toArray,List.mem_cons,List.not_mem_nil,or_false] at he;have gN:∀g,¬(K.Z.jl k.o).pr g (.obj k.o):=λg ⟨g',k',o',hk,_,e,_⟩=>by cases e
  rcases he with rfl|rfl
  ·refine ⟨λx hx=>?_,λs' _=>λx=>by cases x⟩;simp only [MemAct.ofEvent,MemAct.touch?,Option.some.injEq] at hx;subst hx;exact ⟨λ_=>by simp,λ_ g=>gN g,λh=>by simp at h⟩
  ·exact ⟨(λx hx=>by cases hx),λs' _=>λx=>by cases x⟩
 obtain ⟨e5,f5⟩:=jd (b':=true) (m:=m) (m':=m) hex (dE K.s);obtain ⟨e6,f6⟩:=jd (b':=true) (m:=m) (m':=m) hex (iD K.s);have h3:WdB ((K.Z.jl k.o).bP K.s) K.b K.s K.m ρ 0 0 (w'.setChan k.o 0 #[] true m m false):=
  ⟨λhz=>by rw [e5,f5];exact C.wd.sI hz,λhz=>by rw [e6,f6];exact C.wd.wh hz,C.wd.J5,C.wd.NF,C.wd.ND,C.wd.Wj,C.wd.wky,C.wd.NT⟩
 obtain ⟨C2,vZ,uL⟩:=Cc.Fa (a':=a') (w':=w'.setChan k.o 0 #[] true m m false) (es:=closeEvents k.o) (d:=d) (d':=d) (m':=K.m) (wt':=0) (sm':=0) hd ha gW.1 (.inl h0) (λhk=>zT (Z:=K.Z) hk hex) h1 h2 (deafBehind_still (by intro e he;simp [closeEvents] at he;rcases he with rfl|rfl<;>simp) d) C.ge h3;exact iW.next (dN.trans (runT_crowd_go (sl:=jQ) ha jw)) (hn _ (iF.trans (Aside.setChan ⟨j,k,hj,.inl rfl⟩ hm).d) _ _ q jQ ρ p (by simpa using bW) vZ gW bz C2 uL (by simpa using hR))
theorem WT.ended (aH:K.Ok) (h0:K.h=0) (hbn:K.b=K.n) (bJ:a.status=.running) (hσ:∀i,0<i->i<K.n->K.σ i=none) (hs:∀w',aQ K.Z w w'->K.Z.K w'->∃v es d',stepG P (K.h==0) a w'=.ended (.done v) w' es/\JP K.Z K.Z.ic K.h d d' w' w' es/\Post v w'):WT P Post K d a w:=by
 refine WT.iQ aH bJ λgs t q ρ p w' bW ha gW bz C hd hR iF w₁ sl₁ jQ dN=>?_;obtain ⟨v,es,d',aCL,hH,DY⟩:=hs w' iF C.wd.keep;obtain ⟨C2,_,_⟩:=C.own (a':=a) hd ha gW.1 aH.hb ⟨hH.keep,hH.grp,λc k hc=>hH.chan c k (hc.elim id (K.NY aH gW)),hH.gV,hH.deaf⟩;have hq:∀i x,0<i->gs[i]? =some x->QuitsD P (q i) (Deaf t i) x:=λi x hi hx=>by
  have aI:i<gs.size:=(Array.getElem?_eq_some_iff.1 hx).1;have hid:=C.idle i x (by omega) hx;have pJ:=(gW.2 i (by omega)).1 (by omega);rw [hσ i hi (by omega)] at pJ;unfold Sat at pJ;cases hr:ρ i with
  |quit=>rw [hr] at hid;exact hid.2
  |leave st=>have:=C.wd.UD i st hr;omega
  |hold=>rw [hr] at pJ;exact pJ.elim
  |fq=>rw [hr] at pJ;exact pJ.elim
 refine iW.ended (dN.trans (runT_many_ended (sl:=jQ) ha aCL)) ⟨v,rfl,DY,C2.td.px.clean,λi g hg bA hc=>C2.td.ho i g hg (by omega) (by have:=C2.td.nL i g hg;simp at this;omega) hc,⟨λx hx=>?_,rfl⟩,λj x hx hj=>?_⟩
 ·obtain ⟨j,hj⟩:=List.mem_iff_getElem?.1 hx;rw [List.getElem?_drop] at hj;exact ⟨_,(hq (1+j) x (by omega) (by simpa [crowd] using hj)).leaves⟩
 ·have hqq:=hq j x (by omega) hx;refine ⟨q j,?_⟩;have e:(t++MemOp.ofEvents K.h a.frame.fn a.frame.place es).deaf j (t++MemOp.ofEvents K.h a.frame.fn a.frame.place es).size=Deaf t j:=
   Deaf_other t (g:=j) (g':=K.h) (by omega) _ gX
  rw [e];exact hqq.hears _
end
end Co
end
section
open Go.ConcN (sumTo upd sumTo_upd upd_ne upd_same RelBy)
namespace Co
open Kv Ka Ky
section
variable {P:Program} {Post:Value->World->Prop} {Z:Gh} {b s p m h n:Nat} {ρ:Nat->aU} {wt sm:Nat} {t:Trace} {gs:Array Goroutine} {w w':World} {q:Nat->Nat} {K:Cy} {a:Goroutine} {d:Nat}
structure BN (Z:Gh) (n s:Nat) (k:dR):Prop where
 own:Z.own n=none
 ks:k.s=s
 bP:Z.bP s
 cn:¬Z.bP k.r
 oa:k.o≠k.a
 uM:∀g k',Z.own g=some k'->k'.o≠k.o/\k'.o≠k.a/\k'.a≠k.o/\k'.a≠k.a
theorem iV {k:dR} (hn:Z.own n=none) {g:Nat} {k':dR} (h:Z.own g=some k'):(Z.cO n k).own g=some k':=by show upd Z.own n (some k) g=_;rw [upd_ne _ _ (λe=>by subst e;rw [hn] at h;cases h)];exact h
theorem cu {k:dR} {g:Nat} {k':dR} (h:(Z.cO n k).own g=some k'):(g=n/\k'=k)\/(g≠n/\Z.own g=some k'):=by
 by_cases e:g=n
 ·subst e;have:upd Z.own g (some k) g=some k':=h;rw [upd_same] at this;exact .inl ⟨rfl,(Option.some.inj this).symm⟩
 ·have:upd Z.own n (some k) g=some k':=h;rw [upd_ne _ _ e] at this;exact .inr ⟨e,this⟩
theorem Hu {k:dR} (bY:Z.Wf) (hk:BN Z n s k):(Z.cO n k).Wf:=by
 refine ⟨λg k' h=>?_,λg k' h=>?_,λg k₁ g' k₂ h₁ h₂=>?_⟩
 ·rcases cu h with ⟨_,rfl⟩|⟨_,h⟩
  ·rw [hk.ks];exact hk.bP
  ·exact bY.bP g k' h
 ·rcases cu h with ⟨_,rfl⟩|⟨_,h⟩
  ·exact hk.cn
  ·exact bY.apart g k' h
 ·rcases cu h₁ with ⟨rfl,rfl⟩|⟨hg,h₁'⟩<;>rcases cu h₂ with ⟨rfl,rfl⟩|⟨hg',h₂'⟩
  ·exact ⟨hk.oa,λ_=>rfl,λ_=>rfl⟩
  ·obtain ⟨f1,f2,f3,f4⟩:=hk.uM g' k₂ h₂';exact ⟨f3.symm,λe=>absurd e.symm f1,λe=>absurd e.symm f4⟩
  ·obtain ⟨f1,f2,f3,f4⟩:=hk.uM g k₁ h₁';exact ⟨f2,λe=>absurd e f1,λe=>absurd e f4⟩
  ·exact bY.Eo g k₁ g' k₂ h₁' h₂'
def Cy.hire (K:Cy) (k:dR) (x:Sd):Cy:={K with Z:=K.Z.cO K.n k,n:=K.n+1,σ:=upd K.σ K.n (some x)}
theorem Core.hire (aH:K.Ok) (h0:K.h=0) (hm:K.m=K.n+1) {k:dR} {x:Sd} (Be:(K.hire k x).Ok) (C:Core P K.Z K.b K.s p K.m K.h ρ 0 0 t gs w q) (bW:gs.size=K.n) (gW:EH K.σ K.h K.n ρ) (bz:Calm ρ 0 0) (hk:BN K.Z K.n K.s k) (hx:x.c=k.o)
 (hd:Deaf t K.h=0) (ho:opn w k.o) (ha:opn w k.a) (cz:w.cell? ⟨k.r,1,none⟩=some (.pointer (some ⟨k.s,0,none⟩))/\w.cell? ⟨k.r,9,none⟩=some (.chan (some k.o))/\w.cell? ⟨k.r,10,none⟩=some (.chan (some k.a))/\w.shape? k.s=some (79,8))
 {a' child:Goroutine} {nc:Nat} (gN:ik P false (K.Z.cO K.n k).K0 ((K.Z.cO K.n k).pr K.n) x.c x.z x.ok x.home nc child) (fh fc:FuncId) (ph:String):
 ∃ρ',EH (K.hire k x).σ 0 (K.n+1) ρ'/\Calm ρ' 0 0/\Core P (K.Z.cO K.n k) K.b K.s p K.m K.h ρ' 0 0 (t++#[{g:=K.h,fn:=fh,pos:=ph,act:=.go K.n},{g:=K.n,fn:=fc,pos:=ph,act:=.start}]) ((gs.setIfInBounds K.h a').push child) w (upd q K.n nc):=by
 have hn0:0<K.n:=aH.pos;have DR:=Hu C.wf hk;let ρ':=upd ρ K.n (.fq x.c x.z x.ok x.home);have en:ρ' K.n=.fq x.c x.z x.ok x.home:=upd_same _ _ _;have eo:∀i,i≠K.n->ρ' i=ρ i:=λi hi=>upd_ne _ _ hi;have qy:EH (K.hire k x).σ (K.hire k x).h (K.hire k x).n ρ':=by
  refine ⟨by show ρ' K.h=_;rw [eo _ (by omega)];exact gW.1,λi hi=>⟨λBf=>?_,λBf=>?_⟩⟩
  ·show Sat (upd K.σ K.n (some x) i) _;by_cases e:i=K.n
   ·subst e;rw [upd_same,en];rfl
   ·rw [upd_ne _ _ e,eo i e];exact (gW.2 i hi).1 (by have:i<K.n+1:=Bf;omega)
  ·have:K.n+1<=i:=Bf;rw [eo i (by omega)];exact (gW.2 i hi).2 (by omega)
 have qx:Calm ρ' 0 0:=bz.upd rfl;obtain ⟨s1,s2,s3⟩:=(K.hire k x).Ht Be DR qy;have aKP:ρ K.n=.hold:=(gW.2 K.n (by omega)).2 (Nat.le_refl _);have aAc:cnt ρ' K.b K.m=cnt ρ K.b K.m:=pW (by rw [aKP];rfl);generalize hu:(#[{g:=K.h,fn:=fh,pos:=ph,act:=.go K.n},{g:=K.n,fn:=fc,pos:=ph,act:=.start}]:Trace)=u;have hn:∀op∈u,op.act.touch?=none/\op.act≠.mark (.release (dE K.s)):=by intro op dC;subst hu;simp only [List.mem_toArray,List.mem_cons,List.not_mem_nil,or_false] at dC;rcases dC with rfl|rfl<;>exact ⟨rfl,λx=>by cases x⟩
 have hq:∀g,∀op∈u,∀d,deafStep g d op=d:=by intro g op dC d;subst hu;simp only [List.mem_toArray,List.mem_cons,List.not_mem_nil,or_false] at dC;rcases dC with rfl|rfl<;>rfl
 have hg:∀op∈u,op.g=K.h\/op.g=K.n:=by intro op dC;subst hu;simp only [List.mem_toArray,List.mem_cons,List.not_mem_nil,or_false] at dC;rcases dC with rfl|rfl<;>simp
 have hD:∀y,Deaf (t++u) y=Deaf t y:=λy=>Deaf_quiet (hq y);have hdn:Deaf t K.n=0:=C.td.above _ (by omega);have VU:∀w,(K.Z.cO K.n k).K0 w->K.Z.K0 w:=λw h g k' hg=>h g k' (iV hk.own hg);have hPP:∀g l,K.Z.pr g l->(K.Z.cO K.n k).pr g l:=λg l ⟨g',k',o,e1,e2,e3,e4⟩=>⟨g',k',o,iV hk.own e1,e2,e3,e4⟩
 have hSS:∀l,K.Z.sh l->(K.Z.cO K.n k).sh l:=λl hl=>by
  rcases hl with e|⟨g,k',e1,e2⟩
  ·exact .inl e
  ·exact .inr ⟨g,k',iV hk.own e1,e2⟩
 have aOS:=C.td.px.aJa hSS (λg l hl=>C.wf.Lr hl);have VM:PX (K.Z.cO K.n k).sh (K.Z.cO K.n k).pr (K.Z.cO K.n k).me K.h (t++u):=by
  subst hu;refine aOS.hire hd hdn fh ph fc (Pr':=(K.Z.cO K.n k).pr) (Me':=(K.Z.cO K.n k).me) ?_ ?_ ?_ hPP ?_ ?_
  ·rintro g l ⟨g',k',o,_,_,rfl,_⟩;rfl
  ·rintro l (⟨s',_,rfl|rfl⟩|⟨g,k',_,rfl|rfl⟩)<;>rfl
  ·exact λg l hp=>DR.dis g l (hPP g l hp)
  ·rintro g l ⟨g',k',o,e1,e2,rfl,e4⟩;rcases cu e1 with ⟨rfl,rfl⟩|⟨_,e1'⟩
   ·refine .inr ⟨?_,DR.dis g _ ⟨_,_,o,e1,e2,rfl,e4⟩⟩;rcases e4 with rfl|rfl
    ·exact .inr h0.symm
    ·exact .inl rfl
   ·exact .inl ⟨g',k',o,e1',e2,rfl,e4⟩
  ·rintro g l ⟨k',e1,e2⟩;rcases cu e1 with ⟨rfl,rfl⟩|⟨_,e1'⟩
   ·exact .inr ⟨rfl,DR.Lr ⟨_,e1,e2⟩⟩
   ·exact .inl ⟨k',e1',e2⟩
 have qV:((gs.setIfInBounds K.h a').push child).size=K.n+1:=by simp [bW]
 refine ⟨ρ',by rw [<-h0];exact qy,qx,DR,C.pos,by omega,λi g hi J3=>?_,?_,?_⟩
 ·by_cases e:i=K.n
  ·subst e;rw [Array.getElem?_push,if_pos (by simp [bW])] at J3;obtain rfl:=Option.some.inj J3;rw [upd_same,en];refine ⟨(hD _).trans hdn,?_⟩;have:(K.n==0)=false:=by rw [beq_eq_false_iff_ne];omega
   rw [this];exact gN
  ·have hil:i<K.n:=by
    have:=(Array.getElem?_eq_some_iff.1 J3).1;rw [qV] at this;omega
   rw [Array.getElem?_push,if_neg (by simp [bW];omega),Array.getElem?_setIfInBounds_ne (λz=>hi z.symm)] at J3;rw [upd_ne q nc e,eo i e];have hid:=C.idle i g hi J3;revert hid;cases ρ i with
   |quit=>intro h;exact ⟨h.1,by rw [hD];exact h.2⟩
   |hold=>exact id
   |fq c z ok home=>intro h;exact ⟨(hD i).trans h.1,h.2.mono VU (hPP i)⟩
   |leave st=>intro h;exact ⟨h.1,by obtain ⟨k',h1,h2⟩:=h.2;exact ⟨k',iV hk.own h1,by rw [hD];exact h2⟩⟩
 ·rw [qV];refine ⟨⟨λi c z ok home e=>?_,λi k' e lh=>?_,s1,s2,s3,⟨λg k' hg=>?_,C.wd.keep.2⟩,λi k' hi lh zH=>?_,λi k' hi lh u7=>?_,λi h1 h2=>?_,λi st e=>?_⟩,⟨λhz=>by rw [aAc];exact C.wd.sI hz,C.wd.wh,by rw [aAc];exact C.wd.J5,C.wd.NF,C.wd.ND,λi hi=>?_,λi hi=>?_,λi j h1 h2=>?_⟩⟩
  ·by_cases ei:i=K.n
   ·subst ei;rw [en] at e;cases e;rw [hx];exact ho
   ·rw [eo i ei] at e;exact C.wd.chans i c z ok home e
  ·by_cases ei:i=K.n
   ·subst ei;rw [en] at e;cases e
   ·rw [eo i ei] at e;rcases cu lh with ⟨hh,_⟩|⟨_,lh⟩
    ·exact absurd hh ei
    ·exact C.wd.ans i k' e lh
  ·rcases cu hg with ⟨_,rfl⟩|⟨_,hg⟩
   ·exact cz
   ·exact C.wd.keep.1 g k' hg
  ·rcases cu lh with ⟨_,rfl⟩|⟨bA,lh⟩
   ·exact ⟨ho,ha⟩
   ·rw [eo i bA] at zH;exact C.wd.both i k' (by omega) lh zH
  ·rcases cu lh with ⟨_,rfl⟩|⟨bA,lh⟩
   ·exact ho
   ·exact C.wd.Dm i k' (by omega) lh u7
  ·by_cases ei:i=K.n
   ·subst ei;exact ⟨k,upd_same _ _ _,hk.ks⟩
   ·obtain ⟨k',e1,e2⟩:=C.wd.own i h1 (by omega);exact ⟨k',iV hk.own e1,e2⟩
  ·by_cases ei:i=K.n
   ·subst ei;rw [en] at e;cases e
   ·rw [eo i ei] at e;have:=C.wd.UD i st e;exact ⟨this.1,by omega⟩
  ·have:=qx.2.2 i;rcases hi with hi|hi<;>rw [hi] at this<;>cases this
  ·have:=qx.2.2 i;rw [hi] at this;cases this
  ·rw [qx.2.2 i] at h1;cases h1
 ·rw [qV];refine ⟨λj hj=>by rw [hD];exact C.td.above j (by omega),λi g J3=>?_,VM,λi g J3 MJ GY hc=>?_,λj hj uZ hrj=>?_,λhz i hi e=>?_,by have:=C.td.ple;simp only [Array.size_append];omega⟩
  ·obtain ⟨op,dC,hog⟩:=Option.map_eq_some_iff.1 J3;rcases getElem?_append_cases dC with ⟨aI,aKp⟩|⟨_,JX⟩
   ·have:=C.td.nL i g (by rw [<-g?_old (u:=u) aI];exact J3);omega
   ·rw [<-hog];rcases hg op JX with e|e<;>rw [e]<;>omega
  ·obtain ⟨op,dC,hog⟩:=Option.map_eq_some_iff.1 J3;rcases getElem?_append_cases dC with ⟨lC,aKp⟩|⟨_,JX⟩
   ·have fI:t.g? i=some g:=by rw [<-g?_old (u:=u) lC];exact J3
    obtain ⟨j,hj,kz⟩:=C.td.ho i g fI MJ GY ((Go.Conc.counts_old lC).1 hc);have hjl:j<t.size:=by obtain ⟨z,hz,_⟩:=Option.map_eq_some_iff.1 hj;exact lt_size_of_getElem? hz
    exact ⟨j,by rw [g?_old hjl];exact hj,hb_app u kz⟩
   ·obtain ⟨ax,hax,_⟩:=hc;obtain ⟨act,ZP,iX⟩:=Option.bind_eq_some_iff.1 hax;obtain ⟨op',aKo,rfl⟩:=Option.map_eq_some_iff.1 ZP;rw [dC] at aKo;obtain rfl:=Option.some.inj aKo;rw [(hn op JX).1] at iX;cases iX
  ·have aPf:j≠K.n:=λe=>by subst e;rw [en] at hrj;cases hrj
   rw [eo j aPf] at hrj;obtain ⟨r,hp,jf⟩:=C.td.rel j hj (by omega) hrj;have ZK:=C.pos;exact ⟨r,hp,jf.appNot λop dC=>by rcases hg op dC with e|e<;>rw [e]<;>omega⟩
  ·obtain ⟨op,dC,hoa⟩:=Option.map_eq_some_iff.1 e;rcases getElem?_append_cases dC with ⟨lC,aKp⟩|⟨_,JX⟩
   ·exact C.td.norel hz i hi (by rw [<-act?_old (u:=u) lC];exact e)
   ·exact (hn op JX).2 hoa
theorem WT.hire (aH:K.Ok) (h0:K.h=0) (hm:K.m=K.n+1) {k:dR} {x:Sd} (Be:(K.hire k x).Ok) (hk:BN K.Z K.n K.s k) (hx:x.c=k.o) (hRt:∀ρ μ,(K.hire k x).R ρ μ) {a' child:Goroutine} (bJ:a.status=.running)
 (hw:∀w',aQ K.Z w w'->opn w' k.o/\opn w' k.a/\w'.cell? ⟨k.r,1,none⟩=some (.pointer (some ⟨k.s,0,none⟩))/\w'.cell? ⟨k.r,9,none⟩=some (.chan (some k.o))/\w'.cell? ⟨k.r,10,none⟩=some (.chan (some k.a))/\w'.shape? k.s=some (79,8))
 (hgo:∀w',stepG P (K.h==0) a w'=.spawn a' child w' #[]) {nc:Nat} (gN:ik P false (K.Z.cO K.n k).K0 ((K.Z.cO K.n k).pr K.n) x.c x.z x.ok x.home nc child) (hn:∀w',aQ K.Z w w'->WT P Post (K.hire k x) 0 a' w'):WT P Post K 0 a w:=by
 refine WT.iQ aH bJ λgs t q ρ p w' bW ha gW bz C hd hR iF w₁ sl₁ jQ dN=>?_;obtain ⟨h1,h2,h3⟩:=hw w' iF;obtain ⟨ρ',e1,e2,e3⟩:=C.hire (a':=a') aH h0 hm Be bW gW bz hk hx hd h1 h2 h3 gN a.frame.fn child.frame.fn a.frame.place;have hrt:=runT_crowd_spawn (P:=P) (sl:=jQ) ha (hgo w');have aKl:((MemOp.ofEvents K.h a.frame.fn a.frame.place #[]).push {g:=K.h,fn:=a.frame.fn,pos:=a.frame.place,act:=.go gs.size} |>.push {g:=gs.size,fn:=child.frame.fn,pos:=a.frame.place,act:=.start})=
  #[{g:=K.h,fn:=a.frame.fn,pos:=a.frame.place,act:=.go K.n},{g:=K.n,fn:=child.frame.fn,pos:=a.frame.place,act:=.start}]:=by
  rw [bW];rfl
 rw [aKl] at hrt;have hD:Deaf (t++#[{g:=K.h,fn:=a.frame.fn,pos:=a.frame.place,act:=.go K.n},{g:=K.n,fn:=child.frame.fn,pos:=a.frame.place,act:=.start}]) K.h=0:=by
  rw [Deaf_quiet (λop dC d=>by
   simp only [List.mem_toArray,List.mem_cons,List.not_mem_nil,or_false] at dC;rcases dC with rfl|rfl<;>rfl)];exact hd
 refine iW.next (dN.trans hrt) (hn w' iF _ _ _ jQ ρ' p (by simp [bW,Cy.hire]) ?_ (by show EH _ K.h _ _;rw [h0];exact e1) e2 e3 hD (hRt _ _));show ((gs.setIfInBounds K.h a').push child)[K.h]? =_;have aI:K.h<gs.size:=by have:=aH.lt;omega
 rw [Array.getElem?_push,if_neg (by simp;omega)];exact Array.getElem?_setIfInBounds_self_of_lt aI
end
end Co
end
section
open Go.ConcN (sumTo upd sumTo_upd upd_ne upd_same RelBy)
namespace Co
open Kv Ka Ky
theorem En {ρ:Nat->aU} {b:Nat}:∀{n:Nat},0<cnt ρ b n->∃i,b<=i/\i<n/\(ρ i).cnt≠0
 |0,h=>by simp [cnt,sumTo] at h
 |n+1,h=>by
  by_cases e:b<=n/\(ρ n).cnt≠0
  ·exact ⟨n,e.1,Nat.lt_succ_self n,e.2⟩
  ·have:0<cnt ρ b n:=by
    unfold cnt at h ⊢;simp only [sumTo] at h;by_cases hb:b<=n
    ·have:(ρ n).cnt=0:=Classical.byContradiction λx=>e ⟨hb,x⟩;rw [if_pos hb,this] at h;omega
    ·rw [if_neg hb] at h;omega
   obtain ⟨i,h1,h2,h3⟩:=En this;exact ⟨i,h1,by omega,h3⟩
theorem aAl {ρ:Nat->aU} {b n i:Nat} (h:cnt ρ b n=0) (h1:b<=i) (h2:i<n):(ρ i).cnt=0:=by have:(λi=>if b<=i then (ρ i).cnt else 0) i<=cnt ρ b n:=Go.ConcN.le_sumTo (f:=λi=>if b<=i then (ρ i).cnt else 0) h2;simp only [if_pos h1] at this;omega
theorem RN {ρ ρ':Nat->aU} (k:aj ρ ρ') {b:Nat}:∀n,cnt ρ' b n<=cnt ρ b n
 |0=>by simp [cnt,sumTo]
 |n+1=>by
  have ih:=RN k (b:=b) n;unfold cnt at ih ⊢;simp only [sumTo];have hr:(ρ' n).cnt<=(ρ n).cnt:=by
   rcases k n with e|⟨_,_,h⟩
   ·rw [e];exact Nat.le_refl _
   ·exact h
  by_cases hb:b<=n
  ·simp only [if_pos hb];omega
  ·simp only [if_neg hb];omega
section
variable {P:Program} {Post:Value->World->Prop} {K:Cy} {a:Goroutine} {d:Nat} {w:World}
theorem Cy.Ok.Kb (aH:K.Ok) {R:(Nat->aU)->Nat->Prop} (cl:∀ρ ρ' μ μ',R ρ μ->aj ρ ρ'->μ'<=μ->(μ'=μ->ρ'=ρ)->R ρ' μ'):({K with R:=R}:Cy).Ok:=
 ⟨aH.low,aH.wk,aH.mn,aH.pos,aH.lt,aH.bn,cl,aH.hb,aH.bP⟩
theorem again_blocked (bJ:a.status=.running) (nP:a.offers=none) (w:World):({a with status:=.blocked}:Goroutine).again w=a:=by
 cases a with
 |mk fr cl st dy off=>simp only at bJ nP;subst bJ;subst nP;rfl
theorem WT.meas (h:∀μ,WT P Post {K with R:=λ_ x=>x<μ} d a w):WT P Post K d a w:=λgs t q sl ρ p bW ha gW hc C hd _=>
 h (sumTo gs.size q+1) gs t q sl ρ p bW ha gW hc C hd (Nat.lt_succ_self _)
def R0 (b m:Nat) (ρ:Nat->aU) (_:Nat):Prop:=cnt ρ b m=0
def Rc (b m c μ:Nat) (ρ:Nat->aU) (μ':Nat):Prop:=(cnt ρ b m=c/\μ'<=μ)\/μ'<μ
theorem aEH {b m:Nat}:∀ρ ρ' μ μ',R0 b m ρ μ->aj ρ ρ'->μ'<=μ->(μ'=μ->ρ'=ρ)->R0 b m ρ' μ':=λρ ρ' _ _ h k _ _=>by
 have:=RN k (b:=b) m;unfold R0 at h ⊢;omega
theorem aLz {b m c μ:Nat}:∀ρ ρ' x x',Rc b m c μ ρ x->aj ρ ρ'->x'<=x->(x'=x->ρ'=ρ)->Rc b m c μ ρ' x':=λρ ρ' x x' h k hle he=>by
 rcases h with ⟨h1,h2⟩|h
 ·by_cases e:x'=x
  ·rw [he e,e];exact .inl ⟨h1,h2⟩
  ·exact .inr (by omega)
 ·exact .inr (by omega)
theorem aAC {μ:Nat}:∀(ρ ρ':Nat->aU) (x x':Nat),x<μ->aj ρ ρ'->x'<=x->(x'=x->ρ'=ρ)->x'<μ:=λ_ _ _ _ h _ hle _=>by omega
theorem WT.load (aH:K.Ok) (h0:K.h=0) (hs:K.Z.bP K.s) (bJ:a.status=.running) (a':Nat->Goroutine) (hgo:∀c w',c<=8->w'.cell? (dE K.s)=some (.int .u64 (aa c 0))->stepG P (K.h==0) a w'=.go (a' c) w' #[su (dE K.s)])
 (hn0:∀w',aQ K.Z w w'->WT P Post {K with R:=R0 K.b K.m} d (a' 0) w') (hn:∀c μ w' ρ,0<c->c<=8->aQ K.Z w w'->K.R ρ μ->WT P Post {K with R:=Rc K.b K.m c μ} d (a' c) w'):WT P Post K d a w:=by
 refine WT.iQ aH bJ λgs t q ρ p w' bW ha gW bz C hd hR iF w₁ sl₁ jQ dN=>?_;obtain ⟨g5,f5⟩:=C.wd.sI hs;have jw:=hgo _ w' C.wd.J5 g5;obtain ⟨C2,vZ,uL⟩:=C.Fa (a':=a' (cnt ρ K.b K.m)) (w':=w') (es:=#[su (dE K.s)]) (d:=d) (d':=d) (m':=K.m) (wt':=0) (sm':=0) hd ha gW.1 (.inl h0) id (λc k _ hk=>hk) (lU C.wf hs λe he=>by simp at he;rcases he with rfl;simp)
  (deafBehind_still (by intro e he;simp [su] at he;rcases he with rfl;simp) d) C.ge C.wd.toWdB
 refine iW.next (dN.trans (runT_crowd_go (sl:=jQ) ha jw)) ?_;rcases Nat.eq_zero_or_pos (cnt ρ K.b K.m) with e|e
 ·have hW:=hn0 w' iF;rw [<-e] at hW;exact hW _ _ q jQ ρ p (by simpa using bW) vZ gW bz C2 uL e
 ·exact hn _ _ w' ρ e C.wd.J5 iF hR _ _ q jQ ρ p (by simpa using bW) vZ gW bz C2 uL (.inl ⟨rfl,by simp⟩)
theorem WT.aJH (aH:K.Ok) (h0:K.h=0) (hs:K.Z.bP K.s) (hR0:∀ρ μ,K.R ρ μ->cnt ρ K.b K.m=0) (bJ:a.status=.running) {a':Goroutine} (hgo:∀w',w'.cell? (dE K.s)=some (.int .u64 (aa 0 0))->stepG P (K.h==0) a w'=.go a' w' #[su (dE K.s)])
 (hn:∀w',aQ K.Z w w'->WT P Post K d a' w'):WT P Post K d a w:=by
 refine WT.iQ aH bJ λgs t q ρ p w' bW ha gW bz C hd hR iF w₁ sl₁ jQ dN=>?_;obtain ⟨g5,f5⟩:=C.wd.sI hs;rw [hR0 ρ _ hR] at g5;have jw:=hgo w' g5;obtain ⟨C2,vZ,uL⟩:=C.Fa (a':=a') (w':=w') (es:=#[su (dE K.s)]) (d:=d) (d':=d) (m':=K.m) (wt':=0) (sm':=0) hd ha gW.1 (.inl h0) id (λc k _ hk=>hk) (lU C.wf hs λe he=>by simp at he;rcases he with rfl;simp)
  (deafBehind_still (by intro e he;simp [su] at he;rcases he with rfl;simp) d) C.ge C.wd.toWdB
 exact iW.next (dN.trans (runT_crowd_go (sl:=jQ) ha jw)) (hn w' iF _ _ q jQ ρ p (by simpa using bW) vZ gW bz C2 uL (by simpa using hR))
def Ey (P:Program) (Post:Value->World->Prop) (K:Cy) (d:Nat) (a:Goroutine) (w:World):Prop:=
 ∀gs t q sl ρ p wt sm,gs.size=K.n->gs[K.h]? =some a->EH K.σ K.h K.n ρ->Wtg K.b K.m ρ wt sm->Core P K.Z K.b K.s p K.m K.h ρ wt sm t gs w q->Deaf t K.h=d->iW P Post (crowd gs w sl) t
theorem Ey.step (aH:K.Ok) (bJ:a.status=.running) (hs:∀w',aQ K.Z w w'->K.Z.K w'->∃a' es d',stepG P (K.h==0) a w'=.go a' w' es/\JP K.Z K.Z.ic K.h d d' w' w' es/\Ey P Post K d' a' w'):Ey P Post K d a w:=by intro gs t q sl ρ p wt sm bW ha gW hW C hd;refine picked bJ (λjA w₁ w' t' ρ' wt' sm' q' sl₁ jQ qV uz C' lD hc Ji iF EG _ dN=>?_) ha C (K.low aH gW);obtain ⟨a',es,d',hgo,hH,hWn⟩:=hs w' iF C'.wd.keep;have qy:=gW.aA lD;obtain ⟨C2,vZ,uL⟩:=C'.own (EG.trans hd) uz qy.1 aH.hb (a':=a') (w':=w') (es:=es) (d:=d) (d':=d') ⟨hH.keep,hH.grp,λc k hc=>hH.chan c k (hc.elim id (K.NY aH qy)),hH.gV,hH.deaf⟩;exact iW.next (dN.trans (runT_crowd_go (sl:=jQ) uz hgo)) (hWn _ _ _ _ _ _ _ _ (by simpa using qV.trans bW) vZ qy (hc.wtg hW) C2 uL)
theorem Ey.say (aH:K.Ok) (hs:K.Z.bP K.s) (bY:K.Z.Wf) (bJ:a.status=.running) {es:Array Event} {a':Goroutine} {d':Nat} (yo:∀e∈es,e.mute=true\/e=su (dE K.s)\/e=Bt (dE K.s)\/e=su (iD K.s)\/e=Bt (iD K.s)\/e=rZ (.acquire (dE K.s))\/(K.h=0/\(e=rZ (.read (iD K.s))\/e=rZ (.write (iD K.s)))))
 (hd:deafBehind d es=d') (hgo:∀w',aQ K.Z w w'->stepG P (K.h==0) a w'=.go a' w' es) (hn:∀w',aQ K.Z w w'->Ey P Post K d' a' w'):Ey P Post K d a w:=
 Ey.step aH bJ λw' ha _=>⟨a',es,d',hgo w' ha,⟨id,λ_ _=>⟨⟨rfl,rfl⟩,rfl,rfl⟩,λ_ _ _ h=>h,lU bY hs yo,hd⟩,hn w' ha⟩
theorem Ey.sema (aH:K.Ok) (h0:K.h=0) (hs:K.Z.bP K.s) (hmn:K.m=K.n) (hσ:∀i,0<i->i<K.n->K.σ i=none) (ZK:0<K.b) (bJ:a.status=.running) (nP:a.offers=none) {aB:Goroutine} {es:Array Event}
 (MU:∀w',w'.cell? (iD K.s)=some (.int .u32 0)->stepG P (K.h==0) a w'=.go {a with status:=.blocked} w' #[]) (hgo:∀w',w'.cell? (iD K.s)=some (.int .u32 1)->w'.frozen? (iD K.s)=false->stepG P (K.h==0) a w'=.go aB (w'.setCell (iD K.s) (.int .u32 0)) es)
 (yo:∀e∈es,e.mute=true\/e=su (dE K.s)\/e=Bt (dE K.s)\/e=su (iD K.s)\/e=Bt (iD K.s)\/e=rZ (.acquire (dE K.s))\/(K.h=0/\(e=rZ (.read (iD K.s))\/e=rZ (.write (iD K.s))))) (EG:deafBehind d es=d)
 (hn:∀w',aQ K.Z w w'->WT P Post {K with R:=R0 K.b K.m} d aB w'):Ey P Post K d a w:=by
 suffices H:∀(μ:Nat) gs₁ w₁ t₁ ρ₁ p wt₁ sm₁ q₁ (sl₁:Option (Nat×Nat)) (bl:Bool),gs₁.size=K.n->gs₁[K.h]? =some (if bl then {a with status:=.blocked} else a)->(bl=true->sm₁=0)->EH K.σ K.h K.n ρ₁->Wtg K.b K.m ρ₁ wt₁ sm₁->Core P K.Z K.b K.s p K.m K.h ρ₁ wt₁ sm₁ t₁ gs₁ w₁ q₁->Deaf t₁ K.h=d->aQ K.Z w w₁->2*sumTo gs₁.size q₁+(if bl then 0 else 1)=μ->iW P Post (crowd gs₁ w₁ sl₁) t₁ from
  λgs t q sl ρ p wt sm bW ha gW hW C hd=>H _ gs w t ρ p wt sm q sl false bW ha (λx=>by cases x) gW hW C hd (aQ.refl _ _) rfl
 intro μ
 induction μ using Nat.strongRecOn with
 |ind μ ih=>
  intro gs₁ w₁ t₁ ρ₁ p wt₁ sm₁ q₁ sl₁ bl bW ha PL gW hW C hd iF hμ;have DX:∀i,(∃st,ρ₁ i=.leave st)->∃g,gs₁[i]? =some g/\g.status=.running:=λi ⟨st,e⟩=>by
   have hl:=C.wd.UD i st e;have hid:=C.idle i _ (by omega) (Array.getElem?_eq_getElem hl.2);rw [e] at hid;obtain ⟨_,k,_,hv⟩:=hid;exact ⟨_,Array.getElem?_eq_getElem hl.2,hv.status⟩
  have aJ7:∃(i:Nat) (g:Goroutine),gs₁[i]? =some g/\g.status=.running:=by
   cases hb:bl with
   |false=>rw [hb] at ha;exact ⟨K.h,a,ha,bJ⟩
   |true=>
    have Bc:=PL hb;rcases hW with ⟨_,_,hc|⟨i,hi⟩⟩|⟨_,_,i,hi⟩|⟨_,e,_⟩
    ·obtain ⟨i,h1,h2,h3⟩:=En hc;have pJ:=(gW.2 i (by omega)).1 (by omega);rw [hσ i (by omega) (by omega)] at pJ;unfold Sat at pJ;obtain ⟨g,e1,e2⟩:=DX i (by
      cases hr:ρ₁ i with
      |leave st=>exact ⟨st,rfl⟩
      |quit=>rw [hr] at h3;exact absurd rfl h3
      |_=>rw [hr] at pJ;exact pJ.elim)
     exact ⟨i,g,e1,e2⟩
    ·obtain ⟨g,e1,e2⟩:=DX i (by rcases hi with hi|hi<;>exact ⟨_,hi⟩);exact ⟨i,g,e1,e2⟩
    ·obtain ⟨g,e1,e2⟩:=DX i ⟨_,hi⟩;exact ⟨i,g,e1,e2⟩
    ·omega
  have aOy:(if bl then {a with status:=.blocked} else a:Goroutine).status=.running\/(if bl then {a with status:=.blocked} else a:Goroutine).status=.blocked:=by cases bl<;>simp [bJ]
  obtain ⟨i,g,dd,jQ,hi,hg,dN⟩:=crowd_pick (P:=P) (w:=w₁) (sl:=sl₁) (C.awake ha aOy) aJ7;have Cd:=C.at dd;have G7:=iF.trans (aQ.Rz K.Z w₁ dd);by_cases e:i=K.h
  ·subst e;rw [ha] at hi;obtain rfl:=Option.some.inj hi;cases hb:bl with
   |true=>rw [hb] at hg;cases hg
   |false=>
    rw [hb] at ha hμ;simp only [Bool.false_eq_true,if_false] at ha hμ;obtain ⟨g6,f6⟩:=Cd.wd.wh hs;obtain ⟨g5,f5⟩:=Cd.wd.sI hs;have Bc:sm₁=0\/sm₁=1:=by rcases hW with h|h|h<;>first|exact .inl h.2.1|exact .inr h.2.1
    rcases Bc with Bc|Bc
    ·subst Bc;have jw:=MU _ g6;obtain ⟨C2,vZ,uL⟩:=Cd.Fa (a':={a with status:=.blocked}) (w':=w₁.at dd) (es:=#[]) (d:=d) (d':=d) (m':=K.m) hd ha gW.1 (.inl h0) id (λc k _ hk=>hk) (by simp) rfl C.ge Cd.wd.toWdB;exact iW.next (dN.trans (runT_crowd_go (sl:=jQ) ha jw)) (ih _ (by simp at hμ ⊢;omega) _ _ _ ρ₁ p wt₁ 0 q₁ jQ true (by simpa using bW) (by simpa using vZ) (λ_=>rfl) gW hW C2 uL G7 rfl)
    ·subst Bc;obtain ⟨YU,nk,Fv⟩:wt₁=0/\cnt ρ₁ K.b K.m=0/\∀i,(ρ₁ i).kQ=false:=by
      rcases hW with h|h|h
      ·exact absurd h.2.1 (by simp)
      ·exact absurd h.2.1 (by simp)
      ·exact ⟨h.1,h.2.2⟩
     subst YU;have jw:=hgo _ g6 f6;have jY:((w₁.at dd).setCell (iD K.s) (.int .u32 0)).cell? (iD K.s)=some (.int .u32 0):=World.cell?_setCell_same _ _ _ (by rw [g6]);obtain ⟨C2,vZ,uL⟩:=Cd.Fa (a':=aB) (w':=(w₁.at dd).setCell (iD K.s) (.int .u32 0)) (es:=es) (d:=d) (d':=d) (m':=K.m) (wt':=0) (sm':=0) hd ha gW.1 (.inl h0) (λhk=>uD hk C.wf hs) (λc k _ hk=>ku rfl hk rfl) (lU C.wf hs yo) EG C.ge
      ⟨λ_=>⟨(l8 _ _ (by simp [dE])).trans g5,(aZ rfl).trans f5⟩,λ_=>⟨jY,(aZ rfl).trans f6⟩,C.wd.J5,by omega,λ_=>rfl,(λi hi=>by have:=Fv i;rcases hi with hi|hi<;>rw [hi] at this<;>cases this),(λi hi=>by have:=Fv i;rw [hi] at this;cases this),C.wd.NT⟩
     exact iW.next (dN.trans (runT_crowd_go (sl:=jQ) ha jw)) (hn _ (G7.trans (Aside.setCell hs (.inr rfl)).d) _ _ q₁ jQ ρ₁ p (by simpa using bW) vZ gW ⟨rfl,rfl,Fv⟩ C2 uL nk)
  ·obtain ⟨jA,w',ops,r',n',wt',sm',h1,h2,h3,h4,h5,h6,h7,h8,hsw,h9,Ay⟩:=by_step (sl:=jQ) Cd hi e hg ((K.low aH gW) i) λc z ok home g₂ gx hr iX MI=>by
    rw [ha] at MI;obtain rfl:=Option.some.inj MI;unfold offersAt;cases bl<;>simp [nP]
   have aI:=vE (q:=q₁) (Array.getElem?_eq_some_iff.1 hi).1 h4;have hW':=h8.wtg hW;have hd':Deaf (t₁++ops) K.h=d:=by rw [Deaf_other t₁ (g':=i) e ops h9];exact hd
   have qy:EH K.σ K.h K.n (upd ρ₁ i r'):=gW.aA h7.aA;have Rq:=G7.trans h5.d;have ZO:∀w'':World,({a with status:=.blocked}:Goroutine).again w''=a:=again_blocked bJ nP;refine iW.next (dN.trans h1) ?_;cases hb:bl with
   |false=>
    rw [hb] at ha hμ;simp only [Bool.false_eq_true,if_false] at ha hμ;have hx:jA[K.h]? =some a:=by
     rcases h6 a ha with y|y
     ·exact y
     ·rw [y,again_of_running (.inl bJ)]
    exact ih _ (by rw [h2];simp at hμ ⊢;omega) jA w' _ _ p wt' sm' _ jQ false (h2.trans bW) hx (λx=>by cases x) qy hW' h3 hd' Rq rfl
   |true=>
    rw [hb] at ha hμ;simp only [if_true] at ha hμ;by_cases gz:sm'=sm₁
    ·rcases h6 _ ha with y|y
     ·exact ih _ (by rw [h2];simp at hμ ⊢;omega) jA w' _ _ p wt' sm' _ jQ true (h2.trans bW) y (λ_=>by rw [gz];exact PL hb) qy hW' h3 hd' Rq rfl
     ·rw [ZO] at y;exact ih _ (by rw [h2];simp at hμ ⊢;omega) jA w' _ _ p wt' sm' _ jQ false (h2.trans bW) y (λx=>by cases x) qy hW' h3 hd' Rq rfl
    ·have y:=hsw gz _ ha;rw [ZO] at y;exact ih _ (by rw [h2];simp at hμ ⊢;omega) jA w' _ _ p wt' sm' _ jQ false (h2.trans bW) y (λx=>by cases x) qy hW' h3 hd' Rq rfl
theorem WT.XT (aH:K.Ok) (h0:K.h=0) (hs:K.Z.bP K.s) (hmn:K.m=K.n) (hσ:∀i,0<i->i<K.n->K.σ i=none) (hR0:∀ρ μ,K.R ρ μ->cnt ρ K.b K.m=0) (bJ:a.status=.running) {a':Goroutine} (hgo:∀w',aQ K.Z w w'->stepG P (K.h==0) a w'=.go a' w' #[rZ (.acquire (dE K.s))])
 (hn:∀w',aQ K.Z w w'->WT P Post {K with b:=K.n,R:=λ_ _=>True} 0 a' w'):WT P Post K 0 a w:=by
 refine WT.iQ aH bJ λgs t q ρ p w' bW ha gW bz C hd hR iF w₁ sl₁ jQ dN=>?_;have jw:=hgo w' iF;have hcz:=hR0 ρ _ hR;have ZK:=C.pos;have Y4:∀i,K.b<=i->i<K.n->ρ i=.quit:=λi h1 h2=>by
  have hz:=aAl hcz h1 (by omega);have hw:=bz.2.2 i;have pJ:=(gW.2 i (by omega)).1 h2;rw [hσ i (by omega) h2] at pJ;unfold Sat at pJ;cases hr:ρ i with
  |quit=>rfl
  |leave st=>rw [hr] at hz hw;cases st<;>first|cases hz;done|cases hw
  |_=>rw [hr] at pJ;exact pJ.elim
 obtain ⟨C2,vZ,uL⟩:=C.Fa (a':=a') (w':=w') (es:=#[rZ (.acquire (dE K.s))]) (d:=0) (d':=0) (m':=K.m) (wt':=0) (sm':=0) hd ha gW.1 (.inl h0) id (λc k _ hk=>hk) (lU C.wf hs λe he=>by simp at he;rcases he with rfl;simp)
  (deafBehind_still (by intro e he;simp [rZ] at he;rcases he with rfl;simp) 0) C.ge C.wd.toWdB
 generalize hu:MemOp.ofEvents K.h a.frame.fn a.frame.place #[rZ (.acquire (dE K.s))]=u at C2 uL;have UR:u=#[{g:=K.h,fn:=a.frame.fn,pos:=a.frame.place,act:=.mark (.acquire (dE K.s))}]:=by rw [<-hu,ofEvents_eq];simp [rZ,MemAct.ofEvent]
 have hy:(t++u)[t.size]? =some {g:=K.h,fn:=a.frame.fn,pos:=a.frame.place,act:=.mark (.acquire (dE K.s))}:=by rw [UR];simp
 have Fx:((gs.map (woken P a a' w')).setIfInBounds K.h a').size=K.n:=by simpa using bW
 rw [<-Fx] at Y4;have hHO:HO K.n (t++u):=by
  intro i g J3 MJ GY hc;by_cases oJ:g<K.b
  ·exact C2.td.ho i g J3 MJ oJ hc
  ·obtain ⟨r,hpr,hrel⟩:=C2.td.rel g (by omega) (by rw [Fx];exact GY) (by rw [Y4 g (by omega) (by rw [Fx];exact GY)];rfl);have Ao:r<t.size:=by
    rcases Nat.lt_or_ge r t.size with h|h
    ·exact h
    ·exfalso;have h1:=lt_of_act? hrel.act;simp only [Array.size_append,UR] at h1;have:r=t.size:=by simp at h1;omega
     subst this;have:=hrel.act;rw [act?_of hy] at this;cases this
   have hh:(t++u).heard t.size:=⟨K.h,by simp [Trace.g?,hy],by rw [deaf_old (Nat.le_refl _)];exact hd⟩
   have Vk:HappensBefore (t++u) r t.size:=.single (.inr ⟨.marked Ao (.inr hrel.act) (act?_of hy) (λk hk _=>C2.td.norel hs k (by omega)),hrel.heard,hh⟩);have hle:i<=r:=Nat.le_of_not_lt λaI=>hrel.after i aI J3 hc;have h0':(t++u).g? t.size=some 0:=by simp [Trace.g?,hy,h0]
   rcases Nat.lt_or_ge i r with aI|hge
   ·exact ⟨t.size,h0',.trans (.single (.inl ⟨aI,g,J3,hrel.g⟩)) Vk⟩
   ·obtain rfl:i=r:=by omega
    exact ⟨t.size,h0',Vk⟩
 have ecn:cnt ρ K.n K.m=0:=by have:=Em (ρ:=ρ) (b:=K.n) (n:=K.m) (by omega);omega
 have C3:Core P K.Z K.n K.s p K.m K.h ρ 0 0 (t++u) ((gs.map (woken P a a' w')).setIfInBounds K.h a') w' q:=by
  refine ⟨C2.wf,aH.pos,C2.ge,C2.idle,⟨⟨C2.wd.chans,C2.wd.ans,C2.wd.uS,C2.wd.apart,C2.wd.qH,C2.wd.keep,C2.wd.both,C2.wd.Dm,λi h1 h2=>by omega,λi st e=>?_⟩,⟨λhz=>?_,C2.wd.wh,by omega,C2.wd.NF,C2.wd.ND,λi hi=>?_,λi hi=>?_,C2.wd.NT⟩⟩,⟨C2.td.above,C2.td.nL,C2.td.px,hHO,λi h1 h2=>by omega,C2.td.norel,C2.td.ple⟩⟩
  ·have hl:=C2.wd.UD i st e;rw [Y4 i hl.1 hl.2] at e;cases e
  ·have:=C2.wd.sI hz;rw [hcz] at this;rw [ecn];exact this
  ·have:=bz.2.2 i;rcases hi with hi|hi<;>rw [hi] at this<;>cases this
  ·have:=bz.2.2 i;rw [hi] at this;cases this
 refine iW.next (dN.trans (runT_crowd_go (sl:=jQ) ha jw)) ?_;rw [hu];exact hn w' iF _ _ q jQ ρ p Fx vZ gW bz C3 uL trivial
end
end Co
end
section
open Go.ConcN (sumTo upd sumTo_upd upd_ne upd_same RelBy)
namespace Co
open Kv Ka Ky
section
variable {Z:Gh} {N:Code->Prop} {ty:TypeId->Prop} {φ:Nat} {wv w w':World}
theorem zW (hv:Vw (Z.cut N ty φ) wv w) {r:Nat} (h:Z.bP r\/Z.iq r\/Z.ic r):r<w.heap.size:=by
 by_cases hc:Z.ic r
 ·obtain ⟨_,o,ho,_⟩:=hv.chan r (iU.2 hc);exact (Array.getElem?_eq_some_iff.1 ho).1
 ·have:∃n,(Z.cut N ty φ).hd r=some n:=by
   by_cases hs:Z.bP r
   ·exact ⟨5,iG hs⟩
   ·have nk:Z.iq r:=by rcases h with h|h|h<;>first|exact h|exact absurd h hs|exact absurd h hc
    exact ⟨16,by simp [Gh.cut,hs,nk]⟩
  obtain ⟨n,hn⟩:=this;obtain ⟨cv,ca,t,_,e2,_⟩:=hv.cut r n hn;exact (Array.getElem?_eq_some_iff.1 e2).1
theorem mX {c x:Nat}:(Z.gL c).ic x↔Z.ic x\/x=c:=by
 unfold Gh.ic;constructor
 ·rintro ((h|h)|h)
  ·exact .inl (.inl h)
  ·exact .inr h
  ·exact .inl (.inr h)
 ·rintro ((h|h)|h)
  ·exact .inl (.inl h)
  ·exact .inr h
  ·exact .inl (.inr h)
theorem Wo (hv:Vw (Z.cut N ty φ) wv w) {o:Obj} (ho:o.isChan=true) (Mw:Z.lq w.heap.size=none):Vw ((Z.gL w.heap.size).cut N ty φ) {wv with heap:=wv.heap.push gone} {w with heap:=w.heap.push o}:=by
 have aI:=λ{r:Nat} (h:Z.bP r\/Z.iq r\/Z.ic r)=>zW hv h;have hg:∀(r:Nat) (h:Array Obj) (x:Obj),r<h.size->(h.push x)[r]? =h[r]? :=λr h x hr=>by rw [Array.getElem?_push,if_neg (by omega)]
 have aT6:∀r,((Z.gL w.heap.size).cut N ty φ).lq r=(Z.cut N ty φ).lq r:=λr=>rfl;have lu:((Z.gL w.heap.size).cut N ty φ).lq w.heap.size=none:=by simp only [Gh.cut,show (Z.gL w.heap.size).lq=Z.lq from rfl,Mw,ite_self]
 have hgo:vz ((Z.gL w.heap.size).cut N ty φ) w.heap.size=gone:=by unfold vz;rw [lu]
 have hhd:∀r,((Z.gL w.heap.size).cut N ty φ).hd r=(Z.cut N ty φ).hd r:=λr=>rfl;have PE:∀r,((Z.gL w.heap.size).cut N ty φ).fz r=(Z.cut N ty φ).fz r:=λr=>rfl;refine ⟨by show (wv.heap.push _).size=(w.heap.push _).size;simp [hv.size],hv.os,λr hr=>?_,λr n hr=>?_,λr hr=>?_,λr x hx=>?_,λr l hl=>?_⟩
 ·obtain ⟨h1,h2,h3⟩:=eY.1 hr;have bA:r≠w.heap.size:=λe=>h3 (mX.2 (.inr e));have hs:=hv.same r (eY.2 ⟨h1,h2,λh=>h3 (mX.2 (.inl h))⟩);show (wv.heap.push gone)[r]? =(w.heap.push o)[r]?;rw [Array.getElem?_push,Array.getElem?_push,if_neg (by rw [hv.size];exact bA),if_neg bA];exact hs
 ·rw [hhd] at hr;obtain ⟨cv,ca,t,e1,e2,e3⟩:=hv.cut r n hr;rw [PE];have h1:r<w.heap.size:=(Array.getElem?_eq_some_iff.1 e2).1;exact ⟨cv,ca,t,by show (wv.heap.push gone)[r]? =_;rw [hg r _ _ (by rw [hv.size];exact h1)];exact e1,by show (w.heap.push o)[r]? =_;rw [hg r _ _ h1];exact e2,e3⟩
 ·rcases mX.1 (iU.1 hr) with h|rfl
  ·obtain ⟨e1,x,e2,e3⟩:=hv.chan r (iU.2 h);have h1:r<w.heap.size:=(Array.getElem?_eq_some_iff.1 e2).1;exact ⟨by show (wv.heap.push gone)[r]? =_;rw [hg r _ _ (by rw [hv.size];exact h1)];exact e1,x,by show (w.heap.push o)[r]? =_;rw [hg r _ _ h1];exact e2,e3⟩
  ·exact ⟨by show (wv.heap.push gone)[w.heap.size]? =_;rw [Array.getElem?_push,if_pos hv.size.symm,hgo],o,by show (w.heap.push o)[w.heap.size]? =_;rw [Array.getElem?_push,if_pos rfl],by unfold wL;rw [lu];exact ho⟩
 ·have fI:(wv.heap.push gone)[r]? =some x:=hx;rw [Array.getElem?_push] at fI;by_cases e:r=wv.heap.size
  ·rw [if_pos e] at fI;cases fI;intro hc;have:(Z.gL w.heap.size).ic r:=mX.2 (.inr (e.trans hv.size));rw [iU.2 this] at hc;cases hc
  ·rw [if_neg e] at fI;intro hc;refine hv.plain r x fI ?_;cases Av:(Z.cut N ty φ).ch r with
   |false=>rfl
   |true=>have:(Z.gL w.heap.size).ic r:=mX.2 (.inl (iU.1 Av));rw [iU.2 this] at hc;cases hc
 ·have fI:(wv.heap.push gone)[r]? =some (.loop l):=hl;rw [Array.getElem?_push] at fI;by_cases e:r=wv.heap.size
  ·rw [if_pos e] at fI;cases fI
  ·rw [if_neg e] at fI;exact hv.loops r l fI
def fG (s n:Nat) (fz:Nat×Nat) (wv:World):World:={wv with heap:=wv.heap.modify s λ| .cells c t _=>.cells (c.extract 0 n) t fz|o=>o}
theorem iH {s n:Nat} {fz fr:Nat×Nat} {c:Array Value} {t:TypeId} (h:wv.heap[s]? =some (.cells c t fr)):(fG s n fz wv).heap[s]? =some (.cells (c.extract 0 n) t fz):=by unfold fG;simp [Array.getElem?_modify,h]
theorem df {s n r:Nat} {fz:Nat×Nat} (h:r≠s):(fG s n fz wv).heap[r]? =wv.heap[r]? :=by unfold fG;simp only [Array.getElem?_modify,if_neg (Ne.symm h)]
theorem Su (hv:Vw (Z.cut N ty φ) wv w) {s:Nat} {c:Array Value} {t:TypeId} (hs:¬Z.bP s) (nk:¬Z.iq s) (gN:¬Z.ic s) (hc:wv.heap[s]? =some (.cells c t (0,0))) (h5:5<=c.size) (ht:ty t):Vw ((Z.jk s).cut N ty φ) (fG s 5 (0,0) wv) w:=by
 have hwa:w.heap[s]? =some (.cells c t (0,0)):=by rw [<-hv.same s (eY.2 ⟨hs,nk,gN⟩)];exact hc
 have hhd:∀r,r≠s->((Z.jk s).cut N ty φ).hd r=(Z.cut N ty φ).hd r:=λr hr=>by
  have e:(Z.jk s).bP r=Z.bP r:=propext ⟨λh=>h.elim id (λe=>absurd e hr),.inl⟩;unfold Gh.cut;simp only;rw [e];rfl
 have PE:∀r,r≠s->((Z.jk s).cut N ty φ).fz r=(Z.cut N ty φ).fz r:=λr hr=>by
  have e:(Z.jk s).bP r=Z.bP r:=propext ⟨λh=>h.elim id (λe=>absurd e hr),.inl⟩;unfold Gh.cut;simp only;rw [e];rfl
 refine ⟨by rw [<-hv.size];simp [fG],hv.os,λr hr=>?_,λr n hr=>?_,λr hr=>?_,λr x hx=>?_,λr l hl=>?_⟩
 ·obtain ⟨h1,h2,h3⟩:=eY.1 hr;have bA:r≠s:=λe=>h1 (.inr e);rw [df bA];exact hv.same r (eY.2 ⟨λh=>h1 (.inl h),h2,h3⟩)
 ·by_cases e:r=s
  ·subst e;have:n=5:=by
    have h:((Z.jk r).cut N ty φ).hd r=some 5:=iG (.inr rfl);rw [h] at hr;cases hr;rfl
   subst this;have hf:((Z.jk r).cut N ty φ).fz r=(0,0):=by have:(Z.jk r).bP r:=.inr rfl;simp [Gh.cut,this]
   rw [hf];exact ⟨c.extract 0 5,c,t,iH hc,hwa,by simp;omega,h5,λi hi=>by simp [Array.getElem?_extract];omega,ht⟩
  ·rw [hhd r e] at hr;rw [PE r e,df e];exact hv.cut r n hr
 ·have jf:(Z.cut N ty φ).ch r=true:=hr;have bA:r≠s:=λe=>gN (iU.1 (e▸jf));rw [df bA];exact hv.chan r jf
 ·by_cases e:r=s
  ·subst e;rw [iH hc] at hx;cases hx;exact λ_=>⟨rfl,rfl,λ_ _=>by simp⟩
  ·rw [df e] at hx;exact hv.plain r x hx
 ·by_cases e:r=s
  ·subst e;rw [iH hc] at hl;cases hl
  ·rw [df e] at hl;exact hv.loops r l hl
theorem Sw (hv:Vw (Z.cut N ty φ) wv w) {n:Nat} {k:dR} {c:Array Value} {t:TypeId} (bU:Z.own n=none) (hs:¬Z.bP k.r) (nk:¬Z.iq k.r) (gN:¬Z.ic k.r) (ho:Z.ic k.o) (ha:Z.ic k.a) (hoo:Z.lq k.o=none) (hoa:Z.lq k.a=none) (hc:wv.heap[k.r]? =some (.cells c t (0,0))) (h16:c.size=16) (ht:ty t):Vw ((Z.cO n k).cut N ty φ) (fG k.r 16 (Vg φ) wv) w:=by
 have hwa:w.heap[k.r]? =some (.cells c t (0,0)):=by rw [<-hv.same k.r (eY.2 ⟨hs,nk,gN⟩)];exact hc
 have ZG:∀r,(Z.cO n k).iq r↔Z.iq r\/r=k.r:=λr=>by
  constructor
  ·rintro ⟨g,k',h,e⟩;rcases cu h with ⟨_,rfl⟩|⟨_,h⟩
   ·exact .inr e.symm
   ·exact .inl ⟨g,k',h,e⟩
  ·rintro (⟨g,k',h,e⟩|rfl)
   ·exact ⟨g,k',iV bU h,e⟩
   ·exact ⟨n,k,upd_same _ _ _,rfl⟩
 have aGu:∀x,(Z.cO n k).ic x↔Z.ic x:=λx=>by
  constructor
  ·rintro (h|⟨g,k',h,e⟩)
   ·exact .inl h
   ·rcases cu h with ⟨_,rfl⟩|⟨_,h⟩
    ·rcases e with rfl|rfl
     ·exact ho
     ·exact ha
    ·exact .inr ⟨g,k',h,e⟩
  ·rintro (h|⟨g,k',h,e⟩)
   ·exact .inl h
   ·exact .inr ⟨g,k',iV bU h,e⟩
 have BF:∀r,(Z.cO n k).bP r↔Z.bP r:=λr=>Iff.rfl;have Mw:∀r,((Z.cO n k).cut N ty φ).lq r=(Z.cut N ty φ).lq r:=λr=>by
  simp only [Gh.cut,show (Z.cO n k).lq=Z.lq from rfl];by_cases h1:Z.rW r
  ·rw [if_pos h1];obtain ⟨g,k',h,e⟩:=h1;rw [if_pos ⟨g,k',iV bU h,e⟩]
  ·rw [if_neg h1];by_cases h2:(Z.cO n k).rW r
   ·rw [if_pos h2];obtain ⟨g,k',h,e⟩:=h2;rcases cu h with ⟨_,rfl⟩|⟨_,h⟩
    ·rcases e with rfl|rfl
     ·exact hoo.symm
     ·exact hoa.symm
    ·exact absurd ⟨g,k',h,e⟩ h1
   ·rw [if_neg h2]
 have hhd:∀r,r≠k.r->((Z.cO n k).cut N ty φ).hd r=(Z.cut N ty φ).hd r:=λr hr=>by
  have e:(Z.cO n k).iq r=Z.iq r:=propext (by rw [ZG r];exact ⟨λh=>h.elim id (λe=>absurd e hr),.inl⟩);unfold Gh.cut;simp only;rw [e];rfl
 have PE:∀r,r≠k.r->((Z.cO n k).cut N ty φ).fz r=(Z.cut N ty φ).fz r:=λr hr=>by
  have e:(Z.cO n k).iq r=Z.iq r:=propext (by rw [ZG r];exact ⟨λh=>h.elim id (λe=>absurd e hr),.inl⟩);unfold Gh.cut;simp only;rw [e];rfl
 refine ⟨by rw [<-hv.size];simp [fG],hv.os,λr hr=>?_,λr m hr=>?_,λr hr=>?_,λr x hx=>?_,λr l hl=>?_⟩
 ·obtain ⟨h1,h2,h3⟩:=eY.1 hr;have bA:r≠k.r:=λe=>h2 ((ZG r).2 (.inr e));rw [df bA];exact hv.same r (eY.2 ⟨h1,λh=>h2 ((ZG r).2 (.inl h)),λh=>h3 ((aGu r).2 h)⟩)
 ·by_cases e:r=k.r
  ·subst e;have Rp:(Z.cO n k).iq k.r:=(ZG _).2 (.inr rfl);have GQ:¬(Z.cO n k).bP k.r:=hs;have:m=16:=by
    have h:((Z.cO n k).cut N ty φ).hd k.r=some 16:=by simp [Gh.cut,Rp,GQ]
    rw [h] at hr;cases hr;rfl
   subst this;have hf:((Z.cO n k).cut N ty φ).fz k.r=Vg φ:=by simp [Gh.cut,Rp,GQ]
   rw [hf];exact ⟨c.extract 0 16,c,t,iH hc,hwa,by simp;omega,by omega,λi hi=>by simp [Array.getElem?_extract];omega,ht⟩
  ·rw [hhd r e] at hr;rw [PE r e,df e];exact hv.cut r m hr
 ·have jf:Z.ic r:=(aGu r).1 (iU.1 hr);have bA:r≠k.r:=λe=>gN (e▸jf);rw [df bA];have aKZ:=hv.chan r (iU.2 jf);unfold vz wL at aKZ ⊢;rw [Mw];exact aKZ
 ·by_cases e:r=k.r
  ·subst e;rw [iH hc] at hx;cases hx;exact λ_=>⟨rfl,rfl,λ_ _=>by simp⟩
  ·rw [df e] at hx;intro Av;refine hv.plain r x hx ?_;cases uX:(Z.cut N ty φ).ch r with
   |false=>rfl
   |true=>rw [iU.2 ((aGu r).2 (iU.1 uX))] at Av;cases Av
 ·by_cases e:r=k.r
  ·subst e;rw [iH hc] at hl;cases hl
  ·rw [df e] at hl;exact hv.loops r l hl
theorem Sy {c:Nat} (hv:Vw (Z.cut N ty φ) wv w):Vw ((Z.jl c).cut N ty φ) wv w:=⟨hv.size,hv.os,hv.same,hv.cut,hv.chan,hv.plain,hv.loops⟩
end
end Co
end
namespace Co
open Kv Ka Ky
def kg (P:Program) (d:Nat):List (FuncId×List Io)->Nat
 |[]=>d
 |(fn,io)::l=>kg P (deafBehind d (seen P fn (gV io).toArray)) l
def OW:List Io->Bool
 |[]=>true
 | .mk _::l=>OW l
 |_=>false
def jv (P:Program) (l:List (FuncId×List Io)):Bool:=l.all λx=>(seen P x.1 (gV x.2).toArray).all Event.mute
def Bv (P:Program) (l:List (FuncId×List Io)):Bool:=l.all λx=>OW x.2&&(seen P x.1 (gV x.2).toArray).all Event.mute
theorem xX:∀{io:List Io},OW io=true->∀w,jg io w w
 |[],_,_=>rfl
 | .mk _::l,h,w=>xX (io:=l) h w
 | .ld ..::_,h,_=>by cases h
 | .st ..::_,h,_=>by cases h
 | .sh ..::_,h,_=>by cases h
 | .fz ..::_,h,_=>by cases h
 | .get ..::_,h,_=>by cases h
 | .set ..::_,h,_=>by cases h
 | .nw ..::_,h,_=>by cases h
theorem yD {es:Array Event} (h:es.all Event.mute=true):∀e∈es,e.mute=true:=by rw [Array.all_eq_true_iff_forall_mem] at h;exact h
section
variable {P:Program} {k:dR} {st:Ez} {cs:List Frame}
theorem vJ:∀(n m:Nat) {fr fr':Frame} {csl csl':List Frame} {an nM:List An} {jX:List (FuncId×List Io)} {d:Nat},Ky.walk P n fr csl an=some (fr',csl',nM,jX)->Bv P jX=true->QuitsD P m (kg P d jX) (G fr' (csl'++cs))->QuitsD P (m+n) d (G fr (csl++cs))
 |0,m,fr,fr',csl,csl',an,nM,jX,d,h,_,hq=>by
  simp only [Ky.walk,Option.some.injEq,Prod.mk.injEq] at h;obtain ⟨rfl,rfl,rfl,rfl⟩:=h;exact hq
 |n+1,m,fr,fr',csl,csl',an,nM,jX,d,h,hb,hq=>by
  simp only [Ky.walk] at h;split at h
  ·cases h
  ·rename_i Bj NQ VV io lT;split at h
   ·cases h
   ·rename_i fr2 cs2 as2 Mf hw;cases h;simp only [Bv,List.all_cons,Bool.and_eq_true] at hb;obtain ⟨⟨b1,b2⟩,b3⟩:=hb;refine .inr ⟨rfl,G Bj (NQ++cs),_,yD b2,λw=>?_,vJ n m hw b3 hq⟩;have:=gK lT false cs w w (xX b1 w);exact this
theorem Uc (n m:Nat) {fr:Frame} {csl:List Frame} {an:List An} {d d':Nat} (h:bV (Ky.walk P n fr csl an)=true) (hb:Bv P (bM P n fr csl an)=true) (hd:kg P d (bM P n fr csl an)=d') (hq:QuitsD P m d' (G (aR P n fr csl an) (bu P n fr csl an++cs))):QuitsD P (m+n) d (G fr (csl++cs)):=
 vJ n m (l9 h) hb (hd▸hq)
theorem QuitsD.le {n:Nat}:∀{m d:Nat} {g:Goroutine},m<=n->QuitsD P m d g->QuitsD P n d g:=by
 induction n with
 |zero=>intro m d g h hq;obtain rfl:m=0:=(by omega);exact hq
 |succ n ih=>
  intro m d g h hq;cases m with
  |zero=>exact .inl hq
  |succ m=>
   rcases hq with hq|⟨h1,g',es,h2,h3,h4⟩
   ·exact .inl hq
   ·exact .inr ⟨h1,g',es,h2,h3,ih (by omega) h4⟩
def JN (s:Nat):List Io->Prop
 |[]=>True
 | .mk _::l=>JN s l
 | .sh r x::l=>r=s/\x=some (79,8)/\JN s l
 |_=>False
def lW (s:Nat):List (FuncId×List Io)->Prop
 |[]=>True
 |x::l=>JN s x.2/\lW s l
theorem mJ {s:Nat}:∀{io:List Io},JN s io->∀w:World,w.shape? s=some (79,8)->jg io w w
 |[],_,_,_=>rfl
 | .mk _::l,h,w,hw=>mJ (io:=l) h w hw
 | .sh r x::l,⟨h1,h2,h3⟩,w,hw=>⟨by rw [h1,h2];exact hw,mJ (io:=l) h3 w hw⟩
 | .ld ..::_,h,_,_=>h.elim
 | .st ..::_,h,_,_=>h.elim
 | .fz ..::_,h,_,_=>h.elim
 | .get ..::_,h,_,_=>h.elim
 | .set ..::_,h,_,_=>h.elim
 | .nw ..::_,h,_,_=>h.elim
theorem jP {s:Nat}:∀{l:List (FuncId×List Io)},lW s (thin l)->lW s l
 |[],_=>trivial
 |(_,[])::l,h=>⟨trivial,jP (l:=l) h⟩
 |(_,_::_)::l,⟨h1,h2⟩=>⟨h1,jP (l:=l) h2⟩
theorem Q8:∀(n m:Nat) {fr fr':Frame} {csl csl':List Frame} {an nM:List An} {jX:List (FuncId×List Io)} {d:Nat},Ky.walk P n fr csl an=some (fr',csl',nM,jX)->lW k.s jX->jv P jX=true->Lv P k st m (kg P d jX) (G fr' (csl'++cs))->Lv P k st (m+n) d (G fr (csl++cs))
 |0,m,fr,fr',csl,csl',an,nM,jX,d,h,_,_,hq=>by
  simp only [Ky.walk,Option.some.injEq,Prod.mk.injEq] at h;obtain ⟨rfl,rfl,rfl,rfl⟩:=h;exact hq
 |n+1,m,fr,fr',csl,csl',an,nM,jX,d,h,hs,hb,hq=>by
  simp only [Ky.walk] at h;split at h
  ·cases h
  ·rename_i Bj NQ VV io lT;split at h
   ·cases h
   ·rename_i fr2 cs2 as2 Mf hw;cases h;simp only [jv,List.all_cons,Bool.and_eq_true] at hb;obtain ⟨b1,b2⟩:=hb;refine .slip (n:=m+n) rfl (yD b1) (λw fT=>?_) (Q8 n m hw hs.2 b2 hq);have:=gK lT false cs w w (mJ hs.1 w fT);exact this
theorem vO (n m:Nat) {fr:Frame} {csl:List Frame} {an:List An} {d d':Nat} {l:List (FuncId×List Io)} (h:bV (Ky.walk P n fr csl an)=true) (ht:thin (bM P n fr csl an)=l) (hl:lW k.s l) (hb:jv P (bM P n fr csl an)=true) (hd:kg P d (bM P n fr csl an)=d') (hn:Lv P k st m d' (G (aR P n fr csl an) (bu P n fr csl an++cs))):Lv P k st (m+n) d (G fr (csl++cs)):=
 Q8 n m (l9 h) (jP (ht▸hl)) hb (hd▸hn)
theorem pz {fr:Frame} {csl:List Frame} {an:List An} {io:List Io} (h:bV (Ky.walk P 1 fr csl an)=true) (hio:bM P 1 fr csl an=[(fr.fn,io)]) (w w':World) (hb:jg io w w'):stepG P false (G fr (csl++cs)) w=.go (G (aR P 1 fr csl an) (bu P 1 fr csl an++cs)) w' (seen P fr.fn (gV io).toArray):=by
 have hw:=l9 h;generalize aR P 1 fr csl an=f' at hw ⊢;generalize bu P 1 fr csl an=c' at hw ⊢;generalize aFi P 1 fr csl an=a' at hw;rw [hio] at hw;simp only [Ky.walk] at hw;split at hw
 ·cases hw
 ·rename_i Bj NQ VV io1 lT;simp only [Option.some.injEq,Prod.mk.injEq,List.cons.injEq,and_true,true_and] at hw;obtain ⟨rfl,rfl,rfl,rfl⟩:=hw;have:=gK lT false cs w w' hb;simpa using this
end
def rt:Frame:={(default:Frame) with fn:=336,defers:=[],mode:=.panicking [{v:=.tuple #[],recovered:=false,goexit:=true}]}
def KZ (k:dR) (tm:Array Value) (td:List Item):Frame:={fn:=46,tmps:=tm,todo:=td,mode:=.returning,defers:=[{target:=.builtin .close #[93] 0 #[false],args:=#[.chan (some k.a)]},{target:=.fn (.func 84) #[],args:=#[.pointer (some ⟨k.s,5,none⟩)]}],kind:=.deferred}
def r1 (k:dR) (tm:Array Value) (td:List Item):Frame:={fn:=46,tmps:=tm,todo:=td,mode:=.returning,defers:=[{target:=.fn (.func 84) #[],args:=#[.pointer (some ⟨k.s,5,none⟩)]}],kind:=.deferred}
def sU (tm:Array Value) (td:List Item):Frame:={fn:=46,tmps:=tm,todo:=td,mode:=.returning,defers:=[],kind:=.deferred}
def an2:List An:=[.QM (some (79,8)),.QM (some (79,8))]
section
variable (k:dR) (tm:Array Value) (td:List Item)
noncomputable def f2:Frame:=aR Tryz.prog 16 (r1 k tm td) [] an2
noncomputable def c2:List Frame:=bu Tryz.prog 16 (r1 k tm td) [] an2
noncomputable def f3:Frame:=aR Tryz.prog 1 (f2 k tm td) (c2 k tm td) []
noncomputable def c3:List Frame:=bu Tryz.prog 1 (f2 k tm td) (c2 k tm td) []
noncomputable def f4:Frame:=aR Tryz.prog 38 (f3 k tm td) (c3 k tm td) []
noncomputable def c4:List Frame:=bu Tryz.prog 38 (f3 k tm td) (c3 k tm td) []
noncomputable def f5 (x:Int):Frame:=aR Tryz.prog 1 (f4 k tm td) (c4 k tm td) [.val (.int .u64 x)]
noncomputable def c5 (x:Int):List Frame:=bu Tryz.prog 1 (f4 k tm td) (c4 k tm td) [.val (.int .u64 x)]
noncomputable def f6:Frame:=aR Tryz.prog 103 (f5 k tm td (aa 1 1)) (c5 k tm td (aa 1 1)) []
noncomputable def c6:List Frame:=bu Tryz.prog 103 (f5 k tm td (aa 1 1)) (c5 k tm td (aa 1 1)) []
noncomputable def f7:Frame:=aR Tryz.prog 1 (f6 k tm td) (c6 k tm td) [.val (.int .u64 (aa 0 1))]
noncomputable def c7:List Frame:=bu Tryz.prog 1 (f6 k tm td) (c6 k tm td) [.val (.int .u64 (aa 0 1))]
noncomputable def f8:Frame:=aR Tryz.prog 20 (f7 k tm td) (c7 k tm td) []
noncomputable def c8:List Frame:=bu Tryz.prog 20 (f7 k tm td) (c7 k tm td) []
noncomputable def f9:Frame:=aR Tryz.prog 1 (f8 k tm td) (c8 k tm td) []
noncomputable def c9:List Frame:=bu Tryz.prog 1 (f8 k tm td) (c8 k tm td) []
noncomputable def f10:Frame:=aR Tryz.prog 27 (f9 k tm td) (c9 k tm td) []
noncomputable def c10:List Frame:=bu Tryz.prog 27 (f9 k tm td) (c9 k tm td) []
noncomputable def f11:Frame:=aR Tryz.prog 1 (f10 k tm td) (c10 k tm td) [.val (.int .u32 0)]
noncomputable def c11:List Frame:=bu Tryz.prog 1 (f10 k tm td) (c10 k tm td) [.val (.int .u32 0)]
theorem dM:QuitsD Tryz.prog 2 0 (G (sU tm td) [rt]):=
 .inr ⟨rfl,G rt [],#[],by simp,λw=>k15,.inr ⟨rfl,{G rt [] with status:=.finished},#[],by simp,λw=>k15,rfl,rfl⟩⟩
theorem QO:aR Tryz.prog 22 (f11 k tm td) (c11 k tm td) []=sU tm td/\bu Tryz.prog 22 (f11 k tm td) (c11 k tm td) []=[]:=⟨k15,k15⟩
theorem TH:QuitsD Tryz.prog 24 1 (G (f11 k tm td) (c11 k tm td++[rt])):=by refine Uc (d':=0) 22 2 (an:=[]) k15 k15 k15 ?_;rw [(QO k tm td).1,(QO k tm td).2];exact dM tm td
end
end Co
namespace Co
open Kv Ka Ky
def aDC (P:Program) (n:Nat) (fr:Frame) (csl:List Frame) (d:Nat):Option (Frame×List Frame×Bool×Nat):=(Ky.walk P n fr csl []).map λx=>(x.1,x.2.1,Bv P x.2.2.2,kg P d x.2.2.2)
theorem dS {P:Program} {cs:List Frame} (n m:Nat) {fr fr':Frame} {csl csl':List Frame} {d d':Nat} (h:aDC P n fr csl d=some (fr',csl',true,d')) (hq:QuitsD P m d' (G fr' (csl'++cs))):QuitsD P (m+n) d (G fr (csl++cs)):=by unfold aDC at h;obtain ⟨⟨x1,x2,x3,x4⟩,hx,e⟩:=Option.map_eq_some_iff.1 h;simp only [Prod.mk.injEq] at e;obtain ⟨rfl,rfl,e3,rfl⟩:=e;exact vJ n m hx e3 hq
section
variable (k:dR) (tm:Array Value) (td:List Item)
theorem aFD:QuitsD Tryz.prog 94 1 (G (f5 k tm td (aa 1 0)) (c5 k tm td (aa 1 0)++[rt])):=dS (fr':=sU tm td) (csl':=[]) (d':=0) 92 2 k15 (dM tm td)
theorem aFC:QuitsD Tryz.prog 94 1 (G (f5 k tm td (aa 2 0)) (c5 k tm td (aa 2 0)++[rt])):=dS (fr':=sU tm td) (csl':=[]) (d':=0) 92 2 k15 (dM tm td)
theorem aFB:QuitsD Tryz.prog 94 1 (G (f5 k tm td (aa 2 1)) (c5 k tm td (aa 2 1)++[rt])):=dS (fr':=sU tm td) (csl':=[]) (d':=0) 92 2 k15 (dM tm td)
theorem aFA:QuitsD Tryz.prog 94 1 (G (f5 k tm td (aa 3 0)) (c5 k tm td (aa 3 0)++[rt])):=dS (fr':=sU tm td) (csl':=[]) (d':=0) 92 2 k15 (dM tm td)
theorem aFz:QuitsD Tryz.prog 94 1 (G (f5 k tm td (aa 3 1)) (c5 k tm td (aa 3 1)++[rt])):=dS (fr':=sU tm td) (csl':=[]) (d':=0) 92 2 k15 (dM tm td)
theorem aFy:QuitsD Tryz.prog 94 1 (G (f5 k tm td (aa 4 0)) (c5 k tm td (aa 4 0)++[rt])):=dS (fr':=sU tm td) (csl':=[]) (d':=0) 92 2 k15 (dM tm td)
theorem aFx:QuitsD Tryz.prog 94 1 (G (f5 k tm td (aa 4 1)) (c5 k tm td (aa 4 1)++[rt])):=dS (fr':=sU tm td) (csl':=[]) (d':=0) 92 2 k15 (dM tm td)
theorem aFw:QuitsD Tryz.prog 94 1 (G (f5 k tm td (aa 5 0)) (c5 k tm td (aa 5 0)++[rt])):=dS (fr':=sU tm td) (csl':=[]) (d':=0) 92 2 k15 (dM tm td)
theorem aFv:QuitsD Tryz.prog 94 1 (G (f5 k tm td (aa 5 1)) (c5 k tm td (aa 5 1)++[rt])):=dS (fr':=sU tm td) (csl':=[]) (d':=0) 92 2 k15 (dM tm td)
theorem aFu:QuitsD Tryz.prog 94 1 (G (f5 k tm td (aa 6 0)) (c5 k tm td (aa 6 0)++[rt])):=dS (fr':=sU tm td) (csl':=[]) (d':=0) 92 2 k15 (dM tm td)
theorem aFt:QuitsD Tryz.prog 94 1 (G (f5 k tm td (aa 6 1)) (c5 k tm td (aa 6 1)++[rt])):=dS (fr':=sU tm td) (csl':=[]) (d':=0) 92 2 k15 (dM tm td)
theorem aFs:QuitsD Tryz.prog 94 1 (G (f5 k tm td (aa 7 0)) (c5 k tm td (aa 7 0)++[rt])):=dS (fr':=sU tm td) (csl':=[]) (d':=0) 92 2 k15 (dM tm td)
theorem aFr:QuitsD Tryz.prog 94 1 (G (f5 k tm td (aa 7 1)) (c5 k tm td (aa 7 1)++[rt])):=dS (fr':=sU tm td) (csl':=[]) (d':=0) 92 2 k15 (dM tm td)
theorem aFq:QuitsD Tryz.prog 94 1 (G (f5 k tm td (aa 8 0)) (c5 k tm td (aa 8 0)++[rt])):=dS (fr':=sU tm td) (csl':=[]) (d':=0) 92 2 k15 (dM tm td)
theorem aFp:QuitsD Tryz.prog 94 1 (G (f5 k tm td (aa 8 1)) (c5 k tm td (aa 8 1)++[rt])):=dS (fr':=sU tm td) (csl':=[]) (d':=0) 92 2 k15 (dM tm td)
theorem nq (c wt:Nat) (hc:c<8) (hw:wt<=1) (h:c≠0\/wt=0):QuitsD Tryz.prog 94 1 (G (f5 k tm td (aa (c+1) wt)) (c5 k tm td (aa (c+1) wt)++[rt])):=by
 have YU:wt=0\/wt=1:=by omega
 have Av:c=0\/c=1\/c=2\/c=3\/c=4\/c=5\/c=6\/c=7:=by omega
 rcases YU with rfl|rfl
 ·rcases Av with rfl|rfl|rfl|rfl|rfl|rfl|rfl|rfl
  ·exact aFD k tm td
  ·exact aFC k tm td
  ·exact aFA k tm td
  ·exact aFy k tm td
  ·exact aFw k tm td
  ·exact aFu k tm td
  ·exact aFs k tm td
  ·exact aFq k tm td
 ·rcases Av with rfl|rfl|rfl|rfl|rfl|rfl|rfl|rfl
  ·omega
  ·exact aFB k tm td
  ·exact aFz k tm td
  ·exact aFx k tm td
  ·exact aFv k tm td
  ·exact aFt k tm td
  ·exact aFr k tm td
  ·exact aFp k tm td
def eD (k:dR) (x y:Int):List Io:=[.mk (.extern 130),.ld .atomic (dE k.s) (.int .u64 x),.st .atomic (dE k.s) (.int .u64 y)]
theorem aHL:bV (Ky.walk Tryz.prog 1 (f4 k tm td) (c4 k tm td) [.val (.int .u64 (aa 1 0))])=true/\bM Tryz.prog 1 (f4 k tm td) (c4 k tm td) [.val (.int .u64 (aa 1 0))]=[((f4 k tm td).fn,eD k (aa 1 0) (aa 0 0))]/\seen Tryz.prog (f4 k tm td).fn (gV (eD k (aa 1 0) (aa 0 0))).toArray=je k.s:=⟨k15,k15,k15⟩
theorem aHK:bV (Ky.walk Tryz.prog 1 (f4 k tm td) (c4 k tm td) [.val (.int .u64 (aa 1 1))])=true/\bM Tryz.prog 1 (f4 k tm td) (c4 k tm td) [.val (.int .u64 (aa 1 1))]=[((f4 k tm td).fn,eD k (aa 1 1) (aa 0 1))]/\seen Tryz.prog (f4 k tm td).fn (gV (eD k (aa 1 1) (aa 0 1))).toArray=je k.s:=⟨k15,k15,k15⟩
theorem aHJ:bV (Ky.walk Tryz.prog 1 (f4 k tm td) (c4 k tm td) [.val (.int .u64 (aa 2 0))])=true/\bM Tryz.prog 1 (f4 k tm td) (c4 k tm td) [.val (.int .u64 (aa 2 0))]=[((f4 k tm td).fn,eD k (aa 2 0) (aa 1 0))]/\seen Tryz.prog (f4 k tm td).fn (gV (eD k (aa 2 0) (aa 1 0))).toArray=je k.s:=⟨k15,k15,k15⟩
theorem aHI:bV (Ky.walk Tryz.prog 1 (f4 k tm td) (c4 k tm td) [.val (.int .u64 (aa 2 1))])=true/\bM Tryz.prog 1 (f4 k tm td) (c4 k tm td) [.val (.int .u64 (aa 2 1))]=[((f4 k tm td).fn,eD k (aa 2 1) (aa 1 1))]/\seen Tryz.prog (f4 k tm td).fn (gV (eD k (aa 2 1) (aa 1 1))).toArray=je k.s:=⟨k15,k15,k15⟩
theorem aHH:bV (Ky.walk Tryz.prog 1 (f4 k tm td) (c4 k tm td) [.val (.int .u64 (aa 3 0))])=true/\bM Tryz.prog 1 (f4 k tm td) (c4 k tm td) [.val (.int .u64 (aa 3 0))]=[((f4 k tm td).fn,eD k (aa 3 0) (aa 2 0))]/\seen Tryz.prog (f4 k tm td).fn (gV (eD k (aa 3 0) (aa 2 0))).toArray=je k.s:=⟨k15,k15,k15⟩
theorem aHG:bV (Ky.walk Tryz.prog 1 (f4 k tm td) (c4 k tm td) [.val (.int .u64 (aa 3 1))])=true/\bM Tryz.prog 1 (f4 k tm td) (c4 k tm td) [.val (.int .u64 (aa 3 1))]=[((f4 k tm td).fn,eD k (aa 3 1) (aa 2 1))]/\seen Tryz.prog (f4 k tm td).fn (gV (eD k (aa 3 1) (aa 2 1))).toArray=je k.s:=⟨k15,k15,k15⟩
theorem aHF:bV (Ky.walk Tryz.prog 1 (f4 k tm td) (c4 k tm td) [.val (.int .u64 (aa 4 0))])=true/\bM Tryz.prog 1 (f4 k tm td) (c4 k tm td) [.val (.int .u64 (aa 4 0))]=[((f4 k tm td).fn,eD k (aa 4 0) (aa 3 0))]/\seen Tryz.prog (f4 k tm td).fn (gV (eD k (aa 4 0) (aa 3 0))).toArray=je k.s:=⟨k15,k15,k15⟩
theorem aHE:bV (Ky.walk Tryz.prog 1 (f4 k tm td) (c4 k tm td) [.val (.int .u64 (aa 4 1))])=true/\bM Tryz.prog 1 (f4 k tm td) (c4 k tm td) [.val (.int .u64 (aa 4 1))]=[((f4 k tm td).fn,eD k (aa 4 1) (aa 3 1))]/\seen Tryz.prog (f4 k tm td).fn (gV (eD k (aa 4 1) (aa 3 1))).toArray=je k.s:=⟨k15,k15,k15⟩
theorem aHD:bV (Ky.walk Tryz.prog 1 (f4 k tm td) (c4 k tm td) [.val (.int .u64 (aa 5 0))])=true/\bM Tryz.prog 1 (f4 k tm td) (c4 k tm td) [.val (.int .u64 (aa 5 0))]=[((f4 k tm td).fn,eD k (aa 5 0) (aa 4 0))]/\seen Tryz.prog (f4 k tm td).fn (gV (eD k (aa 5 0) (aa 4 0))).toArray=je k.s:=⟨k15,k15,k15⟩
theorem aHC:bV (Ky.walk Tryz.prog 1 (f4 k tm td) (c4 k tm td) [.val (.int .u64 (aa 5 1))])=true/\bM Tryz.prog 1 (f4 k tm td) (c4 k tm td) [.val (.int .u64 (aa 5 1))]=[((f4 k tm td).fn,eD k (aa 5 1) (aa 4 1))]/\seen Tryz.prog (f4 k tm td).fn (gV (eD k (aa 5 1) (aa 4 1))).toArray=je k.s:=⟨k15,k15,k15⟩
theorem aHB:bV (Ky.walk Tryz.prog 1 (f4 k tm td) (c4 k tm td) [.val (.int .u64 (aa 6 0))])=true/\bM Tryz.prog 1 (f4 k tm td) (c4 k tm td) [.val (.int .u64 (aa 6 0))]=[((f4 k tm td).fn,eD k (aa 6 0) (aa 5 0))]/\seen Tryz.prog (f4 k tm td).fn (gV (eD k (aa 6 0) (aa 5 0))).toArray=je k.s:=⟨k15,k15,k15⟩
theorem aHA:bV (Ky.walk Tryz.prog 1 (f4 k tm td) (c4 k tm td) [.val (.int .u64 (aa 6 1))])=true/\bM Tryz.prog 1 (f4 k tm td) (c4 k tm td) [.val (.int .u64 (aa 6 1))]=[((f4 k tm td).fn,eD k (aa 6 1) (aa 5 1))]/\seen Tryz.prog (f4 k tm td).fn (gV (eD k (aa 6 1) (aa 5 1))).toArray=je k.s:=⟨k15,k15,k15⟩
theorem aHz:bV (Ky.walk Tryz.prog 1 (f4 k tm td) (c4 k tm td) [.val (.int .u64 (aa 7 0))])=true/\bM Tryz.prog 1 (f4 k tm td) (c4 k tm td) [.val (.int .u64 (aa 7 0))]=[((f4 k tm td).fn,eD k (aa 7 0) (aa 6 0))]/\seen Tryz.prog (f4 k tm td).fn (gV (eD k (aa 7 0) (aa 6 0))).toArray=je k.s:=⟨k15,k15,k15⟩
theorem aHy:bV (Ky.walk Tryz.prog 1 (f4 k tm td) (c4 k tm td) [.val (.int .u64 (aa 7 1))])=true/\bM Tryz.prog 1 (f4 k tm td) (c4 k tm td) [.val (.int .u64 (aa 7 1))]=[((f4 k tm td).fn,eD k (aa 7 1) (aa 6 1))]/\seen Tryz.prog (f4 k tm td).fn (gV (eD k (aa 7 1) (aa 6 1))).toArray=je k.s:=⟨k15,k15,k15⟩
theorem aHx:bV (Ky.walk Tryz.prog 1 (f4 k tm td) (c4 k tm td) [.val (.int .u64 (aa 8 0))])=true/\bM Tryz.prog 1 (f4 k tm td) (c4 k tm td) [.val (.int .u64 (aa 8 0))]=[((f4 k tm td).fn,eD k (aa 8 0) (aa 7 0))]/\seen Tryz.prog (f4 k tm td).fn (gV (eD k (aa 8 0) (aa 7 0))).toArray=je k.s:=⟨k15,k15,k15⟩
theorem aHw:bV (Ky.walk Tryz.prog 1 (f4 k tm td) (c4 k tm td) [.val (.int .u64 (aa 8 1))])=true/\bM Tryz.prog 1 (f4 k tm td) (c4 k tm td) [.val (.int .u64 (aa 8 1))]=[((f4 k tm td).fn,eD k (aa 8 1) (aa 7 1))]/\seen Tryz.prog (f4 k tm td).fn (gV (eD k (aa 8 1) (aa 7 1))).toArray=je k.s:=⟨k15,k15,k15⟩
theorem ai (c wt:Nat) (hc:c<8) (hw:wt<=1):bV (Ky.walk Tryz.prog 1 (f4 k tm td) (c4 k tm td) [.val (.int .u64 (aa (c+1) wt))])=true/\bM Tryz.prog 1 (f4 k tm td) (c4 k tm td) [.val (.int .u64 (aa (c+1) wt))]=[((f4 k tm td).fn,eD k (aa (c+1) wt) (aa c wt))]/\seen Tryz.prog (f4 k tm td).fn (gV (eD k (aa (c+1) wt) (aa c wt))).toArray=je k.s:=by
 have YU:wt=0\/wt=1:=by omega
 have Av:c=0\/c=1\/c=2\/c=3\/c=4\/c=5\/c=6\/c=7:=by omega
 rcases YU with rfl|rfl
 ·rcases Av with rfl|rfl|rfl|rfl|rfl|rfl|rfl|rfl
  ·exact aHL k tm td
  ·exact aHJ k tm td
  ·exact aHH k tm td
  ·exact aHF k tm td
  ·exact aHD k tm td
  ·exact aHB k tm td
  ·exact aHz k tm td
  ·exact aHx k tm td
 ·rcases Av with rfl|rfl|rfl|rfl|rfl|rfl|rfl|rfl
  ·exact aHK k tm td
  ·exact aHI k tm td
  ·exact aHG k tm td
  ·exact aHE k tm td
  ·exact aHC k tm td
  ·exact aHA k tm td
  ·exact aHy k tm td
  ·exact aHw k tm td
theorem aND:Lv Tryz.prog k .y 25 1 (G (f10 k tm td) (c10 k tm td++[rt])):=by refine .sem (n:=24) (g':=G (f11 k tm td) (c11 k tm td++[rt])) rfl (by omega) k15 (λw h1 h2=>?_) (TH k tm td);refine (pz (an:=[.val (.int .u32 0)]) (io:=[.mk (.extern 83),.mk .disable,.ld .atomic (iD k.s) (.int .u32 0),.st .atomic (iD k.s) (.int .u32 1),.mk .enable]) k15 k15 w _ ⟨h1,⟨_,h1⟩,h2,rfl⟩).trans ?_;congr 1
theorem aJA:Lv Tryz.prog k .y (25+27) 1 (G (f9 k tm td) (c9 k tm td++[rt])):=vO (d':=1) (l:=[]) (an:=[]) 27 25 k15 k15 trivial k15 k15 (aND k tm td)
theorem aNE:Lv Tryz.prog k .x 53 1 (G (f8 k tm td) (c8 k tm td++[rt])):=by refine .reset (n:=52) (g':=G (f9 k tm td) (c9 k tm td++[rt])) rfl (by omega) (λw h1 h2=>?_) (aJA k tm td);refine (pz (an:=[]) (io:=[.mk (.extern 131),.st .atomic (dE k.s) (.int .u64 0)]) k15 k15 w _ ⟨⟨_,h1⟩,h2,rfl⟩).trans ?_;congr 1
theorem aJB:Lv Tryz.prog k .x (53+20) 1 (G (f7 k tm td) (c7 k tm td++[rt])):=vO (d':=1) (l:=[]) (an:=[]) 20 53 k15 k15 trivial k15 k15 (aNE k tm td)
theorem aNF:Lv Tryz.prog k .w 74 1 (G (f6 k tm td) (c6 k tm td++[rt])):=by refine .look (n:=73) (g':=G (f7 k tm td) (c7 k tm td++[rt])) rfl (by omega) (λw h1=>?_) (aJB k tm td);refine (pz (an:=[.val (.int .u64 (aa 0 1))]) (io:=[.mk (.extern 98),.ld .atomic (dE k.s) (.int .u64 (aa 0 1))]) k15 k15 w _ ⟨h1,rfl⟩).trans ?_;congr 1
theorem aJC:Lv Tryz.prog k .w (74+103) 1 (G (f5 k tm td (aa 1 1)) (c5 k tm td (aa 1 1)++[rt])):=vO (d':=1) (l:=[]) (an:=[]) 103 74 k15 k15 trivial k15 k15 (aNF k tm td)
theorem aNG:Lv Tryz.prog k .c 178 1 (G (f4 k tm td) (c4 k tm td++[rt])):=by refine .add (n:=177) (λx=>G (f5 k tm td x) (c5 k tm td x++[rt])) rfl (by omega) (λw c wt hc hw h1 h2=>?_) (λc wt hc hw h=>QuitsD.le (by omega) (nq k tm td c wt hc hw h)) (aJC k tm td);obtain ⟨e1,e2,e3⟩:=ai k tm td c wt hc hw;refine (pz (an:=[.val (.int .u64 (aa (c+1) wt))]) e1 e2 w _ ⟨h1,⟨_,h1⟩,h2,rfl⟩).trans ?_;rw [e3];rfl
theorem aJD:Lv Tryz.prog k .c (178+38) 0 (G (f3 k tm td) (c3 k tm td++[rt])):=vO (d':=1) (l:=[(45,[.mk (.extern 56),.mk .disable]),(45,[.mk (.extern 64)])]) (an:=[]) 38 178 k15 k15 ⟨trivial,trivial,trivial⟩ k15 k15 (aNG k tm td)
theorem aNH:Lv Tryz.prog k .b 217 0 (G (f2 k tm td) (c2 k tm td++[rt])):=by refine .rel (n:=216) (g':=G (f3 k tm td) (c3 k tm td++[rt])) rfl (λw v h1=>?_) (aJD k tm td);refine (pz (an:=[]) (io:=[.mk (.extern 76),.mk (.releaseMerge (dE k.s))]) k15 k15 w _ rfl).trans ?_;congr 1
theorem aJE:Lv Tryz.prog k .b (217+16) 0 (G (r1 k tm td) [rt]):=vO (d':=0) (l:=[(45,[.sh k.s (some (79,8)),.sh k.s (some (79,8))])]) (an:=an2) 16 217 k15 k15 ⟨⟨rfl,rfl,rfl,rfl,trivial⟩,trivial⟩ k15 k15 (aNH k tm td)
end
end Co
namespace Co
open Kv Ka Ky
section
variable (k:dR) (tm:Array Value) (td:List Item)
theorem aJF:Lv Tryz.prog k .a 234 0 (G (KZ k tm td) [rt]):=by refine .close (n:=233) (g':=G (r1 k tm td) [rt]) rfl (λw m h1=>?_) (aJE k tm td);have h:=pz (P:=Tryz.prog) (fr:=KZ k tm td) (csl:=[]) (cs:=[rt]) (an:=[.obj (.chan 0 #[] false m m false)]) (io:=[.get k.a (.chan 0 #[] false m m false),.set k.a (.chan 0 #[] true m m false)]) k15 k15 w (w.setChan k.a 0 #[] true m m false) ⟨h1,⟨_,h1,rfl⟩,rfl⟩;refine h.trans ?_;have e1:aR Tryz.prog 1 (KZ k tm td) [] [.obj (.chan 0 #[] false m m false)]=r1 k tm td:=k15;have e2:bu Tryz.prog 1 (KZ k tm td) [] [.obj (.chan 0 #[] false m m false)]=[]:=k15;have e3:seen Tryz.prog (KZ k tm td).fn (gV [.get k.a (.chan 0 #[] false m m false),.set k.a (.chan 0 #[] true m m false)]).toArray=closeEvents k.a:=k15;rw [e1,e2,e3];rfl
end
end Co
namespace Co
open Kv Ka Ky
def tmW (k:dR) (f:Nat->Value):Array Value:=⟨(List.range 50).map λi=>if i=0 then .pointer (some ⟨k.r,0,none⟩) else if i=18 then .chan (some k.o) else f i⟩
def anS (k:dR):List An:=[.val (.pointer (some ⟨k.s,0,none⟩)),.val (.chan (some k.a)),.val (.chan (some k.o))]
noncomputable def vF (k:dR):Frame:=Frame.enter Tryz.prog 46 #[.pointer (some ⟨k.r,0,none⟩)] .deferred
noncomputable def aFb:List Item:=(aR Tryz.prog 29 (vF ⟨0,0,0,0⟩) [] (anS ⟨0,0,0,0⟩)).todo
noncomputable def xL (k:dR) (f:Nat->Value):Frame:={fn:=46,tmps:=tmW k f,todo:=aFb,mode:=.run,defers:=(KZ k #[] []).defers,kind:=.deferred}
def Ar (k:dR) (g:Goroutine):Prop:=∃f,g=G (xL k f) [rt]
def zo:Value:=.int .i64 0
def yM (k:dR):Sd:=⟨k.o,zo,true,Ar k⟩
noncomputable def f0 (k:dR) (i:Nat):Value:=(aR Tryz.prog 29 (vF k) [] (anS k)).tmps.getD i undef
theorem TC (k:dR):bV (Ky.walk Tryz.prog 29 (vF k) [] (anS k))=true/\aR Tryz.prog 29 (vF k) [] (anS k)=xL k (f0 k)/\bu Tryz.prog 29 (vF k) [] (anS k)=[]/\thin (bM Tryz.prog 29 (vF k) [] (anS k))=[(46,[.ld .plain ⟨k.r,1,none⟩ (.pointer (some ⟨k.s,0,none⟩))]),(46,[.ld .plain ⟨k.r,10,none⟩ (.chan (some k.a))]),(46,[.ld .plain ⟨k.r,9,none⟩ (.chan (some k.o))])]:=
 ⟨k15,k15,k15,k15⟩
theorem TL (k:dR) (f:Nat->Value) (w:World):stepG Tryz.prog false (G (xL k f) [rt]) w=.comm (G (xL k f) [rt]) #[rcase k.o zo] true (.recv true) w #[]:=k15
theorem KT (Z:Gh) (k:dR) (i:Nat) (f:Nat->Value):kL Tryz.prog false Z.K0 (Z.pr i) k.o zo true (Ar k) (G (xL k f) [rt]) (G (xL k f) [rt]):=
 ⟨rfl,rfl,rfl,rfl,⟨f,rfl⟩,#[],by simp,λw _=>TL k f w⟩
section
variable {P:Program} {Kk:World->Prop} {Pv:Loc->Prop}
theorem zK {main:Bool} {Stop:Goroutine->World->Prop} (n m:Nat) {fr:Frame} {csl cs:List Frame} {an:List An} {w:World} (h:bV (Ky.walk P n fr csl an)=true) (hb:∀x∈bM P n fr csl an,∀w₁,Kk w₁->jg x.2 w₁ w₁/\DW Pv w₁ w₁ (seen P x.1 (gV x.2).toArray)) (hs:Goes P main (RK Kk) (DW Pv) Stop m (G (aR P n fr csl an) (bu P n fr csl an++cs)) w):Goes P main (RK Kk) (DW Pv) Stop (m+n) (G fr (csl++cs)) w:=
 G9 (R:=RK Kk) (λ_ _ _ _ h=>h) n m (l9 h) (λx hx w₁ hr=>hb x hx w₁ hr) hs
theorem r9:∀{l:List (FuncId×List Io)} {x:FuncId×List Io},x∈l->x∈thin l\/x.2=[]
 |(fn,[])::l,x,h=>by
  rcases List.mem_cons.1 h with rfl|h
  ·exact .inr rfl
  ·exact r9 (l:=l) h
 |(fn,i::io)::l,x,h=>by
  rcases List.mem_cons.1 h with rfl|h
  ·exact .inl List.mem_cons_self
  ·exact (r9 (l:=l) h).imp (List.mem_cons_of_mem _) id
end
theorem yh {P:Program} {fn:FuncId} {a:Addr} {v:Value} {Pv:Loc->Prop} {w:World} (h:w.cell? a=some v) (hp:Pv (.cell a)):jg [.ld .plain a v] w w/\DW Pv w w (seen P fn (gV [.ld .plain a v]).toArray):=by refine ⟨⟨h,rfl⟩,rfl,λe he=>?_⟩;have:=mem_seen he;simp only [gV,List.mem_toArray,List.mem_cons,List.not_mem_nil,or_false] at this;subst this;exact ⟨a,rfl,hp⟩
def rt0 (k:dR):Frame:={rt with defers:=[{target:=.fn (.func 46) #[],args:=#[.pointer (some ⟨k.r,0,none⟩)]}]}
theorem XN (k:dR) (w:World):stepG Tryz.prog false (G (rt0 k) []) w=.go (G (vF k) [rt]) w #[]:=k15
theorem JH (Z:Gh) {n:Nat} {k:dR} (hk:Z.own n=some k):ik Tryz.prog false Z.K0 (Z.pr n) k.o zo true (Ar k) 31 (G (rt0 k) []):=by
 obtain ⟨h1,h2,h3,h4⟩:=TC k;refine .inl ⟨30,default,rfl,?_⟩;have hp:∀o,IW o->Z.pr n (.cell ⟨k.r,o,none⟩):=λo ho=>⟨n,k,o,hk,ho,rfl,.inr rfl⟩
 have:=λw=>zK (P:=Tryz.prog) (Kk:=Z.K0) (Pv:=Z.pr n) (main:=false) (Stop:=λg _=>∃g₂,kL Tryz.prog false Z.K0 (Z.pr n) k.o zo true (Ar k) g g₂) 29 0 (cs:=[rt]) (w:=w) h1 (λx hx w₁ hw=>?_) ?_
 ·refine .inr ⟨rfl,λw₁ _=>?_⟩;rw [XN k w₁];exact ⟨⟨rfl,λe he=>by simp at he⟩,this w₁⟩
 ·obtain ⟨k1,k2,k3,_⟩:=hw n k hk;rcases r9 hx with hx|hx
  ·rw [h4] at hx;simp only [List.mem_cons,List.not_mem_nil,or_false] at hx;rcases hx with rfl|rfl|rfl
   ·exact yh k1 (hp 1 (.inl rfl))
   ·exact yh k3 (hp 10 (.inr (.inr rfl)))
   ·exact yh k2 (hp 9 (.inr (.inl rfl)))
  ·rw [hx];exact ⟨rfl,rfl,λe he=>by have:=mem_seen he;simp [gV] at this⟩
 ·rw [h2,h3];exact λw₁ _=>⟨_,KT Z k n (f0 k)⟩
end Co
section
open Go.ConcN (upd)
namespace Co
open Kv Ka Ky
inductive jm
 |read
 |lock
 |fin (b:Nat)
def EZ (k:dR):Value:=.pointer (some ⟨k.r,0,none⟩)
def jm.val (k:dR):jm->Value
 | .read=>.func (.func 44) #[EZ k] #[]
 | .lock=>.func (.func 75) #[EZ k] #[]
 | .fin b=>.func (.func 127) #[] #[.pointer (some ⟨b,0,none⟩)]
def jm.fn:jm->FuncId
 | .read=>44
 | .lock=>75
 | .fin _=>127
def jm.args (k:dR):jm->Array Value
 | .read| .lock=>#[EZ k]
 | .fin b=>#[.pointer (some ⟨b,0,none⟩)]
def Kh (k:dR):Option jm->Value
 |some x=>x.val k
 |none=>.nilFunc
def told (n:Int) (d:Bool):Value:=.agg #[.int .i64 n,.bool d]
def zA:Value:=.agg #[.int .i64 0,.bool false]
section
variable (k:dR) (f:Nat->Value)
noncomputable def wB (o:Int):Frame:=(xL k f).finish (recvd true (.int .i64 o) true)
noncomputable def wC (x:jm):Frame:=(bu Tryz.prog 29 (wB k f 0) [] [.val (x.val k)]).headD default
noncomputable def wS (x:jm) (n:Int) (y:Option jm):Frame:=aR Tryz.prog 20 ((wC k f x).finish (.int .i64 n)) [] [.val (Kh k y),.val (.chan (some k.a))]
noncomputable def wD:Frame:=(bu Tryz.prog 26 (wB k f 1) [] []).headD default
noncomputable def wT:Frame:=aR Tryz.prog 8 ((wD k f).finish (.tuple #[])) [] [.val (.chan (some k.a))]
theorem aEV (x:jm):bV (Ky.walk Tryz.prog 29 (wB k f 0) [] [.val (x.val k)])=true/\aR Tryz.prog 29 (wB k f 0) [] [.val (x.val k)]=Frame.enter Tryz.prog x.fn (x.args k) .normal/\bu Tryz.prog 29 (wB k f 0) [] [.val (x.val k)]=[wC k f x]/\thin (bM Tryz.prog 29 (wB k f 0) [] [.val (x.val k)])=[(46,[.ld .plain ⟨k.r,14,none⟩ (x.val k)])]:=by
 cases x with
 |read=>exact ⟨k15,k15,k15,k15⟩
 |lock=>exact ⟨k15,k15,k15,k15⟩
 |fin b=>exact ⟨k15,k15,k15,k15⟩
theorem aET (x:jm) (n:Int) (y:Option jm):bV (Ky.walk Tryz.prog 20 ((wC k f x).finish (.int .i64 n)) [] [.val (Kh k y),.val (.chan (some k.a))])=true/\bu Tryz.prog 20 ((wC k f x).finish (.int .i64 n)) [] [.val (Kh k y),.val (.chan (some k.a))]=[]/\thin (bM Tryz.prog 20 ((wC k f x).finish (.int .i64 n)) [] [.val (Kh k y),.val (.chan (some k.a))])=[(46,[.ld .plain ⟨k.r,14,none⟩ (Kh k y)]),(46,[.ld .plain ⟨k.r,10,none⟩ (.chan (some k.a))])]:=by
 cases x with
 |read=>cases y with
  |none=>exact ⟨k15,k15,k15⟩
  |some y=>cases y<;>exact ⟨k15,k15,k15⟩
 |lock=>cases y with
  |none=>exact ⟨k15,k15,k15⟩
  |some y=>cases y<;>exact ⟨k15,k15,k15⟩
 |fin b=>cases y with
  |none=>exact ⟨k15,k15,k15⟩
  |some y=>cases y<;>exact ⟨k15,k15,k15⟩
theorem aBd (x:jm) (n:Int) (y:Option jm) (w:World):stepG Tryz.prog false (G (wS k f x n y) [rt]) w=.comm (G (wS k f x n y) [rt]) #[scase k.a (told n y.isNone) (.tuple #[])] true .send w #[]:=by
 cases x with
 |read=>cases y with
  |none=>kernel_rfl
  |some y=>cases y<;>kernel_rfl
 |lock=>cases y with
  |none=>kernel_rfl
  |some y=>cases y<;>kernel_rfl
 |fin b=>cases y with
  |none=>kernel_rfl
  |some y=>cases y<;>kernel_rfl
noncomputable def fA (x:jm) (n:Int) (y:Option jm) (i:Nat):Value:=(aR Tryz.prog 12 ((wS k f x n y).finish undef) [] []).tmps.getD i undef
theorem VA (x:jm) (n:Int) (y:jm):bV (Ky.walk Tryz.prog 12 ((wS k f x n (some y)).finish undef) [] [])=true/\aR Tryz.prog 12 ((wS k f x n (some y)).finish undef) [] []=xL k (fA k f x n (some y))/\bu Tryz.prog 12 ((wS k f x n (some y)).finish undef) [] []=[]/\thin (bM Tryz.prog 12 ((wS k f x n (some y)).finish undef) [] [])=[]:=by cases x<;>cases y<;>exact ⟨k15,k15,k15,k15⟩
noncomputable def gF (x:jm) (n:Int):Frame:=aR Tryz.prog 7 ((wS k f x n none).finish undef) [] []
theorem ZU (x:jm) (n:Int):bV (Ky.walk Tryz.prog 7 ((wS k f x n none).finish undef) [] [])=true/\gF k f x n=KZ k (gF k f x n).tmps (gF k f x n).todo/\bu Tryz.prog 7 ((wS k f x n none).finish undef) [] []=[]/\thin (bM Tryz.prog 7 ((wS k f x n none).finish undef) [] [])=[]/\jv Tryz.prog (bM Tryz.prog 7 ((wS k f x n none).finish undef) [] [])=true/\kg Tryz.prog 0 (bM Tryz.prog 7 ((wS k f x n none).finish undef) [] [])=0:=by cases x<;>exact ⟨k15,k15,k15,k15,k15,k15⟩
theorem aEU:bV (Ky.walk Tryz.prog 26 (wB k f 1) [] [])=true/\aR Tryz.prog 26 (wB k f 1) [] []=Frame.enter Tryz.prog 72 #[EZ k] .normal/\bu Tryz.prog 26 (wB k f 1) [] []=[wD k f]/\thin (bM Tryz.prog 26 (wB k f 1) [] [])=[]:=
 ⟨k15,k15,k15,k15⟩
theorem aES:bV (Ky.walk Tryz.prog 8 ((wD k f).finish (.tuple #[])) [] [.val (.chan (some k.a))])=true/\bu Tryz.prog 8 ((wD k f).finish (.tuple #[])) [] [.val (.chan (some k.a))]=[]/\thin (bM Tryz.prog 8 ((wD k f).finish (.tuple #[])) [] [.val (.chan (some k.a))])=[(46,[.ld .plain ⟨k.r,10,none⟩ (.chan (some k.a))])]:=
 ⟨k15,k15,k15⟩
theorem aBc (w:World):stepG Tryz.prog false (G (wT k f) [rt]) w=.comm (G (wT k f) [rt]) #[scase k.a (told 1 true) (.tuple #[])] true .send w #[]:=k15
noncomputable def hF:Frame:=aR Tryz.prog 2 ((wT k f).finish undef) [] []
theorem M8:bV (Ky.walk Tryz.prog 2 ((wT k f).finish undef) [] [])=true/\hF k f=KZ k (hF k f).tmps (hF k f).todo/\bu Tryz.prog 2 ((wT k f).finish undef) [] []=[]/\thin (bM Tryz.prog 2 ((wT k f).finish undef) [] [])=[]/\jv Tryz.prog (bM Tryz.prog 2 ((wT k f).finish undef) [] [])=true/\kg Tryz.prog 0 (bM Tryz.prog 2 ((wT k f).finish undef) [] [])=0:=
 ⟨k15,k15,k15,k15,k15,k15⟩
theorem JL (Z:Gh) (i:Nat) (x:jm) (n:Int) (y:jm):ik Tryz.prog false Z.K0 (Z.pr i) k.o zo true (Ar k) 13 (G ((wS k f x n (some y)).finish undef) [rt]):=by
 obtain ⟨h1,h2,h3,h4⟩:=VA k f x n y;refine .inl ⟨12,default,rfl,?_⟩;have:=zK (P:=Tryz.prog) (Kk:=Z.K0) (Pv:=Z.pr i) (main:=false) (Stop:=λg _=>∃g₂,kL Tryz.prog false Z.K0 (Z.pr i) k.o zo true (Ar k) g g₂) 12 0 (cs:=[rt]) (w:=default) h1 (λx hx w₁ hw=>?_) ?_
 ·exact this
 ·rcases r9 hx with hx|hx
  ·rw [h4] at hx;cases hx
  ·rw [hx];exact ⟨rfl,rfl,λe he=>by have:=mem_seen he;simp [gV] at this⟩
 ·rw [h2,h3];exact λw₁ _=>⟨_,KT Z k i _⟩
theorem MW (x:jm) (n:Int):Lv Tryz.prog k .a (234+7) 0 (G ((wS k f x n none).finish undef) [rt]):=by obtain ⟨h1,h2,h3,h4,h5,h6⟩:=ZU k f x n;refine vO (d':=0) 7 234 h1 h4 trivial h5 h6 ?_;rw [h3];show Lv Tryz.prog k .a 234 0 (G (gF k f x n) [rt]);rw [h2];exact aJF k _ _
theorem Eh:Lv Tryz.prog k .a (234+2) 0 (G ((wT k f).finish undef) [rt]):=by obtain ⟨h1,h2,h3,h4,h5,h6⟩:=M8 k f;refine vO (d':=0) 2 234 h1 h4 trivial h5 h6 ?_;rw [h3];show Lv Tryz.prog k .a 234 0 (G (hF k f) [rt]);rw [h2];exact aJF k _ _
end
end Co
end
section
open Go.ConcN (upd)
namespace Co
open Kv Ka Ky
section
variable {P:Program} {Post:Value->World->Prop} {K:Cy} {Z:Gh} {N:Code->Prop} {ty:TypeId->Prop} {φ:Nat} {a:Goroutine} {w wv:World} {d:Nat}
theorem WT.keep (h:K.Z.K w->K.Z.Wf->WT P Post K d a w):WT P Post K d a w:=λgs t q sl ρ p bW ha gW hc C hd hR=>h C.wd.keep C.wf gs t q sl ρ p bW ha gW hc C hd hR
theorem Bp (bY:Z.Wf) (hv:Vw (Z.cut N ty φ) wv w) {g:Nat} {k:dR} (hk:Z.own g=some k) {o:Nat} (ho:o<16):wv.cell? ⟨k.r,o,none⟩=w.cell? ⟨k.r,o,none⟩:=by obtain ⟨cv,ca,t,e1,e2,e3,e4,e5,e6⟩:=hv.cut k.r 16 (lH bY hk);unfold World.cell?;simp only [e1,e2,e5 o ho]
def aEJ (wv:World):List (FuncId×List Io)->Prop
 |[]=>True
 |(_,[.ld _ a v])::l=>wv.cell? a=some v/\aEJ wv l
 |_=>False
theorem iI {C:Cut}:∀{l:List (FuncId×List Io)} {d:Nat},aEJ wv l->nC P C l wv wv d d
 |[],_,_=>⟨rfl,rfl⟩
 |(fn,[.ld m a v])::l,d,h=>by
  refine ⟨wv,⟨h.1,rfl⟩,?_⟩;have:deafBehind d (seen P fn (gV [.ld m a v]).toArray)=d:=deafBehind_still (λe he=>by
   have:=mem_seen he;simp only [gV,List.mem_toArray,List.mem_cons,List.not_mem_nil,or_false] at this;subst this;simp) d
  rw [this];exact iI h.2
end
section
variable {Post:Value->World->Prop} {K:Cy} {N:Code->Prop} {ty:TypeId->Prop} {w wv:World} {j:Nat} {k:dR} {f:Nat->Value} {xm:Sd}
theorem zU (aH:K.Ok) (bY:K.Z.Wf) (hh:K.h=j) (wU:j≠0) (hj:K.Z.own j=some k) (hm:K.σ 0=some xm) (hxm:xm.c=k.a) (Y9:(K.pass 0 (some (yM k))).Ok) (Za:(K.pass 0 none).Ok) {fr:Frame} {n:Int} {dn:Bool} (aKX:∀w,stepG Tryz.prog false (G fr [rt]) w=.comm (G fr [rt]) #[scase k.a (told n dn) (.tuple #[])] true .send w #[])
 (aKc:dn=false->∀Z:Gh,ik Tryz.prog false Z.K0 (Z.pr j) k.o zo true (Ar k) 13 (G (fr.finish undef) [rt])) (D5:dn=true->∃m,Lv Tryz.prog k .a m 0 (G (fr.finish undef) [rt]))
 (hn:∀gM w',aQ K.Z w w'->xm.home gM->WT Tryz.prog Post (K.pass 0 (if dn then none else some (yM k))) 0 (Go.Conc.served gM (recvd xm.ok (told n dn) true)) w'):WT Tryz.prog Post K 0 (G fr [rt]) w:=by
 have ME:(K.h==0)=false:=by rw [hh];simpa using wU
 have hn0:0≠K.h:=by rw [hh];exact wU.symm
 have hsend:∀w',aQ K.Z w w'->K.Z.K w'->∃es,stepG Tryz.prog (K.h==0) (G fr [rt]) w'=.comm (G fr [rt]) #[scase xm.c (told n dn) (.tuple #[])] true .send w' es/\∀e∈es,EvR (K.Z.pr K.h) e:=λw' _ _=>⟨#[],by rw [ME,hxm];exact aKX w',by simp⟩
 cases dn with
 |false=>refine WT.give (xh:=some (yM k)) (rh:=.fq k.o zo true (Ar k)) (nh:=13) aH Y9 hm hn0 aH.pos rfl (.inl ⟨_,_,_,_,rfl⟩) rfl hsend (λt' ht=>⟨ht,?_⟩) λg₂ w' hg ha _=>hn g₂ w' ha hg;rw [ME,hh];exact aKc rfl K.Z
 |true=>obtain ⟨m,hl⟩:=D5 rfl;refine WT.give (xh:=none) (rh:=.leave .a) (nh:=m) aH Za hm hn0 aH.pos trivial (.inr rfl) rfl hsend (λt' ht=>⟨by rw [hh];omega,k,by rw [hh];exact hj,by rw [ht];exact hl⟩) λg₂ w' hg ha _=>hn g₂ w' ha hg
theorem J6 (aH:K.Ok) (bY:K.Z.Wf) (hh:K.h=j) (wU:j≠0) (hj:K.Z.own j=some k) (hm:K.σ 0=some xm) (hxm:xm.c=k.a) (Y9:(K.pass 0 (some (yM k))).Ok) (Za:(K.pass 0 none).Ok) {x:jm} (h14:wv.cell? ⟨k.r,14,none⟩=some (x.val k))
 {Q:Int->Option jm->World->Prop} (hQ:∀n y wv',Q n y wv'->wv'.cell? ⟨k.r,14,none⟩=some (Kh k y))
 (YY:∀w',Vw (K.Z.cut N ty 2) wv w'->(∀n y wv' w'',Q n y wv'->Vw (K.Z.cut N ty 2) wv' w''->WT Tryz.prog Post K 0 (G ((wC k f x).finish (.int .i64 n)) [rt]) w'')->WT Tryz.prog Post K 0 (G (Frame.enter Tryz.prog x.fn (x.args k) .normal) [wC k f x,rt]) w')
 (hn:∀n y wv' w' gM,Q n y wv'->Vw (K.Z.cut N ty 2) wv' w'->xm.home gM->WT Tryz.prog Post (K.pass 0 (if y.isNone then none else some (yM k))) 0 (Go.Conc.served gM (recvd xm.ok (told n y.isNone) true)) w')
 (hv:Vw (K.Z.cut N ty 2) wv w):WT Tryz.prog Post K 0 (G (wB k f 0) [rt]) w:=by
 obtain ⟨h1,h2,h3,h4⟩:=aEV k f x;refine WT.uM (csl:=[]) (cs:=[rt]) aH bY 29 h1 (by rw [h4];exact iI ⟨h14,trivial⟩) (λw' iM=>?_) hv;rw [h2,h3];refine YY w' iM λn y wv' w'' hq Mm=>WT.keep λhk _=>?_;obtain ⟨s1,s2,s3⟩:=aET k f x n y;have Ay:wv'.cell? ⟨k.r,10,none⟩=some (.chan (some k.a)):=by rw [Bp bY Mm hj (by omega)];exact (hk.1 j k hj).2.2.1
 refine WT.uM (csl:=[]) (cs:=[rt]) aH bY 20 s1 (by rw [s3];exact iI ⟨hQ n y wv' hq,Ay,trivial⟩) (λw3 UO=>?_) Mm;rw [s2];refine zU aH bY hh wU hj hm hxm Y9 Za (fr:=wS k f x n y) (n:=n) (dn:=y.isNone) (aBd k f x n y) (λhy Z=>?_) (λhy=>?_) λgM w4 ha hg=>hn n y wv' w4 gM hq (dm UO ha) hg
 ·cases y with
  |none=>cases hy
  |some y=>exact JL k f Z j x n y
 ·cases y with
  |none=>exact ⟨_,MW k f x n⟩
  |some y=>cases hy
theorem J7 (aH:K.Ok) (bY:K.Z.Wf) (hh:K.h=j) (wU:j≠0) (hj:K.Z.own j=some k) (hm:K.σ 0=some xm) (hxm:xm.c=k.a) (Y9:(K.pass 0 (some (yM k))).Ok) (Za:(K.pass 0 none).Ok)
 {Q:World->Prop} (YY:∀w',Vw (K.Z.cut N ty 2) wv w'->(∀wv' w'',Q wv'->Vw (K.Z.cut N ty 2) wv' w''->WT Tryz.prog Post K 0 (G ((wD k f).finish (.tuple #[])) [rt]) w'')->WT Tryz.prog Post K 0 (G (Frame.enter Tryz.prog 72 #[EZ k] .normal) [wD k f,rt]) w')
 (hn:∀wv' w' gM,Q wv'->Vw (K.Z.cut N ty 2) wv' w'->xm.home gM->WT Tryz.prog Post (K.pass 0 none) 0 (Go.Conc.served gM (recvd xm.ok (told 1 true) true)) w')
 (hv:Vw (K.Z.cut N ty 2) wv w):WT Tryz.prog Post K 0 (G (wB k f 1) [rt]) w:=by
 obtain ⟨h1,h2,h3,h4⟩:=aEU k f;refine WT.uM (csl:=[]) (cs:=[rt]) aH bY 26 h1 (by rw [h4];exact iI trivial) (λw' iM=>?_) hv;rw [h2,h3];refine YY w' iM λwv' w'' hq Mm=>WT.keep λhk _=>?_;obtain ⟨s1,s2,s3⟩:=aES k f;have Ay:wv'.cell? ⟨k.r,10,none⟩=some (.chan (some k.a)):=by rw [Bp bY Mm hj (by omega)];exact (hk.1 j k hj).2.2.1
 refine WT.uM (csl:=[]) (cs:=[rt]) aH bY 8 s1 (by rw [s3];exact iI ⟨Ay,trivial⟩) (λw3 UO=>?_) Mm;rw [s2];exact zU aH bY hh wU hj hm hxm Y9 Za (fr:=wT k f) (n:=1) (dn:=true) (aBc k f) (λhy=>by cases hy) (λ_=>⟨_,Eh k f⟩) λgM w4 ha hg=>hn wv' w4 gM hq (dm UO ha) hg
end
end Co
end
section
open Go.ConcN (upd upd_ne upd_same)
namespace Co
open Kv Ka Ky
section
variable (s:Nat) (c oo:Int) (k:dR)
noncomputable def rG:Frame:=Frame.enter Tryz.prog 40 #[.pointer (some ⟨s,0,none⟩),.int .i64 c,.int .i64 oo] .normal
noncomputable def rE:Frame:=(bu Tryz.prog 9 (rG s c oo) [] []).headD default
noncomputable def xk:Frame:=aR Tryz.prog 17 ((rE s c oo).finish (EZ k)) [] [.val (.chan (some k.o))]
noncomputable def kC:Frame:=aR Tryz.prog 7 ((xk s c oo k).finish undef) [] [.val (.chan (some k.a))]
theorem SG:bV (Ky.walk Tryz.prog 9 (rG s c oo) [] [])=true/\aR Tryz.prog 9 (rG s c oo) [] []=Frame.enter Tryz.prog 47 #[.pointer (some ⟨s,0,none⟩),.int .i64 c] .normal/\bu Tryz.prog 9 (rG s c oo) [] []=[rE s c oo]/\thin (bM Tryz.prog 9 (rG s c oo) [] [])=[]:=
 ⟨k15,k15,k15,k15⟩
theorem Oc (C:Frame):bV (Ky.walk Tryz.prog 15 ((rE s c oo).finish (.pointer none)) [C] [])=true/\aR Tryz.prog 15 ((rE s c oo).finish (.pointer none)) [C] []=C.finish (.int .i64 (-1))/\bu Tryz.prog 15 ((rE s c oo).finish (.pointer none)) [C] []=[]/\thin (bM Tryz.prog 15 ((rE s c oo).finish (.pointer none)) [C] [])=[]:=
 ⟨k15,k15,k15,k15⟩
theorem Sz:bV (Ky.walk Tryz.prog 17 ((rE s c oo).finish (EZ k)) [] [.val (.chan (some k.o))])=true/\bu Tryz.prog 17 ((rE s c oo).finish (EZ k)) [] [.val (.chan (some k.o))]=[]/\thin (bM Tryz.prog 17 ((rE s c oo).finish (EZ k)) [] [.val (.chan (some k.o))])=[(40,[.ld .plain ⟨k.r,9,none⟩ (.chan (some k.o))])]:=
 ⟨k15,k15,k15⟩
theorem N9 (cs:List Frame) (w:World):stepG Tryz.prog true (G (xk s c oo k) cs) w=.comm (G (xk s c oo k) cs) #[scase k.o (.int .i64 oo) (.tuple #[])] true .send w #[]:=k15
theorem SA:bV (Ky.walk Tryz.prog 7 ((xk s c oo k).finish undef) [] [.val (.chan (some k.a))])=true/\bu Tryz.prog 7 ((xk s c oo k).finish undef) [] [.val (.chan (some k.a))]=[]/\thin (bM Tryz.prog 7 ((xk s c oo k).finish undef) [] [.val (.chan (some k.a))])=[(40,[.ld .plain ⟨k.r,10,none⟩ (.chan (some k.a))])]:=
 ⟨k15,k15,k15⟩
theorem Oa (cs:List Frame) (w:World):stepG Tryz.prog true (G (kC s c oo k) cs) w=.comm (G (kC s c oo k) cs) #[rcase k.a zA] true (.recv false) w #[]:=k15
def sdM (cs:List Frame):Sd:=⟨k.a,zA,false,λg=>g=G (kC s c oo k) cs⟩
theorem Kq (Z:Gh) {j:Nat} (hj:Z.own j=some k) (cs:List Frame):ik Tryz.prog true Z.K0 (Z.pr 0) k.a zA false (λg=>g=G (kC s c oo k) cs) 8 (G ((xk s c oo k).finish undef) cs):=by
 obtain ⟨h1,h3,h4⟩:=SA s c oo k;refine .inl ⟨7,default,rfl,?_⟩;have:=zK (P:=Tryz.prog) (Kk:=Z.K0) (Pv:=Z.pr 0) (main:=true) (Stop:=λg _=>∃g₂,kL Tryz.prog true Z.K0 (Z.pr 0) k.a zA false (λg=>g=G (kC s c oo k) cs) g g₂) 7 0 (csl:=[]) (cs:=cs) (w:=default) h1 (λx hx w₁ hw=>?_) ?_
 ·simpa using this
 ·rcases r9 hx with hx|hx
  ·rw [h4] at hx;simp only [List.mem_cons,List.not_mem_nil,or_false] at hx;subst hx;exact yh (hw j k hj).2.2.1 ⟨j,k,10,hj,.inr (.inr rfl),rfl,.inl rfl⟩
  ·rw [hx];exact ⟨rfl,rfl,λe he=>by have:=mem_seen he;simp [gV] at this⟩
 ·rw [h3];exact λw₁ _=>⟨_,rfl,rfl,rfl,rfl,rfl,#[],by simp,λw _=>Oa s c oo k cs w⟩
def anA (R:Nat) (n:Int):List An:=[.adr R,.val (.bool false),.val (.int .i64 n)]
def anB (R:Nat):List An:=[.adr R,.val (.bool true),.val (.chan (some k.o))]
def N7 (R:Nat) (n:Int) (d:Bool):List (FuncId×List Io):=[(40,[.nw (.cells #[.int .i64 0,.bool false] 116 (0,0)) R]),(40,[.st .plain ⟨R,0,none⟩ (.int .i64 n),.st .plain ⟨R,1,none⟩ (.bool d)]),(40,[.ld .plain ⟨R,1,none⟩ (.bool d)])]
theorem SE (C:Frame) (R:Nat) (n:Int):bV (Ky.walk Tryz.prog 19 ((kC s c oo k).finish (told n false)) [C] (anA R n))=true/\aR Tryz.prog 19 ((kC s c oo k).finish (told n false)) [C] (anA R n)=C.finish (.int .i64 n)/\bu Tryz.prog 19 ((kC s c oo k).finish (told n false)) [C] (anA R n)=[]/\thin (bM Tryz.prog 19 ((kC s c oo k).finish (told n false)) [C] (anA R n))=N7 R n false++[(40,[.ld .plain ⟨R,0,none⟩ (.int .i64 n)])]:=
 ⟨k15,k15,k15,k15⟩
noncomputable def Xe (C:Frame) (R:Nat) (n:Int):Frame:=aR Tryz.prog 22 ((kC s c oo k).finish (told n true)) [C] (anB k R)
noncomputable def zY (C:Frame) (R:Nat) (n:Int):Frame:=aR Tryz.prog 1 (Xe s c oo k C R n) [C] [.obj (.chan 0 #[] false 0 0 false)]
theorem SC (C:Frame) (R:Nat) (n:Int):bV (Ky.walk Tryz.prog 22 ((kC s c oo k).finish (told n true)) [C] (anB k R))=true/\bu Tryz.prog 22 ((kC s c oo k).finish (told n true)) [C] (anB k R)=[C]/\thin (bM Tryz.prog 22 ((kC s c oo k).finish (told n true)) [C] (anB k R))=N7 R n true++[(40,[.st .plain ⟨k.r,11,none⟩ (.bool true)]),(40,[.ld .plain ⟨k.r,9,none⟩ (.chan (some k.o))])]:=
 ⟨k15,k15,k15⟩
theorem Kt (C:Frame) (R:Nat) (n:Int) (m:Nat):Ky.walk Tryz.prog 1 (Xe s c oo k C R n) [C] [.obj (.chan 0 #[] false m m false)]=some (zY s c oo k C R n,[C],[],[(40,[.get k.o (.chan 0 #[] false m m false),.set k.o (.chan 0 #[] true m m false)])]):=k15
theorem Kr (C:Frame) (R:Nat) (n:Int) (m:Nat):(Xe s c oo k C R n).fn=40/\seen Tryz.prog 40 (gV [.get k.o (.chan 0 #[] false m m false),.set k.o (.chan 0 #[] true m m false)]).toArray=closeEvents k.o:=⟨k15,k15⟩
theorem SB (C:Frame) (R:Nat) (n:Int):bV (Ky.walk Tryz.prog 9 (zY s c oo k C R n) [C] [.val (.int .i64 n)])=true/\aR Tryz.prog 9 (zY s c oo k C R n) [C] [.val (.int .i64 n)]=C.finish (.int .i64 n)/\bu Tryz.prog 9 (zY s c oo k C R n) [C] [.val (.int .i64 n)]=[]/\thin (bM Tryz.prog 9 (zY s c oo k C R n) [C] [.val (.int .i64 n)])=[(40,[.ld .plain ⟨R,0,none⟩ (.int .i64 n)])]:=
 ⟨k15,k15,k15,k15⟩
end
end Co
end
section
open Go.ConcN (upd upd_ne upd_same)
namespace Co
open Kv Ka Ky
def Cy.told (K:Cy) (j:Nat) (k:dR) (dn:Bool):Cy:={K with σ:=λi=>if i=j then (if dn then none else some (yM k)) else K.σ i,R:=λ_ _=>True,Z:=if dn then K.Z.jl k.o else K.Z}
theorem served_G (fr:Frame) (cs:List Frame) (v:Value):Go.Conc.served (G fr cs) v=G (fr.finish v) cs:=rfl
def K7 (wv:World) (o:Obj):World:={wv with heap:=wv.heap.push o}
def fe (n:Int) (dn:Bool) (wv:World):World:=((K7 wv (.cells #[.int .i64 0,.bool false] 116 (0,0))).setCell ⟨wv.heap.size,0,none⟩ (.int .i64 n)).setCell ⟨wv.heap.size,1,none⟩ (.bool dn)
def qJ (k:dR) (n:Int) (dn:Bool) (wv:World):World:=if dn then (fe n dn wv).setCell ⟨k.r,11,none⟩ (.bool true) else fe n dn wv
section
variable {P:Program} {Post:Value->World->Prop} {K K':Cy} {N:Code->Prop} {ty:TypeId->Prop} {w wv:World} {j:Nat} {k:dR} {a:Goroutine} {d:Nat}
theorem WT.congr (hZ:K'.Z=K.Z) (hb:K'.b=K.b) (hs:K'.s=K.s) (hm:K'.m=K.m) (hh:K'.h=K.h) (hn:K'.n=K.n) (hσ:∀i,i≠K.h->K'.σ i=K.σ i) (hR:∀ρ μ,K.R ρ μ->K'.R ρ μ) (hW:WT P Post K' d a w):WT P Post K d a w:=by intro gs t q sl ρ p bW ha gW hc C hd hr;refine hW gs t q sl ρ p (by rw [hn];exact bW) (by rw [hh];exact ha) ?_ hc (by rw [hZ,hb,hs,hm,hh];exact C) (by rw [hh];exact hd) (hR _ _ hr);rw [hh,hn];refine ⟨gW.1,λi hi=>?_⟩;rw [hσ i hi];exact gW.2 i hi
theorem Dk (aH:K.Ok) (h0:K.h=0) (wU:j≠0) (uZ:j<K.n) (J2:K.b<=j) (hj:K.Z.own j=some k) {x:Sd} (hx:x.c=k.a):(K.pass j (some x)).Ok:=by
 refine ⟨λi y hi hy wV hb=>?_,λi y hi hy wV h=>?_,λy hy _=>?_,aH.pos,uZ,aH.bn,λ_ _ _ _ _ _ _ _=>trivial,.inr J2,aH.bP⟩
 ·by_cases e:i=0
  ·exact e
  ·have:K.σ i=some y:=by
    have:upd K.σ K.h (some x) i=some y:=hy
    rwa [upd_ne _ _ (by omega)] at this
   exact aH.low i y hi this (by omega) hb
 ·have:K.σ i=some y:=by
   have:upd K.σ K.h (some x) i=some y:=hy
   rwa [upd_ne _ _ (by omega)] at this
  exact aH.wk i y hi this (by omega) h
 ·have:upd K.σ K.h (some x) 0=some y:=hy;rw [h0,upd_same] at this;cases this;exact ⟨k,hj,hx⟩
theorem rV (aH:K.Ok) (h0:K.h=0) (wU:j≠0) (J2:K.b<=j) (hj:K.Z.own j=some k) {x:Sd} {y:Option Sd} (hy:∀z,y=some z->z.c=k.o):((K.pass j (some x)).pass 0 y).Ok:=by
 have hs:∀i z,i≠0->((K.pass j (some x)).pass 0 y).σ i=some z->(i=j/\y=some z)\/(i≠j/\K.σ i=some z):=λi z hi hz=>by
  have hz:upd (upd K.σ K.h (some x)) j y i=some z:=hz;by_cases e:i=j
  ·subst e;rw [upd_same] at hz;exact .inl ⟨rfl,hz⟩
  ·rw [upd_ne _ _ e,upd_ne _ _ (by rw [h0];exact hi)] at hz;exact .inr ⟨e,hz⟩
 refine ⟨λi z hi hz wW hb=>?_,λi z hi hz wW h=>?_,λz _ h=>absurd rfl h,aH.pos,aH.pos,aH.bn,λ_ _ _ _ _ _ _ _=>trivial,.inl rfl,aH.bP⟩
 ·have hb:i<K.b:=hb;rcases hs i z wW hz with ⟨e,_⟩|⟨_,e⟩
  ·omega
  ·exact aH.low i z hi e (by rw [h0];exact wW) hb
 ·rcases hs i z wW hz with ⟨e,e2⟩|⟨_,e⟩
  ·exact ⟨k,by rw [e];exact hj,hy z e2⟩
  ·exact aH.wk i z hi e (by rw [h0];exact wW) h
theorem aBk (aH:K.Ok) (h0:K.h=0) (wU:j≠0) (J2:K.b<=j) (hj:K.Z.own j=some k) {dn:Bool}:(K.told j k dn).Ok:=by
 have bU:(K.told j k dn).Z.own=K.Z.own:=by unfold Cy.told;cases dn<;>rfl
 have Bb:(K.told j k dn).Z.bP=K.Z.bP:=by unfold Cy.told;cases dn<;>rfl
 refine ⟨λi z hi hz wW hb=>?_,λi z hi hz wW h=>?_,λz _ h=>absurd h0.symm h,aH.pos,aH.lt,aH.bn,λ_ _ _ _ _ _ _ _=>trivial,.inl h0,by rw [Bb];exact aH.bP⟩
 ·have hz:(if i=j then (if dn then none else some (yM k)) else K.σ i)=some z:=hz;have hb:i<K.b:=hb;rw [if_neg (by omega)] at hz;exact aH.low i z hi hz wW hb
 ·rw [bU];have hz:(if i=j then (if dn then none else some (yM k)) else K.σ i)=some z:=hz;by_cases e:i=j
  ·rw [if_pos e] at hz;cases dn with
   |true=>cases hz
   |false=>cases hz;exact ⟨k,by rw [e];exact hj,rfl⟩
  ·rw [if_neg e] at hz;exact aH.wk i z hi hz wW h
theorem iB (n:Int) (dn:Bool) (wv:World):(fe n dn wv).heap[wv.heap.size]? =some (.cells #[.int .i64 n,.bool dn] 116 (0,0))/\∀r,r≠wv.heap.size->(fe n dn wv).heap[r]? =wv.heap[r]? :=by
 unfold fe K7;refine ⟨?_,λr hr=>?_⟩
 ·rw [bT _ _ _ rfl,bT _ _ _ rfl];simp
 ·rw [bT _ _ _ rfl,bT _ _ _ rfl];simp only [if_neg (Ne.symm hr)];show (wv.heap.push _)[r]? =_;rw [Array.getElem?_push,if_neg hr]
theorem FM {C:Cut} (hN:iK C (.cells #[.int .i64 0,.bool false] 116 (0,0))) (n:Int) (dn:Bool) {l:List (FuncId×List Io)} {w':World} (hl:nC Tryz.prog C l (fe n dn wv) w' 0 0):nC Tryz.prog C (N7 wv.heap.size n dn++l) wv w' 0 0:=by
 have hz:∀(fn:FuncId) (io:List Io),(∀e∈gV io,e.loc≠.mark .disable/\e.loc≠.mark .enable)->deafBehind 0 (seen Tryz.prog fn (gV io).toArray)=0:=λfn io h=>deafBehind_still (λe he=>h e (by simpa using mem_seen he)) 0;have c0:(K7 wv (.cells #[.int .i64 0,.bool false] 116 (0,0))).heap[wv.heap.size]? =some (.cells #[.int .i64 0,.bool false] 116 (0,0)):=by show (wv.heap.push _)[wv.heap.size]? =_;rw [Array.getElem?_push,if_pos rfl]
 have c1:((K7 wv (.cells #[.int .i64 0,.bool false] 116 (0,0))).setCell ⟨wv.heap.size,0,none⟩ (.int .i64 n)).heap[wv.heap.size]? =some (.cells #[.int .i64 n,.bool false] 116 (0,0)):=by rw [bT _ _ _ rfl,if_pos rfl,c0];rfl
 refine ⟨K7 wv (.cells #[.int .i64 0,.bool false] 116 (0,0)),⟨rfl,hN,rfl⟩,?_⟩;rw [hz _ _ (by simp [gV])];refine ⟨fe n dn wv,⟨⟨_,by unfold World.cell?;rw [c0];rfl⟩,by unfold World.frozen?;rw [c0];rfl,⟨_,by unfold World.cell?;rw [c1];rfl⟩,by unfold World.frozen?;rw [c1];rfl,rfl⟩,?_⟩;rw [hz _ _ (by simp [gV])];refine ⟨fe n dn wv,⟨by unfold World.cell?;rw [(iB n dn wv).1];rfl,rfl⟩,?_⟩;rw [hz _ _ (by simp [gV])];exact hl
end
section
variable {Post:Value->World->Prop} {K:Cy} {N:Code->Prop} {ty:TypeId->Prop} {w wv:World} {j:Nat} {k:dR} {s:Nat} {c oo:Int} {C:Frame} {cs:List Frame}
theorem N8 (aH:K.Ok) (bY:K.Z.Wf) (h0:K.h=0) (wU:j≠0) (uZ:j<K.n) (J2:K.b<=j) (hj:K.Z.own j=some k) (u7:¬K.Z.cls k.o) (hN:iK (K.Z.cut N ty 2) (.cells #[.int .i64 0,.bool false] 116 (0,0))) {n:Int} {dn:Bool} {x:Sd}
 (hn:∀w2,Vw ((K.told j k dn).Z.cut N ty 2) (qJ k n dn wv) w2->WT Tryz.prog Post (K.told j k dn) 0 (G (C.finish (.int .i64 n)) cs) w2) (hv:Vw (K.Z.cut N ty 2) wv w):
 WT Tryz.prog Post ((K.pass j (some x)).pass 0 (if dn then none else some (yM k))) 0 (G ((kC s c oo k).finish (told n dn)) (C::cs)) w:=by
 have wY:=rV (x:=x) (y:=if dn then none else some (yM k)) aH h0 wU J2 hj (λz hz=>by cases dn<;>simp at hz;subst hz;rfl);generalize VU:(K.pass j (some x)).pass 0 (if dn then none else some (yM k))=KK at wY;have eZ:KK.Z=K.Z:=by rw [<-VU];rfl
 have eh:KK.h=0:=by rw [<-VU];rfl
 have en:KK.n=K.n:=by rw [<-VU];rfl
 have eσ:∀i,i≠0->KK.σ i=(if i=j then (if dn then none else some (yM k)) else K.σ i):=λi hi=>by
  rw [<-VU];show upd (upd K.σ K.h (some x)) j _ i=_;by_cases e:i=j
  ·subst e;rw [upd_same,if_pos rfl]
  ·rw [upd_ne _ _ e,if_neg e,upd_ne _ _ (by omega)]
 have DR:KK.Z.Wf:=by rw [eZ];exact bY
 have iM:Vw (KK.Z.cut N ty 2) wv w:=by rw [eZ];exact hv
 have hN':iK (KK.Z.cut N ty 2) (.cells #[.int .i64 0,.bool false] 116 (0,0)):=by rw [eZ];exact hN
 have hld:∀v:World,v.heap[wv.heap.size]? =some (.cells #[.int .i64 n,.bool dn] 116 (0,0))->v.cell? ⟨wv.heap.size,0,none⟩=some (.int .i64 n):=λv e=>by unfold World.cell?;rw [e];rfl
 cases dn with
 |false=>obtain ⟨h1,h2,h3,h4⟩:=SE s c oo k C wv.heap.size n;refine WT.uM (csl:=[C]) (cs:=cs) wY DR 19 h1 (wv':=fe n false wv) (by rw [h4];exact FM hN' n false (iI ⟨hld _ (iB n false wv).1,trivial⟩)) (λw2 NH=>?_) iM;rw [h2,h3];refine WT.congr (K':=K.told j k false) (by rw [eZ];rfl) (by rw [<-VU];rfl) (by rw [<-VU];rfl) (by rw [<-VU];rfl) (by rw [eh];exact h0) (by rw [en];rfl) (λi hi=>?_) (λ_ _ _=>trivial) (hn w2 (by rw [eZ] at NH;exact NH));rw [eσ i (by omega)];rfl
 |true=>
  have hkr:k.r<wv.heap.size:=by obtain ⟨cv,ca,t,e1,_⟩:=hv.cut k.r 16 (lH bY hj);exact (Array.getElem?_eq_some_iff.1 e1).1
  obtain ⟨cv,ca,t,e1,e2,e3,e4,e5,e6⟩:=hv.cut k.r 16 (lH bY hj);have bA:k.r≠wv.heap.size:=by omega
  have eR:(fe n true wv).heap[k.r]? =some (.cells cv t (1,11)):=by rw [(iB n true wv).2 k.r bA,e1,zN bY hj];rfl
  obtain ⟨h1,h3,h4⟩:=SC s c oo k C wv.heap.size n;have e11:∃u,(fe n true wv).cell? ⟨k.r,11,none⟩=some u:=by unfold World.cell?;rw [eR];exact ⟨cv[11]'(by omega),by simp [Array.getElem?_eq_getElem (show 11<cv.size by omega)]⟩
  have f11:(fe n true wv).frozen? ⟨k.r,11,none⟩=false:=by unfold World.frozen?;rw [eR];rfl
  have hW:(fe n true wv).setCell ⟨k.r,11,none⟩ (.bool true)=qJ k n true wv:=rfl;have aPQ:(qJ k n true wv).heap[wv.heap.size]? =some (.cells #[.int .i64 n,.bool true] 116 (0,0)):=by show ((fe n true wv).setCell ⟨k.r,11,none⟩ (.bool true)).heap[wv.heap.size]? =_;rw [bT _ _ _ rfl,if_neg bA];exact (iB n true wv).1
  refine WT.keep λhk _=>?_;have k9:wv.cell? ⟨k.r,9,none⟩=some (.chan (some k.o)):=by rw [eZ] at hk;rw [Bp bY hv hj (by omega)];exact (hk.1 j k hj).2.1
  have k9':(qJ k n true wv).cell? ⟨k.r,9,none⟩=some (.chan (some k.o)):=by show ((fe n true wv).setCell ⟨k.r,11,none⟩ (.bool true)).cell? ⟨k.r,9,none⟩=_;rw [World.cell?_setCell_other _ _ _ _ (by simp)];unfold World.cell? at k9 ⊢;rw [(iB n true wv).2 k.r bA];exact k9
  have hz:deafBehind 0 (seen Tryz.prog 40 (gV [.st .plain ⟨k.r,11,none⟩ (.bool true)]).toArray)=0:=deafBehind_still (λe he=>by
   have:=mem_seen he;simp only [gV,List.mem_toArray,List.mem_cons,List.not_mem_nil,or_false] at this;subst this;simp) 0
  refine WT.uM (csl:=[C]) (cs:=cs) wY DR 22 h1 (wv':=qJ k n true wv) (by
   rw [h4];refine FM hN' n true ⟨qJ k n true wv,⟨e11,f11,rfl⟩,?_⟩;rw [hz];exact iI ⟨k9',trivial⟩) (λw2 NH=>?_) iM
  rw [h3];obtain ⟨Bh,aKY⟩:=Kr s c oo k C wv.heap.size n 0;refine WT.aHi (j:=j) (k:=k) wY eh (by rw [eZ];exact hj) (by rw [en];exact uZ) wU (by rw [eσ j wU,if_pos rfl];rfl) (by rw [eZ];exact u7) rfl (a':=G (zY s c oo k C wv.heap.size n) (C::cs)) (λw3 m ha hm=>?_) (λw3 ha=>?_)
  ·have hw:=Kt s c oo k C wv.heap.size n m;simp only [Ky.walk] at hw;split at hw
   ·cases hw
   ·rename_i Bj NQ VV io1 lT;simp only [Option.some.injEq,Prod.mk.injEq,List.cons.injEq,and_true] at hw;obtain ⟨e1,e2,_,_,e5⟩:=hw;rw [e1,e2,e5] at lT;have hs:=gK lT (KK.h==0) cs w3 (w3.setChan k.o 0 #[] true m m false) ⟨hm,⟨_,hm,rfl⟩,rfl⟩;rw [Bh,(Kr s c oo k C wv.heap.size n m).2] at hs;exact hs
  ·have UO:=Sy (c:=k.o) (dm NH ha);obtain ⟨d1,d2,d3,d4⟩:=SB s c oo k C wv.heap.size n;have aPB:({KK with Z:=KK.Z.jl k.o}:Cy).Ok:=⟨wY.low,wY.wk,wY.mn,wY.pos,wY.lt,wY.bn,wY.cl,wY.hb,wY.bP⟩
   have aOn:({KK with Z:=KK.Z.jl k.o}:Cy).Z.Wf:=⟨DR.bP,DR.apart,DR.Eo⟩
   refine WT.uM (csl:=[C]) (cs:=cs) aPB aOn 9 d1 (wv':=qJ k n true wv) (by rw [d4];exact iI ⟨hld _ aPQ,trivial⟩) (λw4 hv4=>?_) UO;rw [d2,d3];refine WT.congr (K':=K.told j k true) (by show _=KK.Z.jl k.o;rw [eZ];rfl) (by rw [<-VU];rfl) (by rw [<-VU];rfl) (by rw [<-VU];rfl) (by show _=KK.h;rw [eh];exact h0) (by show _=KK.n;rw [en];rfl) (λi hi=>?_) (λ_ _ _=>trivial) (hn w4 ?_)
   ·show _=KK.σ i;rw [eσ i (by show i≠0;have:i≠KK.h:=hi;omega)];rfl
   ·have:Vw ((KK.Z.jl k.o).cut N ty 2) (qJ k n true wv) w4:=hv4;rw [eZ] at this;exact this
theorem xg (aH:K.Ok) (bY:K.Z.Wf) (h0:K.h=0) (wU:j≠0) (uZ:j<K.n) (J2:K.b<=j) (hj:K.Z.own j=some k) (hσ:K.σ j=some (yM k)) (u7:¬K.Z.cls k.o) (hN:iK (K.Z.cut N ty 2) (.cells #[.int .i64 0,.bool false] 116 (0,0))) {Qw:Int->Bool->World->Prop}
 (YV:∀(f:Nat->Value) w1,Vw (K.Z.cut N ty 2) wv w1->(∀n dn wv' w',Qw n dn wv'->Vw (K.Z.cut N ty 2) wv' w'->WT Tryz.prog Post ((K.pass j (some (sdM s c oo k (C::cs)))).pass 0 (if dn then none else some (yM k))) 0 (G ((kC s c oo k).finish (told n dn)) (C::cs)) w')->WT Tryz.prog Post (K.pass j (some (sdM s c oo k (C::cs)))) 0 (G (wB k f oo) [rt]) w1)
 (hn:∀n dn wv' w2,Qw n dn wv'->Vw ((K.told j k dn).Z.cut N ty 2) (qJ k n dn wv') w2->WT Tryz.prog Post (K.told j k dn) 0 (G (C.finish (.int .i64 n)) cs) w2)
 (hv:Vw (K.Z.cut N ty 2) wv w):WT Tryz.prog Post K 0 (G ((rE s c oo).finish (EZ k)) (C::cs)) w:=by
 obtain ⟨h1,h3,h4⟩:=Sz s c oo k;refine WT.keep λhk _=>?_;have k9:wv.cell? ⟨k.r,9,none⟩=some (.chan (some k.o)):=by rw [Bp bY hv hj (by omega)];exact (hk.1 j k hj).2.1
 refine WT.uM (csl:=[]) (cs:=C::cs) aH bY 17 h1 (by rw [h4];exact iI ⟨k9,trivial⟩) (λw' iM=>?_) hv;rw [h3];have ME:(K.h==0)=true:=by rw [h0];rfl
 refine WT.give (x:=yM k) (xh:=some (sdM s c oo k (C::cs))) (rh:=.fq k.a zA false λg=>g=G (kC s c oo k) (C::cs)) (nh:=8) (a:=G (xk s c oo k) (C::cs)) (a₂:=G (xk s c oo k) (C::cs)) (v:=.int .i64 oo) (z':=.tuple #[]) aH (Dk aH h0 wU uZ J2 hj rfl) hσ (by omega) uZ rfl (.inl ⟨_,_,_,_,rfl⟩) rfl (λw'' _ _=>⟨#[],by rw [ME];exact N9 s c oo k _ w'',by simp⟩) (λt' ht=>⟨ht,?_⟩) (λg₂ w'' hg ha _=>?_)
 ·rw [ME,h0,served_G];exact Kq s c oo k K.Z hj (C::cs)
 ·have hg':∃f,g₂=G (xL k f) [rt]:=hg;refine hg'.elim λf hf=>?_;rw [hf,served_G];exact YV f w'' (dm iM ha) λn dn wv' w3 hq UO=>N8 aH bY h0 wU uZ J2 hj u7 hN (λw4 hv4=>hn n dn wv' w4 hq hv4) UO
end
end Co
end
section
open Go.ConcN (upd upd_ne upd_same)
namespace Co
open Kv Ka Ky
section
variable {Post:Value->World->Prop} {K:Cy} {N:Code->Prop} {ty:TypeId->Prop} {w wv:World}
theorem WT.lock (aH:K.Ok) (bY:K.Z.Wf) {a:Addr} {fr:Frame} {cs:List Frame} (hm:jV fr.mode) (hc:wv.cell? a=some (.int .i32 0)) (hf:wv.frozen? a=false) (hn:∀w',Vw (K.Z.cut N ty 2) (wv.setCell a (.int .i32 1)) w'->WT Tryz.prog Post K 0 (G (fr.finish (.tuple #[])) cs) w') (hv:Vw (K.Z.cut N ty 2) wv w):
 WT Tryz.prog Post K 0 (G (Frame.enter Tryz.prog 38 #[.pointer (some a)] .normal) (fr::cs)) w:=by
 obtain ⟨b1,b2,b3,b4,b5,l,e⟩:=Gj (k:=.normal) #[.pointer (some a)];rw [e];have S:=KR (C:=K.Z.cut N ty 2) (main:=K.h==0) (cs:=cs) (Stop:=λfr' wv'=>fr'=fr.finish (.tuple #[])/\wv'=wv.setCell a (.int .i32 1)) (a:=a) (a1:=b1) (a2:=b2) (a3:=b3) (a4:=b4) (a5:=b5) (l:=l) (k:=.normal) (fr:=fr) (csl:=[]) (.inl rfl) hm hv hc hf (.stop ⟨rfl,rfl⟩);exact WT.sim aH bY (csl:=[fr]) S (λfr' wv' w' h iM=>by rw [h.1];rw [h.2] at iM;exact hn w' iM) hv
theorem WT.unlock (aH:K.Ok) (bY:K.Z.Wf) {a:Addr} {fr:Frame} {cs:List Frame} (hm:jV fr.mode) (hc:wv.cell? a=some (.int .i32 1)) (hf:wv.frozen? a=false) (hn:∀w',Vw (K.Z.cut N ty 2) (wv.setCell a (.int .i32 0)) w'->WT Tryz.prog Post K 0 (G fr cs) w') (hv:Vw (K.Z.cut N ty 2) wv w):
 WT Tryz.prog Post K 0 (G (Frame.enter Tryz.prog 39 #[.pointer (some a)] .deferred) (fr::cs)) w:=by
 obtain ⟨b1,b2,b3,b4,b5,l,e⟩:=Gg (k:=.deferred) #[.pointer (some a)];rw [e];have S:=CZ (C:=K.Z.cut N ty 2) (main:=K.h==0) (cs:=cs) (Stop:=λfr' wv'=>fr'=fr/\wv'=wv.setCell a (.int .i32 0)) (a:=a) (a1:=b1) (a2:=b2) (a3:=b3) (a4:=b4) (a5:=b5) (l:=l) (k:=.deferred) (fr:=fr) (csl:=[]) (.inr rfl) hm hv hc hf (.stop ⟨rfl,rfl⟩);exact WT.sim aH bY (csl:=[fr]) S (λfr' wv' w' h iM=>by rw [h.1];rw [h.2] at iM;exact hn w' iM) hv
end
def fK (s:Nat):Value:=.pointer (some ⟨s,0,none⟩)
section
variable (s:Nat) (c:Int)
noncomputable def step0:Frame:=Frame.enter Tryz.prog 26 #[fK s,.int .i64 c] .normal
noncomputable def step1:Frame:=(bu Tryz.prog 10 (step0 s c) [] []).headD default
noncomputable def xE:Frame:=(bu Tryz.prog 13 ((step1 s c).finish (.tuple #[])) [] []).headD default
noncomputable def xD (n:Int) (C:Frame):Frame:=(bu Tryz.prog 4 ((xE s c).finish (.int .i64 n)) [C] []).headD default
theorem TB:bV (Ky.walk Tryz.prog 10 (step0 s c) [] [])=true/\aR Tryz.prog 10 (step0 s c) [] []=Frame.enter Tryz.prog 38 #[fK s] .normal/\bu Tryz.prog 10 (step0 s c) [] []=[step1 s c]/\thin (bM Tryz.prog 10 (step0 s c) [] [])=[]/\(step1 s c).mode=.run:=⟨k15,k15,k15,k15,k15⟩
theorem TA:bV (Ky.walk Tryz.prog 13 ((step1 s c).finish (.tuple #[])) [] [])=true/\aR Tryz.prog 13 ((step1 s c).finish (.tuple #[])) [] []=rG s c 0/\bu Tryz.prog 13 ((step1 s c).finish (.tuple #[])) [] []=[xE s c]/\thin (bM Tryz.prog 13 ((step1 s c).finish (.tuple #[])) [] [])=[]:=⟨k15,k15,k15,k15⟩
theorem Ty (n:Int) (C:Frame):bV (Ky.walk Tryz.prog 4 ((xE s c).finish (.int .i64 n)) [C] [])=true/\aR Tryz.prog 4 ((xE s c).finish (.int .i64 n)) [C] []=Frame.enter Tryz.prog 39 #[fK s] .deferred/\bu Tryz.prog 4 ((xE s c).finish (.int .i64 n)) [C] []=[xD s c n C,C]/\thin (bM Tryz.prog 4 ((xE s c).finish (.int .i64 n)) [C] [])=[]/\(xD s c n C).mode=.returning:=⟨k15,k15,k15,k15,k15⟩
theorem Tw (n:Int) (C:Frame):bV (Ky.walk Tryz.prog 1 (xD s c n C) [C] [])=true/\aR Tryz.prog 1 (xD s c n C) [C] []=C.finish (.int .i64 n)/\bu Tryz.prog 1 (xD s c n C) [C] []=[]/\thin (bM Tryz.prog 1 (xD s c n C) [C] [])=[]:=⟨k15,k15,k15,k15⟩
end
end Co
end
