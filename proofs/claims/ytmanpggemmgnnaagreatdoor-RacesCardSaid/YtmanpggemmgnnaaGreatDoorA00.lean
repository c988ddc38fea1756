/- Races: a part. Conditions: none. -/
import Derived.Conc.Events
set_option linter.all false
set_option maxHeartbeats 8000000
set_option maxRecDepth 1000000
namespace Go.Proofs.YtmanpggemmgnnaaGreatDoor
noncomputable section
open Go
namespace Ka
def re (w:World) (τ:Nat->Question->Nat) (d:Nat):World:={w with tape:=τ,drawn:=d}
def JW {α:Type} (r:Result α) (τ:Nat->Question->Nat) (d:Nat):Result α:=match r with
 | .ok a w=>.ok a (re w τ d)
 | .halt h w=>.halt h (re w τ d)
def rU:Obj->Bool
 | .view ..=>false
 | .deferred (some (_::_))=>false
 |_=>true
def fu:Code->Bool
 | .region _ ops _=>ops.all λo=>match o.op with
   | .defer _=>false
   |_=>true
 | .seq a b| .cond _ a b=>fu a&&fu b
 | .rangeFunc _ _ a b=>fu a&&fu b
 | .block _ c| .loop c| .scope c=>fu c
 |_=>true
structure Cut where
 hd:Nat->Option Nat
 fz:Nat->Nat×Nat
 ch:Nat->Bool
 N:Code->Prop
 ty:TypeId->Prop
 lq:Nat->Option Obj
def gone:Obj:=.pending #[] 0
def aFm:Obj->Bool
 | .cells ..=>false
 | .number ..=>false
 |_=>true
def vz (C:Cut) (r:Nat):Obj:=match C.lq r with
 |some _=>.view ⟨r,0,none⟩ 0
 |none=>gone
def wL (C:Cut) (r:Nat) (o:Obj):Prop:=match C.lq r with
 |some x=>o=x/\aFm x=true
 |none=>o.isChan=true
theorem iA (C:Cut) (r:Nat):(C.lq r=none/\vz C r=gone)\/((C.lq r).isSome=true/\vz C r=.view ⟨r,0,none⟩ 0):=by
 unfold vz;cases C.lq r with
 |none=>exact .inl ⟨rfl,rfl⟩
 |some x=>exact .inr ⟨rfl,rfl⟩
theorem NV {C:Cut} {r:Nat} {c:Array Value} {t:TypeId} {f:Nat×Nat}:vz C r≠.cells c t f:=by rcases iA C r with ⟨_,e⟩|⟨_,e⟩<;>rw [e]<;>simp [gone]
theorem wL.off {C:Cut} {r:Nat} {o:Obj} (h:wL C r o):aFm o=true:=by
 unfold wL at h;cases e:C.lq r with
 |none=>rw [e] at h;cases o<;>first|rfl|cases h
 |some x=>rw [e] at h;rw [h.1];exact h.2
theorem wL.ev {C:Cut} {r:Nat} {o:Obj} (h:wL C r o):o.isChan=true\/(C.lq r).isSome=true:=by
 unfold wL at h;cases e:C.lq r with
 |none=>rw [e] at h;exact .inl h
 |some x=>exact .inr rfl
def Cut.free (C:Cut) (r:Nat):Prop:=C.hd r=none/\C.ch r=false
section
variable (C:Cut)
structure Vw (wv wa:World):Prop where
 size:wv.heap.size=wa.heap.size
 os:wv.os=wa.os/\wv.output=wa.output
 same:∀r:Nat,C.free r->wv.heap[r]? =wa.heap[r]?
 cut:∀r n:Nat,C.hd r=some n->∃cv ca t,wv.heap[r]? =some (.cells cv t (C.fz r))/\wa.heap[r]? =some (.cells ca t (0,0))/\cv.size=n/\n<=ca.size/\(∀i,i<n->cv[i]? =ca[i]?)/\C.ty t
 chan:∀r:Nat,C.ch r=true->wv.heap[r]? =some (vz C r)/\∃o,wa.heap[r]? =some o/\wL C r o
 plain:∀(r:Nat) (o:Obj),wv.heap[r]? =some o->C.ch r=false->rU o=true/\o.isChan=false/\∀c t,o≠.pending c t
 loops:∀(r:Nat) (l:Loop),wv.heap[r]? =some (.loop l)->C.N l.assign/\C.N l.body/\∀c,l.pending=some c->C.N c
structure Hid (wa bO:World):Prop where
 tape:bO.tape=wa.tape
 os:bO.os=wa.os
 size:wa.heap.size<=bO.heap.size
 cells:∀r n:Nat,C.hd r=some n->∀ca t fr,wa.heap[r]? =some (.cells ca t fr)->∃ca',bO.heap[r]? =some (.cells ca' t fr)/\ca'.size=ca.size/\∀i,n<=i\/((C.fz r).1<=i/\i<(C.fz r).2)->ca'[i]? =ca[i]?
 chans:∀r:Nat,C.ch r=true->r<wa.heap.size->bO.heap[r]? =wa.heap[r]?
def oQ (e:Event):Prop:=match e.loc with
 | .cell a=>C.ch a.block=false/\∀n,C.hd a.block=some n->a.spot=none/\a.off<n/\(e.write=true->¬((C.fz a.block).1<=a.off/\a.off<(C.fz a.block).2))
 | .obj r=>C.ch r=false\/(e.write=false/\(e.sync=true\/(C.lq r).isSome=true))
 | .mark (.extern _)| .mark .noRoom=>True
 | .mark (.acquire a)| .mark (.release a)| .mark (.releaseMerge a)=>C.ch a.block=false/\∀n,C.hd a.block=some n->a.off<n
 | .mark _=>False
 |_=>True
theorem Hid.refl (wa:World):Hid C wa wa:=⟨rfl,rfl,Nat.le_refl _,λ_ _ _ ca _ _ h=>⟨ca,h,rfl,λ_ _=>rfl⟩,λ_ _ _=>rfl⟩
variable {C} in
theorem Hid.trans {a b c:World} (h:Hid C a b) (k:Hid C b c):Hid C a c:=
 ⟨k.tape.trans h.tape,k.os.trans h.os,Nat.le_trans h.size k.size,λr n hr ca t fr hc=>by
   obtain ⟨cb,h1,h2,h3⟩:=h.cells r n hr ca t fr hc;obtain ⟨cc,k1,k2,k3⟩:=k.cells r n hr cb t fr h1;exact ⟨cc,k1,k2.trans h2,λi hi=>(k3 i hi).trans (h3 i hi)⟩,λr hr aI=>(k.chans r hr (Nat.lt_of_lt_of_le aI h.size)).trans (h.chans r hr aI)⟩
end
section
variable (P Q:Program) (C:Cut)
def Hz {α:Type} (s:Sem α) (φ:α->Prop) (wa:World):Result α->Prop
 | .halt (.stuck _) _| .halt (.unsupported _) _=>True
 | .ok a wv'=>φ a/\∃bO es,(∀jH,s.runT P wa jH=(.ok a bO,jH++es))/\Vw C wv' bO/\Hid C wa bO/\∀e∈es,oQ C e
 | .halt (.panic v) wv'=>∃bO es,(∀jH,s.runT P wa jH=(.halt (.panic v) bO,jH++es))/\Vw C wv' bO/\Hid C wa bO/\∀e∈es,oQ C e
 |_=>False
def Loc {α:Type} (s:Sem α) (φ:α->Prop):Prop:=∀wv wa,Vw C wv wa->
 ∃(k:Nat) (τ:Nat->Question->Nat) (r:Result α),(∀τ' d,(∀i q,i<k->τ' (d+i) q=τ i q)->s.run Q (re wv τ' d)=JW r τ' (d+k))/\Hz P C s φ wa r
end
section
variable {P Q:Program} {C:Cut} {α β:Type} {φ:α->Prop} {ψ:β->Prop}
theorem yf {a:α} (h:φ a):Loc P Q C (.pure a) φ:=λwv wa hv=>
 ⟨0,λ_ _=>0,.ok a wv,λ_ _ _=>rfl,h,wa,#[],λjH=>by simp [Sem.runT],hv,Hid.refl C wa,by simp⟩
theorem YO {s:Sem α} {h:Halt} (hh:(∃x,h=.stuck x)\/∃x,h=.unsupported x) (hr:∀w,s.run Q w=.halt h w):Loc P Q C s φ:=λwv wa _=>
 ⟨0,λ_ _=>0,.halt h wv,λτ' d _=>hr _,by rcases hh with ⟨x,rfl⟩|⟨x,rfl⟩<;>trivial⟩
theorem zf (p:Program) (x:Sem α) (f:α->Sem β) (w:World) (es:Array Event):(x.bind f).runT p w es=match x.runT p w es with
 |(.ok a w',qY)=>(f a).runT p w' qY
 |(.halt h w',qY)=>(.halt h w',qY):=Sem.runT_bind' p x f w es
theorem DC {s:Sem α} {f:α->Sem β} (h:Loc P Q C s φ) (hf:∀a,φ a->Loc P Q C (f a) ψ):Loc P Q C (s.bind f) ψ:=λwv wa hv=>by
 obtain ⟨k,τ,r,h1,h2⟩:=h wv wa hv;cases r with
 |halt x w=>
  refine ⟨k,τ,.halt x w,λτ' d ht=>?_,?_⟩
  ·rw [Sem.run_bind',h1 τ' d ht];rfl
  ·cases x with
   |stuck _=>trivial
   |unsupported _=>trivial
   |panic v=>obtain ⟨bO,es,e1,e2⟩:=h2;exact ⟨bO,es,λjH=>by rw [zf,e1 jH],e2⟩
   |_=>exact h2.elim
 |ok a w=>
  obtain ⟨ha,bO,es,e1,e2,e3,e4⟩:=h2;obtain ⟨k',τ',r',g1,g2⟩:=hf a ha w bO e2;refine ⟨k+k',λi q=>if i<k then τ i q else τ' (i - k) q,r',λτ₂ d ht=>?_,?_⟩
  ·have t1:∀i q,i<k->τ₂ (d+i) q=τ i q:=λi q hi=>by rw [ht i q (by omega)];exact if_pos hi
   have t2:∀i q,i<k'->τ₂ (d+k+i) q=τ' i q:=λi q hi=>by
    have:=ht (k+i) q (by omega);rw [Nat.add_assoc,this];show (if k+i<k then _ else _)=_;rw [if_neg (by omega),show k+i - k=i from by omega]
   rw [Sem.run_bind',h1 τ₂ d t1];show (f a).run Q (re w τ₂ (d+k))=_;rw [g1 τ₂ (d+k) t2,Nat.add_assoc]
  ·cases r' with
   |ok b w'=>obtain ⟨hb,wb,qY,f1,f2,f3,f4⟩:=g2;exact ⟨hb,wb,es++qY,λjH=>by rw [zf,e1 jH];show (f a).runT P bO (jH++es)=_;rw [f1,Array.append_assoc],f2,e3.trans f3,λe he=>(Array.mem_append.1 he).elim (e4 e) (f4 e)⟩
   |halt x w'=>
    cases x with
    |stuck _=>trivial
    |unsupported _=>trivial
    |panic v=>obtain ⟨wb,qY,f1,f2,f3,f4⟩:=g2;exact ⟨wb,es++qY,λjH=>by rw [zf,e1 jH];show (f a).runT P bO (jH++es)=_;rw [f1,Array.append_assoc],f2,e3.trans f3,λe he=>(Array.mem_append.1 he).elim (e4 e) (f4 e)⟩
    |_=>exact g2.elim
end
end Ka
namespace Ka
section
variable {P Q:Program} {C:Cut}
def iK (C:Cut) (o:Obj):Prop:=(rU o=true/\o.isChan=false/\∀c t,o≠.pending c t)/\∀l,o=.loop l->C.N l.assign/\C.N l.body/\∀c,l.pending=some c->C.N c
theorem Vw.cell {wv wa:World} (h:Vw C wv wa) {a:Addr} {v:Value} (hc:wv.cell? a=some v):wa.cell? a=some v/\C.ch a.block=false/\∀n,C.hd a.block=some n->a.spot=none/\a.off<n:=by
 unfold World.cell? at hc ⊢;cases hq:C.ch a.block with
 |true=>rw [(h.chan _ hq).1] at hc;rcases iA C a.block with ⟨_,e⟩|⟨_,e⟩<;>rw [e] at hc<;>cases hc
 |false=>
 cases hb:C.hd a.block with
 |none=>rw [<-h.same _ ⟨hb,hq⟩];exact ⟨hc,rfl,λn hn=>by cases hn⟩
 |some n=>
  obtain ⟨cv,ca,t,h1,e1,h2,e2,e3⟩:=h.cut _ n hb;rw [h1] at hc;simp only at hc;split at hc
  ·cases hc
  ·rename_i hs;have aI:a.off<n:=by
    rw [<-h2];rcases Nat.lt_or_ge a.off cv.size with x|x
    ·exact x
    ·rw [Array.getElem?_eq_none x] at hc;cases hc
   rw [e1];simp only [hs,if_false,Bool.false_eq_true];refine ⟨(e3.1 _ aI).symm.trans hc,trivial,λm hm=>?_⟩;cases hm;exact ⟨by cases hq:a.spot with|none=>rfl|some x=>rw [hq] at hs;simp at hs,aI⟩
theorem F8 (p:Program) (w:World) (r:Nat) (k:Addr) (at_:Bool) {b:Addr} {t:TypeId} (h:w.heap[r]? =some (.view b t)):∃x,w.seen p ⟨r,0,none⟩ 0 k at_=.error x:=by
 unfold World.seen;simp only [h];split
 ·exact ⟨_,rfl⟩
 ·split
  ·split
   ·split
    ·exact ⟨_,rfl⟩
    ·exact ⟨_,rfl⟩
   ·exact ⟨_,rfl⟩
  ·exact ⟨_,rfl⟩
theorem TJ (p:Program) (w:World) (r:Nat) (k:Addr) (at_:Bool) {b:Addr} {t:TypeId} (h:w.heap[r]? =some (.view b t)):∃x,w.viewLoad p ⟨r,0,none⟩ 0 k at_=.error x:=by obtain ⟨x,hx⟩:=F8 p w r k at_ h;unfold World.viewLoad;rw [hx];exact ⟨_,rfl⟩
theorem Ou (p:Program) (w:World) (r:Nat) (k:Addr) (v:Value) (at_:Bool) (τ:Nat->Question->Nat) (d:Nat) {b:Addr} {t:TypeId} (h:w.heap[r]? =some (.view b t)):∃x,w.viewStore p ⟨r,0,none⟩ 0 k v at_=.error x/\(re w τ d).viewStore p ⟨r,0,none⟩ 0 k v at_=.error x:=by
 obtain ⟨x,hx⟩:=F8 p w r k at_ h;have hy:(re w τ d).seen p ⟨r,0,none⟩ 0 k at_=.error x:=hx;unfold World.viewStore;rw [hx,hy];cases tight p p.depth 0 with
 |false=>exact ⟨_,rfl,rfl⟩
 |true=>exact ⟨x,rfl,rfl⟩
theorem j6 {p:Program} {wv wa:World} (h:Vw C wv wa) (a:Addr) (at_:Bool) (τ:Nat->Question->Nat) (d:Nat):∃e,World.farLoad p (re wv τ d) a at_=.error e/\World.farLoad p wv a at_=.error e/\((∃x,e=.stuck x)\/∃x,e=.unsupported x):=by
 have hre:World.farLoad p (re wv τ d) a at_=World.farLoad p wv a at_:=rfl;rw [hre]
 suffices hs:∃e,World.farLoad p wv a at_=.error e/\((∃x,e=.stuck x)\/∃x,e=.unsupported x) by
  obtain ⟨e,h1,h2⟩:=hs;exact ⟨e,h1,h1,h2⟩
 unfold World.farLoad World.noCell;cases hb:wv.heap[a.block]? with
 |none=>exact ⟨_,rfl,.inl ⟨_,rfl⟩⟩
 |some o=>
  cases gN:C.ch a.block with
  |true=>
   have e:=(h.chan _ gN).1;rw [hb] at e;obtain rfl:=Option.some.inj e;rcases iA C a.block with ⟨_,e⟩|⟨_,e⟩
   ·rw [e];exact ⟨_,rfl,.inr ⟨_,rfl⟩⟩
   ·rw [e] at hb ⊢;obtain ⟨x,hx⟩:=TJ p wv a.block a at_ hb;simp only [hx];exact ⟨_,rfl,.inr ⟨_,rfl⟩⟩
  |false=>have:=(h.plain _ o hb gN).1;cases o<;>first|exact ⟨_,rfl,.inl ⟨_,rfl⟩⟩|exact ⟨_,rfl,.inr ⟨_,rfl⟩⟩|(simp [rU] at this)
theorem vv {p:Program} {wv wa:World} (h:Vw C wv wa) (a:Addr) (v:Value) (at_:Bool) (τ:Nat->Question->Nat) (d:Nat):∃e,World.farStore p (re wv τ d) a v at_=.error e/\((∃x,e=.stuck x)\/∃x,e=.unsupported x)/\World.farStore p wv a v at_=.error e:=by
 unfold World.farStore World.noCell re;cases hb:wv.heap[a.block]? with
 |none=>exact ⟨_,rfl,.inl ⟨_,rfl⟩,rfl⟩
 |some o=>
  cases gN:C.ch a.block with
  |true=>
   have e:=(h.chan _ gN).1;rw [hb] at e;obtain rfl:=Option.some.inj e;rcases iA C a.block with ⟨_,e⟩|⟨_,e⟩
   ·rw [e];exact ⟨_,rfl,.inr ⟨_,rfl⟩,rfl⟩
   ·rw [e] at hb ⊢;obtain ⟨x,hx,hy⟩:=Ou p wv a.block a v at_ τ d hb;unfold re at hy;simp only [hx,hy];exact ⟨_,rfl,.inr ⟨_,rfl⟩,rfl⟩
  |false=>have:=(h.plain _ o hb gN).1;cases o<;>first|exact ⟨_,rfl,.inl ⟨_,rfl⟩,rfl⟩|exact ⟨_,rfl,.inr ⟨_,rfl⟩,rfl⟩|(simp [rU] at this)
theorem YN (m:Mode) (a:Addr):Loc P Q C (.load m a .pure) λ_=>True:=λwv wa hv=>by
 cases hc:wv.cell? a with
 |some v=>
  obtain ⟨h1,h2⟩:=hv.cell hc;refine ⟨0,λ_ _=>0,.ok v wv,λτ' d _=>?_,trivial,wa,#[⟨.cell a,false,m==.atomic⟩],λjH=>?_,hv,Hid.refl C wa,λe he=>?_⟩
  ·have:(re wv τ' d).cell? a=some v:=hc;simp only [Sem.run,this];rfl
  ·simp only [Sem.runT,h1,Array.push_eq_append]
  ·simp only [List.mem_toArray,List.mem_singleton] at he;subst he;exact ⟨h2.1,λn hn=>⟨(h2.2 n hn).1,(h2.2 n hn).2,λx=>by cases x⟩⟩
 |none=>
  obtain ⟨e,h1,_,h2⟩:=j6 (p:=Q) hv a (m==.atomic) wv.tape wv.drawn;refine ⟨0,λ_ _=>0,.halt e wv,λτ' d _=>?_,?_⟩
  ·have:(re wv τ' d).cell? a=none:=hc;obtain ⟨e',h1',h3',_⟩:=j6 (p:=Q) hv a (m==.atomic) τ' d;obtain ⟨e2,_,h4',_⟩:=j6 (p:=Q) hv a (m==.atomic) wv.tape wv.drawn;have:e'=e:=by
    have h5:World.farLoad Q wv a (m==.atomic)=.error e:=h1;rw [h3'] at h5;exact Except.error.inj h5
   subst this;simp only [Sem.run,‹(re wv τ' d).cell? a=none›,h1'];rfl
  ·rcases h2 with ⟨x,rfl⟩|⟨x,rfl⟩<;>trivial
theorem get_modify (h:Array Obj) (b:Nat) (f:Obj->Obj) (r:Nat):(h.modify b f)[r]? =if b=r then (h[r]?).map f else h[r]? :=by rw [Array.getElem?_modify]
theorem Vw.setCell {wv wa:World} (h:Vw C wv wa) {a:Addr} {v x:Value} (hc:wv.cell? a=some x):Vw C (wv.setCell a v) (wa.setCell a v):=by
 obtain ⟨hca,gN,Bf⟩:=h.cell hc;refine ⟨by simp [World.setCell,h.size],h.os,λr hr=>?_,λr n hr=>?_,λr hr=>?_,λr o ho=>?_,λr l hl=>?_⟩
 ·simp only [World.setCell,get_modify,h.same r hr]
 ·obtain ⟨cv,ca,t,h1,e1,h2,e2,e3⟩:=h.cut r n hr;simp only [World.setCell,get_modify];by_cases e:a.block=r
  ·subst e;obtain ⟨hs,aI⟩:=Bf n hr;refine ⟨cv.setIfInBounds a.off v,ca.setIfInBounds a.off v,t,by simp [h1,hs],by simp [e1,hs],by simp [h2],by simpa using e2,λi hi=>?_,e3.2⟩;by_cases ei:a.off=i
   ·subst ei;rw [Array.getElem?_setIfInBounds_self_of_lt (by omega),Array.getElem?_setIfInBounds_self_of_lt (by omega)]
   ·rw [Array.getElem?_setIfInBounds_ne ei,Array.getElem?_setIfInBounds_ne ei];exact e3.1 i hi
  ·simp only [e,if_false];exact ⟨cv,ca,t,h1,e1,h2,e2,e3⟩
 ·have bA:¬a.block=r:=λe=>by rw [e,hr] at gN;cases gN
  simp only [World.setCell,get_modify,bA,if_false];exact h.chan r hr
 ·simp only [World.setCell,get_modify] at ho;split at ho
  ·obtain ⟨o',h1,rfl⟩:=Option.map_eq_some_iff.1 ho;have:=h.plain r o' h1;cases o'<;>first|exact this|exact λ_=>⟨rfl,rfl,λ_ _ e=>by cases e⟩
  ·exact h.plain r o ho
 ·simp only [World.setCell,get_modify] at hl;split at hl
  ·obtain ⟨o',h1,h2⟩:=Option.map_eq_some_iff.1 hl;cases o'<;>first|(cases h2;exact h.loops r _ h1)|cases h2
  ·exact h.loops r l hl
theorem Hid.setCell {wv wa:World} (h:Vw C wv wa) {a:Addr} {v x:Value} (hc:wv.cell? a=some x) (PE:∀n,C.hd a.block=some n->¬((C.fz a.block).1<=a.off/\a.off<(C.fz a.block).2)):Hid C wa (wa.setCell a v):=by
 obtain ⟨hca,gN,Bf⟩:=h.cell hc;refine ⟨rfl,rfl,by simp [World.setCell],λr n hr ca t fr hcr=>?_,λr hr _=>?_⟩
 ·simp only [World.setCell,get_modify];by_cases e:a.block=r
  ·subst e;obtain ⟨hs,aI⟩:=Bf n hr;refine ⟨ca.setIfInBounds a.off v,by simp [hcr,hs],by simp,λi hi=>Array.getElem?_setIfInBounds_ne (λe=>by subst e;exact hi.elim (λx=>absurd aI (by omega)) λx=>PE n hr x)⟩
  ·simp only [e,if_false];exact ⟨ca,hcr,rfl,λ_ _=>rfl⟩
 ·have bA:¬a.block=r:=λe=>by rw [e,hr] at gN;cases gN
  simp only [World.setCell,get_modify,bA,if_false]
theorem uB {wv wa:World} (h:Vw C wv wa) {a:Addr} {x:Value} (hc:wv.cell? a=some x) (hf:wv.frozen? a=false):wa.frozen? a=false/\∀n,C.hd a.block=some n->¬((C.fz a.block).1<=a.off/\a.off<(C.fz a.block).2):=by
 obtain ⟨_,gN,Bf⟩:=h.cell hc;unfold World.frozen? at hf ⊢;cases hb:C.hd a.block with
 |none=>rw [<-h.same _ ⟨hb,gN⟩];exact ⟨hf,λn hn=>by cases hn⟩
 |some n=>obtain ⟨cv,ca,t,h1,e1,h2,e2,e3⟩:=h.cut _ n hb;rw [h1] at hf;rw [e1];exact ⟨by simp,λm hm hx=>by simp [hx.1,hx.2] at hf⟩
theorem UG (m:Mode) (a:Addr) (v:Value):Loc P Q C (.store m a v (.pure ())) λ_=>True:=λwv wa hv=>by
 by_cases hw:(∃c,v=.agg c)\/∃c,v=.tuple c
 ·rcases hw with ⟨c,rfl⟩|⟨c,rfl⟩<;>exact YO (.inl ⟨_,rfl⟩) (λw=>rfl) wv wa hv
 have bJ:∀w,(Sem.store m a v (.pure ())).run Q w=match w.cell? a with
  |some _=>if w.frozen? a then .halt (.unsupported (.unsafePointer "a write to bytes that a string shares")) w else .ok () (w.setCell a v)
  |none=>match w.farStore Q a v (m==.atomic) with| .ok (w,_)=>.ok () w| .error h=>.halt h w:=λw=>by
  cases v<;>first|rfl|exact absurd (.inl ⟨_,rfl⟩) hw|exact absurd (.inr ⟨_,rfl⟩) hw
 have Rh:∀w es,(Sem.store m a v (.pure ())).runT P w es=match w.cell? a with
  |some _=>if w.frozen? a then (.halt (.unsupported (.unsafePointer "a write to bytes that a string shares")) w,es) else (.ok () (w.setCell a v),es.push ⟨.cell a,true,m==.atomic⟩)
  |none=>match w.farStore P a v (m==.atomic) with| .ok (w,aBj)=>(.ok () w,es++aBj.toArray.map (⟨.cell ·,true,m==.atomic⟩))| .error h=>(.halt h w,es):=λw es=>by
  cases v<;>first|rfl|exact absurd (.inl ⟨_,rfl⟩) hw|exact absurd (.inr ⟨_,rfl⟩) hw
 cases hc:wv.cell? a with
 |none=>
  obtain ⟨e,_,h2,h1⟩:=vv (p:=Q) hv a v (m==.atomic) wv.tape wv.drawn;refine ⟨0,λ_ _=>0,.halt e wv,λτ' d _=>?_,by rcases h2 with ⟨x,rfl⟩|⟨x,rfl⟩<;>trivial⟩;obtain ⟨e',h1',_,h3'⟩:=vv (p:=Q) hv a v (m==.atomic) τ' d;have:e'=e:=by rw [h3'] at h1;exact Except.error.inj h1
  subst this;rw [bJ];have h0:(re wv τ' d).cell? a=none:=hc;simp only [h0,h1'];rfl
 |some x=>
  cases hf:wv.frozen? a with
  |true=>refine ⟨0,λ_ _=>0,.halt (.unsupported (.unsafePointer "a write to bytes that a string shares")) wv,λτ' d _=>?_,trivial⟩;rw [bJ];have h0:(re wv τ' d).cell? a=some x:=hc;have h1:(re wv τ' d).frozen? a=true:=hf;simp only [h0,h1,if_true];rfl
  |false=>
   obtain ⟨hca,gN,Bf⟩:=hv.cell hc;obtain ⟨hfa,PE⟩:=uB hv hc hf;refine ⟨0,λ_ _=>0,.ok () (wv.setCell a v),λτ' d _=>?_,trivial,wa.setCell a v,#[⟨.cell a,true,m==.atomic⟩],λjH=>?_,hv.setCell hc,Hid.setCell hv hc PE,λe he=>?_⟩
   ·rw [bJ];have h0:(re wv τ' d).cell? a=some x:=hc;have h1:(re wv τ' d).frozen? a=false:=hf;simp only [h0,h1,if_false,Bool.false_eq_true];rfl
   ·rw [Rh];simp only [hca,hfa,if_false,Bool.false_eq_true,Array.push_eq_append]
   ·simp only [List.mem_toArray,List.mem_singleton] at he;subst he;exact ⟨gN,λn hn=>⟨(Bf n hn).1,(Bf n hn).2,λ_=>PE n hn⟩⟩
end
end Ka
namespace Ka
section
variable {P Q:Program} {C:Cut}
theorem Vw.drawn {wv wa:World} (h:Vw C wv wa) (d:Nat):Vw C wv {wa with drawn:=d}:=⟨h.size,h.os,h.same,h.cut,h.chan,h.plain,h.loops⟩
theorem Hid.drawn (wa:World) (d:Nat):Hid C wa {wa with drawn:=d}:=⟨rfl,rfl,Nat.le_refl _,λ_ _ _ ca _ _ h=>⟨ca,h,rfl,λ_ _=>rfl⟩,λ_ _ _=>rfl⟩
theorem Vw.YJ {wv wa:World} (h:Vw C wv wa) {r n:Nat} (hr:C.hd r=some n):r<wa.heap.size:=by obtain ⟨cv,ca,t,_,e1,_⟩:=h.cut r n hr;exact (Array.getElem?_eq_some_iff.1 e1).1
theorem Vw.aDJ {wv wa:World} (h:Vw C wv wa) {r:Nat} (hr:C.ch r=true):r<wa.heap.size:=by obtain ⟨_,o,ho,_⟩:=h.chan r hr;exact (Array.getElem?_eq_some_iff.1 ho).1
theorem Q9 {o:Obj} (ho:iK C o):Loc P Q C (.new o .pure) λr=>C.free r:=λwv wa hv=>by
 have hs:=hv.size;refine ⟨0,λ_ _=>0,.ok wv.heap.size {wv with heap:=wv.heap.push o},λτ' d _=>rfl,?_,{wa with heap:=wa.heap.push o},#[],λjH=>by simp [Sem.runT,hs],?_,?_,by simp⟩
 ·constructor
  ·cases hb:C.hd wv.heap.size with
   |none=>rfl
   |some n=>have:=hv.YJ hb;omega
  ·cases hb:C.ch wv.heap.size with
   |false=>rfl
   |true=>have:=hv.aDJ hb;omega
 ·refine ⟨by simp [hs],hv.os,λr hr=>?_,λr n hr=>?_,λr hr=>?_,λr o' h=>?_,λr l h=>?_⟩
  ·simp only [Array.getElem?_push,hs,hv.same r hr]
  ·have aI:=hv.YJ hr;have bA:r≠wv.heap.size:=by omega
   have uK:r≠wa.heap.size:=by omega
   obtain ⟨cv,ca,t,h1,e1,h2,e2,e3⟩:=hv.cut r n hr;exact ⟨cv,ca,t,by simp only [Array.getElem?_push,bA,if_false];exact h1,by simp only [Array.getElem?_push,uK,if_false];exact e1,h2,e2,e3⟩
  ·have aI:=hv.aDJ hr;have bA:r≠wv.heap.size:=by omega
   have uK:r≠wa.heap.size:=by omega
   obtain ⟨h1,o',h2,h3⟩:=hv.chan r hr;exact ⟨by simp only [Array.getElem?_push,bA,if_false];exact h1,o',by simp only [Array.getElem?_push,uK,if_false];exact h2,h3⟩
  ·simp only [Array.getElem?_push] at h;split at h
   ·cases h;exact λ_=>ho.1
   ·exact hv.plain r o' h
  ·simp only [Array.getElem?_push] at h;split at h
   ·cases h;exact ho.2 l rfl
   ·exact hv.loops r l h
 ·refine ⟨rfl,rfl,by simp,λr n hr ca t fr hc=>⟨ca,?_,rfl,λ_ _=>rfl⟩,λr hr aI=>?_⟩
  ·have uK:r≠wa.heap.size:=by have:=hv.YJ hr;omega
   simp only [Array.getElem?_push,uK,if_false];exact hc
  ·have uK:r≠wa.heap.size:=by omega
   simp only [Array.getElem?_push,uK,if_false]
theorem Vw.aIY {wv wa:World} (h:Vw C wv wa) {r:Nat} {o:Obj} (hr:wv.heap[r]? =some o) (hn:∀c t f,o≠.cells c t f) (hg:C.ch r=false):C.free r:=by
 constructor
 ·cases hb:C.hd r with
  |none=>rfl
  |some n=>obtain ⟨cv,ca,t,h1,_⟩:=h.cut r n hb;rw [hr] at h1;cases h1;exact absurd rfl (hn _ _ _)
 ·exact hg
theorem O7 {α:Type} {φ:α->Prop} (r:Nat) {k:Obj->Sem α} (hk:C.free r->∀o,iK C o->Loc P Q C (k o) φ) (hd:∃e,((∃x,e=.stuck x)\/∃x,e=.unsupported x)/\∀w,(k gone).run Q w=.halt e w) (uL:∀a t,∃e,((∃x,e=.stuck x)\/∃x,e=.unsupported x)/\∀w,(k (.view a t)).run Q w=.halt e w):Loc P Q C (.getObj r k) φ:=λwv wa hv=>by
 cases hr:wv.heap[r]? with
 |none=>refine ⟨0,λ_ _=>0,.halt (.stuck "getObj: no such block") wv,λτ' d _=>?_,trivial⟩;have h':(re wv τ' d).heap[r]? =_:=hr;simp only [Sem.run,h'];rfl
 |some o=>
  by_cases hc:∃c t f,o=.cells c t f
  ·obtain ⟨c,t,f,rfl⟩:=hc;refine ⟨0,λ_ _=>0,.halt (.stuck "getObj: a row of cells") wv,λτ' d _=>?_,trivial⟩;have h':(re wv τ' d).heap[r]? =_:=hr;simp only [Sem.run,h'];rfl
  ·have hn:∀c t f,o≠.cells c t f:=λc t f e=>hc ⟨c,t,f,e⟩;have bJ:∀τ' d,Sem.run Q (.getObj r k) (re wv τ' d)=(k o).run Q (re wv τ' d):=λτ' d=>by
    have h':(re wv τ' d).heap[r]? =_:=hr;cases o<;>first|exact absurd rfl (hn _ _ _)|(simp only [Sem.run,h'])
   cases gN:C.ch r with
   |true=>
    have:=(hv.chan r gN).1;rw [hr] at this;obtain rfl:=Option.some.inj this;obtain ⟨e,he,hrn⟩:∃e,((∃x,e=.stuck x)\/∃x,e=.unsupported x)/\∀w,(k (vz C r)).run Q w=.halt e w:=by
     rcases iA C r with ⟨_,e⟩|⟨_,e⟩<;>rw [e]
     ·exact hd
     ·exact uL _ _
    refine ⟨0,λ_ _=>0,.halt e wv,λτ' d _=>by rw [bJ,hrn];rfl,?_⟩;rcases he with ⟨x,rfl⟩|⟨x,rfl⟩<;>trivial
   |false=>
   have hpl:=hv.plain r o hr gN;have hu:=hv.aIY hr hn gN;have hra:wa.heap[r]? =some o:=by rw [<-hv.same r hu];exact hr
   obtain ⟨n,τ,res,h1,h2⟩:=hk hu o ⟨hpl,λl e=>hv.loops r l (e▸hr)⟩ wv wa hv;refine ⟨n,τ,res,λτ' d ht=>by rw [bJ,h1 τ' d ht],?_⟩;have Rh:∀jH,Sem.runT P (.getObj r k) wa jH=(k o).runT P wa (jH.push ⟨.obj r,false,o.isChan⟩):=λjH=>by
    cases o<;>first|exact absurd rfl (hn _ _ _)|(simp only [Sem.runT,hra])
   have oU:oQ C ⟨.obj r,false,o.isChan⟩:=.inl gN;have tail:∀(es:Array Event),(∀e∈es,oQ C e)->∀e∈#[⟨.obj r,false,o.isChan⟩]++es,oQ C e:=λes h e he=>(Array.mem_append.1 he).elim (λx=>by simp only [List.mem_toArray,List.mem_singleton] at x;subst x;exact oU) (h e);cases res with
   |ok a w'=>obtain ⟨ha,bO,es,e1,e2,e3,e4⟩:=h2;exact ⟨ha,bO,#[⟨.obj r,false,o.isChan⟩]++es,λjH=>by rw [Rh,e1,Array.push_eq_append,Array.append_assoc],e2,e3,tail es e4⟩
   |halt x w'=>
    cases x with
    |stuck _=>trivial
    |unsupported _=>trivial
    |panic v=>obtain ⟨bO,es,e1,e2,e3,e4⟩:=h2;exact ⟨bO,#[⟨.obj r,false,o.isChan⟩]++es,λjH=>by rw [Rh,e1,Array.push_eq_append,Array.append_assoc],e2,e3,tail es e4⟩
    |_=>exact h2.elim
theorem O6 (r:Nat) {o':Obj} (ho:iK C o') (u6:C.free r):Loc P Q C (.setObj r o' (.pure ())) λ_=>True:=λwv wa hv=>by
 cases hr:wv.heap[r]? with
 |none=>refine ⟨0,λ_ _=>0,.halt (.stuck "setObj: no such block") wv,λτ' d _=>?_,trivial⟩;have h':(re wv τ' d).heap[r]? =_:=hr;simp only [Sem.run,h'];rfl
 |some o=>
  by_cases hc:∃c t f,o=.cells c t f
  ·obtain ⟨c,t,f,rfl⟩:=hc;refine ⟨0,λ_ _=>0,.halt (.stuck "setObj: a row of cells") wv,λτ' d _=>?_,trivial⟩;have h':(re wv τ' d).heap[r]? =_:=hr;simp only [Sem.run,h'];rfl
  ·have hn:∀c t f,o≠.cells c t f:=λc t f e=>hc ⟨c,t,f,e⟩;have hra:wa.heap[r]? =some o:=by rw [<-hv.same r u6];exact hr
   have bA:∀r' n,C.hd r'=some n->r≠r':=λr' n h e=>by subst e;rw [u6.1] at h;cases h
   have uK:∀r',C.ch r'=true->r≠r':=λr' h e=>by subst e;rw [u6.2] at h;cases h
   refine ⟨0,λ_ _=>0,.ok () {wv with heap:=wv.heap.setIfInBounds r o'},λτ' d _=>?_,trivial,{wa with heap:=wa.heap.setIfInBounds r o'},#[⟨.obj r,true,o'.isChan⟩],λjH=>?_,⟨by simp [hv.size],hv.os,λr' h'=>?_,λr' n h'=>?_,λr' h'=>?_,λr' o h=>?_,λr' l h=>?_⟩,⟨rfl,rfl,by simp,λr' n h' ca t fr hx=>⟨ca,?_,rfl,λ_ _=>rfl⟩,λr' h' _=>?_⟩,λe he=>?_⟩
   ·have h':(re wv τ' d).heap[r]? =_:=hr;cases o<;>first|exact absurd rfl (hn _ _ _)|(simp only [Sem.run,h'];rfl)
   ·cases o<;>first|exact absurd rfl (hn _ _ _)|(simp only [Sem.runT,hra,Array.push_eq_append])
   ·simp only [Array.getElem?_setIfInBounds,hv.same r' h',hv.size]
   ·obtain ⟨cv,ca,t,h1,e1,h2,e2,e3⟩:=hv.cut r' n h';exact ⟨cv,ca,t,by rw [Array.getElem?_setIfInBounds_ne (bA r' n h')];exact h1,by rw [Array.getElem?_setIfInBounds_ne (bA r' n h')];exact e1,h2,e2,e3⟩
   ·obtain ⟨h1,o₁,h2,h3⟩:=hv.chan r' h';exact ⟨by rw [Array.getElem?_setIfInBounds_ne (uK r' h')];exact h1,o₁,by rw [Array.getElem?_setIfInBounds_ne (uK r' h')];exact h2,h3⟩
   ·simp only [Array.getElem?_setIfInBounds] at h;split at h
    ·split at h
     ·cases h;exact λ_=>ho.1
     ·cases h
    ·exact hv.plain r' o h
   ·simp only [Array.getElem?_setIfInBounds] at h;split at h
    ·split at h
     ·cases h;exact ho.2 l rfl
     ·cases h
    ·exact hv.loops r' l h
   ·rw [Array.getElem?_setIfInBounds_ne (bA r' n h')];exact hx
   ·rw [Array.getElem?_setIfInBounds_ne (uK r' h')]
   ·simp only [List.mem_toArray,List.mem_singleton] at he;subst he;exact .inl u6.2
theorem O9 (q:Question):Loc P Q C (.choose q .pure) λ_=>True:=λwv wa hv=>by
 cases hq:q.forced with
 |true=>exact ⟨0,λ_ _=>0,.ok 0 wv,λτ' d _=>by simp [Sem.run,hq,JW],trivial,wa,#[],λjH=>by simp [Sem.runT,hq],hv,Hid.refl C wa,by simp⟩
 |false=>refine ⟨1,λ_=>wa.tape wa.drawn,.ok (q.cut (wa.tape wa.drawn q)) wv,λτ' d h=>?_,trivial,{wa with drawn:=wa.drawn+1},#[],λjH=>by simp [Sem.runT,hq],hv.drawn _,Hid.drawn wa _,by simp⟩;have:=h 0 q (by omega);simp only [Nat.add_zero] at this;simp [Sem.run,hq,JW,re,this]
theorem LC {α:Type} {k:Program->Sem α} {φ:α->Prop} (h:k P=k Q) (hk:Loc P Q C (k Q) φ):Loc P Q C (.program k) φ:=λwv wa hv=>by
 obtain ⟨n,τ,r,h1,h2⟩:=hk wv wa hv;refine ⟨n,τ,r,λτ' d ht=>by simpa [Sem.run] using h1 τ' d ht,?_⟩;have e:∀w es,(Sem.program k).runT P w es=(k Q).runT P w es:=λw es=>by simp [Sem.runT,h]
 cases r with
 |ok a w=>obtain ⟨ha,bO,es,e1,e2⟩:=h2;exact ⟨ha,bO,es,λjH=>by rw [e,e1],e2⟩
 |halt x w=>cases x<;>first|trivial|exact h2.elim|(obtain ⟨bO,es,e1,e2⟩:=h2;exact ⟨bO,es,λjH=>by rw [e,e1],e2⟩)
def YF:Mark->Bool
 | .extern _| .noRoom=>true
 |_=>false
theorem YM {m:Mark} (hm:YF m=true):Loc P Q C (.mark m (.pure ())) λ_=>True:=λwv wa hv=>
 ⟨0,λ_ _=>0,.ok () wv,λ_ _ _=>rfl,trivial,wa,#[⟨.mark m,false,true⟩],λjH=>by simp only [Sem.runT,Array.push_eq_append],hv,Hid.refl C wa,λe he=>by
   simp only [List.mem_toArray,List.mem_singleton] at he;subst he;cases m<;>first|trivial|cases hm⟩
def aGC:Halt->Bool
 | .stuck _| .unsupported _| .panic _=>true
 |_=>false
theorem Dz {α:Type} {φ:α->Prop} {h:Halt} (hh:aGC h=true):Loc P Q C (.halt h:Sem α) φ:=λwv wa hv=>by
 refine ⟨0,λ_ _=>0,.halt h wv,λ_ _ _=>rfl,?_⟩;cases h with
 |stuck _=>trivial
 |unsupported _=>trivial
 |panic v=>exact ⟨wa,#[],λjH=>by simp [Sem.runT],hv,Hid.refl C wa,by simp⟩
 |_=>cases hh
theorem UH {r:Nat} (hr:C.free r):Loc P Q C (.shape r .pure) λ_=>True:=λwv wa hv=>by
 have e:wa.shape? r=wv.shape? r:=by simp only [World.shape?,hv.same r hr]
 exact ⟨0,λ_ _=>0,.ok (wv.shape? r) wv,λ_ _ _=>rfl,trivial,wa,#[],λjH=>by simp [Sem.runT,e],hv,Hid.refl C wa,by simp⟩
theorem O8 {a:Addr} {n:Nat} (hr:C.free a.block):Loc P Q C (.freeze a n (.pure ())) λ_=>True:=λwv wa hv=>by
 refine ⟨0,λ_ _=>0,.ok () (wv.freeze a n),λτ' d _=>?_,trivial,wa.freeze a n,#[],λjH=>by simp [Sem.runT],?_,?_,by simp⟩
 ·simp only [Sem.run,World.freeze,JW,re];split<;>rfl
 ·unfold World.freeze;split
  ·exact hv
  ·have bA:∀r' m,C.hd r'=some m->¬a.block=r':=λr' m h e=>by subst e;rw [hr.1] at h;cases h
   have uK:∀r',C.ch r'=true->¬a.block=r':=λr' h e=>by subst e;rw [hr.2] at h;cases h
   refine ⟨by simp [hv.size],hv.os,λr h=>?_,λr m h=>?_,λr h=>?_,λr o h=>?_,λr l h=>?_⟩
   ·simp only [get_modify,hv.same r h]
   ·obtain ⟨cv,ca,t,h1,e1,h2,e2,e3⟩:=hv.cut r m h;simp only [get_modify,bA r m h,if_false];exact ⟨cv,ca,t,h1,e1,h2,e2,e3⟩
   ·simp only [get_modify,uK r h,if_false];exact hv.chan r h
   ·simp only [get_modify] at h;split at h
    ·obtain ⟨o',h1,rfl⟩:=Option.map_eq_some_iff.1 h;have:=hv.plain r o' h1;cases o'<;>first|exact this|exact λ_=>⟨rfl,rfl,λ_ _ e=>by cases e⟩
    ·exact hv.plain r o h
   ·simp only [get_modify] at h;split at h
    ·obtain ⟨o',h1,h2⟩:=Option.map_eq_some_iff.1 h;cases o'<;>first|(cases h2;exact hv.loops r _ h1)|cases h2
    ·exact hv.loops r l h
 ·unfold World.freeze;split
  ·exact Hid.refl C wa
  ·refine ⟨rfl,rfl,by simp,λr m h ca t fr hc=>⟨ca,?_,rfl,λ_ _=>rfl⟩,λr h _=>?_⟩
   ·have bA:a.block≠r:=λe=>by subst e;rw [hr.1] at h;cases h
    simp only [get_modify,bA,if_false];exact hc
   ·have bA:a.block≠r:=λe=>by subst e;rw [hr.2] at h;cases h
    simp only [get_modify,bA,if_false]
end
end Ka
namespace Ka
abbrev Pf (P:Program) (fs:Array Func):Program:={P with funcs:=fs}
section
variable {P:Program} {fs:Array Func} {C:Cut} {α β:Type} {φ:α->Prop} {ψ:β->Prop}
variable (P fs C) in
abbrev T {α:Type} (s:Sem α) (φ:α->Prop):Prop:=Loc P (Pf P fs) C s φ
theorem tb {x:Sem α} {f:α->Sem β} (h:T P fs C x φ) (hf:∀a,φ a->T P fs C (f a) ψ):T P fs C (x >>= f) ψ:=DC h hf
theorem tp {a:α} (h:φ a):T P fs C (pure a) φ:=yf h
theorem bg {a:α}:T P fs C (pure a) λ_=>True:=yf trivial
theorem af {s:String}:T P fs C (stuck s) φ:=Dz rfl
theorem gY {u:Unsupported}:T P fs C (unsupported u) φ:=Dz rfl
theorem vB {v:Value}:T P fs C (goPanic v) φ:=Dz rfl
theorem dQ {f:Program->Sem β} (h:f P=f (Pf P fs)) (hf:T P fs C (f (Pf P fs)) ψ):T P fs C (program >>= f) ψ:=LC h hf
theorem FP {a:Addr} {m:Mode}:T P fs C (load a m) λ_=>True:=YN m a
theorem WS {a:Addr} {v:Value} {m:Mode}:T P fs C (store a v m) λ_=>True:=UG m a v
theorem Ca {o:Obj} (h:iK C o):T P fs C (newObj o) λr=>C.free r:=Q9 h
theorem yT {r:Nat} {k:Obj->Sem α} (hd:∃e,((∃x,e=.stuck x)\/∃x,e=.unsupported x)/\∀w,(k gone).run (Pf P fs) w=.halt e w) (uL:∀a t,∃e,((∃x,e=.stuck x)\/∃x,e=.unsupported x)/\∀w,(k (.view a t)).run (Pf P fs) w=.halt e w) (hk:C.free r->∀o,iK C o->T P fs C (k o) φ):T P fs C (getObj r >>= k) φ:=O7 r hk hd uL
theorem fV {r:Nat} {o:Obj} (h:iK C o) (hf:C.free r):T P fs C (setObj r o) λ_=>True:=O6 r h hf
theorem nR {q:Question}:T P fs C (choose q) λ_=>True:=O9 q
theorem aDB {m:Mark} (h:YF m=true):T P fs C (mark m) λ_=>True:=YM h
theorem WU {r:Nat} (h:C.free r):T P fs C (shape r) λ_=>True:=UH h
theorem QB {a:Addr} {n:Nat} (h:C.free a.block):T P fs C (freeze a n) λ_=>True:=O8 h
theorem Aj (c:Array Value) (t:TypeId):iK C (.cells c t):=⟨⟨rfl,rfl,λ_ _ h=>by cases h⟩,λ_ h=>by cases h⟩
theorem dJ (m:Option Nat) (a:Nat) (s:Array Nat) (b:Nat):iK C (.mapIter m a s b):=⟨⟨rfl,rfl,λ_ _ h=>by cases h⟩,λ_ h=>by cases h⟩
theorem dH (s:ByteArray) (a:Nat):iK C (.stringIter s a):=⟨⟨rfl,rfl,λ_ _ h=>by cases h⟩,λ_ h=>by cases h⟩
theorem dL (es:Array MapEntry) (n:Nat):iK C (.map es n):=⟨⟨rfl,rfl,λ_ _ h=>by cases h⟩,λ_ h=>by cases h⟩
theorem Ko {x:Sem α} {f:α->β} (h:T P fs C x φ) (hf:∀a,φ a->ψ (f a)):T P fs C (Functor.map f x) ψ:=DC h λa ha=>yf (hf a ha)
theorem il {c:Prop} [Decidable c] {x y:Sem α} (h:c->T P fs C x φ) (h':¬c->T P fs C y φ):T P fs C (if c then x else y) φ:=by split<;>simp_all
theorem bS (t:TypeId):T P fs C (typeInfo t) λ_=>True:=by unfold typeInfo;refine dQ rfl ?_;split<;>first|exact bg|exact af
theorem aN (t:TypeId):T P fs C (underlying t) λ_=>True:=by unfold underlying;refine dQ rfl ?_;split<;>first|exact bg|exact af
theorem nS (t:TypeId):T P fs C (zeroValue t) λ_=>True:=by unfold zeroValue;refine tb (bS t) λi _=>?_;split<;>first|exact bg|exact gY
theorem gZ (t:TypeId):T P fs C (sizeOf t) λ_=>True:=tb (bS t) λ_ _=>tp trivial
theorem Ik (t:TypeId):T P fs C (isAgg t) λ_=>True:=by unfold isAgg;refine tb (aN t) λi _=>?_;split<;>exact bg
theorem qM (a:Addr):∀(n i:Nat) (acc:Array Value),T P fs C (loadCellsFrom a i n acc) λ_=>True
 |0,_,_=>bg
 |n+1,i,acc=>tb FP λv _=>qM a n (i+1) (acc.push v)
theorem nT (a:Addr) (n:Nat):T P fs C (loadCells a n) λ_=>True:=qM a n 0 #[]
theorem jO (a:Addr):∀(vs:List Value) (i:Nat),T P fs C (storeCells a vs i) λ_=>True
 |[],_=>bg
 |_::rest,i=>tb WS λ_ _=>jO a rest (i+1)
theorem iZ (t:TypeId) (a:Addr):T P fs C (loadVar t a) λ_=>True:=by
 unfold loadVar;refine tb (Ik t) λb _=>?_;split
 ·exact tb (gZ t) λn _=>tb (nT a n) λ_ _=>tp trivial
 ·exact FP
theorem mi (t:TypeId) (a:Addr) (v:Value):T P fs C (storeVar t a v) λ_=>True:=by
 unfold storeVar;refine tb (gZ t) λn _=>?_;split
 ·exact tb (φ:=λ_=>True) af λ_ _=>jO a _ 0
 ·exact jO a _ 0
theorem rO (e:TypeId) (c:Array Value):T P fs C (newRow e c) λa=>C.free a.block:=tb (Ca (Aj c e)) λ_ h=>tp h
theorem xw (t:TypeId) (v:Value):T P fs C (newVar t v) λa=>C.free a.block:=rO t v.cells
theorem CO (t:TypeId):T P fs C (elemOf t) λ_=>True:=by unfold elemOf;refine tb (aN t) λi _=>?_;split<;>first|exact bg|exact af
theorem kE (t:TypeId) (cs:Array Value) (off:Nat):T P fs C (part t cs off) λ_=>True:=by
 unfold part;refine tb (Ik t) λb _=>?_;split
 ·exact tb (gZ t) λ_ _=>tp trivial
 ·split<;>first|exact bg|exact af
theorem az {α:Type} {φ:α->Prop} (e:RuntimeError):T P fs C (runtimePanic e:Sem α) φ:=by
 unfold runtimePanic;refine dQ rfl ?_;cases e<;>first
  |exact vB
  |exact tb (CO _) λ_ _=>tb (xw _ _) λ_ _=>vB
theorem ER {α:Type} {φ:α->Prop} (k:IntKind) (x y:Int) (c:BoundsCode):T P fs C (boundsPanic k x y c:Sem α) φ:=by
 unfold boundsPanic;dsimp only;split
 ·exact tb (φ:=λ_=>True) (Ko nR λ_ _=>trivial) λ_ _=>az _
 ·exact tb (φ:=λ_=>True) (tp trivial) λ_ _=>az _
theorem FV (v:Value):T P fs C (asIntOf v) λ_=>True:=by unfold asIntOf;split<;>first|exact bg|exact gY|exact af
theorem xA (v:Value):T P fs C (asInt v) λ_=>True:=tb (FV v) λ_ _=>tp trivial
theorem pg (v:Value):T P fs C (asBool v) λ_=>True:=by unfold asBool;split<;>first|exact bg|exact af
theorem aBA (v:Value):T P fs C (asAgg v) λ_=>True:=by unfold asAgg;split<;>first|exact bg|exact af
theorem rQ (v:Value):T P fs C (asAddr v) λ_=>True:=by unfold asAddr;split<;>first|exact bg|exact az _|exact af
theorem FU (n:Nat):T P fs C (askRoom n) λ_=>True:=by unfold askRoom;split<;>first|exact aDB rfl|exact bg
theorem GL {α:Type} {s:Sem α} {φ:α->Prop} (h:T P fs C s φ:=by
 first
  |exact af|exact gY|exact vB|exact FP|exact WS|exact nR
  |exact bS _|exact aN _|exact nS _|exact gZ _|exact Ik _|exact nT _ _|exact jO _ _ _|exact iZ _ _|exact mi _ _ _
  |exact rO _ _|exact xw _ _|exact CO _|exact kE _ _ _|exact az _|exact ER _ _ _ _|exact FV _|exact xA _|exact pg _|exact aE6 _|exact aBA _|exact rQ _|exact FU _
  |exact Ca (dL _ _)|exact Ca (Aj _ _)):T P fs C s φ:=h
theorem xq {α:Type} {s:Sem α} {φ:α->Prop} (h:T P fs C s φ:=by
 repeat' (first
  |(with_reducible refine yT ⟨_,.inl ⟨_,rfl⟩,λ_=>rfl⟩ (λ_ _=>⟨_,.inl ⟨_,rfl⟩,λ_=>rfl⟩) ?_;intro _ _ _)
  |exact fV (dL _ _) (by assumption)|exact fV (dJ _ _ _ _) (by assumption)|exact fV (dH _ _) (by assumption)
  |(refine tb (fV (dL _ _) (by assumption)) ?_;intro _ _)|(refine tb (fV (dJ _ _ _ _) (by assumption)) ?_;intro _ _)|(refine tb (fV (dH _ _) (by assumption)) ?_;intro _ _)
  |exact bg
  |with_reducible exact GL
  |with_reducible exact tt GL
  |(with_reducible refine tb GL ?_;intro _ _)
  |(with_reducible refine tb (φ:=λ_=>True) GL ?_;intro _ _)
  |(with_reducible refine tb (φ:=λ_=>True) (Ko GL λ_ _=>trivial) ?_;intro _ _)
  |(with_reducible refine tb (φ:=λ_=>True) (tp trivial) ?_;intro _ _)
  |with_reducible refine dQ rfl ?_
  |with_reducible exact tp trivial
  |split
  |dsimp only)):T P fs C s φ:=h
end
end Ka
namespace Ka
section
variable {P:Program} {fs:Array Func} {C:Cut} {α β:Type} {φ:α->Prop} {ψ:β->Prop}
theorem CB (op:BinOp) (k:IntKind) (x y:Int):T P fs C (Op.intArith op k x y) λ_=>True:=by unfold Op.intArith;exact xq
theorem Xt (op:BinOp) (k:IntKind) (x y:Int):T P fs C (Op.intDiv op k x y) λ_=>True:=by unfold Op.intDiv;exact xq
theorem FR (op:BinOp) (k:IntKind) (x y:Int):T P fs C (Op.intBits op k x y) λ_=>True:=by unfold Op.intBits;exact xq
theorem aBq (op:BinOp) (k:IntKind) (x:Int) (j:IntKind) (y:Int):T P fs C (Op.shift op k x j y) λ_=>True:=by unfold Op.shift;exact xq
theorem Xu (op:BinOp) (x y:Int):T P fs C (Op.intCmp op x y) λ_=>True:=by unfold Op.intCmp;exact xq
theorem qa (op:BinOp) (x y:ByteArray):T P fs C (Op.stringOp op x y) λ_=>True:=by unfold Op.stringOp;exact xq
theorem aBo (op:UnOp) (x:Value):T P fs C (Op.unary op x) λ_=>True:=by unfold Op.unary;split<;>first|exact CB _ _ _ _|exact FR _ _ _ _|exact xq
theorem aBB (e:TypeId) (h:Bool) (o:Value):T P fs C (Instr.alloc e h o) λ_=>True:=by unfold Instr.alloc;exact xq
theorem mh (v:Value):T P fs C (Instr.sureAddr v) λ_=>True:=by unfold Instr.sureAddr;exact xq
theorem Xr (t:TypeId) (v:Value):T P fs C (Instr.loadAt t v) λ_=>True:=tb (mh v) λ_ _=>iZ _ _
theorem SH (t:TypeId) (v x:Value):T P fs C (Instr.storeAt t v x) λ_=>True:=tb (mh v) λ_ _=>mi _ _ _
theorem GK {α:Type} {s:Sem α} {φ:α->Prop} (h:T P fs C s φ:=by first|exact mh _|exact GL):T P fs C s φ:=h
theorem Cf {α:Type} {s:Sem α} {φ:α->Prop} (h:T P fs C s φ:=by
 repeat' (first
  |(with_reducible refine yT ⟨_,.inl ⟨_,rfl⟩,λ_=>rfl⟩ (λ_ _=>⟨_,.inl ⟨_,rfl⟩,λ_=>rfl⟩) ?_;intro _ _ _)
  |exact fV (dL _ _) (by assumption)|exact fV (dJ _ _ _ _) (by assumption)|exact fV (dH _ _) (by assumption)
  |(refine tb (fV (dL _ _) (by assumption)) ?_;intro _ _)|(refine tb (fV (dJ _ _ _ _) (by assumption)) ?_;intro _ _)|(refine tb (fV (dH _ _) (by assumption)) ?_;intro _ _)
  |exact bg
  |with_reducible exact GK
  |with_reducible exact tt GK
  |(with_reducible refine tb GK ?_;intro _ _)
  |(with_reducible refine tb (φ:=λ_=>True) GK ?_;intro _ _)
  |(with_reducible refine tb (φ:=λ_=>True) (Ko GK λ_ _=>trivial) ?_;intro _ _)
  |(with_reducible refine tb (φ:=λ_=>True) (tp trivial) ?_;intro _ _)
  |with_reducible refine dQ rfl ?_
  |with_reducible exact tp trivial
  |split
  |dsimp only)):T P fs C s φ:=h
theorem SV (t:TypeId) (x i:Value):T P fs C (Instr.indexAt t x i) λ_=>True:=by unfold Instr.indexAt;exact Cf
theorem aI7 (t:TypeId) (v:Value):T P fs C (Instr.box t v) λ_=>True:=by unfold Instr.box;exact Cf
theorem Ip (t:TypeId) (n:Nat) (ps:Array (Nat×Value)):T P fs C (Instr.buildSlice t n ps) λ_=>True:=by unfold Instr.buildSlice;exact Cf
theorem AY (t:TypeId) (x:Value):T P fs C (Instr.makeInterface t x) λ_=>True:=by unfold Instr.makeInterface;exact Cf
theorem Oe (f:Fn) (a b:Array Value):T P fs C (Instr.makeFunc f a b) λ_=>True:=bg
theorem SS (t:TypeId) (r:Option Value):T P fs C (Instr.makeMap t r) λ_=>True:=by unfold Instr.makeMap;exact Cf
theorem Kz (t:TypeId) (a b:Value):T P fs C (Instr.makeSlice t a b) λ_=>True:=by unfold Instr.makeSlice;exact Cf
theorem Ig (x:Value) (y:Nat) (c:BoundsCode):T P fs C (Instr.sliceBound x y c) λ_=>True:=by unfold Instr.sliceBound;exact Cf
theorem GJ {α:Type} {s:Sem α} {φ:α->Prop} (h:T P fs C s φ:=by first|exact Ig _ _ _|exact GK):T P fs C s φ:=h
theorem aI2 {α:Type} {s:Sem α} {φ:α->Prop} (h:T P fs C s φ:=by
 repeat' (first
  |(with_reducible refine yT ⟨_,.inl ⟨_,rfl⟩,λ_=>rfl⟩ (λ_ _=>⟨_,.inl ⟨_,rfl⟩,λ_=>rfl⟩) ?_;intro _ _ _)
  |exact fV (dL _ _) (by assumption)|exact fV (dJ _ _ _ _) (by assumption)|exact fV (dH _ _) (by assumption)
  |(refine tb (fV (dL _ _) (by assumption)) ?_;intro _ _)|(refine tb (fV (dJ _ _ _ _) (by assumption)) ?_;intro _ _)|(refine tb (fV (dH _ _) (by assumption)) ?_;intro _ _)
  |exact bg
  |with_reducible exact GJ
  |with_reducible exact tt GJ
  |(with_reducible refine tb GJ ?_;intro _ _)
  |(with_reducible refine tb (φ:=λ_=>True) GJ ?_;intro _ _)
  |(with_reducible refine tb (φ:=λ_=>True) (Ko GJ λ_ _=>trivial) ?_;intro _ _)
  |(with_reducible refine tb (φ:=λ_=>True) (tp trivial) ?_;intro _ _)
  |with_reducible refine dQ rfl ?_
  |with_reducible exact tp trivial
  |split
  |dsimp only)):T P fs C s φ:=h
theorem uQ (b:Bool) (l c:Nat) (x y z:Option Value):T P fs C (Instr.sliceBounds b l c x y z) λ_=>True:=by unfold Instr.sliceBounds;exact aI2
theorem GI {α:Type} {s:Sem α} {φ:α->Prop} (h:T P fs C s φ:=by first|exact uQ _ _ _ _ _ _|exact GJ):T P fs C s φ:=h
theorem qL {α:Type} {s:Sem α} {φ:α->Prop} (h:T P fs C s φ:=by
 repeat' (first
  |(with_reducible refine yT ⟨_,.inl ⟨_,rfl⟩,λ_=>rfl⟩ (λ_ _=>⟨_,.inl ⟨_,rfl⟩,λ_=>rfl⟩) ?_;intro _ _ _)
  |exact fV (dL _ _) (by assumption)|exact fV (dJ _ _ _ _) (by assumption)|exact fV (dH _ _) (by assumption)
  |(refine tb (fV (dL _ _) (by assumption)) ?_;intro _ _)|(refine tb (fV (dJ _ _ _ _) (by assumption)) ?_;intro _ _)|(refine tb (fV (dH _ _) (by assumption)) ?_;intro _ _)
  |exact bg
  |with_reducible exact GI
  |with_reducible exact tt GI
  |(with_reducible refine tb GI ?_;intro _ _)
  |(with_reducible refine tb (φ:=λ_=>True) GI ?_;intro _ _)
  |(with_reducible refine tb (φ:=λ_=>True) (Ko GI λ_ _=>trivial) ?_;intro _ _)
  |(with_reducible refine tb (φ:=λ_=>True) (tp trivial) ?_;intro _ _)
  |with_reducible refine dQ rfl ?_
  |with_reducible exact tp trivial
  |split
  |dsimp only)):T P fs C s φ:=h
theorem aBp (t:TypeId) (v:Value) (x y z:Option Value):T P fs C (Instr.slice t v x y z) λ_=>True:=by unfold Instr.slice;exact qL
theorem aBw (t:TypeId) (v:Value) (i:Nat):T P fs C (Instr.field t v i) λ_=>True:=by unfold Instr.field;exact qL
theorem aBv (t:TypeId) (x i:Value):T P fs C (Instr.index t x i) λ_=>True:=by unfold Instr.index;exact qL
theorem SY (x:Value) (i:Nat):T P fs C (Instr.extract x i) λ_=>True:=by unfold Instr.extract;exact qL
theorem Oh (k:IntKind) (n:Int):T P fs C (Conv.intToInt k n) λ_=>True:=bg
theorem EO (n:Int):T P fs C (Conv.intToString n) λ_=>True:=bg
theorem Ic (x:Value) (t u:TypeId) (c:Bool):T P fs C (Instr.typeAssert x t u c) λ_=>True:=by unfold Instr.typeAssert;exact qL
theorem aBs (t:TypeId) (x:Value):T P fs C (Instr.range t x) λ_=>True:=by
 unfold Instr.range;refine tb (aN t) λd _=>?_;dsimp only;split
 ·exact tb (φ:=iK C) (tp (dH _ _)) λo ho=>tb (Ca ho) λ_ _=>bg
 ·exact tb (φ:=iK C) (tp (dJ _ _ _ _)) λo ho=>tb (Ca ho) λ_ _=>bg
 ·refine yT ⟨_,.inl ⟨_,rfl⟩,λ_=>rfl⟩ (λ_ _=>⟨_,.inl ⟨_,rfl⟩,λ_=>rfl⟩) λ_ o _=>?_;split
  ·exact tb (φ:=iK C) (tp (dJ _ _ _ _)) λo ho=>tb (Ca ho) λ_ _=>bg
  ·exact tb (φ:=iK C) af λo ho=>tb (Ca ho) λ_ _=>bg
 ·exact tb (φ:=iK C) af λo ho=>tb (Ca ho) λ_ _=>bg
theorem aBx (x:Value):T P fs C (Instr.entry x) λ_=>True:=by unfold Instr.entry;exact qL
theorem aE2 (x:Value) (b:Bool) (t:TypeId):T P fs C (Instr.next x b t) λ_=>True:=by unfold Instr.next;exact qL
theorem aI6 (a:Array TypeId) (t:TypeId) (x:Array Value):T P fs C (Builtin.len_ a t x) λ_=>True:=by unfold Builtin.len_;exact qL
end
end Ka
namespace Ka
def sg (w:World) (a:Addr):Bool:=w.frozen? a||match w.shape? a.block with
 |some (_,n)=>w.frozen? {block:=a.block,off:=n}
 |none=>false
def em (w:World) (a:Addr):Bool:=match w.shape? a.block with
 |some (_,0)=>true
 |_=>false
def mb (w:World) (a b:Addr):Bool:=(sg w a&&sg w b)||(sg w a&&em w a)||(sg w b&&em w b)
def nv (w:World) (a:Addr):Option (Array Event):=match w.shape? a.block,w.heap[a.block]? with
 |some _,_=>some #[]
 |none,some (.view ..)=>none
 |none,some o=>some #[⟨.obj a.block,false,o.isChan⟩]
 |none,none=>none
theorem jF (p:Program) (w:World) (a:Addr) (es:Array Event):(frozen a).runT p w es=(.ok (w.frozen? a) w,es):=rfl
theorem kF (p:Program) (w:World) (r:Nat) (es:Array Event):(shape r).runT p w es=(.ok (w.shape? r) w,es):=rfl
theorem bZ {α β:Type} (p:Program) (x:Sem α) (f:α->Sem β) (w:World) (es:Array Event):(x >>= f).runT p w es=match x.runT p w es with
 |(.ok a w',qY)=>(f a).runT p w' qY
 |(.halt h w',qY)=>(.halt h w',qY):=Sem.runT_bind' p x f w es
theorem fQ {α:Type} (p:Program) (a:α) (w:World) (es:Array Event):(pure a:Sem α).runT p w es=(.ok a w,es):=rfl
theorem CV (p:Program) (w:World) (a:Addr) (es:Array Event):(stringish a).runT p w es=(.ok (sg w a) w,es):=by
 unfold stringish sg;rw [bZ,jF];dsimp only;cases hf:w.frozen? a with
 |true=>simp [fQ]
 |false=>
  simp only [Bool.false_eq_true,if_false,bZ,kF,Bool.false_or];cases hs:w.shape? a.block with
  |none=>simp [fQ]
  |some x=>obtain ⟨t,n⟩:=x;simp [jF]
theorem Fe (p:Program) (w:World) (a b:Addr) (es:Array Event):(mayBeOne a b).runT p w es=(.ok (mb w a b) w,es):=by
 unfold mayBeOne mb;simp only [bZ,CV];simp only [kF,fQ,em];cases h1:w.shape? a.block with
 |none=>
  cases h2:w.shape? b.block with
  |none=>rfl
  |some y=>obtain ⟨t,n⟩:=y;cases n<;>rfl
 |some x=>
  obtain ⟨t,n⟩:=x;cases h2:w.shape? b.block with
  |none=>cases n<;>rfl
  |some y=>obtain ⟨t,m⟩:=y;cases m<;>cases n<;>rfl
theorem oh (p:Program) (w:World) (r:Nat) (es:Array Event):(getObj r).runT p w es=match w.heap[r]? with
 |some (.cells ..)=>(.halt (.stuck "getObj: a row of cells") w,es)
 |some o=>(.ok o w,es.push ⟨.obj r,false,o.isChan⟩)
 |none=>(.halt (.stuck "getObj: no such block") w,es):=by
 unfold getObj;simp only [Sem.runT];cases w.heap[r]? with
 |none=>rfl
 |some o=>cases o<;>rfl
theorem zn (p:Program) (w:World) (a:Addr) (es:Array Event) {ev:Array Event} (h:nv w a=some ev):(noView a).runT p w es=(.ok () w,es++ev):=by
 unfold noView viewAt;unfold nv at h;simp only [bZ,kF];cases hs:w.shape? a.block with
 |some x=>rw [hs] at h;cases h;simp [fQ]
 |none=>
  rw [hs] at h;simp only [Option.isSome_none,Bool.false_eq_true,if_false,bZ,oh];cases hh:w.heap[a.block]? with
  |none=>rw [hh] at h;cases h
  |some o=>
   rw [hh] at h;cases o with
   |cells c t f=>simp [World.shape?,hh] at hs
   |view b t=>cases h
   |_=>cases h;simp only [fQ,Array.push_eq_append];rfl
theorem Ai (w:World) (p:Program) (a:Addr) (es:Array Event) (h:nv w a=none):∃e qY,((∃x,e=.stuck x)\/∃x,e=.unsupported x)/\∀τ d,(noView a).runT p (re w τ d) es=(.halt e (re w τ d),qY):=by
 unfold noView viewAt;unfold nv at h;simp only [bZ,kF];have hre:∀τ d,(re w τ d).shape? a.block=w.shape? a.block:=λ_ _=>rfl;have hrh:∀τ d,(re w τ d).heap[a.block]? =w.heap[a.block]? :=λ_ _=>rfl;simp only [hre];cases hs:w.shape? a.block with
 |some x=>rw [hs] at h;cases h
 |none=>
  rw [hs] at h;simp only [Option.isSome_none,Bool.false_eq_true,if_false,bZ,oh,hrh];cases hh:w.heap[a.block]? with
  |none=>exact ⟨_,_,.inl ⟨_,rfl⟩,λ_ _=>rfl⟩
  |some o=>
   rw [hh] at h;cases o with
   |cells c t f=>simp [World.shape?,hh] at hs
   |view b t=>exact ⟨_,_,.inr ⟨_,rfl⟩,λ_ _=>rfl⟩
   |_=>cases h
theorem bX {α:Type} {p:Program} {s:Sem α} {w:World} {r:Result α} {es:Array Event} (h:s.runT p w #[]=(r,es)):s.run p w=r:=by have:=congrArg Prod.fst h;simpa using this
theorem kS (w:World) (τ:Nat->Question->Nat) (d:Nat) (r:Nat):(re w τ d).shape? r=w.shape? r:=rfl
theorem zL (w:World) (τ:Nat->Question->Nat) (d:Nat) (a:Addr):(re w τ d).frozen? a=w.frozen? a:=rfl
theorem aJu (w:World) (τ:Nat->Question->Nat) (d:Nat) (a:Addr):nv (re w τ d) a=nv w a:=rfl
theorem aJz (w:World) (τ:Nat->Question->Nat) (d:Nat) (a b:Addr):mb (re w τ d) a b=mb w a b:=rfl
section
variable {C:Cut}
theorem Vw.cases {wv wa:World} (h:Vw C wv wa) (r:Nat):(C.free r/\wv.heap[r]? =wa.heap[r]?)\/(C.ch r=true/\wv.heap[r]? =some (vz C r)/\∃o,wa.heap[r]? =some o/\wL C r o)\/
 (C.ch r=false/\∃n cv ca t,C.hd r=some n/\wv.heap[r]? =some (.cells cv t (C.fz r))/\wa.heap[r]? =some (.cells ca t (0,0))/\cv.size=n/\n<=ca.size/\C.ty t):=by
 cases hq:C.ch r with
 |true=>exact .inr (.inl ⟨rfl,h.chan r hq⟩)
 |false=>
  cases hb:C.hd r with
  |none=>exact .inl ⟨⟨hb,hq⟩,h.same r ⟨hb,hq⟩⟩
  |some n=>obtain ⟨cv,ca,t,h1,e1,h2,e2,_,e3⟩:=h.cut r n hb;exact .inr (.inr ⟨rfl,n,cv,ca,t,rfl,h1,e1,h2,e2,e3⟩)
theorem kG {w:World} {r:Nat} {o:Obj} (ho:w.heap[r]? =some o) (hc:aFm o=true):w.shape? r=none:=by simp only [World.shape?,ho];cases o<;>first|rfl|cases hc
theorem uA {wv wa:World} (h:Vw C wv wa) (a:Addr) (hf:wa.frozen? a=true):wv.frozen? a=true:=by
 unfold World.frozen? at hf ⊢;rcases h.cases a.block with ⟨_,e⟩|⟨_,_,o,ho,hc⟩|⟨_,n,cv,ca,t,_,_,e1,_⟩
 ·rw [e];exact hf
 ·rw [ho] at hf;have hc:=hc.off;cases o<;>first|cases hf|cases hc
 ·rw [e1] at hf;simp at hf
theorem QN {wv wa:World} (h:Vw C wv wa) (a:Addr) (hf:sg wa a=true):sg wv a=true:=by
 unfold sg at hf ⊢;rcases Bool.or_eq_true _ _ |>.mp hf with x|x
 ·rw [uA h a x];rfl
 ·rcases h.cases a.block with ⟨_,e⟩|⟨_,_,o,ho,hc⟩|⟨_,n,cv,ca,t,_,_,e1,_⟩
  ·have e:wv.shape? a.block=wa.shape? a.block:=by simp only [World.shape?,e]
   rw [e];cases hs:wa.shape? a.block with
   |none=>rw [hs] at x;cases x
   |some y=>obtain ⟨t,n⟩:=y;rw [hs] at x;simp only [uA h _ x,Bool.or_true]
  ·rw [kG ho hc.off] at x;cases x
  ·have:wa.shape? a.block=some (t,ca.size):=by simp only [World.shape?,e1]
   rw [this] at x;simp only [World.frozen?,e1] at x;simp at x
theorem aEw {wv wa:World} (h:Vw C wv wa) (a:Addr) (hf:em wa a=true):em wv a=true:=by
 unfold em at hf ⊢;rcases h.cases a.block with ⟨_,e⟩|⟨_,_,o,ho,hc⟩|⟨_,n,cv,ca,t,_,h1,e1,h2,e2,_⟩
 ·have e:wv.shape? a.block=wa.shape? a.block:=by simp only [World.shape?,e]
  rw [e];exact hf
 ·rw [kG ho hc.off] at hf;cases hf
 ·have hw:wv.shape? a.block=some (t,cv.size):=by simp only [World.shape?,h1]
  have:wa.shape? a.block=some (t,ca.size):=by simp only [World.shape?,e1]
  rw [hw];rw [this] at hf;cases hz:ca.size with
  |zero=>rw [show cv.size=0 from by omega];rfl
  |succ k=>rw [hz] at hf;cases hf
theorem aJy {wv wa:World} (h:Vw C wv wa) (a b:Addr) (hf:mb wa a b=true):mb wv a b=true:=by
 unfold mb at hf ⊢;simp only [Bool.or_eq_true,Bool.and_eq_true] at hf ⊢;rcases hf with (⟨x,y⟩|⟨x,y⟩)|⟨x,y⟩
 ·exact .inl (.inl ⟨QN h a x,QN h b y⟩)
 ·exact .inl (.inr ⟨QN h a x,aEw h a y⟩)
 ·exact .inr ⟨QN h b x,aEw h b y⟩
theorem aDI {wv wa:World} (h:Vw C wv wa) (a:Addr) {ev:Array Event} (hf:nv wv a=some ev):∃Jy,nv wa a=some Jy/\∀e∈Jy,oQ C e:=by
 unfold nv at hf ⊢;rcases h.cases a.block with ⟨u6,e⟩|⟨gN,h1,o,ho,hc⟩|⟨gN,n,cv,ca,t,_,h1,e1,h2,e2,_⟩
 ·have e':wa.shape? a.block=wv.shape? a.block:=by simp only [World.shape?,e]
  rw [e',<-e];refine ⟨ev,hf,λx hx=>?_⟩;cases hs:wv.shape? a.block with
  |some y=>rw [hs] at hf;cases hf;simp at hx
  |none=>
   rw [hs] at hf;cases ho:wv.heap[a.block]? with
   |none=>rw [ho] at hf;cases hf
   |some o=>
    rw [ho] at hf;cases o<;>first
     |(cases hf;simp only [List.mem_toArray,List.mem_singleton] at hx;subst hx;exact .inl u6.2)
     |cases hf
 ·rw [kG ho hc.off,ho];rcases iA C a.block with ⟨hx,e⟩|⟨_,e⟩
  ·have hc:o.isChan=true:=by unfold wL at hc;rw [hx] at hc;exact hc
   cases o<;>first
    |cases hc;done
    |refine ⟨_,rfl,λx hx=>?_⟩
     simp only [List.mem_toArray,List.mem_singleton] at hx;subst hx;exact .inr ⟨rfl,.inl rfl⟩
  ·rw [e] at h1;rw [h1,show wv.shape? a.block=none from by simp only [World.shape?,h1]] at hf;cases hf
 ·have:wa.shape? a.block=some (t,ca.size):=by simp only [World.shape?,e1]
  rw [this];exact ⟨#[],rfl,by simp⟩
end
section
variable {P Q:Program} {C:Cut}
theorem uT (p:Program) (w:World) (a b:Addr) (es ev Jy:Array Event) (bA:(a.block==b.block)=false) (hf:(w.frozen? a&&w.frozen? b)=false) (h1:nv w a=some ev) (h2:nv w b=some Jy):
 (sameAddr a b).runT p w es=bif mb w a b then ((choose (.extern "sameAddr.stringBytes" 2)) >>= λn=>pure (n==1)).runT p w (es++ev++Jy) else (.ok false w,es++ev++Jy):=by
 unfold sameAddr;simp only [bA,Bool.false_eq_true,if_false,bZ,jF,fQ,hf,zn p w a es h1,zn p w b _ h2,Fe];cases mb w a b<;>rfl
theorem yc (a b:Addr):Loc P Q C (sameAddr a b) λ_=>True:=λwv wa hv=>by
 cases VS:a.block==b.block with
 |true=>
  have e:sameAddr a b=pure (a==b):=by unfold sameAddr;simp [VS]
  rw [e];exact yf trivial wv wa hv
 |false=>
  cases hf:(wv.frozen? a&&wv.frozen? b) with
  |true=>refine ⟨0,λ_ _=>0,.halt (.unsupported .addressObserved) wv,λτ' d _=>bX (es:=#[]) ?_,trivial⟩;unfold sameAddr;simp only [VS,Bool.false_eq_true,if_false,bZ,jF,fQ,zL,hf,if_true];rfl
  |false=>
   have hfa:(wa.frozen? a&&wa.frozen? b)=false:=by rw [<-Bool.not_eq_true] at hf ⊢;intro x;simp only [Bool.and_eq_true] at x;exact hf (by rw [uA hv a x.1,uA hv b x.2];rfl)
   cases h1:nv wv a with
   |none=>obtain ⟨e,qY,he,hd⟩:=Ai wv Q a #[] h1;refine ⟨0,λ_ _=>0,.halt e wv,λτ' d _=>bX (es:=qY) ?_,by rcases he with ⟨x,rfl⟩|⟨x,rfl⟩<;>trivial⟩;unfold sameAddr;simp only [VS,Bool.false_eq_true,if_false,bZ,jF,fQ,zL,hf,hd];rfl
   |some ev=>
    cases h2:nv wv b with
    |none=>obtain ⟨e,qY,he,hd⟩:=Ai wv Q b (#[]++ev) h2;refine ⟨0,λ_ _=>0,.halt e wv,λτ' d _=>bX (es:=qY) ?_,by rcases he with ⟨x,rfl⟩|⟨x,rfl⟩<;>trivial⟩;unfold sameAddr;simp only [VS,Bool.false_eq_true,if_false,bZ,jF,fQ,zL,hf,zn Q (re wv τ' d) a _ (by rw [aJu];exact h1),hd];rfl
    |some Jy=>
     obtain ⟨eva,ha1,vZ⟩:=aDI hv a h1;obtain ⟨evb,ll,gQ⟩:=aDI hv b h2;have oU:∀e∈eva++evb,oQ C e:=λe he=>(Array.mem_append.1 he).elim (vZ e) (gQ e);have lone:∀τ' d,(sameAddr a b).runT Q (re wv τ' d) #[]=_:=λτ' d=>uT Q (re wv τ' d) a b #[] ev Jy VS hf h1 h2;have WW:∀jH,(sameAddr a b).runT P wa jH=_:=λjH=>uT P wa a b jH eva evb VS hfa ha1 ll;simp only [aJz] at lone;cases hm:mb wv a b with
     |false=>
      have hma:mb wa a b=false:=by
       cases x:mb wa a b with
       |false=>rfl
       |true=>rw [aJy hv a b x] at hm;cases hm
      refine ⟨0,λ_ _=>0,.ok false wv,λτ' d _=>bX (es:=#[]++ev++Jy) ?_,trivial,wa,eva++evb,λjH=>?_,hv,Hid.refl C wa,oU⟩
      ·rw [lone,hm];rfl
      ·rw [WW,hma,Array.append_assoc];rfl
     |true=>
      cases hma:mb wa a b with
      |false=>
       refine ⟨1,λ_ _=>0,.ok false wv,λτ' d ht=>bX (es:=#[]++ev++Jy) ?_,trivial,wa,eva++evb,λjH=>?_,hv,Hid.refl C wa,oU⟩
       ·have:=ht 0 (.extern "sameAddr.stringBytes" 2) (by omega);rw [lone,hm,cond_true,bZ];simp only [choose,Sem.runT,Question.forced];simp [re,JW,Question.cut,fQ] at this ⊢;simp [this]
       ·rw [WW,hma,Array.append_assoc];rfl
      |true=>
       refine ⟨1,λ_=>wa.tape wa.drawn,.ok ((Question.extern "sameAddr.stringBytes" 2).cut (wa.tape wa.drawn (.extern "sameAddr.stringBytes" 2))==1) wv,λτ' d ht=>bX (es:=#[]++ev++Jy) ?_,trivial,{wa with drawn:=wa.drawn+1},eva++evb,λjH=>?_,hv.drawn _,Hid.drawn wa _,oU⟩
       ·have:=ht 0 (.extern "sameAddr.stringBytes" 2) (by omega);rw [lone,hm,cond_true,bZ];simp only [choose,Sem.runT,Question.forced];simp [re,JW,Question.cut,fQ] at this ⊢;simp [this]
       ·rw [WW,hma,cond_true,bZ,Array.append_assoc];simp only [choose,Sem.runT,Question.forced];simp [fQ]
end
end Ka
namespace Ka
section
variable {P:Program} {fs:Array Func} {C:Cut} {α β:Type} {φ:α->Prop} {ψ:β->Prop}
theorem CF {γ:Type} {f:γ->β->Sem (ForInStep β)} (hf:∀a b,T P fs C (f a b) λ_=>True):∀(l:List γ) (b:β),T P fs C (forIn l b f) λ_=>True
 |[],b=>by simp only [List.forIn_nil];exact bg
 |a::l,b=>by
  simp only [List.forIn_cons];refine tb (hf a b) λs _=>?_;cases s with
  |done b=>exact bg
  |yield b=>exact CF hf l b
theorem o5 {γ:Type} {f:γ->β->Sem (ForInStep β)} (hf:∀a b,T P fs C (f a b) λ_=>True) (l:Array γ) (b:β):T P fs C (forIn l b f) λ_=>True:=by rw [<-Array.forIn_toList];exact CF hf _ _
theorem CE {f:Nat->β->Sem (ForInStep β)} (hf:∀a b,T P fs C (f a b) λ_=>True) (r:Std.Legacy.Range) (b:β):T P fs C (forIn r b f) λ_=>True:=by rw [Std.Legacy.Range.forIn_eq_forIn_range'];exact CF hf _ _
end
section
variable {P:Program} {fs:Array Func} {C:Cut} {α β:Type} {φ:α->Prop} {ψ:β->Prop}
theorem dz (p:Program) (w:World) (r:Nat) (es:Array Event):(numberAt r).runT p w es=match w.shape? r,w.heap[r]? with
 |some _,_=>(.ok none w,es)
 |none,some (.number a l)=>(.ok (some (a,l)) w,es.push ⟨.obj r,false,false⟩)
 |none,some o=>(.ok none w,es.push ⟨.obj r,false,o.isChan⟩)
 |none,none=>(.halt (.stuck "getObj: no such block") w,es):=by
 unfold numberAt;simp only [bZ,kF];cases hs:w.shape? r with
 |some x=>rfl
 |none=>
  simp only [Option.isSome_none,Bool.false_eq_true,if_false,bZ,oh];cases ho:w.heap[r]? with
  |none=>rfl
  |some o=>
   cases o with
   |cells c t f=>simp [World.shape?,ho] at hs
   |_=>rfl
theorem fB (p:Program) (w:World) (r:Nat) (es:Array Event):(viewAt r).runT p w es=match w.shape? r,w.heap[r]? with
 |some _,_=>(.ok none w,es)
 |none,some (.view a l)=>(.ok (some (a,l)) w,es.push ⟨.obj r,false,false⟩)
 |none,some o=>(.ok none w,es.push ⟨.obj r,false,o.isChan⟩)
 |none,none=>(.halt (.stuck "getObj: no such block") w,es):=by
 unfold viewAt;simp only [bZ,kF];cases hs:w.shape? r with
 |some x=>rfl
 |none=>
  simp only [Option.isSome_none,Bool.false_eq_true,if_false,bZ,oh];cases ho:w.heap[r]? with
  |none=>rfl
  |some o=>
   cases o with
   |cells c t f=>simp [World.shape?,ho] at hs
   |_=>rfl
theorem qz {C:Cut} {wv:World} {r:Nat} (h:wv.heap[r]? =some (vz C r)):wv.shape? r=none:=by simp only [World.shape?,h];rcases iA C r with ⟨_,e⟩|⟨_,e⟩<;>rw [e]<;>rfl
theorem yg (r:Nat):T P fs C (numberAt r) λ_=>True:=λwv wa hv=>by
 rcases hv.cases r with ⟨u6,e⟩|⟨gN,h1,o,ho,hc⟩|⟨gN,n,cv,ca,t,_,h1,e1,h2,e2,_⟩
 ·have e':wa.shape? r=wv.shape? r:=by simp only [World.shape?,e]
  have key:∀x es,(∀(w:World),w.heap[r]? =wa.heap[r]? ->w.shape? r=wa.shape? r->(numberAt r).runT (Pf P fs) w #[]=(.ok x w,es))->(∀jH,(numberAt r).runT P wa jH=(.ok x wa,jH++es))->(∀e∈es,oQ C e)->∃(k:Nat) (τ:Nat->Question->Nat) (r':Result _),(∀τ' d,(∀i q,i<k->τ' (d+i) q=τ i q)->(numberAt r).run (Pf P fs) (re wv τ' d)=JW r' τ' (d+k))/\Hz P C (numberAt r) (λ_=>True) wa r':=λx es h1 h2 h3=>
   ⟨0,λ_ _=>0,.ok x wv,λτ' d _=>bX (h1 (re wv τ' d) e e'.symm),trivial,wa,es,h2,hv,Hid.refl C wa,h3⟩
  cases hs:wa.shape? r with
  |some x=>exact key none #[] (λw h1 h2=>by rw [dz,h2,hs]) (λjH=>by rw [dz,hs,Array.append_empty]) (by simp)
  |none=>
   cases ho:wa.heap[r]? with
   |none=>exact ⟨0,λ_ _=>0,.halt (.stuck "getObj: no such block") wv,λτ' d _=>bX (es:=#[]) (by rw [dz,kS,<-e',hs,show (re wv τ' d).heap[r]? =none from e.trans ho];rfl),trivial⟩
   |some o=>
    have vX:∀b,oQ C ⟨.obj r,false,b⟩:=λb=>.inl u6.2;by_cases Fw:∃a l,o=.number a l
    ·obtain ⟨a,l,rfl⟩:=Fw;exact key (some (a,l)) #[⟨.obj r,false,false⟩] (λw h1 h2=>by rw [dz,h2,hs,h1,ho];rfl) (λjH=>by rw [dz,hs,ho,Array.push_eq_append]) (by simp [vX])
    ·refine key none #[⟨.obj r,false,o.isChan⟩] (λw h1 h2=>?_) (λjH=>?_) (by simp [vX])
     ·rw [dz,h2,hs,h1,ho];cases o<;>first|rfl|exact absurd ⟨_,_,rfl⟩ Fw
     ·rw [dz,hs,ho];cases o<;>first|exact absurd ⟨_,_,rfl⟩ Fw|exact congrArg (Prod.mk _) Array.push_eq_append
 ·refine ⟨0,λ_ _=>0,.ok none wv,λτ' d _=>bX (es:=#[⟨.obj r,false,false⟩]) ?_,trivial,wa,#[⟨.obj r,false,o.isChan⟩],λjH=>?_,hv,Hid.refl C wa,λe he=>?_⟩
  ·rw [dz,kS,qz h1,show (re wv τ' d).heap[r]? =some (vz C r) from h1];rcases iA C r with ⟨_,e⟩|⟨_,e⟩<;>rw [e]<;>rfl
  ·have hc:=hc.off;rw [dz,kG ho hc,ho];cases o<;>first|cases hc;done|exact congrArg (Prod.mk _) Array.push_eq_append
  ·simp only [List.mem_toArray,List.mem_singleton] at he;subst he;exact .inr ⟨rfl,hc.ev⟩
 ·refine ⟨0,λ_ _=>0,.ok none wv,λτ' d _=>bX (es:=#[]) ?_,trivial,wa,#[],λjH=>?_,hv,Hid.refl C wa,by simp⟩
  ·rw [dz,kS,show wv.shape? r=some (t,cv.size) from by simp only [World.shape?,h1]];rfl
  ·rw [dz,show wa.shape? r=some (t,ca.size) from by simp only [World.shape?,e1],Array.append_empty]
theorem O5 (r:Nat) (Mw:C.ch r=true->C.lq r=none):T P fs C (viewAt r) λ_=>True:=λwv wa hv=>by
 rcases hv.cases r with ⟨u6,e⟩|⟨gN,h1,o,ho,hc⟩|⟨gN,n,cv,ca,t,_,h1,e1,h2,e2,_⟩
 ·have e':wa.shape? r=wv.shape? r:=by simp only [World.shape?,e]
  have key:∀x es,(∀(w:World),w.heap[r]? =wa.heap[r]? ->w.shape? r=wa.shape? r->(viewAt r).runT (Pf P fs) w #[]=(.ok x w,es))->(∀jH,(viewAt r).runT P wa jH=(.ok x wa,jH++es))->(∀e∈es,oQ C e)->∃(k:Nat) (τ:Nat->Question->Nat) (r':Result _),(∀τ' d,(∀i q,i<k->τ' (d+i) q=τ i q)->(viewAt r).run (Pf P fs) (re wv τ' d)=JW r' τ' (d+k))/\Hz P C (viewAt r) (λ_=>True) wa r':=λx es h1 h2 h3=>
   ⟨0,λ_ _=>0,.ok x wv,λτ' d _=>bX (h1 (re wv τ' d) e e'.symm),trivial,wa,es,h2,hv,Hid.refl C wa,h3⟩
  cases hs:wa.shape? r with
  |some x=>exact key none #[] (λw h1 h2=>by rw [fB,h2,hs]) (λjH=>by rw [fB,hs,Array.append_empty]) (by simp)
  |none=>
   cases ho:wa.heap[r]? with
   |none=>exact ⟨0,λ_ _=>0,.halt (.stuck "getObj: no such block") wv,λτ' d _=>bX (es:=#[]) (by rw [fB,kS,<-e',hs,show (re wv τ' d).heap[r]? =none from e.trans ho];rfl),trivial⟩
   |some o=>
    have vX:∀b,oQ C ⟨.obj r,false,b⟩:=λb=>.inl u6.2;have Fw:¬∃a l,o=.view a l:=by rintro ⟨a,l,rfl⟩;have:=(hv.plain r _ (e.trans ho) u6.2).1;simp [rU] at this
    refine key none #[⟨.obj r,false,o.isChan⟩] (λw h1 h2=>?_) (λjH=>?_) (by simp [vX])
    ·rw [fB,h2,hs,h1,ho];cases o<;>first|rfl|exact absurd ⟨_,_,rfl⟩ Fw
    ·rw [fB,hs,ho];cases o<;>first|exact absurd ⟨_,_,rfl⟩ Fw|exact congrArg (Prod.mk _) Array.push_eq_append
 ·refine ⟨0,λ_ _=>0,.ok none wv,λτ' d _=>bX (es:=#[⟨.obj r,false,false⟩]) ?_,trivial,wa,#[⟨.obj r,false,o.isChan⟩],λjH=>?_,hv,Hid.refl C wa,λe he=>?_⟩
  ·rw [fB,kS,qz h1,show (re wv τ' d).heap[r]? =some (vz C r) from h1];unfold vz;rw [Mw gN];rfl
  ·have hc:o.isChan=true:=by unfold wL at hc;rw [Mw gN] at hc;exact hc
   rw [fB,kG ho (by cases o<;>first|rfl|cases hc),ho];cases o<;>first|cases hc;done|exact congrArg (Prod.mk _) Array.push_eq_append
  ·simp only [List.mem_toArray,List.mem_singleton] at he;subst he;exact .inr ⟨rfl,hc.ev⟩
 ·refine ⟨0,λ_ _=>0,.ok none wv,λτ' d _=>bX (es:=#[]) ?_,trivial,wa,#[],λjH=>?_,hv,Hid.refl C wa,by simp⟩
  ·rw [fB,kS,show wv.shape? r=some (t,cv.size) from by simp only [World.shape?,h1]];rfl
  ·rw [fB,show wa.shape? r=some (t,ca.size) from by simp only [World.shape?,e1],Array.append_empty]
theorem dZ (a:Addr):T P fs C (behindNumber a) λ_=>True:=tb (yg _) λ_ _=>tp trivial
theorem QC {r:Nat} {f:Option (Addr×TypeId)->Sem α} (hs:∀x,∃u,f (some x)=unsupported u) (hn:T P fs C (f none) φ):T P fs C (viewAt r >>= f) φ:=by
 by_cases Mw:C.ch r=true->C.lq r=none
 ·refine tb (O5 r Mw) λx _=>?_;cases x with
  |none=>exact hn
  |some x=>obtain ⟨u,e⟩:=hs x;rw [e];exact gY
 ·intro wv wa hv;have gN:C.ch r=true:=by
   cases e:C.ch r with
   |true=>rfl
   |false=>exact absurd (λe'=>by rw [e] at e';cases e') Mw
  have h1:=(hv.chan r gN).1;rcases iA C r with ⟨e,_⟩|⟨_,e⟩
  ·exact absurd (λ_=>e) Mw
  ·rw [e] at h1;obtain ⟨u,hu⟩:=hs (⟨r,0,none⟩,0);refine ⟨0,λ_ _=>0,.halt (.unsupported u) wv,λτ' d _=>bX (es:=#[⟨.obj r,false,false⟩]) ?_,trivial⟩;rw [bZ,fB,kS,show wv.shape? r=none from by simp only [World.shape?,h1],show (re wv τ' d).heap[r]? =some (.view ⟨r,0,none⟩ 0) from h1];show (f (some (⟨r,0,none⟩,0))).runT (Pf P fs) (re wv τ' d) _=_;rw [hu];rfl
theorem Xn (a:Addr):T P fs C (noView a) λ_=>True:=by unfold noView;refine QC (λx=>⟨_,rfl⟩) bg
theorem yU {r:Nat} {f:Option (TypeId×Nat)->Sem α} (hn:T P fs C (f none) φ) (hs:∀t n,T P fs C (f (some (t,n))) φ)
 (hd:C.ch r=false->∀m,C.hd r=some m->∀t n,m<=n->C.ty t->Loc P (Pf P fs) C (f (some (t,m))) φ->∀wv wa,Vw C wv wa->∃(k:Nat) (τ:Nat->Question->Nat) (r':Result α),(∀τ' d,(∀i q,i<k->τ' (d+i) q=τ i q)->(f (some (t,m))).run (Pf P fs) (re wv τ' d)=JW r' τ' (d+k))/\Hz P C (f (some (t,n))) φ wa r'):T P fs C (shape r >>= f) φ:=λwv wa hv=>by
 have eT:∀es,(shape r >>= f).runT P wa es=(f (wa.shape? r)).runT P wa es:=λes=>rfl;have eV:∀τ' d,(shape r >>= f).run (Pf P fs) (re wv τ' d)=(f (wv.shape? r)).run (Pf P fs) (re wv τ' d):=λτ' d=>rfl;have conv:∀x y,wv.shape? r=x->wa.shape? r=y->(∃(k:Nat) (τ:Nat->Question->Nat) (r':Result α),(∀τ' d,(∀i q,i<k->τ' (d+i) q=τ i q)->(f x).run (Pf P fs) (re wv τ' d)=JW r' τ' (d+k))/\Hz P C (f y) φ wa r')->∃(k:Nat) (τ:Nat->Question->Nat) (r':Result α),(∀τ' d,(∀i q,i<k->τ' (d+i) q=τ i q)->(shape r >>= f).run (Pf P fs) (re wv τ' d)=JW r' τ' (d+k))/\Hz P C (shape r >>= f) φ wa r':=by
  rintro x y hx hy ⟨k,τ,r',h1,h2⟩;refine ⟨k,τ,r',λτ' d ht=>by rw [eV,hx,h1 τ' d ht],?_⟩;cases r' with
  |ok a w=>obtain ⟨ha,bO,es,e1,e2⟩:=h2;exact ⟨ha,bO,es,λjH=>by rw [eT,hy,e1],e2⟩
  |halt x w=>cases x<;>first|trivial|exact h2.elim|(obtain ⟨bO,es,e1,e2⟩:=h2;exact ⟨bO,es,λjH=>by rw [eT,hy,e1],e2⟩)
 rcases hv.cases r with ⟨u6,e⟩|⟨gN,h1,o,ho,hc⟩|⟨gN,n,cv,ca,t,hh,h1,e1,h2,e2,hty⟩
 ·have e':wa.shape? r=wv.shape? r:=by simp only [World.shape?,e]
  refine conv _ _ rfl e' ?_
  cases yO:wv.shape? r with
  |none=>exact hn wv wa hv
  |some x=>obtain ⟨t,n⟩:=x;exact hs t n wv wa hv
 ·exact conv _ _ (qz h1) (kG ho hc.off) (hn wv wa hv)
 ·refine conv _ _ (show wv.shape? r=some (t,n) from by simp only [World.shape?,h1,h2]) (show wa.shape? r=some (t,ca.size) from by simp only [World.shape?,e1]) ?_
  exact hd gN n hh t ca.size e2 hty (hs t n) wv wa hv
theorem vw (p:Program) (fs:Array Func):∀(d:Nat) (e:TypeId) (b:Nat),byteOfCell (Pf p fs) d e b=byteOfCell p d e b:=by
 intro d
 induction d with
 |zero=>intros;rfl
 |succ d ih=>intro e b;simp only [byteOfCell,ih];rfl
theorem jq (a:Addr):T P fs C (byteOf a) λ_=>True:=by
 unfold byteOf;split
 ·exact bg
 ·refine dQ (by simp only [vw];rfl) ?_;refine tb (Xn _) λ_ _=>yU af (λt n=>?_) λ_ m _ t n _ _ h=>h;dsimp only;split
  ·exact bg
  ·split<;>first|exact bg|exact af
end
end Ka
namespace Ka
section
variable {P:Program} {fs:Array Func} {C:Cut} {α β:Type} {φ:α->Prop} {ψ:β->Prop}
theorem Nt (p:Program) (fs:Array Func):∀(n:Nat) (t u:TypeId),(Pf p fs).alikeButTags n t u=p.alikeButTags n t u:=by
 intro n
 induction n with
 |zero=>intros;rfl
 |succ n ih=>intro t u;simp only [Program.alikeButTags,ih]<;>rfl
theorem Iz (p:Program) (fs:Array Func) (t:TypeId):(Pf p fs).stoodInAs t=p.stoodInAs t:=by simp only [Program.stoodInAs,Nt]<;>rfl
theorem mF (p:Program) (fs:Array Func) (t:TypeId):(Pf p fs).stoodInHeld t=p.stoodInHeld t:=by simp only [Program.stoodInHeld,Iz]<;>rfl
theorem Gn (p:Program) (fs:Array Func) (c:String×TypeId):(Pf p fs).ownRow c=p.ownRow c:=rfl
theorem Lc (p:Program) (fs:Array Func) (t:TypeId):(Pf p fs).packedAs t=p.packedAs t:=by simp only [Program.packedAs,Nt,Gn]<;>rfl
theorem uj (p:Program) (fs:Array Func) (t:TypeId):(Pf p fs).packed t=p.packed t:=by simp only [Program.packed,Lc]
theorem j3 (p:Program) (fs:Array Func):∀(n:Nat) (t:TypeId),(Pf p fs).holdsPacked n t=p.holdsPacked n t:=by
 intro n
 induction n with
 |zero=>intros;rfl
 |succ n ih=>intro t;simp only [Program.holdsPacked,ih,uj]<;>rfl
theorem sS (p:Program) (fs:Array Func):∀(n:Nat) (t:TypeId),(Pf p fs).eqGuardType n t=p.eqGuardType n t:=by
 intro n
 induction n with
 |zero=>intros;rfl
 |succ n ih=>intro t;simp only [Program.eqGuardType,ih]<;>rfl
theorem lX (t:TypeId):T P fs C (typeStr t) λ_=>True:=by unfold typeStr;exact qL
theorem EK (a b:Option Addr):T P fs C (samePointer a b) λ_=>True:=by
 unfold samePointer;split
 ·exact yc _ _
 ·exact bg
theorem tV:∀(d:Nat) (t:TypeId) (x y:Value),T P fs C (Op.equalIn d t x y) λ_=>True
 |0,_,_,_=>gY
 |d+1,t,x,y=>by
  unfold Op.equalIn;refine tb (aN t) λdesc _=>?_;have Au:∀(f:Field) (xs ys:Array Value),T P fs C (do
   let a<-part f.type xs f.offset;let b<-part f.type ys f.offset;let c<-Op.equalIn d f.type a b
   if (!c)=true then pure (ForInStep.done (some false,())) else pure (ForInStep.yield ((none:Option Bool),()))) λ_=>True:=λf xs ys=>by
   refine tb (kE _ _ _) λa _=>tb (kE _ _ _) λb _=>tb (tV d _ _ _) λc _=>?_;split<;>exact bg
  split
  case h_5=>
   refine tb (dZ _) λn _=>tb (dZ _) λm _=>?_;dsimp only;refine dQ rfl ?_;split
   ·rename_i h;simp only [Bool.and_eq_true,beq_iff_eq,decide_eq_true_eq] at h;refine tb (jq _) λ_ _=>tb (jq _) λ_ _=>bg
   ·refine tb (bS t) λi _=>?_;split<;>exact qL
  case h_13=>
   refine tb (gZ _) λn _=>?_;split
   ·exact yc _ _
   ·split
    ·exact bg
    ·exact tb nR λ_ _=>bg
  case h_14=>exact EK _ _
  case h_19=>
   split
   ·exact bg
   ·refine tb (bS _) λi _=>?_;dsimp only;split
    ·refine dQ (by simp only [j3]<;>rfl) ?_;refine dQ (by simp only [j3]<;>rfl) ?_;split
     ·exact tb (φ:=λ_=>True) gY λ_ _=>tb (lX _) λ_ _=>az _
     ·exact tb (lX _) λ_ _=>az _
    ·exact tV d _ _ _
  case h_20=>
   refine dQ (by simp only [mF]<;>rfl) ?_;dsimp only;split
   ·refine tb (φ:=λ_=>True) gY λ_ _=>tb (o5 (λf _=>?_) _ _) λs _=>?_
    ·split
     ·exact Au f _ _
     ·exact bg
    ·split<;>exact bg
   ·refine tb (o5 (λf _=>?_) _ _) λs _=>?_
    ·split
     ·exact Au f _ _
     ·exact bg
    ·split<;>exact bg
  case h_21=>
   refine tb (gZ _) λn _=>?_;refine tb (CE (λf _=>?_) _ _) λs _=>?_
   ·refine tb (kE _ _ _) λa _=>tb (kE _ _ _) λb _=>tb (tV d _ _ _) λc _=>?_;split<;>exact bg
   ·dsimp only;split<;>exact bg
  all_goals exact qL
theorem QG (t:TypeId) (x y:Value):T P fs C (Op.equal t x y) λ_=>True:=tV _ _ _ _
end
end Ka
namespace Ka
section
variable {P:Program} {fs:Array Func} {C:Cut} {α β:Type} {φ:α->Prop} {ψ:β->Prop}
theorem nU:∀(d:Nat) (t:TypeId) (x y:Value),T P fs C (Op.eqGuardIn d t x y) λ_=>True
 |0,_,_,_=>gY
 |d+1,t,x,y=>by
  unfold Op.eqGuardIn;refine tb (aN t) λdesc _=>?_;split
  ·exact qL
  ·refine tb (o5 (λf _=>?_) _ _) λs _=>?_
   ·split
    ·refine tb (kE _ _ _) λa _=>tb (kE _ _ _) λb _=>tb (nU d _ _ _) λc _=>?_;split<;>exact bg
    ·exact bg
   ·dsimp only;split<;>exact bg
  ·refine tb (gZ _) λn _=>?_;refine tb (CE (λf _=>?_) _ _) λs _=>?_
   ·refine tb (kE _ _ _) λa _=>tb (kE _ _ _) λb _=>tb (nU d _ _ _) λc _=>?_;split<;>exact bg
   ·dsimp only;split<;>exact bg
  ·exact bg
theorem S9 (op:BinOp) (t:TypeId) (x y:Operand) (a b:Value):T P fs C (eqGuard op t x y a b) λ_=>True:=by
 have h:∀c:Bool,T P fs C (if c=true then (pure ():Sem Unit) else
  match a,b with
  | .nilIface,.nilIface=>
    if ((x matches .const _)||(y matches .const _))=true then pure ()
    else do
     if (<-Op.eqGuardIn Op.maxDepth t a b)=true then unsupported (.noEntry "binop/eql: two nil values of an interface type with methods, neither of them the literal nil") else pure ()
  | .agg _,.agg _=>do
    if (!(<-program).eqGuardType (<-program).depth t)=true then pure ()
    else do
     if (<-Op.eqGuardIn Op.maxDepth t a b)=true then unsupported (.noEntry "binop/eql: two nil values of an interface type with methods, in a part of a struct or an array") else pure ()
  |_,_=>pure ()) λ_=>True:=λc=>by
  split
  ·exact bg
  ·split
   ·refine il (λ_=>bg) λ_=>?_;refine tb (nU _ _ _ _) λc _=>?_;split<;>first|exact gY|exact bg
   ·refine dQ (by simp only [sS]<;>rfl) ?_;refine dQ (by simp only [sS];rfl) ?_;split
    ·exact bg
    ·refine tb (nU _ _ _ _) λc _=>?_;split<;>first|exact gY|exact bg
   ·exact bg
 exact h _
theorem GH {α:Type} {s:Sem α} {φ:α->Prop} (h:T P fs C s φ:=by first|exact lX _|exact GI):T P fs C s φ:=h
theorem xn {α:Type} {s:Sem α} {φ:α->Prop} (h:T P fs C s φ:=by
 repeat' (first
  |(with_reducible refine yT ⟨_,.inl ⟨_,rfl⟩,λ_=>rfl⟩ (λ_ _=>⟨_,.inl ⟨_,rfl⟩,λ_=>rfl⟩) ?_;intro _ _ _)
  |exact fV (dL _ _) (by assumption)|exact fV (dJ _ _ _ _) (by assumption)|exact fV (dH _ _) (by assumption)
  |(refine tb (fV (dL _ _) (by assumption)) ?_;intro _ _)|(refine tb (fV (dJ _ _ _ _) (by assumption)) ?_;intro _ _)|(refine tb (fV (dH _ _) (by assumption)) ?_;intro _ _)
  |exact bg
  |with_reducible exact GH
  |with_reducible exact tt GH
  |(with_reducible refine tb GH ?_;intro _ _)
  |(with_reducible refine tb (φ:=λ_=>True) GH ?_;intro _ _)
  |(with_reducible refine tb (φ:=λ_=>True) (Ko GH λ_ _=>trivial) ?_;intro _ _)
  |(with_reducible refine tb (φ:=λ_=>True) (tp trivial) ?_;intro _ _)
  |with_reducible refine dQ rfl ?_
  |with_reducible exact tp trivial
  |split
  |dsimp only)):T P fs C s φ:=h
theorem iC (e:Bool):∀(d:Nat) (t:TypeId) (x:Value),T P fs C (Instr.checkKey e d t x) λ_=>True
 |0,_,_=>gY
 |d+1,t,x=>by
  unfold Instr.checkKey;refine tb (aN t) λdesc _=>?_;split
  ·refine tb (bS _) λi _=>?_;dsimp only;split
   ·split
    ·exact tb (φ:=λ_=>True) (az _) λ_ _=>tb (lX _) λ_ _=>tb (φ:=λ_=>True) (az _) λ_ _=>iC e d _ _
    ·exact tb (lX _) λ_ _=>tb (φ:=λ_=>True) (az _) λ_ _=>iC e d _ _
   ·exact iC e d _ _
  ·exact tb (CE (λf _=>tb (gZ _) λ_ _=>tb (kE _ _ _) λ_ _=>tb (iC e d _ _) λ_ _=>bg) _ _) λ_ _=>bg
  ·refine tb (o5 (λf _=>?_) _ _) λ_ _=>bg;split
   ·exact tb (kE _ _ _) λ_ _=>tb (iC e d _ _) λ_ _=>bg
   ·exact bg
  all_goals exact xn
theorem xy (t:TypeId) (k:Value):∀(l:List MapEntry) (i:Nat),T P fs C (Instr.findAsking t k l i) λ_=>True
 |[],_=>bg
 |e::es,i=>by
  unfold Instr.findAsking;refine tb (QG _ _ _) λc _=>?_;split
  ·exact bg
  ·exact xy t k es (i+1)
theorem yY (t:TypeId) (k:Value) (l:List MapEntry):T P fs C (Instr.findKey t k l) λ_=>True:=by
 unfold Instr.findKey;refine tb (aN t) λd _=>?_;split
 ·exact bg
 ·exact xy _ _ _ _
theorem Xq (t:TypeId) (x i:Value) (ok:Bool):T P fs C (Instr.lookup t x i ok) λ_=>True:=by
 unfold Instr.lookup;refine tb (aN t) λd _=>?_;split
 ·rename_i key elem;have h:∀es:Array MapEntry,T P fs C (do
   Instr.checkKey es.isEmpty 10000 key i
   let r<-Instr.findKey key i es.toList
   match r with
   |some (_,v)=>pure (if ok=true then Value.tuple #[v,.bool true] else v)
   |none=>do
    let v<-zeroValue elem
    pure (if ok=true then Value.tuple #[v,.bool false] else v)) λ_=>True:=λes=>by
   refine tb (iC _ _ _ _) λ_ _=>tb (yY _ _ _) λr _=>?_;split<;>exact xn
  dsimp only;split
  ·exact h _
  ·refine yT ⟨_,.inl ⟨_,rfl⟩,λ_=>rfl⟩ (λ_ _=>⟨_,.inl ⟨_,rfl⟩,λ_=>rfl⟩) λu6 o _=>?_;split<;>first|exact h _|exact tb (φ:=λ_=>True) af λ_ _=>h _
  ·exact tb (φ:=λ_=>True) af λ_ _=>h _
 ·exact af
theorem Cu (a b:Value):T P fs C (Instr.keyThatStays a b) λ_=>True:=by unfold Instr.keyThatStays;exact xn
theorem Aa (t:TypeId) (m k v:Value):T P fs C (Instr.mapUpdate t m k v) λ_=>True:=by
 unfold Instr.mapUpdate;refine tb (aN t) λd _=>?_;split
 ·split
  ·exact az _
  ·refine yT ⟨_,.inl ⟨_,rfl⟩,λ_=>rfl⟩ (λ_ _=>⟨_,.inl ⟨_,rfl⟩,λ_=>rfl⟩) λu6 o _=>?_;split
   ·refine tb (iC _ _ _ _) λ_ _=>tb (yY _ _ _) λr _=>?_;split
    ·exact tb (Cu _ _) λ_ _=>fV (dL _ _) u6
    ·exact fV (dL _ _) u6
   ·exact af
  ·exact af
 ·exact af
theorem Xv (a:Array TypeId) (t:TypeId) (x:Array Value):T P fs C (Builtin.delete_ a t x) λ_=>True:=by
 unfold Builtin.delete_;split
 ·refine tb (aN _) λd _=>?_;split
  ·dsimp only;split
   ·exact tb (iC _ _ _ _) λ_ _=>bg
   ·refine yT ⟨_,.inl ⟨_,rfl⟩,λ_=>rfl⟩ (λ_ _=>⟨_,.inl ⟨_,rfl⟩,λ_=>rfl⟩) λu6 o _=>?_;split
    ·refine tb (iC _ _ _ _) λ_ _=>tb (yY _ _ _) λr _=>?_;split<;>exact tb (fV (dL _ _) u6) λ_ _=>bg
    ·exact tb (φ:=λ_=>True) af λ_ _=>bg
   ·exact tb (φ:=λ_=>True) af λ_ _=>bg
  ·exact af
 ·exact af
end
end Ka
namespace Ka
section
variable {P:Program} {fs:Array Func} {C:Cut} {α β:Type} {φ:α->Prop} {ψ:β->Prop}
theorem ow (t:TypeId):T P fs C (underlying t) λd=>P.underlying t=some d:=by
 unfold underlying;refine dQ rfl ?_;split
 ·rename_i h;exact tp h
 ·exact af
theorem tu (p:Program) (fs:Array Func) (d e c o:Nat) (b:Int):cellAtBytes (Pf p fs) d e c o b=cellAtBytes p d e c o b:=by
 have e1:∀(d:Nat) (t:TypeId) (b:Nat),cellOfByte (Pf p fs) d t b=cellOfByte p d t b:=by
  intro d
  induction d with
  |zero=>intros;rfl
  |succ d ih=>intro e b;simp only [cellOfByte,ih];rfl
 simp only [cellAtBytes,vw,e1];rfl
theorem zP {p:Program} {d e c c' o:Nat} {b:Int} {x:Nat} (hc:c<=c') (h:cellAtBytes p d e c o b=some x):cellAtBytes p d e c' o b=some x:=by
 unfold cellAtBytes at h ⊢;dsimp only at h ⊢;split at h
 ·cases h
 ·rename_i h1;rw [if_neg h1];cases hb:byteOfCell p d e (o%p.cellsOf e) with
  |none=>rw [hb] at h;cases h
  |some y=>
   rw [hb] at h;simp only [Option.bind_eq_bind,Option.bind_some] at h ⊢;split at h
   ·cases h
   ·rename_i h2;rw [if_neg]
    ·exact h
    ·intro h3;apply h2;simp only [Bool.or_eq_true,decide_eq_true_eq] at h3 ⊢;refine h3.imp id λh4=>Int.le_trans ?_ h4;exact Int.ofNat_le.2 (Nat.mul_le_mul_right _ hc)
theorem rH (a:Array TypeId) (t:TypeId) (ptr:Option Addr) (y:Value):T P fs C (Builtin.unsafeAdd_ a t #[.pointer ptr,y]) λ_=>True:=by
 have hm:∀(ptr:Option Addr) (n:Int),T P fs C (match ptr with
  |some a=>do
   match<-shape a.block with
   |some (e,cells)=>do
    let p<-program
    match cellAtBytes p p.depth e (cells / p.cellsOf e) a.off n with
    |some off=>pure (Value.pointer (some {a with off}))
    |none=>unsupported (.unsafePointer "Add")
   |_=>unsupported (.unsafePointer "Add")
  |_=>unsupported (.unsafePointer "Add")) λ_=>True:=λptr n=>by
  split
  ·rename_i q;refine yU gY (λe c=>?_) (λ_ m _ e c hmc _ _ wv wa hv=>?_)
   ·refine dQ (by simp only [tu];rfl) ?_;split<;>first|exact bg|exact gY
   ·have eV:∀τ' d,Sem.run (Pf P fs) (do
     let p<-program
     match cellAtBytes p p.depth e (m / p.cellsOf e) q.off n with
     |some off=>pure (Value.pointer (some {q with off}))
     |none=>unsupported (.unsafePointer "Add")) (re wv τ' d)=match cellAtBytes P P.depth e (m / P.cellsOf e) q.off n with
      |some off=>.ok (Value.pointer (some {q with off})) (re wv τ' d)
      |none=>.halt (.unsupported (.unsafePointer "Add")) (re wv τ' d):=λτ' d=>by
     show Sem.run (Pf P fs) (match cellAtBytes (Pf P fs) P.depth e (m / P.cellsOf e) q.off n with|some off=>_|none=>_) _=_;rw [tu];cases cellAtBytes P P.depth e (m / P.cellsOf e) q.off n<;>rfl
    cases hx:cellAtBytes P P.depth e (m / P.cellsOf e) q.off n with
    |none=>exact ⟨0,λ_ _=>0,.halt (.unsupported (.unsafePointer "Add")) wv,λτ' d _=>(eV τ' d).trans (by rw [hx];rfl),trivial⟩
    |some off=>refine ⟨0,λ_ _=>0,.ok (Value.pointer (some {q with off})) wv,λτ' d _=>(eV τ' d).trans (by rw [hx];rfl),trivial,wa,#[],λjH=>?_,hv,Hid.refl C wa,by simp⟩;show Sem.runT P (match cellAtBytes P P.depth e (c / P.cellsOf e) q.off n with|some off=>_|none=>_) wa jH=_;rw [zP (Nat.div_le_div_right hmc) hx,Array.append_empty];rfl
  ·exact gY
 unfold Builtin.unsafeAdd_;refine tb (xA _) λn _=>?_;dsimp only;refine il (λ_=>?_) (λ_=>il (λ_=>tb (φ:=λ_=>True) gY λ_ _=>hm _ _) λ_=>hm _ _);split
 ·exact QC (λx=>⟨_,rfl⟩) bg
 ·exact tb (φ:=λ_=>True) gY λ_ _=>il (λ_=>tb (φ:=λ_=>True) gY λ_ _=>hm _ _) λ_=>hm _ _
end
end Ka
namespace Ka
section
variable {P:Program} {fs:Array Func} {C:Cut} {α β:Type} {φ:α->Prop} {ψ:β->Prop}
theorem xx (op:BinOp) (k:FloatKind) (x y:Nat):T P fs C (Op.floatArith op k x y) λ_=>True:=by unfold Op.floatArith;exact xn
theorem CK (op:BinOp) (k:FloatKind) (x y:Nat):T P fs C (Op.floatCmp op k x y) λ_=>True:=by unfold Op.floatCmp;exact xn
theorem zZ (a b:Addr):T P fs C (Op.twoPlaces a b) λ_=>True:=by
 unfold Op.twoPlaces;refine dQ rfl ?_;dsimp only;split
 ·exact DC (φ:=λ_=>True) gY λ_ _=>tb (jq _) λ_ _=>tb (jq _) λ_ _=>bg
 ·exact tb (jq _) λ_ _=>tb (jq _) λ_ _=>bg
theorem Ti (k:IntKind) (a b:Addr):T P fs C (Op.addrSub k a b) λ_=>True:=by unfold Op.addrSub;exact tb (zZ _ _) λ_ _=>bg
theorem Tm (op:BinOp) (a b:Addr):T P fs C (Op.addrCmp op a b) λ_=>True:=by unfold Op.addrCmp;refine tb (zZ _ _) λ_ _=>?_;dsimp only;split<;>first|exact bg|exact gY
theorem Tj (k:IntKind) (a:Addr) (n:Int):T P fs C (Op.addrMod k a n) λ_=>True:=by
 unfold Op.addrMod;refine yU gY (λe c=>?_) λ_ m _ t n _ _ h=>h;refine tb (bS _) λi _=>?_;dsimp only;split
 ·exact tb (φ:=λ_=>True) gY λ_ _=>tb (jq _) λ_ _=>bg
 ·exact tb (jq _) λ_ _=>bg
theorem Oj (a:Addr) (l:Bool):T P fs C (asNumber a l) λ_=>True:=tb (Ca ⟨⟨rfl,rfl,λ_ _ h=>by cases h⟩,λ_ h=>by cases h⟩) λ_ _=>bg
theorem uR (t:TypeId) (x y:Value):T P fs C (movedNumber t x y) λ_=>True:=by
 have h:T P fs C (match x with
  | .pointer (some n)=>do
    let (a,lost)<-behindNumber n
    match<-Builtin.unsafeAdd_ #[] t #[.pointer (some a),y] with
    | .pointer (some b)=>asNumber b lost
    |v=>pure v
  |_=>Builtin.unsafeAdd_ #[] t #[x,y]) λ_=>True:=by
  split
  ·refine tb (dZ _) λn _=>?_;dsimp only;refine tb (rH _ _ _ _) λv _=>?_;split
   ·exact Oj _ _
   ·exact bg
  ·rename_i bA;cases x with
   |pointer p=>cases p with
    |none=>exact rH _ _ _ _
    |some a=>exact absurd rfl (bA a)
   |_=>exact af
 unfold movedNumber;refine tb (aN t) λd _=>?_;dsimp only;split
 ·exact tb (φ:=λ_=>True) gY λ_ _=>h
 ·exact h
theorem Ct (t:TypeId) (p:Option Addr) (y:Value):T P fs C (movedPointer t (.pointer p) y) λ_=>True:=by
 have h:=rH (P:=P) (fs:=fs) (C:=C) #[] t p y;unfold movedPointer;dsimp only;split
 ·refine tb (yg _) λn _=>?_;split
  ·exact tb (φ:=λ_=>True) gY λ_ _=>h
  ·exact h
 ·exact h
theorem CJ (k:FloatKind) (x:Nat) (d:FloatKind):T P fs C (Conv.floatToFloat k x d) λ_=>True:=by unfold Conv.floatToFloat;exact xn
theorem iJ (op:BinOp) (k:FloatKind) (x y:Nat):T P fs C (Op.Complex.arith op k x y) λ_=>True:=by unfold Op.Complex.arith;refine tb (xx _ _ _ _) λv _=>?_;split<;>first|exact bg|exact af
theorem CP (op:BinOp) (k:FloatKind) (x y:Nat):T P fs C (Op.Complex.cmp op k x y) λ_=>True:=tb (CK _ _ _ _) λ_ _=>pg _
theorem tX (k:FloatKind) (x:Nat) (d:FloatKind):T P fs C (Op.Complex.conv k x d) λ_=>True:=by
 unfold Op.Complex.conv;split
 ·exact bg
 ·refine tb (CJ _ _ _) λv _=>?_;split<;>first|exact bg|exact af
theorem SQ (a b c d:Nat):T P fs C (Op.Complex.product a b c d) λ_=>True:=
 tb (iJ _ _ _ _) λ_ _=>tb (iJ _ _ _ _) λ_ _=>tb (iJ _ _ _ _) λ_ _=>tb (iJ _ _ _ _) λ_ _=>tb (iJ _ _ _ _) λ_ _=>tb (iJ _ _ _ _) λ_ _=>bg
theorem Ac (s a b c d:Nat):T P fs C (Op.Complex.corrected s a b c d) λ_=>True:=by
 unfold Op.Complex.corrected
 repeat (refine tb (iJ _ _ _ _) λ_ _=>?_)
 exact bg
theorem Od (a b c d:Nat):T P fs C (Op.Complex.quotient a b c d) λ_=>True:=by
 have h:∀e f:Nat,T P fs C (do
  let zero:=(<-Op.Complex.cmp .eql .f64 c 0)&&(<-Op.Complex.cmp .eql .f64 d 0)
  if !(Op.Complex.isNaN e&&Op.Complex.isNaN f) then pure (e,f)
  else if zero&&(!Op.Complex.isNaN a||!Op.Complex.isNaN b) then
   pure (<-Op.Complex.mul (Op.Complex.copysign Op.Complex.inf c) a,<-Op.Complex.mul (Op.Complex.copysign Op.Complex.inf c) b)
  else if (Op.Complex.isInf a||Op.Complex.isInf b)&&Op.Complex.isFinite c&&Op.Complex.isFinite d then
   Op.Complex.corrected Op.Complex.inf (Op.Complex.inf2one a) (Op.Complex.inf2one b) c d
  else if (Op.Complex.isInf c||Op.Complex.isInf d)&&Op.Complex.isFinite a&&Op.Complex.isFinite b then
   Op.Complex.corrected 0 a b (Op.Complex.inf2one c) (Op.Complex.inf2one d)
  else pure (e,f)) λ_=>True:=λe f=>by
  refine tb (CP _ _ _ _) λ_ _=>tb (CP _ _ _ _) λ_ _=>?_;dsimp only;refine il (λ_=>bg) λ_=>il (λ_=>?_) λ_=>il (λ_=>Ac _ _ _ _ _) λ_=>il (λ_=>Ac _ _ _ _ _) λ_=>bg;exact tb (iJ _ _ _ _) λ_ _=>tb (iJ _ _ _ _) λ_ _=>bg
 unfold Op.Complex.quotient;refine tb (CP _ _ _ _) λ_ _=>?_;dsimp only;refine il (λ_=>?_) λ_=>?_
 all_goals
  repeat (refine tb (iJ _ _ _ _) λ_ _=>?_)
  exact h _ _
theorem KE (op:BinOp) (k:FloatKind) (a b c d:Nat):T P fs C (Op.complexOp op k a b c d) λ_=>True:=by
 unfold Op.complexOp;split
 any_goals exact tb (iJ _ _ _ _) λ_ _=>tb (iJ _ _ _ _) λ_ _=>bg
 any_goals exact tb (CP _ _ _ _) λ_ _=>tb (CP _ _ _ _) λ_ _=>bg
 any_goals exact af
 all_goals
  refine tb (tX _ _ _) λ_ _=>tb (tX _ _ _) λ_ _=>tb (tX _ _ _) λ_ _=>tb (tX _ _ _) λ_ _=>?_;dsimp only;refine il (λ_=>tb (SQ _ _ _ _) λ_ _=>?_) λ_=>tb (Od _ _ _ _) λ_ _=>?_
  all_goals exact tb (tX _ _ _) λ_ _=>tb (tX _ _ _) λ_ _=>bg
theorem aBz (op:BinOp) (t:TypeId) (x y:Value):T P fs C (binOp op t x y) λ_=>True:=by
 unfold binOp;split
 all_goals first
  |exact aBq _ _ _ _ _
  |exact qa _ _ _
  |exact gY
  |exact af
  |exact tb (QG _ _ _) λ_ _=>bg
  |exact uR _ _ _
  |exact tb (dZ _) λ_ _=>tb (dZ _) λ_ _=>Ti _ _ _
  |exact tb (dZ _) λ_ _=>tb (dZ _) λ_ _=>Tm _ _ _
  |exact tb (dZ _) λ_ _=>Tj _ _ _
  |(split<;>first|exact af|(split<;>first|exact CB _ _ _ _|exact Xt _ _ _ _|exact FR _ _ _ _|exact Xu _ _ _|exact xx _ _ _ _|exact CK _ _ _ _)|exact KE _ _ _ _ _ _)
  |(refine tb (aN _) λd _=>?_;split<;>first|exact Ct _ _ _|exact uR _ _ _)
end
end Ka
namespace Ka
def yA (P:Program) (src dst:TypeId):Bool:=match P.underlying src,P.underlying dst with
 |some (.int _),some (.int _)|some (.int _),some .string|some .string,some .string|some .string,some (.slice _)|some (.slice _),some .string=>true
 |_,_=>false
section
variable {P:Program} {fs:Array Func} {C:Cut} {α β:Type} {φ:α->Prop} {ψ:β->Prop}
theorem Xp {γ δ:Type} {f:γ->Sem δ} (hf:∀a,T P fs C (f a) λ_=>True):∀l:List γ,T P fs C (l.mapM f) λ_=>True
 |[]=>bg
 |a::l=>by
  rw [List.mapM_cons];exact tb (hf a) λ_ _=>tb (Xp hf l) λ_ _=>bg
theorem QD {γ δ:Type} {f:γ->Sem δ} (hf:∀a,T P fs C (f a) λ_=>True) (l:Array γ):T P fs C (l.mapM f) λ_=>True:=by rw [Array.mapM_eq_mapM_toList];exact Ko (Xp hf _) λ_ _=>trivial
theorem AX {a:Addr} (h:C.free a.block):T P fs C (markStringish a) λ_=>True:=by
 unfold markStringish;refine tb (WU h) λx _=>?_;split
 ·exact QB h
 ·exact bg
theorem AU (e:TypeId) (s:ByteArray):T P fs C (Conv.stringToBytes e s) λ_=>True:=by unfold Conv.stringToBytes;refine tb nR λn _=>?_;dsimp only;refine tb (rO _ _) λa ha=>tb (AX ha) λ_ _=>bg
theorem AZ (x:Value):T P fs C (Conv.bytesToString x) λ_=>True:=by
 unfold Conv.bytesToString;split
 ·exact bg
 ·refine tb (nT _ _) λcs _=>?_;dsimp only;refine tb (o5 (λc s=>?_) _ _) λs _=>bg;split<;>first|exact bg|exact tb (φ:=λ_=>True) af λ_ _=>bg|exact af
 ·exact af
theorem AR (e:TypeId) (s:ByteArray):T P fs C (Conv.stringToRunes e s) λ_=>True:=by unfold Conv.stringToRunes;dsimp only;exact tb nR λ_ _=>tb (rO _ _) λ_ _=>bg
theorem AV (x:Value):T P fs C (Conv.runesToString x) λ_=>True:=by
 unfold Conv.runesToString;split
 ·exact bg
 ·refine tb (nT _ _) λcs _=>?_;dsimp only;refine tb (o5 (λc s=>?_) _ _) λs _=>bg;split<;>first|exact bg|exact tb (φ:=λ_=>True) af λ_ _=>bg|exact af
 ·exact af
theorem Im (k:FloatKind) (b:Nat) (d:IntKind):T P fs C (Conv.floatToInt k b d) λ_=>True:=by unfold Conv.floatToInt;exact xn
theorem Te (src dst:TypeId) (x:Value) (h:yA P src dst=true):T P fs C (convert src dst x) λ_=>True:=by
 unfold convert;refine tb (ow src) λd hd=>tb (ow dst) λe he=>?_;simp only [yA,hd,he] at h;split
 all_goals first
  |(exfalso;simp at h;done)
  |with_reducible exact Oh _ _
  |with_reducible exact EO _
  |with_reducible exact bg
  |with_reducible exact gY
  |with_reducible exact af
  |with_reducible exact Im _ _ _
  |(refine tb (aN _) λu _=>?_;split<;>first|exact AU _ _|exact AZ _|exact AR _ _|exact AV _|exact af)
theorem Xm (a:Addr) (c b:Nat):T P fs C (partAt a c b) λ_=>True:=by unfold partAt;refine tb (jq _) λx _=>?_;dsimp only;exact tb (jq _) λ_ _=>bg
theorem qd (a:Addr) (f:Field):T P fs C (fieldPlace a f) λ_=>True:=by
 unfold fieldPlace;refine tb (gZ _) λn _=>?_;split
 ·exact Xm _ _ _
 ·exact bg
theorem SX (s:TypeId) (v:Value) (i:Nat):T P fs C (Instr.fieldAt s v i) λ_=>True:=by
 unfold Instr.fieldAt;refine tb (aN s) λd _=>?_;split
 ·split
  ·exact tb (mh _) λa _=>tb (qd _ _) λ_ _=>bg
  ·exact af
 ·exact af
theorem SI (t:TypeId) (v:Value) (x y z:Option Value):T P fs C (Instr.sliceAt t v x y z) λ_=>True:=by
 unfold Instr.sliceAt;refine tb (aN t) λd _=>?_;split
 ·refine tb (mh _) λa _=>tb (uQ _ _ _ _ _ _) λb _=>?_;dsimp only;exact tb (gZ _) λ_ _=>bg
 ·exact aBp _ _ _ _ _
theorem aBy (t:TypeId) (ps:Array (Nat×Value)):T P fs C (Instr.build t ps) λ_=>True:=by
 unfold Instr.build;refine tb (nS _) λz _=>?_;dsimp only;refine tb (aN _) λd _=>?_;split
 ·refine tb (QD (λf=>tb (gZ _) λ_ _=>bg) _) λl _=>?_;split<;>first|exact bg|exact af
 ·refine tb (gZ _) λn _=>?_;split<;>first|exact bg|exact af
 ·exact af
end
end Ka
namespace Ka
section
variable {P:Program} {fs:Array Func} {C:Cut} {α β:Type} {φ:α->Prop} {ψ:β->Prop}
theorem QE (x:Value):T P fs C (Builtin.lenOf x) λ_=>True:=by unfold Builtin.lenOf;exact xn
theorem qb (a b:Nat) (x:Value):T P fs C (Builtin.firstCells a b x) λ_=>True:=by unfold Builtin.firstCells;exact xn
theorem LF {α:Type} {s:Sem α} {φ:α->Prop} (h:T P fs C s φ:=by first|exact QE _|exact qb _ _ _|exact GH):T P fs C s φ:=h
theorem Xf {α:Type} {s:Sem α} {φ:α->Prop} (h:T P fs C s φ:=by
 repeat' (first
  |(with_reducible refine yT ⟨_,.inl ⟨_,rfl⟩,λ_=>rfl⟩ (λ_ _=>⟨_,.inl ⟨_,rfl⟩,λ_=>rfl⟩) ?_;intro _ _ _)
  |exact fV (dL _ _) (by assumption)|exact fV (dJ _ _ _ _) (by assumption)|exact fV (dH _ _) (by assumption)
  |(refine tb (fV (dL _ _) (by assumption)) ?_;intro _ _)|(refine tb (fV (dJ _ _ _ _) (by assumption)) ?_;intro _ _)|(refine tb (fV (dH _ _) (by assumption)) ?_;intro _ _)
  |exact bg
  |with_reducible exact LF
  |with_reducible exact tt LF
  |(with_reducible refine tb LF ?_;intro _ _)
  |(with_reducible refine tb (φ:=λ_=>True) LF ?_;intro _ _)
  |(with_reducible refine tb (φ:=λ_=>True) (Ko LF λ_ _=>trivial) ?_;intro _ _)
  |(with_reducible refine tb (φ:=λ_=>True) (tp trivial) ?_;intro _ _)
  |with_reducible refine dQ rfl ?_
  |with_reducible exact tp trivial
  |split
  |dsimp only)):T P fs C s φ:=h
theorem aE5 (a:Array TypeId) (t:TypeId) (x:Array Value):T P fs C (Builtin.copy_ a t x) λ_=>True:=by unfold Builtin.copy_;exact Xf
theorem aE3 (x y:Value):T P fs C (Builtin.min2 x y) λ_=>True:=by unfold Builtin.min2;split<;>first|exact tb (tb (qa _ _ _) λ_ _=>pg _) λ_ _=>bg|exact tb (qa _ _ _) λ_ _=>tb (pg _) λ_ _=>bg|exact Xf
theorem aE4 (x y:Value):T P fs C (Builtin.max2 x y) λ_=>True:=by unfold Builtin.max2;split<;>first|exact tb (qa _ _ _) λ_ _=>tb (pg _) λ_ _=>bg|exact Xf
theorem CG {γ:Type} {f:β->γ->Sem β} (hf:∀b c,T P fs C (f b c) λ_=>True):∀(l:List γ) (b:β),T P fs C (l.foldlM f b) λ_=>True
 |[],_=>bg
 |c::l,b=>by simp only [List.foldlM_cons];exact tb (hf b c) λb' _=>CG hf l b'
theorem aI4 (a:Array TypeId) (t:TypeId) (x:Array Value):T P fs C (Builtin.min_ a t x) λ_=>True:=by
 unfold Builtin.min_;split
 ·exact af
 ·exact CG aE3 _ _
theorem aI5 (a:Array TypeId) (t:TypeId) (x:Array Value):T P fs C (Builtin.max_ a t x) λ_=>True:=by
 unfold Builtin.max_;split
 ·exact af
 ·exact CG aE4 _ _
def uN {α:Type}:Sem α->Prop
 | .pure _=>True
 | .shape _ k=>∀x,uN (k x)
 | .frozen _ k=>∀x,uN (k x)
 |_=>False
theorem uN.bind {s:Sem α} {f:α->Sem β} (h:uN s) (hf:∀a,uN (f a)):uN (s >>= f):=by
 show uN (s.bind f)
 induction s with
 |pure a=>exact hf a
 |shape r k ih=>exact λx=>ih x (h x)
 |frozen a k ih=>exact λx=>ih x (h x)
 |_=>exact h.elim
theorem uN.runs {s:Sem α} (h:uN s) (p:Program) (w:World):∃a,s.run p w=.ok a w:=by
 induction s with
 |pure a=>exact ⟨a,rfl⟩
 |shape r k ih=>exact ih _ (h _)
 |frozen a k ih=>exact ih _ (h _)
 |_=>exact h.elim
theorem Dj (a:Addr) (n:Nat):uN (Builtin.holdsCells a n):=by unfold Builtin.holdsCells;refine uN.bind (λ_=>trivial) λx=>?_;split<;>trivial
theorem E8 (a b c:Nat) (base:Option Addr) (x:Value):uN (Builtin.mayShare a b c base x):=by
 have h2:∀t:Bool,uN (if (!t)=true then (pure true:Sem Bool) else match x with
  | .slice (some y) _ _=>do pure (!(<-Builtin.holdsCells y (c*a))||base.any (λz=>z.block==y.block))
  |_=>pure false):=λt=>by
  split
  ·trivial
  ·split
   ·exact uN.bind (Dj _ _) λ_=>trivial
   ·trivial
 unfold Builtin.mayShare;dsimp only;split
 ·exact h2 true
 ·exact uN.bind (Dj _ _) λx=>λy=>h2 (x&&!y)
theorem aBu {s:Sem Bool} (h:uN s) (u:Unsupported):T P fs C (do
 if (!(<-s))=true then do
  mark .noRoom
  unsupported u
 else unsupported u:Sem α) φ:=λwv wa hv=>by
 refine ⟨0,λ_ _=>0,.halt (.unsupported u) wv,λτ' d _=>?_,trivial⟩;obtain ⟨b,hb⟩:=h.runs (Pf P fs) (re wv τ' d);show Sem.run (Pf P fs) (s.bind _) (re wv τ' d)=_;rw [Sem.run_bind',hb];cases b<;>rfl
theorem Xy (a:Array TypeId) (t:TypeId) (x:Array Value):T P fs C (Builtin.append_ a t x) λ_=>True:=by
 unfold Builtin.append_
 extract_lets jp0
 split
 ·refine tb (aN _) λd _=>?_;split
  ·split
   ·refine tb (gZ _) λsize _=>?_
    extract_lets jp1
    have h1:∀z,T P fs C (jp1 z) λ_=>True:=by
     intro z;simp -zeta only [jp1]
     extract_lets jp2
     have h2:∀n,T P fs C (jp2 n) λ_=>True:=by
      intro n;simp -zeta only [jp2]
      extract_lets ap aFH jp5 jp4 jp3
      have ha:T P fs C ap λ_=>True:=by simp -zeta only [ap];refine il (λ_=>qb _ _ _) λ_=>il (λ_=>bg) λ_=>tb (nS _) λ_ _=>bg
      clear_value ap;have h4:T P fs C (jp4 ()) λ_=>True:=by simp -zeta only [jp4];refine tb nR λc _=>tb (bS _) λ_ _=>tb (FU _) λ_ _=>tb (qb _ _ _) λ_ _=>tb ha λ_ _=>tb (nS _) λ_ _=>?_;exact tb (rO _ _) λ_ _=>bg
      clear_value jp4;have h3:T P fs C (jp3 ()) λ_=>True:=by simp -zeta only [jp3];refine tb (bS _) λi _=>?_;refine il (λ_=>?_) λ_=>h4;refine tb (φ:=λ_=>True) (il (λ_=>az _) λ_=>?_) λ_ _=>h4;exact aBu (E8 _ _ _ _ _) _
      clear_value jp3;refine il (λ_=>?_) λ_=>?_
      ·refine tb ha λnew _=>?_;split<;>first|exact tb (jO _ _ _) λ_ _=>bg|exact bg
      ·refine tb (bS _) λi _=>?_;exact il (λ_=>tb (φ:=λ_=>True) (az _) λ_ _=>h3) λ_=>h3
     clear_value jp2;refine il (λ_=>?_) λ_=>tb (QE _) λ_ _=>h2 _;refine tb (xA _) λl _=>?_
     extract_lets l jp4 jp3
     have h4:T P fs C (jp4 ()) λ_=>True:=by simp -zeta only [jp4];exact tb bg λ_ _=>h2 _
     clear_value jp4;have h3:T P fs C (jp3 ()) λ_=>True:=by simp -zeta only [jp3];refine tb (bS _) λi _=>?_;refine il (λ_=>tb nR λ_ _=>tb (φ:=λ_=>True) (az _) λ_ _=>h4) λ_=>h4
     clear_value jp3;exact il (λ_=>tb (φ:=λ_=>True) (az _) λ_ _=>h3) λ_=>h3
    clear_value jp1;split
    ·exact tb (aN _) λ_ _=>tb bg λ_ _=>h1 _
    ·exact tb bg λ_ _=>h1 _
   ·exact af
  ·exact af
 ·exact af
end
end Ka
namespace Ka
section
variable {P:Program} {fs:Array Func} {C:Cut} {α β:Type} {φ:α->Prop} {ψ:β->Prop}
theorem mD (t:TypeId) (x:Place):T P fs C (x.get t) λ_=>True:=by
 cases x
 ·exact bg
 ·exact iZ _ _
theorem rP:∀(l:List FieldStep) (t:TypeId) (x:Place),T P fs C (follow l t x) λ_=>True
 |[],_,_=>bg
 |s::rest,t,x=>by
  unfold follow;refine tb (aN _) λd _=>?_;split
  ·split
   ·split
    ·exact tb (mD _ _) λ_ _=>tb (rQ _) λ_ _=>tb (qd _ _) λ_ _=>rP rest _ _
    ·split
     ·exact tb (qd _ _) λ_ _=>rP rest _ _
     ·exact tb (kE _ _ _) λ_ _=>rP rest _ _
     ·exact af
   ·exact af
  ·exact af
theorem Ib (a:Array TypeId) (t:TypeId) (v:Value) (x y:ByteArray):T P fs C (Builtin.ssaWrapNilChk_ a t #[v,.string x,.string y]) λ_=>True:=by
 cases v with
 |pointer p=>
  cases p with
  |some q=>exact (bg:T P fs C (pure (Value.pointer (some q))) λ_=>True)
  |none=>
   refine tb (x:=choose _) nR λc _=>?_
   extract_lets jp
   have h:T P fs C (jp ()) λ_=>True:=by
    simp -zeta only [jp];split
    ·refine tb (aN _) λd _=>?_;split
     ·refine tb (bS _) λi _=>?_;split
      ·split
       ·dsimp only;split<;>first|exact az _|exact gY
       ·exact af
      ·exact af
     ·exact af
    ·exact af
   clear_value jp;exact il (λ_=>tb (φ:=λ_=>True) (az _) λ_ _=>h) λ_=>h
 |_=>exact af
theorem xu (t:TypeId) (x:Place) (b:Bool) (w:Option String):T P fs C (receiverAt t x b w) λ_=>True:=by
 unfold receiverAt;refine tb (aN _) λd _=>?_;split
 ·exact mD _ _
 ·refine tb (mD _ _) λv _=>?_;dsimp only;split
  ·exact tb (Ib _ _ _ _ _) λ_ _=>tb (rQ _) λ_ _=>iZ _ _
  ·exact tb bg λ_ _=>tb (rQ _) λ_ _=>iZ _ _
 ·exact bg
 ·exact af
 ·exact mD _ _
theorem EM (t:TypeId) (v:Value) (p:Array FieldStep) (b:Bool):T P fs C (receiverVia t v p b) λ_=>True:=by unfold receiverVia;refine tb (rP _ _ _) λx _=>xu _ _ _ _
theorem Kw:∀(n:Nat) (t:TypeId) (v:Value) (s:String),T P fs C (method n t v s) λ_=>True
 |0,_,_,_=>gY
 |n+1,t,v,s=>by
  unfold method;refine tb (bS _) λi _=>?_;split
  ·refine tb (rP _ _ _) λx _=>?_;dsimp only;split
   ·refine tb (mD _ _) λy _=>?_;split
    ·exact Kw n _ _ _
    ·exact az _
    ·exact af
   ·exact tb (xu _ _ _ _) λ_ _=>bg
  ·exact af
theorem oz:∀(l:List FieldStep) (t:TypeId) (x:Option Value),T P fs C (followBlind l t x) λ_=>True
 |[],_,_=>bg
 |s::rest,t,x=>by
  unfold followBlind;refine tb (aN _) λd _=>?_;split
  ·split
   ·split<;>first|exact bg|exact af|exact oz rest _ _|exact tb (kE _ _ _) λ_ _=>oz rest _ _
   ·exact af
  ·exact af
theorem Cr:∀(n:Nat) (t:TypeId) (v:Value) (s:String),T P fs C (nilAhead n t v s) λ_=>True
 |0,_,_,_=>bg
 |n+1,t,v,s=>by
  unfold nilAhead;refine tb (bS _) λi _=>?_;split
  ·refine tb (oz _ _ _) λx _=>?_;split
   ·exact bg
   ·skip
    split<;>first|exact bg|exact af|exact Cr n _ _ _|(refine tb (aN _) λd _=>?_;split<;>exact bg)
  ·exact af
theorem ET (p:Program) (fs:Array Func):∀(d:Nat) (t u:TypeId),sameLayout (Pf p fs) d t u=sameLayout p d t u:=by
 intro d
 induction d with
 |zero=>intros;rfl
 |succ d ih=>intro t u;simp only [sameLayout,ih,mF];rfl
theorem XP (p:Program) (fs:Array Func) (fits:TypeId->Bool):∀(d e c o n:Nat),rowAt (Pf p fs) fits d e c o n=rowAt p fits d e c o n:=by
 intro d
 induction d with
 |zero=>intros;rfl
 |succ d ih=>intro e c o n;simp only [rowAt,ih,mF];rfl
theorem GA (p:Program) (fs:Array Func):∀(d e c o u n:Nat),liesAt (Pf p fs) d e c o u n=liesAt p d e c o u n:=by
 intro d
 induction d with
 |zero=>intros;rfl
 |succ d ih=>
  intro e c o u n;have h1:(sameLayout (Pf p fs) (Pf p fs).depth · u)=(sameLayout p p.depth · u):=by funext t;exact ET p fs _ _ _
  simp only [liesAt,ih,XP,h1];rfl
theorem Ab:∀(n:Nat) (a:Addr) (acc:ByteArray),T P fs C (loadBytes a acc n) λ_=>True
 |0,_,_=>bg
 |n+1,a,acc=>by
  unfold loadBytes;refine tb FP λv _=>?_;split
  ·exact Ab n _ _
  ·exact af
theorem Tc (t:TypeId):T P fs C (elemOf t) λu=>P.underlying t=some (.pointer u):=by
 unfold elemOf;refine tb (ow t) λd hd=>?_;split
 ·exact tp hd
 ·exact af
def Xz (P:Program) (at_:Array TypeId):Bool:=match at_[0]? with
 |some pt=>match P.underlying pt with
  |some (.pointer u)=>match P.underlying u with
   |some (.int .u8)=>true
   |_=>false
  |_=>false
 |none=>false
theorem Cg (Zg:∀u,P.underlying u=some (.int .u8)->∀t,C.ty t->∀d c o n,liesAt P d t c o u n=false) (at_:Array TypeId) (iX:Xz P at_=true) (t:TypeId) (args:Array Value):T P fs C (Builtin.unsafeString_ at_ t args) λ_=>True:=by
 obtain ⟨l⟩:=args;cases l with
 |nil=>exact af
 |cons x l=>cases l with
  |nil=>exact af
  |cons y l=>cases l with
   |cons z l=>exact af
   |nil=>cases x with
    |pointer p=>
     have fin:∀(pt:TypeId) (n:Int),(∀u,P.underlying pt=some (.pointer u)->P.underlying u=some (.int .u8))->T P fs C (match p with
      |none=>
       if n=0 then pure (.string .empty)
       else runtimePanic (.error "unsafe.String: ptr is nil and len is not zero")
      |some a=>
       if n=0 then pure (.string .empty)
       else do
        let u<-elemOf pt
        if (<-variablesAt a u n.toNat)=true then do
         let s<-loadBytes a .empty n.toNat
         freeze a n.toNat
         pure (.string s)
        else unsupported (.unsafePointer "String: not so many bytes at ptr"):Sem Value) λ_=>True:=λpt n hpt=>by
      split
      ·exact il (λ_=>bg) λ_=>az _
      ·rename_i a;refine il (λ_=>bg) λ_=>tb (Tc pt) λu hu=>?_;by_cases hf:C.free a.block
       ·unfold variablesAt;refine tb (φ:=λ_=>True) (dQ (by simp only [GA];rfl) (tb (WU hf) λs _=>?_)) λb _=>?_
        ·split<;>exact bg
        ·split
         ·exact tb (Ab _ _ _) λ_ _=>tb (QB hf) λ_ _=>bg
         ·exact gY
       ·intro wv wa hv;have hva:∀τ d,(variablesAt a u n.toNat).run (Pf P fs) (re wv τ d)=.ok false (re wv τ d):=λτ d=>by
         show Sem.run (Pf P fs) (match (re wv τ d).shape? a.block with|some (e,cells)=>pure (liesAt (Pf P fs) P.depth e (cells / P.cellsOf e) a.off u n.toNat)|none=>pure false) (re wv τ d)=_;rw [kS];rcases hv.cases a.block with ⟨h,_⟩|⟨_,h1,_⟩|⟨_,m,cv,ca,ty,_,h1,_,_,_,hty⟩
         ·exact absurd h hf
         ·rw [qz h1];rfl
         ·rw [show wv.shape? a.block=some (ty,cv.size) from by simp only [World.shape?,h1]];simp only [GA,Zg u (hpt u hu) ty hty];rfl
        refine ⟨0,λ_ _=>0,.halt (.unsupported (.unsafePointer "String: not so many bytes at ptr")) wv,λτ' d _=>?_,trivial⟩;show Sem.run (Pf P fs) ((variablesAt a u n.toNat).bind _) _=_;rw [Sem.run_bind',hva];rfl
     have hpt:∀pt,at_[0]? =some pt->∀u,P.underlying pt=some (.pointer u)->P.underlying u=some (.int .u8):=λpt h1 u h2=>by
      unfold Xz at iX;rw [h1] at iX;simp only [h2] at iX;split at iX
      ·assumption
      ·cases iX
     refine tb (x:=asInt y) (xA _) λn _=>?_;split
     ·rename_i pt aOT;have h:=fin pt n (hpt pt aOT);refine il (λ_=>tb (φ:=λ_=>True) (az _) λ_ _=>il (λ_=>tb (φ:=λ_=>True) gY λ_ _=>h) λ_=>h) λ_=>il (λ_=>tb (φ:=λ_=>True) gY λ_ _=>h) λ_=>h
     ·exact af
    |_=>exact af
end
end Ka
end
end Go.Proofs.YtmanpggemmgnnaaGreatDoor
