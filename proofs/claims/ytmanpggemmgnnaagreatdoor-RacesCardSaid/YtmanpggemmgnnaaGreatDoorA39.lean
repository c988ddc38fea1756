/- Races: a part. Conditions: none. -/
import Derived.Test.YtmanpggemmgnnaaGreatDoorA19
import Derived.Test.YtmanpggemmgnnaaGreatDoorA34
import Derived.Test.YtmanpggemmgnnaaGreatDoorA35
set_option linter.all false
set_option maxHeartbeats 8000000
set_option maxRecDepth 1000000
namespace Go.Proofs.YtmanpggemmgnnaaGreatDoor
noncomputable section
open Go Go.RowKit Go.Shelf Ba Fr
theorem z39 {p:Prop} (h:p):Go.RowKit.Hid p:=Go.Lib.hid h
theorem y39 {a b:Prop} (x:a) (y:b):a/\b:=⟨x,y⟩
namespace Re
open Tx Sp Wg Rd Bk Wi Se Rx Mp De Lo
structure Cp where
 st:Nat
 lk:Nat
 lb:Nat
 mo:Nat
 mr:Nat
 cb:Value
 rs:List Nat
 vs:List Cv
 p:Addr
 ev:Value
structure gT (w:World) (s:Nat) (C:Cp) (m:Int) (S:Sv) (fz:Nat×Nat):Prop where
 sr:Sr w s C.st C.lk m C.cb C.rs
 jC:qZ w C.st C.mo C.mr 0 S.st
 nO:Lk w C.lk C.lb S.aP
 len:C.rs.length=S.ae.length
 mW:C.vs.length=S.ae.length
 cn:∀(i r:Nat) (v:Cv) (x:Cn),C.rs[i]? =some r->C.vs[i]? =some v->S.ae[i]? =some x->Cw w r fz v x/\v.i=i/\v.s=s
 apart:∀(i j r r':Nat) (v v':Cv),i≠j->C.rs[i]? =some r->C.rs[j]? =some r'->C.vs[i]? =some v->C.vs[j]? =some v'->∀k,Fp r v k->¬Fp r' v' k
 low:∀(i r:Nat) (v:Cv),C.rs[i]? =some r->C.vs[i]? =some v->∀k,Fp r v k->2<k
 maps:C.lb≠C.mo/\C.lb≠C.mr/\C.mo≠C.mr
 RO:∀k,C.cb.ownBlock=some k->2<k
 gl:Gl w C.p C.ev
def jB (s:Nat) (C:Cp) (k:Nat):Prop:=k=s\/k=C.st\/k=C.lk\/k=C.lb\/k=C.mo\/k=C.mr\/C.cb.ownBlock=some k\/∃(i r:Nat) (v:Cv),C.rs[i]? =some r/\C.vs[i]? =some v/\Fp r v k
theorem oO {α:Type} {l:List α} {i:Nat} (h:i<l.length):∃x,l[i]? =some x:=⟨l[i],List.getElem?_eq_getElem h⟩
section
variable {w w':World} {s:Nat} {C:Cp} {m:Int} {S:Sv} {fz:Nat×Nat}
theorem gT.conn (h:gT w s C m S fz) {i:Nat} {x:Cn} (hx:S.ae[i]? =some x):∃r v,C.rs[i]? =some r/\C.vs[i]? =some v/\Cw w r fz v x/\v.i=i/\v.s=s:=by have aI:=(List.getElem?_eq_some_iff.1 hx).1;obtain ⟨r,hr⟩:=oO (l:=C.rs) (i:=i) (by rw [h.len];exact aI);obtain ⟨v,hv⟩:=oO (l:=C.vs) (i:=i) (by rw [h.mW];exact aI);exact ⟨r,v,hr,hv,h.cn i r v x hr hv hx⟩
theorem gT.cs (h:gT w s C m S fz):Cs w C.rs S.ae:=⟨h.len,λi r x hr hx=>by
 obtain ⟨r',v,jf,hv,hc,_⟩:=h.conn hx;rw [hr] at jf;obtain rfl:=Option.some.inj jf;exact ⟨fz,v,hc.cx.cb⟩⟩
theorem aEu {r:Nat} {v:Cv} {x:Cn} (h:Cw w r fz v x) {k:Nat} (hk:Fp r v k):k<w.heap.size:=by
 rcases hk with rfl|hk|hk
 ·exact aM.lt h.cx.cb
 ·exact (h.cx.au.lt k hk).2
 ·obtain ⟨vs,o1,_⟩:=h.cx.ah;exact (o1.lt k hk).2
theorem gT.lt (h:gT w s C m S fz) {k:Nat} (hk:jB s C k):k<w.heap.size:=by
 rcases hk with rfl|rfl|rfl|rfl|rfl|rfl|hk|⟨i,r,v,hr,hv,hk⟩
 ·exact h.sr.blk.lt
 ·exact h.jC.blk.lt
 ·exact h.nO.blk.lt
 ·exact h.nO.map.lt
 ·exact h.jC.ah.lt
 ·exact h.jC.refs.lt
 ·exact (h.sr.row.lt k hk).2
 ·obtain ⟨x,hx⟩:=oO (l:=S.ae) (i:=i) (by rw [<-h.len];exact (List.getElem?_eq_some_iff.1 hr).1);exact aEu (h.cn i r v x hr hv hx).1 hk
theorem gT.aA {T:Nat->Prop} (h:gT w s C m S fz) (hc:aj T w w') (hs:Rx.Safe w T) (hn:∀k,jB s C k->¬T k) (h0:¬T 0) (h1:¬T 1) (h2:¬T 2):gT w' s C m S fz where
 sr:=h.sr.aA hc (hn _ (.inl rfl)) (λk hk=>hn k (.inr (.inr (.inr (.inr (.inr (.inr (.inl hk))))))))
 jC:=h.jC.aA hc hs (hn _ (.inr (.inl rfl))) (hn _ (.inr (.inr (.inr (.inr (.inl rfl)))))) (hn _ (.inr (.inr (.inr (.inr (.inr (.inl rfl)))))))
 nO:=h.nO.aA hc (hn _ (.inr (.inr (.inl rfl)))) (hn _ (.inr (.inr (.inr (.inl rfl)))))
 len:=h.len
 mW:=h.mW
 cn i r v x hr hv hx:=⟨(h.cn i r v x hr hv hx).1.aA hc hs (λk hk=>hn k (.inr (.inr (.inr (.inr (.inr (.inr (.inr ⟨i,r,v,hr,hv,hk⟩)))))))),(h.cn i r v x hr hv hx).2⟩
 apart:=h.apart
 low:=h.low
 maps:=h.maps
 RO:=h.RO
 gl:=h.gl.aA hc h0 h1 h2
theorem QJ (h:gT w s C m S fz):Rx.Safe w (·=s):=λk cur T jo hk hb=>by
 subst hk;have:=h.sr.blk;unfold aM at this;rw [this] at hb;injection hb with hb;injection hb with _ hb _;subst hb;decide
theorem gT.aDD (h:gT w s C m S fz):∀k,k=s->(k≠0/\k≠1/\k≠2):=by
 rintro k rfl;have hb:=h.sr.blk;refine ⟨?_,?_,?_⟩
 ·rintro rfl;have:=h.gl.more;rw [hb.cell] at this;simp at this
 ·rintro rfl;have:=h.gl.et;rw [hb.cell] at this;simp at this
 ·rintro rfl;have:=h.gl.QI;rw [hb.cell] at this;have h2:=h.gl.oU;simp at this;rw [<-this] at h2;rcases h2 with h2|⟨_,_,h2⟩<;>cases h2
theorem gT.zb (h:gT w s C m S fz):s≠C.st/\s≠C.lk/\s≠C.lb/\s≠C.mo/\s≠C.mr/\C.cb.ownBlock≠some s:=by refine ⟨h.sr.blk.ne h.jC.blk (by decide),h.sr.blk.ne h.nO.blk (by decide),h.sr.blk.dV h.nO.map,λe=>?_,h.sr.blk.dV h.jC.refs,h.sr.IJ⟩;exact h.jC.ah.eQ _ _ _ (e▸h.sr.blk)
theorem gT.lock (h:gT w s C m S fz) (m':Int):gT (w.setCell ⟨s,0,none⟩ (.int .i32 m')) s C m' S fz:=by have hc:aj (·=s) w (w.setCell ⟨s,0,none⟩ (.int .i32 m')):=(aj.refl (·=s) w).setCell (p:=⟨s,0,none⟩) (.inl rfl) _;have hn:=h.zb;have hl:=h.aDD s rfl;have hs:=QJ h;refine ⟨h.sr.lock m',h.jC.aA hc hs (Ne.symm hn.1) (Ne.symm hn.2.2.2.1) (Ne.symm hn.2.2.2.2.1),h.nO.aA hc (Ne.symm hn.2.1) (Ne.symm hn.2.2.1),h.len,h.mW,λi r v x hr hv hx=>?_,h.apart,h.low,h.maps,h.RO,h.gl.aA hc (Ne.symm hl.1) (Ne.symm hl.2.1) (Ne.symm hl.2.2)⟩;obtain ⟨c1,c2⟩:=h.cn i r v x hr hv hx;exact ⟨c1.aA hc hs (λk hk e=>by subst e;exact c1.cx.off h.sr.blk (by decide) (by decide) (by decide) hk),c2⟩
end
def Plain (o:Obj):Prop:=∀c t fz,o=.cells c t fz->fz=(0,0)
def Alike (w w':World):Prop:=∀(b:Nat) (o:Obj),w.heap[b]? =some o->Plain o->w'.heap[b]? =some o
section
variable {w w':World}
theorem IX {c:Array Value} {t:TypeId}:Plain (.cells c t (0,0)):=λ_ _ _ e=>by cases e;rfl
theorem JK (ha:Alike w w') {b:Nat} {xs:Array Value} {t:TypeId} (h:aM w b xs t (0,0)):aM w' b xs t (0,0):=ha b _ h IX
theorem qI (ha:Alike w w') {B E z n:Nat} {v:Value} {xs:List Value} (h:w.ownsRow B E z v n xs):w'.ownsRow B E z v n xs:=by
 obtain ⟨hl,hc⟩:=h;refine ⟨hl,?_⟩;rcases hc with hc|⟨g,cap,cur,h0,h1,h2,h3⟩
 ·exact .inl hc
 ·exact .inr ⟨g,cap,cur,h0,h1,ha _ _ h2 IX,h3⟩
theorem Qi (ha:Alike w w') {b:Nat} {m:M Value} (h:Mp.SM w b m):Mp.SM w' b m:=by obtain ⟨es,clock,hb,r⟩:=h;exact ⟨es,clock,ha _ _ hb (λc t jo e=>by cases e),r⟩
theorem aEE (ha:Alike w w') {t:B} {v:Value} (h:Ob w t v):Ob w' t v:=by obtain ⟨o,b,n,h1,h2,h3,h4,h5⟩:=h;exact ⟨o,b,n,h1,h2,ha _ _ h3 IX,qI ha h4,h5⟩
theorem aLy (ha:Alike w w') {b:Nat} {m:M B} (h:OM w b m):OM w' b m:=by obtain ⟨mv,h1,h2⟩:=h;exact ⟨mv,Qi ha h1,h2.mono λk x y _ hr=>aEE ha hr⟩
theorem gT.alike {fz jo:Nat×Nat} {s:Nat} {C:Cp} {m:Int} {S:Sv} (h:gT w s C m S fz) (ha:Alike w w') (hr:∀r∈C.rs,∀c t,w.heap[r]? =some (.cells c t fz)->w'.heap[r]? =some (.cells c t jo)) (hg:∀a,w'.cell? a=w.cell? a):gT w' s C m S jo where
 sr:=⟨JK ha h.sr.blk,qI ha h.sr.row⟩
 jC:=⟨JK ha h.jC.blk,aLy ha h.jC.ah,Qi ha h.jC.refs⟩
 nO:=⟨JK ha h.nO.blk,Qi ha h.nO.map⟩
 len:=h.len
 mW:=h.mW
 cn i r v x jf hv hx:=by
  obtain ⟨c1,c2⟩:=h.cn i r v x jf hv hx;refine ⟨⟨⟨?_,qI ha c1.cx.au,?_⟩,?_⟩,c2⟩
  ·exact hr r (List.mem_of_getElem? jf) _ _ c1.cx.cb
  ·obtain ⟨vs,o1,o2⟩:=c1.cx.ah;exact ⟨vs,qI ha o1,o2.mono λa b _ hr=>aEE ha hr⟩
  ·have hw:=c1.wk;unfold FE at hw ⊢;split at hw
   ·exact hw
   ·obtain ⟨w1,q,cap,w2,w3,w4⟩:=hw;refine ⟨w1,q,cap,w2,w3,λuK=>?_⟩;obtain ⟨g,o,cur,g1,g2,g3⟩:=w4 uK;exact ⟨g,o,cur,g1,ha _ _ g2 IX,g3⟩
   ·obtain ⟨bx,w1,w2⟩:=hw;exact ⟨bx,w1,JK ha w2⟩
   ·exact hw
 apart:=h.apart
 low:=h.low
 maps:=h.maps
 RO:=h.RO
 gl:=⟨(hg _).trans h.gl.more,(hg _).trans h.gl.et,(hg _).trans h.gl.QI,h.gl.oU⟩
theorem Ex {τ:Nat->Question->Nat} {d:Nat}:Alike (Ka.re w τ d) w/\Alike w (Ka.re w τ d):=⟨λ_ _ h _=>h,λ_ _ h _=>h⟩
theorem gT.QZ {fz:Nat×Nat} {s:Nat} {C:Cp} {m:Int} {S:Sv} {τ:Nat->Question->Nat} {d:Nat} (h:gT (Ka.re w τ d) s C m S fz):gT w s C m S fz:=h.alike Ex.1 (λ_ _ _ _ e=>e) (λ_=>rfl)
theorem gT.re {fz:Nat×Nat} {s:Nat} {C:Cp} {m:Int} {S:Sv} {τ:Nat->Question->Nat} {d:Nat} (h:gT w s C m S fz):gT (Ka.re w τ d) s C m S fz:=h.alike Ex.2 (λ_ _ _ _ e=>e) (λ_=>rfl)
end
section
open Co
variable {Z:Gh} {w:World} {ψ:Nat}
def Frz (Z:Gh) (w:World) (fz:Nat×Nat):Prop:=∀r,Z.iq r->¬Z.bP r->∃c t,w.heap[r]? =some (.cells c t fz)/\tyC t
theorem aGQ {N:Code->Prop} {φ:Nat} {wa:World} (hv:Ka.Vw (Z.cut N tyC φ) w wa) (bY:Z.Wf):Frz Z w (Vg φ):=λr hc hs=>by
 obtain ⟨g,k,hk,rfl⟩:=hc;obtain ⟨cv,ca,t,e1,_,_,_,_,ht⟩:=hv.cut k.r 16 (lH bY hk);rw [zN bY hk] at e1;exact ⟨cv,t,e1,ht⟩
theorem xR {fz:Nat×Nat} (hz:Frz Z w fz) (bA:fz≠(0,0)):Alike w (Z.rc ψ w):=λb o ho h0=>by
 by_cases hc:Z.iq b
 ·by_cases hs:Z.bP b
  ·rw [aFg hs];exact ho
  ·obtain ⟨c,t,e,_⟩:=hz b hc hs;rw [ho] at e;exact absurd (h0 _ _ _ (Option.some.inj e)) bA
 ·rw [QW hc];exact ho
theorem gT.rc {fz:Nat×Nat} {s:Nat} {C:Cp} {m:Int} {S:Sv} (h:gT w s C m S fz) (hz:Frz Z w fz) (bA:fz≠(0,0)) (nk:∀r∈C.rs,Z.iq r/\¬Z.bP r):gT (Z.rc ψ w) s C m S (Vg ψ):=
 h.alike (xR hz bA) (λr hr c t e=>by
  rw [oG,e];simp only [Option.map_some];rw [if_pos (nk r hr)]) (λa=>aBY a)
end
end Re
namespace Re
open Tx Sp Wg Rd Bk Wi Se Rx Mp De Lo
def Tf (r:Nat) (v:Cv) (C:Cp) (k:Nat):Prop:=Fp r v k\/k=C.lk\/k=C.lb\/k=C.st\/k=C.mo\/k=C.mr
def Cp.iQ (C:Cp) (i:Nat) (v:Cv):Cp:={C with vs:=C.vs.set i v}
section
variable {w w':World} {s:Nat} {C:Cp} {m:Int} {S:Sv} {fz:Nat×Nat}
theorem xH {b:Nat} {mv:M Value} (h:SM w b mv):∀xs t fz,w.heap[b]? ≠some (.cells xs t fz):=by obtain ⟨es,clock,hb,_⟩:=h;intro xs t fz e;rw [hb] at e;cases e
theorem qG {b:Nat} {xs xs':Array Value} {t t':TypeId} {fz jo:Nat×Nat} (h:aM w b xs t fz) (e:w.heap[b]? =some (.cells xs' t' jo)):t'=t:=by unfold aM at h;rw [h] at e;injection e with e;injection e with _ e _;exact e.symm
theorem zh {B E z n k:Nat} {v:Value} {xs:List Value} (h:w.ownsRow B E z v n xs) (hk:v.ownBlock=some k) {cur:Array Value} {T:TypeId} {jo:Nat×Nat} (hb:w.heap[k]? =some (.cells cur T jo)):T=E:=by obtain ⟨Ej,kz⟩:=bq h hk;rw [kz] at hb;injection hb with hb;injection hb with _ hb _;exact hb.symm
theorem gT.types (h:gT w s C m S fz) {k:Nat} (hk:jB s C k) {cur:Array Value} {T:TypeId} {jo:Nat×Nat} (hb:w.heap[k]? =some (.cells cur T jo)):(k=s/\T=79)\/(k=C.st/\T=65)\/(k=C.lk/\T=69)\/(C.cb.ownBlock=some k/\T=91)\/(k∈C.rs/\T=99)\/T=142\/T=106:=by
 rcases hk with rfl|rfl|rfl|rfl|rfl|rfl|hk|⟨i,r,v,hr,hv,hk⟩
 ·exact .inl ⟨rfl,qG h.sr.blk hb⟩
 ·exact .inr (.inl ⟨rfl,qG h.jC.blk hb⟩)
 ·exact .inr (.inr (.inl ⟨rfl,qG h.nO.blk hb⟩))
 ·exact absurd hb (xH h.nO.map _ _ _)
 ·exact absurd hb (h.jC.ah.eQ _ _ _)
 ·exact absurd hb (xH h.jC.refs _ _ _)
 ·exact .inr (.inr (.inr (.inl ⟨hk,zh h.sr.row hk hb⟩)))
 ·obtain ⟨x,hx⟩:=oO (l:=S.ae) (i:=i) (by rw [<-h.len];exact (List.getElem?_eq_some_iff.1 hr).1);have hc:=(h.cn i r v x hr hv hx).1;rcases hk with rfl|hk|hk
  ·exact .inr (.inr (.inr (.inr (.inl ⟨List.mem_of_getElem? hr,qG hc.cx.cb hb⟩))))
  ·exact .inr (.inr (.inr (.inr (.inr (.inl (zh hc.cx.au hk hb))))))
  ·obtain ⟨vs,o1,_⟩:=hc.cx.ah;exact .inr (.inr (.inr (.inr (.inr (.inr (zh o1 hk hb))))))
theorem gT.safe (h:gT w s C m S fz) {T:Nat->Prop} (hT:∀k,T k->jB s C k/\C.cb.ownBlock≠some k):Rx.Safe w T:=λk cur t jo hk hb=>by
 rcases h.types (hT k hk).1 hb with ⟨_,rfl⟩|⟨_,rfl⟩|⟨_,rfl⟩|⟨e,_⟩|⟨_,rfl⟩|rfl|rfl
 iterate 3 decide
 ·exact absurd e (hT k hk).2
 all_goals decide
theorem gT.two (h:gT w s C m S fz):2<w.heap.size:=World.block_lt_of_cell? w _ h.gl.QI
theorem wI {b i:Nat} {u:Value} (hb:w.cell? ⟨b,i,none⟩=some u):∃xs t fz,w.heap[b]? =some (.cells xs t fz):=by
 unfold World.cell? at hb;split at hb
 ·exact ⟨_,_,_,by assumption⟩
 ·cases hb
theorem gT.high (h:gT w s C m S fz) {k:Nat} (hk:jB s C k):2<k:=by
 have hc:∀{b:Nat} {u:Value},w.cell? ⟨b,0,none⟩=some u->(∀t x,u≠.iface t x)->u≠.nilIface->2<b:=by
  intro b u hb h1 h2;by_cases e:2<b
  ·exact e
  ·have:b=0\/b=1\/b=2:=by omega
   rcases this with rfl|rfl|rfl
   ·rw [h.gl.more] at hb;exact absurd (Option.some.inj hb).symm (h1 _ _)
   ·rw [h.gl.et] at hb;exact absurd (Option.some.inj hb).symm (h1 _ _)
   ·rw [h.gl.QI] at hb;have hb:=Option.some.inj hb;rcases h.gl.oU with e|⟨_,_,e⟩
    ·exact absurd (hb.symm.trans e) h2
    ·exact absurd (hb.symm.trans e) (h1 _ _)
 have hm:∀{b:Nat},(∀xs t fz,w.heap[b]? ≠some (.cells xs t fz))->2<b:=by
  intro b hb;by_cases e:2<b
  ·exact e
  ·exfalso;have:b=0\/b=1\/b=2:=by omega
   rcases this with rfl|rfl|rfl
   ·obtain ⟨_,_,_,e⟩:=wI h.gl.more;exact hb _ _ _ e
   ·obtain ⟨_,_,_,e⟩:=wI h.gl.et;exact hb _ _ _ e
   ·obtain ⟨_,_,_,e⟩:=wI h.gl.QI;exact hb _ _ _ e
 rcases hk with rfl|rfl|rfl|rfl|rfl|rfl|hk|⟨i,r,v,hr,hv,hk⟩
 ·exact hc (h.sr.blk.at (i:=0) rfl) nofun nofun
 ·exact hc (h.jC.blk.at (i:=0) rfl) nofun nofun
 ·exact hc (h.nO.blk.at (i:=0) rfl) nofun nofun
 ·exact hm (xH h.nO.map)
 ·exact hm h.jC.ah.eQ
 ·exact hm (xH h.jC.refs)
 ·exact h.RO k hk
 ·exact h.low i r v hr hv k hk
theorem Bq {i r:Nat} {v:Cv} (hr:C.rs[i]? =some r) (hv:C.vs[i]? =some v) {k:Nat} (hk:Tf r v C k):jB s C k:=by
 rcases hk with hk|hk|hk|hk|hk|hk
 ·exact .inr (.inr (.inr (.inr (.inr (.inr (.inr ⟨i,r,v,hr,hv,hk⟩))))))
 ·exact .inr (.inr (.inl hk))
 ·exact .inr (.inr (.inr (.inl hk)))
 ·exact .inr (.inl hk)
 ·exact .inr (.inr (.inr (.inr (.inl hk))))
 ·exact .inr (.inr (.inr (.inr (.inr (.inl hk)))))
theorem gT.Qc (h:gT w s C m S fz) {i r:Nat} {v:Cv} {x:Cn} (hr:C.rs[i]? =some r) (hv:C.vs[i]? =some v) (hx:S.ae[i]? =some x) {k:Nat} (hk:Tf r v C k):k≠s/\C.cb.ownBlock≠some k:=by
 have wX:=(h.cn i r v x hr hv hx).1.cx;refine ⟨?_,λe=>?_⟩
 ·rintro rfl;rcases hk with hk|hk|hk|hk|hk|hk
  ·exact wX.off h.sr.blk (by decide) (by decide) (by decide) hk
  ·exact h.zb.2.1 hk
  ·exact h.zb.2.2.1 hk
  ·exact h.zb.1 hk
  ·exact h.zb.2.2.2.1 hk
  ·exact h.zb.2.2.2.2.1 hk
 ·obtain ⟨cur,hb⟩:=bq h.sr.row e;rcases hk with hk|rfl|rfl|rfl|rfl|rfl
  ·exact wX.off hb (by decide) (by decide) (by decide) hk
  ·exact absurd (qG h.nO.blk hb) (by decide)
  ·exact xH h.nO.map _ _ _ hb
  ·exact absurd (qG h.jC.blk hb) (by decide)
  ·exact h.jC.ah.eQ _ _ _ hb
  ·exact xH h.jC.refs _ _ _ hb
theorem jR {α:Type} {l:List α} {i j:Nat} {a b:α} (h:(l.set i a)[j]? =some b):(i=j/\b=a)\/(i≠j/\l[j]? =some b):=by
 rw [List.getElem?_set] at h;split at h
 ·rename_i e;split at h
  ·exact .inl ⟨e,(Option.some.inj h).symm⟩
  ·cases h
 ·exact .inr ⟨by assumption,h⟩
theorem gT.aDy (h:gT w s C m S fz) {i r:Nat} {v v':Cv} {x c':Cn} {st':St} {VG:M Nat} (hr:C.rs[i]? =some r) (hv:C.vs[i]? =some v) (hx:S.ae[i]? =some x) (hw:Cw w' r fz v' c') (hl:Lk w' C.lk C.lb VG) (dN:qZ w' C.st C.mo C.mr 0 st')
 (Bc:v'.i=v.i/\v'.s=v.s/\v'.o=v.o/\v'.a=v.a) (hf:∀k,Fp r v' k->Fp r v k\/w.heap.size<=k) (hc:aj (λk=>k=s\/Tf r v C k) w w') {m':Int} (BF:Sr w' s C.st C.lk m' C.cb C.rs):gT w' s (C.iQ i v') m' {S with st:=st',aP:=VG,ae:=S.ae.set i c'} fz:=by
 have hft:∀k,(k=s\/Tf r v C k)->jB s C k:=λk hk=>hk.elim .inl λhk=>Bq hr hv hk;have ru:Rx.Safe w (λk=>k=s\/Tf r v C k):=h.safe λk hk=>⟨hft k hk,hk.elim (λe=>e▸h.sr.IJ) λhk=>(h.Qc hr hv hx hk).2⟩
 have hhi:∀k,(k=s\/Tf r v C k)->2<k:=λk hk=>h.high (hft k hk);have wX:=(h.cn i r v x hr hv hx)
 refine ⟨BF,dN,hl,by simp only [List.length_set];exact h.len,by simp only [Cp.iQ,List.length_set];exact h.mW,?_,?_,?_,h.maps,h.RO,
  h.gl.aA hc (λe=>by have:=hhi _ e;omega) (λe=>by have:=hhi _ e;omega) (λe=>by have:=hhi _ e;omega)⟩
 ·intro j r' u y jf hu hy;rcases jR hu with ⟨rfl,rfl⟩|⟨bA,hu⟩
  ·rcases jR hy with ⟨_,rfl⟩|⟨bA,_⟩
   ·obtain rfl:r=r':=Option.some.inj (hr.symm.trans jf);exact ⟨hw,Bc.1.trans wX.2.1,Bc.2.1.trans wX.2.2⟩
   ·exact absurd rfl bA
  ·rcases jR hy with ⟨rfl,_⟩|⟨_,hy⟩
   ·exact absurd rfl bA
   ·obtain ⟨c1,c2⟩:=h.cn j r' u y jf hu hy;refine ⟨c1.aA hc ru (λk hk e=>?_),c2⟩;rcases e with rfl|e|rfl|rfl|rfl|rfl|rfl
    ·exact c1.cx.off h.sr.blk (by decide) (by decide) (by decide) hk
    ·exact h.apart j i r' r u v (Ne.symm bA) jf hr hu hv k hk e
    ·exact c1.cx.off h.nO.blk (by decide) (by decide) (by decide) hk
    ·exact c1.cx.gp h.nO.map hk
    ·exact c1.cx.off h.jC.blk (by decide) (by decide) (by decide) hk
    ·obtain ⟨mv,h1,_⟩:=h.jC.ah;exact c1.cx.gp h1 hk
    ·exact c1.cx.gp h.jC.refs hk
 ·have key:∀(j r':Nat) (u:Cv),j≠i->C.rs[j]? =some r'->C.vs[j]? =some u->∀k,Fp r v' k->¬Fp r' u k:=by
   intro j r' u bA jf hu k hk lh;obtain ⟨y,hy⟩:=oO (l:=S.ae) (i:=j) (by rw [<-h.len];exact (List.getElem?_eq_some_iff.1 jf).1);rcases hf k hk with hk|hk
   ·exact h.apart i j r r' v u (Ne.symm bA) hr jf hv hu k hk lh
   ·have:=aEu (h.cn j r' u y jf hu hy).1 lh;omega
  intro a b ra rb va vb hab ha hb hva hvb k hk lh;rcases jR hva with ⟨rfl,rfl⟩|⟨hna,aJ1⟩
  ·rcases jR hvb with ⟨rfl,_⟩|⟨Zg,aFX⟩
   ·exact hab rfl
   ·obtain rfl:r=ra:=Option.some.inj (hr.symm.trans ha);exact key b rb vb (Ne.symm Zg) hb aFX k hk lh
  ·rcases jR hvb with ⟨rfl,rfl⟩|⟨Zg,aFX⟩
   ·obtain rfl:r=rb:=Option.some.inj (hr.symm.trans hb);exact key a ra va (Ne.symm hna) ha aJ1 k lh hk
   ·exact h.apart a b ra rb va vb hab ha hb aJ1 aFX k hk lh
 ·intro j r' u jf hu k hk;rcases jR hu with ⟨rfl,rfl⟩|⟨bA,hu⟩
  ·obtain rfl:r=r':=Option.some.inj (hr.symm.trans jf);rcases hf k hk with hk|hk
   ·exact h.low i r v hr hv k hk
   ·have:=h.two;omega
  ·exact h.low j r' u jf hu k hk
theorem gT.iQ (h:gT w s C m S fz) {i r:Nat} {v v':Cv} {x c':Cn} {st':St} {VG:M Nat} (hr:C.rs[i]? =some r) (hv:C.vs[i]? =some v) (hx:S.ae[i]? =some x) (hw:Cw w' r fz v' c') (hl:Lk w' C.lk C.lb VG) (dN:qZ w' C.st C.mo C.mr 0 st')
 (Bc:v'.i=v.i/\v'.s=v.s/\v'.o=v.o/\v'.a=v.a) (hf:∀k,Fp r v' k->Fp r v k\/w.heap.size<=k) (hc:aj (Tf r v C) w w'):gT w' s (C.iQ i v') m {S with st:=st',aP:=VG,ae:=S.ae.set i c'} fz:=
 h.aDy hr hv hx hw hl dN Bc hf (hc.mono λ_ _ e=>.inr e) (h.sr.aA hc (λe=>(h.Qc hr hv hx e).1 rfl) (λk hk e=>(h.Qc hr hv hx e).2 hk))
theorem yR {i r:Nat} {v v':Cv} (hr:C.rs[i]? =some r) (hv:C.vs[i]? =some v) (hf:∀k,Fp r v' k->Fp r v k\/w.heap.size<=k) {k:Nat} (hk:jB s (C.iQ i v') k):jB s C k\/w.heap.size<=k:=by
 rcases hk with hk|hk|hk|hk|hk|hk|hk|⟨j,r',u,jf,hu,hk⟩
 ·exact .inl (.inl hk)
 ·exact .inl (.inr (.inl hk))
 ·exact .inl (.inr (.inr (.inl hk)))
 ·exact .inl (.inr (.inr (.inr (.inl hk))))
 ·exact .inl (.inr (.inr (.inr (.inr (.inl hk)))))
 ·exact .inl (.inr (.inr (.inr (.inr (.inr (.inl hk))))))
 ·exact .inl (.inr (.inr (.inr (.inr (.inr (.inr (.inl hk)))))))
 ·rcases jR hu with ⟨rfl,rfl⟩|⟨bA,hu⟩
  ·obtain rfl:r=r':=Option.some.inj (hr.symm.trans jf);rcases hf k hk with hk|hk
   ·exact .inl (.inr (.inr (.inr (.inr (.inr (.inr (.inr ⟨_,_,_,hr,hv,hk⟩)))))))
   ·exact .inr hk
  ·exact .inl (.inr (.inr (.inr (.inr (.inr (.inr (.inr ⟨_,_,_,jf,hu,hk⟩)))))))
end
end Re
namespace Re
open Tx Sp Wg Rd Bk Wi Se Rx Mp De Lo
section
variable {q:Bool} {w w':World} {s i r:Nat} {C:Cp} {m m':Int} {S:Sv} {fz:Nat×Nat} {v:Cv} {x c':Cn}
theorem xK {α:Type} {l:List α} {i:Nat} {x:α} (h:l[i]? =some x):l.set i x=l:=by
 apply List.ext_getElem?;intro j;rw [List.getElem?_set];split
 ·rename_i e;subst e;have:=(List.getElem?_eq_some_iff.1 h).1;rw [if_pos this,h]
 ·rfl
theorem gT.own (h:gT w s C m S fz) (hc:aj (·=s) w w') (BF:Sr w' s C.st C.lk m' C.cb C.rs):gT w' s C m' S fz:=by have hn:=h.zb;have hl:=h.aDD s rfl;have hs:=QJ h;refine ⟨BF,h.jC.aA hc hs (Ne.symm hn.1) (Ne.symm hn.2.2.2.1) (Ne.symm hn.2.2.2.2.1),h.nO.aA hc (Ne.symm hn.2.1) (Ne.symm hn.2.2.1),h.len,h.mW,λi r v x hr hv hx=>?_,h.apart,h.low,h.maps,h.RO,h.gl.aA hc (Ne.symm hl.1) (Ne.symm hl.2.1) (Ne.symm hl.2.2)⟩;obtain ⟨c1,c2⟩:=h.cn i r v x hr hv hx;exact ⟨c1.aA hc hs (λk hk e=>by subst e;exact c1.cx.off h.sr.blk (by decide) (by decide) (by decide) hk),c2⟩
structure CR (w:World) (s:Nat) (C:Cp) (m:Int) (fz:Nat×Nat) (S':Sv) (C':Cp) (w':World):Prop where
 rs:C'.rs=C.rs
 rep:gT w' s C' m S' fz
 wo:∀k,jB s C' k->jB s C k\/w.heap.size<=k
 aA:aj (jB s C) w w'
theorem gT.Yj (h:gT w s C m S fz) (hc:aj (λk=>k=s) w w') (BF:Sr w' s C.st C.lk m' C.cb C.rs):CR w s C m' fz S C w':=
 ⟨rfl,h.own hc BF,λ_ hk=>.inl hk,hc.mono λ_ _ e=>.inl e⟩
theorem gT.one (h:gT w s C m S fz) (hr:C.rs[i]? =some r) (hv:C.vs[i]? =some v) (hx:S.ae[i]? =some x) (hc:aj (λk=>k=s\/k=r) w w') (BF:Sr w' s C.st C.lk m' C.cb C.rs) (hb:Cb w' r fz v c')
 (h1:c'.au=x.au) (h2:c'.ah=x.ah) (h3:c'.work=x.work) (h4:c'.aY=x.aY):CR w s C m' fz {S with ae:=S.ae.set i c'} (C.iQ i v) w':=by
 obtain ⟨qX,hvi,EE⟩:=h.cn i _ v x hr hv hx;have wX:=qX.cx;have Ao:r≠s:=Sr.um h.sr wX.cb;have ru:Rx.Safe w (λk=>k=s\/k=r):=λk cur T jo hk wY=>by
  rcases hk with rfl|rfl
  ·rw [qG h.sr.blk wY];decide
  ·rw [qG wX.cb wY];decide
 have nP:∀k,Fp r v k->k=r\/¬(k=s\/k=r):=λk hk=>by
  by_cases e:k=r
  ·exact .inl e
  ·refine .inr ?_;rintro (rfl|rfl)
   ·exact wX.off h.sr.blk (by decide) (by decide) (by decide) hk
   ·exact e rfl
 have MP:Cw w' r fz v c':=⟨wX.reb hc ru hb nP h1 h2 rfl rfl,(qX.wk.aA hc ru).same h3 h4 rfl rfl⟩
 have hl:Lk w' C.lk C.lb S.aP:=h.nO.aA hc (by
  rintro (e|e)
  ·exact h.zb.2.1 e.symm
  ·exact aM.ne h.nO.blk wX.cb (by decide) e) (by
  rintro (e|e)
  ·exact h.zb.2.2.1 e.symm
  ·exact aM.dV wX.cb h.nO.map e.symm)
 have dN:qZ w' C.st C.mo C.mr 0 S.st:=by
  refine h.jC.aA hc ru ?_ ?_ ?_
  ·rintro (e|e)
   ·exact h.zb.1 e.symm
   ·exact aM.ne h.jC.blk wX.cb (by decide) e
  ·rintro (e|e)
   ·exact h.zb.2.2.2.1 e.symm
   ·obtain ⟨mv,g1,_⟩:=h.jC.ah;exact aM.dV wX.cb g1 e.symm
  ·rintro (e|e)
   ·exact h.zb.2.2.2.2.1 e.symm
   ·exact aM.dV wX.cb h.jC.refs e.symm
 refine ⟨rfl,?_,λk hk=>yR hr hv (λ_ e=>.inl e) hk,hc.mono λk _ e=>?_⟩
 ·exact h.aDy hr hv hx MP hl dN ⟨rfl,rfl,rfl,rfl⟩ (λk hk=>.inl hk) (hc.mono λk _ e=>by
   rcases e with e|e
   ·exact .inl e
   ·exact .inr (.inl (.inl e))) BF
 ·rcases e with e|e
  ·exact .inl e
  ·exact Bq hr hv (.inl (.inl e))
theorem Jv (h:gT w s C m S fz) (hI:oW q S):C.rs.length<=8:=h.len▸hI.Bl
theorem Z6 (h:gT w s C 0 S fz) (hI:oW q S) (hz:Fz fz) (c:Int) (t:ByteArray) (ht:t.size<=4611686018427387904):
 Calls Tq.prog 25 #[aG s,.int .i64 c,.string t] w λe w'=>∃C',e=.returned (.bool (S.feed c t.data.toList).2)/\CR w s C 0 fz (S.feed c t.data.toList).1 C' w':=by
 cases hc:S.conn c with
 |none=>
  have e:S.feed c t.data.toList=(S,false):=by unfold Sv.feed;rw [hc]
  rw [e];refine (Vi w s C.st C.lk C.cb C.rs c t S.ae h.sr (Jv h hI) h.cs ((RH S c).symm.trans hc)).mono ?_;rintro e w' ⟨rfl,h1,h2⟩;exact ⟨C,rfl,h.Yj h2 h1⟩
 |some p=>
  obtain ⟨i,x⟩:=p;obtain ⟨rfl,hx,ho⟩:=jc hc;obtain ⟨r,v,hr,hv,qX,_⟩:=h.conn hx;have nk:=hI.cn i x hx;cases hb:(x.ended||decide (600<x.nL.length+t.data.toList.length)) with
  |true=>
   have e:S.feed i t.data.toList=(S,false):=by unfold Sv.feed;rw [hc];dsimp only;rw [if_pos hb]
   rw [e];refine (Jw w s C.st C.lk C.cb C.rs i r fz v x t h.sr (Jv h hI) hr qX.cx.cb ho nk.nL ht (by simpa using hb)).mono ?_;rintro e w' ⟨rfl,h1,h2,h3⟩;have:=h.one hr hv hx h3 h1 h2 rfl rfl rfl rfl;rw [xK hx] at this;exact ⟨_,rfl,this⟩
  |false=>
   have e:S.feed i t.data.toList=(S.set i {x with nL:=x.nL++t.data.toList,rest:=x.rest++t.data.toList},true):=by unfold Sv.feed;rw [hc];dsimp only;rw [if_neg (by rw [hb];decide)]
   rw [e];have kz:x.ended=false/\x.nL.length+t.size<=600:=by simp only [Bool.or_eq_false_iff,decide_eq_false_iff_not,Nat.not_lt] at hb;exact ⟨hb.1,by simpa using hb.2⟩
   refine (Ee w s C.st C.lk C.cb C.rs i r fz v x t h.sr (Jv h hI) hr qX.cx.cb ho hz (Nat.le_trans nk.rest nk.nL) kz.1 kz.2).mono ?_;rintro e w' ⟨rfl,h1,h2,h3⟩;exact ⟨_,rfl,h.one hr hv hx h3 h1 h2 rfl rfl rfl rfl⟩
theorem TT (h:gT w s C 0 S fz) (hI:oW q S) (c:Int):
 Calls Tq.prog 29 #[aG s,.int .i64 c] w λe w'=>e=.returned (.tuple #[av (S.bR c).1,.bool (S.bR c).2])/\CR w s C 0 fz S C w':=by
 by_cases hc:c<0\/(C.rs.length:Int)<=c
 ·have e:S.bR c=([],false):=by
   unfold Sv.bR;rcases hc with hc|hc
   ·rw [if_pos hc]
   ·rw [if_neg (by omega),List.getElem?_eq_none (by rw [<-h.len];omega)]
  rw [e];refine (TU w s C.st C.lk C.cb C.rs c h.sr (Jv h hI) hc).mono ?_;rintro e w' ⟨rfl,h1,h2⟩;exact ⟨rfl,h.Yj h2 h1⟩
 ·obtain ⟨n,rfl⟩:∃n:Nat,c=n:=⟨c.toNat,by omega⟩
  obtain ⟨x,hx⟩:=oO (l:=S.ae) (i:=n) (by rw [<-h.len];omega);obtain ⟨r,v,hr,hv,qX,_⟩:=h.conn hx;have e:S.bR n=(if x.over&&x.bK then x.bR else [],x.over&&x.bK):=by unfold Sv.bR;rw [if_neg (by omega),show ((n:Int).toNat)=n from rfl,hx];dsimp only;split<;>simp_all
  rw [e];refine (XU w s C.st C.lk C.cb C.rs n r fz v x h.sr (Jv h hI) hr qX.cx.cb).mono ?_;rintro e w' ⟨rfl,h1,h2⟩;exact ⟨rfl,h.Yj h2 h1⟩
end
end Re
section
open VW Go.Maps Go.Sort
namespace Tz
open Tx Sp Mp Bk Wg Rd Rx Se Lo
theorem aGO {α:Type} {m:M α} (hn:(m.map (·.1)).Nodup) {p:B×α} (hp:p∈m):m.get p.1=some p.2:=by
 unfold M.get
 induction m with
 |nil=>cases hp
 |cons x m ih=>
  rw [List.map_cons,List.nodup_cons] at hn;rcases List.mem_cons.1 hp with rfl|hp
  ·simp
  ·have:x.1≠p.1:=λe=>hn.1 (e▸List.mem_map_of_mem hp);rw [List.find?_cons_of_neg (by simpa using this)];exact ih hn.2 hp
def TW (p:B×B):List Value:=[av p.1,av p.2]
theorem aJP:(Tq.prog.info? 51).map (λi=>(i.zero,i.size,i.bytes))=some (some (.agg #[.string ByteArray.empty,.string ByteArray.empty]),2,32):=(by kernel_rfl)
structure RI (w wr:World) (s st mr:Nat) (cs:Array Value) (R:M B) (k:Nat) (v kv:Value):Prop where
 row:wr.ownsRow w.heap.size 51 2 v k ((R.take k).flatMap TW)
 keys:wr.ownsRow (w.heap.size+1) 9 1 kv R.length ((R.map (·.1)).map encStr)
 ne:∀g,v.ownBlock=some g->kv.ownBlock≠some g
 blk:aM wr st cs 65 (0,0)
 mp:SM wr mr (mapM av R)
 sc:wr.cell? ⟨s,2,none⟩=some (.pointer (some ⟨st,0,none⟩))
 aA:aj (λk=>k=st) w wr
theorem Dg (w:World) (s st lk mo mr:Nat) (μ:Int) (m:Int) (cb:Value) (rs:List Nat) (fw:Bool) (room:Int) (R:M B) (BF:Sr w s st lk m cb rs) (hb:aM w st #[.int .i32 0,.int .u32 0,.bool fw,.int .i64 room,.map (some mo),.map (some mr)] 65 (0,0)) (hm:SM w mr (mapM av R)) (hn:R.length<1099511627776) (bA:mr≠st):
 Calls Tq.prog 31 #[aG s] w λe w'=>∃v,e=.returned v/\w'.ownsRow w.heap.size 51 2 v R.length (R.flatMap TW)/\aM w' st #[.int .i32 0,.int .u32 0,.bool fw,.int .i64 room,.map (some mo),.map (some mr)] 65 (0,0)/\aj (λk=>k=st) w w':=by
 obtain ⟨i0,hi,uw,wQ,wP⟩:=info_parts Tryz.pI;have hnd:(R.map (·.1)).Nodup:=by have:=nodup_keys hm.rising;rwa [uq] at this
 have hlb:=hb.lt;have hmb:=hm.lt;have k2:w.cell? ⟨s,2,none⟩=some (.pointer (some ⟨st,0,none⟩)):=BF.blk.at (i:=2) rfl;have k0:w.cell? ⟨st,0,none⟩=some (.int .i32 0):=hb.at rfl;have f0:=hb.frozen (i:=0) (.inr (Nat.le_refl _));have hss:s≠st:=λe=>by
  have h1:=BF.blk;unfold aM at h1 hb;rw [e,hb] at h1;cases h1
 have ll:aM (w.setCell ⟨st,0,none⟩ (.int .i32 1)) st #[.int .i32 1,.int .u32 0,.bool fw,.int .i64 room,.map (some mo),.map (some mr)] 65 (0,0):=hb.set 0 _;have ry:SM (w.setCell ⟨st,0,none⟩ (.int .i32 1)) mr (mapM av R):=hm.block (Below.heap_setCell _ _ _ _ bA);have kr:(w.setCell ⟨st,0,none⟩ (.int .i32 1)).cell? ⟨st,5,none⟩=some (.map (some mr)):=ll.at rfl;have ks:(w.setCell ⟨st,0,none⟩ (.int .i32 1)).cell? ⟨s,2,none⟩=some (.pointer (some ⟨st,0,none⟩)):=by rw [World.cell?_setCell_other _ _ _ _ (λe=>hss (congrArg Addr.block e).symm)];exact k2
 have c1:aj (λk=>k=st) w (w.setCell ⟨st,0,none⟩ (.int .i32 1)):=(aj.refl (λk=>k=st) w).setCell (p:=⟨st,0,none⟩) (.inl rfl) _;have bW:(w.setCell ⟨st,0,none⟩ (.int .i32 1)).heap.size=w.heap.size:=by simp
 generalize sD:w.setCell ⟨st,0,none⟩ (.int .i32 1)=w1 at ll ry kr ks c1 bW;obtain ⟨i1,VQ,hy0,hy1,hy2⟩:=info_parts aJP;have UT:s<w1.heap.size:=World.block_lt_of_cell? w1 _ ks;obtain ⟨w2,hw2⟩:∃w2,w2=w1.alloc (.cells #[] 51):=⟨_,rfl⟩
 have hB:Below w1.heap.size w1 w2:=by rw [hw2];exact (Below.refl _ _).alloc (Nat.le_refl _) _
 have lu:w2.heap[w.heap.size]? =some (.cells #[] 51 (0,0)):=by rw [hw2,<-bW];exact heap_alloc_new _ _
 have Mo:w2.heap.size=w.heap.size+1:=by rw [hw2];simp [bW]
 have kr2:w2.cell? ⟨st,5,none⟩=some (.map (some mr)):=by unfold World.cell? at kr ⊢;rw [hB.block st (by omega)];exact kr
 have ks2:w2.cell? ⟨s,2,none⟩=some (.pointer (some ⟨st,0,none⟩)):=by unfold World.cell? at ks ⊢;rw [hB.block s UT];exact ks
 have ky:SM w2 mr (mapM av R):=ry.block (hB.block mr (by omega));have gQ:aM w2 st #[.int .i32 1,.int .u32 0,.bool fw,.int .i64 room,.map (some mo),.map (some mr)] 65 (0,0):=(hB.block st (by omega)).trans ll;have c2:aj (λk=>k=st) w w2:=c1.trans' (aj.jU (S:=λ_=>False) hB (λk h1 h2=>by omega)) (λ_ _ (e:False)=>e.elim);have C:=z39 (Ks.aFN w2 mr (mapM av R) ky (by rw [mapM_length];exact hn));rw [mapM_length,uq,Mo] at C;have X:=z39 (y39 gQ (y39 ky (y39 c2 (y39 lu hB))));clear hb hm ll ry c1 BF gQ ky c2 hB kr lu;replace hnd:=z39 hnd;replace hw2:=z39 hw2;unfold aG
 go_enter_defers Tq.func31,Tryz.ntmps31
 go_wp2_with (first
  |(go_at_call 38;refine (iR st 0 w k0 f0).mono ?_;rintro e w' ⟨rfl,rfl⟩;rw [sD])
  |(go_at_call 50;refine C.out.mono ?_;rintro e w3 ⟨v,rfl,ay,fJ⟩;obtain ⟨p,cap,rfl,dK⟩:=fZ ay)
  |(rw [<-hw2.out])
  |go_in)
 have aF4:=fJ.size;have aTY:s<w2.heap.size:=World.block_lt_of_cell? w2 _ ks2;have hI3:RI w w3 s st mr #[.int .i32 1,.int .u32 0,.bool fw,.int .i64 room,.map (some mo),.map (some mr)] R 0 (.slice (some ⟨w.heap.size,0,none⟩) 0 0) (.slice p R.length cap):=by
  refine ⟨⟨rfl,.inr ⟨w.heap.size,0,#[],rfl,Nat.le_refl _,(fJ.block _ (by omega)).trans X.out.2.2.2.1,Nat.le_refl _,Nat.zero_le _,rfl,rfl⟩⟩,ay,λg hg e=>?_,(fJ.block st (by omega)).trans X.out.1,X.out.2.1.block (fJ.block mr (by omega)),?_,X.out.2.2.1.trans' (aj.jU (S:=λ_=>False) fJ (λk h1 h2=>by omega)) (λ_ _ (e:False)=>e.elim)⟩
  ·obtain rfl:w.heap.size=g:=Option.some.inj hg;have:=(ay.lt _ e).1;omega
  ·unfold World.cell? at ks2 ⊢;rw [fJ.block s (by omega)];exact ks2
 have L0:=z39 hI3;clear fJ dK ay C hI3 X kr2 ks2
 go_loopw [3,29] (λv i wr=>∃k:Nat,i=.int .i64 k/\k<=R.length/\Hid (RI w wr s st mr #[.int .i32 1,.int .u32 0,.bool fw,.int .i64 room,.map (some mo),.map (some mr)] R k v (.slice p R.length cap))) (λ_ i _=>R.length - (intOf i).toNat)
 case atStart=>exact ⟨0,rfl,Nat.zero_le _,L0⟩
 case round=>
  rename_i wr;clear L0;obtain ⟨k,rfl,hk,HR⟩:=hrel;by_cases aI:k<R.length
  ·obtain ⟨ay,aD7,aO3,MU,hmp,ksc,hcg⟩:=HR.out;have kr3:wr.cell? ⟨st,5,none⟩=some (.map (some mr)):=MU.at rfl;obtain ⟨x,hx⟩:∃x,R[k]? =some x:=⟨R[k],List.getElem?_eq_getElem aI⟩
   obtain ⟨p',fM,ev,dK⟩:=fZ aD7;obtain ⟨a,rfl,hab,_,kc⟩:=dK k (encStr x.1) (by rw [List.map_map,List.getElem?_map,hx];rfl);obtain ⟨rfl,rfl⟩:p=some a/\cap=fM:=by injection ev with e1 _ e3;exact ⟨e1,e3⟩
   replace kc:wr.cell? (a.add k)=some (.string ⟨x.1.toArray⟩):=kc;have iP:=aGO hnd.out (List.mem_of_getElem? hx);have Mj:x.1.length<=maxLen:=hmp.keys _ (get_mem (by rw [mU,iP];rfl));have el:((M.get (mapM av R) x.1).getD (.string ByteArray.empty))=.string ⟨x.2.toArray⟩:=by rw [mU,iP];rfl
   have aUd:wr.heap.size>=w.heap.size:=hcg.size;have qw:(k:Int)<(R.length:Int):=by omega
   have HX:=z39 (y39 hx (y39 HR.out iP));clear aD7 aO3 MU dK ev hx iP HR hcg;go_wp2_with (first
    |(at_lookup;refine Mp.lookup rfl _ _ 56 rfl 9 ((Tq.underlying 56).trans Tryz.underlying56) (z:=.string ByteArray.empty) (by simp [Tryz.zeroValue9];rfl) mr _ rfl hmp ⟨x.1.toArray⟩ rfl Mj ?_;rw [el])
    |(at_builtin;refine wpList_append_own_at _ rfl _ _ 48 rfl w.heap.size 51 i1 (.agg #[.string ByteArray.empty,.string ByteArray.empty]) 2 32 ((Tq.underlying 48).trans Tryz.underlying48) VQ hy0 hy1 hy2 rfl (by decide) _ _ _ rfl (ay.alloc _) ⟨wr.heap.size,0,none⟩ 1 1 [.string ⟨x.1.toArray⟩,.string ⟨x.2.toArray⟩] rfl rfl ?c1 ?c2 ?c3 ?c4 ?c5 ?_)
    |go_in)
   case c1=>
    intro j u hj
    match j,hj with
    |0,hj=>simp at hj;subst hj;simp [Addr.add]
    |1,hj=>simp at hj;subst hj;simp [Addr.add]
   case c2=>intro u hu;simp at hu;rcases hu with rfl|rfl<;>rfl
   case c3=>unfold maxLen;omega
   case c4=>omega
   case c5=>simp;omega
   intro v' w4 jD aX _ oL;have hI:=HX.out.2.1;have hsw:st<w.heap.size:=hlb;have hold:∀j,j<wr.heap.size->u3.ownBlock≠some j->w4.heap[j]? =wr.heap[j]? :=λj hj bA=>(aX.block j (by simp;omega) (λe=>bA e.symm)).trans (heap_alloc_old _ _ hj);have aCS:∀j,j<w.heap.size->u3.ownBlock≠some j:=λj hj e=>by
    have:=(ay.lt j e).1;omega
   have MF:=hI.keys.lt a.block rfl;have G8:RI w w4 s st mr #[.int .i32 1,.int .u32 0,.bool fw,.int .i64 room,.map (some mo),.map (some mr)] R (k+1) v' (.slice (some a) R.length cap):=by
    refine ⟨?_,(hI.keys.alloc _).kept aX (.inr λe=>hI.ne a.block e.symm rfl),λg hg e=>?_,(hold st (by omega) (aCS st (by omega))).trans hI.blk,hI.mp.block (hold mr (by omega) (aCS mr (by omega))),?_,aj.grown (hI.aA.alloc _) aX (λj e=>.inr (ay.lt j e).1)⟩
    ·have:=jD;rw [List.take_succ,HX.out.1,List.flatMap_append];exact this
    ·rcases oL with e'|e'
     ·exact hI.ne g (e'.symm.trans hg) e
     ·rw [e'] at hg;obtain rfl:=Option.some.inj hg;obtain e:a.block=wr.heap.size+1:=Option.some.inj e;omega
    ·have hs:=hI.sc;unfold World.cell? at hs ⊢;rw [hold s (by omega) (aCS s (by omega))];exact hs
   replace G8:=z39 G8;clear jD aX oL ay hI hold aCS MF;go_wp2
   go_roundw
   case rel=>exact ⟨k+1,by go_num,by omega,G8⟩
   case measure=>simp [intOf];omega
  ·obtain rfl:k=R.length:=by omega
   go_wp2;have jE:=HR.out.blk;have k3:wr.cell? ⟨st,0,none⟩=some (.int .i32 1):=jE.at rfl;refine leaves_cons (f:=39) (args:=#[.pointer (some ⟨st,0,none⟩)]) (by simp) (by simp [go_sem]) ?_;refine (fE st 0 .returning wr k3 (jE.frozen (.inr (Nat.le_refl _)))).mono ?_;rintro e u' w3 ⟨rfl,rfl,rfl⟩;have ay:=HR.out.row;rw [List.take_length] at ay;have Ri:(wr.setCell ⟨st,0,none⟩ (.int .i32 0)).ownsRow w.heap.size 51 2 u3 R.length (R.flatMap TW):=⟨ay.1,ay.2.imp id λ⟨g,fM,cur,e,g1,g2,g3⟩=>⟨g,fM,cur,e,g1,(Below.heap_setCell _ _ _ _ (by show g≠st;omega)).trans g2,g3⟩⟩
   refine ⟨_,results_tmp rfl _ _ _,u3,rfl,Ri,jE.set 0 _,HR.out.aA.setCell (p:=⟨st,0,none⟩) (.inl rfl) _⟩
end Tz
end
