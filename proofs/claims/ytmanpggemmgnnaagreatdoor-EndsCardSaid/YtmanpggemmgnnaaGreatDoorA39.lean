/- Ends: a part. Conditions: none. -/
import Derived.Test.YtmanpggemmgnnaaGreatDoorA19
import Derived.Test.YtmanpggemmgnnaaGreatDoorA34
import Derived.Test.YtmanpggemmgnnaaGreatDoorA35
set_option linter.all false
set_option maxHeartbeats 8000000
set_option maxRecDepth 1000000
namespace Go.Proofs.YtmanpggemmgnnaaGreatDoor
noncomputable section
open Go Go.RowKit Go.Shelf Ba Fr Tryz
def İ:=@World.block_lt_of_cell?
def z39{p}(h:p):Go.RowKit.Hid p:=Go.Lib.hid h
def Mb{a b}(x:a)(y:b):a/\b:=⟨x,y⟩
namespace Re
open Tx Sp Wg Rd Bk Wi Se Rx Mp De Lo
structure Cp where
 st:Nat
 lk:Nat
 lb:Nat
 mo:Nat
 mr:Nat
 cb:Value
 rs:List Nat
 vs:List Cv
 p:Addr
 ev:Value
structure gT w s(C:Cp)m(S:Sv)fz:Prop where
 sr:Sr w s C.st C.lk m C.cb C.rs
 jC:qZ w C.st C.mo C.mr 0 S.st
 nO:Lk w C.lk C.lb S.aP
 len:C.rs.length=S.ae.length
 mW:C.vs.length=S.ae.length
 cn:∀i r v x,C.rs[i]? =some r->C.vs[i]? =some v->S.ae[i]? =some x->Cw w r fz v x/\v.i=i/\v.s=s
 apart:∀(i j r r':Nat) v v',i≠j->C.rs[i]? =some r->C.rs[j]? =some r'->C.vs[i]? =some v->C.vs[j]? =some v'->∀k,Fp r v k->¬Fp r' v' k
 low:∀(i r:Nat) v,C.rs[i]? =some r->C.vs[i]? =some v->∀k,Fp r v k->2<k
 maps:C.lb≠C.mo/\C.lb≠C.mr/\C.mo≠C.mr
 RO:∀k,C.cb.ownBlock=some k->2<k
 gl:Gl w C.p C.ev
def jB(s:Nat)(C:Cp)(k:Nat):Prop:=k=s\/k=C.st\/k=C.lk\/k=C.lb\/k=C.mo\/k=C.mr\/C.cb.ownBlock=some k\/∃(i r:Nat) (v:Cv),C.rs[i]? =some r/\C.vs[i]? =some v/\Fp r v k
def oO{i}{α:Type}{l:List α}(h:i<l.length):∃x,l[i]? =some x:=⟨l[i],bU h⟩
section
variable {w U:World}{s:Nat}{C:Cp}{m:Int}{S:Sv}{fz:Nat×Nat}
def gT.conn{i x}(h:gT w s C m S fz)(E:S.ae[i]? =some x):∃r v,C.rs[i]? =some r/\C.vs[i]? =some v/\Cw w r fz v x/\v.i=i/\v.s=s:=by have tP:=(bA.1 E).1;obtain⟨r,Y⟩:=oO (l:=C.rs) (i:=i) (by rw[h.len];exact tP);obtain⟨v,X⟩:=oO (l:=C.vs) (i:=i) (by rw[h.mW];exact tP);exact⟨r,v,Y,X,h.cn i r v x Y X E⟩
def gT.cs(h:gT w s C m S fz):Cs w C.rs S.ae:=⟨h.len,λi r x Y E=>by
 obtain⟨r',v,jf,X,L,_⟩:=h.conn E;rw[Y]at jf;obtain rfl:=ay jf;exact⟨fz,v,L.cx.cb⟩⟩
def aEu{r v x k}(h:Cw w r fz v x)(A:Fp r v k):k<w.heap.size:=by
 rcases A with rfl|A|A
 ·exact aM.lt h.cx.cb
 ·exact(h.cx.au.lt k A).2
 ·obtain⟨vs,o1,_⟩:=h.cx.ah;exact(o1.lt k A).2
def gT.lt{k}(h:gT w s C m S fz)(A:jB s C k):k<w.heap.size:=by
 rcases A with rfl|rfl|rfl|rfl|rfl|rfl|A|⟨i,r,v,Y,X,A⟩
 ·exact h.sr.blk.lt
 ·exact h.jC.blk.lt
 ·exact h.nO.blk.lt
 ·exact h.nO.map.lt
 ·exact h.jC.ah.lt
 ·exact h.jC.refs.lt
 ·exact(h.sr.row.lt k A).2
 ·obtain⟨x,E⟩:=oO (l:=S.ae) (i:=i) (by rw[<-h.len];exact(bA.1 Y).1);exact aEu (h.cn i r v x Y X E).1 A
def gT.aA{T}(h:gT w s C m S fz)(L:aj T w U)(hs:Rx.Safe w T)(Q:∀k,jB s C k->¬T k)(h0:¬T 0)(V:¬T 1)(J:¬T 2):gT U s C m S fz where
 sr:=h.sr.aA L (Q _ (.inl rfl)) (λk A=>Q k (.inr (.inr (.inr (.inr (.inr (.inr (.inl A))))))))
 jC:=h.jC.aA L hs (Q _ (.inr (.inl rfl))) (Q _ (.inr (.inr (.inr (.inr (.inl rfl)))))) (Q _ (.inr (.inr (.inr (.inr (.inr (.inl rfl)))))))
 nO:=h.nO.aA L (Q _ (.inr (.inr (.inl rfl)))) (Q _ (.inr (.inr (.inr (.inl rfl)))))
 len:=h.len
 mW:=h.mW
 cn i r v x Y X E:=⟨(h.cn i r v x Y X E).1.aA L hs (λk A=>Q k (.inr (.inr (.inr (.inr (.inr (.inr (.inr ⟨i,r,v,Y,X,A⟩)))))))),(h.cn i r v x Y X E).2⟩
 apart:=h.apart
 low:=h.low
 maps:=h.maps
 RO:=h.RO
 gl:=h.gl.aA L h0 V J
def QJ(h:gT w s C m S fz):Rx.Safe w (·=s):=λk cur T jo A hb=>by
 subst A;have:=h.sr.blk;unfold aM at this;rw[this]at hb;injection hb with hb;injection hb with _ hb _;subst hb;decide
def gT.aDD(h:gT w s C m S fz):∀k,k=s->(k≠0/\k≠1/\k≠2):=by
 rintro k rfl;have hb:=h.sr.blk;refine⟨?_,?_,?_⟩
 ·rintro rfl;have:=h.gl.more;rw[hb.cell]at this;simp at this
 ·rintro rfl;have:=h.gl.et;rw[hb.cell]at this;simp at this
 ·rintro rfl;have:=h.gl.QI;rw[hb.cell]at this;have J:=h.gl.oU;simp at this;rw[<-this]at J;rcases J with J|⟨_,_,J⟩<;>cases J
def gT.zb(h:gT w s C m S fz):s≠C.st/\s≠C.lk/\s≠C.lb/\s≠C.mo/\s≠C.mr/\C.cb.ownBlock≠some s:=by refine⟨h.sr.blk.ne h.jC.blk (by decide),h.sr.blk.ne h.nO.blk (by decide),h.sr.blk.dV h.nO.map,λe=>?_,h.sr.blk.dV h.jC.refs,h.sr.IJ⟩;exact h.jC.ah.eQ _ _ _ (e▸h.sr.blk)
def gT.lock(h:gT w s C m S fz)m':gT (w.setCell ⟨s,0,none⟩ (.int .i32 m')) s C m' S fz:=by have L:aj (·=s) w (w.setCell ⟨s,0,none⟩ (.int .i32 m')):=(aj.refl (·=s) w).setCell (p:=⟨s,0,none⟩) (.inl rfl) _;have Q:=h.zb;have hl:=h.aDD s rfl;have hs:=QJ h;refine⟨h.sr.lock m',h.jC.aA L hs (dT Q.1) (dT Q.2.2.2.1) (dT Q.2.2.2.2.1),h.nO.aA L (dT Q.2.1) (dT Q.2.2.1),h.len,h.mW,λi r v x Y X E=>?_,h.apart,h.low,h.maps,h.RO,h.gl.aA L (dT hl.1) (dT hl.2.1) (dT hl.2.2)⟩;obtain⟨c1,c2⟩:=h.cn i r v x Y X E;exact⟨c1.aA L hs (λk A e=>by subst e;exact c1.cx.off h.sr.blk (by decide) (by decide) (by decide) A),c2⟩
end
def Plain(o:Obj):Prop:=∀c t fz,o=.cells c t fz->fz=(0,0)
def Alike(w U:World):Prop:=∀(b:Nat) o,w.heap[b]? =some o->Plain o->U.heap[b]? =some o
section
variable {w U:World}
def IX{c t}:Plain (.cells c t (0,0)):=λ_ _ _ e=>by cases e;rfl
def JK{b xs t}(ha:Alike w U)(h:aM w b xs t (0,0)):aM U b xs t (0,0):=ha b _ h IX
def qI{v xs}(ha:Alike w U){B hx z n:Nat}(h:w.ownsRow B hx z v n xs):U.ownsRow B hx z v n xs:=by
 obtain⟨hl,L⟩:=h;refine⟨hl,?_⟩;rcases L with L|⟨g,cap,cur,h0,V,J,h3⟩
 ·exact .inl L
 ·exact .inr ⟨g,cap,cur,h0,V,ha _ _ J IX,h3⟩
def Qi{b m}(ha:Alike w U)(h:Mp.SM w b m):Mp.SM U b m:=by obtain⟨es,clock,hb,r⟩:=h;exact⟨es,clock,ha _ _ hb (λc t jo e=>by cases e),r⟩
def aEE{t v}(ha:Alike w U)(h:Ob w t v):Ob U t v:=by obtain⟨o,b,n,V,J,h3,h4,h5⟩:=h;exact⟨o,b,n,V,J,ha _ _ h3 IX,qI ha h4,h5⟩
def aLy{b m}(ha:Alike w U)(h:OM w b m):OM U b m:=by obtain⟨mv,V,J⟩:=h;exact⟨mv,Qi ha V,J.mono λk x y _ Y=>aEE ha Y⟩
def gT.alike{s C m S fz jo}(h:gT w s C m S fz)(ha:Alike w U)(Y:∀r∈C.rs,∀c t,w.heap[r]? =some (.cells c t fz)->U.heap[r]? =some (.cells c t jo))(hg:∀a,U.cell? a=w.cell? a):gT U s C m S jo where
 sr:=⟨JK ha h.sr.blk,qI ha h.sr.row⟩
 jC:=⟨JK ha h.jC.blk,aLy ha h.jC.ah,Qi ha h.jC.refs⟩
 nO:=⟨JK ha h.nO.blk,Qi ha h.nO.map⟩
 len:=h.len
 mW:=h.mW
 cn i r v x jf X E:=by
  obtain⟨c1,c2⟩:=h.cn i r v x jf X E;refine⟨⟨⟨?_,qI ha c1.cx.au,?_⟩,?_⟩,c2⟩
  ·exact Y r (cM jf) _ _ c1.cx.cb
  ·obtain⟨vs,o1,o2⟩:=c1.cx.ah;exact⟨vs,qI ha o1,o2.mono λa b _ Y=>aEE ha Y⟩
  ·have hw:=c1.wk;unfold FE at hw ⊢;split at hw
   ·exact hw
   ·obtain⟨w1,q,cap,w2,w3,w4⟩:=hw;refine⟨w1,q,cap,w2,w3,λuK=>?_⟩;obtain⟨g,o,cur,g1,g2,g3⟩:=w4 uK;exact⟨g,o,cur,g1,ha _ _ g2 IX,g3⟩
   ·obtain⟨bx,w1,w2⟩:=hw;exact⟨bx,w1,JK ha w2⟩
   ·exact hw
 apart:=h.apart
 low:=h.low
 maps:=h.maps
 RO:=h.RO
 gl:=⟨(hg _).trans h.gl.more,(hg _).trans h.gl.et,(hg _).trans h.gl.QI,h.gl.oU⟩
def Ex{τ d}:Alike (Ka.re w τ d) w/\Alike w (Ka.re w τ d):=⟨λ_ _ h _=>h,λ_ _ h _=>h⟩
def gT.QZ{τ d s C m S fz}(h:gT (Ka.re w τ d) s C m S fz):gT w s C m S fz:=h.alike Ex.1 (λ_ _ _ _ e=>e) (λ_=>rfl)
def gT.re{s C m S fz τ d}(h:gT w s C m S fz):gT (Ka.re w τ d) s C m S fz:=h.alike Ex.2 (λ_ _ _ _ e=>e) (λ_=>rfl)
end
section
open Co
variable {Z:Gh}{w:World}{ψ:Nat}
def Frz(Z:Gh)(w:World)(fz:Nat×Nat):Prop:=∀r,Z.iq r->¬Z.bP r->∃c t,w.heap[r]? =some (.cells c t fz)/\tyC t
def aGQ{N φ wa}(X:Ka.Vw (Z.cut N tyC φ) w wa)(bY:Z.Wf):Frz Z w (Vg φ):=λr L hs=>by
 obtain⟨g,k,A,rfl⟩:=L;obtain⟨cv,ca,t,e1,_,_,_,_,ht⟩:=X.cut k.r 16 (lH bY A);rw[zN bY A]at e1;exact⟨cv,t,e1,ht⟩
def xR{fz}(hz:Frz Z w fz)(tW:fz≠(0,0)):Alike w (Z.rc ψ w):=λb o ho h0=>by
 by_cases L:Z.iq b
 ·by_cases hs:Z.bP b
  ·rw[aFg hs];exact ho
  ·obtain⟨c,t,e,_⟩:=hz b L hs;rw[ho]at e;exact absurd (h0 _ _ _ (ay e)) tW
 ·rw[QW L];exact ho
def gT.rc{s C m S fz}(h:gT w s C m S fz)(hz:Frz Z w fz)(tW:fz≠(0,0))(nk:∀r∈C.rs,Z.iq r/\¬Z.bP r):gT (Z.rc ψ w) s C m S (Vg ψ):=
 h.alike (xR hz tW) (λr Y c t e=>by
  rw[oG,e];simp only[fR];rw[bk (nk r Y)]) (λa=>aBY a)
end
def Tf(r:Nat)(v:Cv)(C:Cp)(k:Nat):Prop:=Fp r v k\/k=C.lk\/k=C.lb\/k=C.st\/k=C.mo\/k=C.mr
def Cp.iQ(C:Cp)(i:Nat)(v:Cv):Cp:={C with vs:=C.vs.set i v}
section
variable {w U:World}{s:Nat}{C:Cp}{m:Int}{S:Sv}{fz:Nat×Nat}
def xH{b mv}(h:SM w b mv):∀xs t fz,w.heap[b]? ≠some (.cells xs t fz):=by obtain⟨es,clock,hb,_⟩:=h;intro xs t fz e;rw[hb]at e;cases e
def qG{b xs t xs' t' jo}(h:aM w b xs t fz)(e:w.heap[b]? =some (.cells xs' t' jo)):t'=t:=by unfold aM at h;rw[h]at e;injection e with e;injection e with _ e _;exact e.symm
def zh{v xs cur T jo}{B hx z n k:Nat}(h:w.ownsRow B hx z v n xs)(A:v.ownBlock=some k)(hb:w.heap[k]? =some (.cells cur T jo)):T=hx:=by obtain⟨A5,xa⟩:=bq h A;rw[xa]at hb;injection hb with hb;injection hb with _ hb _;exact hb.symm
def gT.types{k cur T jo}(h:gT w s C m S fz)(A:jB s C k)(hb:w.heap[k]? =some (.cells cur T jo)):(k=s/\T=79)\/(k=C.st/\T=65)\/(k=C.lk/\T=69)\/(C.cb.ownBlock=some k/\T=91)\/(k∈C.rs/\T=99)\/T=142\/T=106:=by
 rcases A with rfl|rfl|rfl|rfl|rfl|rfl|A|⟨i,r,v,Y,X,A⟩
 ·exact .inl ⟨rfl,qG h.sr.blk hb⟩
 ·exact .inr (.inl ⟨rfl,qG h.jC.blk hb⟩)
 ·exact .inr (.inr (.inl ⟨rfl,qG h.nO.blk hb⟩))
 ·exact absurd hb (xH h.nO.map _ _ _)
 ·exact absurd hb (h.jC.ah.eQ _ _ _)
 ·exact absurd hb (xH h.jC.refs _ _ _)
 ·exact .inr (.inr (.inr (.inl ⟨A,zh h.sr.row A hb⟩)))
 ·obtain⟨x,E⟩:=oO (l:=S.ae) (i:=i) (by rw[<-h.len];exact(bA.1 Y).1);have L:=(h.cn i r v x Y X E).1;rcases A with rfl|A|A
  ·exact .inr (.inr (.inr (.inr (.inl ⟨cM Y,qG L.cx.cb hb⟩))))
  ·exact .inr (.inr (.inr (.inr (.inr (.inl (zh L.cx.au A hb))))))
  ·obtain⟨vs,o1,_⟩:=L.cx.ah;exact .inr (.inr (.inr (.inr (.inr (.inr (zh o1 A hb))))))
def gT.safe{T}(h:gT w s C m S fz)(hT:∀k,T k->jB s C k/\C.cb.ownBlock≠some k):Rx.Safe w T:=λk cur t jo A hb=>by
 rcases h.types (hT k A).1 hb with⟨_,rfl⟩|⟨_,rfl⟩|⟨_,rfl⟩|⟨e,_⟩|⟨_,rfl⟩|rfl|rfl
 iterate 3 decide
 ·exact absurd e (hT k A).2
 all_goals decide
def gT.two(h:gT w s C m S fz):2<w.heap.size:=İ w _ h.gl.QI
def wI{b i u}(hb:w.cell? ⟨b,i,none⟩=some u):∃xs t fz,w.heap[b]? =some (.cells xs t fz):=by
 unfold World.cell? at hb;split at hb
 ·exact⟨_,_,_,by assumption⟩
 ·cases hb
def gT.high{k}(h:gT w s C m S fz)(A:jB s C k):2<k:=by
 have L:∀{b:Nat} {u:Value},w.cell? ⟨b,0,none⟩=some u->(∀t x,u≠.iface t x)->u≠.nilIface->2<b:=by
  intro b u hb V J;by_cases e:2<b
  ·exact e
  ·have:b=0\/b=1\/b=2:=by omega
   rcases this with rfl|rfl|rfl
   ·rw[h.gl.more]at hb;exact absurd (ay hb).symm (V _ _)
   ·rw[h.gl.et]at hb;exact absurd (ay hb).symm (V _ _)
   ·rw[h.gl.QI]at hb;have hb:=ay hb;rcases h.gl.oU with e|⟨_,_,e⟩
    ·exact absurd (hb.symm.trans e) J
    ·exact absurd (hb.symm.trans e) (V _ _)
 have hm:∀{b:Nat},(∀xs t fz,w.heap[b]? ≠some (.cells xs t fz))->2<b:=by
  intro b hb;by_cases e:2<b
  ·exact e
  ·exfalso;have:b=0\/b=1\/b=2:=by omega
   rcases this with rfl|rfl|rfl
   ·obtain⟨_,_,_,e⟩:=wI h.gl.more;exact hb _ _ _ e
   ·obtain⟨_,_,_,e⟩:=wI h.gl.et;exact hb _ _ _ e
   ·obtain⟨_,_,_,e⟩:=wI h.gl.QI;exact hb _ _ _ e
 rcases A with rfl|rfl|rfl|rfl|rfl|rfl|A|⟨i,r,v,Y,X,A⟩
 ·exact L (h.sr.blk.at (i:=0) rfl) nofun nofun
 ·exact L (h.jC.blk.at (i:=0) rfl) nofun nofun
 ·exact L (h.nO.blk.at (i:=0) rfl) nofun nofun
 ·exact hm (xH h.nO.map)
 ·exact hm h.jC.ah.eQ
 ·exact hm (xH h.jC.refs)
 ·exact h.RO k A
 ·exact h.low i r v Y X k A
def Bq{v k}{i r:Nat}(Y:C.rs[i]? =some r)(X:C.vs[i]? =some v)(A:Tf r v C k):jB s C k:=by
 rcases A with A|A|A|A|A|A
 ·exact .inr (.inr (.inr (.inr (.inr (.inr (.inr ⟨i,r,v,Y,X,A⟩))))))
 ·exact .inr (.inr (.inl A))
 ·exact .inr (.inr (.inr (.inl A)))
 ·exact .inr (.inl A)
 ·exact .inr (.inr (.inr (.inr (.inl A))))
 ·exact .inr (.inr (.inr (.inr (.inr (.inl A)))))
def gT.Qc{v x k}(h:gT w s C m S fz){i r:Nat}(Y:C.rs[i]? =some r)(X:C.vs[i]? =some v)(E:S.ae[i]? =some x)(A:Tf r v C k):k≠s/\C.cb.ownBlock≠some k:=by
 have wX:=(h.cn i r v x Y X E).1.cx;refine⟨?_,λe=>?_⟩
 ·rintro rfl;rcases A with A|A|A|A|A|A
  ·exact wX.off h.sr.blk (by decide) (by decide) (by decide) A
  ·exact h.zb.2.1 A
  ·exact h.zb.2.2.1 A
  ·exact h.zb.1 A
  ·exact h.zb.2.2.2.1 A
  ·exact h.zb.2.2.2.2.1 A
 ·obtain⟨cur,hb⟩:=bq h.sr.row e;rcases A with A|rfl|rfl|rfl|rfl|rfl
  ·exact wX.off hb (by decide) (by decide) (by decide) A
  ·exact absurd (qG h.nO.blk hb) (by decide)
  ·exact xH h.nO.map _ _ _ hb
  ·exact absurd (qG h.jC.blk hb) (by decide)
  ·exact h.jC.ah.eQ _ _ _ hb
  ·exact xH h.jC.refs _ _ _ hb
def jR{i j}{α:Type}{l:List α}{a b}(h:(l.set i a)[j]? =some b):(i=j/\b=a)\/(i≠j/\l[j]? =some b):=by
 rw[jz]at h;split at h
 ·rename_i e;split at h
  ·exact .inl ⟨e,(ay h).symm⟩
  ·cases h
 ·exact .inr ⟨by assumption,h⟩
def gT.aDy{i r v x v' c' VG st' m'}(h:gT w s C m S fz)(Y:C.rs[i]? =some r)(X:C.vs[i]? =some v)(E:S.ae[i]? =some x)(hw:Cw U r fz v' c')(hl:Lk U C.lk C.lb VG)(uw:qZ U C.st C.mo C.mr 0 st')
 (A0:v'.i=v.i/\v'.s=v.s/\v'.o=v.o/\v'.a=v.a) (hf:∀k,Fp r v' k->Fp r v k\/w.heap.size<=k) (L:aj (λk=>k=s\/Tf r v C k) w U)  (BF:Sr U s C.st C.lk m' C.cb C.rs):gT U s (C.iQ i v') m' {S with st:=st',aP:=VG,ae:=S.ae.set i c'} fz:=by
 have FA:∀k,(k=s\/Tf r v C k)->jB s C k:=λk A=>A.elim .inl λA=>Bq Y X A;have ru:Rx.Safe w (λk=>k=s\/Tf r v C k):=h.safe λk A=>⟨FA k A,A.elim (λe=>e▸h.sr.IJ) λA=>(h.Qc Y X E A).2⟩
 have hhi:∀k,(k=s\/Tf r v C k)->2<k:=λk A=>h.high (FA k A);have wX:=(h.cn i r v x Y X E)
 refine⟨BF,uw,hl,by simp only[j8];exact h.len,by simp only[Cp.iQ,j8];exact h.mW,?_,?_,?_,h.maps,h.RO,
  h.gl.aA L (λe=>by have:=hhi _ e;omega) (λe=>by have:=hhi _ e;omega) (λe=>by have:=hhi _ e;omega)⟩
 ·intro j r' u y jf hu hy;rcases jR hu with⟨rfl,rfl⟩|⟨tW,hu⟩
  ·rcases jR hy with⟨_,rfl⟩|⟨tW,_⟩
   ·obtain rfl:r=r':=ay (Y.symm.trans jf);exact⟨hw,A0.1.trans wX.2.1,A0.2.1.trans wX.2.2⟩
   ·exact absurd rfl tW
  ·rcases jR hy with⟨rfl,_⟩|⟨_,hy⟩
   ·exact absurd rfl tW
   ·obtain⟨c1,c2⟩:=h.cn j r' u y jf hu hy;refine⟨c1.aA L ru (λk A e=>?_),c2⟩;rcases e with rfl|e|rfl|rfl|rfl|rfl|rfl
    ·exact c1.cx.off h.sr.blk (by decide) (by decide) (by decide) A
    ·exact h.apart j i r' r u v (dT tW) jf Y hu X k A e
    ·exact c1.cx.off h.nO.blk (by decide) (by decide) (by decide) A
    ·exact c1.cx.gp h.nO.map A
    ·exact c1.cx.off h.jC.blk (by decide) (by decide) (by decide) A
    ·obtain⟨mv,V,_⟩:=h.jC.ah;exact c1.cx.gp V A
    ·exact c1.cx.gp h.jC.refs A
 ·have key:∀(j r':Nat) (u:Cv),j≠i->C.rs[j]? =some r'->C.vs[j]? =some u->∀k,Fp r v' k->¬Fp r' u k:=by
   intro j r' u tW jf hu k A lh;obtain⟨y,hy⟩:=oO (l:=S.ae) (i:=j) (by rw[<-h.len];exact(bA.1 jf).1);rcases hf k A with A|A
   ·exact h.apart i j r r' v u (dT tW) Y jf X hu k A lh
   ·have:=aEu (h.cn j r' u y jf hu hy).1 lh;omega
  intro a b ra rb va vb hab ha hb hva hvb k A lh;rcases jR hva with⟨rfl,rfl⟩|⟨hna,aJ1⟩
  ·rcases jR hvb with⟨rfl,_⟩|⟨Zg,aFX⟩
   ·exact hab rfl
   ·obtain rfl:r=ra:=ay (Y.symm.trans ha);exact key b rb vb (dT Zg) hb aFX k A lh
  ·rcases jR hvb with⟨rfl,rfl⟩|⟨Zg,aFX⟩
   ·obtain rfl:r=rb:=ay (Y.symm.trans hb);exact key a ra va (dT hna) ha aJ1 k lh A
   ·exact h.apart a b ra rb va vb hab ha hb aJ1 aFX k A lh
 ·intro j r' u jf hu k A;rcases jR hu with⟨rfl,rfl⟩|⟨tW,hu⟩
  ·obtain rfl:r=r':=ay (Y.symm.trans jf);rcases hf k A with A|A
   ·exact h.low i r v Y X k A
   ·have:=h.two;omega
  ·exact h.low j r' u jf hu k A
def gT.iQ{i r v x v' c' VG st'}(h:gT w s C m S fz)(Y:C.rs[i]? =some r)(X:C.vs[i]? =some v)(E:S.ae[i]? =some x)(hw:Cw U r fz v' c')(hl:Lk U C.lk C.lb VG)(uw:qZ U C.st C.mo C.mr 0 st')
 (A0:v'.i=v.i/\v'.s=v.s/\v'.o=v.o/\v'.a=v.a) (hf:∀k,Fp r v' k->Fp r v k\/w.heap.size<=k) (L:aj (Tf r v C) w U):gT U s (C.iQ i v') m {S with st:=st',aP:=VG,ae:=S.ae.set i c'} fz:=
 h.aDy Y X E hw hl uw A0 hf (L.mono λ_ _ e=>.inr e) (h.sr.aA L (λe=>(h.Qc Y X E e).1 rfl) (λk A e=>(h.Qc Y X E e).2 A))
def yR{i r v v' k}(Y:C.rs[i]? =some r)(X:C.vs[i]? =some v)(hf:∀k,Fp r v' k->Fp r v k\/w.heap.size<=k)(A:jB s (C.iQ i v') k):jB s C k\/w.heap.size<=k:=by
 rcases A with A|A|A|A|A|A|A|⟨j,r',u,jf,hu,A⟩
 ·exact .inl (.inl A)
 ·exact .inl (.inr (.inl A))
 ·exact .inl (.inr (.inr (.inl A)))
 ·exact .inl (.inr (.inr (.inr (.inl A))))
 ·exact .inl (.inr (.inr (.inr (.inr (.inl A)))))
 ·exact .inl (.inr (.inr (.inr (.inr (.inr (.inl A))))))
 ·exact .inl (.inr (.inr (.inr (.inr (.inr (.inr (.inl A)))))))
 ·rcases jR hu with⟨rfl,rfl⟩|⟨tW,hu⟩
  ·obtain rfl:r=r':=ay (Y.symm.trans jf);rcases hf k A with A|A
   ·exact .inl (.inr (.inr (.inr (.inr (.inr (.inr (.inr ⟨_,_,_,Y,X,A⟩)))))))
   ·exact .inr A
  ·exact .inl (.inr (.inr (.inr (.inr (.inr (.inr (.inr ⟨_,_,_,jf,hu,A⟩)))))))
variable {q:Bool}{i r:Nat}{m':Int}{v:Cv}{x c':Cn}
def xK{α:Type}{l:List α}{x}(h:l[i]? =some x):l.set i x=l:=by
 apply List.ext_getElem?;intro j;rw[jz];split
 ·rename_i e;subst e;have:=(bA.1 h).1;rw[bk this,h]
 ·rfl
def gT.own(h:gT w s C m S fz)(L:aj (·=s) w U)(BF:Sr U s C.st C.lk m' C.cb C.rs):gT U s C m' S fz:=by have Q:=h.zb;have hl:=h.aDD s rfl;have hs:=QJ h;refine⟨BF,h.jC.aA L hs (dT Q.1) (dT Q.2.2.2.1) (dT Q.2.2.2.2.1),h.nO.aA L (dT Q.2.1) (dT Q.2.2.1),h.len,h.mW,λi r v x Y X E=>?_,h.apart,h.low,h.maps,h.RO,h.gl.aA L (dT hl.1) (dT hl.2.1) (dT hl.2.2)⟩;obtain⟨c1,c2⟩:=h.cn i r v x Y X E;exact⟨c1.aA L hs (λk A e=>by subst e;exact c1.cx.off h.sr.blk (by decide) (by decide) (by decide) A),c2⟩
structure CR(w:World)s(C:Cp)m fz S'(C':Cp)U:Prop where
 rs:C'.rs=C.rs
 rep:gT U s C' m S' fz
 foot:∀k,jB s C' k->jB s C k\/w.heap.size<=k
 aA:aj (jB s C) w U
def gT.Yj(h:gT w s C m S fz)(L:aj (λk=>k=s) w U)(BF:Sr U s C.st C.lk m' C.cb C.rs):CR w s C m' fz S C U:=
 ⟨rfl,h.own L BF,λ_ A=>.inl A,L.mono λ_ _ e=>.inl e⟩
def gT.one(h:gT w s C m S fz)(Y:C.rs[i]? =some r)(X:C.vs[i]? =some v)(E:S.ae[i]? =some x)(L:aj (λk=>k=s\/k=r) w U)(BF:Sr U s C.st C.lk m' C.cb C.rs)(hb:Cb U r fz v c')
 (V:c'.au=x.au) (J:c'.ah=x.ah) (h3:c'.work=x.work) (h4:c'.wants=x.wants):CR w s C m' fz {S with ae:=S.ae.set i c'} (C.iQ i v) U:=by
 obtain⟨ye,hvi,EE⟩:=h.cn i _ v x Y X E;have wX:=ye.cx;have Ao:r≠s:=Sr.um h.sr wX.cb;have ru:Rx.Safe w (λk=>k=s\/k=r):=λk cur T jo A wY=>by
  rcases A with rfl|rfl
  ·rw[qG h.sr.blk wY];decide
  ·rw[qG wX.cb wY];decide
 have nP:∀k,Fp r v k->k=r\/¬(k=s\/k=r):=λk A=>by
  by_cases e:k=r
  ·exact .inl e
  ·refine .inr ?_;rintro(rfl|rfl)
   ·exact wX.off h.sr.blk (by decide) (by decide) (by decide) A
   ·exact e rfl
 have MP:Cw U r fz v c':=⟨wX.reb L ru hb nP V J rfl rfl,(ye.wk.aA L ru).same h3 h4 rfl rfl⟩
 have hl:Lk U C.lk C.lb S.aP:=h.nO.aA L (by
  rintro(e|e)
  ·exact h.zb.2.1 e.symm
  ·exact aM.ne h.nO.blk wX.cb (by decide) e) (by
  rintro(e|e)
  ·exact h.zb.2.2.1 e.symm
  ·exact aM.dV wX.cb h.nO.map e.symm)
 have uw:qZ U C.st C.mo C.mr 0 S.st:=by
  refine h.jC.aA L ru ?_ ?_ ?_
  ·rintro(e|e)
   ·exact h.zb.1 e.symm
   ·exact aM.ne h.jC.blk wX.cb (by decide) e
  ·rintro(e|e)
   ·exact h.zb.2.2.2.1 e.symm
   ·obtain⟨mv,g1,_⟩:=h.jC.ah;exact aM.dV wX.cb g1 e.symm
  ·rintro(e|e)
   ·exact h.zb.2.2.2.2.1 e.symm
   ·exact aM.dV wX.cb h.jC.refs e.symm
 refine⟨rfl,?_,λk A=>yR Y X (λ_ e=>.inl e) A,L.mono λk _ e=>?_⟩
 ·exact h.aDy Y X E MP hl uw ⟨rfl,rfl,rfl,rfl⟩ (λk A=>.inl A) (L.mono λk _ e=>by
   rcases e with e|e
   ·exact .inl e
   ·exact .inr (.inl (.inl e))) BF
 ·rcases e with e|e
  ·exact .inl e
  ·exact Bq Y X (.inl (.inl e))
def Jv(h:gT w s C m S fz)(hI:oW q S):C.rs.length<=8:=h.len▸hI.Bl
def Z6(h:gT w s C 0 S fz)(hI:oW q S)(hz:Fz fz)c t(ht:t.size<=4611686018427387904):
 Calls Tq.prog 25 #[aG s,.int .i64 c,.string t] w λe U=>∃C',e=.returned (.bool (S.feed c t.data.toList).2)/\CR w s C 0 fz (S.feed c t.data.toList).1 C' U:=by
 cases L:S.conn c with
 |none=>
  have e:S.feed c t.data.toList=(S,false):=by unfold Sv.feed;rw[L]
  rw[e];refine(Vi w s C.st C.lk C.cb C.rs c t S.ae h.sr (Jv h hI) h.cs ((RH S c).symm.trans L)).mono ?_;rintro e U ⟨rfl,V,J⟩;exact⟨C,rfl,h.Yj J V⟩
 |some p=>
  obtain⟨i,x⟩:=p;obtain⟨rfl,E,ho⟩:=jc L;obtain⟨r,v,Y,X,ye,_⟩:=h.conn E;have nk:=hI.cn i x E;cases hb:(x.ended||decide (600<x.nL.length+t.data.toList.length))with
  |true=>
   have e:S.feed i t.data.toList=(S,false):=by unfold Sv.feed;rw[L];dsimp only;rw[bk hb]
   rw[e];refine(Jw w s C.st C.lk C.cb C.rs i r fz v x t h.sr (Jv h hI) Y ye.cx.cb ho nk.nL ht (by simpa using hb)).mono ?_;rintro e U ⟨rfl,V,J,h3⟩;have:=h.one Y X E h3 V J rfl rfl rfl rfl;rw[xK E]at this;exact⟨_,rfl,this⟩
  |false=>
   have e:S.feed i t.data.toList=(S.set i {x with nL:=x.nL++t.data.toList,rest:=x.rest++t.data.toList},true):=by unfold Sv.feed;rw[L];dsimp only;rw[aX (by rw[hb];decide)]
   rw[e];have xa:x.ended=false/\x.nL.length+t.size<=600:=by simp only[Bool.or_eq_false_iff,pB,Nat.not_lt]at hb;exact⟨hb.1,by simpa using hb.2⟩
   refine(Ee w s C.st C.lk C.cb C.rs i r fz v x t h.sr (Jv h hI) Y ye.cx.cb ho hz (cV nk.rest nk.nL) xa.1 xa.2).mono ?_;rintro e U ⟨rfl,V,J,h3⟩;exact⟨_,rfl,h.one Y X E h3 V J rfl rfl rfl rfl⟩
def aIC(h:gT w s C 0 S fz)(hI:oW q S)(hz:Fz fz)(c:Int):
 Calls Tq.prog 34 #[aG s,.int .i64 c] w λe U=>∃C',e=.returned (.bool (S.end_ c).2)/\CR w s C 0 fz (S.end_ c).1 C' U:=by
 cases L:S.conn c with
 |none=>
  have e:S.end_ c=(S,false):=by unfold Sv.end_;rw[L]
  rw[e];refine(aGP w s C.st C.lk C.cb C.rs c S.ae h.sr (Jv h hI) h.cs ((RH S c).symm.trans L)).mono ?_;rintro e U ⟨rfl,V,J⟩;exact⟨C,rfl,h.Yj J V⟩
 |some p=>
  obtain⟨i,x⟩:=p;obtain⟨rfl,E,ho⟩:=jc L;obtain⟨r,v,Y,X,ye,_⟩:=h.conn E;have e:S.end_ i=(S.set i {x with ended:=true},true):=by unfold Sv.end_;rw[L]
  rw[e];refine(aIB w s C.st C.lk C.cb C.rs i r fz v x h.sr (Jv h hI) Y ye.cx.cb ho hz).mono ?_;rintro e U ⟨rfl,V,J,h3⟩;exact⟨_,rfl,h.one Y X E h3 V J rfl rfl rfl rfl⟩
def TT(h:gT w s C 0 S fz)(hI:oW q S)c:
 Calls Tq.prog 29 #[aG s,.int .i64 c] w λe U=>e=.returned (.tuple #[av (S.bR c).1,.bool (S.bR c).2])/\CR w s C 0 fz S C U:=by
 by_cases L:c<0\/(C.rs.length:Int)<=c
 ·have e:S.bR c=([],false):=by
   unfold Sv.bR;rcases L with L|L
   ·rw[bk L]
   ·rw[aX (by omega),List.getElem?_eq_none (by rw[<-h.len];omega)]
  rw[e];refine(TU w s C.st C.lk C.cb C.rs c h.sr (Jv h hI) L).mono ?_;rintro e U ⟨rfl,V,J⟩;exact⟨rfl,h.Yj J V⟩
 ·obtain⟨n,rfl⟩:∃n:Nat,c=n:=⟨c.toNat,by omega⟩
  obtain⟨x,E⟩:=oO (l:=S.ae) (i:=n) (by rw[<-h.len];omega);obtain⟨r,v,Y,X,ye,_⟩:=h.conn E;have e:S.bR n=(if x.over&&x.bK then x.bR else[],x.over&&x.bK):=by unfold Sv.bR;rw[aX (by omega),show((n:Int).toNat)=n from rfl,E];dsimp only;split<;>simp_all
  rw[e];refine(XU w s C.st C.lk C.cb C.rs n r fz v x h.sr (Jv h hI) Y ye.cx.cb).mono ?_;rintro e U ⟨rfl,V,J⟩;exact⟨rfl,h.Yj J V⟩
end
end Re
section
open VW Go.Maps Go.Sort
namespace Tz
open Tx Sp Mp Bk Wg Rd Rx Se Lo
def aGO{α}{m:M α}(Q:(m.map (·.1)).Nodup){p}(hp:p∈m):m.get p.1=some p.2:=by
 unfold M.get
 induction m with
 |nil=>cases hp
 |cons x m ih=>
  rw[gA,js]at Q;rcases bm.1 hp with rfl|hp
  ·simp
  ·have:x.1≠p.1:=λe=>Q.1 (e▸List.mem_map_of_mem hp);rw[List.find?_cons_of_neg (by simpa using this)];exact ih Q.2 hp
def TW(p:B×B):List Value:=[av p.1,av p.2]
def aJP:(Tq.prog.info? 51).map (λi=>(i.zero,i.size,i.bytes))=some (some (.agg #[.string ByteArray.empty,.string ByteArray.empty]),2,32):=(by kernel_rfl)
structure RI(w wr:World)s st mr(cs:Array Value)(R:M B)k v kv:Prop where
 row:wr.ownsRow w.heap.size 51 2 v k ((R.take k).flatMap TW)
 keys:wr.ownsRow (w.heap.size+1) 9 1 kv R.length ((R.map (·.1)).map encStr)
 ne:∀g,v.ownBlock=some g->kv.ownBlock≠some g
 blk:aM wr st cs 65 (0,0)
 mp:SM wr mr (mapM av R)
 sc:wr.cell? ⟨s,2,none⟩=some (.pointer (some ⟨st,0,none⟩))
 aA:aj (λk=>k=st) w wr
def Dg w s st lk mo mr(μ:Int)m cb rs fw room R(BF:Sr w s st lk m cb rs)(hb:aM w st #[.int .i32 0,.int .u32 0,.bool fw,.int .i64 room,.map (some mo),.map (some mr)] 65 (0,0))(hm:SM w mr (mapM av R))(Q:R.length<1099511627776)(tW:mr≠st):
 Calls Tq.prog 31 #[aG s] w λe U=>∃v,e=.returned v/\U.ownsRow w.heap.size 51 2 v R.length (R.flatMap TW)/\aM U st #[.int .i32 0,.int .u32 0,.bool fw,.int .i64 room,.map (some mo),.map (some mr)] 65 (0,0)/\aj (λk=>k=st) w U:=by
 obtain⟨i0,hi,xr,xU,ya⟩:=info_parts pI;have HJ:(R.map (·.1)).Nodup:=by have:=nodup_keys hm.rising;rwa[uq]at this
 have G3:=hb.lt;have L1:=hm.lt;have k2:w.cell? ⟨s,2,none⟩=some (.pointer (some ⟨st,0,none⟩)):=BF.blk.at (i:=2) rfl;have k0:w.cell? ⟨st,0,none⟩=some (.int .i32 0):=hb.at rfl;have f0:=hb.frozen (i:=0) (.inr (aI _));have hss:s≠st:=λe=>by
  have V:=BF.blk;unfold aM at V hb;rw[e,hb]at V;cases V
 have xd:aM (w.setCell ⟨st,0,none⟩ (.int .i32 1)) st #[.int .i32 1,.int .u32 0,.bool fw,.int .i64 room,.map (some mo),.map (some mr)] 65 (0,0):=hb.set 0 _;have ry:SM (w.setCell ⟨st,0,none⟩ (.int .i32 1)) mr (mapM av R):=hm.block (Below.heap_setCell _ _ _ _ tW);have kr:(w.setCell ⟨st,0,none⟩ (.int .i32 1)).cell? ⟨st,5,none⟩=some (.map (some mr)):=xd.at rfl;have ks:(w.setCell ⟨st,0,none⟩ (.int .i32 1)).cell? ⟨s,2,none⟩=some (.pointer (some ⟨st,0,none⟩)):=by rw[World.cell?_setCell_other _ _ _ _ (λe=>hss (dv Addr.block e).symm)];exact k2
 have c1:aj (λk=>k=st) w (w.setCell ⟨st,0,none⟩ (.int .i32 1)):=(aj.refl (λk=>k=st) w).setCell (p:=⟨st,0,none⟩) (.inl rfl) _;have uG:(w.setCell ⟨st,0,none⟩ (.int .i32 1)).heap.size=w.heap.size:=by simp
 generalize sD:w.setCell ⟨st,0,none⟩ (.int .i32 1)=w1 at xd ry kr ks c1 uG;obtain⟨i1,VQ,hy0,hy1,hy2⟩:=info_parts aJP;have UT:s<w1.heap.size:=İ w1 _ ks;obtain⟨w2,JD⟩:∃w2,w2=w1.alloc (.cells #[] 51):=⟨_,rfl⟩
 have hB:Below w1.heap.size w1 w2:=by rw[JD];exact(Below.refl _ _).alloc (aI _) _
 have lu:w2.heap[w.heap.size]? =some (.cells #[] 51 (0,0)):=by rw[JD,<-uG];exact heap_alloc_new _ _
 have Mo:w2.heap.size=w.heap.size+1:=by rw[JD];simp[uG]
 have kr2:w2.cell? ⟨st,5,none⟩=some (.map (some mr)):=by unfold World.cell? at kr ⊢;rw[hB.block st (by omega)];exact kr
 have ks2:w2.cell? ⟨s,2,none⟩=some (.pointer (some ⟨st,0,none⟩)):=by unfold World.cell? at ks ⊢;rw[hB.block s UT];exact ks
 have ky:SM w2 mr (mapM av R):=ry.block (hB.block mr (by omega));have wj:aM w2 st #[.int .i32 1,.int .u32 0,.bool fw,.int .i64 room,.map (some mo),.map (some mr)] 65 (0,0):=(hB.block st (by omega)).trans xd;have c2:aj (λk=>k=st) w w2:=c1.trans' (aj.jU (S:=λ_=>False) hB (λk V J=>by omega)) (λ_ _ (e:False)=>e.elim);have C:=z39 (Ks.aFN w2 mr (mapM av R) ky (by rw[mapM_length];exact Q));rw[mapM_length,uq,Mo]at C;have hv:=z39 (Mb wj (Mb ky (Mb c2 (Mb lu hB))));clear hb hm xd ry c1 BF wj ky c2 hB kr lu;replace HJ:=z39 HJ;replace JD:=z39 JD;unfold aG
 go_enter_defers Tq.func31,ntmps31
 go_wp2_with (first
  |(go_at_call 38;refine(iR st 0 w k0 f0).mono ?_;rintro e U ⟨rfl,rfl⟩;rw[sD])
  |(go_at_call 50;refine C.out.mono ?_;rintro e w3 ⟨v,rfl,tM,fJ⟩;obtain⟨p,cap,rfl,uX⟩:=fZ tM)
  |(rw[<-JD.out])
  |go_in)
 have aF4:=fJ.size;have aTY:s<w2.heap.size:=İ w2 _ ks2;have hI3:RI w w3 s st mr #[.int .i32 1,.int .u32 0,.bool fw,.int .i64 room,.map (some mo),.map (some mr)] R 0 (.slice (some ⟨w.heap.size,0,none⟩) 0 0) (.slice p R.length cap):=by
  refine⟨⟨rfl,.inr ⟨w.heap.size,0,#[],rfl,aI _,(fJ.block _ (by omega)).trans hv.out.2.2.2.1,aI _,cQ _,rfl,rfl⟩⟩,tM,λg hg e=>?_,(fJ.block st (by omega)).trans hv.out.1,hv.out.2.1.block (fJ.block mr (by omega)),?_,hv.out.2.2.1.trans' (aj.jU (S:=λ_=>False) fJ (λk V J=>by omega)) (λ_ _ (e:False)=>e.elim)⟩
  ·obtain rfl:w.heap.size=g:=ay hg;have:=(tM.lt _ e).1;omega
  ·unfold World.cell? at ks2 ⊢;rw[fJ.block s (by omega)];exact ks2
 have L0:=z39 hI3;clear fJ uX tM C hI3 hv kr2 ks2
 go_loopw [3,29] (λv i wr=>∃k:Nat,i=.int .i64 k/\k<=R.length/\Hid (RI w wr s st mr #[.int .i32 1,.int .u32 0,.bool fw,.int .i64 room,.map (some mo),.map (some mr)] R k v (.slice p R.length cap))) (λ_ i _=>R.length - (intOf i).toNat)
 case atStart=>exact⟨0,rfl,cQ _,L0⟩
 case round=>
  rename_i wr;clear L0;obtain⟨k,rfl,A,HR⟩:=hrel;by_cases tP:k<R.length
  ·obtain⟨tM,aD7,aO3,Ds,hmp,ksc,hcg⟩:=HR.out;have kr3:wr.cell? ⟨st,5,none⟩=some (.map (some mr)):=Ds.at rfl;obtain⟨x,E⟩:∃x,R[k]? =some x:=⟨R[k],bU tP⟩
   obtain⟨p',vZ,ev,uX⟩:=fZ aD7;obtain⟨a,rfl,hab,_,kc⟩:=uX k (encStr x.1) (by rw[ll,eL,E];rfl);obtain⟨rfl,rfl⟩:p=some a/\cap=vZ:=by injection ev with e1 _ e3;exact⟨e1,e3⟩
   replace kc:wr.cell? (a.add k)=some (.string ⟨x.1.toArray⟩):=kc;have iP:=aGO HJ.out (cM E);have Mj:x.1.length<=maxLen:=hmp.keys _ (get_mem (by rw[mU,iP];rfl));have el:((M.get (mapM av R) x.1).getD (.string ByteArray.empty))=.string ⟨x.2.toArray⟩:=by rw[mU,iP];rfl
   have aUd:wr.heap.size>=w.heap.size:=hcg.size;have qw:(k:Int)<(R.length:Int):=by omega
   have HX:=z39 (Mb E (Mb HR.out iP));clear aD7 aO3 Ds uX ev E iP HR hcg;go_wp2_with (first
    |(at_lookup;refine Mp.lookup rfl _ _ 56 rfl 9 ((Tq.underlying 56).trans underlying56) (z:=.string ByteArray.empty) (by simp[zeroValue9];rfl) mr _ rfl hmp ⟨x.1.toArray⟩ rfl Mj ?_;rw[el])
    |(at_builtin;refine wpList_append_own_at _ rfl _ _ 48 rfl w.heap.size 51 i1 (.agg #[.string ByteArray.empty,.string ByteArray.empty]) 2 32 ((Tq.underlying 48).trans underlying48) VQ hy0 hy1 hy2 rfl (by decide) _ _ _ rfl (tM.alloc _) ⟨wr.heap.size,0,none⟩ 1 1 [.string ⟨x.1.toArray⟩,.string ⟨x.2.toArray⟩] rfl rfl ?c1 ?c2 ?c3 ?c4 ?c5 ?_)
    |go_in)
   case c1=>
    intro j u hj
    match j,hj with
    |0,hj=>simp at hj;subst hj;simp[Addr.add]
    |1,hj=>simp at hj;subst hj;simp[Addr.add]
   case c2=>intro u hu;simp at hu;rcases hu with rfl|rfl<;>rfl
   case c3=>unfold maxLen;omega
   case c4=>omega
   case c5=>simp;omega
   intro v' w4 yO tR _ zj;have hI:=HX.out.2.1;have hsw:st<w.heap.size:=G3;have hold:∀j,j<wr.heap.size->u3.ownBlock≠some j->w4.heap[j]? =wr.heap[j]? :=λj hj tW=>(tR.block j (by simp;omega) (λe=>tW e.symm)).trans (heap_alloc_old _ _ hj);have aCS:∀j,j<w.heap.size->u3.ownBlock≠some j:=λj hj e=>by
    have:=(tM.lt j e).1;omega
   have MF:=hI.keys.lt a.block rfl;have G8:RI w w4 s st mr #[.int .i32 1,.int .u32 0,.bool fw,.int .i64 room,.map (some mo),.map (some mr)] R (k+1) v' (.slice (some a) R.length cap):=by
    refine⟨?_,(hI.keys.alloc _).kept tR (.inr λe=>hI.ne a.block e.symm rfl),λg hg e=>?_,(hold st (by omega) (aCS st (by omega))).trans hI.blk,hI.mp.block (hold mr (by omega) (aCS mr (by omega))),?_,aj.grown (hI.aA.alloc _) tR (λj e=>.inr (tM.lt j e).1)⟩
    ·have:=yO;rw[List.take_succ,HX.out.1,List.flatMap_append];exact this
    ·rcases zj with e'|e'
     ·exact hI.ne g (e'.symm.trans hg) e
     ·rw[e']at hg;obtain rfl:=ay hg;obtain e:a.block=wr.heap.size+1:=ay e;omega
    ·have hs:=hI.sc;unfold World.cell? at hs ⊢;rw[hold s (by omega) (aCS s (by omega))];exact hs
   replace G8:=z39 G8;clear yO tR zj tM hI hold aCS MF;go_wp2
   go_roundw
   case rel=>exact⟨k+1,by go_num,by omega,G8⟩
   case measure=>simp[intOf];omega
  ·obtain rfl:k=R.length:=by omega
   go_wp2;have xb:=HR.out.blk;have k3:wr.cell? ⟨st,0,none⟩=some (.int .i32 1):=xb.at rfl;refine leaves_cons (f:=39) (args:=#[.pointer (some ⟨st,0,none⟩)]) (by simp) (by simp[go_sem]) ?_;refine(fE st 0 .returning wr k3 (xb.frozen (.inr (aI _)))).mono ?_;rintro e u' w3 ⟨rfl,rfl,rfl⟩;have tM:=HR.out.row;rw[fM]at tM;have E3:(wr.setCell ⟨st,0,none⟩ (.int .i32 0)).ownsRow w.heap.size 51 2 u3 R.length (R.flatMap TW):=⟨tM.1,tM.2.imp id λ⟨g,vZ,cur,e,g1,g2,g3⟩=>⟨g,vZ,cur,e,g1,(Below.heap_setCell _ _ _ _ (by show g≠st;omega)).trans g2,g3⟩⟩
   refine⟨_,results_tmp rfl _ _ _,u3,rfl,E3,xb.set 0 _,HR.out.aA.setCell (p:=⟨st,0,none⟩) (.inl rfl) _⟩
end Tz
end
