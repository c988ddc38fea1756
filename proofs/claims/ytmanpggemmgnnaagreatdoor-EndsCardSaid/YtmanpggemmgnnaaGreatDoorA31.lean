/- Ends: a part. Conditions: none. -/
import Derived.Test.YtmanpggemmgnnaaGreatDoorA29
import Derived.Test.YtmanpggemmgnnaaGreatDoorA30
set_option linter.all false
set_option maxHeartbeats 8000000
set_option maxRecDepth 1000000
namespace Go.Proofs.YtmanpggemmgnnaaGreatDoor
noncomputable section
open Go Go.RowKit Go.Shelf Ba Fr Tryz
def z31{p}(h:p):Go.RowKit.Hid p:=Go.Lib.hid h
namespace Rx
open Tx Sp Wg Rd Bk Wi Se
structure lL mv(w:World)r fz(v:Cv)er c' u v' U:Prop where
 er:ErV mv U w.heap.size er u
 cx:Cx U r fz v' c'
 same:v'={v with cv:=v'.cv,ov:=v'.ov}
 fp:∀k,Fp r v' k->Fp r v k\/w.heap.size<=k
 aA:aj (Fp r v) w U
def RP(mv:Value)(w:World)(r:Nat)(fz:Nat×Nat)(v:Cv)(x:Er×Cn)(e:Ending)(U:World):Prop:=∃u v',e=.returned u/\lL mv w r fz v x.1 x.2 u v' U
def C9{v xs}{w:World}{B hx z n:Nat}(h:w.ownsRow B hx z v (n+1) xs):∃g cap,v=.slice (some ⟨g,0,none⟩) (n+1) cap:=by
 rcases h.2 with⟨_,h0⟩|⟨g,cap,cur,rfl,_⟩
 ·omega
 ·exact⟨g,cap,rfl⟩
section
variable {mv:Value}{w U w2:World}{r:Nat}{fz:Nat×Nat}{v:Cv}{c c':Cn}
def Cx.set(h:Cx w r fz v c)i x(L:(cells v c).setIfInBounds i x=cells v c')(V:c'.au=c.au)(J:c'.ah=c.ah):Cx (w.setCell ⟨r,i,none⟩ x) r fz v c':=by
 have vx:aj (·=r) w (w.setCell ⟨r,i,none⟩ x):=(aj.refl (·=r) w).setCell (p:=⟨r,i,none⟩) (.inl rfl) _;obtain⟨vs,o1,o2⟩:=h.ah;obtain⟨n1,n2,_⟩:=h.rows;refine⟨?_,?_,vs,?_,?_⟩
 ·have:=aM.set h.cb i x;rw[L]at this;exact this
 ·rw[V];exact vx.ownsRow h.au n1
 ·rw[J];exact vx.ownsRow o1 n2
 ·rw[J];exact o2.mono λx y _ NG=>NG.aA vx (λk cur T fz A hb=>h.safe k cur T fz (.inl A) hb)
def lL.refused{g}(h:Cx w r fz v c)(hb:Below w.heap.size w w2)word(hg:g=w2.heap.size):lL mv w r fz v (.refused word) c (.iface 135 (.pointer (some ⟨g,0,none⟩))) v (w2.alloc (.cells #[av word] 139)):=by subst hg;have wj:=hb.alloc hb.size (.cells #[av word] 139);exact⟨⟨_,rfl,aM.new _ _ _,hb.size⟩,h.aA (aj.nK wj) (Safe.none w) (λk _ e=>e),rfl,λk A=>.inl A,(aj.nK wj).mono (λ_ _ e=>e.elim)⟩
end
def Yu mv w r fz v c p(h:Cx w r fz v c)(hz:Fz fz):
 Calls Tq.prog 114 #[.pointer (some ⟨r,2,none⟩),.string p,.bool true] w (RP mv w r fz v (c.object p.data.toList true)):=by
 have k1:w.cell? ⟨r,3,none⟩=some (.string ⟨c.rest.toArray⟩):=h.cb.at rfl;have k6:w.cell? ⟨r,6,none⟩=some (.bool c.done):=h.cb.at rfl;have f6:=aM.frozen h.cb (i:=6) (hz 6 (by decide) (by decide) (by decide));have Y:=aM.lt h.cb;have LV:Hid (Cx (w.setCell ⟨r,6,none⟩ (.bool true)) r fz v {c with done:=true}):=z31 (h.set 6 _ rfl rfl rfl);have vx:Hid (aj (Fp r v) w (w.setCell ⟨r,6,none⟩ (.bool true))):=z31 ((aj.refl (Fp r v) w).setCell (p:=⟨r,6,none⟩) (.inl (.inl rfl)) _);have H:=z31 h;clear h;unfold Cn.object;rw[bk rfl];by_cases h0:c.rest=[]
 ·rw[h0]at k1;simp only[h0,j2];go_enter Tq.func114,ntmps114;go_wp2;go_ret;exact⟨_,v,rfl,rfl,by rw[h0]at LV;exact LV.out,rfl,λk A=>.inl A,vx.out⟩
 ·have tW:(⟨c.rest.toArray⟩:ByteArray).toList.isEmpty=false:=by
   rw[ByteArray.toList_eq];cases L:c.rest with
   |nil=>exact absurd L h0
   |cons=>rfl
  have uK:c.rest.isEmpty=false:=by
   cases L:c.rest with
   |nil=>exact absurd L h0
   |cons=>rfl
  simp only[h0,cz];go_enter Tq.func114,ntmps114;go_wp2;go_ret;have uG:w.heap.size=(w.setCell ⟨r,6,none⟩ (.bool true)).heap.size:=by simp
  have P:=lL.refused (mv:=mv) LV.out (Below.refl _ _) xc (g:=w.heap.size) (by simp);exact⟨_,v,rfl,Pa.ErV.mono P.er (by simp),P.cx,rfl,λk A=>.inl A,vx.out.trans P.aA⟩
def Yt mv w r fz v c p(h:Cx w r fz v c)(hl:c.ah.length=12):
 Calls Tq.prog 114 #[.pointer (some ⟨r,2,none⟩),.string p,.bool false] w (RP mv w r fz v (c.object p.data.toList false)):=by
 have k8:w.cell? ⟨r,8,none⟩=some v.ov:=h.cb.at rfl;obtain⟨vs,o1,o2⟩:=h.ah;obtain⟨q,cap,hq,_⟩:=Lo.fZ o1;rw[hq,hl]at k8;have H:=z31 h;clear h o1 o2;unfold Cn.object;rw[aX (by decide),bk hl];go_enter Tq.func114,ntmps114;go_wp2;go_ret;exact⟨_,v,rfl,lL.refused H.out (Below.refl _ _) uO rfl⟩
def Yr mv w r fz v c p(h:Cx w r fz v c)(hl:c.ah.length<12)(hp:p.size<16777216)(Q:parse p.data.toList=none):
 Calls Tq.prog 114 #[.pointer (some ⟨r,2,none⟩),.string p,.bool false] w (RP mv w r fz v (c.object p.data.toList false)):=by
 have k8:w.cell? ⟨r,8,none⟩=some v.ov:=h.cb.at rfl;obtain⟨vs,o1,o2⟩:=h.ah;obtain⟨q,cap,hq,_⟩:=Lo.fZ o1;rw[hq]at k8;have C:=z31 (Wi.Gm p w hp);rw[Q]at C;have H:=z31 h;have hli:¬((c.ah.length:Int)=12):=by omega
 have hl':¬c.ah.length=12:=by omega
 clear h o1 o2;unfold Cn.object;rw[aX (by decide),aX hl',Q];go_enter Tq.func114,ntmps114;go_wp2_with fail;refine C.out.mono ?_;rintro e w2 ⟨⟨a,rfl⟩,hb⟩;have hb:=z31 hb;go_wp2;go_ret;exact⟨_,v,rfl,lL.refused H.out hb.out wZ rfl⟩
def Yq mv w r fz v c p o(h:Cx w r fz v c)(hz:Fz fz)(hl:c.ah.length<12)(hp:p.size<16777216)(Q:parse p.data.toList=some o):
 Calls Tq.prog 114 #[.pointer (some ⟨r,2,none⟩),.string p,.bool false] w (RP mv w r fz v (c.object p.data.toList false)):=by
 obtain⟨i0,hi,xr,xU,ya⟩:=info_parts aDN;have k8:w.cell? ⟨r,8,none⟩=some v.ov:=h.cb.at rfl;obtain⟨vs,o1,o2⟩:=h.ah;obtain⟨q,cap,hq,_⟩:=Lo.fZ o1;rw[hq]at k8;have C:=z31 (Wi.Gm p w hp);rw[Q]at C;have H:=z31 h;have hli:¬((c.ah.length:Int)=12):=by omega
 have hl':¬c.ah.length=12:=by omega
 clear h o1 o2;unfold Cn.object;rw[aX (by decide),aX hl',Q];simp only[Option.isSome_some,j2];go_enter Tq.func114,ntmps114;go_wp2_with fail;refine C.out.mono ?_;rintro e w2 ⟨b,n,rfl,hbB,J,tM,Zg,hb⟩;have h3:=H.out.aA (aj.nK hb) (Safe.none w) (λk _ e=>e);have vX:Ob w2 p.data.toList (.iface (ED o.kind) (aG b)):=⟨o,b,n,Q,rfl,J,Wi.lQ tM (cQ _),by rw[dx];exact hp⟩
 unfold aG at vX;have k8':w2.cell? ⟨r,8,none⟩=some (.slice q c.ah.length cap):=by rw[<-hq];exact h3.cb.at rfl
 have f8:=aM.frozen h3.cb (i:=8) (hz 8 (by decide) (by decide) (by decide));obtain⟨vs2,r1,r2⟩:=h3.ah;rw[hq]at r1;have K:=z31 (l4 h3 (l4 vX (l4 r2 hb)));have uG:=hb.size;clear k8 J tM Zg hb h3 vX r2 C;generalize E:ED o.kind=T at K ⊢;clear E;go_wp2_with (first
  |(at_builtin;refine wpList_append_own_at _ rfl _ _ 95 rfl 0 106 i0 .nilIface 1 16 ((Tq.underlying 95).trans underlying95) hi xr xU ya rfl (by decide) _ _ _ rfl (r1.alloc _) ⟨w2.heap.size,0,none⟩ 1 1 [.iface T (.pointer (some ⟨b,0,none⟩))] rfl rfl ?c1 ?c2 ?c3 ?c4 ?c5 ?_)
  |go_in)
 case c1=>
  intro j u hj
  match j,hj with
  |0,hj=>simp at hj;subst hj;simp[Addr.add]
 case c2=>intro u hu;simp at hu;subst hu;rfl
 case c3=>unfold maxLen;omega
 case c4=>omega
 case c5=>exact cQ _
 intro v2 w4 tU tR _ zj;obtain⟨h3,vX,r2,hb⟩:=K.out;obtain⟨n1,n2,n3⟩:=h3.rows;have c4:aj (λk=>v.ov.ownBlock=some k) w2 w4:=((aj.refl _ w2).alloc _).grown tR (λk A=>.inl (by rw[hq];exact A));have h4:Cb w4 r fz v c:=aM.aA h3.cb c4 (λe=>n2 r e rfl);have k84:w4.cell? ⟨r,8,none⟩=some v.ov:=h4.at rfl;have f84:=aM.frozen h4 (i:=8) (hz 8 (by decide) (by decide) (by decide));obtain⟨g',vZ,rfl⟩:=C9 tU;have aCv:=aM.lt h3.cb;have aPo:g'≠r:=λe=>by
  subst e;rcases zj with hh|hh
  ·exact n2 g' (by rw[hq];exact hh.symm) rfl
  ·have J:g'=w2.heap.size+1:=ay hh;omega
 have c5:aj (λk=>k=r\/v.ov.ownBlock=some k) w2 (w4.setCell ⟨r,8,none⟩ (.slice (some ⟨g',0,none⟩) (c.ah.length+1) vZ)):=
  (c4.mono (S':=λk=>k=r\/v.ov.ownBlock=some k) (λk _ e=>.inr e)).setCell (p:=⟨r,8,none⟩) (.inl (.inl rfl)) _
 have sf:Safe w2 (λk=>k=r\/v.ov.ownBlock=some k):=λk cur T fz A wY=>h3.safe k cur T fz (A.elim .inl (λe=>.inr (.inr e))) wY;have fin:Hid (lL mv w r fz v .ok {c with ah:=c.ah++[p.data.toList]} .nilIface {v with ov:=.slice (some ⟨g',0,none⟩) (c.ah.length+1) vZ} (w4.setCell ⟨r,8,none⟩ (.slice (some ⟨g',0,none⟩) (c.ah.length+1) vZ))):=by
  refine z31 ⟨rfl,⟨aM.set h4 8 _,?_,vs2++[.iface T (.pointer (some ⟨b,0,none⟩))],?_,?_⟩,rfl,?_,?_⟩
  ·exact c5.ownsRow h3.au (λk A e=>e.elim (n1 k A) (n3 k A))
  ·rw[b9];exact ownsRow_setCell_other tU (a:=⟨r,8,none⟩) (λe=>aPo (ay e)) _
  ·exact(r2.mono λx y _ NG=>NG.aA c5 sf).snoc (vX.aA c5 sf)
  ·intro k A;rcases A with A|A|A
   ·exact .inl (.inl A)
   ·exact .inl (.inr (.inl A))
   ·rcases zj with hh|hh
    ·exact .inl (.inr (.inr (by rw[hq,<-hh];exact A)))
    ·right;have V:g'=k:=ay A;have J:g'=w2.heap.size+1:=ay hh;omega
  ·exact((aj.nK hb).mono (S':=Fp r v) (λ_ _ e=>e.elim)).trans' c5 (λk _ A=>A.elim .inl (λe=>.inr (.inr e)))
 clear tU tR zj h3 vX r2 hb n1 n2 n3 c4 h4 c5 sf K;go_wp2;go_ret;exact⟨_,_,rfl,fin.out⟩
def OX mv w r fz v c p f(h:Cx w r fz v c)(hz:Fz fz)(hl:c.ah.length<=12)(hp:p.size<16777216):
 Calls Tq.prog 114 #[.pointer (some ⟨r,2,none⟩),.string p,.bool f] w (RP mv w r fz v (c.object p.data.toList f)):=by
 cases f
 ·by_cases PO:c.ah.length=12
  ·exact Yt mv w r fz v c p h PO
  ·cases Q:parse p.data.toList with
   |none=>exact Yr mv w r fz v c p h (by omega) hp Q
   |some o=>exact Yq mv w r fz v c p o h hz (by omega) hp Q
 ·exact Yu mv w r fz v c p h hz
def nX{v xs}{w:World}{B hx z n:Nat}(h:w.ownsRow B hx z v n xs):∃p cap,v=.slice p n cap:=by
 rcases h.2 with⟨rfl,h0⟩|⟨g,cap,cur,rfl,_⟩
 ·exact⟨none,0,by rw[h0]⟩
 ·exact⟨_,cap,rfl⟩
def Vt mv w r fz v c p(h:Cx w r fz v c)(hz:Fz fz)(hl:0<c.au.length)(GN:c.au.length<=4):
 Calls Tq.prog 115 #[.pointer (some ⟨r,2,none⟩),.string p,.bool true] w (RP mv w r fz v (c.command p.data.toList true)):=by
 have k7:w.cell? ⟨r,7,none⟩=some v.cv:=h.cb.at rfl;have k5:w.cell? ⟨r,5,none⟩=some (.bool c.second):=h.cb.at rfl;have f5:=aM.frozen h.cb (i:=5) (hz 5 (by decide) (by decide) (by decide));obtain⟨q,cap,hq⟩:=nX h.au;rw[hq]at k7;have LV:Hid (lL mv w r fz v .ok {c with second:=true} .nilIface v (w.setCell ⟨r,5,none⟩ (.bool true))):=
  z31 ⟨rfl,h.set 5 _ rfl rfl rfl,rfl,λk A=>.inl A,(aj.refl (Fp r v) w).setCell (p:=⟨r,5,none⟩) (.inl (.inl rfl)) _⟩
 have hli:(0:Int)<(c.au.length:Int):=by omega
 clear h;unfold Cn.command;rw[bk (by simp[hl])];go_enter Tq.func115,ntmps115;go_wp2;go_ret;exact⟨_,_,rfl,LV.out⟩
def Vs mv w r fz v c p(h:Cx w r fz v c)(hl:c.au.length=4):
 Calls Tq.prog 115 #[.pointer (some ⟨r,2,none⟩),.string p,.bool false] w (RP mv w r fz v (c.command p.data.toList false)):=by
 have k7:w.cell? ⟨r,7,none⟩=some v.cv:=h.cb.at rfl;obtain⟨q,cap,hq⟩:=nX h.au;rw[hq,hl]at k7;have H:=z31 h;clear h;unfold Cn.command;rw[aX (by simp),bk hl];go_enter Tq.func115,ntmps115;go_wp2;go_ret;exact⟨_,v,rfl,lL.refused H.out (Below.refl _ _) uO rfl⟩
def Vr mv w r fz v c p(h:Cx w r fz v c)(hp:p.size<4294967281)(hl:c.au.length=0):
 Calls Tq.prog 115 #[.pointer (some ⟨r,2,none⟩),.string p,.bool true] w (RP mv w r fz v (c.command p.data.toList true)):=by
 have k7:w.cell? ⟨r,7,none⟩=some v.cv:=h.cb.at rfl;obtain⟨q,cap,hq⟩:=nX h.au;rw[hq,hl]at k7;have C:=z31 (Wf.lZ p 32 w hp);have H:=z31 h;clear h;unfold Cn.command;rw[aX (by simp[hl]),aX (by omega)];generalize Tx.split 32 p.data.toList=es at C;go_enter Tq.func115,ntmps115;go_wp2_with fail;refine C.out.mono ?_;rintro e w2 ⟨rfl,rfl⟩;go_wp2;go_ret;exact⟨_,v,rfl,lL.refused H.out ((Below.refl _ _).alloc (aI _) _) fU (by simp)⟩
end Rx
