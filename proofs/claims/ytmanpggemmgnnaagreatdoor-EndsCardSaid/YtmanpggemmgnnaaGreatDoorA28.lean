/- Ends: a part. Conditions: none. -/
import Derived.Test.YtmanpggemmgnnaaGreatDoorA25
import Derived.Test.YtmanpggemmgnnaaGreatDoorA27
set_option linter.all false
set_option maxHeartbeats 8000000
set_option maxRecDepth 1000000
namespace Go.Proofs.YtmanpggemmgnnaaGreatDoor
noncomputable section
open Go Go.RowKit Ba Fr Go.Maps Tryz
def Ō:=@results_tmp2
def ŋ:=@leaves_cons
def Ŋ:=@results_tmp
def z28{p}(h:p):Go.RowKit.Hid p:=Go.Lib.hid h
namespace Rd
open Tx Sp Mp Bk Wg
structure Cv where
 i:Nat
 s:Nat
 o:Value
 a:Value
 cv:Value
 ov:Value
 wk:Value
 wv:Value
def cells(v:Cv)(c:Cn):Array Value:=#[.int .i64 v.i,.pointer (some ⟨v.s,0,none⟩),av c.nL,av c.rest,.bool c.ended,.bool c.second,.bool c.done,v.cv,v.ov,v.o,v.a,.bool c.over,av c.bR,.bool c.bK,v.wk,v.wv]
def Fz(fz:Nat×Nat):Prop:=∀i,i≠1->i≠9->i≠10->(i<fz.1\/fz.2<=i)
def aQa:Fz (1,2):=λi _ _ _=>by simp only;omega
def aP9:Fz (9,11):=λi _ _ _=>by simp only;omega
def Cb(w:World)(r:Nat)(fz:Nat×Nat)(v:Cv)(c:Cn):Prop:=aM w r (cells v c) 99 fz
def Jw w r fz v c t(h:Cb w r fz v c)(L:c.nL.length<=600)(ht:t.size<=4611686018427387904)(vy:(c.ended||decide (600<c.nL.length+t.size))=true):
 Calls Tq.prog 48 #[.pointer (some ⟨r,2,none⟩),.string t] w λe U=>e=.returned (.bool false)/\U=w:=by
 have k0:w.cell? ⟨r,2,none⟩=some (av c.nL):=h.at rfl;have k2:w.cell? ⟨r,4,none⟩=some (.bool c.ended):=h.at rfl;unfold av at k0;have hs:(⟨c.nL.toArray⟩:ByteArray).size=c.nL.length:=rfl;cases he:c.ended
 ·rw[he]at vy k2;have h6:600<c.nL.length+t.size:=by simpa using vy
  go_enter Tq.func48,ntmps48;go_wp2;go_ret;exact⟨rfl,rfl⟩
 ·rw[he]at k2;go_enter Tq.func48,ntmps48;go_wp2;go_ret;exact⟨rfl,rfl⟩
def Ee w r fz v c t(h:Cb w r fz v c)(hz:Fz fz)(Y:c.rest.length<=600)(he:c.ended=false)(h6:c.nL.length+t.size<=600):
 Calls Tq.prog 48 #[.pointer (some ⟨r,2,none⟩),.string t] w λe U=>e=.returned (.bool true)/\Cb U r fz v {c with nL:=c.nL++t.data.toList,rest:=c.rest++t.data.toList}/\aj (·=r) w U:=by
 have k0:w.cell? ⟨r,2,none⟩=some (av c.nL):=h.at rfl;have k1:w.cell? ⟨r,3,none⟩=some (av c.rest):=h.at rfl;have k2:w.cell? ⟨r,4,none⟩=some (.bool c.ended):=h.at rfl;have f0:=h.frozen (i:=2) (hz 2 (by decide) (by decide) (by decide));have f1:=h.frozen (i:=3) (hz 3 (by decide) (by decide) (by decide));unfold av at k0 k1;have hs:(⟨c.nL.toArray⟩:ByteArray).size=c.nL.length:=rfl;have Aw:(⟨c.rest.toArray⟩:ByteArray).size=c.rest.length:=rfl;have hl6:¬(600<c.nL.length+t.size):=by omega
 rw[he]at k2;go_enter Tq.func48,ntmps48;go_wp2;go_ret;have e:=(h.set 2 (.string ((⟨c.nL.toArray⟩:ByteArray)++t))).set 3 (.string ((⟨c.rest.toArray⟩:ByteArray)++t));refine⟨rfl,?_,((aj.refl (·=r) w).setCell (p:=⟨r,2,none⟩) (.inl rfl) _).setCell (p:=⟨r,3,none⟩) (.inl rfl) _⟩;rw[zR,zR]at e ⊢;exact e
def aID(w:World)(r:Nat)(fz:Nat×Nat)(v:Cv)(c:Cn)(h:Cb w r fz v c)(hz:Fz fz):
 Calls Tq.prog 51 #[.pointer (some ⟨r,2,none⟩)] w λe U=>e=.returned (.tuple #[])/\Cb U r fz v {c with ended:=true}/\aj (·=r) w U:=by
 have k2:w.cell? ⟨r,4,none⟩=some (.bool c.ended):=h.at rfl;have f2:=h.frozen (i:=4) (hz 4 (by decide) (by decide) (by decide));go_enter Tq.func51,ntmps51;go_wp2
 go_end0
 exact⟨rfl,h.set 4 _,(aj.refl (·=r) w).setCell (p:=⟨r,4,none⟩) (.inl rfl) _⟩
def ErV(mv:Value)(w:World)(B:Nat):Er->Value->Prop
 | .ok,v=>v=.nilIface
 | .more,v=>v=mv
 | .refused x,v=>∃b,v=.iface 135 (.pointer (some ⟨b,0,none⟩))/\aM w b #[av x] 139 (0,0)/\B<=b
def L8 mv w r fz v c(h:Cb w r fz v c)(hg:w.cell? ⟨0,0,none⟩=some mv):
 Calls Tq.prog 155 #[.pointer (some ⟨r,2,none⟩)] w λe U=>∃u,e=.returned u/\ErV mv U w.heap.size c.A9 u/\Below w.heap.size w U:=by
 have k2:w.cell? ⟨r,4,none⟩=some (.bool c.ended):=h.at rfl;unfold Cn.A9;cases he:c.ended
 ·rw[he]at k2;go_enter Tq.func155,ntmps155;go_wp2;go_ret;exact⟨_,rfl,rfl,Below.refl _ _⟩
 ·rw[he]at k2;go_enter Tq.func155,ntmps155;go_wp2;go_ret;exact⟨_,rfl,⟨_,rfl,aM.new _ _ _,aI _⟩,(Below.refl _ _).alloc (aI _) _⟩
end Rd
namespace Se
open Tx Sp Mp Bk Wg Rd
def aG(r:Nat):Value:=.pointer (some ⟨r,0,none⟩)
structure Sr w s st lk m cb(rs:List Nat):Prop where
 blk:aM w s #[.int .i32 m,.int .u32 0,aG st,aG lk,cb] 79 (0,0)
 row:w.ownsRow 0 91 1 cb rs.length (rs.map aG)
def Sr.len{w s st lk m cb rs}(h:Sr w s st lk m cb rs):∃p cap,cb=.slice p rs.length cap/\∀i,i<rs.length->∃a,p=some a/\w.cell? (a.add i)=some (aG (rs[i]!)):=by
 rcases h.row.2 with⟨rfl,h0⟩|⟨g,cap,cur,rfl,_⟩
 ·exact⟨none,0,by rw[h0],λi hi=>by omega⟩
 ·refine⟨_,cap,rfl,λi hi=>⟨_,rfl,?_⟩⟩;have:=h.row.cells (g:=g) rfl i (aG (rs[i]!)) (by rw[eL,bU hi];simp[hi]);simpa [Addr.add]using this
def Hg w s st lk m cb rs c(h:Sr w s st lk m cb rs)(Q:rs.length<=8)(L:c<0\/(rs.length:Int)<=c):
 Calls Tq.prog 47 #[aG s,.int .i64 c] w λe U=>e=.returned (.pointer none)/\U=w:=by
 obtain⟨p,cap,rfl,uz⟩:=h.len;have k3:w.cell? ⟨s,4,none⟩=some (.slice p rs.length cap):=h.blk.at rfl;clear uz h;unfold aG;by_cases h0:c<0
 ·go_enter Tq.func47,ntmps47;go_wp2;go_ret;exact⟨rfl,rfl⟩
 ·have V:(rs.length:Int)<=c:=by omega
  go_enter Tq.func47,ntmps47;go_wp2;go_ret;exact⟨rfl,rfl⟩
def Hf w s st lk m cb rs(c r:Nat)fz v x(h:Sr w s st lk m cb rs)(Q:rs.length<=8)(L:rs[c]? =some r)(hb:Cb w r fz v x):
 Calls Tq.prog 47 #[aG s,.int .i64 c] w λe U=>e=.returned (if x.over then .pointer none else aG r)/\U=w:=by
 obtain⟨p,cap,rfl,uz⟩:=h.len;obtain⟨tP,Y⟩:=bA.1 L;obtain⟨a,rfl,kc0⟩:=uz c tP;have k3:w.cell? ⟨s,4,none⟩=some (.slice (some a) rs.length cap):=h.blk.at rfl;have ko:w.cell? ⟨r,11,none⟩=some (.bool x.over):=hb.at rfl;have kc:w.cell? (a.add c)=some (.pointer (some ⟨r,0,none⟩)):=by rw[kc0];unfold aG;simp[tP,Y]
 clear kc0;have lC:(c:Int)<rs.length:=by omega
 clear uz h hb L Y;generalize rs.length=len at lC k3 Q;clear tP;unfold aG;generalize x.over=ov at ko ⊢;cases ov
 ·go_enter Tq.func47,ntmps47;go_wp2;go_ret;exact⟨rfl,rfl⟩
 ·go_enter Tq.func47,ntmps47;go_wp2;go_ret;exact⟨rfl,rfl⟩
def target(xs:List Cn)(c:Int):Option (Nat×Cn):=if c<0 then none else match xs[c.toNat]? with
 |some x=>if x.over then none else some (c.toNat,x)
 |none=>none
def RH(s:Sv)c:s.conn c=target s.ae c:=rfl
structure Cs w(rs:List Nat)(xs:List Cn):Prop where
 len:rs.length=xs.length
 at_:∀(i r:Nat) x,rs[i]? =some r->xs[i]? =some x->∃fz v,Cb w r fz v x
def Rv w s st lk m cb rs c xs(h:Sr w s st lk m cb rs)(Q:rs.length<=8)(hs:Cs w rs xs)(ht:target xs c=none):
 Calls Tq.prog 47 #[aG s,.int .i64 c] w λe U=>e=.returned (.pointer none)/\U=w:=by
 unfold target at ht;by_cases h0:c<0
 ·exact Hg w s st lk m cb rs c h Q (.inl h0)
 ·obtain⟨k,rfl⟩:=Int.eq_ofNat_of_zero_le (show 0<=c by omega);rw[aX h0,pd]at ht;cases E:xs[k]? with
  |none=>have:xs.length<=k:=o0.1 E;exact Hg w s st lk m cb rs k h Q (.inr (by have:=hs.len;omega))
  |some x=>
   rw[E]at ht;have A:k<rs.length:=by rw[hs.len];exact(bA.1 E).1
   have Y:rs[k]? =some rs[k]:=bU A;obtain⟨fz,v,AG⟩:=hs.at_ k _ x Y E;have:=Hf w s st lk m cb rs k _ fz v x h Q Y AG;have ho:x.over=true:=by
    cases ho:x.over
    ·simp[ho]at ht
    ·rfl
   rw[ho]at this;exact this
def yw w s st lk m cb rs(k r:Nat)fz v x(h:Sr w s st lk m cb rs)(Q:rs.length<=8)(Y:rs[k]? =some r)(hb:Cb w r fz v x)(ho:x.over=false):
 Calls Tq.prog 47 #[aG s,.int .i64 k] w λe U=>e=.returned (aG r)/\U=w:=by
 have:=Hf w s st lk m cb rs k r fz v x h Q Y hb;rw[ho]at this;exact this
section
variable {w U:World}{s st lk:Nat}{m m':Int}{cb:Value}{rs:List Nat}{xs:List Cn}
def Sr.aA{S}(h:Sr w s st lk m cb rs)(L:aj S w U)(V:¬S s)(J:∀k,cb.ownBlock=some k->¬S k):Sr U s st lk m cb rs:=
 ⟨h.blk.aA L V,L.ownsRow h.row J⟩
def Sr.IJ(h:Sr w s st lk m cb rs):cb.ownBlock≠some s:=λe=>by
 obtain⟨V,J⟩:=h;rcases J.2 with⟨rfl,_⟩|⟨g,cap,cur,rfl,_,hb,_⟩
 ·cases e
 ·obtain rfl:g=s:=ay e;unfold aM at V;rw[hb]at V;injection V with V;injection V with _ V _;cases V
def Sr.lock(h:Sr w s st lk m cb rs)m':Sr (w.setCell ⟨s,0,none⟩ (.int .i32 m')) s st lk m' cb rs:=
 ⟨h.blk.set 0 _,ownsRow_setCell_other h.row h.IJ _⟩
def Sr.um{r fz v x}(h:Sr w s st lk m cb rs)(hb:Cb w r fz v x):r≠s:=aM.ne hb h.blk (by decide)
def Sr.Ad{r fz v x}(h:Sr w s st lk m cb rs)(hb:Cb w r fz v x):∀k,cb.ownBlock=some k->k≠r:=λk e he=>by
 subst he;rcases h.row.2 with⟨rfl,_⟩|⟨g,cap,cur,rfl,_,xa,_⟩
 ·cases e
 ·obtain rfl:g=k:=ay e;unfold Cb aM at hb;rw[xa]at hb;injection hb with hb;injection hb with _ hb _;cases hb
def Cs.lock(h:Cs w rs xs)(Y:Sr w s st lk m cb rs)v:Cs (w.setCell ⟨s,0,none⟩ v) rs xs:=
 ⟨h.len,λi r x hri E=>by
   obtain⟨fz,u,hb⟩:=h.at_ i r x hri E;exact⟨fz,u,aM.other hb (Y.um hb) v⟩⟩
end
def Ė{p:Prop}(h:p:=by
 go_wp2_with (first
  |(go_at_call 38;refine(iR s 0 w k0 f0).mono ?_;rintro e U ⟨rfl,rfl⟩;rw[sD])
  |(go_at_call 47;refine C.out.mono ?_;rintro e U ⟨rfl,rfl⟩))
 refine ŋ (f:=39) (args:=#[.pointer (some ⟨s,0,none⟩)]) (by simp) (by simp[go_sem]) ?_;refine(fE s 0 .returning _ k1 f1).mono ?_;rintro e u' w3 ⟨rfl,rfl,rfl⟩;exact⟨_,Ŋ rfl _ _ _,rfl,V.lock 0,c1.setCell (p:=⟨s,0,none⟩) (.inl rfl) _⟩):p:=h
def Vi w s st lk cb rs c t xs(h:Sr w s st lk 0 cb rs)(Q:rs.length<=8)(hs:Cs w rs xs)(ht:target xs c=none):
 Calls Tq.prog 25 #[aG s,.int .i64 c,.string t] w λe U=>e=.returned (.bool false)/\Sr U s st lk 0 cb rs/\aj (λk=>k=s) w U:=by
 have k0:w.cell? ⟨s,0,none⟩=some (.int .i32 0):=h.blk.at rfl;have f0:=h.blk.frozen (i:=0) (.inr (aI _));have V:=h.lock 1;have Aw:=hs.lock h (.int .i32 1);have c1:aj (λk=>k=s) w (w.setCell ⟨s,0,none⟩ (.int .i32 1)):=(aj.refl (λk=>k=s) w).setCell (p:=⟨s,0,none⟩) (.inl rfl) _;generalize sD:w.setCell ⟨s,0,none⟩ (.int .i32 1)=w1 at V Aw c1;have C:=z28 (Rv w1 s st lk 1 cb rs c xs V Q Aw ht);have k1:w1.cell? ⟨s,0,none⟩=some (.int .i32 1):=V.blk.at rfl;have f1:=V.blk.frozen (i:=0) (.inr (aI _));unfold aG at C ⊢
 go_enter_defers Tq.func25,ntmps25
 exact Ė
def Jw w s st lk cb rs(k r:Nat)fz v x t(h:Sr w s st lk 0 cb rs)(Q:rs.length<=8)(Y:rs[k]? =some r)(hb:Cb w r fz v x)(ho:x.over=false)
 (L:x.nL.length<=600) (ht:t.size<=4611686018427387904) (vy:(x.ended||decide (600<x.nL.length+t.size))=true):
 Calls Tq.prog 25 #[aG s,.int .i64 k,.string t] w λe U=>e=.returned (.bool false)/\Sr U s st lk 0 cb rs/\Cb U r fz v x/\aj (λk=>k=s\/k=r) w U:=by
 have k0:w.cell? ⟨s,0,none⟩=some (.int .i32 0):=h.blk.at rfl;have f0:=h.blk.frozen (i:=0) (.inr (aI _));have V:=h.lock 1;have tW:=h.um hb;have xd:Cb (w.setCell ⟨s,0,none⟩ (.int .i32 1)) r fz v x:=aM.other hb tW _;have c1:aj (λk=>k=s\/k=r) w (w.setCell ⟨s,0,none⟩ (.int .i32 1)):=(aj.refl (λk=>k=s\/k=r) w).setCell (p:=⟨s,0,none⟩) (.inl (.inl rfl)) _;generalize sD:w.setCell ⟨s,0,none⟩ (.int .i32 1)=w1 at V xd c1;have C:=z28 (yw w1 s st lk 1 cb rs k r fz v x V Q Y xd ho);have LV:=z28 (Rd.Jw w1 r fz v x t xd L ht vy);have k1:w1.cell? ⟨s,0,none⟩=some (.int .i32 1):=V.blk.at rfl;have f1:=V.blk.frozen (i:=0) (.inr (aI _));unfold aG at C ⊢
 go_enter_defers Tq.func25,ntmps25
 go_wp2_with (first
  |(go_at_call 38;refine(iR s 0 w k0 f0).mono ?_;rintro e U ⟨rfl,rfl⟩;rw[sD])
  |(go_at_call 47;refine C.out.mono ?_;rintro e U ⟨rfl,rfl⟩)
  |(go_at_call 48;refine LV.out.mono ?_;rintro e U ⟨rfl,rfl⟩))
 refine ŋ (f:=39) (args:=#[.pointer (some ⟨s,0,none⟩)]) (by simp) (by simp[go_sem]) ?_;refine(fE s 0 .returning _ k1 f1).mono ?_;rintro e u' w3 ⟨rfl,rfl,rfl⟩;exact⟨_,Ŋ rfl _ _ _,rfl,V.lock 0,aM.other xd tW _,c1.setCell (p:=⟨s,0,none⟩) (.inl (.inl rfl)) _⟩
def ė{p:Prop}(h:p:=by
 have J:=V.aA c2 (λe=>tW e.symm) tM;have k1:w2.cell? ⟨s,0,none⟩=some (.int .i32 1):=J.blk.at rfl;have f1:=J.blk.frozen (i:=0) (.inr (aI _));refine ŋ (f:=39) (args:=#[.pointer (some ⟨s,0,none⟩)]) (by simp) (by simp[go_sem]) ?_;refine(fE s 0 .returning _ k1 f1).mono ?_;rintro e u' w3 ⟨rfl,rfl,rfl⟩;exact⟨_,Ŋ rfl _ _ _,rfl,J.lock 0,aM.other wj tW _,(c1.trans' c2 (λi _ e=>.inr e)).setCell (p:=⟨s,0,none⟩) (.inl (.inl rfl)) _⟩):p:=h
def Ee w s st lk cb rs(k r:Nat)fz v x t(h:Sr w s st lk 0 cb rs)(Q:rs.length<=8)(Y:rs[k]? =some r)(hb:Cb w r fz v x)(ho:x.over=false)
 (hz:Fz fz) (EF:x.rest.length<=600) (he:x.ended=false) (h6:x.nL.length+t.size<=600):
 Calls Tq.prog 25 #[aG s,.int .i64 k,.string t] w λe U=>e=.returned (.bool true)/\Sr U s st lk 0 cb rs/\Cb U r fz v {x with nL:=x.nL++t.data.toList,rest:=x.rest++t.data.toList}/\aj (λk=>k=s\/k=r) w U:=by
 have k0:w.cell? ⟨s,0,none⟩=some (.int .i32 0):=h.blk.at rfl;have f0:=h.blk.frozen (i:=0) (.inr (aI _));have V:=h.lock 1;have tW:=h.um hb;have tM:=h.Ad hb;have xd:Cb (w.setCell ⟨s,0,none⟩ (.int .i32 1)) r fz v x:=aM.other hb tW _;have c1:aj (λk=>k=s\/k=r) w (w.setCell ⟨s,0,none⟩ (.int .i32 1)):=(aj.refl (λk=>k=s\/k=r) w).setCell (p:=⟨s,0,none⟩) (.inl (.inl rfl)) _;generalize sD:w.setCell ⟨s,0,none⟩ (.int .i32 1)=w1 at V xd c1;have C:=z28 (yw w1 s st lk 1 cb rs k r fz v x V Q Y xd ho);have LV:=z28 (Rd.Ee w1 r fz v x t xd hz EF he h6);unfold aG at C ⊢
 go_enter_defers Tq.func25,ntmps25
 go_wp2_with (first
  |(go_at_call 38;refine(iR s 0 w k0 f0).mono ?_;rintro e U ⟨rfl,rfl⟩;rw[sD])
  |(go_at_call 47;refine C.out.mono ?_;rintro e U ⟨rfl,rfl⟩)
  |(go_at_call 48;refine LV.out.mono ?_;rintro e w2 ⟨rfl,wj,c2⟩))
 exact ė
def aGP(w:World)(s st lk:Nat)(cb:Value)(rs:List Nat)(c:Int)(xs:List Cn)(h:Sr w s st lk 0 cb rs)(Q:rs.length<=8)(hs:Cs w rs xs)(ht:target xs c=none):
 Calls Tq.prog 34 #[aG s,.int .i64 c] w λe U=>e=.returned (.bool false)/\Sr U s st lk 0 cb rs/\aj (λk=>k=s) w U:=by
 have k0:w.cell? ⟨s,0,none⟩=some (.int .i32 0):=h.blk.at rfl;have f0:=h.blk.frozen (i:=0) (.inr (aI _));have V:=h.lock 1;have Aw:=hs.lock h (.int .i32 1);have c1:aj (λk=>k=s) w (w.setCell ⟨s,0,none⟩ (.int .i32 1)):=(aj.refl (λk=>k=s) w).setCell (p:=⟨s,0,none⟩) (.inl rfl) _;generalize sD:w.setCell ⟨s,0,none⟩ (.int .i32 1)=w1 at V Aw c1;have C:=z28 (Rv w1 s st lk 1 cb rs c xs V Q Aw ht);have k1:w1.cell? ⟨s,0,none⟩=some (.int .i32 1):=V.blk.at rfl;have f1:=V.blk.frozen (i:=0) (.inr (aI _));unfold aG at C ⊢
 go_enter_defers Tq.func34,ntmps34
 exact Ė
def aIB(w:World)(s st lk:Nat)(cb:Value)(rs:List Nat)(k r:Nat)(fz:Nat×Nat)(v:Cv)(x:Cn)(h:Sr w s st lk 0 cb rs)(Q:rs.length<=8)(Y:rs[k]? =some r)(hb:Cb w r fz v x)(ho:x.over=false)(hz:Fz fz):
 Calls Tq.prog 34 #[aG s,.int .i64 k] w λe U=>e=.returned (.bool true)/\Sr U s st lk 0 cb rs/\Cb U r fz v {x with ended:=true}/\aj (λk=>k=s\/k=r) w U:=by
 have k0:w.cell? ⟨s,0,none⟩=some (.int .i32 0):=h.blk.at rfl;have f0:=h.blk.frozen (i:=0) (.inr (aI _));have V:=h.lock 1;have tW:=h.um hb;have tM:=h.Ad hb;have xd:Cb (w.setCell ⟨s,0,none⟩ (.int .i32 1)) r fz v x:=aM.other hb tW _;have c1:aj (λk=>k=s\/k=r) w (w.setCell ⟨s,0,none⟩ (.int .i32 1)):=(aj.refl (λk=>k=s\/k=r) w).setCell (p:=⟨s,0,none⟩) (.inl (.inl rfl)) _;generalize sD:w.setCell ⟨s,0,none⟩ (.int .i32 1)=w1 at V xd c1;have C:=z28 (yw w1 s st lk 1 cb rs k r fz v x V Q Y xd ho);have LV:=z28 (Rd.aID w1 r fz v x xd hz);unfold aG at C ⊢
 go_enter_defers Tq.func34,ntmps34
 go_wp2_with (first
  |(go_at_call 38;refine(iR s 0 w k0 f0).mono ?_;rintro e U ⟨rfl,rfl⟩;rw[sD])
  |(go_at_call 47;refine C.out.mono ?_;rintro e U ⟨rfl,rfl⟩)
  |(go_at_call 51;refine LV.out.mono ?_;rintro e w2 ⟨rfl,wj,c2⟩))
 exact ė
def TU w s st lk cb rs c(h:Sr w s st lk 0 cb rs)(Q:rs.length<=8)(L:c<0\/(rs.length:Int)<=c):
 Calls Tq.prog 29 #[aG s,.int .i64 c] w λe U=>e=.returned (.tuple #[av [],.bool false])/\Sr U s st lk 0 cb rs/\aj (λk=>k=s) w U:=by
 have k0:w.cell? ⟨s,0,none⟩=some (.int .i32 0):=h.blk.at rfl;have f0:=h.blk.frozen (i:=0) (.inr (aI _));have V:=h.lock 1;have c1:aj (λk=>k=s) w (w.setCell ⟨s,0,none⟩ (.int .i32 1)):=(aj.refl (λk=>k=s) w).setCell (p:=⟨s,0,none⟩) (.inl rfl) _;generalize sD:w.setCell ⟨s,0,none⟩ (.int .i32 1)=w1 at V c1;obtain⟨p,cap,rfl,uz⟩:=V.len;have k3:w1.cell? ⟨s,4,none⟩=some (.slice p rs.length cap):=V.blk.at rfl;clear uz;have H:=z28 V;have k1:w1.cell? ⟨s,0,none⟩=some (.int .i32 1):=V.blk.at rfl;have f1:=V.blk.frozen (i:=0) (.inr (aI _));clear h V;unfold aG;by_cases h0:c<0
 ·go_enter_defers Tq.func29,ntmps29
  go_wp2_with (go_at_call 38;refine(iR s 0 w k0 f0).mono ?_;rintro e U ⟨rfl,rfl⟩;rw[sD]);refine ŋ (f:=39) (args:=#[.pointer (some ⟨s,0,none⟩)]) (by simp) (by simp[go_sem]) ?_;refine(fE s 0 .returning _ k1 f1).mono ?_;rintro e u' w3 ⟨rfl,rfl,rfl⟩;exact⟨_,Ō rfl _ _ _,rfl,H.out.lock 0,c1.setCell (p:=⟨s,0,none⟩) (.inl rfl) _⟩
 ·have J:(rs.length:Int)<=c:=by omega
  go_enter_defers Tq.func29,ntmps29
  go_wp2_with (go_at_call 38;refine(iR s 0 w k0 f0).mono ?_;rintro e U ⟨rfl,rfl⟩;rw[sD]);refine ŋ (f:=39) (args:=#[.pointer (some ⟨s,0,none⟩)]) (by simp) (by simp[go_sem]) ?_;refine(fE s 0 .returning _ k1 f1).mono ?_;rintro e u' w3 ⟨rfl,rfl,rfl⟩;exact⟨_,Ō rfl _ _ _,rfl,H.out.lock 0,c1.setCell (p:=⟨s,0,none⟩) (.inl rfl) _⟩
def XU w s st lk cb rs(c r:Nat)fz v x(h:Sr w s st lk 0 cb rs)(Q:rs.length<=8)(L:rs[c]? =some r)(hb:Cb w r fz v x):
 Calls Tq.prog 29 #[aG s,.int .i64 c] w λe U=>e=.returned (.tuple #[av (if x.over&&x.bK then x.bR else[]),.bool (x.over&&x.bK)])/\Sr U s st lk 0 cb rs/\aj (λk=>k=s) w U:=by
 have k0:w.cell? ⟨s,0,none⟩=some (.int .i32 0):=h.blk.at rfl;have f0:=h.blk.frozen (i:=0) (.inr (aI _));have V:=h.lock 1;have tW:=h.um hb;have xd:Cb (w.setCell ⟨s,0,none⟩ (.int .i32 1)) r fz v x:=aM.other hb tW _;have c1:aj (λk=>k=s) w (w.setCell ⟨s,0,none⟩ (.int .i32 1)):=(aj.refl (λk=>k=s) w).setCell (p:=⟨s,0,none⟩) (.inl rfl) _;generalize sD:w.setCell ⟨s,0,none⟩ (.int .i32 1)=w1 at V c1 xd;obtain⟨p,cap,rfl,uz⟩:=V.len;obtain⟨tP,Y⟩:=bA.1 L;obtain⟨a,rfl,kc0⟩:=uz c tP;have k3:w1.cell? ⟨s,4,none⟩=some (.slice (some a) rs.length cap):=V.blk.at rfl;have ko:w1.cell? ⟨r,11,none⟩=some (.bool x.over):=xd.at rfl;have kp:w1.cell? ⟨r,13,none⟩=some (.bool x.bK):=xd.at rfl;have kq:w1.cell? ⟨r,12,none⟩=some (av x.bR):=xd.at rfl;have kc:w1.cell? (a.add c)=some (.pointer (some ⟨r,0,none⟩)):=by rw[kc0];unfold aG;simp[tP,Y]
 clear kc0;have lC:(c:Int)<rs.length:=by omega
 have H:=z28 V;have k1:w1.cell? ⟨s,0,none⟩=some (.int .i32 1):=V.blk.at rfl;have f1:=V.blk.frozen (i:=0) (.inr (aI _));unfold av at kq ⊢;clear h V uz L Y hb xd;unfold aG;generalize hlen:rs.length=len at lC k3 Q;have hlen:=z28 hlen;clear tP;generalize x.over=ov at ko ⊢;generalize x.bK=rp at kp ⊢;cases ov<;>cases rp
 all_goals
  go_enter_defers Tq.func29,ntmps29
  go_wp2_with (go_at_call 38;refine(iR s 0 w k0 f0).mono ?_;rintro e U ⟨rfl,rfl⟩;rw[sD]);refine ŋ (f:=39) (args:=#[.pointer (some ⟨s,0,none⟩)]) (by simp) (by simp[go_sem]) ?_;refine(fE s 0 .returning _ k1 f1).mono ?_;rintro e u' w3 ⟨rfl,rfl,rfl⟩;exact⟨_,Ō rfl _ _ _,rfl,(by rw[<-hlen.out];exact H.out.lock 0),c1.setCell (p:=⟨s,0,none⟩) (.inl rfl) _⟩
end Se
