/- Races: a part. Conditions: none. -/
import Derived.Test.YtmanpggemmgnnaaGreatDoorA25
import Derived.Test.YtmanpggemmgnnaaGreatDoorA27
set_option linter.all false
set_option maxHeartbeats 8000000
set_option maxRecDepth 1000000
namespace Go.Proofs.YtmanpggemmgnnaaGreatDoor
noncomputable section
open Go Go.RowKit Ba Fr Go.Maps
theorem z28 {p:Prop} (h:p):Go.RowKit.Hid p:=Go.Lib.hid h
namespace Rd
open Tx Sp Mp Bk Wg
structure Cv where
 i:Nat
 s:Nat
 o:Value
 a:Value
 cv:Value
 ov:Value
 wk:Value
 wv:Value
def cells (v:Cv) (c:Cn):Array Value:=#[.int .i64 v.i,.pointer (some ⟨v.s,0,none⟩),av c.nL,av c.rest,.bool c.ended,.bool c.second,.bool c.done,v.cv,v.ov,v.o,v.a,.bool c.over,av c.bR,.bool c.bK,v.wk,v.wv]
def Fz (fz:Nat×Nat):Prop:=∀i,i≠1->i≠9->i≠10->(i<fz.1\/fz.2<=i)
theorem aQa:Fz (1,2):=λi _ _ _=>by simp only;omega
theorem aP9:Fz (9,11):=λi _ _ _=>by simp only;omega
def Cb (w:World) (r:Nat) (fz:Nat×Nat) (v:Cv) (c:Cn):Prop:=aM w r (cells v c) 99 fz
theorem Jw (w:World) (r:Nat) (fz:Nat×Nat) (v:Cv) (c:Cn) (t:ByteArray) (h:Cb w r fz v c) (hc:c.nL.length<=600) (ht:t.size<=4611686018427387904) (iw:(c.ended||decide (600<c.nL.length+t.size))=true):
 Calls Tq.prog 48 #[.pointer (some ⟨r,2,none⟩),.string t] w λe w'=>e=.returned (.bool false)/\w'=w:=by
 have k0:w.cell? ⟨r,2,none⟩=some (av c.nL):=h.at rfl;have k2:w.cell? ⟨r,4,none⟩=some (.bool c.ended):=h.at rfl;unfold av at k0;have hs:(⟨c.nL.toArray⟩:ByteArray).size=c.nL.length:=rfl;cases he:c.ended
 ·rw [he] at iw k2;have h6:600<c.nL.length+t.size:=by simpa using iw
  go_enter Tq.func48,Tryz.ntmps48;go_wp2;go_ret;exact ⟨rfl,rfl⟩
 ·rw [he] at k2;go_enter Tq.func48,Tryz.ntmps48;go_wp2;go_ret;exact ⟨rfl,rfl⟩
theorem Ee (w:World) (r:Nat) (fz:Nat×Nat) (v:Cv) (c:Cn) (t:ByteArray) (h:Cb w r fz v c) (hz:Fz fz) (hr:c.rest.length<=600) (he:c.ended=false) (h6:c.nL.length+t.size<=600):
 Calls Tq.prog 48 #[.pointer (some ⟨r,2,none⟩),.string t] w λe w'=>e=.returned (.bool true)/\Cb w' r fz v {c with nL:=c.nL++t.data.toList,rest:=c.rest++t.data.toList}/\aj (·=r) w w':=by
 have k0:w.cell? ⟨r,2,none⟩=some (av c.nL):=h.at rfl;have k1:w.cell? ⟨r,3,none⟩=some (av c.rest):=h.at rfl;have k2:w.cell? ⟨r,4,none⟩=some (.bool c.ended):=h.at rfl;have f0:=h.frozen (i:=2) (hz 2 (by decide) (by decide) (by decide));have f1:=h.frozen (i:=3) (hz 3 (by decide) (by decide) (by decide));unfold av at k0 k1;have hs:(⟨c.nL.toArray⟩:ByteArray).size=c.nL.length:=rfl;have GQ:(⟨c.rest.toArray⟩:ByteArray).size=c.rest.length:=rfl;have hl6:¬(600<c.nL.length+t.size):=by omega
 rw [he] at k2;go_enter Tq.func48,Tryz.ntmps48;go_wp2;go_ret;have e:=(h.set 2 (.string ((⟨c.nL.toArray⟩:ByteArray)++t))).set 3 (.string ((⟨c.rest.toArray⟩:ByteArray)++t));refine ⟨rfl,?_,((aj.refl (·=r) w).setCell (p:=⟨r,2,none⟩) (.inl rfl) _).setCell (p:=⟨r,3,none⟩) (.inl rfl) _⟩;rw [zR,zR] at e ⊢;exact e
def ErV (mv:Value) (w:World) (B:Nat):Er->Value->Prop
 | .ok,v=>v=.nilIface
 | .more,v=>v=mv
 | .refused x,v=>∃b,v=.iface 135 (.pointer (some ⟨b,0,none⟩))/\aM w b #[av x] 139 (0,0)/\B<=b
theorem L8 (mv:Value) (w:World) (r:Nat) (fz:Nat×Nat) (v:Cv) (c:Cn) (h:Cb w r fz v c) (hg:w.cell? ⟨0,0,none⟩=some mv):
 Calls Tq.prog 155 #[.pointer (some ⟨r,2,none⟩)] w λe w'=>∃u,e=.returned u/\ErV mv w' w.heap.size c.A9 u/\Below w.heap.size w w':=by
 have k2:w.cell? ⟨r,4,none⟩=some (.bool c.ended):=h.at rfl;unfold Cn.A9;cases he:c.ended
 ·rw [he] at k2;go_enter Tq.func155,Tryz.ntmps155;go_wp2;go_ret;exact ⟨_,rfl,rfl,Below.refl _ _⟩
 ·rw [he] at k2;go_enter Tq.func155,Tryz.ntmps155;go_wp2;go_ret;exact ⟨_,rfl,⟨_,rfl,aM.new _ _ _,Nat.le_refl _⟩,(Below.refl _ _).alloc (Nat.le_refl _) _⟩
end Rd
namespace Se
open Tx Sp Mp Bk Wg Rd
def aG (r:Nat):Value:=.pointer (some ⟨r,0,none⟩)
structure Sr (w:World) (s st lk:Nat) (m:Int) (cb:Value) (rs:List Nat):Prop where
 blk:aM w s #[.int .i32 m,.int .u32 0,aG st,aG lk,cb] 79 (0,0)
 row:w.ownsRow 0 91 1 cb rs.length (rs.map aG)
theorem Sr.len {w:World} {s st lk:Nat} {m:Int} {cb:Value} {rs:List Nat} (h:Sr w s st lk m cb rs):∃p cap,cb=.slice p rs.length cap/\∀i,i<rs.length->∃a,p=some a/\w.cell? (a.add i)=some (aG (rs[i]!)):=by
 rcases h.row.2 with ⟨rfl,h0⟩|⟨g,cap,cur,rfl,_⟩
 ·exact ⟨none,0,by rw [h0],λi hi=>by omega⟩
 ·refine ⟨_,cap,rfl,λi hi=>⟨_,rfl,?_⟩⟩;have:=h.row.cells (g:=g) rfl i (aG (rs[i]!)) (by rw [List.getElem?_map,List.getElem?_eq_getElem hi];simp [hi]);simpa [Addr.add] using this
theorem Hg (w:World) (s st lk:Nat) (m:Int) (cb:Value) (rs:List Nat) (c:Int) (h:Sr w s st lk m cb rs) (hn:rs.length<=8) (hc:c<0\/(rs.length:Int)<=c):
 Calls Tq.prog 47 #[aG s,.int .i64 c] w λe w'=>e=.returned (.pointer none)/\w'=w:=by
 obtain ⟨p,cap,rfl,cz⟩:=h.len;have k3:w.cell? ⟨s,4,none⟩=some (.slice p rs.length cap):=h.blk.at rfl;clear cz h;unfold aG;by_cases h0:c<0
 ·go_enter Tq.func47,Tryz.ntmps47;go_wp2;go_ret;exact ⟨rfl,rfl⟩
 ·have h1:(rs.length:Int)<=c:=by omega
  go_enter Tq.func47,Tryz.ntmps47;go_wp2;go_ret;exact ⟨rfl,rfl⟩
theorem Hf (w:World) (s st lk:Nat) (m:Int) (cb:Value) (rs:List Nat) (c r:Nat) (fz:Nat×Nat) (v:Cv) (x:Cn) (h:Sr w s st lk m cb rs) (hn:rs.length<=8) (hc:rs[c]? =some r) (hb:Cb w r fz v x):
 Calls Tq.prog 47 #[aG s,.int .i64 c] w λe w'=>e=.returned (if x.over then .pointer none else aG r)/\w'=w:=by
 obtain ⟨p,cap,rfl,cz⟩:=h.len;obtain ⟨aI,hr⟩:=List.getElem?_eq_some_iff.1 hc;obtain ⟨a,rfl,kc0⟩:=cz c aI;have k3:w.cell? ⟨s,4,none⟩=some (.slice (some a) rs.length cap):=h.blk.at rfl;have ko:w.cell? ⟨r,11,none⟩=some (.bool x.over):=hb.at rfl;have kc:w.cell? (a.add c)=some (.pointer (some ⟨r,0,none⟩)):=by rw [kc0];unfold aG;simp [aI,hr]
 clear kc0;have lC:(c:Int)<rs.length:=by omega
 clear cz h hb hc hr;generalize rs.length=len at lC k3 hn;clear aI;unfold aG;generalize x.over=ov at ko ⊢;cases ov
 ·go_enter Tq.func47,Tryz.ntmps47;go_wp2;go_ret;exact ⟨rfl,rfl⟩
 ·go_enter Tq.func47,Tryz.ntmps47;go_wp2;go_ret;exact ⟨rfl,rfl⟩
def target (xs:List Cn) (c:Int):Option (Nat×Cn):=if c<0 then none else match xs[c.toNat]? with
 |some x=>if x.over then none else some (c.toNat,x)
 |none=>none
theorem RH (s:Sv) (c:Int):s.conn c=target s.ae c:=rfl
structure Cs (w:World) (rs:List Nat) (xs:List Cn):Prop where
 len:rs.length=xs.length
 at_:∀(i r:Nat) (x:Cn),rs[i]? =some r->xs[i]? =some x->∃fz v,Cb w r fz v x
theorem Rv (w:World) (s st lk:Nat) (m:Int) (cb:Value) (rs:List Nat) (c:Int) (xs:List Cn) (h:Sr w s st lk m cb rs) (hn:rs.length<=8) (hs:Cs w rs xs) (ht:target xs c=none):
 Calls Tq.prog 47 #[aG s,.int .i64 c] w λe w'=>e=.returned (.pointer none)/\w'=w:=by
 unfold target at ht;by_cases h0:c<0
 ·exact Hg w s st lk m cb rs c h hn (.inl h0)
 ·obtain ⟨k,rfl⟩:=Int.eq_ofNat_of_zero_le (show 0<=c by omega);rw [if_neg h0,Int.toNat_natCast] at ht;cases hx:xs[k]? with
  |none=>have:xs.length<=k:=List.getElem?_eq_none_iff.1 hx;exact Hg w s st lk m cb rs k h hn (.inr (by have:=hs.len;omega))
  |some x=>
   rw [hx] at ht;have hk:k<rs.length:=by rw [hs.len];exact (List.getElem?_eq_some_iff.1 hx).1
   have hr:rs[k]? =some rs[k]:=List.getElem?_eq_getElem hk;obtain ⟨fz,v,MR⟩:=hs.at_ k _ x hr hx;have:=Hf w s st lk m cb rs k _ fz v x h hn hr MR;have ho:x.over=true:=by
    cases ho:x.over
    ·simp [ho] at ht
    ·rfl
   rw [ho] at this;exact this
theorem yw (w:World) (s st lk:Nat) (m:Int) (cb:Value) (rs:List Nat) (k r:Nat) (fz:Nat×Nat) (v:Cv) (x:Cn) (h:Sr w s st lk m cb rs) (hn:rs.length<=8) (hr:rs[k]? =some r) (hb:Cb w r fz v x) (ho:x.over=false):
 Calls Tq.prog 47 #[aG s,.int .i64 k] w λe w'=>e=.returned (aG r)/\w'=w:=by
 have:=Hf w s st lk m cb rs k r fz v x h hn hr hb;rw [ho] at this;exact this
end Se
namespace Se
open Tx Sp Mp Bk Wg Rd
section
variable {w w':World} {s st lk:Nat} {m m':Int} {cb:Value} {rs:List Nat} {xs:List Cn}
theorem Sr.aA {S:Nat->Prop} (h:Sr w s st lk m cb rs) (hc:aj S w w') (h1:¬S s) (h2:∀k,cb.ownBlock=some k->¬S k):Sr w' s st lk m cb rs:=
 ⟨h.blk.aA hc h1,hc.ownsRow h.row h2⟩
theorem Sr.IJ (h:Sr w s st lk m cb rs):cb.ownBlock≠some s:=λe=>by
 obtain ⟨h1,h2⟩:=h;rcases h2.2 with ⟨rfl,_⟩|⟨g,cap,cur,rfl,_,hb,_⟩
 ·cases e
 ·obtain rfl:g=s:=Option.some.inj e;unfold aM at h1;rw [hb] at h1;injection h1 with h1;injection h1 with _ h1 _;cases h1
theorem Sr.lock (h:Sr w s st lk m cb rs) (m':Int):Sr (w.setCell ⟨s,0,none⟩ (.int .i32 m')) s st lk m' cb rs:=
 ⟨h.blk.set 0 _,ownsRow_setCell_other h.row h.IJ _⟩
theorem Sr.um {r:Nat} {fz:Nat×Nat} {v:Cv} {x:Cn} (h:Sr w s st lk m cb rs) (hb:Cb w r fz v x):r≠s:=aM.ne hb h.blk (by decide)
theorem Sr.Ad {r:Nat} {fz:Nat×Nat} {v:Cv} {x:Cn} (h:Sr w s st lk m cb rs) (hb:Cb w r fz v x):∀k,cb.ownBlock=some k->k≠r:=λk e he=>by
 subst he;rcases h.row.2 with ⟨rfl,_⟩|⟨g,cap,cur,rfl,_,kz,_⟩
 ·cases e
 ·obtain rfl:g=k:=Option.some.inj e;unfold Cb aM at hb;rw [kz] at hb;injection hb with hb;injection hb with _ hb _;cases hb
theorem Cs.lock (h:Cs w rs xs) (hr:Sr w s st lk m cb rs) (v:Value):Cs (w.setCell ⟨s,0,none⟩ v) rs xs:=
 ⟨h.len,λi r x hri hx=>by
   obtain ⟨fz,u,hb⟩:=h.at_ i r x hri hx;exact ⟨fz,u,aM.other hb (hr.um hb) v⟩⟩
end
theorem Vi (w:World) (s st lk:Nat) (cb:Value) (rs:List Nat) (c:Int) (t:ByteArray) (xs:List Cn) (h:Sr w s st lk 0 cb rs) (hn:rs.length<=8) (hs:Cs w rs xs) (ht:target xs c=none):
 Calls Tq.prog 25 #[aG s,.int .i64 c,.string t] w λe w'=>e=.returned (.bool false)/\Sr w' s st lk 0 cb rs/\aj (λk=>k=s) w w':=by
 have k0:w.cell? ⟨s,0,none⟩=some (.int .i32 0):=h.blk.at rfl;have f0:=h.blk.frozen (i:=0) (.inr (Nat.le_refl _));have h1:=h.lock 1;have GQ:=hs.lock h (.int .i32 1);have c1:aj (λk=>k=s) w (w.setCell ⟨s,0,none⟩ (.int .i32 1)):=(aj.refl (λk=>k=s) w).setCell (p:=⟨s,0,none⟩) (.inl rfl) _;generalize sD:w.setCell ⟨s,0,none⟩ (.int .i32 1)=w1 at h1 GQ c1;have C:=z28 (Rv w1 s st lk 1 cb rs c xs h1 hn GQ ht);have k1:w1.cell? ⟨s,0,none⟩=some (.int .i32 1):=h1.blk.at rfl;have f1:=h1.blk.frozen (i:=0) (.inr (Nat.le_refl _));unfold aG at C ⊢
 go_enter_defers Tq.func25,Tryz.ntmps25
 go_wp2_with (first
  |(go_at_call 38;refine (iR s 0 w k0 f0).mono ?_;rintro e w' ⟨rfl,rfl⟩;rw [sD])
  |(go_at_call 47;refine C.out.mono ?_;rintro e w' ⟨rfl,rfl⟩))
 refine leaves_cons (f:=39) (args:=#[.pointer (some ⟨s,0,none⟩)]) (by simp) (by simp [go_sem]) ?_;refine (fE s 0 .returning _ k1 f1).mono ?_;rintro e u' w3 ⟨rfl,rfl,rfl⟩;exact ⟨_,results_tmp rfl _ _ _,rfl,h1.lock 0,c1.setCell (p:=⟨s,0,none⟩) (.inl rfl) _⟩
theorem Jw (w:World) (s st lk:Nat) (cb:Value) (rs:List Nat) (k r:Nat) (fz:Nat×Nat) (v:Cv) (x:Cn) (t:ByteArray) (h:Sr w s st lk 0 cb rs) (hn:rs.length<=8) (hr:rs[k]? =some r) (hb:Cb w r fz v x) (ho:x.over=false)
 (hc:x.nL.length<=600) (ht:t.size<=4611686018427387904) (iw:(x.ended||decide (600<x.nL.length+t.size))=true):
 Calls Tq.prog 25 #[aG s,.int .i64 k,.string t] w λe w'=>e=.returned (.bool false)/\Sr w' s st lk 0 cb rs/\Cb w' r fz v x/\aj (λk=>k=s\/k=r) w w':=by
 have k0:w.cell? ⟨s,0,none⟩=some (.int .i32 0):=h.blk.at rfl;have f0:=h.blk.frozen (i:=0) (.inr (Nat.le_refl _));have h1:=h.lock 1;have bA:=h.um hb;have ll:Cb (w.setCell ⟨s,0,none⟩ (.int .i32 1)) r fz v x:=aM.other hb bA _;have c1:aj (λk=>k=s\/k=r) w (w.setCell ⟨s,0,none⟩ (.int .i32 1)):=(aj.refl (λk=>k=s\/k=r) w).setCell (p:=⟨s,0,none⟩) (.inl (.inl rfl)) _;generalize sD:w.setCell ⟨s,0,none⟩ (.int .i32 1)=w1 at h1 ll c1;have C:=z28 (yw w1 s st lk 1 cb rs k r fz v x h1 hn hr ll ho);have D:=z28 (Rd.Jw w1 r fz v x t ll hc ht iw);have k1:w1.cell? ⟨s,0,none⟩=some (.int .i32 1):=h1.blk.at rfl;have f1:=h1.blk.frozen (i:=0) (.inr (Nat.le_refl _));unfold aG at C ⊢
 go_enter_defers Tq.func25,Tryz.ntmps25
 go_wp2_with (first
  |(go_at_call 38;refine (iR s 0 w k0 f0).mono ?_;rintro e w' ⟨rfl,rfl⟩;rw [sD])
  |(go_at_call 47;refine C.out.mono ?_;rintro e w' ⟨rfl,rfl⟩)
  |(go_at_call 48;refine D.out.mono ?_;rintro e w' ⟨rfl,rfl⟩))
 refine leaves_cons (f:=39) (args:=#[.pointer (some ⟨s,0,none⟩)]) (by simp) (by simp [go_sem]) ?_;refine (fE s 0 .returning _ k1 f1).mono ?_;rintro e u' w3 ⟨rfl,rfl,rfl⟩;exact ⟨_,results_tmp rfl _ _ _,rfl,h1.lock 0,aM.other ll bA _,c1.setCell (p:=⟨s,0,none⟩) (.inl (.inl rfl)) _⟩
theorem Ee (w:World) (s st lk:Nat) (cb:Value) (rs:List Nat) (k r:Nat) (fz:Nat×Nat) (v:Cv) (x:Cn) (t:ByteArray) (h:Sr w s st lk 0 cb rs) (hn:rs.length<=8) (hr:rs[k]? =some r) (hb:Cb w r fz v x) (ho:x.over=false)
 (hz:Fz fz) (EF:x.rest.length<=600) (he:x.ended=false) (h6:x.nL.length+t.size<=600):
 Calls Tq.prog 25 #[aG s,.int .i64 k,.string t] w λe w'=>e=.returned (.bool true)/\Sr w' s st lk 0 cb rs/\Cb w' r fz v {x with nL:=x.nL++t.data.toList,rest:=x.rest++t.data.toList}/\aj (λk=>k=s\/k=r) w w':=by
 have k0:w.cell? ⟨s,0,none⟩=some (.int .i32 0):=h.blk.at rfl;have f0:=h.blk.frozen (i:=0) (.inr (Nat.le_refl _));have h1:=h.lock 1;have bA:=h.um hb;have ay:=h.Ad hb;have ll:Cb (w.setCell ⟨s,0,none⟩ (.int .i32 1)) r fz v x:=aM.other hb bA _;have c1:aj (λk=>k=s\/k=r) w (w.setCell ⟨s,0,none⟩ (.int .i32 1)):=(aj.refl (λk=>k=s\/k=r) w).setCell (p:=⟨s,0,none⟩) (.inl (.inl rfl)) _;generalize sD:w.setCell ⟨s,0,none⟩ (.int .i32 1)=w1 at h1 ll c1;have C:=z28 (yw w1 s st lk 1 cb rs k r fz v x h1 hn hr ll ho);have D:=z28 (Rd.Ee w1 r fz v x t ll hz EF he h6);unfold aG at C ⊢
 go_enter_defers Tq.func25,Tryz.ntmps25
 go_wp2_with (first
  |(go_at_call 38;refine (iR s 0 w k0 f0).mono ?_;rintro e w' ⟨rfl,rfl⟩;rw [sD])
  |(go_at_call 47;refine C.out.mono ?_;rintro e w' ⟨rfl,rfl⟩)
  |(go_at_call 48;refine D.out.mono ?_;rintro e w2 ⟨rfl,gQ,c2⟩))
 have h2:=h1.aA c2 (λe=>bA e.symm) ay;have k1:w2.cell? ⟨s,0,none⟩=some (.int .i32 1):=h2.blk.at rfl;have f1:=h2.blk.frozen (i:=0) (.inr (Nat.le_refl _));refine leaves_cons (f:=39) (args:=#[.pointer (some ⟨s,0,none⟩)]) (by simp) (by simp [go_sem]) ?_;refine (fE s 0 .returning _ k1 f1).mono ?_;rintro e u' w3 ⟨rfl,rfl,rfl⟩;exact ⟨_,results_tmp rfl _ _ _,rfl,h2.lock 0,aM.other gQ bA _,(c1.trans' c2 (λi _ e=>.inr e)).setCell (p:=⟨s,0,none⟩) (.inl (.inl rfl)) _⟩
end Se
namespace Se
open Tx Sp Mp Bk Wg Rd
theorem TU (w:World) (s st lk:Nat) (cb:Value) (rs:List Nat) (c:Int) (h:Sr w s st lk 0 cb rs) (hn:rs.length<=8) (hc:c<0\/(rs.length:Int)<=c):
 Calls Tq.prog 29 #[aG s,.int .i64 c] w λe w'=>e=.returned (.tuple #[av [],.bool false])/\Sr w' s st lk 0 cb rs/\aj (λk=>k=s) w w':=by
 have k0:w.cell? ⟨s,0,none⟩=some (.int .i32 0):=h.blk.at rfl;have f0:=h.blk.frozen (i:=0) (.inr (Nat.le_refl _));have h1:=h.lock 1;have c1:aj (λk=>k=s) w (w.setCell ⟨s,0,none⟩ (.int .i32 1)):=(aj.refl (λk=>k=s) w).setCell (p:=⟨s,0,none⟩) (.inl rfl) _;generalize sD:w.setCell ⟨s,0,none⟩ (.int .i32 1)=w1 at h1 c1;obtain ⟨p,cap,rfl,cz⟩:=h1.len;have k3:w1.cell? ⟨s,4,none⟩=some (.slice p rs.length cap):=h1.blk.at rfl;clear cz;have H:=z28 h1;have k1:w1.cell? ⟨s,0,none⟩=some (.int .i32 1):=h1.blk.at rfl;have f1:=h1.blk.frozen (i:=0) (.inr (Nat.le_refl _));clear h h1;unfold aG;by_cases h0:c<0
 ·go_enter_defers Tq.func29,Tryz.ntmps29
  go_wp2_with (go_at_call 38;refine (iR s 0 w k0 f0).mono ?_;rintro e w' ⟨rfl,rfl⟩;rw [sD]);refine leaves_cons (f:=39) (args:=#[.pointer (some ⟨s,0,none⟩)]) (by simp) (by simp [go_sem]) ?_;refine (fE s 0 .returning _ k1 f1).mono ?_;rintro e u' w3 ⟨rfl,rfl,rfl⟩;exact ⟨_,results_tmp2 rfl _ _ _,rfl,H.out.lock 0,c1.setCell (p:=⟨s,0,none⟩) (.inl rfl) _⟩
 ·have h2:(rs.length:Int)<=c:=by omega
  go_enter_defers Tq.func29,Tryz.ntmps29
  go_wp2_with (go_at_call 38;refine (iR s 0 w k0 f0).mono ?_;rintro e w' ⟨rfl,rfl⟩;rw [sD]);refine leaves_cons (f:=39) (args:=#[.pointer (some ⟨s,0,none⟩)]) (by simp) (by simp [go_sem]) ?_;refine (fE s 0 .returning _ k1 f1).mono ?_;rintro e u' w3 ⟨rfl,rfl,rfl⟩;exact ⟨_,results_tmp2 rfl _ _ _,rfl,H.out.lock 0,c1.setCell (p:=⟨s,0,none⟩) (.inl rfl) _⟩
theorem XU (w:World) (s st lk:Nat) (cb:Value) (rs:List Nat) (c r:Nat) (fz:Nat×Nat) (v:Cv) (x:Cn) (h:Sr w s st lk 0 cb rs) (hn:rs.length<=8) (hc:rs[c]? =some r) (hb:Cb w r fz v x):
 Calls Tq.prog 29 #[aG s,.int .i64 c] w λe w'=>e=.returned (.tuple #[av (if x.over&&x.bK then x.bR else []),.bool (x.over&&x.bK)])/\Sr w' s st lk 0 cb rs/\aj (λk=>k=s) w w':=by
 have k0:w.cell? ⟨s,0,none⟩=some (.int .i32 0):=h.blk.at rfl;have f0:=h.blk.frozen (i:=0) (.inr (Nat.le_refl _));have h1:=h.lock 1;have bA:=h.um hb;have ll:Cb (w.setCell ⟨s,0,none⟩ (.int .i32 1)) r fz v x:=aM.other hb bA _;have c1:aj (λk=>k=s) w (w.setCell ⟨s,0,none⟩ (.int .i32 1)):=(aj.refl (λk=>k=s) w).setCell (p:=⟨s,0,none⟩) (.inl rfl) _;generalize sD:w.setCell ⟨s,0,none⟩ (.int .i32 1)=w1 at h1 c1 ll;obtain ⟨p,cap,rfl,cz⟩:=h1.len;obtain ⟨aI,hr⟩:=List.getElem?_eq_some_iff.1 hc;obtain ⟨a,rfl,kc0⟩:=cz c aI;have k3:w1.cell? ⟨s,4,none⟩=some (.slice (some a) rs.length cap):=h1.blk.at rfl;have ko:w1.cell? ⟨r,11,none⟩=some (.bool x.over):=ll.at rfl;have kp:w1.cell? ⟨r,13,none⟩=some (.bool x.bK):=ll.at rfl;have kq:w1.cell? ⟨r,12,none⟩=some (av x.bR):=ll.at rfl;have kc:w1.cell? (a.add c)=some (.pointer (some ⟨r,0,none⟩)):=by rw [kc0];unfold aG;simp [aI,hr]
 clear kc0;have lC:(c:Int)<rs.length:=by omega
 have H:=z28 h1;have k1:w1.cell? ⟨s,0,none⟩=some (.int .i32 1):=h1.blk.at rfl;have f1:=h1.blk.frozen (i:=0) (.inr (Nat.le_refl _));unfold av at kq ⊢;clear h h1 cz hc hr hb ll;unfold aG;generalize hlen:rs.length=len at lC k3 hn;have hlen:=z28 hlen;clear aI;generalize x.over=ov at ko ⊢;generalize x.bK=rp at kp ⊢;cases ov<;>cases rp
 all_goals
  go_enter_defers Tq.func29,Tryz.ntmps29
  go_wp2_with (go_at_call 38;refine (iR s 0 w k0 f0).mono ?_;rintro e w' ⟨rfl,rfl⟩;rw [sD]);refine leaves_cons (f:=39) (args:=#[.pointer (some ⟨s,0,none⟩)]) (by simp) (by simp [go_sem]) ?_;refine (fE s 0 .returning _ k1 f1).mono ?_;rintro e u' w3 ⟨rfl,rfl,rfl⟩;exact ⟨_,results_tmp2 rfl _ _ _,rfl,(by rw [<-hlen.out];exact H.out.lock 0),c1.setCell (p:=⟨s,0,none⟩) (.inl rfl) _⟩
end Se
end
end Go.Proofs.YtmanpggemmgnnaaGreatDoor
