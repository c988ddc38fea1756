/- Races: a part. Conditions: none. -/
import Derived.Lib.AtoiAllMem
import Derived.Test.YtmanpggemmgnnaaGreatDoorA28
set_option linter.all false
set_option maxHeartbeats 8000000
set_option maxRecDepth 1000000
namespace Go.Proofs.YtmanpggemmgnnaaGreatDoor
noncomputable section
open Go Go.RowKit Go.Shelf Ba Fr
theorem z30 {p:Prop} (h:p):Go.RowKit.Hid p:=Go.Lib.hid h
namespace Pa
open Tx Sp
theorem aNm (n:Nat) (h1:97<=n) (h2:n<=102):bits .or .u8 (n:Int) 32=n:=by
 obtain rfl|rfl|rfl|rfl|rfl|rfl:n=97\/n=98\/n=99\/n=100\/n=101\/n=102:=by omega
 all_goals decide
def Inv (bs:B) (k acc:Nat):Prop:=acc<16^k/\(hex bs=true->acc=dI (bs.take k))
theorem Inv.next {bs:B} {k acc:Nat} {c:UInt8} (h:Inv bs k acc) (hc:bs[k]? =some c) (d:Nat) (hd:d<16) (hx:hex bs=true->d=ZA c):Inv bs (k+1) (acc*16+d):=by
 refine ⟨by have:=h.1;rw [Nat.pow_succ];omega,λhh=>?_⟩;have e:bs.take (k+1)=bs.take k++[c]:=by rw [List.take_add_one,hc];rfl
 rw [e,dI,List.foldl_append];show acc*16+d=dI (bs.take k)*16+ZA c;rw [<-h.2 hh,hx hh]
theorem Zz {bs:B} (h:hex bs=true) {k:Nat} {c:UInt8} (hc:bs[k]? =some c):zx c=true:=List.all_eq_true.1 h c (List.mem_of_getElem? hc)
theorem uint16 (t:ByteArray) (bA:t.size≠0) (aCC:t.size<=4) (w:World):
 Calls Tq.prog 215 #[.string t,.int .i64 16,.int .i64 32] w λe w'=>∃(n:Nat) (u:Value),e=.returned (.tuple #[.int .u64 n,u])/\n<65536/\(u=.nilIface\/u=.iface 291 (.int .i64 2))/\
  (hex t.data.toList=true->u=.nilIface/\n=dI t.data.toList)/\Below w.heap.size w w':=by
 have aPu:t.toList.isEmpty=false:=by rw [<-decide_eq_emptyBytes];exact decide_eq_false (λh=>bA (by rw [h];rfl))
 have U7:=Lib.run_convert_string_bytes (P:=Tq.prog) w 9 35 5 t (u:=.string) ((Tq.underlying 9).trans Tryz.underlying9) ((Tq.underlying 35).trans Tryz.underlying35) ((Tq.underlying 5).trans Tryz.underlying5);have hB:∀j,j<t.size->(Lib.bytesWorld w 5 t).cell? ⟨w.heap.size,j,none⟩=some (.int .u8 (t.data.toList.getD j 0).toNat):=λj hj=>Lib.bytesWorld_cell w 5 t j hj;have fJ:Below w.heap.size w (Lib.bytesWorld w 5 t):=⟨rfl,rfl,rfl,by rw [Lib.bytesWorld_size];omega,λk hk=>Lib.bytesWorld_at_old w 5 t k hk⟩
 generalize Lib.bytesWorld w 5 t=W1 at U7 hB fJ;have fJ:=z30 fJ;obtain ⟨bs,hL⟩:∃bs,bs=t.data.toList:=⟨_,rfl⟩
 have hLn:bs.length=t.size:=by rw [hL,Lib.size_eq]
 rw [<-hL] at hB ⊢;clear hL;go_enter Tq.func215,Tryz.ntmps215;go_wp2
 go_loop [12,13,101] (λvu vn vi=>∃(k acc:Nat) (a:Int),vu=.bool false/\vn=.int .u64 a/\vi=.int .i64 k/\k<=t.size/\0<=a/\a<65536/\Hid (a=(acc:Int)/\Inv bs k acc))
  (λ_ _ vi=>t.size - (intOf vi).toNat)
 case atStart=>exact ⟨0,0,0,rfl,rfl,rfl,by omega,by omega,by omega,z30 ⟨rfl,by decide,λ_=>by simp [dI]⟩⟩
 case round=>
  obtain ⟨k,acc,a,rfl,rfl,rfl,hk,a0,a1,hh⟩:=hrel;by_cases hkn:k<t.size
  ·have hc:=hB k hkn;have G5:bs[k]? =some bs[k]:=List.getElem?_eq_getElem (by omega);have iP:bs.getD k 0=bs[k]'(by omega):=by simp [List.getD,List.getElem?_eq_getElem (show k<bs.length by omega)]
   rw [iP] at hc;generalize bs[k]'(by omega)=c at hc G5;have aR8:c.toNat<256:=c.toNat_lt;have G5:=z30 G5;have ak:a<4096:=by
    obtain ⟨h1,h2,_⟩:=hh.out;have h3:16^k<=4096:=by
     have:k=0\/k=1\/k=2\/k=3:=by omega
     rcases this with rfl|rfl|rfl|rfl<;>decide
    omega
   clear hB iP a1;by_cases aKW:48<=c.toNat/\c.toNat<=57
   ·obtain ⟨hd0,hd1⟩:=aKW;have HN:Hid (a*16+((c.toNat:Int) - 48)=((acc*16+(c.toNat - 48):Nat):Int)/\Inv bs (k+1) (acc*16+(c.toNat - 48))):=
     z30 ⟨by have:=hh.out.1;omega,hh.out.2.next G5.out _ (by omega) (λ_=>by unfold ZA;rw [if_pos hd1])⟩
    clear hh;go_wp2;refine ⟨⟨k+1,_,_,rfl,rfl,(by first|rfl|(congr 1;omega)),by omega,by omega,by omega,HN⟩,by simp [intOf];omega⟩
   ·by_cases hx:97<=c.toNat/\c.toNat<=102
    ·obtain ⟨hd0,hd1⟩:=hx;have h57:¬c.toNat<=57:=by omega
     have hor:bits .or .u8 (c.toNat:Int) 32=(c.toNat:Int):=aNm _ hd0 hd1;have HN:Hid (a*16+((c.toNat:Int) - 97+10)=((acc*16+(c.toNat - 87):Nat):Int)/\Inv bs (k+1) (acc*16+(c.toNat - 87))):=
      z30 ⟨by have:=hh.out.1;omega,hh.out.2.next G5.out _ (by omega) (λ_=>by unfold ZA;rw [if_neg h57])⟩
     clear hh aKW;go_wp2_with (go_at_call 247;refine (Tryz.internal_strconv_lower _ _).mono ?_;rintro e w' ⟨rfl,rfl⟩;rw [hor]);refine ⟨⟨k+1,_,_,rfl,rfl,(by first|rfl|(congr 1;omega)),by omega,by omega,by omega,HN⟩,by simp [intOf];omega⟩
    ·have iw:Hid (hex bs=true->False):=z30 (λh=>by
      have:=Zz h G5.out;unfold zx at this;simp at this;omega)
     obtain ⟨v,hv⟩:∃v,bits .or .u8 (c.toNat:Int) 32=v:=⟨_,rfl⟩
     have NJ:=bits_lo_u8 .or (c.toNat:Int) 32;have Fj:=bits_hi_u8 .or (c.toNat:Int) 32;have hu:bits .or .u8 95 32=127:=by decide
     rw [hv] at NJ Fj;have hv:=z30 hv;go_wp2_with (go_at_call 247;refine (Tryz.internal_strconv_lower _ _).mono ?_;rintro e w' ⟨rfl,rfl⟩;first|rw [hv.out]|rw [hu])
     all_goals first
      |(go_ret2;exact ⟨0,_,rfl,by omega,.inr rfl,λh=>(iw.out h).elim,fJ.out⟩)
      |refine ⟨⟨k+1,acc*16+(v - 87).toNat,a*16+(v - 97+10),rfl,rfl,(by first|rfl|(congr 1;omega)),by omega,by omega,by omega,z30 ⟨by have:=hh.out.1;omega,(hh.out.2.next G5.out _ (by omega) (λh=>(iw.out h).elim))⟩⟩,by simp [intOf];omega⟩
  ·have hkk:k=t.size:=by omega
   subst hkk;have DY:Hid (∃n:Nat,Value.int .u64 a=.int .u64 n/\n<65536/\(hex bs=true->n=dI bs)):=z30 ⟨acc,by rw [hh.out.1],by have:=hh.out.1;omega,λh=>by
    have:=hh.out.2.2 h
    rwa [List.take_of_length_le (by omega)] at this⟩
   clear hh;go_wp2
   go_ret2
   obtain ⟨n,e1,e2,e3⟩:=DY.out;rw [e1];exact ⟨n,_,rfl,e2,.inl rfl,λh=>⟨rfl,e3 h⟩,fJ.out⟩
end Pa
namespace Pa
open Tx Sp
theorem QA (t:ByteArray) (bA:t.size≠0) (aCC:t.size<=4) (w:World):
 Calls Tq.prog 215 #[.string t,.int .i64 16,.int .i64 32] w λe w'=>∃(a:Int) (u:Value),e=.returned (.tuple #[.int .u64 a,u])/\0<=a/\a<65536/\(u=.nilIface\/u=.iface 291 (.int .i64 2))/\
  (hex t.data.toList=true->u=.nilIface/\a=dI t.data.toList)/\Below w.heap.size w w':=
 (uint16 t bA aCC w).mono λe w' ⟨n,u,h1,h2,h3,h4,h5⟩=>⟨n,u,h1,by omega,by omega,h3,λh=>⟨(h4 h).1,by rw [(h4 h).2]⟩,h5⟩
theorem aNA (w:World):(binOp BinOp.neq 133 (.iface 291 (.int .i64 2)) (.iface 291 (.int .i64 1))).run Tq.prog w=.ok (.bool true) w:=(by kernel_rfl)
theorem aJO (t:ByteArray) (bW:t.size=4) (w:World):
 Calls Tq.prog 185 #[.string t,.int .i64 16,.int .i64 32] w λe w'=>∃(n:Int) (u:Value),e=.returned (.tuple #[.int .i64 n,u])/\(u=.nilIface\/u=.iface 291 (.int .i64 2))/\
  (hex t.data.toList=true->u=.nilIface/\n=dI t.data.toList)/\Below w.heap.size w w':=by
 have aRM:=aNA;have aPu:t.toList.isEmpty=false:=by rw [<-decide_eq_emptyBytes];exact decide_eq_false (λh=>by rw [h] at bW;cases bW)
 have h0:t.data.toList[0]? =some t[0]:=by
  have:0<t.data.toList.length:=by rw [dx];omega
  rw [List.getElem?_eq_getElem this];rfl
 have iw:Hid ((t[0].toNat=43\/t[0].toNat=45)->hex t.data.toList=true->False):=z30 (λh hh=>by
  have:=Zz hh h0;unfold zx at this;simp at this;omega)
 have hxs:(t.extract 1 4).size=3:=by rw [ByteArray.size_extract];omega
 have C1:=z30 (λw=>QA t (by omega) (by omega) w);have C2:=z30 (λw=>QA (t.extract 1 4) (by omega) (by omega) w);clear h0;generalize hc:t[0]=c at iw;generalize hex t.data.toList=hx at C1 iw ⊢;by_cases h43:c.toNat=43
 ·have aLg:((c.toNat:Int)==43)=true:=by rw [h43];rfl
  go_enter Tq.func185,Tryz.ntmps185;go_wp2_with fail;refine (C2.out _).mono ?_;rintro e w2 ⟨a,u,rfl,a0,a1,hu,uX,hb⟩;rcases hu with rfl|rfl
  ·go_wp2
   go_ret2
   exact ⟨_,_,rfl,.inl rfl,λh=>(iw.out (.inl h43) h).elim,hb⟩
  ·clear uX;go_wp2_with fail
   go_ret2
   exact ⟨_,_,rfl,.inr rfl,λh=>(iw.out (.inl h43) h).elim,hb⟩
 ·by_cases h45:c.toNat=45
  ·have aLg:((c.toNat:Int)==43)=false:=beq_eq_false_iff_ne.2 (by omega);have aP3:((c.toNat:Int)==45)=true:=by rw [h45];rfl
   go_enter Tq.func185,Tryz.ntmps185;go_wp2_with fail;refine (C2.out _).mono ?_;rintro e w2 ⟨a,u,rfl,a0,a1,hu,uX,hb⟩;rcases hu with rfl|rfl
   ·go_wp2
    go_ret2
    exact ⟨_,_,rfl,.inl rfl,λh=>(iw.out (.inr h45) h).elim,hb⟩
   ·clear uX;go_wp2_with fail
    go_ret2
    exact ⟨_,_,rfl,.inr rfl,λh=>(iw.out (.inr h45) h).elim,hb⟩
  ·have aLg:((c.toNat:Int)==43)=false:=beq_eq_false_iff_ne.2 (by omega);have aP3:((c.toNat:Int)==45)=false:=beq_eq_false_iff_ne.2 (by omega);go_enter Tq.func185,Tryz.ntmps185;go_wp2_with fail;refine (C1.out _).mono ?_;rintro e w2 ⟨a,u,rfl,a0,a1,hu,uX,hb⟩;have uX:=z30 uX;rcases hu with rfl|rfl
   ·go_wp2
    go_ret2
    exact ⟨_,_,rfl,.inl rfl,λh=>⟨rfl,(uX.out h).2⟩,hb⟩
   ·skip
    go_wp2_with fail
    go_ret2
    exact ⟨_,_,rfl,.inr rfl,(λh=>by cases (uX.out h).1),hb⟩
end Pa
namespace Pa
open Tx Sp Wg Rd Bk
theorem aNk (t:ByteArray) (bW:t.size=4) (ev:Value) (w:World) (hv:w.cell? ⟨2,0,none⟩=some ev) (oU:ev=.nilIface\/∃te pe,ev=.iface te pe):
 Calls Tq.prog 156 #[.string t,.int .i64 16,.int .i64 32] w λe w'=>∃(n:Int) (u:Value),e=.returned (.tuple #[.int .i64 n,u])/\(u=.nilIface\/∃a,u=.iface 294 (.pointer (some a)))/\
  (hex t.data.toList=true->u=.nilIface/\n=dI t.data.toList)/\Below w.heap.size w w':=by
 have h2:2<w.heap.size:=World.block_lt_of_cell? w ⟨2,0,none⟩ hv;go_enter Tq.func156,Tryz.ntmps156;go_wp2_with fail;refine (aJO t bW w).mono ?_;rintro e w2 ⟨n,u,rfl,hu,hx,hb⟩;have hx:=z30 hx;rcases hu with rfl|rfl
 ·go_wp2
  go_ret2
  exact ⟨_,_,rfl,.inl rfl,λh=>⟨rfl,(hx.out h).2⟩,hb⟩
 ·have NH:w2.cell? ⟨2,0,none⟩=some ev:=(World.cell?_of_block (w:=w) (hb.block 2 h2)).trans hv;have C:=z30 (Tryz.strconv_toError_syntax ⟨#[80,97,114,115,101,73,110,116]⟩ t 16 32 ev w2 (by omega) NH oU);go_wp2_with fail;refine C.out.mono ?_;rintro e w3 ⟨N,rfl,h1,h3,h4⟩;have jE:=z30 (hb.trans (h4.mono hb.size));clear h3 h4;go_wp2
  go_ret2
  exact ⟨_,_,rfl,.inr ⟨_,rfl⟩,(λh=>by cases (hx.out h).1),jE.out⟩
theorem OY {c:Cn} (h:c.rest.length<4):c.next=(c.A9,[],false,c.rest):=by unfold Cn.next;rw [if_pos h]
theorem xY {c:Cn} (h:¬c.rest.length<4) (hb:(!hex (c.rest.take 4)||(dI (c.rest.take 4)!=0&&decide (dI (c.rest.take 4)<5))||decide (204<dI (c.rest.take 4)))=true):
 c.next=(.refused nQ,[],false,c.rest):=by
 unfold Cn.next;rw [if_neg h];simp only [hb,if_true]
theorem OZ {c:Cn} (h:¬c.rest.length<4) (hx:hex (c.rest.take 4)=true) (h0:dI (c.rest.take 4)=0):c.next=(.ok,[],true,c.rest.drop 4):=by unfold Cn.next;rw [if_neg h];simp [hx,h0]
theorem Ux {c:Cn} (h:¬c.rest.length<4) (hx:hex (c.rest.take 4)=true) (h5:5<=dI (c.rest.take 4)) (h2:dI (c.rest.take 4)<=204) (hl:c.rest.length<dI (c.rest.take 4)):c.next=(c.A9,[],false,c.rest):=by
 unfold Cn.next;rw [if_neg h];have h5':¬dI (c.rest.take 4)<5:=by omega
 have h2':¬204<dI (c.rest.take 4):=by omega
 have h0':¬dI (c.rest.take 4)=0:=by omega
 simp [hx,h5',h2',h0',hl]
theorem Uv {c:Cn} (h:¬c.rest.length<4) (hx:hex (c.rest.take 4)=true) (h5:5<=dI (c.rest.take 4)) (h2:dI (c.rest.take 4)<=204) (hl:dI (c.rest.take 4)<=c.rest.length):
 c.next=(.ok,(c.rest.take (dI (c.rest.take 4))).drop 4,false,c.rest.drop (dI (c.rest.take 4))):=by
 unfold Cn.next;rw [if_neg h];have h5':¬dI (c.rest.take 4)<5:=by omega
 have h2':¬204<dI (c.rest.take 4):=by omega
 have h0':¬dI (c.rest.take 4)=0:=by omega
 have hl':¬c.rest.length<dI (c.rest.take 4):=by omega
 simp [hx,h5',h2',h0',hl']
theorem ErV.mono {mv:Value} {w:World} {B B':Nat} {e:Er} {u:Value} (h:ErV mv w B e u) (hB:B'<=B):ErV mv w B' e u:=by
 cases e with
 |ok=>exact h
 |more=>exact h
 |refused x=>obtain ⟨b,h1,h2,h3⟩:=h;exact ⟨b,h1,h2,Nat.le_trans hB h3⟩
def eu (mv:Value) (w:World) (r:Nat) (fz:Nat×Nat) (v:Cv) (c:Cn) (e:Ending) (w':World):Prop:=
 ∃u,e=.returned (.tuple #[av c.next.2.1,.bool c.next.2.2.1,u])/\ErV mv w' w.heap.size c.next.1 u/\Cb w' r fz v {c with rest:=c.next.2.2.2}/\aj (·=r) w w'
theorem aFG (mv:Value) (w:World) (r:Nat) (fz:Nat×Nat) (v:Cv) (c:Cn) (h:Cb w r fz v c) (hg:w.cell? ⟨0,0,none⟩=some mv) (h4:c.rest.length<4):
 Calls Tq.prog 113 #[.pointer (some ⟨r,2,none⟩)] w (eu mv w r fz v c):=by
 have k1:w.cell? ⟨r,3,none⟩=some (av c.rest):=h.at rfl;unfold av at k1;have GQ:(⟨c.rest.toArray⟩:ByteArray).size=c.rest.length:=rfl;have C:=z30 (L8 mv w r fz v c h hg);have hrb:=h.lt;unfold eu;rw [OY h4];have h:=z30 h;go_enter Tq.func113,Tryz.ntmps113;go_wp2_with fail;refine C.out.mono ?_;rintro e w2 ⟨u,rfl,he,hb⟩;go_wp2
 go_ret3
 exact ⟨_,rfl,he,aM.aA h.out (aj.nK hb) (λe=>e),(aj.nK hb).mono (λ_ _ e=>e.elim)⟩
theorem eu.bad {mv:Value} {w w3:World} {r:Nat} {fz:Nat×Nat} {v:Cv} {c:Cn} (hb:c.next=(.refused nQ,[],false,c.rest)) (h:Cb w r fz v c) (fJ:Below w.heap.size w w3):
 eu mv w r fz v c (.returned (.tuple #[.string ⟨#[]⟩,.bool false,.iface 135 (.pointer (some ⟨w3.heap.size,0,none⟩))])) (w3.alloc (.cells #[.string ⟨#[112,97,99,107,101,116]⟩] 139)):=by
 have gQ:=fJ.alloc fJ.size (.cells #[.string ⟨#[112,97,99,107,101,116]⟩] 139);unfold eu;rw [hb];exact ⟨_,rfl,⟨_,rfl,aM.new _ _ _,fJ.size⟩,aM.aA h (aj.nK gQ) (λe=>e),(aj.nK gQ).mono (λ_ _ e=>e.elim)⟩
theorem aFF (mv ev:Value) (w:World) (r:Nat) (fz:Nat×Nat) (v:Cv) (c:Cn) (h:Cb w r fz v c) (hz:Fz fz) (hg:w.cell? ⟨0,0,none⟩=some mv) (hv:w.cell? ⟨2,0,none⟩=some ev) (oU:ev=.nilIface\/∃te pe,ev=.iface te pe)
 (hl:c.rest.length<=600) (h4:¬c.rest.length<4):
 Calls Tq.prog 113 #[.pointer (some ⟨r,2,none⟩)] w (eu mv w r fz v c):=by
 have k1:w.cell? ⟨r,3,none⟩=some (av c.rest):=h.at rfl;have f1:=aM.frozen h (i:=3) (hz 3 (by decide) (by decide) (by decide));unfold av at k1;have GQ:(⟨c.rest.toArray⟩:ByteArray).size=c.rest.length:=rfl;have hh:((⟨c.rest.toArray⟩:ByteArray).extract 0 4).data.toList=c.rest.take 4:=by rw [pV];simp
 have hhs:((⟨c.rest.toArray⟩:ByteArray).extract 0 4).size=4:=by rw [ByteArray.size_extract,GQ];omega
 have P1:=z30 (aNk ((⟨c.rest.toArray⟩:ByteArray).extract 0 4) hhs ev w hv oU);have P2:=z30 (λw=>We.JQ ((⟨c.rest.toArray⟩:ByteArray).extract 0 4) w (by rw [hhs];decide));rw [hh] at P1 P2;have hrb:=h.lt;have h:=z30 h;go_enter Tq.func113,Tryz.ntmps113;go_wp2_with fail;refine P1.out.mono ?_;rintro e w2 ⟨n,u,rfl,hu,hx,hb⟩;have hx:=z30 hx;have hh:=z30 hh;rcases hu with rfl|⟨a,rfl⟩
 ·generalize hhx:hex (c.rest.take 4)=hxv at hx P2;cases hxv
  ·have hb:=z30 hb;go_wp2_with fail;refine (P2.out w2).mono ?_;rintro e w3 ⟨rfl,jE⟩;have jE:=z30 (hb.out.trans (jE.mono hb.out.size));go_wp2_with fail
   go_ret3
   exact eu.bad (xY h4 (by rw [hhx];rfl)) h.out jE.out
  ·obtain ⟨m,hm⟩:∃m,dI (c.rest.take 4)=m:=⟨_,rfl⟩
   obtain ⟨_,rfl⟩:=hx.out rfl;rw [hm];have hb:=z30 hb;go_wp2_with fail;refine (P2.out w2).mono ?_;rintro e w3 ⟨rfl,jE⟩;have jE:=hb.out.trans (jE.mono hb.out.size);have h3:Cb w3 r fz v c:=aM.aA h.out (aj.nK jE) (λe=>e);have k13:w3.cell? ⟨r,3,none⟩=some (.string ⟨c.rest.toArray⟩):=h3.at rfl;have f13:=aM.frozen h3 (i:=3) (hz 3 (by decide) (by decide) (by decide));have MJ:0<w.heap.size:=World.block_lt_of_cell? w ⟨0,0,none⟩ hg;have hg3:w3.cell? ⟨0,0,none⟩=some mv:=(World.cell?_of_block (w:=w) (jE.block 0 MJ)).trans hg;have L:=z30 (L8 mv w3 r fz v c h3 hg3);have jE:=z30 jE;have h3:=z30 h3;clear k1 f1 hg hv hg3 hb;by_cases m0:m=0
   ·subst m0;go_wp2_with fail
    go_ret3
    unfold eu;rw [OZ h4 hhx hm];have e4:(⟨c.rest.toArray⟩:ByteArray).extract 4 c.rest.length=⟨(c.rest.drop 4).toArray⟩:=M6 _ 4
    first|rw [e4]|skip
    exact ⟨_,rfl,rfl,aM.set h3.out 3 _,((aj.nK jE.out).mono (S':=(·=r)) (λ_ _ e=>e.elim)).setCell (p:=⟨r,3,none⟩) (.inl rfl) _⟩
   ·by_cases m5:m<5
    ·have m0i:¬((m:Int)=0):=by omega
     go_wp2_with fail
     go_ret3
     exact eu.bad (xY h4 (by rw [hhx,hm];simp [m0,m5])) h.out jE.out
    ·by_cases aNC:204<m
     ·have m0i:¬((m:Int)=0):=by omega
      go_wp2_with fail
      go_ret3
      exact eu.bad (xY h4 (by rw [hhx,hm];simp [aNC])) h.out jE.out
     ·have m0i:¬((m:Int)=0):=by omega
      by_cases ml:c.rest.length<m
      ·go_wp2_with fail;refine L.out.mono ?_;rintro e w4 ⟨u,rfl,he,oV⟩;have he:=z30 he;have oV:=z30 oV;go_wp2_with fail
       go_ret3
       have VS:=jE.out.trans (oV.out.mono jE.out.size);unfold eu;rw [Ux h4 hhx (by omega) (by omega) (by omega)];refine ⟨_,rfl,?_,aM.aA h.out (aj.nK VS) (λe=>e),(aj.nK VS).mono (λ_ _ e=>e.elim)⟩;exact ErV.mono he.out jE.out.size
      ·go_wp2_with fail
       go_ret3
       have e1:(⟨c.rest.toArray⟩:ByteArray).extract 4 m=⟨((c.rest.take m).drop 4).toArray⟩:=Hr (by rw [pV,List.drop_take]);have e2:(⟨c.rest.toArray⟩:ByteArray).extract m c.rest.length=⟨(c.rest.drop m).toArray⟩:=M6 _ m;show eu mv w r fz v c (.returned (.tuple #[.string ((⟨c.rest.toArray⟩:ByteArray).extract 4 m),.bool false,.nilIface])) (w3.setCell ⟨r,3,none⟩ (.string ((⟨c.rest.toArray⟩:ByteArray).extract m c.rest.length)));rw [e1,e2];unfold eu;rw [Uv h4 hhx (by omega) (by omega) (by omega),hm];exact ⟨_,rfl,rfl,aM.set h3.out 3 _,((aj.nK jE.out).mono (S':=(·=r)) (λ_ _ e=>e.elim)).setCell (p:=⟨r,3,none⟩) (.inl rfl) _⟩
 ·have hhx:hex (c.rest.take 4)=false:=by
   cases e:hex (c.rest.take 4)
   ·rfl
   ·exact by cases (hx.out e).1
  have hb:=z30 hb;go_wp2_with fail
  go_ret3
  exact eu.bad (xY h4 (by rw [hhx];rfl)) h.out hb.out
theorem YA (mv ev:Value) (w:World) (r:Nat) (fz:Nat×Nat) (v:Cv) (c:Cn) (h:Cb w r fz v c) (hz:Fz fz) (hg:w.cell? ⟨0,0,none⟩=some mv) (hv:w.cell? ⟨2,0,none⟩=some ev) (oU:ev=.nilIface\/∃te pe,ev=.iface te pe)
 (hl:c.rest.length<=600):Calls Tq.prog 113 #[.pointer (some ⟨r,2,none⟩)] w (eu mv w r fz v c):=by
 by_cases h4:c.rest.length<4
 ·exact aFG mv w r fz v c h hg h4
 ·exact aFF mv ev w r fz v c h hz hg hv oU hl h4
end Pa
namespace Pm
open Tx Sp Wg Rd Bk Lx
theorem Je (t:ByteArray) (w:World) (hs:t.size<=maxLen):
 Calls Tq.prog 159 #[.string t] w λe w'=>e=.returned (.bool (oH t.data.toList))/\Below w.heap.size w w':=by
 have C:=z30 (We.JQ t w hs);unfold maxLen at hs;unfold oH;have hl:t.data.toList.length=t.size:=rfl;rw [hl];generalize hex t.data.toList=hx at C ⊢;by_cases h8:t.size=8
 ·have h8i:((t.size:Int)==8)=true:=by rw [h8];rfl
  go_enter Tq.func159,Tryz.ntmps159;go_wp2_with fail;refine C.out.mono ?_;rintro e w2 ⟨rfl,hb⟩;have hb:=z30 hb;go_wp2;go_ret;exact ⟨jS (by simp [h8]),hb.out⟩
 ·have h8i:((t.size:Int)==8)=false:=beq_eq_false_iff_ne.2 (by omega);go_enter Tq.func159,Tryz.ntmps159;go_wp2;go_ret;exact ⟨jS (by simp [h8]),Below.refl _ _⟩
theorem aFd:∀c:UInt8,[97,98,99,100,101,102,103,104,105,106,107,108,109,110,111,112,113,114,115,116,117,118,119,120,121,122,48,49,50,51,52,53,54,55,56,57,45].contains c=zw c:=
 zS (by decide)
theorem WY (l:List UInt8):(Lib.trimS l [97,98,99,100,101,102,103,104,105,106,107,108,109,110,111,112,113,114,115,116,117,118,119,120,121,122,48,49,50,51,52,53,54,55,56,57,45]=[])↔l.all zw=true:=by rw [BZ];rw [show (λx=>List.contains [97,98,99,100,101,102,103,104,105,106,107,108,109,110,111,112,113,114,115,116,117,118,119,120,121,122,48,49,50,51,52,53,54,55,56,57,45] x)=zw from funext aFd]
theorem Dg (s:ByteArray) (hs:s.size<=maxLen):∃r:B,(r=[]↔s.data.toList.all zw=true)/\∀w,Calls Tq.prog 187 #[.string s,.string ⟨#[97,98,99,100,101,102,103,104,105,106,107,108,109,110,111,112,113,114,115,116,117,118,119,120,121,122,48,49,50,51,52,53,54,55,56,57,45]⟩] w λe w'=>e=.returned (.string ⟨r.toArray⟩)/\Below w.heap.size w w':=
 ⟨_,WY _,λw=>Any.strings_Trim_laid Tryz.Jd (by kernel_rfl) s ⟨#[97,98,99,100,101,102,103,104,105,106,107,108,109,110,111,112,113,114,115,116,117,118,119,120,121,122,48,49,50,51,52,53,54,55,56,57,45]⟩ w (by unfold maxLen at hs;exact hs) (by decide) (ascii_of_all (by decide))⟩
theorem QT (t:ByteArray) (w:World) (hs:t.size<4294967281):
 Calls Tq.prog 160 #[.string t] w λe w'=>e=.returned (.bool (lJ t.data.toList))/\Below w.heap.size w w':=by
 have C:=z30 (Tryz.strings_CutPrefix t ⟨#[114,101,102,115,47]⟩ w);change Hid (Calls Tq.prog 189 _ w λe w'=>e=.returned (.tuple #[.string ⟨(Lib.trimPrefix t.data.toList pG).toArray⟩,.bool (pG.isPrefixOf t.data.toList)])/\w'=w) at C;unfold lJ;have hn:pG.isPrefixOf t.data.toList=true->Lib.trimPrefix t.data.toList pG=t.data.toList.drop 5:=λh=>by unfold Lib.trimPrefix Lib.hasPrefix;rw [if_pos h];rfl
 have Zd:(t.data.toList.drop 5).length<4294967281:=by rw [List.length_drop,dx];omega
 generalize pG.isPrefixOf t.data.toList=p at C hn ⊢;generalize Lib.trimPrefix t.data.toList pG=n at C hn;generalize t.data.toList.drop 5=d at hn Zd ⊢;cases p
 ·go_enter Tq.func160,Tryz.ntmps160;go_wp2_with fail;refine C.out.mono ?_;rintro e w2 ⟨rfl,rfl⟩;go_wp2;go_ret;exact ⟨rfl,Below.refl _ _⟩
 ·obtain rfl:=hn rfl;have bW:(⟨n.toArray⟩:ByteArray).size=n.length:=rfl;obtain ⟨r,hr,T⟩:=Dg ⟨n.toArray⟩ (by unfold maxLen;rw [bW];omega);have hr:r=[]↔n.all zw=true:=hr;have T:=z30 T;have hr:=z30 hr;by_cases h1:1<=n.length
  ·by_cases PO:n.length<=12
   ·go_enter Tq.func160,Tryz.ntmps160;go_wp2_with fail;refine C.out.mono ?_;rintro e w2 ⟨rfl,rfl⟩;go_wp2_with fail;refine (T.out _).mono ?_;rintro e w3 ⟨rfl,hb⟩;have hb:=z30 hb;go_wp2;go_ret;refine ⟨jS ?_,hb.out⟩;rw [Bool.eq_iff_iff];have:=hr.out;simp [h1,PO,List.isEmpty_iff] at this ⊢;exact this
   ·have aVa:¬((n.length:Int)<=12):=by omega
    go_enter Tq.func160,Tryz.ntmps160;go_wp2_with fail;refine C.out.mono ?_;rintro e w2 ⟨rfl,rfl⟩;go_wp2;go_ret;exact ⟨jS (by simp [PO]),Below.refl _ _⟩
  ·have h1i:¬((1:Int)<=(n.length:Int)):=by omega
   go_enter Tq.func160,Tryz.ntmps160;go_wp2_with fail;refine C.out.mono ?_;rintro e w2 ⟨rfl,rfl⟩;go_wp2;go_ret;exact ⟨jS (by simp [h1]),Below.refl _ _⟩
end Pm
namespace Rx
open Tx Sp Wg Rd Bk Wi Se
inductive wN {α β:Type} (R:α->β->Prop):List α->List β->Prop
 |nil:wN R [] []
 |cons {x:α} {y:β} {l:List α} {m:List β}:R x y->wN R l m->wN R (x::l) (y::m)
namespace wN
variable {α β:Type} {R:α->β->Prop}
theorem mono {R':α->β->Prop} {l:List α} {m:List β} (h:wN R l m) (hr:∀x y,x∈l->R x y->R' x y):wN R' l m:=by
 induction h with
 |nil=>exact .nil
 |cons r _ ih=>exact .cons (hr _ _ (List.mem_cons_self ..) r) (ih λx y hx=>hr x y (List.mem_cons_of_mem _ hx))
theorem snoc {l:List α} {m:List β} (h:wN R l m) {x:α} {y:β} (r:R x y):wN R (l++[x]) (m++[y]):=by
 induction h with
 |nil=>exact .cons r .nil
 |cons r' _ ih=>exact .cons r' ih
theorem at_ {l:List α} {m:List β} (h:wN R l m) {i:Nat} {x:α} (hx:l[i]? =some x):∃y,m[i]? =some y/\R x y:=by
 induction h generalizing i with
 |nil=>simp at hx
 |cons r _ ih=>
  cases i with
  |zero=>obtain rfl:=Option.some.inj hx;exact ⟨_,rfl,r⟩
  |succ i=>exact ih hx
end wN
def Ob (w:World) (t:B) (v:Value):Prop:=∃(o:Tx.Obj) (b:Nat) (n:Value),parse t=some o/\v=.iface (ED o.kind) (aG b)/\nE w b (blT o.kind) (av t) n/\w.ownsRow 0 9 1 n o.ids.length (o.ids.map av)/\t.length<16777216
def Safe (w:World) (S:Nat->Prop):Prop:=∀(k:Nat) (cur:Array Value) (T:TypeId) (fz:Nat×Nat),S k->w.heap[k]? =some (.cells cur T fz)->T≠256/\T≠258/\T≠260/\T≠9/\T≠91
theorem Ho (k:UInt8):blT k=256\/blT k=258\/blT k=260:=by
 unfold blT;split
 ·exact .inl rfl
 ·split
  ·exact .inr (.inl rfl)
  ·exact .inr (.inr rfl)
theorem bq {w:World} {B E z n:Nat} {v:Value} {xs:List Value} (h:w.ownsRow B E z v n xs) {k:Nat} (hk:v.ownBlock=some k):∃cur,w.heap[k]? =some (.cells cur E (0,0)):=by
 rcases h.2 with ⟨rfl,_⟩|⟨g,cap,cur,rfl,_,hb,_⟩
 ·cases hk
 ·obtain rfl:=Option.some.inj hk;exact ⟨cur,hb⟩
theorem Ob.aA {w w':World} {S:Nat->Prop} {t:B} {v:Value} (h:Ob w t v) (hc:aj S w w') (hs:Safe w S):Ob w' t v:=by
 obtain ⟨o,b,n,h1,h2,h3,h4,h5⟩:=h;refine ⟨o,b,n,h1,h2,h3.aA hc (λe=>?_),hc.ownsRow h4 (λk hk e=>?_),h5⟩
 ·have:=hs b _ _ _ e h3;rcases Ho o.kind with e|e|e<;>simp [e] at this
 ·obtain ⟨cur,hb⟩:=bq h4 hk;exact (hs k _ _ _ e hb).2.2.2.1 rfl
theorem Safe.none (w:World):Safe w (λ_=>False):=λ_ _ _ _ e=>e.elim
def aHh (m:nN):List Value:=[av m.old,av m.new,av m.ref]
def kY (l:List nN):List Value:=(l.map aHh).flatten
structure Cx (w:World) (r:Nat) (fz:Nat×Nat) (v:Cv) (c:Cn):Prop where
 cb:Cb w r fz v c
 au:w.ownsRow 0 142 3 v.cv c.au.length (kY c.au)
 ah:∃vs,w.ownsRow 0 106 1 v.ov c.ah.length vs/\wN (Ob w) c.ah vs
def Fp (r:Nat) (v:Cv):Nat->Prop:=λk=>k=r\/v.cv.ownBlock=some k\/v.ov.ownBlock=some k
theorem Cx.safe {w:World} {r:Nat} {fz:Nat×Nat} {v:Cv} {c:Cn} (h:Cx w r fz v c):Safe w (Fp r v):=by
 intro k cur T jo hk hb;rcases hk with rfl|hk|hk
 ·have:=h.cb;unfold Cb aM at this;rw [this] at hb;injection hb with hb;injection hb with _ hb _;subst hb;decide
 ·obtain ⟨Ej,kz⟩:=bq h.au hk;rw [kz] at hb;injection hb with hb;injection hb with _ hb _;subst hb;decide
 ·obtain ⟨vs,h1,_⟩:=h.ah;obtain ⟨Ej,kz⟩:=bq h1 hk;rw [kz] at hb;injection hb with hb;injection hb with _ hb _;subst hb;decide
theorem Cx.aA {S:Nat->Prop} {w w':World} {r:Nat} {fz:Nat×Nat} {v:Cv} {c:Cn} (h:Cx w r fz v c) (hc:aj S w w') (hs:Safe w S) (hn:∀k,Fp r v k->¬S k):Cx w' r fz v c:=by obtain ⟨vs,h1,h2⟩:=h.ah;exact ⟨aM.aA h.cb hc (hn r (.inl rfl)),hc.ownsRow h.au (λk hk=>hn k (.inr (.inl hk))),vs,hc.ownsRow h1 (λk hk=>hn k (.inr (.inr hk))),h2.mono λx y _ NG=>NG.aA hc hs⟩
theorem Cx.rows {w:World} {r:Nat} {fz:Nat×Nat} {v:Cv} {c:Cn} (h:Cx w r fz v c):(∀k,v.cv.ownBlock=some k->k≠r)/\(∀k,v.ov.ownBlock=some k->k≠r)/\(∀k,v.cv.ownBlock=some k->v.ov.ownBlock≠some k):=by
 obtain ⟨vs,h1,h2⟩:=h.ah;have hb:=h.cb;unfold Cb aM at hb;refine ⟨λk hk e=>?_,λk hk e=>?_,λk hk e=>?_⟩
 ·subst e;obtain ⟨cur,kz⟩:=bq h.au hk;rw [hb] at kz;injection kz with kz;injection kz with _ kz _;cases kz
 ·subst e;obtain ⟨cur,kz⟩:=bq h1 hk;rw [hb] at kz;injection kz with kz;injection kz with _ kz _;cases kz
 ·obtain ⟨cur,kz⟩:=bq h.au hk;obtain ⟨Ej,Va⟩:=bq h1 e;rw [kz] at Va;injection Va with Va;injection Va with _ Va _;cases Va
theorem aDN:(Tq.prog.info? 106).map (λi=>(i.zero,i.size,i.bytes))=some (some .nilIface,1,16):=(by kernel_rfl)
theorem aJQ:(Tq.prog.info? 142).map (λi=>(i.zero,i.size,i.bytes))=some (some (.agg #[.string ByteArray.empty,.string ByteArray.empty,.string ByteArray.empty]),3,48):=(by kernel_rfl)
end Rx
end
end Go.Proofs.YtmanpggemmgnnaaGreatDoor
