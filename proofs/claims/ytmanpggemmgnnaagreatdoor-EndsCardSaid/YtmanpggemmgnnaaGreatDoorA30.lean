/- Ends: a part. Conditions: none. -/
import Derived.Lib.AtoiAllMem
import Derived.Test.YtmanpggemmgnnaaGreatDoorA28
set_option linter.all false
set_option maxHeartbeats 8000000
set_option maxRecDepth 1000000
namespace Go.Proofs.YtmanpggemmgnnaaGreatDoor
noncomputable section
open Go Go.RowKit Go.Shelf Ba Fr Tryz
def ŉ:=@World.block_lt_of_cell?
def ň:=@World.cell?_of_block
def Ň:=@decide_eq_emptyBytes
def yr{p}(h:p):Go.RowKit.Hid p:=Go.Lib.hid h
namespace Pa
open Tx Sp
def aNm(n:Nat)(V:97<=n)(J:n<=102):bits .or .u8 (n:Int) 32=n:=by
 obtain rfl|rfl|rfl|rfl|rfl|rfl:n=97\/n=98\/n=99\/n=100\/n=101\/n=102:=by omega
 all_goals decide
def Inv(bs:B)(k acc:Nat):Prop:=acc<16^k/\(hex bs=true->acc=dI (bs.take k))
def Inv.next{bs k acc c}(h:Inv bs k acc)(L:bs[k]? =some c)d(hd:d<16)(E:hex bs=true->d=ZA c):Inv bs (k+1) (acc*16+d):=by
 refine⟨by have:=h.1;rw[pM];omega,λhh=>?_⟩;have e:bs.take (k+1)=bs.take k++[c]:=by rw[fg,L];rfl
 rw[e,dI,kz];show acc*16+d=dI (bs.take k)*16+ZA c;rw[<-h.2 hh,E hh]
def Zz{bs c}(h:hex bs=true){k:Nat}(L:bs[k]? =some c):zx c=true:=ep.1 h c (cM L)
def uint16 t(tW:t.size≠0)(aCC:t.size<=4)w:
 Calls Tq.prog 215 #[.string t,.int .i64 16,.int .i64 32] w λe U=>∃(n:Nat) (u:Value),e=.returned (.tuple #[.int .u64 n,u])/\n<65536/\(u=.nilIface\/u=.iface 291 (.int .i64 2))/\
  (hex t.data.toList=true->u=.nilIface/\n=dI t.data.toList)/\Below w.heap.size w U:=by
 have aPu:t.toList.isEmpty=false:=by rw[<-Ň];exact im (λh=>tW (by rw[h];rfl))
 have hcv:=Lib.run_convert_string_bytes (P:=Tq.prog) w 9 35 5 t (u:=.string) ((Tq.underlying 9).trans underlying9) ((Tq.underlying 35).trans underlying35) ((Tq.underlying 5).trans underlying5);have hB:∀j,j<t.size->(Lib.bytesWorld w 5 t).cell? ⟨w.heap.size,j,none⟩=some (.int .u8 (t.data.toList.getD j 0).toNat):=λj hj=>Lib.bytesWorld_cell w 5 t j hj;have fJ:Below w.heap.size w (Lib.bytesWorld w 5 t):=⟨rfl,rfl,rfl,by rw[Lib.bytesWorld_size];omega,λk A=>Lib.bytesWorld_at_old w 5 t k A⟩
 generalize Lib.bytesWorld w 5 t=W1 at hcv hB fJ;have fJ:=yr fJ;obtain⟨bs,hL⟩:∃bs,bs=t.data.toList:=⟨_,rfl⟩
 have hLn:bs.length=t.size:=by rw[hL,Lib.size_eq]
 rw[<-hL]at hB ⊢;clear hL;go_enter Tq.func215,ntmps215;go_wp2
 go_loop [12,13,101] (λvu vn vi=>∃(k acc:Nat) (a:Int),vu=.bool false/\vn=.int .u64 a/\vi=.int .i64 k/\k<=t.size/\0<=a/\a<65536/\Hid (a=(acc:Int)/\Inv bs k acc))
  (λ_ _ vi=>t.size - (intOf vi).toNat)
 case atStart=>exact⟨0,0,0,rfl,rfl,rfl,by omega,by omega,by omega,yr ⟨rfl,by decide,λ_=>by simp[dI]⟩⟩
 case round=>
  obtain⟨k,acc,a,rfl,rfl,rfl,A,a0,a1,hh⟩:=hrel;by_cases hkn:k<t.size
  ·have L:=hB k hkn;have G5:bs[k]? =some bs[k]:=bU (by omega);have iP:bs.getD k 0=bs[k]'(by omega):=by simp[List.getD,bU (show k<bs.length by omega)]
   rw[iP]at L;generalize bs[k]'(by omega)=c at L G5;have aR8:c.toNat<256:=c.toNat_lt;have G5:=yr G5;have ak:a<4096:=by
    obtain⟨V,J,_⟩:=hh.out;have h3:16^k<=4096:=by
     have:k=0\/k=1\/k=2\/k=3:=by omega
     rcases this with rfl|rfl|rfl|rfl<;>decide
    omega
   clear hB iP a1;by_cases aKW:48<=c.toNat/\c.toNat<=57
   ·obtain⟨hd0,L3⟩:=aKW;have HN:Hid (a*16+((c.toNat:Int) - 48)=((acc*16+(c.toNat - 48):Nat):Int)/\Inv bs (k+1) (acc*16+(c.toNat - 48))):=
     yr ⟨by have:=hh.out.1;omega,hh.out.2.next G5.out _ (by omega) (λ_=>by unfold ZA;rw[bk L3])⟩
    clear hh;go_wp2;refine⟨⟨k+1,_,_,rfl,rfl,(by first|rfl|(congr 1;omega)),by omega,by omega,by omega,HN⟩,by simp[intOf];omega⟩
   ·by_cases E:97<=c.toNat/\c.toNat<=102
    ·obtain⟨hd0,L3⟩:=E;have h57:¬c.toNat<=57:=by omega
     have hor:bits .or .u8 (c.toNat:Int) 32=(c.toNat:Int):=aNm _ hd0 L3;have HN:Hid (a*16+((c.toNat:Int) - 97+10)=((acc*16+(c.toNat - 87):Nat):Int)/\Inv bs (k+1) (acc*16+(c.toNat - 87))):=
      yr ⟨by have:=hh.out.1;omega,hh.out.2.next G5.out _ (by omega) (λ_=>by unfold ZA;rw[aX h57])⟩
     clear hh aKW;go_wp2_with (go_at_call 247;refine(internal_strconv_lower _ _).mono ?_;rintro e U ⟨rfl,rfl⟩;rw[hor]);refine⟨⟨k+1,_,_,rfl,rfl,(by first|rfl|(congr 1;omega)),by omega,by omega,by omega,HN⟩,by simp[intOf];omega⟩
    ·have vy:Hid (hex bs=true->False):=yr (λh=>by
      have:=Zz h G5.out;unfold zx at this;simp at this;omega)
     obtain⟨v,X⟩:∃v,bits .or .u8 (c.toNat:Int) 32=v:=⟨_,rfl⟩
     have DU:=bits_lo_u8 .or (c.toNat:Int) 32;have Fj:=bits_hi_u8 .or (c.toNat:Int) 32;have hu:bits .or .u8 95 32=127:=by decide
     rw[X]at DU Fj;have X:=yr X;go_wp2_with (go_at_call 247;refine(internal_strconv_lower _ _).mono ?_;rintro e U ⟨rfl,rfl⟩;first|rw[X.out]|rw[hu])
     all_goals first
      |(go_ret2;exact⟨0,_,rfl,by omega,.inr rfl,λh=>(vy.out h).elim,fJ.out⟩)
      |refine⟨⟨k+1,acc*16+(v - 87).toNat,a*16+(v - 97+10),rfl,rfl,(by first|rfl|(congr 1;omega)),by omega,by omega,by omega,yr ⟨by have:=hh.out.1;omega,(hh.out.2.next G5.out _ (by omega) (λh=>(vy.out h).elim))⟩⟩,by simp[intOf];omega⟩
  ·have hkk:k=t.size:=by omega
   subst hkk;have DY:Hid (∃n:Nat,Value.int .u64 a=.int .u64 n/\n<65536/\(hex bs=true->n=dI bs)):=yr ⟨acc,by rw[hh.out.1],by have:=hh.out.1;omega,λh=>by
    have:=hh.out.2.2 h
    rwa[eM (by omega)]at this⟩
   clear hh;go_wp2
   go_ret2
   obtain⟨n,e1,e2,e3⟩:=DY.out;rw[e1];exact⟨n,_,rfl,e2,.inl rfl,λh=>⟨rfl,e3 h⟩,fJ.out⟩
def QA t(tW:t.size≠0)(aCC:t.size<=4)w:
 Calls Tq.prog 215 #[.string t,.int .i64 16,.int .i64 32] w λe U=>∃(a:Int) (u:Value),e=.returned (.tuple #[.int .u64 a,u])/\0<=a/\a<65536/\(u=.nilIface\/u=.iface 291 (.int .i64 2))/\
  (hex t.data.toList=true->u=.nilIface/\a=dI t.data.toList)/\Below w.heap.size w U:=
 (uint16 t tW aCC w).mono λe U ⟨n,u,V,J,h3,h4,h5⟩=>⟨n,u,V,by omega,by omega,h3,λh=>⟨(h4 h).1,by rw[(h4 h).2]⟩,h5⟩
def aNA w:(binOp BinOp.neq 133 (.iface 291 (.int .i64 2)) (.iface 291 (.int .i64 1))).run Tq.prog w=.ok (.bool true) w:=(by kernel_rfl)
def aJO t(uG:t.size=4)w:
 Calls Tq.prog 185 #[.string t,.int .i64 16,.int .i64 32] w λe U=>∃(n:Int) (u:Value),e=.returned (.tuple #[.int .i64 n,u])/\(u=.nilIface\/u=.iface 291 (.int .i64 2))/\
  (hex t.data.toList=true->u=.nilIface/\n=dI t.data.toList)/\Below w.heap.size w U:=by
 have aRM:=aNA;have aPu:t.toList.isEmpty=false:=by rw[<-Ň];exact im (λh=>by rw[h]at uG;cases uG)
 have h0:t.data.toList[0]? =some t[0]:=by
  have:0<t.data.toList.length:=by rw[dx];omega
  rw[bU this];rfl
 have vy:Hid ((t[0].toNat=43\/t[0].toNat=45)->hex t.data.toList=true->False):=yr (λh hh=>by
  have:=Zz hh h0;unfold zx at this;simp at this;omega)
 have hxs:(t.extract 1 4).size=3:=by rw[pN];omega
 have C1:=yr (λw=>QA t (by omega) (by omega) w);have C2:=yr (λw=>QA (t.extract 1 4) (by omega) (by omega) w);clear h0;generalize L:t[0]=c at vy;generalize hex t.data.toList=E at C1 vy ⊢;by_cases h43:c.toNat=43
 ·have aLg:((c.toNat:Int)==43)=true:=by rw[h43];rfl
  go_enter Tq.func185,ntmps185;go_wp2_with fail;refine(C2.out _).mono ?_;rintro e w2 ⟨a,u,rfl,a0,a1,hu,yi,hb⟩;rcases hu with rfl|rfl
  ·go_wp2
   go_ret2
   exact⟨_,_,rfl,.inl rfl,λh=>(vy.out (.inl h43) h).elim,hb⟩
  ·clear yi;go_wp2_with fail
   go_ret2
   exact⟨_,_,rfl,.inr rfl,λh=>(vy.out (.inl h43) h).elim,hb⟩
 ·by_cases h45:c.toNat=45
  ·have aLg:((c.toNat:Int)==43)=false:=b8.2 (by omega);have aP3:((c.toNat:Int)==45)=true:=by rw[h45];rfl
   go_enter Tq.func185,ntmps185;go_wp2_with fail;refine(C2.out _).mono ?_;rintro e w2 ⟨a,u,rfl,a0,a1,hu,yi,hb⟩;rcases hu with rfl|rfl
   ·go_wp2
    go_ret2
    exact⟨_,_,rfl,.inl rfl,λh=>(vy.out (.inr h45) h).elim,hb⟩
   ·clear yi;go_wp2_with fail
    go_ret2
    exact⟨_,_,rfl,.inr rfl,λh=>(vy.out (.inr h45) h).elim,hb⟩
  ·have aLg:((c.toNat:Int)==43)=false:=b8.2 (by omega);have aP3:((c.toNat:Int)==45)=false:=b8.2 (by omega);go_enter Tq.func185,ntmps185;go_wp2_with fail;refine(C1.out _).mono ?_;rintro e w2 ⟨a,u,rfl,a0,a1,hu,yi,hb⟩;have yi:=yr yi;rcases hu with rfl|rfl
   ·go_wp2
    go_ret2
    exact⟨_,_,rfl,.inl rfl,λh=>⟨rfl,(yi.out h).2⟩,hb⟩
   ·skip
    go_wp2_with fail
    go_ret2
    exact⟨_,_,rfl,.inr rfl,(λh=>by cases (yi.out h).1),hb⟩
open Wg Rd Bk
def aNk t(uG:t.size=4)ev w(X:w.cell? ⟨2,0,none⟩=some ev)(oU:ev=.nilIface\/∃te pe,ev=.iface te pe):
 Calls Tq.prog 156 #[.string t,.int .i64 16,.int .i64 32] w λe U=>∃(n:Int) (u:Value),e=.returned (.tuple #[.int .i64 n,u])/\(u=.nilIface\/∃a,u=.iface 294 (.pointer (some a)))/\
  (hex t.data.toList=true->u=.nilIface/\n=dI t.data.toList)/\Below w.heap.size w U:=by
 have J:2<w.heap.size:=ŉ w ⟨2,0,none⟩ X;go_enter Tq.func156,ntmps156;go_wp2_with fail;refine(aJO t uG w).mono ?_;rintro e w2 ⟨n,u,rfl,hu,E,hb⟩;have E:=yr E;rcases hu with rfl|rfl
 ·go_wp2
  go_ret2
  exact⟨_,_,rfl,.inl rfl,λh=>⟨rfl,(E.out h).2⟩,hb⟩
 ·have D1:w2.cell? ⟨2,0,none⟩=some ev:=(ň (w:=w) (hb.block 2 J)).trans X;have C:=yr (strconv_toError_syntax ⟨#[80,97,114,115,101,73,110,116]⟩ t 16 32 ev w2 (by omega) D1 oU);go_wp2_with fail;refine C.out.mono ?_;rintro e w3 ⟨N,rfl,V,h3,h4⟩;have xb:=yr (hb.trans (h4.mono hb.size));clear h3 h4;go_wp2
  go_ret2
  exact⟨_,_,rfl,.inr ⟨_,rfl⟩,(λh=>by cases (E.out h).1),xb.out⟩
def OY{c:Cn}(h:c.rest.length<4):c.next=(c.A9,[],false,c.rest):=by unfold Cn.next;rw[bk h]
def xY{c:Cn}(h:¬c.rest.length<4)(hb:(!hex (c.rest.take 4)||(dI (c.rest.take 4)!=0&&decide (dI (c.rest.take 4)<5))||decide (204<dI (c.rest.take 4)))=true):
 c.next=(.refused nQ,[],false,c.rest):=by
 unfold Cn.next;rw[aX h];simp only[hb,j2]
def OZ{c:Cn}(h:¬c.rest.length<4)(E:hex (c.rest.take 4)=true)(h0:dI (c.rest.take 4)=0):c.next=(.ok,[],true,c.rest.drop 4):=by unfold Cn.next;rw[aX h];simp[E,h0]
def Ux{c:Cn}(h:¬c.rest.length<4)(E:hex (c.rest.take 4)=true)(h5:5<=dI (c.rest.take 4))(J:dI (c.rest.take 4)<=204)(hl:c.rest.length<dI (c.rest.take 4)):c.next=(c.A9,[],false,c.rest):=by
 unfold Cn.next;rw[aX h];have h5':¬dI (c.rest.take 4)<5:=by omega
 have h2':¬204<dI (c.rest.take 4):=by omega
 have h0':¬dI (c.rest.take 4)=0:=by omega
 simp[E,h5',h2',h0',hl]
def Uv{c:Cn}(h:¬c.rest.length<4)(E:hex (c.rest.take 4)=true)(h5:5<=dI (c.rest.take 4))(J:dI (c.rest.take 4)<=204)(hl:dI (c.rest.take 4)<=c.rest.length):
 c.next=(.ok,(c.rest.take (dI (c.rest.take 4))).drop 4,false,c.rest.drop (dI (c.rest.take 4))):=by
 unfold Cn.next;rw[aX h];have h5':¬dI (c.rest.take 4)<5:=by omega
 have h2':¬204<dI (c.rest.take 4):=by omega
 have h0':¬dI (c.rest.take 4)=0:=by omega
 have hl':¬c.rest.length<dI (c.rest.take 4):=by omega
 simp[E,h5',h2',h0',hl']
def ErV.mono{mv w e u}{B B'}(h:ErV mv w B e u)(hB:B'<=B):ErV mv w B' e u:=by
 cases e with
 |ok=>exact h
 |more=>exact h
 |refused x=>obtain⟨b,V,J,h3⟩:=h;exact⟨b,V,J,cV hB h3⟩
def eu(mv:Value)(w:World)(r:Nat)(fz:Nat×Nat)(v:Cv)(c:Cn)(e:Ending)(U:World):Prop:=
 ∃u,e=.returned (.tuple #[av c.next.2.1,.bool c.next.2.2.1,u])/\ErV mv U w.heap.size c.next.1 u/\Cb U r fz v {c with rest:=c.next.2.2.2}/\aj (·=r) w U
def aFG mv w r fz v c(h:Cb w r fz v c)(hg:w.cell? ⟨0,0,none⟩=some mv)(h4:c.rest.length<4):
 Calls Tq.prog 113 #[.pointer (some ⟨r,2,none⟩)] w (eu mv w r fz v c):=by
 have k1:w.cell? ⟨r,3,none⟩=some (av c.rest):=h.at rfl;unfold av at k1;have Aw:(⟨c.rest.toArray⟩:ByteArray).size=c.rest.length:=rfl;have C:=yr (L8 mv w r fz v c h hg);have GM:=h.lt;unfold eu;rw[OY h4];have h:=yr h;go_enter Tq.func113,ntmps113;go_wp2_with fail;refine C.out.mono ?_;rintro e w2 ⟨u,rfl,he,hb⟩;go_wp2
 go_ret3
 exact⟨_,rfl,he,aM.aA h.out (aj.nK hb) (λe=>e),(aj.nK hb).mono (λ_ _ e=>e.elim)⟩
def eu.bad{w r fz v w3 mv}{c:Cn}(hb:c.next=(.refused nQ,[],false,c.rest))(h:Cb w r fz v c)(fJ:Below w.heap.size w w3):
 eu mv w r fz v c (.returned (.tuple #[.string ⟨#[]⟩,.bool false,.iface 135 (.pointer (some ⟨w3.heap.size,0,none⟩))])) (w3.alloc (.cells #[.string ⟨#[112,97,99,107,101,116]⟩] 139)):=by
 have wj:=fJ.alloc fJ.size (.cells #[.string ⟨#[112,97,99,107,101,116]⟩] 139);unfold eu;rw[hb];exact⟨_,rfl,⟨_,rfl,aM.new _ _ _,fJ.size⟩,aM.aA h (aj.nK wj) (λe=>e),(aj.nK wj).mono (λ_ _ e=>e.elim)⟩
def aFF mv ev w r fz v c(h:Cb w r fz v c)(hz:Fz fz)(hg:w.cell? ⟨0,0,none⟩=some mv)(X:w.cell? ⟨2,0,none⟩=some ev)(oU:ev=.nilIface\/∃te pe,ev=.iface te pe)
 (hl:c.rest.length<=600) (h4:¬c.rest.length<4):
 Calls Tq.prog 113 #[.pointer (some ⟨r,2,none⟩)] w (eu mv w r fz v c):=by
 have k1:w.cell? ⟨r,3,none⟩=some (av c.rest):=h.at rfl;have f1:=aM.frozen h (i:=3) (hz 3 (by decide) (by decide) (by decide));unfold av at k1;have Aw:(⟨c.rest.toArray⟩:ByteArray).size=c.rest.length:=rfl;have hh:((⟨c.rest.toArray⟩:ByteArray).extract 0 4).data.toList=c.rest.take 4:=by rw[pV];simp
 have hhs:((⟨c.rest.toArray⟩:ByteArray).extract 0 4).size=4:=by rw[pN,Aw];omega
 have P1:=yr (aNk ((⟨c.rest.toArray⟩:ByteArray).extract 0 4) hhs ev w X oU);have P2:=yr (λw=>We.JQ ((⟨c.rest.toArray⟩:ByteArray).extract 0 4) w (by rw[hhs];decide));rw[hh]at P1 P2;have GM:=h.lt;have h:=yr h;go_enter Tq.func113,ntmps113;go_wp2_with fail;refine P1.out.mono ?_;rintro e w2 ⟨n,u,rfl,hu,E,hb⟩;have E:=yr E;have hh:=yr hh;rcases hu with rfl|⟨a,rfl⟩
 ·generalize hhx:hex (c.rest.take 4)=hxv at E P2;cases hxv
  ·have hb:=yr hb;go_wp2_with fail;refine(P2.out w2).mono ?_;rintro e w3 ⟨rfl,xb⟩;have xb:=yr (hb.out.trans (xb.mono hb.out.size));go_wp2_with fail
   go_ret3
   exact eu.bad (xY h4 (by rw[hhx];rfl)) h.out xb.out
  ·obtain⟨m,hm⟩:∃m,dI (c.rest.take 4)=m:=⟨_,rfl⟩
   obtain⟨_,rfl⟩:=E.out rfl;rw[hm];have hb:=yr hb;go_wp2_with fail;refine(P2.out w2).mono ?_;rintro e w3 ⟨rfl,xb⟩;have xb:=hb.out.trans (xb.mono hb.out.size);have h3:Cb w3 r fz v c:=aM.aA h.out (aj.nK xb) (λe=>e);have k13:w3.cell? ⟨r,3,none⟩=some (.string ⟨c.rest.toArray⟩):=h3.at rfl;have f13:=aM.frozen h3 (i:=3) (hz 3 (by decide) (by decide) (by decide));have Ej:0<w.heap.size:=ŉ w ⟨0,0,none⟩ hg;have D2:w3.cell? ⟨0,0,none⟩=some mv:=(ň (w:=w) (xb.block 0 Ej)).trans hg;have hc:=yr (L8 mv w3 r fz v c h3 D2);have xb:=yr xb;have h3:=yr h3;clear k1 f1 hg X D2 hb;by_cases m0:m=0
   ·subst m0;go_wp2_with fail
    go_ret3
    unfold eu;rw[OZ h4 hhx hm];have e4:(⟨c.rest.toArray⟩:ByteArray).extract 4 c.rest.length=⟨(c.rest.drop 4).toArray⟩:=M6 _ 4
    first|rw[e4]|skip
    exact⟨_,rfl,rfl,aM.set h3.out 3 _,((aj.nK xb.out).mono (S':=(·=r)) (λ_ _ e=>e.elim)).setCell (p:=⟨r,3,none⟩) (.inl rfl) _⟩
   ·by_cases m5:m<5
    ·have m0i:¬((m:Int)=0):=by omega
     go_wp2_with fail
     go_ret3
     exact eu.bad (xY h4 (by rw[hhx,hm];simp[m0,m5])) h.out xb.out
    ·by_cases aNC:204<m
     ·have m0i:¬((m:Int)=0):=by omega
      go_wp2_with fail
      go_ret3
      exact eu.bad (xY h4 (by rw[hhx,hm];simp[aNC])) h.out xb.out
     ·have m0i:¬((m:Int)=0):=by omega
      by_cases ml:c.rest.length<m
      ·go_wp2_with fail;refine hc.out.mono ?_;rintro e w4 ⟨u,rfl,he,xp⟩;have he:=yr he;have xp:=yr xp;go_wp2_with fail
       go_ret3
       have VS:=xb.out.trans (xp.out.mono xb.out.size);unfold eu;rw[Ux h4 hhx (by omega) (by omega) (by omega)];refine⟨_,rfl,?_,aM.aA h.out (aj.nK VS) (λe=>e),(aj.nK VS).mono (λ_ _ e=>e.elim)⟩;exact ErV.mono he.out xb.out.size
      ·go_wp2_with fail
       go_ret3
       have e1:(⟨c.rest.toArray⟩:ByteArray).extract 4 m=⟨((c.rest.take m).drop 4).toArray⟩:=Hr (by rw[pV,List.drop_take]);have e2:(⟨c.rest.toArray⟩:ByteArray).extract m c.rest.length=⟨(c.rest.drop m).toArray⟩:=M6 _ m;show eu mv w r fz v c (.returned (.tuple #[.string ((⟨c.rest.toArray⟩:ByteArray).extract 4 m),.bool false,.nilIface])) (w3.setCell ⟨r,3,none⟩ (.string ((⟨c.rest.toArray⟩:ByteArray).extract m c.rest.length)));rw[e1,e2];unfold eu;rw[Uv h4 hhx (by omega) (by omega) (by omega),hm];exact⟨_,rfl,rfl,aM.set h3.out 3 _,((aj.nK xb.out).mono (S':=(·=r)) (λ_ _ e=>e.elim)).setCell (p:=⟨r,3,none⟩) (.inl rfl) _⟩
 ·have hhx:hex (c.rest.take 4)=false:=by
   cases e:hex (c.rest.take 4)
   ·rfl
   ·exact by cases (E.out e).1
  have hb:=yr hb;go_wp2_with fail
  go_ret3
  exact eu.bad (xY h4 (by rw[hhx];rfl)) h.out hb.out
def YA mv ev w r fz v c(h:Cb w r fz v c)(hz:Fz fz)(hg:w.cell? ⟨0,0,none⟩=some mv)(X:w.cell? ⟨2,0,none⟩=some ev)(oU:ev=.nilIface\/∃te pe,ev=.iface te pe)
 (hl:c.rest.length<=600):Calls Tq.prog 113 #[.pointer (some ⟨r,2,none⟩)] w (eu mv w r fz v c):=by
 by_cases h4:c.rest.length<4
 ·exact aFG mv w r fz v c h hg h4
 ·exact aFF mv ev w r fz v c h hz hg X oU hl h4
end Pa
namespace Pm
open Tx Sp Wg Rd Bk Lx
def Je t w(hs:t.size<=maxLen):
 Calls Tq.prog 159 #[.string t] w λe U=>e=.returned (.bool (oH t.data.toList))/\Below w.heap.size w U:=by
 have C:=yr (We.JQ t w hs);unfold maxLen at hs;unfold oH;have hl:t.data.toList.length=t.size:=rfl;rw[hl];generalize hex t.data.toList=E at C ⊢;by_cases h8:t.size=8
 ·have h8i:((t.size:Int)==8)=true:=by rw[h8];rfl
  go_enter Tq.func159,ntmps159;go_wp2_with fail;refine C.out.mono ?_;rintro e w2 ⟨rfl,hb⟩;have hb:=yr hb;go_wp2;go_ret;exact⟨jS (by simp[h8]),hb.out⟩
 ·have h8i:((t.size:Int)==8)=false:=b8.2 (by omega);go_enter Tq.func159,ntmps159;go_wp2;go_ret;exact⟨jS (by simp[h8]),Below.refl _ _⟩
def aFd:∀c:UInt8,[97,98,99,100,101,102,103,104,105,106,107,108,109,110,111,112,113,114,115,116,117,118,119,120,121,122,48,49,50,51,52,53,54,55,56,57,45].contains c=zw c:=
 zS (by decide)
def WY l:(Lib.trimS l [97,98,99,100,101,102,103,104,105,106,107,108,109,110,111,112,113,114,115,116,117,118,119,120,121,122,48,49,50,51,52,53,54,55,56,57,45]=[])↔l.all zw=true:=by rw[BZ];rw[show(λx=>List.contains [97,98,99,100,101,102,103,104,105,106,107,108,109,110,111,112,113,114,115,116,117,118,119,120,121,122,48,49,50,51,52,53,54,55,56,57,45] x)=zw from funext aFd]
def Dg s(hs:s.size<=maxLen):∃r:B,(r=[]↔s.data.toList.all zw=true)/\∀w,Calls Tq.prog 187 #[.string s,.string ⟨#[97,98,99,100,101,102,103,104,105,106,107,108,109,110,111,112,113,114,115,116,117,118,119,120,121,122,48,49,50,51,52,53,54,55,56,57,45]⟩] w λe U=>e=.returned (.string ⟨r.toArray⟩)/\Below w.heap.size w U:=
 ⟨_,WY _,λw=>Any.strings_Trim_laid Jd (by kernel_rfl) s ⟨#[97,98,99,100,101,102,103,104,105,106,107,108,109,110,111,112,113,114,115,116,117,118,119,120,121,122,48,49,50,51,52,53,54,55,56,57,45]⟩ w (by unfold maxLen at hs;exact hs) (by decide) (ascii_of_all (by decide))⟩
def QT t w(hs:t.size<4294967281):
 Calls Tq.prog 160 #[.string t] w λe U=>e=.returned (.bool (lJ t.data.toList))/\Below w.heap.size w U:=by
 have C:=yr (strings_CutPrefix t ⟨#[114,101,102,115,47]⟩ w);change Hid (Calls Tq.prog 189 _ w λe U=>e=.returned (.tuple #[.string ⟨(Lib.trimPrefix t.data.toList pG).toArray⟩,.bool (pG.isPrefixOf t.data.toList)])/\U=w)at C;unfold lJ;have Q:pG.isPrefixOf t.data.toList=true->Lib.trimPrefix t.data.toList pG=t.data.toList.drop 5:=λh=>by unfold Lib.trimPrefix Lib.hasPrefix;rw[bk h];rfl
 have Zd:(t.data.toList.drop 5).length<4294967281:=by rw[gh,dx];omega
 generalize pG.isPrefixOf t.data.toList=p at C Q ⊢;generalize Lib.trimPrefix t.data.toList pG=n at C Q;generalize t.data.toList.drop 5=d at Q Zd ⊢;cases p
 ·go_enter Tq.func160,ntmps160;go_wp2_with fail;refine C.out.mono ?_;rintro e w2 ⟨rfl,rfl⟩;go_wp2;go_ret;exact⟨rfl,Below.refl _ _⟩
 ·obtain rfl:=Q rfl;have uG:(⟨n.toArray⟩:ByteArray).size=n.length:=rfl;obtain⟨r,Y,T⟩:=Dg ⟨n.toArray⟩ (by unfold maxLen;rw[uG];omega);have Y:r=[]↔n.all zw=true:=Y;have T:=yr T;have Y:=yr Y;by_cases V:1<=n.length
  ·by_cases PO:n.length<=12
   ·go_enter Tq.func160,ntmps160;go_wp2_with fail;refine C.out.mono ?_;rintro e w2 ⟨rfl,rfl⟩;go_wp2_with fail;refine(T.out _).mono ?_;rintro e w3 ⟨rfl,hb⟩;have hb:=yr hb;go_wp2;go_ret;refine⟨jS ?_,hb.out⟩;rw[j9];have:=Y.out;simp[V,PO,sY]at this ⊢;exact this
   ·have aVa:¬((n.length:Int)<=12):=by omega
    go_enter Tq.func160,ntmps160;go_wp2_with fail;refine C.out.mono ?_;rintro e w2 ⟨rfl,rfl⟩;go_wp2;go_ret;exact⟨jS (by simp[PO]),Below.refl _ _⟩
  ·have h1i:¬((1:Int)<=(n.length:Int)):=by omega
   go_enter Tq.func160,ntmps160;go_wp2_with fail;refine C.out.mono ?_;rintro e w2 ⟨rfl,rfl⟩;go_wp2;go_ret;exact⟨jS (by simp[V]),Below.refl _ _⟩
end Pm
namespace Rx
open Tx Sp Wg Rd Bk Wi Se
inductive wN{α β:Type}(R:α->β->Prop):List α->List β->Prop
 |nil:wN R [] []
 |cons{x}  {y} {l} {m}:R x y->wN R l m->wN R (x::l) (y::m)
namespace wN
variable {α β:Type}{R:α->β->Prop}
def mono{l m R'}(h:wN R l m)(Y:∀x y,x∈l->R x y->R' x y):wN R' l m:=by
 induction h with
 |nil=>exact .nil
 |cons r _ ih=>exact .cons (Y _ _ (bj ..) r) (ih λx y E=>Y x y (bc _ E))
def snoc{l m x y}(h:wN R l m)(r:R x y):wN R (l++[x]) (m++[y]):=by
 induction h with
 |nil=>exact .cons r .nil
 |cons r' _ ih=>exact .cons r' ih
def at_{l m x}(h:wN R l m){i:Nat}(E:l[i]? =some x):∃y,m[i]? =some y/\R x y:=by
 induction h generalizing i with
 |nil=>simp at E
 |cons r _ ih=>
  cases i with
  |zero=>obtain rfl:=ay E;exact⟨_,rfl,r⟩
  |succ i=>exact ih E
end wN
def Ob(w:World)(t:B)(v:Value):Prop:=∃(o:Tx.Obj) (b:Nat) (n:Value),parse t=some o/\v=.iface (ED o.kind) (aG b)/\nE w b (blT o.kind) (av t) n/\w.ownsRow 0 9 1 n o.ids.length (o.ids.map av)/\t.length<16777216
def Safe(w:World)(S:Nat->Prop):Prop:=∀k cur T fz,S k->w.heap[k]? =some (.cells cur T fz)->T≠256/\T≠258/\T≠260/\T≠9/\T≠91
def Ho k:blT k=256\/blT k=258\/blT k=260:=by
 unfold blT;split
 ·exact .inl rfl
 ·split
  ·exact .inr (.inl rfl)
  ·exact .inr (.inr rfl)
def bq{v xs k}{w:World}{B hx z n:Nat}(h:w.ownsRow B hx z v n xs)(A:v.ownBlock=some k):∃cur,w.heap[k]? =some (.cells cur hx (0,0)):=by
 rcases h.2 with⟨rfl,_⟩|⟨g,cap,cur,rfl,_,hb,_⟩
 ·cases A
 ·obtain rfl:=ay A;exact⟨cur,hb⟩
def Ob.aA{w t v S U}(h:Ob w t v)(L:aj S w U)(hs:Safe w S):Ob U t v:=by
 obtain⟨o,b,n,V,J,h3,h4,h5⟩:=h;refine⟨o,b,n,V,J,h3.aA L (λe=>?_),L.ownsRow h4 (λk A e=>?_),h5⟩
 ·have:=hs b _ _ _ e h3;rcases Ho o.kind with e|e|e<;>simp[e]at this
 ·obtain⟨cur,hb⟩:=bq h4 A;exact(hs k _ _ _ e hb).2.2.2.1 rfl
def Safe.none w:Safe w (λ_=>False):=λ_ _ _ _ e=>e.elim
def aHh(m:nN):List Value:=[av m.old,av m.new,av m.ref]
def kY(l:List nN):List Value:=(l.map aHh).flatten
structure Cx w r fz v c:Prop where
 cb:Cb w r fz v c
 au:w.ownsRow 0 142 3 v.cv c.au.length (kY c.au)
 ah:∃vs,w.ownsRow 0 106 1 v.ov c.ah.length vs/\wN (Ob w) c.ah vs
def Fp(r:Nat)(v:Cv):Nat->Prop:=λk=>k=r\/v.cv.ownBlock=some k\/v.ov.ownBlock=some k
def Cx.safe{w r fz v c}(h:Cx w r fz v c):Safe w (Fp r v):=by
 intro k cur T jo A hb;rcases A with rfl|A|A
 ·have:=h.cb;unfold Cb aM at this;rw[this]at hb;injection hb with hb;injection hb with _ hb _;subst hb;decide
 ·obtain⟨A5,xa⟩:=bq h.au A;rw[xa]at hb;injection hb with hb;injection hb with _ hb _;subst hb;decide
 ·obtain⟨vs,V,_⟩:=h.ah;obtain⟨A5,xa⟩:=bq V A;rw[xa]at hb;injection hb with hb;injection hb with _ hb _;subst hb;decide
def Cx.aA{w r fz v c S U}(h:Cx w r fz v c)(L:aj S w U)(hs:Safe w S)(Q:∀k,Fp r v k->¬S k):Cx U r fz v c:=by obtain⟨vs,V,J⟩:=h.ah;exact⟨aM.aA h.cb L (Q r (.inl rfl)),L.ownsRow h.au (λk A=>Q k (.inr (.inl A))),vs,L.ownsRow V (λk A=>Q k (.inr (.inr A))),J.mono λx y _ NG=>NG.aA L hs⟩
def Cx.rows{w r fz v c}(h:Cx w r fz v c):(∀k,v.cv.ownBlock=some k->k≠r)/\(∀k,v.ov.ownBlock=some k->k≠r)/\(∀k,v.cv.ownBlock=some k->v.ov.ownBlock≠some k):=by
 obtain⟨vs,V,J⟩:=h.ah;have hb:=h.cb;unfold Cb aM at hb;refine⟨λk A e=>?_,λk A e=>?_,λk A e=>?_⟩
 ·subst e;obtain⟨cur,xa⟩:=bq h.au A;rw[hb]at xa;injection xa with xa;injection xa with _ xa _;cases xa
 ·subst e;obtain⟨cur,xa⟩:=bq V A;rw[hb]at xa;injection xa with xa;injection xa with _ xa _;cases xa
 ·obtain⟨cur,xa⟩:=bq h.au A;obtain⟨A5,Va⟩:=bq V e;rw[xa]at Va;injection Va with Va;injection Va with _ Va _;cases Va
def aDN:(Tq.prog.info? 106).map (λi=>(i.zero,i.size,i.bytes))=some (some .nilIface,1,16):=(by kernel_rfl)
def aJQ:(Tq.prog.info? 142).map (λi=>(i.zero,i.size,i.bytes))=some (some (.agg #[.string ByteArray.empty,.string ByteArray.empty,.string ByteArray.empty]),3,48):=(by kernel_rfl)
end Rx
