/- Ends: a part. Conditions: none. -/
import Derived.Sort.OwnSorted
import Derived.Test.YtmanpggemmgnnaaGreatDoorA21
import Derived.Test.YtmanpggemmgnnaaGreatDoorA25
set_option linter.all false
set_option maxHeartbeats 8000000
set_option maxRecDepth 1000000
namespace Go.Proofs.YtmanpggemmgnnaaGreatDoor
noncomputable section
open Go Go.RowKit Go.Shelf Ba VW Fr Go.Maps Go.Sort Tryz
def Ő:=@wpList_append_own_at
def ŏ:=@World.ranges.left_eq
def Ŏ:=@World.ranges.alloc
def ō:=@World.ownsRow_nil
def H8{p}(h:p):Go.RowKit.Hid p:=Go.Lib.hid h
namespace Ks
open Tx Sp Mp Bk Wg
def xG base v(ss:List B)w(tU:w.ownsRow base 9 1 v ss.length (ss.map encStr))(uG:ss.length<1099511627776):
 Calls Tq.prog 74 #[v] w λe U=>e=.returned (.tuple #[])/\U.ownsRow base 9 1 v ss.length ((ss.mergeSort uH).map encStr)/\w.grownBy U v.ownBlock:=by
 rcases tU.2 with⟨rfl,h0⟩|⟨g,cap,cur,rfl,B3,hb,V,J,h3,h4⟩
 ·obtain rfl:ss=[]:=eK h0;refine(slices_Sort_string_none none 0 w).mono ?_;rintro e U ⟨rfl,rfl⟩;exact⟨rfl,by simpa using tU,⟨rfl,rfl,rfl,aI _,λ_ _ _=>rfl⟩⟩
 ·have hH:Holds encStr w g 0 ss.toArray:=holds_of_block hb (by simpa using h4);have Jn:g<w.heap.size:=(a6.1 hb).1;refine(slices_Sort_string g 0 cap ss w hH Jn (by omega)).mono ?_;rintro e U ⟨rfl,nn,os,hw⟩;have Bh:(ss.mergeSort uH).length=ss.length:=kj ss;have hg:=grownBy_sorted (w:=w) (g:=g) (n:=nn) (os:=os) (ss.mergeSort uH).toArray;have hro:=ownsRow_sorted (n:=nn) (os:=os) (ts:=ss.mergeSort uH) Bh B3 hb V J h3;have e:U=grow (putRow encStr (Sort.ahead w nn) g 0 (ss.mergeSort uH).toArray) os:=hw;rw[e];exact⟨rfl,hro,hg⟩
def mH{m:M Value}(Y:m.Pairwise λp q=>si p.1 q.1=true){ss:List B}(h:ss.Perm (m.map (·.1))):ss.mergeSort uH=m.map (·.1):=by have e:(uH:B->B->Bool)=leB:=rfl;rw[e,mergeSort_of_perm h];refine List.mergeSort_of_pairwise ?_;rw[ia];refine Y.imp λ{p q} hpq=>?_;unfold si at hpq;simp only[cN]at hpq ⊢;exact List.le_of_lt hpq
def Ę{p:Prop}(h:p:=by
 go_frame
 go_loopw [3] (λv wr=>∃(left:B->Bool) (cnt:Nat) (ss:List B),SR wr b w.heap.size m left cnt/\wr.ownsRow w.heap.size 9 1 v ss.length (ss.map encStr)/\(∀g,v.ownBlock=some g->g≠w.heap.size)/\
  Hid (Nv m left ss)/\ss.length+cnt<=m.length/\Hid (Below w.heap.size w wr)) (λ_ wr=>wr.rangeLeft b w.heap.size)
 case atStart=>
  refine⟨_,_,[],BH,ō _ _ _ _,(λg h=>by cases h),H8 (Nv.start m),by simp,H8 ?_⟩;exact(Below.refl _ _).grown Ej (aI _) (λk h=>by cases h)
 case round=>
  obtain⟨left,cnt,ss,Ek,tM,tW,HC,hlen,HB⟩:=hrel;have hm0:wr.rangeLeft b w.heap.size=cnt:=ŏ Ek;go_wp2_with (first
   |(at_next;refine Mp.next rfl _ rfl b w.heap.size m left cnt rfl Ek ?_ ?_)
   |go_in)
  ·intro AE hl0;have hp:=HC.out.perm sG.out hl0;have hs:=mH sG.out hp;have hl:ss.length=m.length:=by have:=hp.length_eq;simpa using this
   have C:=H8 (xG w.heap.size _ ss wr tM (by omega));clear Ek tM;go_wp2_with (go_at_call 74;refine C.out.mono ?_;rintro e U ⟨rfl,hw⟩;have hw:=H8 hw);go_ret;refine⟨_,rfl,?_,?_⟩
   ·have:=hw.out.1;rw[hs,hl]at this;exact this
   ·exact HB.out.grown hw.out.2 HB.out.size (λk h=>by
     have:=(hw.out.1.lt k h).1;exact this)
  ·intro k x w1 cnt1 MF B5 iP BI tP DG hen;have hC1:=H8 (HC.out.step B5 iP);have kX:=tM.kept DG (by
    cases vX:Value.ownBlock _ with
    |none=>exact Or.inl rfl
    |some g=>exact Or.inr (λe=>tW g vX (ay e)))
   have HB1:=H8 (HB.out.grown DG HB.out.size (λk h=>by cases h;exact aI _));have Jh:=DG.size;have aJ3:=HB.out.size;clear HB tM Ek HC DG;go_wp2_with (first
    |(at_builtin;refine Ő _ rfl _ _ 34 rfl w.heap.size 9 i0 (.string ByteArray.empty) 1 16 ((Tq.underlying 34).trans underlying34) hi xr xU ya rfl (by decide) _ _ _ rfl (kX.alloc _) ⟨w1.heap.size,0,none⟩ 1 1 [encStr k] rfl rfl ?c1 ?c2 ?c3 ?c4 ?c5 ?_)
    |go_in)
   case c1=>
    intro j u hj
    match j,hj with
    |0,hj=>simp at hj;subst hj;simp[Addr.add,encStr]
   case c2=>intro u hu;simp at hu;subst hu;rfl
   case c3=>unfold maxLen;omega
   case c4=>omega
   case c5=>simp;omega
   ·intro v' w4 yO tR _ zj;have DT:=tR.size;have Ms:SR w4 b w.heap.size m (λz=>left z&&!(z==k)) cnt1:=(Ŏ BI (.cells #[encStr k] 9)).kept tR
     (λe=>by have:=(kX.lt b e.symm).1;omega)
     (λe=>tW w.heap.size e.symm rfl)
    have HB4:=H8 ((HB1.out.alloc (cV (by omega) Jh) (.cells #[encStr k] 9)).grown tR (by simp;omega) (λk h=>(kX.lt k h).1));have wQ:w4.ownsRow w.heap.size 9 1 v' (ss++[k]).length ((ss++[k]).map encStr):=by simpa using yO
    have Zf:∀g,v'.ownBlock=some g->g≠w.heap.size:=λg hg e=>by
     subst e;rcases zj with h|h
     ·rw[h]at hg;exact tW _ hg rfl
     ·rw[h]at hg;simp at hg;omega
    clear yO tR zj HB1 kX BI hen;go_wp2
    go_roundw
    case rel=>exact⟨_,cnt1,ss++[k],Ms,wQ,Zf,hC1,by simp;omega,HB4⟩
    case measure=>
     have NL:w4.rangeLeft b w.heap.size=cnt1:=ŏ Ms;omega):p:=h
def aCp w b m(tU:SM w b m)(Q:m.length<1099511627776):
 Calls Tq.prog 163 #[.map (some b)] w λe U=>∃v,e=.returned v/\U.ownsRow w.heap.size 9 1 v m.length ((m.map (·.1)).map encStr)/\Below w.heap.size w U:=by
 obtain⟨i0,hi,xr,xU,ya⟩:=info_parts pI;have sG:=H8 tU.rising;have Hb:=tU.lt;go_enter Tq.func163,ntmps163;go_wp2_with (first
  |(at_range;refine Mp.range rfl _ 67 rfl 3 ((Tq.underlying 67).trans underlying67) b m rfl tU ?_;intro w0 BH Ej hs0)
  |go_in)
 exact Ę
def aFN w b m(tU:SM w b m)(Q:m.length<1099511627776):
 Calls Tq.prog 50 #[.map (some b)] w λe U=>∃v,e=.returned v/\U.ownsRow w.heap.size 9 1 v m.length ((m.map (·.1)).map encStr)/\Below w.heap.size w U:=by
 obtain⟨i0,hi,xr,xU,ya⟩:=info_parts pI;have sG:=H8 tU.rising;have Hb:=tU.lt;go_enter Tq.func50,ntmps50;go_wp2_with (first
  |(at_range;refine Mp.range rfl _ 56 rfl 9 ((Tq.underlying 56).trans underlying56) b m rfl tU ?_;intro w0 BH Ej hs0)
  |go_in)
 exact Ę
def aCo w b m(tU:SM w b m)(Q:m.length<1099511627776):
 Calls Tq.prog 199 #[.map (some b)] w λe U=>∃v,e=.returned v/\U.ownsRow w.heap.size 9 1 v m.length ((m.map (·.1)).map encStr)/\Below w.heap.size w U:=by
 obtain⟨i0,hi,xr,xU,ya⟩:=info_parts pI;have sG:=H8 tU.rising;have Hb:=tU.lt;go_enter Tq.func199,ntmps199;go_wp2_with (first
  |(at_range;refine Mp.range rfl _ 55 rfl 106 ((Tq.underlying 55).trans underlying55) b m rfl tU ?_;intro w0 BH Ej hs0)
  |go_in)
 exact Ę
end Ks
