/- Races: a part. Conditions: none. -/
import Derived.Sort.OwnSorted
import Derived.Test.YtmanpggemmgnnaaGreatDoorA21
import Derived.Test.YtmanpggemmgnnaaGreatDoorA25
set_option linter.all false
set_option maxHeartbeats 8000000
set_option maxRecDepth 1000000
namespace Go.Proofs.YtmanpggemmgnnaaGreatDoor
noncomputable section
open Go Go.RowKit Go.Shelf Ba VW Fr Go.Maps Go.Sort
theorem z26 {p:Prop} (h:p):Go.RowKit.Hid p:=Go.Lib.hid h
namespace Ks
open Tx Sp Mp Bk Wg
theorem xG (base:Nat) (v:Value) (ss:List B) (w:World) (bU:w.ownsRow base 9 1 v ss.length (ss.map encStr)) (bW:ss.length<1099511627776):
 Calls Tq.prog 74 #[v] w λe w'=>e=.returned (.tuple #[])/\w'.ownsRow base 9 1 v ss.length ((ss.mergeSort uH).map encStr)/\w.grownBy w' v.ownBlock:=by
 rcases bU.2 with ⟨rfl,h0⟩|⟨g,cap,cur,rfl,aEj,hb,h1,h2,h3,h4⟩
 ·obtain rfl:ss=[]:=List.eq_nil_of_length_eq_zero h0;refine (Tryz.slices_Sort_string_none none 0 w).mono ?_;rintro e w' ⟨rfl,rfl⟩;exact ⟨rfl,by simpa using bU,⟨rfl,rfl,rfl,Nat.le_refl _,λ_ _ _=>rfl⟩⟩
 ·have hH:Holds encStr w g 0 ss.toArray:=holds_of_block hb (by simpa using h4);have Jn:g<w.heap.size:=(Array.getElem?_eq_some_iff.1 hb).1;refine (Tryz.slices_Sort_string g 0 cap ss w hH Jn (by omega)).mono ?_;rintro e w' ⟨rfl,nn,os,hw⟩;have Rm:(ss.mergeSort uH).length=ss.length:=List.length_mergeSort ss;have hg:=grownBy_sorted (w:=w) (g:=g) (n:=nn) (os:=os) (ss.mergeSort uH).toArray;have hro:=ownsRow_sorted (n:=nn) (os:=os) (ts:=ss.mergeSort uH) Rm aEj hb h1 h2 h3;have e:w'=grow (putRow encStr (Sort.ahead w nn) g 0 (ss.mergeSort uH).toArray) os:=hw;rw [e];exact ⟨rfl,hro,hg⟩
theorem mH {m:M Value} (hr:m.Pairwise λp q=>si p.1 q.1=true) {ss:List B} (h:ss.Perm (m.map (·.1))):ss.mergeSort uH=m.map (·.1):=by have e:(uH:B->B->Bool)=leB:=rfl;rw [e,mergeSort_of_perm h];refine List.mergeSort_of_pairwise ?_;rw [List.pairwise_map];refine hr.imp λ{p q} hpq=>?_;unfold si at hpq;simp only [decide_eq_true_eq] at hpq ⊢;exact List.le_of_lt hpq
theorem aCp (w:World) (b:Nat) (m:M Value) (bU:SM w b m) (hn:m.length<1099511627776):
 Calls Tq.prog 163 #[.map (some b)] w λe w'=>∃v,e=.returned v/\w'.ownsRow w.heap.size 9 1 v m.length ((m.map (·.1)).map encStr)/\Below w.heap.size w w':=by
 obtain ⟨i0,hi,uw,wQ,wP⟩:=info_parts Tryz.pI;have sG:=z26 bU.rising;have PL:=bU.lt;go_enter Tq.func163,Tryz.ntmps163;go_wp2_with (first
  |(at_range;refine Mp.range rfl _ 67 rfl 3 ((Tq.underlying 67).trans Tryz.underlying67) b m rfl bU ?_;intro w0 Bd MJ hs0)
  |go_in)
 go_frame
 go_loopw [3] (λv wr=>∃(left:B->Bool) (cnt:Nat) (ss:List B),SR wr b w.heap.size m left cnt/\wr.ownsRow w.heap.size 9 1 v ss.length (ss.map encStr)/\(∀g,v.ownBlock=some g->g≠w.heap.size)/\
  Hid (Nv m left ss)/\ss.length+cnt<=m.length/\Hid (Below w.heap.size w wr)) (λ_ wr=>wr.rangeLeft b w.heap.size)
 case atStart=>
  refine ⟨_,_,[],Bd,World.ownsRow_nil _ _ _ _,(λg h=>by cases h),z26 (Nv.start m),by simp,z26 ?_⟩;exact (Below.refl _ _).grown MJ (Nat.le_refl _) (λk h=>by cases h)
 case round=>
  obtain ⟨left,cnt,ss,BH,ay,bA,HC,hlen,HB⟩:=hrel;have hm0:wr.rangeLeft b w.heap.size=cnt:=World.ranges.left_eq BH;go_wp2_with (first
   |(at_next;refine Mp.next rfl _ rfl b w.heap.size m left cnt rfl BH ?_ ?_)
   |go_in)
  ·intro yt PD;have hp:=HC.out.perm sG.out PD;have hs:=mH sG.out hp;have hl:ss.length=m.length:=by have:=hp.length_eq;simpa using this
   have C:=z26 (xG w.heap.size _ ss wr ay (by omega));clear BH ay;go_wp2_with (go_at_call 74;refine C.out.mono ?_;rintro e w' ⟨rfl,hw⟩;have hw:=z26 hw);go_ret;refine ⟨_,rfl,?_,?_⟩
   ·have:=hw.out.1;rw [hs,hl] at this;exact this
   ·exact HB.out.grown hw.out.2 HB.out.size (λk h=>by
     have:=(hw.out.1.lt k h).1;exact this)
  ·intro k x w1 pX MF yn iP uJ aI zD hen;have hC1:=z26 (HC.out.step yn iP);have kX:=ay.kept zD (by
    cases vX:Value.ownBlock _ with
    |none=>exact Or.inl rfl
    |some g=>exact Or.inr (λe=>bA g vX (Option.some.inj e)))
   have HB1:=z26 (HB.out.grown zD HB.out.size (λk h=>by cases h;exact Nat.le_refl _));have Jh:=zD.size;have aJ3:=HB.out.size;clear HB ay BH HC zD;go_wp2_with (first
    |(at_builtin;refine wpList_append_own_at _ rfl _ _ 34 rfl w.heap.size 9 i0 (.string ByteArray.empty) 1 16 ((Tq.underlying 34).trans Tryz.underlying34) hi uw wQ wP rfl (by decide) _ _ _ rfl (kX.alloc _) ⟨w1.heap.size,0,none⟩ 1 1 [encStr k] rfl rfl ?c1 ?c2 ?c3 ?c4 ?c5 ?_)
    |go_in)
   case c1=>
    intro j u hj
    match j,hj with
    |0,hj=>simp at hj;subst hj;simp [Addr.add,encStr]
   case c2=>intro u hu;simp at hu;subst hu;rfl
   case c3=>unfold maxLen;omega
   case c4=>omega
   case c5=>simp;omega
   ·intro v' w4 jD aX _ oL;have DT:=aX.size;have Ms:SR w4 b w.heap.size m (λz=>left z&&!(z==k)) pX:=(World.ranges.alloc uJ (.cells #[encStr k] 9)).kept aX
     (λe=>by have:=(kX.lt b e.symm).1;omega)
     (λe=>bA w.heap.size e.symm rfl)
    have HB4:=z26 ((HB1.out.alloc (Nat.le_trans (by omega) Jh) (.cells #[encStr k] 9)).grown aX (by simp;omega) (λk h=>(kX.lt k h).1));have gG:w4.ownsRow w.heap.size 9 1 v' (ss++[k]).length ((ss++[k]).map encStr):=by simpa using jD
    have Zf:∀g,v'.ownBlock=some g->g≠w.heap.size:=λg hg e=>by
     subst e;rcases oL with h|h
     ·rw [h] at hg;exact bA _ hg rfl
     ·rw [h] at hg;simp at hg;omega
    clear jD aX oL HB1 kX uJ hen;go_wp2
    go_roundw
    case rel=>exact ⟨_,pX,ss++[k],Ms,gG,Zf,hC1,by simp;omega,HB4⟩
    case measure=>
     have NL:w4.rangeLeft b w.heap.size=pX:=World.ranges.left_eq Ms;omega
theorem aFN (w:World) (b:Nat) (m:M Value) (bU:SM w b m) (hn:m.length<1099511627776):
 Calls Tq.prog 50 #[.map (some b)] w λe w'=>∃v,e=.returned v/\w'.ownsRow w.heap.size 9 1 v m.length ((m.map (·.1)).map encStr)/\Below w.heap.size w w':=by
 obtain ⟨i0,hi,uw,wQ,wP⟩:=info_parts Tryz.pI;have sG:=z26 bU.rising;have PL:=bU.lt;go_enter Tq.func50,Tryz.ntmps50;go_wp2_with (first
  |(at_range;refine Mp.range rfl _ 56 rfl 9 ((Tq.underlying 56).trans Tryz.underlying56) b m rfl bU ?_;intro w0 Bd MJ hs0)
  |go_in)
 go_frame
 go_loopw [3] (λv wr=>∃(left:B->Bool) (cnt:Nat) (ss:List B),SR wr b w.heap.size m left cnt/\wr.ownsRow w.heap.size 9 1 v ss.length (ss.map encStr)/\(∀g,v.ownBlock=some g->g≠w.heap.size)/\
  Hid (Nv m left ss)/\ss.length+cnt<=m.length/\Hid (Below w.heap.size w wr)) (λ_ wr=>wr.rangeLeft b w.heap.size)
 case atStart=>
  refine ⟨_,_,[],Bd,World.ownsRow_nil _ _ _ _,(λg h=>by cases h),z26 (Nv.start m),by simp,z26 ?_⟩;exact (Below.refl _ _).grown MJ (Nat.le_refl _) (λk h=>by cases h)
 case round=>
  obtain ⟨left,cnt,ss,BH,ay,bA,HC,hlen,HB⟩:=hrel;have hm0:wr.rangeLeft b w.heap.size=cnt:=World.ranges.left_eq BH;go_wp2_with (first
   |(at_next;refine Mp.next rfl _ rfl b w.heap.size m left cnt rfl BH ?_ ?_)
   |go_in)
  ·intro yt PD;have hp:=HC.out.perm sG.out PD;have hs:=mH sG.out hp;have hl:ss.length=m.length:=by have:=hp.length_eq;simpa using this
   have C:=z26 (xG w.heap.size _ ss wr ay (by omega));clear BH ay;go_wp2_with (go_at_call 74;refine C.out.mono ?_;rintro e w' ⟨rfl,hw⟩;have hw:=z26 hw);go_ret;refine ⟨_,rfl,?_,?_⟩
   ·have:=hw.out.1;rw [hs,hl] at this;exact this
   ·exact HB.out.grown hw.out.2 HB.out.size (λk h=>by
     have:=(hw.out.1.lt k h).1;exact this)
  ·intro k x w1 pX MF yn iP uJ aI zD hen;have hC1:=z26 (HC.out.step yn iP);have kX:=ay.kept zD (by
    cases vX:Value.ownBlock _ with
    |none=>exact Or.inl rfl
    |some g=>exact Or.inr (λe=>bA g vX (Option.some.inj e)))
   have HB1:=z26 (HB.out.grown zD HB.out.size (λk h=>by cases h;exact Nat.le_refl _));have Jh:=zD.size;have aJ3:=HB.out.size;clear HB ay BH HC zD;go_wp2_with (first
    |(at_builtin;refine wpList_append_own_at _ rfl _ _ 34 rfl w.heap.size 9 i0 (.string ByteArray.empty) 1 16 ((Tq.underlying 34).trans Tryz.underlying34) hi uw wQ wP rfl (by decide) _ _ _ rfl (kX.alloc _) ⟨w1.heap.size,0,none⟩ 1 1 [encStr k] rfl rfl ?c1 ?c2 ?c3 ?c4 ?c5 ?_)
    |go_in)
   case c1=>
    intro j u hj
    match j,hj with
    |0,hj=>simp at hj;subst hj;simp [Addr.add,encStr]
   case c2=>intro u hu;simp at hu;subst hu;rfl
   case c3=>unfold maxLen;omega
   case c4=>omega
   case c5=>simp;omega
   ·intro v' w4 jD aX _ oL;have DT:=aX.size;have Ms:SR w4 b w.heap.size m (λz=>left z&&!(z==k)) pX:=(World.ranges.alloc uJ (.cells #[encStr k] 9)).kept aX
     (λe=>by have:=(kX.lt b e.symm).1;omega)
     (λe=>bA w.heap.size e.symm rfl)
    have HB4:=z26 ((HB1.out.alloc (Nat.le_trans (by omega) Jh) (.cells #[encStr k] 9)).grown aX (by simp;omega) (λk h=>(kX.lt k h).1));have gG:w4.ownsRow w.heap.size 9 1 v' (ss++[k]).length ((ss++[k]).map encStr):=by simpa using jD
    have Zf:∀g,v'.ownBlock=some g->g≠w.heap.size:=λg hg e=>by
     subst e;rcases oL with h|h
     ·rw [h] at hg;exact bA _ hg rfl
     ·rw [h] at hg;simp at hg;omega
    clear jD aX oL HB1 kX uJ hen;go_wp2
    go_roundw
    case rel=>exact ⟨_,pX,ss++[k],Ms,gG,Zf,hC1,by simp;omega,HB4⟩
    case measure=>
     have NL:w4.rangeLeft b w.heap.size=pX:=World.ranges.left_eq Ms;omega
theorem aCo (w:World) (b:Nat) (m:M Value) (bU:SM w b m) (hn:m.length<1099511627776):
 Calls Tq.prog 199 #[.map (some b)] w λe w'=>∃v,e=.returned v/\w'.ownsRow w.heap.size 9 1 v m.length ((m.map (·.1)).map encStr)/\Below w.heap.size w w':=by
 obtain ⟨i0,hi,uw,wQ,wP⟩:=info_parts Tryz.pI;have sG:=z26 bU.rising;have PL:=bU.lt;go_enter Tq.func199,Tryz.ntmps199;go_wp2_with (first
  |(at_range;refine Mp.range rfl _ 55 rfl 106 ((Tq.underlying 55).trans Tryz.underlying55) b m rfl bU ?_;intro w0 Bd MJ hs0)
  |go_in)
 go_frame
 go_loopw [3] (λv wr=>∃(left:B->Bool) (cnt:Nat) (ss:List B),SR wr b w.heap.size m left cnt/\wr.ownsRow w.heap.size 9 1 v ss.length (ss.map encStr)/\(∀g,v.ownBlock=some g->g≠w.heap.size)/\
  Hid (Nv m left ss)/\ss.length+cnt<=m.length/\Hid (Below w.heap.size w wr)) (λ_ wr=>wr.rangeLeft b w.heap.size)
 case atStart=>
  refine ⟨_,_,[],Bd,World.ownsRow_nil _ _ _ _,(λg h=>by cases h),z26 (Nv.start m),by simp,z26 ?_⟩;exact (Below.refl _ _).grown MJ (Nat.le_refl _) (λk h=>by cases h)
 case round=>
  obtain ⟨left,cnt,ss,BH,ay,bA,HC,hlen,HB⟩:=hrel;have hm0:wr.rangeLeft b w.heap.size=cnt:=World.ranges.left_eq BH;go_wp2_with (first
   |(at_next;refine Mp.next rfl _ rfl b w.heap.size m left cnt rfl BH ?_ ?_)
   |go_in)
  ·intro yt PD;have hp:=HC.out.perm sG.out PD;have hs:=mH sG.out hp;have hl:ss.length=m.length:=by have:=hp.length_eq;simpa using this
   have C:=z26 (xG w.heap.size _ ss wr ay (by omega));clear BH ay;go_wp2_with (go_at_call 74;refine C.out.mono ?_;rintro e w' ⟨rfl,hw⟩;have hw:=z26 hw);go_ret;refine ⟨_,rfl,?_,?_⟩
   ·have:=hw.out.1;rw [hs,hl] at this;exact this
   ·exact HB.out.grown hw.out.2 HB.out.size (λk h=>by
     have:=(hw.out.1.lt k h).1;exact this)
  ·intro k x w1 pX MF yn iP uJ aI zD hen;have hC1:=z26 (HC.out.step yn iP);have kX:=ay.kept zD (by
    cases vX:Value.ownBlock _ with
    |none=>exact Or.inl rfl
    |some g=>exact Or.inr (λe=>bA g vX (Option.some.inj e)))
   have HB1:=z26 (HB.out.grown zD HB.out.size (λk h=>by cases h;exact Nat.le_refl _));have Jh:=zD.size;have aJ3:=HB.out.size;clear HB ay BH HC zD;go_wp2_with (first
    |(at_builtin;refine wpList_append_own_at _ rfl _ _ 34 rfl w.heap.size 9 i0 (.string ByteArray.empty) 1 16 ((Tq.underlying 34).trans Tryz.underlying34) hi uw wQ wP rfl (by decide) _ _ _ rfl (kX.alloc _) ⟨w1.heap.size,0,none⟩ 1 1 [encStr k] rfl rfl ?c1 ?c2 ?c3 ?c4 ?c5 ?_)
    |go_in)
   case c1=>
    intro j u hj
    match j,hj with
    |0,hj=>simp at hj;subst hj;simp [Addr.add,encStr]
   case c2=>intro u hu;simp at hu;subst hu;rfl
   case c3=>unfold maxLen;omega
   case c4=>omega
   case c5=>simp;omega
   ·intro v' w4 jD aX _ oL;have DT:=aX.size;have Ms:SR w4 b w.heap.size m (λz=>left z&&!(z==k)) pX:=(World.ranges.alloc uJ (.cells #[encStr k] 9)).kept aX
     (λe=>by have:=(kX.lt b e.symm).1;omega)
     (λe=>bA w.heap.size e.symm rfl)
    have HB4:=z26 ((HB1.out.alloc (Nat.le_trans (by omega) Jh) (.cells #[encStr k] 9)).grown aX (by simp;omega) (λk h=>(kX.lt k h).1));have gG:w4.ownsRow w.heap.size 9 1 v' (ss++[k]).length ((ss++[k]).map encStr):=by simpa using jD
    have Zf:∀g,v'.ownBlock=some g->g≠w.heap.size:=λg hg e=>by
     subst e;rcases oL with h|h
     ·rw [h] at hg;exact bA _ hg rfl
     ·rw [h] at hg;simp at hg;omega
    clear jD aX oL HB1 kX uJ hen;go_wp2
    go_roundw
    case rel=>exact ⟨_,pX,ss++[k],Ms,gG,Zf,hC1,by simp;omega,HB4⟩
    case measure=>
     have NL:w4.rangeLeft b w.heap.size=pX:=World.ranges.left_eq Ms;omega
end Ks
end
end Go.Proofs.YtmanpggemmgnnaaGreatDoor
