/- Races: a part. Conditions: none. -/
import Derived.BigQuiet
import Derived.Lib.Hide
import Derived.Test.YtmanpggemmgnnaaGreatDoorA16
import Derived.Test.YtmanpggemmgnnaaGreatDoorA18
import Derived.WalkLawsBesides
import Derived.WalkSpells
set_option linter.all false
set_option maxHeartbeats 8000000
set_option maxRecDepth 1000000
namespace Go.Proofs.YtmanpggemmgnnaaGreatDoor
noncomputable section
open Go Go.RowKit Ba VW
theorem z24 {p:Prop} (h:p):Go.RowKit.Hid p:=Go.Lib.hid h
namespace Wb
theorem l7 (s:ByteArray) (w:World) (hs:s.size<=maxLen):
 Calls Tq.prog 144 #[.string s] w λe w'=>e=.returned (.string ⟨(Tx.dA s.data.toList).toArray⟩)/\Below w.heap.size w w':=by
 unfold maxLen at hs;go_enter Tq.func144,Tryz.ntmps144;go_wp2
 go_loop [3,4,9] (λh j i=>∃k:Nat,k<=s.size/\i=.int .i64 k/\h=.int .u32 (Tx.PU (s.data.toList.take k):Nat)) (λ_ _ i=>s.size - (intOf i).toNat)
 case atStart=>exact ⟨0,Nat.zero_le _,rfl,by simp [Tx.PU]⟩
 case round=>
  obtain ⟨k,hk,rfl,rfl⟩:=hrel;have Zj:=ZY (s.data.toList.take k);generalize hh:Tx.PU (s.data.toList.take k)=h at *;have X1:=z24 hh;clear hh;by_cases aI:k<s.size
  ·have X2:=z24 (FQ s k aI);go_wp2
   go_round
   case rel=>exact ⟨k+1,by omega,by go_num,by rw [X2.out,M3,X1.out,aC1 _ _ Zj]⟩
   case measure=>simp [intOf];omega
  ·have X2:=z24 (show Tx.PU s.data.toList=h by rw [<-X1.out,List.take_of_length_le (by rw [dx];omega)]);go_wp2
   go_loopw [3,6,21] (λg x i wr=>∃j:Nat,j<=8/\i=.int .i64 j/\g=.int .u32 (h / 16^j:Nat)/\wr=w.alloc (.cells (qB j h) 245)) (λ_ _ i _=>8 - (intOf i).toNat)
   case atStart=>exact ⟨0,by omega,rfl,by simp,rfl⟩
   case round=>
    obtain ⟨j,hj,rfl,rfl,rfl⟩:=hrel;have hg:h / 16^j<4294967296:=Nat.lt_of_le_of_lt (Nat.div_le_self _ _) Zj;generalize hgg:h / 16^j=g at *;generalize ZC:qB j h=d at *;have hds:d.size=8:=by rw [<-ZC,Nk _ _ hj]
    have X3:=z24 hgg;have X4:=z24 ZC;clear hgg ZC;by_cases h8:j<8
    ·have he:bits .and .u32 (g:Int) 15=((g%16:Nat):Int):=by
      rw [show (15:Int)=((15:Nat):Int) from rfl,u32_and_nat _ _ hg (by decide),show (15:Nat)=2^4 - 1 from rfl,Nat.and_two_pow_sub_one_eq_mod]
     obtain ⟨x,hx⟩:∃x,(w.alloc (.cells d 245)).cell? ⟨w.heap.size,7 - j,none⟩=some x:=by refine ⟨d[7 - j]'(by omega),?_⟩;simp
     go_wp2
     go_roundw
     case rel=>exact ⟨j+1,by omega,by go_num,by rw [Nat.pow_succ,<-Nat.div_div_eq_div_mul,X3.out];go_num,by rw [<-Nj j h h8,X3.out,X4.out,aAf _ (Nat.mod_lt _ (by decide))]⟩
     case measure=>simp [intOf];omega
    ·have e8:j=8:=by omega
     have U7:=run_convert_bytes_back (P:=Tq.prog) (w.alloc (.cells d 245)) 35 9 5 ⟨w.heap.size,0,none⟩ 8 (Tx.pO 8 h) ((Tq.underlying 35).trans Tryz.underlying35) ((Tq.underlying 5).trans Tryz.underlying5) ((Tq.underlying 9).trans Tryz.underlying9) (λi hi=>by
      rw [iy] at hi;have e:=X4.out;rw [e8] at e;rw [<-e];by_cases wW:i=0
      ·subst wW;simp [Addr.add,qB];exact ⟨_,List.getElem?_eq_getElem (by rw [iy];exact hi),rfl⟩
      ·simp [Addr.add,qB,wW];exact ⟨_,List.getElem?_eq_getElem (by rw [iy];exact hi),rfl⟩)
     rw [iy] at U7;go_wp2;go_ret;exact ⟨xM (by rw [Tx.dA,X2.out]),(Below.refl _ _).alloc (Nat.le_refl _) _⟩
end Wb
namespace Wa
theorem Gc (s:ByteArray) (w:World) (hs:s.size<=maxLen):
 Calls Tq.prog 22 #[.string s] w λe w'=>e=.returned (.string ⟨(Tx.dA s.data.toList).toArray⟩)/\w'=w:=by
 unfold maxLen at hs;go_enter Tq.func22,Tryz.ntmps22;go_wp2
 go_loop [3,4] (λh i=>∃k:Nat,k<=s.size/\i=.int .i64 k/\h=.int .i64 (Tx.PU (s.data.toList.take k):Nat)) (λ_ i=>s.size - (intOf i).toNat)
 case atStart=>exact ⟨0,Nat.zero_le _,rfl,by simp [Tx.PU]⟩
 case round=>
  obtain ⟨k,hk,rfl,rfl⟩:=hrel;have Zj:=ZY (s.data.toList.take k);generalize hh:Tx.PU (s.data.toList.take k)=h at *;have X1:=z24 hh;clear hh;by_cases aI:k<s.size
  ·have X2:=z24 (FQ s k aI);go_wp2
   go_round
   case rel=>exact ⟨k+1,by omega,by go_num,by rw [X2.out,M3,X1.out,aC2 _ _ Zj]⟩
   case measure=>simp [intOf];omega
  ·have X2:=z24 (show Tx.PU s.data.toList=h by rw [<-X1.out,List.take_of_length_le (by rw [dx];omega)]);go_wp2
   go_loop [3,5,6] (λg d i=>∃j:Nat,j<=8/\i=.int .i64 j/\d=.string ⟨(Tx.pO j h).toArray⟩/\g=.int .i64 (h / 16^j:Nat)) (λ_ _ i=>8 - (intOf i).toNat)
   case atStart=>exact ⟨0,by omega,rfl,rfl,by simp⟩
   case round=>
    obtain ⟨j,hj,rfl,rfl,rfl⟩:=hrel;have hg:h / 16^j<4294967296:=Nat.lt_of_le_of_lt (Nat.div_le_self _ _) Zj;generalize hgg:h / 16^j=g at *;generalize ZC:Tx.pO j h=d at *;have hdl:d.length<=8:=by rw [<-ZC,iy];exact hj
    have X3:=z24 hgg;have X4:=z24 ZC;clear hgg ZC;by_cases h8:j<8
    ·go_wp2
     go_round
     case rel=>exact ⟨j+1,by omega,by go_num,by rw [uy,X4.out,X3.out,M9];exact Nat.mod_lt _ (by decide),by rw [Nat.pow_succ,<-Nat.div_div_eq_div_mul,X3.out];go_num⟩
     case measure=>simp [intOf];omega
    ·go_wp2;go_ret;exact ⟨xM (by rw [<-X4.out,Tx.dA,X2.out,show j=8 by omega]),rfl⟩
theorem EX (s:ByteArray) (w:World) (hs:s.size<=maxLen):
 Calls Tq.prog 24 #[.string s] w λe w'=>e=.returned (.string ⟨(Tx.dU s.data.toList).toArray⟩)/\w'=w:=by
 unfold maxLen at hs;by_cases h0:s.size=0\/200<s.size
 ·have X0:=z24 (show Tx.dU s.data.toList=[] by unfold Tx.dU;rw [dx,if_pos h0]);by_cases hz:s.size=0
  ·have t1:((s.size:Int)==0)=true:=by rw [hz];rfl
   clear h0 hz;go_enter Tq.func24,Tryz.ntmps24;go_wp2;go_ret;exact ⟨xM (by rw [X0.out]),rfl⟩
  ·have t1:((s.size:Int)==0)=false:=by rw [beq_eq_false_iff_ne];omega
   have h2:200<s.size:=by omega
   clear h0 hz;go_enter Tq.func24,Tryz.ntmps24;go_wp2;go_ret;exact ⟨xM (by rw [X0.out]),rfl⟩
 ·have X0:=z24 (show Tx.dU s.data.toList=Tx.pO 4 (s.size+4)++s.data.toList by unfold Tx.dU;rw [dx,if_neg h0]);have t1:((s.size:Int)==0)=false:=by rw [beq_eq_false_iff_ne];omega
  have h2:s.size<=200:=by omega
  clear h0;go_enter Tq.func24,Tryz.ntmps24;go_wp2
  go_loop [3,4,5] (λg d i=>∃j:Nat,j<=4/\i=.int .i64 j/\d=.string ⟨(Tx.pO j (s.size+4)).toArray⟩/\g=.int .i64 ((s.size+4) / 16^j:Nat)) (λ_ _ i=>4 - (intOf i).toNat)
  case atStart=>exact ⟨0,by omega,rfl,rfl,by simp⟩
  case round=>
   obtain ⟨j,hj,rfl,rfl,rfl⟩:=hrel;have hg:(s.size+4) / 16^j<=204:=Nat.le_trans (Nat.div_le_self _ _) (by omega);generalize hgg:(s.size+4) / 16^j=g at *;generalize ZC:Tx.pO j (s.size+4)=d at *;have hdl:d.length<=4:=by rw [<-ZC,iy];exact hj
   have X3:=z24 hgg;have X4:=z24 ZC;clear hgg ZC;by_cases h8:j<4
   ·go_wp2
    go_round
    case rel=>exact ⟨j+1,by omega,by go_num,by rw [uy,X4.out,X3.out,M9];exact Nat.mod_lt _ (by decide),by rw [Nat.pow_succ,<-Nat.div_div_eq_div_mul,X3.out];go_num⟩
    case measure=>simp [intOf];omega
   ·go_wp2;go_ret;exact ⟨xM (by have e4:=X4.out;rw [show j=4 by omega] at e4;rw [X0.out,e4,zR]),rfl⟩
end Wa
end
end Go.Proofs.YtmanpggemmgnnaaGreatDoor
