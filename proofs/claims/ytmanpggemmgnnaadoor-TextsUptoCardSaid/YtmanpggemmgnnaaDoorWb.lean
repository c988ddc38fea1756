/-
  WALKS: the program's ID computes what the plain function Tx.idOf says. Condition: the text's length fits Go's int.
-/
import Derived.Test.YtmanpggemmgnnaaDoorNum
import Derived.Test.YtmanpggemmgnnaaDoorBa
import Derived.Test.YtmanpggemmgnnaaDoorProg
import Derived.WalkKit
import Derived.WalkLawsBesides
import Derived.WalkSpells
import Derived.Lib.Hide
import Derived.Deep.QuietTactic
import Derived.BigQuiet
namespace Go.Proofs.YtmanpggemmgnnaaDoor
open Go Go.RowKit Ba Num
namespace Wb
set_option maxHeartbeats 400000 in
theorem objID_any (s : ByteArray) (w : World) (hs : s.size ≤ maxLen) :
    Calls Tryd.prog 11 #[.string s] w fun e w' => e = .returned (.string ⟨(Tx.idOf s.data.toList).toArray⟩) ∧ Below w.heap.size w w' := by
  unfold maxLen at hs
  go_enter Tryd.func11, Tryd.ntmps11
  go_wp2
  go_loop [3, 4, 9] (fun h j i => ∃ k : Nat, k ≤ s.size ∧ i = .int .i64 k ∧ h = .int .u32 (Tx.fnv (s.data.toList.take k) : Nat)) (fun _ _ i => s.size - (intOf i).toNat)
  case atStart => exact ⟨0, Nat.zero_le _, rfl, by simp [Tx.fnv]⟩
  case round =>
    obtain ⟨k, hk, rfl, rfl⟩ := hrel
    have hlt1 := fnv_lt (s.data.toList.take k)
    generalize hh : Tx.fnv (s.data.toList.take k) = h at *
    have X1 := Lib.hid hh
    clear hh
    by_cases hlt : k < s.size
    · have X2 := Lib.hid (take_snoc s k hlt)
      go_wp2
      go_round
      case rel => exact ⟨k + 1, by omega, by go_num, by rw [X2.out, fnv_snoc, X1.out, fnv_u32 _ _ hlt1]⟩
      case measure => simp [intOf]; omega
    · have X2 := Lib.hid (show Tx.fnv s.data.toList = h by rw [← X1.out, List.take_of_length_le (by rw [size_len]; omega)])
      go_wp2
      go_loopw [3, 6, 21] (fun g x i wr => ∃ j : Nat, j ≤ 8 ∧ i = .int .i64 j ∧ g = .int .u32 (h / 16 ^ j : Nat) ∧ wr = w.alloc (.cells (cellsJ j h) 43)) (fun _ _ i _ => 8 - (intOf i).toNat)
      case atStart => exact ⟨0, by omega, rfl, by simp, rfl⟩
      case round =>
        obtain ⟨j, hj, rfl, rfl, rfl⟩ := hrel
        have hg : h / 16 ^ j < 4294967296 := Nat.lt_of_le_of_lt (Nat.div_le_self _ _) hlt1
        generalize hgg : h / 16 ^ j = g at *
        generalize hdd : cellsJ j h = d at *
        have hds : d.size = 8 := by rw [← hdd, cellsJ_size _ _ hj]
        have X3 := Lib.hid hgg
        have X4 := Lib.hid hdd
        clear hgg hdd
        by_cases h8 : j < 8
        · have he : bits .and .u32 (g : Int) 15 = ((g % 16 : Nat) : Int) := by
            rw [show (15 : Int) = ((15 : Nat) : Int) from rfl, u32_and_nat _ _ hg (by decide), show (15 : Nat) = 2 ^ 4 - 1 from rfl, Nat.and_two_pow_sub_one_eq_mod]
          obtain ⟨x, hx⟩ : ∃ x, (w.alloc (.cells d 43)).cell? ⟨w.heap.size, 7 - j, none⟩ = some x := by
            refine ⟨d[7 - j]'(by omega), ?_⟩
            simp
          go_wp2
          go_roundw
          case rel => exact ⟨j + 1, by omega, by go_num, by rw [Nat.pow_succ, ← Nat.div_div_eq_div_mul, X3.out]; go_num, by rw [← cellsJ_succ j h h8, X3.out, X4.out, digs_val _ (Nat.mod_lt _ (by decide))]⟩
          case measure => simp [intOf]; omega
        · have e8 : j = 8 := by omega
          have hcv := run_convert_bytes_back (P := Tryd.prog) (w.alloc (.cells d 43)) 45 9 5 ⟨w.heap.size, 0, none⟩ 8 (Tx.hexN 8 h) Tryd.underlying45 Tryd.underlying5 Tryd.underlying9 (fun i hi => by
            rw [hexN_length] at hi
            have e := X4.out
            rw [e8] at e
            rw [← e]
            by_cases hi0 : i = 0
            · subst hi0; simp [Addr.add, cellsJ]; exact ⟨_, List.getElem?_eq_getElem (by rw [hexN_length]; exact hi), rfl⟩
            · simp [Addr.add, cellsJ, hi0]; exact ⟨_, List.getElem?_eq_getElem (by rw [hexN_length]; exact hi), rfl⟩)
          rw [hexN_length] at hcv
          go_wp2
          go_ret
          exact ⟨ret_str (by rw [Tx.idOf, X2.out]), (Below.refl _ _).alloc (Nat.le_refl _) _⟩
end Wb
end Go.Proofs.YtmanpggemmgnnaaDoor
