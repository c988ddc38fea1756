/-
  WALKS: the reference's small functions of texts (hex, name, line, cut, id) compute what the plain functions of Tx say. Condition: the text's length fits Go's int.
-/
import Derived.Test.YtmanpggemmgnnaaDoorNum
import Derived.Test.YtmanpggemmgnnaaDoorBa
import Derived.Test.YtmanpggemmgnnaaDoorProg
import Derived.WalkKit
import Derived.WalkLawsBesides
import Derived.WalkSpells
import Derived.Lib.Hide
import Derived.Deep.QuietTactic
import Derived.BigQuiet
namespace Go.Proofs.YtmanpggemmgnnaaDoor
open Go Go.RowKit Ba Num
namespace Wa
set_option maxHeartbeats 400000 in
theorem hex_any (s : ByteArray) (w : World) (hs : s.size ≤ maxLen) :
    Calls Tryd.prog 42 #[.string s] w fun e w' => e = .returned (.bool (Tx.hex s.data.toList)) ∧ w' = w := by
  unfold maxLen at hs
  go_enter Tryd.func42, Tryd.ntmps42
  go_wp2
  go_loop [3] (fun i => ∃ k : Nat, k ≤ s.size ∧ i = .int .i64 k ∧ (s.data.toList.take k).all Tx.isHexB = true) (fun i => s.size - (intOf i).toNat)
  case atStart => exact ⟨0, Nat.zero_le _, rfl, rfl⟩
  case round =>
    obtain ⟨k, hk, rfl, hx⟩ := hrel
    by_cases hlt : k < s.size
    · have hl : k < s.data.toList.length := by simpa using hlt
      have X1 := Lib.hid (fun (h2 : Tx.isHexB s[k] = true) => Tx.take_succ_all (p := Tx.isHexB) hl hx h2)
      have X2 := Lib.hid (fun (h2 : Tx.isHexB s[k] = false) => Tx.all_false (p := Tx.isHexB) hl h2)
      clear hx
      go_wp2
      all_goals first
        | (go_round
           case rel => exact ⟨k + 1, by omega, by go_num, X1.out (Tx.isHexB_yes (by omega))⟩
           case measure => simp [intOf]; omega)
        | (go_ret; exact ⟨ret_bool (X2.out (Tx.isHexB_no (by omega))).symm, rfl⟩)
    · go_wp2
      go_ret
      exact ⟨ret_bool (by rw [List.take_of_length_le (by simp; omega)] at hx; exact hx.symm), rfl⟩
set_option maxHeartbeats 400000 in
theorem name_any (s : ByteArray) (w : World) (hs : s.size ≤ maxLen) :
    Calls Tryd.prog 30 #[.string s] w fun e w' => e = .returned (.bool (Tx.nameOk s.data.toList)) ∧ w' = w := by
  unfold maxLen at hs
  go_enter Tryd.func30, Tryd.ntmps30
  go_wp2
  go_loop [3] (fun i => ∃ k : Nat, k ≤ s.size ∧ i = .int .i64 k ∧ (s.data.toList.take k).all Tx.isLow = true) (fun i => s.size - (intOf i).toNat)
  case atStart => exact ⟨0, Nat.zero_le _, rfl, rfl⟩
  case round =>
    obtain ⟨k, hk, rfl, hx⟩ := hrel
    by_cases hlt : k < s.size
    · have hl : k < s.data.toList.length := by simpa using hlt
      have X1 := Lib.hid (fun (h2 : Tx.isLow s[k] = true) => Tx.take_succ_all (p := Tx.isLow) hl hx h2)
      have X2 := Lib.hid (fun (h2 : Tx.isLow s[k] = false) => Tx.all_false (p := Tx.isLow) hl h2)
      clear hx
      go_wp2
      all_goals first
        | (go_round
           case rel => exact ⟨k + 1, by omega, by go_num, X1.out (Tx.isLow_yes (by omega))⟩
           case measure => simp [intOf]; omega)
        | (go_ret; exact ⟨ret_bool (by rw [Tx.nameOk, X2.out (Tx.isLow_no (by omega))]; rfl), rfl⟩)
    · have X1 := Lib.hid hx
      clear hx
      go_wp2
      all_goals (go_ret; exact ⟨ret_bool (by have hx := X1.out; rw [List.take_of_length_le (by simp; omega)] at hx; rw [Tx.nameOk, hx]; simp only [size_len, Bool.true_and]; rw [Bool.eq_iff_iff]; simp; omega), rfl⟩)
set_option maxHeartbeats 400000 in
theorem line_any (s : ByteArray) (n : Int) (w : World) (hs : s.size ≤ maxLen) (hn : 0 ≤ n) :
    Calls Tryd.prog 19 #[.string s, .int .i64 n] w fun e w' => e = .returned (.bool (Tx.line s.data.toList n.toNat)) ∧ w' = w := by
  unfold maxLen at hs
  go_enter Tryd.func19, Tryd.ntmps19
  go_wp2
  go_loop [5] (fun i => ∃ k : Nat, k ≤ s.size ∧ i = .int .i64 k ∧ (s.data.toList.take k).all (· != 10) = true) (fun i => s.size - (intOf i).toNat)
  case atStart => exact ⟨0, Nat.zero_le _, rfl, rfl⟩
  case round =>
    obtain ⟨k, hk, rfl, hx⟩ := hrel
    by_cases hlt : k < s.size
    · have hl : k < s.data.toList.length := by simpa using hlt
      have X1 := Lib.hid (fun (h2 : (s[k] != 10) = true) => Tx.take_succ_all (p := (· != 10)) hl hx h2)
      have X2 := Lib.hid (fun (h2 : (s[k] != 10) = false) => Tx.all_false (p := (· != 10)) hl h2)
      clear hx
      by_cases hc : s[k] = 10
      · have t1 : ((s[k].toNat : Int) == 10) = true := by rw [hc]; rfl
        have X3 := Lib.hid hc
        clear hc
        go_wp2
        go_ret
        exact ⟨ret_bool (by rw [Tx.line, X2.out (by rw [X3.out]; rfl)]; rfl), rfl⟩
      · have t1 : ((s[k].toNat : Int) == 10) = false := by
          rw [beq_eq_false_iff_ne]; intro h; exact hc (UInt8.toNat_inj.1 (by simpa using (by omega : s[k].toNat = 10)))
        have X3 := Lib.hid hc
        clear hc
        go_wp2
        go_round
        case rel => exact ⟨k + 1, by omega, by go_num, X1.out (by simpa using X3.out)⟩
        case measure => simp [intOf]; omega
    · have X1 := Lib.hid hx
      clear hx
      go_wp2
      all_goals (go_ret; exact ⟨ret_bool (by have hx := X1.out; rw [List.take_of_length_le (by simp; omega)] at hx; rw [Tx.line, hx]; simp only [size_len, Bool.true_and]; rw [Bool.eq_iff_iff]; simp; omega), rfl⟩)
set_option maxHeartbeats 400000 in
theorem cut_any (s : ByteArray) (c : UInt8) (w : World) (hs : s.size ≤ maxLen) :
    Calls Tryd.prog 18 #[.string s, .int .u8 c.toNat] w fun e w' =>
      e = .returned (.tuple #[.string ⟨(Tx.cut c s.data.toList).1.toArray⟩, .string ⟨(Tx.cut c s.data.toList).2.1.toArray⟩, .bool (Tx.cut c s.data.toList).2.2]) ∧ ∃ n, w' = w.drewN n := by
  unfold maxLen at hs
  go_enter Tryd.func18, Tryd.ntmps18
  go_wp2
  go_loop [7] (fun i => ∃ k : Nat, k ≤ s.size ∧ i = .int .i64 k ∧ ∀ j (hj : j < k) (hs : j < s.size), s[j] ≠ c) (fun i => s.size - (intOf i).toNat)
  case atStart => exact ⟨0, Nat.zero_le _, rfl, fun j hj => absurd hj (by omega)⟩
  case round =>
    obtain ⟨k, hk, rfl, hx⟩ := hrel
    have X1 := Lib.hid hx
    clear hx
    by_cases hlt : k < s.size
    · by_cases hc : s[k] = c
      · have t1 : ((s[k].toNat : Int) == (c.toNat : Int)) = true := by rw [hc]; simp
        have X3 := Lib.hid (Tx.cut_at (c := c) (l := s.data.toList) (k := k) (by simpa using hlt) (fun j hj => X1.out j hj (by omega)) hc)
        clear hc
        go_wp2
        go_quiet (fail)
        go_wp2
        go_ret3
        exact ⟨ret_ssb (by rw [X3.out, ext_data]; rfl) (by rw [X3.out, ext_data]; exact List.take_of_length_le (by rw [List.length_drop, size_len]; omega)) (by rw [X3.out]), _, rfl⟩
      · have t1 : ((s[k].toNat : Int) == (c.toNat : Int)) = false := by
          rw [beq_eq_false_iff_ne]; intro h; exact hc (UInt8.toNat_inj.1 (by omega))
        have X3 := Lib.hid hc
        clear hc
        go_wp2
        go_round
        case rel => exact ⟨k + 1, by omega, by go_num, fun j hj hs => by
          by_cases e : j = k
          · subst e; exact X3.out
          · exact X1.out j (by omega) hs⟩
        case measure => simp [intOf]; omega
    · have X3 := Lib.hid (Tx.cut_none (c := c) (l := s.data.toList) (fun j hj => X1.out j (by rw [size_len] at hj; omega) hj))
      go_wp2
      go_ret3
      exact ⟨ret_ssb (by rw [X3.out]) (by rw [X3.out]) (by rw [X3.out]), 0, rfl⟩
set_option maxHeartbeats 400000 in
theorem id_any (s : ByteArray) (w : World) (hs : s.size ≤ maxLen) :
    Calls Tryd.prog 31 #[.string s] w fun e w' => e = .returned (.bool (Tx.idd s.data.toList)) ∧ w' = w := by
  unfold maxLen at hs
  have hx : ∃ b, Tx.hex s.data.toList = b := ⟨_, rfl⟩
  obtain ⟨b, hx⟩ := hx
  have X1 := Lib.hid hx
  have C := Lib.hid (hex_any s w hs)
  rw [hx] at C
  clear hx
  go_enter Tryd.func31, Tryd.ntmps31
  cases b
  · go_wp2_with (go_at_call 42; refine C.out.mono ?_; rintro e w' ⟨rfl, rfl⟩)
    go_ret
    exact ⟨ret_bool (by rw [Tx.idd, X1.out]; rfl), rfl⟩
  · by_cases h8 : s.size = 8
    · have t1 : ((s.size : Int) == 8) = true := by rw [h8]; rfl
      have X2 := Lib.hid h8
      clear h8
      go_wp2_with (go_at_call 42; refine C.out.mono ?_; rintro e w' ⟨rfl, rfl⟩)
      go_ret
      exact ⟨ret_bool (by rw [Tx.idd, X1.out, size_len, X2.out, ByteArray.toList_eq]; rfl), rfl⟩
    · have t1 : ((s.size : Int) == 8) = false := by rw [beq_eq_false_iff_ne]; omega
      have X2 := Lib.hid h8
      clear h8
      go_wp2_with (go_at_call 42; refine C.out.mono ?_; rintro e w' ⟨rfl, rfl⟩)
      go_ret
      exact ⟨ret_bool (by rw [Tx.idd, X1.out, size_len]; simp [X2.out]), rfl⟩
set_option maxHeartbeats 400000 in
theorem refID_any (s : ByteArray) (w : World) (hs : s.size ≤ maxLen) :
    Calls Tryd.prog 6 #[.string s] w fun e w' => e = .returned (.string ⟨(Tx.idOf s.data.toList).toArray⟩) ∧ w' = w := by
  unfold maxLen at hs
  go_enter Tryd.func6, Tryd.ntmps6
  go_wp2
  go_loop [3, 4] (fun h i => ∃ k : Nat, k ≤ s.size ∧ i = .int .i64 k ∧ h = .int .i64 (Tx.fnv (s.data.toList.take k) : Nat)) (fun _ i => s.size - (intOf i).toNat)
  case atStart => exact ⟨0, Nat.zero_le _, rfl, by simp [Tx.fnv]⟩
  case round =>
    obtain ⟨k, hk, rfl, rfl⟩ := hrel
    have hlt1 := fnv_lt (s.data.toList.take k)
    generalize hh : Tx.fnv (s.data.toList.take k) = h at *
    have X1 := Lib.hid hh
    clear hh
    by_cases hlt : k < s.size
    · have X2 := Lib.hid (take_snoc s k hlt)
      go_wp2
      go_round
      case rel => exact ⟨k + 1, by omega, by go_num, by rw [X2.out, fnv_snoc, X1.out, fnv_int _ _ hlt1]⟩
      case measure => simp [intOf]; omega
    · have X2 := Lib.hid (show Tx.fnv s.data.toList = h by rw [← X1.out, List.take_of_length_le (by rw [size_len]; omega)])
      go_wp2
      go_loop [3, 5, 6] (fun g d i => ∃ j : Nat, j ≤ 8 ∧ i = .int .i64 j ∧ d = .string ⟨(Tx.hexN j h).toArray⟩ ∧ g = .int .i64 (h / 16 ^ j : Nat)) (fun _ _ i => 8 - (intOf i).toNat)
      case atStart => exact ⟨0, by omega, rfl, rfl, by simp⟩
      case round =>
        obtain ⟨j, hj, rfl, rfl, rfl⟩ := hrel
        have hg : h / 16 ^ j < 4294967296 := Nat.lt_of_le_of_lt (Nat.div_le_self _ _) hlt1
        generalize hgg : h / 16 ^ j = g at *
        generalize hdd : Tx.hexN j h = d at *
        have hdl : d.length ≤ 8 := by rw [← hdd, hexN_length]; exact hj
        have X3 := Lib.hid hgg
        have X4 := Lib.hid hdd
        clear hgg hdd
        by_cases h8 : j < 8
        · go_wp2
          go_round
          case rel => exact ⟨j + 1, by omega, by go_num, by rw [hexN_succ, X4.out, X3.out, digs_cat]; exact Nat.mod_lt _ (by decide), by rw [Nat.pow_succ, ← Nat.div_div_eq_div_mul, X3.out]; go_num⟩
          case measure => simp [intOf]; omega
        · go_wp2
          go_ret
          exact ⟨ret_str (by rw [← X4.out, Tx.idOf, X2.out, show j = 8 by omega]), rfl⟩
set_option maxHeartbeats 400000 in
theorem refPacket_any (s : ByteArray) (w : World) (hs : s.size ≤ maxLen) :
    Calls Tryd.prog 8 #[.string s] w fun e w' => e = .returned (.string ⟨(Tx.packet s.data.toList).toArray⟩) ∧ w' = w := by
  unfold maxLen at hs
  by_cases h0 : s.size = 0 ∨ 200 < s.size
  · have X0 := Lib.hid (show Tx.packet s.data.toList = [] by unfold Tx.packet; rw [size_len, if_pos h0])
    by_cases hz : s.size = 0
    · have t1 : ((s.size : Int) == 0) = true := by rw [hz]; rfl
      clear h0 hz
      go_enter Tryd.func8, Tryd.ntmps8
      go_wp2
      go_ret
      exact ⟨ret_str (by rw [X0.out]), rfl⟩
    · have t1 : ((s.size : Int) == 0) = false := by rw [beq_eq_false_iff_ne]; omega
      have h2 : 200 < s.size := by omega
      clear h0 hz
      go_enter Tryd.func8, Tryd.ntmps8
      go_wp2
      go_ret
      exact ⟨ret_str (by rw [X0.out]), rfl⟩
  · have X0 := Lib.hid (show Tx.packet s.data.toList = Tx.hexN 4 (s.size + 4) ++ s.data.toList by unfold Tx.packet; rw [size_len, if_neg h0])
    have t1 : ((s.size : Int) == 0) = false := by rw [beq_eq_false_iff_ne]; omega
    have h2 : s.size ≤ 200 := by omega
    clear h0
    go_enter Tryd.func8, Tryd.ntmps8
    go_wp2
    go_loop [3, 4, 5] (fun g d i => ∃ j : Nat, j ≤ 4 ∧ i = .int .i64 j ∧ d = .string ⟨(Tx.hexN j (s.size + 4)).toArray⟩ ∧ g = .int .i64 ((s.size + 4) / 16 ^ j : Nat)) (fun _ _ i => 4 - (intOf i).toNat)
    case atStart => exact ⟨0, by omega, rfl, rfl, by simp⟩
    case round =>
      obtain ⟨j, hj, rfl, rfl, rfl⟩ := hrel
      have hg : (s.size + 4) / 16 ^ j ≤ 204 := Nat.le_trans (Nat.div_le_self _ _) (by omega)
      generalize hgg : (s.size + 4) / 16 ^ j = g at *
      generalize hdd : Tx.hexN j (s.size + 4) = d at *
      have hdl : d.length ≤ 4 := by rw [← hdd, hexN_length]; exact hj
      have X3 := Lib.hid hgg
      have X4 := Lib.hid hdd
      clear hgg hdd
      by_cases h8 : j < 4
      · go_wp2
        go_round
        case rel => exact ⟨j + 1, by omega, by go_num, by rw [hexN_succ, X4.out, X3.out, digs_cat]; exact Nat.mod_lt _ (by decide), by rw [Nat.pow_succ, ← Nat.div_div_eq_div_mul, X3.out]; go_num⟩
        case measure => simp [intOf]; omega
      · go_wp2
        go_ret
        exact ⟨ret_str (by have e4 := X4.out; rw [show j = 4 by omega] at e4; rw [X0.out, e4, app_eq]), rfl⟩
end Wa
end Go.Proofs.YtmanpggemmgnnaaDoor
