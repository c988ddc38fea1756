/-
  WALKS: the program's Packet computes what the plain function Tx.packet says. Conditions: the text's length fits Go's int; the library's table of trailing zeros holds what its text lays at one place.
-/
import Derived.Test.YtmanpggemmgnnaaDoorWc
namespace Go.Proofs.YtmanpggemmgnnaaDoor
open Go Go.RowKit Ba Num
namespace Wd
theorem dig0 : Tx.dig 0 = 48 := by decide
theorem hex4_one (n : Nat) (h : n < 16) : Tx.hexN 4 n = [48, 48, 48, Tx.dig n] := by
  simp only [Tx.hexN, List.nil_append, List.cons_append]
  rw [show n / 16 / 16 / 16 % 16 = 0 by omega, show n / 16 / 16 % 16 = 0 by omega, show n / 16 % 16 = 0 by omega, show n % 16 = n by omega, dig0]
theorem hex4_two (n : Nat) (h : n < 256) : Tx.hexN 4 n = [48, 48, Tx.dig (n / 16), Tx.dig (n % 16)] := by
  simp only [Tx.hexN, List.nil_append, List.cons_append]
  rw [show n / 16 / 16 / 16 % 16 = 0 by omega, show n / 16 / 16 % 16 = 0 by omega, show n / 16 % 16 = n / 16 by omega, dig0]
theorem rep3 (w : World) : Calls Tryd.prog 16 #[.string ⟨#[48]⟩, .int .i64 3] w fun e w' => e = .returned (.string ⟨#[48, 48, 48]⟩) ∧ Below w.heap.size w w' :=
  Tryd.strings_Repeat_main ⟨#[48]⟩ 3 w (by decide) (by decide) (by decide) (by decide)
theorem rep2 (w : World) : Calls Tryd.prog 16 #[.string ⟨#[48]⟩, .int .i64 2] w fun e w' => e = .returned (.string ⟨#[48, 48]⟩) ∧ Below w.heap.size w w' :=
  Tryd.strings_Repeat_main ⟨#[48]⟩ 2 w (by decide) (by decide) (by decide) (by decide)
set_option maxHeartbeats 1000000 in
theorem packet_any (s : ByteArray) (w : World) (hs : s.size ≤ maxLen) (hc : w.cell? ⟨3, 15, none⟩ = some (.int .u8 4)) (h3 : 3 < w.heap.size) :
    Calls Tryd.prog 12 #[.string s] w fun e w' => e = .returned (.string ⟨(Tx.packet s.data.toList).toArray⟩) ∧ Below w.heap.size w w' := by
  unfold maxLen at hs
  by_cases h0 : s.size = 0 ∨ 200 < s.size
  · have X0 := Lib.hid (show Tx.packet s.data.toList = [] by unfold Tx.packet; rw [size_len, if_pos h0])
    clear hc
    by_cases hz : s.size = 0
    · have t1 : ((s.size : Int) == 0) = true := by rw [hz]; rfl
      clear h0 hz
      go_enter Tryd.func12, Tryd.ntmps12
      go_wp2
      go_ret
      exact ⟨ret_str (by rw [X0.out]), Below.refl _ _⟩
    · have t1 : ((s.size : Int) == 0) = false := by rw [beq_eq_false_iff_ne]; omega
      have h2 : 200 < s.size := by omega
      clear h0 hz
      go_enter Tryd.func12, Tryd.ntmps12
      go_wp2
      go_ret
      exact ⟨ret_str (by rw [X0.out]), Below.refl _ _⟩
  · have X0 := Lib.hid (show Tx.packet s.data.toList = Tx.hexN 4 (s.size + 4) ++ s.data.toList by unfold Tx.packet; rw [size_len, if_neg h0])
    have t1 : ((s.size : Int) == 0) = false := by rw [beq_eq_false_iff_ne]; omega
    have h2 : s.size ≤ 200 := by omega
    clear h0
    have C := Lib.hid (Wc.formatInt16 (s.size + 4) w (by omega) hc h3)
    clear hc
    by_cases h16 : s.size + 4 < 16
    · rw [if_pos h16] at C
      go_enter Tryd.func12, Tryd.ntmps12
      go_wp2_with (first
        | (go_at_call 15; refine C.out.mono ?_; rintro e w1 ⟨rfl, hb1⟩)
        | (go_at_call 16; refine (rep3 _).mono ?_; rintro e w2 ⟨rfl, hb2⟩))
      go_ret
      exact ⟨ret_str (by rw [X0.out, hex4_one _ h16, app_eq, app_eq]; rfl), hb1.trans (hb2.mono hb1.size)⟩
    · rw [if_neg h16] at C
      go_enter Tryd.func12, Tryd.ntmps12
      go_wp2_with (first
        | (go_at_call 15; refine C.out.mono ?_; rintro e w1 ⟨rfl, hb1⟩)
        | (go_at_call 16; refine (rep2 _).mono ?_; rintro e w2 ⟨rfl, hb2⟩))
      go_ret
      exact ⟨ret_str (by rw [X0.out, hex4_two _ (by omega), app_eq, app_eq]; rfl), hb1.trans (hb2.mono hb1.size)⟩
end Wd
end Go.Proofs.YtmanpggemmgnnaaDoor
