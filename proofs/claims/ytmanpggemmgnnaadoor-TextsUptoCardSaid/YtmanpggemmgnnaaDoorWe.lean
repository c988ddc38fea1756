/-
  WALKS: the program's Hex and right compute what the plain functions Tx.hex and Tx.idd say. Condition: the text's length fits Go's int.
-/
import Derived.Test.YtmanpggemmgnnaaDoorNum
import Derived.Test.YtmanpggemmgnnaaDoorBa
import Derived.Test.YtmanpggemmgnnaaDoorLib
import Derived.Test.YtmanpggemmgnnaaDoorShelf
import Derived.Shelf.Strings.SlTrimAscii
import Derived.WalkKit
import Derived.WalkLawsBesides
import Derived.WalkSpells
import Derived.Lib.Hide
import Derived.Deep.QuietTactic
import Derived.BigQuiet
namespace Go.Proofs.YtmanpggemmgnnaaDoor
open Go Go.RowKit Go.Shelf Ba Num
namespace We
theorem bcell {W w1 : World} (hb : Below W.heap.size W w1) : (∀ b o, b < W.heap.size → w1.cell? ⟨b, o, none⟩ = W.cell? ⟨b, o, none⟩) ∧ (∀ b o, b < W.heap.size → w1.frozen? ⟨b, o, none⟩ = W.frozen? ⟨b, o, none⟩) :=
  ⟨fun b o h => hb.cell (p := ⟨b, o, none⟩) h, fun b o h => hb.frozen (p := ⟨b, o, none⟩) h⟩
set_option maxHeartbeats 1000000 in
theorem Hex_any (s : ByteArray) (w : World) (hs : s.size ≤ maxLen) :
    Calls Tryd.prog 99 #[.string s] w fun e w' => e = .returned (.bool (Tx.hex s.data.toList)) ∧ Below w.heap.size w w' := by
  have C := Any.strings_Trim_laid Tryd.lays160 (by kernel_rfl) s ⟨#[48, 49, 50, 51, 52, 53, 54, 55, 56, 57, 97, 98, 99, 100, 101, 102]⟩ w (by unfold maxLen at hs; exact hs) (by decide) (ascii_of_all (by decide))
  change Calls Tryd.prog 82 _ _ (fun e w' => e = .returned (.string ⟨(Lib.trimS s.data.toList [48, 49, 50, 51, 52, 53, 54, 55, 56, 57, 97, 98, 99, 100, 101, 102]).toArray⟩) ∧ Below w.heap.size w w') at C
  have T := Lx.trim_hex s.data.toList
  generalize Lib.trimS s.data.toList [48, 49, 50, 51, 52, 53, 54, 55, 56, 57, 97, 98, 99, 100, 101, 102] = r at C T
  have C := Lib.hid C
  have T := Lib.hid T
  go_enter Tryd.func99, Tryd.ntmps99
  go_wp2_with (go_at_call 82; refine C.out.mono ?_; rintro e w' ⟨rfl, hB⟩)
  go_ret
  exact ⟨ret_bool (by rw [Bool.eq_iff_iff, List.isEmpty_iff]; exact T.out), hB⟩
set_option maxHeartbeats 1000000 in
theorem right_any (s : ByteArray) (w : World) (hs : s.size ≤ maxLen) :
    Calls Tryd.prog 92 #[.string s] w fun e w' => e = .returned (.bool (Tx.idd s.data.toList)) ∧ Below w.heap.size w w' := by
  have C := Lib.hid (Hex_any s w hs)
  unfold maxLen at hs
  by_cases h8 : s.size = 8
  · have t1 : ((s.size : Int) == 8) = true := by rw [h8]; rfl
    have X2 := Lib.hid h8
    clear h8
    by_cases hz : s.toList = [48, 48, 48, 48, 48, 48, 48, 48]
    · have t2 : (s.toList == [48, 48, 48, 48, 48, 48, 48, 48]) = true := beq_iff_eq.2 hz
      have X3 := Lib.hid hz
      clear hz
      go_enter Tryd.func92, Tryd.ntmps92
      go_wp2_with (go_at_call 99; refine C.out.mono ?_; rintro e w' ⟨rfl, hB⟩)
      go_ret
      exact ⟨ret_bool (by have e := X3.out; rw [ByteArray.toList_eq] at e; rw [Tx.idd, e]; rfl), Below.refl _ _⟩
    · have t2 : (s.toList == [48, 48, 48, 48, 48, 48, 48, 48]) = false := beq_eq_false_iff_ne.2 hz
      have X3 := Lib.hid hz
      clear hz
      go_enter Tryd.func92, Tryd.ntmps92
      go_wp2_with (go_at_call 99; refine C.out.mono ?_; rintro e w' ⟨rfl, hB⟩)
      go_ret
      exact ⟨ret_bool (by have e := X3.out; rw [ByteArray.toList_eq] at e; rw [Tx.idd, size_len, X2.out]; simp [Tx.zero8, e]), hB⟩
  · have t1 : ((s.size : Int) == 8) = false := by rw [beq_eq_false_iff_ne]; omega
    have X2 := Lib.hid h8
    clear h8
    go_enter Tryd.func92, Tryd.ntmps92
    go_wp2_with (go_at_call 99; refine C.out.mono ?_; rintro e w' ⟨rfl, hB⟩)
    go_ret
    exact ⟨ret_bool (by rw [Tx.idd, size_len]; simp [X2.out]), Below.refl _ _⟩
end We
end Go.Proofs.YtmanpggemmgnnaaDoor
