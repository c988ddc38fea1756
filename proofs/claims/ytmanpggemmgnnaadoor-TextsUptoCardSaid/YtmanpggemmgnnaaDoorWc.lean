/-
  WALKS: strconv.FormatInt at base 16 of a number below 256. Conditions: the library's table of trailing zeros holds what its text lays at one place; the heap is not empty there.
-/
import Derived.Test.YtmanpggemmgnnaaDoorNum
import Derived.Test.YtmanpggemmgnnaaDoorBa
import Derived.Test.YtmanpggemmgnnaaDoorShelf
import Derived.WalkKit
import Derived.WalkLawsBesides
import Derived.WalkSpells
import Derived.Lib.Hide
import Derived.Deep.QuietTactic
import Derived.BigQuiet
namespace Go.Proofs.YtmanpggemmgnnaaDoor
open Go Go.RowKit Ba Num
namespace Wc
set_option maxHeartbeats 400000 in
theorem tz16 (w : World) (hc : w.cell? ⟨3, 15, none⟩ = some (.int .u8 4)) :
    Calls Tryd.prog 47 #[.int .u64 16] w fun e w' => e = .returned (.int .i64 4) ∧ w' = w := by
  have h1 : bits BinOp.and IntKind.u64 16 (IntKind.u64.wrap (-16)) = 16 := by decide
  have h2 : IntKind.u64.wrap 4573923408821661840 = 4573923408821661840 := by decide
  go_enter Tryd.func47, Tryd.ntmps47
  go_wp2
  go_ret
  exact ⟨rfl, rfl⟩
set_option maxHeartbeats 400000 in
theorem pow2 (w : World) :
    Calls Tryd.prog 46 #[.int .i64 16] w fun e w' => e = .returned (.bool true) ∧ w' = w := by
  go_enter Tryd.func46, Tryd.ntmps46
  go_wp2
  go_ret
  exact ⟨ret_bool (by decide), rfl⟩
theorem d36_at : ∀ d : Fin 16, (#[48, 49, 50, 51, 52, 53, 54, 55, 56, 57, 97, 98, 99, 100, 101, 102, 103, 104, 105, 106, 107, 108, 109, 110, 111, 112, 113, 114, 115, 116, 117, 118, 119, 120, 121, 122] : Array UInt8).toList[d.val]? = some (Tx.dig d.val) := by decide
theorem d36_val (d : Nat) (h : d < 16) (hb : d < ({ data := #[48, 49, 50, 51, 52, 53, 54, 55, 56, 57, 97, 98, 99, 100, 101, 102, 103, 104, 105, 106, 107, 108, 109, 110, 111, 112, 113, 114, 115, 116, 117, 118, 119, 120, 121, 122] } : ByteArray).size) : ({ data := #[48, 49, 50, 51, 52, 53, 54, 55, 56, 57, 97, 98, 99, 100, 101, 102, 103, 104, 105, 106, 107, 108, 109, 110, 111, 112, 113, 114, 115, 116, 117, 118, 119, 120, 121, 122] } : ByteArray)[d]'hb = Tx.dig d := by
  have e := d36_at ⟨d, h⟩
  rw [List.getElem?_eq_getElem (show d < 36 by omega)] at e
  exact Option.some.inj e
set_option maxRecDepth 100000 in
theorem zc92 : Tryd.zeroCells92.size = 65 := by decide
set_option maxHeartbeats 1000000 in
set_option maxRecDepth 100000 in
theorem fb_one (u : Nat) (w : World) (hu : u < 16) (hc : w.cell? ⟨3, 15, none⟩ = some (.int .u8 4)) (h3 : 3 < w.heap.size) :
    Calls Tryd.prog 35 #[.slice none 0 0, .int .u64 u, .int .i64 16, .bool false, .bool false] w fun e w' => e = .returned (.tuple #[.slice none 0 0, .string ⟨[Tx.dig u].toArray⟩]) ∧ Below w.heap.size w w' := by
  have hcv := run_convert_bytes_back (P := Tryd.prog) (w.alloc (.cells (Tryd.zeroCells92.setIfInBounds 64 (.int .u8 (({ data := #[48, 49, 50, 51, 52, 53, 54, 55, 56, 57, 97, 98, 99, 100, 101, 102, 103, 104, 105, 106, 107, 108, 109, 110, 111, 112, 113, 114, 115, 116, 117, 118, 119, 120, 121, 122] } : ByteArray)[u]'(Nat.lt_of_lt_of_le hu (by decide))).toNat)) 92)) 45 9 5 ⟨w.heap.size, 64, none⟩ 1 [Tx.dig u] Tryd.underlying45 Tryd.underlying5 Tryd.underlying9 (fun i hi => by
    have hi' : i < 1 := hi
    obtain rfl : i = 0 := by omega
    rw [d36_val u hu]
    simp [Addr.add])
  rw [show [Tx.dig u].length = 1 from rfl] at hcv
  go_enter Tryd.func35, Tryd.ntmps35
  go_wp2_with (first | (go_at_call 46; refine (pow2 _).mono ?_; rintro e w' ⟨rfl, rfl⟩) | (go_at_call 47; refine (tz16 _ ?_).mono ?_))
  · rw [World.cell?_alloc_old _ _ _ (Nat.ne_of_lt h3)]; exact hc
  rintro e w' ⟨rfl, rfl⟩
  go_wp2
  go_loopw [1, 13] (fun x i wr => x = .int .u64 u ∧ i = .int .i64 65 ∧ wr = w.alloc (.cells Tryd.zeroCells92 92)) (fun _ _ _ => 0)
  case atStart => exact ⟨rfl, rfl, rfl⟩
  case round =>
    obtain ⟨rfl, rfl, rfl⟩ := hrel
    go_wp2
    go_ret2
    exact ⟨rfl, (Below.refl _ _).alloc (Nat.le_refl _) _⟩
set_option maxHeartbeats 1000000 in
set_option maxRecDepth 100000 in
theorem fb_two (u : Nat) (w : World) (hu : 16 ≤ u) (hu2 : u < 256) (hc : w.cell? ⟨3, 15, none⟩ = some (.int .u8 4)) (h3 : 3 < w.heap.size) :
    Calls Tryd.prog 35 #[.slice none 0 0, .int .u64 u, .int .i64 16, .bool false, .bool false] w fun e w' => e = .returned (.tuple #[.slice none 0 0, .string ⟨[Tx.dig (u / 16), Tx.dig (u % 16)].toArray⟩]) ∧ Below w.heap.size w w' := by
  have he : bits .and .u64 (u : Int) 15 = ((u % 16 : Nat) : Int) := by
    rw [show (15 : Int) = ((15 : Nat) : Int) from rfl, u64_and_nat _ _ (by omega) (by decide), show (15 : Nat) = 2 ^ 4 - 1 from rfl, Nat.and_two_pow_sub_one_eq_mod]
  have hm : u % 16 < 16 := Nat.mod_lt _ (by decide)
  have hd : u / 16 < 16 := by omega
  have hcv := run_convert_bytes_back (P := Tryd.prog) (w.alloc (.cells ((Tryd.zeroCells92.setIfInBounds 64 (.int .u8 (({ data := #[48, 49, 50, 51, 52, 53, 54, 55, 56, 57, 97, 98, 99, 100, 101, 102, 103, 104, 105, 106, 107, 108, 109, 110, 111, 112, 113, 114, 115, 116, 117, 118, 119, 120, 121, 122] } : ByteArray)[u % 16]'(Nat.lt_of_lt_of_le hm (by decide))).toNat)).setIfInBounds 63 (.int .u8 (({ data := #[48, 49, 50, 51, 52, 53, 54, 55, 56, 57, 97, 98, 99, 100, 101, 102, 103, 104, 105, 106, 107, 108, 109, 110, 111, 112, 113, 114, 115, 116, 117, 118, 119, 120, 121, 122] } : ByteArray)[u / 16]'(Nat.lt_of_lt_of_le hd (by decide))).toNat)) 92)) 45 9 5 ⟨w.heap.size, 63, none⟩ 2 [Tx.dig (u / 16), Tx.dig (u % 16)] Tryd.underlying45 Tryd.underlying5 Tryd.underlying9 (fun i hi => by
    have hi' : i < 2 := hi
    rw [d36_val _ hm, d36_val _ hd]
    match i, hi' with
    | 0, _ => simp [Addr.add]
    | 1, _ => simp [Addr.add])
  rw [show [Tx.dig (u / 16), Tx.dig (u % 16)].length = 2 from rfl] at hcv
  go_enter Tryd.func35, Tryd.ntmps35
  go_wp2_with (first | (go_at_call 46; refine (pow2 _).mono ?_; rintro e w' ⟨rfl, rfl⟩) | (go_at_call 47; refine (tz16 _ ?_).mono ?_))
  · rw [World.cell?_alloc_old _ _ _ (Nat.ne_of_lt h3)]; exact hc
  rintro e w' ⟨rfl, rfl⟩
  go_wp2
  go_loopw [1, 13] (fun x i wr => (x = .int .u64 u ∧ i = .int .i64 65 ∧ wr = w.alloc (.cells Tryd.zeroCells92 92)) ∨ (x = .int .u64 (u / 16 : Nat) ∧ i = .int .i64 64 ∧ wr = w.alloc (.cells (Tryd.zeroCells92.setIfInBounds 64 (.int .u8 (({ data := #[48, 49, 50, 51, 52, 53, 54, 55, 56, 57, 97, 98, 99, 100, 101, 102, 103, 104, 105, 106, 107, 108, 109, 110, 111, 112, 113, 114, 115, 116, 117, 118, 119, 120, 121, 122] } : ByteArray)[u % 16]'(Nat.lt_of_lt_of_le hm (by decide))).toNat)) 92))) (fun _ i _ => (intOf i).toNat)
  case atStart => exact .inl ⟨rfl, rfl, rfl⟩
  case round =>
    rcases hrel with ⟨rfl, rfl, rfl⟩ | ⟨rfl, rfl, rfl⟩
    · go_wp2
      go_roundw
      case rel => exact .inr ⟨by go_num, rfl, trivial⟩
      case measure => decide
    · go_wp2
      go_ret2
      exact ⟨rfl, (Below.refl _ _).alloc (Nat.le_refl _) _⟩
set_option maxHeartbeats 1000000 in
theorem formatInt16 (u : Nat) (w : World) (hu : u < 256) (hc : w.cell? ⟨3, 15, none⟩ = some (.int .u8 4)) (h3 : 3 < w.heap.size) :
    Calls Tryd.prog 15 #[.int .i64 u, .int .i64 16] w fun e w' => e = .returned (.string ⟨(if u < 16 then [Tx.dig u] else [Tx.dig (u / 16), Tx.dig (u % 16)]).toArray⟩) ∧ Below w.heap.size w w' := by
  by_cases h : u < 16
  · rw [if_pos h]
    have C := Lib.hid (fb_one u w h hc h3)
    clear hc
    go_enter Tryd.func15, Tryd.ntmps15
    go_wp2_with (first | (go_at_call 35; refine C.out.mono ?_; rintro e w' ⟨rfl, hb⟩) | (go_at_call 22; go_in))
    go_ret
    exact ⟨rfl, hb⟩
  · rw [if_neg h]
    have C := Lib.hid (fb_two u w (by omega) hu hc h3)
    clear hc
    go_enter Tryd.func15, Tryd.ntmps15
    go_wp2_with (first | (go_at_call 35; refine C.out.mono ?_; rintro e w' ⟨rfl, hb⟩) | (go_at_call 22; go_in))
    go_ret
    exact ⟨rfl, hb⟩
end Wc
end Go.Proofs.YtmanpggemmgnnaaDoor
