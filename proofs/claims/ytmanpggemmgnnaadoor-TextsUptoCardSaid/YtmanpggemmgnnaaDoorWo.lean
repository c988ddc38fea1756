/-
  WALK: the law Texts over a list of at most 1048576 orders, each of whose texts is shorter than 2^24 bytes: it answers true.
-/
import Derived.Test.YtmanpggemmgnnaaDoorWn
namespace Go.Proofs.YtmanpggemmgnnaaDoor
open Go Go.RowKit Go.Shelf Ba Num Fr
namespace Wo
open Wn
/-- The list of orders as the walk meets it: each kind is a number, each text is short. -/
structure Ops (w : World) (g off n : Nat) : Prop where
  kind : ∀ i, i < n → ∃ k : Int, w.cell? ⟨g, off + i * 4, none⟩ = some (.int .i64 k)
  text : ∀ i, i < n → ∃ s : ByteArray, w.cell? ⟨g, off + i * 4 + 3, none⟩ = some (.string s) ∧ s.size < 16777216
theorem Ops.below {w w' : World} {g off n : Nat} (h : Ops w g off n) (hg : g < w.heap.size) (hb : Below w.heap.size w w') : Ops w' g off n :=
  ⟨fun i hi => let ⟨k, hk⟩ := h.kind i hi; ⟨k, (hb.cell (p := ⟨g, _, none⟩) hg).trans hk⟩,
   fun i hi => let ⟨s, hs, h2⟩ := h.text i hi; ⟨s, (hb.cell (p := ⟨g, _, none⟩) hg).trans hs, h2⟩⟩
set_option maxHeartbeats 4000000 in
set_option maxRecDepth 100000 in
theorem law_nil (a : Option Addr) (c : Nat) (w : World) : Calls Tryd.prog 3 #[.slice a 0 c] w (Yes w) := by
  go_enter Tryd.func3, Tryd.ntmps3
  go_wp2
  go_loopw [3] (fun i wr => i = .int .i64 0 ∧ wr = w) (fun _ _ => 0)
  case atStart => exact ⟨rfl, rfl⟩
  case round =>
    obtain ⟨rfl, rfl⟩ := hrel
    go_wp2
    go_ret
    exact ⟨rfl, Below.refl _ _⟩
set_option maxHeartbeats 4000000 in
set_option maxRecDepth 100000 in
theorem law_some (w : World) (g off n cap : Nat) (hn : n ≤ 1048576) (hg : g < w.heap.size) (ho : Ops w g off n)
    (hc : w.cell? ⟨3, 15, none⟩ = some (.int .u8 4)) (h3 : 3 < w.heap.size) : Calls Tryd.prog 3 #[.slice (some ⟨g, off, none⟩) n cap] w (Yes w) := by
  have C := fun (s : ByteArray) (u : World) h1 h2 h3 => texts_all s u h1 h2 h3
  have C := Lib.hid C
  have ho := Lib.hid ho
  have hc := Lib.hid hc
  go_enter Tryd.func3, Tryd.ntmps3
  go_wp2
  go_loopw [3] (fun i wr => ∃ k : Nat, k ≤ n ∧ i = .int .i64 k ∧ Hid (Below w.heap.size w wr)) (fun i _ => n - (intOf i).toNat)
  case atStart => exact ⟨0, Nat.zero_le _, rfl, Lib.hid (Below.refl _ _)⟩
  case round =>
    obtain ⟨k, hk, rfl, hb⟩ := hrel
    by_cases hlt : k < n
    · obtain ⟨kd, hkd⟩ := (ho.out.below hg hb.out).kind k hlt
      obtain ⟨s, hs, hs2⟩ := (ho.out.below hg hb.out).text k hlt
      have h60 : ((k : Int) < 1152921504606846976) = True := eq_true (by omega)
      by_cases h1 : kd = 1
      · subst h1
        go_wp2_with fail
        refine (C.out s _ hs2 ((hb.out.cell (p := ⟨3, 15, none⟩) h3).trans hc.out) (Nat.lt_of_lt_of_le h3 hb.out.size)).mono ?_
        rintro e w5 ⟨rfl, hb5⟩
        have hb5 := Lib.hid (hb.out.trans (hb5.mono hb.out.size))
        go_wp2
        go_roundw
        case rel => exact ⟨k + 1, by omega, by go_num, hb5⟩
        case measure => simp [intOf]; omega
      · go_wp2
        exact ⟨⟨k + 1, by omega, by go_num, hb⟩, by simp [intOf]; omega⟩
    · go_wp2
      go_ret
      exact ⟨rfl, hb.out⟩
end Wo
end Go.Proofs.YtmanpggemmgnnaaDoor
