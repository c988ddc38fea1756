/-
  WALKS: the program's line, Blob.parse and name; strings.Cut and strings.Split at one byte, without a word on memory. Conditions: lengths fit Go's int; Split's text is shorter than 2^32 - 15 bytes; an object names fewer than 2^40 ids.
-/
import Derived.Test.YtmanpggemmgnnaaDoorWe
import Derived.Test.YtmanpggemmgnnaaDoorFr
import Derived.Maps.AppendAt
import Derived.Shelf.Strings.SplitCore
namespace Go.Proofs.YtmanpggemmgnnaaDoor
open Go Go.RowKit Go.Shelf Ba Num Fr
theorem Tryd.infoS : (Tryd.prog.info? 9).map (fun i => (i.zero, i.size, i.bytes)) = some (some (.string ByteArray.empty), 1, 16) := by kernel_rfl
namespace Wf
set_option maxHeartbeats 400000 in
/-- strings.Cut at one byte: the reads' order is drawn. -/
theorem cutL_any (s : ByteArray) (c : UInt8) (w : World) (hs : s.size ≤ maxLen) :
    Calls Tryd.prog 29 #[.string s, .string ⟨#[c]⟩] w fun e w' =>
      e = .returned (.tuple #[.string ⟨(Tx.cut c s.data.toList).1.toArray⟩, .string ⟨(Tx.cut c s.data.toList).2.1.toArray⟩, .bool (Tx.cut c s.data.toList).2.2]) ∧ ∃ n, w' = w.drewN n := by
  unfold maxLen at hs
  have C := Tryd.stringslite_Index_one s c w
  rcases Lx.idx_cases s.data.toList c with ⟨k, hk, he, hn, hi⟩ | ⟨hn, hi⟩
  · rw [hi] at C
    have C := Lib.hid C
    have hk' : k < s.size := hk
    have X3 := Lib.hid (Tx.cut_at (c := c) hk hn he)
    clear hi hn he hk
    go_enter Tryd.func29, Tryd.ntmps29
    go_wp2_with (go_at_call 41; refine C.out.mono ?_; rintro e w' ⟨rfl, rfl⟩)
    go_quiet (fail)
    go_wp2
    go_ret3
    exact ⟨ret_ssb (by rw [X3.out, ext_data]; rfl) (by rw [X3.out, ext_data]; exact List.take_of_length_le (by rw [List.length_drop, size_len]; omega)) (by rw [X3.out]), _, rfl⟩
  · rw [hi] at C
    have C := Lib.hid C
    have X3 := Lib.hid (Tx.cut_none (c := c) hn)
    clear hi hn
    go_enter Tryd.func29, Tryd.ntmps29
    go_wp2_with (go_at_call 41; refine C.out.mono ?_; rintro e w' ⟨rfl, rfl⟩)
    go_ret3
    exact ⟨ret_ssb (by rw [X3.out]) (by rw [X3.out]) (by rw [X3.out]), 0, rfl⟩
set_option maxHeartbeats 400000 in
theorem cut_any (s : ByteArray) (c : UInt8) (w : World) (hs : s.size ≤ maxLen) :
    Calls Tryd.prog 17 #[.string s, .string ⟨#[c]⟩] w fun e w' =>
      e = .returned (.tuple #[.string ⟨(Tx.cut c s.data.toList).1.toArray⟩, .string ⟨(Tx.cut c s.data.toList).2.1.toArray⟩, .bool (Tx.cut c s.data.toList).2.2]) ∧ ∃ n, w' = w.drewN n := by
  have C := Lib.hid (cutL_any s c w hs)
  go_enter Tryd.func17, Tryd.ntmps17
  go_wp2_with (go_at_call 29; refine C.out.mono ?_; rintro e w' ⟨rfl, hw⟩)
  go_ret3
  exact ⟨rfl, hw⟩
set_option maxHeartbeats 400000 in
/-- strings.Split at one byte: a new block of the pieces. -/
theorem split_any (s : ByteArray) (c : UInt8) (w : World) (hs : s.size < 4294967281) :
    Calls Tryd.prog 81 #[.string s, .string ⟨#[c]⟩] w fun e w' =>
      e = .returned (.slice (some ⟨w.heap.size, 0, none⟩) (Tx.split c s.data.toList).length (Tx.split c s.data.toList).length) ∧
      w' = w.alloc (.cells ((Tx.split c s.data.toList).map fun l => Value.string ⟨l.toArray⟩).toArray 9) := by
  have hcl : Lib.countB s ⟨#[c]⟩ ≤ s.size := Lib.countB_le ⟨#[c]⟩ (Nat.le_refl 1) s.size s (Nat.le_refl _)
  have C := Any.strings_genSplit_core Tryd.lays221 Tryd.infoS s ⟨#[c]⟩ 0 (-1) (Lib.countB s ⟨#[c]⟩ + 1) w hs (Nat.le_refl 1) (Nat.zero_le _)
    (fun x cs _ => by have h := Tryd.strings_Index_one x c (w.alloc (.cells cs 9)); rw [← Lib.index_one] at h; exact h)
    (by have h := Tryd.strings_Count_one s c w; rw [show Lib.countByte s.data.toList c = Lib.countB s ⟨#[c]⟩ from (Lib.count_one c _).symm] at h; exact h)
    (by decide) (by decide) (by rw [if_pos (by decide)]; omega)
  rw [Nat.add_sub_cancel, Lib.splitB_all ⟨#[c]⟩ (Nat.le_refl 1) 0 _ s rfl] at C
  have e2 : Lib.cellsOf (Lib.splitB ⟨#[c]⟩ 0 (Lib.countB s ⟨#[c]⟩) s) (Lib.countB s ⟨#[c]⟩ + 1) = ((Lib.splitB ⟨#[c]⟩ 0 (Lib.countB s ⟨#[c]⟩) s).map Value.string).toArray := by
    conv => lhs; rw [← Lib.splitB_all ⟨#[c]⟩ (Nat.le_refl 1) 0 _ s rfl]
    exact Lib.cellsOf_full _
  rw [e2, Lx.splitB_eq, Lx.split_length] at C
  change Calls Tryd.prog 84 #[.string s, .string ⟨#[c]⟩, .int .i64 0, .int .i64 (-1)] w (fun e w' => e = .returned (.slice (some ⟨w.heap.size, 0, none⟩) (Tx.split c s.data.toList).length (Tx.split c s.data.toList).length) ∧ w' = w.alloc (.cells ((Tx.split c s.data.toList).map fun l => Value.string ⟨l.toArray⟩).toArray 9)) at C
  have C := Lib.hid C
  go_enter Tryd.func81, Tryd.ntmps81
  go_wp2_with (go_at_call 84; refine C.out.mono ?_; rintro e w' ⟨rfl, rfl⟩)
  go_ret
  exact ⟨rfl, rfl⟩
set_option maxHeartbeats 1000000 in
theorem line_yes (s : ByteArray) (n : Int) (w : World) (hn : 0 ≤ n) (h : Tx.line s.data.toList n.toNat = true) :
    Calls Tryd.prog 77 #[.string s, .int .i64 n] w fun e w' => e = .returned .nilIface ∧ w' = w := by
  have h1 : (s.size : Int) ≤ n := by
    rw [Tx.line, Bool.and_eq_true] at h
    have := of_decide_eq_true h.2
    rw [size_len] at this; omega
  have C := Tryd.strings_Contains_one s 10 w
  rw [Lx.has_iff, show s.data.toList.all (· != 10) = true by rw [Tx.line, Bool.and_eq_true] at h; exact h.1] at C
  have C := Lib.hid C
  clear h
  go_enter Tryd.func77, Tryd.ntmps77
  go_wp2_with (go_at_call 78; refine C.out.mono ?_; rintro e w' ⟨rfl, rfl⟩)
  go_ret
  exact ⟨rfl, rfl⟩
set_option maxHeartbeats 1000000 in
theorem line_no (s : ByteArray) (n : Int) (w : World) (hn : 0 ≤ n) (h : Tx.line s.data.toList n.toNat = false) :
    Calls Tryd.prog 77 #[.string s, .int .i64 n] w fun e w' => (∃ a, e = .returned (.iface 50 (.pointer (some a)))) ∧ Below w.heap.size w w' := by
  by_cases h1 : (s.size : Int) ≤ n
  · have C := Tryd.strings_Contains_one s 10 w
    rw [Lx.has_iff, show s.data.toList.all (· != 10) = false by
      rw [Tx.line, size_len, show decide (s.size ≤ n.toNat) = true by simp; omega] at h; simpa using h] at C
    have C := Lib.hid C
    clear h
    go_enter Tryd.func77, Tryd.ntmps77
    go_wp2_with (go_at_call 78; refine C.out.mono ?_; rintro e w' ⟨rfl, rfl⟩)
    go_ret
    exact ⟨⟨_, rfl⟩, (Below.refl _ _).alloc (Nat.le_refl _) _⟩
  · clear h
    go_enter Tryd.func77, Tryd.ntmps77
    go_wp2
    go_ret
    exact ⟨⟨_, rfl⟩, (Below.refl _ _).alloc (Nat.le_refl _) _⟩
set_option maxHeartbeats 1000000 in
theorem blob_yes (b : Nat) (s : ByteArray) (w : World) (h : Tx.line s.data.toList 40 = true) :
    Calls Tryd.prog 76 #[.pointer (some ⟨b, 0, none⟩), .string s] w fun e w' => e = .returned .nilIface ∧ w' = w := by
  have C := Lib.hid (line_yes s 40 w (by decide) h)
  clear h
  go_enter Tryd.func76, Tryd.ntmps76
  go_wp2_with (go_at_call 77; refine C.out.mono ?_; rintro e w' ⟨rfl, rfl⟩)
  go_ret
  exact ⟨rfl, rfl⟩
set_option maxHeartbeats 1000000 in
theorem blob_no (b : Nat) (s : ByteArray) (w : World) (h : Tx.line s.data.toList 40 = false) :
    Calls Tryd.prog 76 #[.pointer (some ⟨b, 0, none⟩), .string s] w fun e w' => (∃ a, e = .returned (.iface 50 (.pointer (some a)))) ∧ Below w.heap.size w w' := by
  have C := Lib.hid (line_no s 40 w (by decide) h)
  clear h
  go_enter Tryd.func76, Tryd.ntmps76
  go_wp2_with (go_at_call 77; refine C.out.mono ?_; rintro e w' ⟨⟨a, rfl⟩, hb⟩)
  go_ret
  exact ⟨⟨_, rfl⟩, hb⟩
set_option maxHeartbeats 1000000 in
theorem name_no (b : Nat) (s : ByteArray) (w : World) (hs : s.size ≤ maxLen) (h : Tx.idd s.data.toList = false) :
    Calls Tryd.prog 83 #[.pointer (some ⟨b, 0, none⟩), .string s] w fun e w' => (∃ a, e = .returned (.iface 50 (.pointer (some a)))) ∧ Below w.heap.size w w' := by
  have C := We.right_any s w hs
  rw [h] at C
  have C := Lib.hid C
  clear h
  unfold maxLen at hs
  go_enter Tryd.func83, Tryd.ntmps83
  go_wp2_with (go_at_call 92; refine C.out.mono ?_; rintro e w' ⟨rfl, hb⟩)
  go_ret
  exact ⟨⟨_, rfl⟩, hb.alloc hb.size _⟩
set_option maxHeartbeats 1000000 in
theorem name_yes (b B n : Nat) (t : TypeId) (x v : Value) (xs : List Value) (s : ByteArray) (w : World) (hs : s.size ≤ maxLen) (h : Tx.idd s.data.toList = true)
    (h2 : Two w b t x v) (hown : w.ownsRow B 9 1 v n xs) (hv : ∀ k, v.ownBlock = some k → k ≠ b) (hn : n < 1099511627776) (hB : B ≤ w.heap.size) :
    Calls Tryd.prog 83 #[.pointer (some ⟨b, 0, none⟩), .string s] w fun e w' => e = .returned .nilIface ∧
      ∃ v', Two w' b t x v' ∧ w'.ownsRow B 9 1 v' (n + 1) (xs ++ [.string s]) ∧ (∀ k, v'.ownBlock = some k → v.ownBlock = some k ∨ w.heap.size ≤ k) ∧ Chg (fun k => k = b ∨ v.ownBlock = some k) w w' := by
  have C := We.right_any s w hs
  rw [h] at C
  have C := Lib.hid C
  clear h
  unfold maxLen at hs
  obtain ⟨i0, hi, hz0, hz1, hz2⟩ := info_parts Tryd.infoS
  go_enter Tryd.func83, Tryd.ntmps83
  go_wp2_with fail
  refine C.out.mono ?_
  rintro e w1 ⟨rfl, hb⟩
  have hC := Lib.hid (Chg.of_below (S := fun k => k = b ∨ v.ownBlock = some k) hb (fun k h1 h2 => absurd h2 (by omega)))
  have h21 : Two w1 b t x v := (hb.block b h2.lt).trans h2
  have hown1 : w1.ownsRow B 9 1 v n xs := (Chg.of_below (S := fun _ => False) hb (fun k h1 h2 => absurd h2 (by omega))).ownsRow hown (fun _ _ e => e)
  have k1 := h21.c1
  have f1 := h21.f1
  have hsz := hb.size
  have hlt := h2.lt
  have H := Lib.hid (And.intro h2 (And.intro hown hb))
  clear h2 hown hb
  have H21 := Lib.hid h21
  clear h21
  go_wp2_with (at_builtin; refine wpList_append_own_at _ rfl (.tmp 15) (.tmp 17) 28 rfl B 9 i0 (.string ByteArray.empty) 1 16 Tryd.underlying28 hi hz0 hz1 hz2 rfl (by decide) v n xs rfl (hown1.alloc _) ⟨w1.heap.size, 0, none⟩ 1 1 [.string s] rfl rfl ?c1 ?c2 ?c3 ?c4 ?c5 ?_)
  case c1 => intro j u hj; match j, hj with | 0, hj => simp at hj; subst hj; simp [Addr.add]
  case c2 => intro u hu; simp at hu; subst hu; rfl
  case c3 => unfold maxLen; omega
  case c4 => omega
  case c5 => rw [World.size_alloc]; omega
  intro v' w2 hown2 hgrow hnn hat
  have hb1 := H21.out.lt
  have hne : v.ownBlock ≠ some b := fun e => hv b e rfl
  have h22 : Two w2 b t x v := (hgrow.block b (by rw [World.size_alloc]; omega) (fun e => hne e.symm)).trans ((Below.heap_alloc w1 _ b hb1).trans H21.out)
  obtain ⟨g, cap', rfl⟩ : ∃ g cap', v' = .slice (some ⟨g, 0, none⟩) (n + 1) cap' := by
    rcases hown2.2 with ⟨_, h⟩ | ⟨g, cap', _, h, _⟩
    · omega
    · exact ⟨g, cap', h⟩
  have k2 := h22.c1
  have f2 := h22.f1
  have hnew : ∀ k, (Value.slice (some ⟨g, 0, none⟩) (n + 1) cap').ownBlock = some k → v.ownBlock = some k ∨ w.heap.size ≤ k := by
    intro k hk
    rcases hat with hat | hat
    · exact .inl (hat.symm.trans hk)
    · rw [hk] at hat
      exact .inr (by have := Option.some.inj hat; omega)
  have K := Lib.hid (And.intro h22 (And.intro hown2 (And.intro hgrow (And.intro hne hnew))))
  have hgb : ∀ k, (Value.slice (some ⟨g, 0, none⟩) (n + 1) cap').ownBlock = some k → k ≠ b := by
    intro k hk e
    subst e
    rcases hnew k hk with h | h
    · exact hne h
    · have := hlt; omega
  have KG := Lib.hid hgb
  clear h22 hown2 hgrow k1 f1 hnn hne hnew hv hat hgb
  go_wp2
  go_ret
  obtain ⟨h22, hown2, hgrow, hne, hnew⟩ := K.out
  refine ⟨rfl, _, h22.set1, ownsRow_setCell_other hown2 (fun e => KG.out _ e rfl) _, hnew, ?_⟩
  refine (Chg.grown (hC.out.alloc _) hgrow (fun k hk => .inl (.inr hk))).setCell (.inl (.inl rfl)) _
end Wf
end Go.Proofs.YtmanpggemmgnnaaDoor
