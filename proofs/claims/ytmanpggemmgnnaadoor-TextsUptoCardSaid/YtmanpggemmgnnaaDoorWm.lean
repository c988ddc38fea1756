/-
  WALK: the reference's Parse and Look compute what the plain function Tx.parse says. Condition: the text is shorter than 2^24 bytes.
-/
import Derived.Test.YtmanpggemmgnnaaDoorWl
namespace Go.Proofs.YtmanpggemmgnnaaDoor
open Go Go.RowKit Go.Shelf Ba Num Fr
namespace Wm
open Wg Wi Wj Wk
/-- What the reference's Parse answers. -/
def RefAll (w : World) (res : Option Tx.Obj) (e : Ending) (w' : World) : Prop :=
  match res with
  | none => (∃ k : Int, e = .returned (.tuple #[.agg #[.int .u8 k, .slice none 0 0], .bool false])) ∧ Below w.heap.size w w'
  | some o => ∃ v, e = .returned (.tuple #[.agg #[.int .u8 o.kind.toNat, v], .bool true]) ∧ w'.ownsRow w.heap.size 9 1 v o.ids.length (o.ids.map strV) ∧ Below w.heap.size w w'
set_option maxHeartbeats 2000000 in
set_option maxRecDepth 100000 in
theorem rparse_nocut (s : ByteArray) (w : World) (hs : s.size < 16777216) (word rest : Tx.B) (h1 : Tx.cut 32 s.data.toList = (word, rest, false)) :
    Calls Tryd.prog 14 #[.string s] w (RefAll w (none)) := by
  have C1 := fun w => Wa.cut_any s 32 w (by unfold maxLen; omega)
  have hrs : rest.length < 16777216 := by have := (cut_le 32 s.data.toList).2; rw [h1] at this; simp only at this; rw [size_len] at this; omega
  rw [h1] at C1
  have C1 := Lib.hid C1
  have C2 := Lib.hid (fun w => Wa.refID_any s w (by unfold maxLen; omega))
  clear h1
  generalize Tx.idOf s.data.toList = own at *
  go_enter Tryd.func14, Tryd.ntmps14
  go_wp2_with fail
  refine (C1.out _).mono ?_
  rintro e w' ⟨rfl, q, rfl⟩
  go_wp2_with fail
  refine (C2.out _).mono ?_
  rintro e w' ⟨rfl, rfl⟩
  go_wp2
  exact bodyPost_ret (v := .tuple #[.agg #[.int .u8 0, .slice none 0 0], .bool false]) (by simp [results, Tryd.results14, go_sem]) rfl ⟨⟨_, rfl⟩, (((below_drew ((Below.refl w.heap.size w).alloc (Nat.le_refl _) _) q).setCell (Nat.le_refl _) _).setCell (Nat.le_refl _) _)⟩
set_option maxHeartbeats 2000000 in
set_option maxRecDepth 100000 in
theorem rparse_zero (s : ByteArray) (w : World) (hs : s.size < 16777216) (word rest : Tx.B) (h1 : Tx.cut 32 s.data.toList = (word, rest, true)) (h0 : Tx.idOf s.data.toList = Tx.zero8) :
    Calls Tryd.prog 14 #[.string s] w (RefAll w (none)) := by
  have C1 := fun w => Wa.cut_any s 32 w (by unfold maxLen; omega)
  have hrs : rest.length < 16777216 := by have := (cut_le 32 s.data.toList).2; rw [h1] at this; simp only at this; rw [size_len] at this; omega
  rw [h1] at C1
  have C1 := Lib.hid C1
  have C2 := Lib.hid (fun w => Wa.refID_any s w (by unfold maxLen; omega))
  clear h1
  have t0 : (Tx.idOf s.data.toList == [48, 48, 48, 48, 48, 48, 48, 48]) = true := beq_iff_eq.2 h0
  clear h0
  generalize Tx.idOf s.data.toList = own at *
  go_enter Tryd.func14, Tryd.ntmps14
  go_wp2_with fail
  refine (C1.out _).mono ?_
  rintro e w' ⟨rfl, q, rfl⟩
  go_wp2_with fail
  refine (C2.out _).mono ?_
  rintro e w' ⟨rfl, rfl⟩
  go_wp2
  exact bodyPost_ret (v := .tuple #[.agg #[.int .u8 0, .slice none 0 0], .bool false]) (by simp [results, Tryd.results14, go_sem]) rfl ⟨⟨_, rfl⟩, (((below_drew ((Below.refl w.heap.size w).alloc (Nat.le_refl _) _) q).setCell (Nat.le_refl _) _).setCell (Nat.le_refl _) _)⟩
set_option maxHeartbeats 2000000 in
set_option maxRecDepth 100000 in
theorem rparse_other (s : ByteArray) (w : World) (hs : s.size < 16777216) (word rest : Tx.B) (hb : word ≠ Tx.kBlob) (ht : word ≠ Tx.kTree) (hc : word ≠ Tx.kCommit) (h1 : Tx.cut 32 s.data.toList = (word, rest, true)) (h0 : Tx.idOf s.data.toList ≠ Tx.zero8) :
    Calls Tryd.prog 14 #[.string s] w (RefAll w (none)) := by
  have C1 := fun w => Wa.cut_any s 32 w (by unfold maxLen; omega)
  have hrs : rest.length < 16777216 := by have := (cut_le 32 s.data.toList).2; rw [h1] at this; simp only at this; rw [size_len] at this; omega
  rw [h1] at C1
  have C1 := Lib.hid C1
  have C2 := Lib.hid (fun w => Wa.refID_any s w (by unfold maxLen; omega))
  clear h1
  have t0 : (Tx.idOf s.data.toList == [48, 48, 48, 48, 48, 48, 48, 48]) = false := beq_eq_false_iff_ne.2 h0
  clear h0
  have tb : (word == [98, 108, 111, 98]) = false := beq_eq_false_iff_ne.2 hb
  have tt : (word == [116, 114, 101, 101]) = false := beq_eq_false_iff_ne.2 ht
  have tc : (word == [99, 111, 109, 109, 105, 116]) = false := beq_eq_false_iff_ne.2 hc
  clear hb ht hc
  generalize Tx.idOf s.data.toList = own at *
  go_enter Tryd.func14, Tryd.ntmps14
  go_wp2_with fail
  refine (C1.out _).mono ?_
  rintro e w' ⟨rfl, q, rfl⟩
  go_wp2_with fail
  refine (C2.out _).mono ?_
  rintro e w' ⟨rfl, rfl⟩
  go_wp2
  exact bodyPost_ret (v := .tuple #[.agg #[.int .u8 0, .slice none 0 0], .bool false]) (by simp [results, Tryd.results14, go_sem]) rfl ⟨⟨_, rfl⟩, (((below_drew ((Below.refl w.heap.size w).alloc (Nat.le_refl _) _) q).setCell (Nat.le_refl _) _).setCell (Nat.le_refl _) _)⟩
set_option maxHeartbeats 2000000 in
set_option maxRecDepth 100000 in
theorem rparse_blob (s : ByteArray) (w : World) (hs : s.size < 16777216) (word rest : Tx.B) (hw : word = Tx.kBlob) (h1 : Tx.cut 32 s.data.toList = (word, rest, true)) (h0 : Tx.idOf s.data.toList ≠ Tx.zero8) :
    Calls Tryd.prog 14 #[.string s] w (RefAll w (Option.map (⟨98, ·⟩) (if Tx.line rest 40 then some [] else none))) := by
  have C1 := fun w => Wa.cut_any s 32 w (by unfold maxLen; omega)
  have hrs : rest.length < 16777216 := by have := (cut_le 32 s.data.toList).2; rw [h1] at this; simp only at this; rw [size_len] at this; omega
  rw [h1] at C1
  have C1 := Lib.hid C1
  have C2 := Lib.hid (fun w => Wa.refID_any s w (by unfold maxLen; omega))
  clear h1
  have t0 : (Tx.idOf s.data.toList == [48, 48, 48, 48, 48, 48, 48, 48]) = false := beq_eq_false_iff_ne.2 h0
  clear h0
  have tb : (word == [98, 108, 111, 98]) = true := by rw [hw]; decide
  have tt : (word == [116, 114, 101, 101]) = false := by rw [hw]; decide
  have tc : (word == [99, 111, 109, 109, 105, 116]) = false := by rw [hw]; decide
  clear hw
  have C3 := fun w => Wa.line_any ⟨rest.toArray⟩ 40 w (by unfold maxLen; show rest.length ≤ _; omega) (by decide)
  change ∀ w, Calls _ _ _ w (fun e' w' => e' = .returned (.bool (Tx.line rest 40)) ∧ w' = w) at C3
  generalize Tx.line rest 40 = bl at *
  have C3 := Lib.hid C3
  generalize Tx.idOf s.data.toList = own at *
  go_enter Tryd.func14, Tryd.ntmps14
  go_wp2_with fail
  refine (C1.out _).mono ?_
  rintro e w' ⟨rfl, q, rfl⟩
  go_wp2_with fail
  refine (C2.out _).mono ?_
  rintro e w' ⟨rfl, rfl⟩
  cases bl
  · go_wp2_with (go_at_call 19; refine (C3.out _).mono ?_; rintro e w' ⟨rfl, rfl⟩)
    exact bodyPost_ret (v := .tuple #[.agg #[.int .u8 98, .slice none 0 0], .bool false]) (by simp [results, Tryd.results14, go_sem]) rfl ⟨⟨_, rfl⟩, (((below_drew ((Below.refl w.heap.size w).alloc (Nat.le_refl _) _) q).setCell (Nat.le_refl _) _).setCell (Nat.le_refl _) _)⟩
  · go_wp2_with (go_at_call 19; refine (C3.out _).mono ?_; rintro e w' ⟨rfl, rfl⟩)
    exact bodyPost_ret (v := .tuple #[.agg #[.int .u8 98, .slice none 0 0], .bool true]) (by simp [results, Tryd.results14, go_sem]) rfl ⟨_, rfl, World.ownsRow_nil _ _ _ _, (((below_drew ((Below.refl w.heap.size w).alloc (Nat.le_refl _) _) q).setCell (Nat.le_refl _) _).setCell (Nat.le_refl _) _)⟩
theorem two_of {w w2 : World} {q : Nat} (hb : Below (w.heap.size + 1) ((w.alloc (.cells #[.int .u8 0, .slice none 0 0] 39)).drewN q) w2) : Two w2 w.heap.size 39 (.int .u8 0) (.slice none 0 0) :=
  (hb.block w.heap.size (Nat.lt_succ_self _)).trans (heap_alloc_new w _)
theorem set2_c0 {w : World} {b : Nat} {t : TypeId} {x y a c : Value} (h : Two w b t x y) : ((w.setCell ⟨b, 0, none⟩ a).setCell ⟨b, 1, none⟩ c).cell? ⟨b, 0, none⟩ = some a :=
  (World.cell?_setCell_other _ ⟨b, 1, none⟩ ⟨b, 0, none⟩ _ (by simp)).trans (World.cell?_setCell_same w ⟨b, 0, none⟩ a h.c0)
theorem set2_c1 {w : World} {b : Nat} {t : TypeId} {x y a c : Value} (h : Two w b t x y) : ((w.setCell ⟨b, 0, none⟩ a).setCell ⟨b, 1, none⟩ c).cell? ⟨b, 1, none⟩ = some c :=
  World.cell?_setCell_same _ ⟨b, 1, none⟩ c ((World.cell?_setCell_other w ⟨b, 0, none⟩ ⟨b, 1, none⟩ a (by simp)).trans h.c1)
theorem fin_below {w w2 : World} {q : Nat} {a c : Value} (hb : Below (w.heap.size + 1) ((w.alloc (.cells #[.int .u8 0, .slice none 0 0] 39)).drewN q) w2) : Below w.heap.size w ((w2.setCell ⟨w.heap.size, 0, none⟩ a).setCell ⟨w.heap.size, 1, none⟩ c) :=
  (((below_drew ((Below.refl w.heap.size w).alloc (Nat.le_refl _) _) q).trans (hb.mono (Nat.le_succ _))).setCell (Nat.le_refl _) _).setCell (Nat.le_refl _) _
theorem fin_own {w w2 : World} {a c v : Value} {n : Nat} {xs : List Value} {q : Nat} (h : w2.ownsRow ((w.alloc (.cells #[.int .u8 0, .slice none 0 0] 39)).drewN q).heap.size 9 1 v n xs) :
    ((w2.setCell ⟨w.heap.size, 0, none⟩ a).setCell ⟨w.heap.size, 1, none⟩ c).ownsRow w.heap.size 9 1 v n xs := by
  have hs : ((w.alloc (.cells #[.int .u8 0, .slice none 0 0] 39)).drewN q).heap.size = w.heap.size + 1 := by simp [World.drewN]
  rw [hs] at h
  exact ownsRow_mono (ownsRow_setCell_below (ownsRow_setCell_below h (Nat.lt_succ_self _) a) (Nat.lt_succ_self _) c) (Nat.le_succ _)
theorem owns_shape {w : World} {B E z n : Nat} {v : Value} {xs : List Value} (h : w.ownsRow B E z v n xs) : v = .slice none 0 0 ∨ ∃ g m cap, v = .slice (some ⟨g, 0, none⟩) m cap := by
  rcases h.2 with ⟨h, _⟩ | ⟨g, cap, _, h, _⟩
  · exact .inl h
  · exact .inr ⟨g, _, cap, h⟩
set_option maxHeartbeats 2000000 in
set_option maxRecDepth 100000 in
theorem rparse_tree (s : ByteArray) (w : World) (hs : s.size < 16777216) (word rest : Tx.B) (hw : word = Tx.kTree) (h1 : Tx.cut 32 s.data.toList = (word, rest, true)) (h0 : Tx.idOf s.data.toList ≠ Tx.zero8) :
    Calls Tryd.prog 14 #[.string s] w (RefAll w (Option.map (⟨116, ·⟩) (Tx.tree rest))) := by
  have C1 := fun w => Wa.cut_any s 32 w (by unfold maxLen; omega)
  have hrs : rest.length < 16777216 := by have := (cut_le 32 s.data.toList).2; rw [h1] at this; simp only at this; rw [size_len] at this; omega
  rw [h1] at C1
  have C1 := Lib.hid C1
  have C2 := Lib.hid (fun w => Wa.refID_any s w (by unfold maxLen; omega))
  clear h1
  have t0 : (Tx.idOf s.data.toList == [48, 48, 48, 48, 48, 48, 48, 48]) = false := beq_eq_false_iff_ne.2 h0
  clear h0
  have tb : (word == [98, 108, 111, 98]) = false := by rw [hw]; decide
  have tt : (word == [116, 114, 101, 101]) = true := by rw [hw]; decide
  have tc : (word == [99, 111, 109, 109, 105, 116]) = false := by rw [hw]; decide
  clear hw
  have C3 := fun w => Wk.entries_any ⟨rest.toArray⟩ w (show rest.length < _ from hrs)
  change ∀ w, Calls _ _ _ w (LookAll w (Tx.tree rest)) at C3
  generalize Tx.tree rest = res at *
  have C3 := Lib.hid C3
  generalize Tx.idOf s.data.toList = own at *
  go_enter Tryd.func14, Tryd.ntmps14
  go_wp2_with fail
  refine (C1.out _).mono ?_
  rintro e w' ⟨rfl, q, rfl⟩
  go_wp2_with fail
  refine (C2.out _).mono ?_
  rintro e w' ⟨rfl, rfl⟩
  go_wp2_with fail
  refine (C3.out _).mono ?_
  intro e w2 hp
  cases res with
  | none =>
    obtain ⟨rfl, hb⟩ := hp
    have hb : Hid (Below (w.heap.size + 1) _ w2) := Lib.hid (hb.mono (by simp [World.drewN]))
    have h2 := two_of hb.out
    have k0 := h2.c0
    have k1 := h2.c1
    have f0 := h2.f0
    have f1 := h2.f1
    have hsz := hb.out.size
    have H2 := Lib.hid h2
    clear h2
    go_wp2
    exact bodyPost_ret (v := .tuple #[.agg #[.int .u8 116, .slice none 0 0], .bool false]) (by simp [results, Tryd.results14, go_sem, set2_c0 H2.out, set2_c1 H2.out]) rfl ⟨⟨_, rfl⟩, fin_below hb.out⟩
  | some ids =>
    obtain ⟨v, rfl, hown, hb⟩ := hp
    have hb : Hid (Below (w.heap.size + 1) _ w2) := Lib.hid (hb.mono (by simp [World.drewN]))
    have h2 := two_of hb.out
    have k0 := h2.c0
    have k1 := h2.c1
    have f0 := h2.f0
    have f1 := h2.f1
    have hsz := hb.out.size
    have H2 := Lib.hid h2
    have hv := owns_shape hown
    have HO := Lib.hid hown
    clear h2 hown
    rcases hv with rfl | ⟨g, n, cap, rfl⟩
    · go_wp2
      exact bodyPost_ret (v := .tuple #[.agg #[.int .u8 116, .slice none 0 0], .bool true]) (by simp [results, Tryd.results14, go_sem, set2_c0 H2.out, set2_c1 H2.out]) rfl ⟨_, rfl, fin_own HO.out, fin_below hb.out⟩
    · go_wp2
      exact bodyPost_ret (v := .tuple #[.agg #[.int .u8 116, .slice (some ⟨g, 0, none⟩) n cap], .bool true]) (by simp [results, Tryd.results14, go_sem, set2_c0 H2.out, set2_c1 H2.out]) rfl ⟨_, rfl, fin_own HO.out, fin_below hb.out⟩
set_option maxHeartbeats 2000000 in
set_option maxRecDepth 100000 in
theorem rparse_commit (s : ByteArray) (w : World) (hs : s.size < 16777216) (word rest : Tx.B) (hw : word = Tx.kCommit) (h1 : Tx.cut 32 s.data.toList = (word, rest, true)) (h0 : Tx.idOf s.data.toList ≠ Tx.zero8) :
    Calls Tryd.prog 14 #[.string s] w (RefAll w (Option.map (⟨99, ·⟩) (Tx.commit rest))) := by
  have C1 := fun w => Wa.cut_any s 32 w (by unfold maxLen; omega)
  have hrs : rest.length < 16777216 := by have := (cut_le 32 s.data.toList).2; rw [h1] at this; simp only at this; rw [size_len] at this; omega
  rw [h1] at C1
  have C1 := Lib.hid C1
  have C2 := Lib.hid (fun w => Wa.refID_any s w (by unfold maxLen; omega))
  clear h1
  have t0 : (Tx.idOf s.data.toList == [48, 48, 48, 48, 48, 48, 48, 48]) = false := beq_eq_false_iff_ne.2 h0
  clear h0
  have tb : (word == [98, 108, 111, 98]) = false := by rw [hw]; decide
  have tt : (word == [116, 114, 101, 101]) = false := by rw [hw]; decide
  have tc : (word == [99, 111, 109, 109, 105, 116]) = true := by rw [hw]; decide
  clear hw
  have C3 := fun w => Wl.commit_any ⟨rest.toArray⟩ w (show rest.length < _ from hrs)
  change ∀ w, Calls _ _ _ w (LookAll w (Tx.commit rest)) at C3
  generalize Tx.commit rest = res at *
  have C3 := Lib.hid C3
  generalize Tx.idOf s.data.toList = own at *
  go_enter Tryd.func14, Tryd.ntmps14
  go_wp2_with fail
  refine (C1.out _).mono ?_
  rintro e w' ⟨rfl, q, rfl⟩
  go_wp2_with fail
  refine (C2.out _).mono ?_
  rintro e w' ⟨rfl, rfl⟩
  go_wp2_with fail
  refine (C3.out _).mono ?_
  intro e w2 hp
  cases res with
  | none =>
    obtain ⟨rfl, hb⟩ := hp
    have hb : Hid (Below (w.heap.size + 1) _ w2) := Lib.hid (hb.mono (by simp [World.drewN]))
    have h2 := two_of hb.out
    have k0 := h2.c0
    have k1 := h2.c1
    have f0 := h2.f0
    have f1 := h2.f1
    have hsz := hb.out.size
    have H2 := Lib.hid h2
    clear h2
    go_wp2
    exact bodyPost_ret (v := .tuple #[.agg #[.int .u8 99, .slice none 0 0], .bool false]) (by simp [results, Tryd.results14, go_sem, set2_c0 H2.out, set2_c1 H2.out]) rfl ⟨⟨_, rfl⟩, fin_below hb.out⟩
  | some ids =>
    obtain ⟨v, rfl, hown, hb⟩ := hp
    have hb : Hid (Below (w.heap.size + 1) _ w2) := Lib.hid (hb.mono (by simp [World.drewN]))
    have h2 := two_of hb.out
    have k0 := h2.c0
    have k1 := h2.c1
    have f0 := h2.f0
    have f1 := h2.f1
    have hsz := hb.out.size
    have H2 := Lib.hid h2
    have hv := owns_shape hown
    have HO := Lib.hid hown
    clear h2 hown
    rcases hv with rfl | ⟨g, n, cap, rfl⟩
    · go_wp2
      exact bodyPost_ret (v := .tuple #[.agg #[.int .u8 99, .slice none 0 0], .bool true]) (by simp [results, Tryd.results14, go_sem, set2_c0 H2.out, set2_c1 H2.out]) rfl ⟨_, rfl, fin_own HO.out, fin_below hb.out⟩
    · go_wp2
      exact bodyPost_ret (v := .tuple #[.agg #[.int .u8 99, .slice (some ⟨g, 0, none⟩) n cap], .bool true]) (by simp [results, Tryd.results14, go_sem, set2_c0 H2.out, set2_c1 H2.out]) rfl ⟨_, rfl, fin_own HO.out, fin_below hb.out⟩
theorem rparse_all (s : ByteArray) (w : World) (hs : s.size < 16777216) : Calls Tryd.prog 14 #[.string s] w (RefAll w (Tx.parse s.data.toList)) := by
  have hp : ∀ word rest f, Tx.cut 32 s.data.toList = (word, rest, f) → Tx.parse s.data.toList = if f && Tx.idOf s.data.toList != Tx.zero8 then
      if word = Tx.kBlob then (if Tx.line rest 40 then some ⟨98, []⟩ else none) else if word = Tx.kTree then (Tx.tree rest).map (⟨116, ·⟩) else if word = Tx.kCommit then (Tx.commit rest).map (⟨99, ·⟩) else none else none := by
    intro word rest f h; simp only [Tx.parse, h]
  rcases hc : Tx.cut 32 s.data.toList with ⟨word, rest, f⟩
  rw [hp _ _ _ hc]
  cases f
  · exact rparse_nocut s w hs word rest hc
  · by_cases h0 : Tx.idOf s.data.toList = Tx.zero8
    · rw [if_neg (by rw [h0]; decide)]; exact rparse_zero s w hs word rest hc h0
    · rw [if_pos (by rw [Bool.true_and, bne_iff_ne]; exact h0)]
      by_cases hb : word = Tx.kBlob
      · rw [if_pos hb]
        have := rparse_blob s w hs word rest hb hc h0
        cases hl : Tx.line rest 40 <;> rw [hl] at this <;> exact this
      · rw [if_neg hb]
        by_cases ht : word = Tx.kTree
        · rw [if_pos ht]; exact rparse_tree s w hs word rest ht hc h0
        · rw [if_neg ht]
          by_cases hk : word = Tx.kCommit
          · rw [if_pos hk]; exact rparse_commit s w hs word rest hk hc h0
          · rw [if_neg hk]; exact rparse_other s w hs word rest hb ht hk hc h0
set_option maxHeartbeats 2000000 in
set_option maxRecDepth 100000 in
theorem rlook_any (s : ByteArray) (w : World) (hs : s.size < 16777216) :
    Calls Tryd.prog 10 #[.string s] w (LookAll w ((Tx.parse s.data.toList).map (·.ids))) := by
  have C := Lib.hid (rparse_all s w hs)
  generalize Tx.parse s.data.toList = r at C
  cases r with
  | none =>
    go_enter Tryd.func10, Tryd.ntmps10
    go_wp2_with fail
    refine C.out.mono ?_
    rintro e w1 ⟨⟨k, rfl⟩, hb⟩
    have hb := Lib.hid hb
    go_wp2
    go_ret2
    exact ⟨rfl, hb.out.alloc hb.out.size _⟩
  | some o =>
    go_enter Tryd.func10, Tryd.ntmps10
    go_wp2_with fail
    refine C.out.mono ?_
    rintro e w1 ⟨v, rfl, hown, hb⟩
    have hb := Lib.hid hb
    have hv := owns_shape hown
    have HO := Lib.hid hown
    clear hown
    rcases hv with rfl | ⟨g, n, cap, rfl⟩
    all_goals
      go_wp2
      go_ret2
      exact ⟨_, rfl, HO.out.alloc _, hb.out.alloc hb.out.size _⟩
end Wm
end Go.Proofs.YtmanpggemmgnnaaDoor
