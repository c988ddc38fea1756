/-
  WALK: the law's texts: both sides' ID, Packet and Look agree on any text shorter than 2^24 bytes; texts answers true.
-/
import Derived.Test.YtmanpggemmgnnaaDoorWm
import Derived.Test.YtmanpggemmgnnaaDoorWd
namespace Go.Proofs.YtmanpggemmgnnaaDoor
open Go Go.RowKit Go.Shelf Ba Num Fr
namespace Wn
open Wg Wi Wj Wk Wm
set_option maxHeartbeats 1000000 in
theorem sID_any (s : ByteArray) (w : World) (hs : s.size ≤ maxLen) :
    Calls Tryd.prog 5 #[.string s] w fun e w' => e = .returned (.string ⟨(Tx.idOf s.data.toList).toArray⟩) ∧ Below w.heap.size w w' := by
  have C := Wb.objID_any s w hs
  generalize Tx.idOf s.data.toList = own at *
  have C := Lib.hid C
  go_enter Tryd.func5, Tryd.ntmps5
  go_wp2_with (go_at_call 11; refine C.out.mono ?_; rintro e w' ⟨rfl, hb⟩)
  go_ret
  exact ⟨rfl, hb⟩
set_option maxHeartbeats 1000000 in
theorem sPacket_any (s : ByteArray) (w : World) (hs : s.size ≤ maxLen) (hc : w.cell? ⟨3, 15, none⟩ = some (.int .u8 4)) (h3 : 3 < w.heap.size) :
    Calls Tryd.prog 7 #[.string s] w fun e w' => e = .returned (.string ⟨(Tx.packet s.data.toList).toArray⟩) ∧ Below w.heap.size w w' := by
  have C := Wd.packet_any s w hs hc h3
  generalize Tx.packet s.data.toList = own at *
  have C := Lib.hid C
  clear hc
  go_enter Tryd.func7, Tryd.ntmps7
  go_wp2_with (go_at_call 12; refine C.out.mono ?_; rintro e w' ⟨rfl, hb⟩)
  go_ret
  exact ⟨rfl, hb⟩
def Yes (w : World) (e : Ending) (w' : World) : Prop := e = .returned (.bool true) ∧ Below w.heap.size w w'
/-- The two lists under the loop. -/
structure LI (w wr : World) (g1 g2 n k : Nat) (ids : List Tx.B) : Prop where
  c1 : ∀ j (h : j < ids.length), k ≤ j → wr.cell? ⟨g1, j, none⟩ = some (.string ⟨(ids[j]).toArray⟩)
  f1 : ∀ j, wr.frozen? ⟨g1, j, none⟩ = false
  c2 : ∀ j (h : j < ids.length), wr.cell? ⟨g2, j, none⟩ = some (.string ⟨(ids[j]).toArray⟩)
  ne : g1 ≠ g2
  low : w.heap.size ≤ g1
  len : n = ids.length
  below : Below w.heap.size w wr
/-- What both Looks answer: the names in a row of their own. -/
def LookRes (w : World) (ids : List Tx.B) (flag : Bool) (e : Ending) (w' : World) : Prop :=
  ∃ v, e = .returned (.tuple #[v, .bool flag]) ∧ w'.ownsRow w.heap.size 9 1 v ids.length (ids.map strV) ∧ Below w.heap.size w w'
theorem look_res {w : World} {res : Option (List Tx.B)} {e : Ending} {w' : World} (h : LookAll w res e w') : LookRes w (res.getD []) res.isSome e w' := by
  cases res with
  | none => obtain ⟨rfl, hb⟩ := h; exact ⟨_, rfl, World.ownsRow_nil _ _ _ _, hb⟩
  | some ids => obtain ⟨v, rfl, ho, hb⟩ := h; exact ⟨v, rfl, ho, hb⟩
set_option maxHeartbeats 4000000 in
set_option maxRecDepth 100000 in
theorem texts_empty (s : ByteArray) (w : World) (hs : s.size < 16777216) (hc : w.cell? ⟨3, 15, none⟩ = some (.int .u8 4)) (h3 : 3 < w.heap.size) (ids : List Tx.B) (flag : Bool) (hids : ids = [])
    (C5 : ∀ w, Calls Tryd.prog 9 #[.string s] w (LookRes w ids flag)) (C6 : ∀ w, Calls Tryd.prog 10 #[.string s] w (LookRes w ids flag)) :
    Calls Tryd.prog 4 #[.string s] w (Yes w) := by
  have hs' : s.size ≤ maxLen := by unfold maxLen; omega
  have C1 := fun w => sID_any s w hs'
  have C2 := fun w => Wa.refID_any s w hs'
  have C3 := fun w hc h3 => sPacket_any s w hs' hc h3
  have C4 := fun w => Wa.refPacket_any s w hs'
  generalize Tx.idOf s.data.toList = own at C1 C2
  generalize Tx.packet s.data.toList = pk at C3 C4
  have C1 := Lib.hid C1
  have C2 := Lib.hid C2
  have C3 := Lib.hid C3
  have C4 := Lib.hid C4
  have C5 := Lib.hid C5
  have C6 := Lib.hid C6
  have hc := Lib.hid hc
  go_enter Tryd.func4, Tryd.ntmps4
  go_wp2_with fail
  refine (C1.out _).mono ?_
  rintro e w1 ⟨rfl, hb1⟩
  have hb1 := Lib.hid hb1
  go_wp2_with fail
  refine (C2.out _).mono ?_
  rintro e w1' ⟨rfl, rfl⟩
  go_wp2_with fail
  refine (C3.out _ ((hb1.out.cell (p := ⟨3, 15, none⟩) h3).trans hc.out) (Nat.lt_of_lt_of_le h3 hb1.out.size)).mono ?_
  rintro e w2 ⟨rfl, hb2⟩
  have hb2 := Lib.hid (hb1.out.trans (hb2.mono hb1.out.size))
  go_wp2_with fail
  refine (C4.out _).mono ?_
  rintro e w2' ⟨rfl, rfl⟩
  go_wp2_with fail
  refine (C5.out _).mono ?_
  rintro e w3 ⟨v1, rfl, ho1, hb3⟩
  have hb3 := Lib.hid (And.intro (hb2.out.trans (hb3.mono hb2.out.size)) hb3.size)
  have ho1 := Lib.hid ho1
  go_wp2_with fail
  refine (C6.out _).mono ?_
  rintro e w4 ⟨v2, rfl, ho2, hb4⟩
  have hb4 := Lib.hid (And.intro (hb3.out.1.trans (hb4.mono hb3.out.1.size)) hb4)
  have ho2 := Lib.hid ho2
  subst hids
  have s1 : ∃ a c, v1 = .slice a 0 c := by
    rcases ho1.out.2 with ⟨h, _⟩ | ⟨g, cap, _, h, _⟩
    · exact ⟨_, _, h⟩
    · exact ⟨_, _, h⟩
  have s2 : ∃ a c, v2 = .slice a 0 c := by
    rcases ho2.out.2 with ⟨h, _⟩ | ⟨g, cap, _, h, _⟩
    · exact ⟨_, _, h⟩
    · exact ⟨_, _, h⟩
  obtain ⟨a1, c1, rfl⟩ := s1
  obtain ⟨a2, c2, rfl⟩ := s2
  go_wp2
  go_loopw [11] (fun i wr => i = .int .i64 0 ∧ wr = w4) (fun _ _ => 0)
  case atStart => exact ⟨rfl, rfl⟩
  case round =>
    obtain ⟨rfl, rfl⟩ := hrel
    go_wp2_with fail
    refine (C5.out _).mono ?_
    rintro e w5 ⟨v3, rfl, ho3, hb5⟩
    have hb5 := Lib.hid (hb4.out.1.trans (hb5.mono hb4.out.1.size))
    have s3 : ∃ a c, v3 = .slice a 0 c := by
      rcases ho3.2 with ⟨h, _⟩ | ⟨g, cap, _, h, _⟩
      · exact ⟨_, _, h⟩
      · exact ⟨_, _, h⟩
    clear ho3
    obtain ⟨a3, c3, rfl⟩ := s3
    go_wp2
    go_loopw [14] (fun i wr => i = .int .i64 0 ∧ wr = w5) (fun _ _ => 0)
    case atStart => exact ⟨rfl, rfl⟩
    case round =>
      obtain ⟨rfl, rfl⟩ := hrel
      go_wp2
      go_ret
      exact ⟨rfl, hb5.out⟩
theorem row_cells {w : World} {B g n cap : Nat} {ids : List Tx.B} (h : w.ownsRow B 9 1 (.slice (some ⟨g, 0, none⟩) n cap) ids.length (ids.map strV)) :
    (∀ j (hj : j < ids.length), w.cell? ⟨g, j, none⟩ = some (.string ⟨(ids[j]).toArray⟩)) ∧ (∀ j, w.frozen? ⟨g, j, none⟩ = false) ∧ B ≤ g ∧ g < w.heap.size := by
  have hl := h.lt g rfl
  refine ⟨fun j hj => ?_, ?_, hl⟩
  · have := h.cells (g := g) rfl j (strV ids[j]) (by simp [hj])
    rw [show (Addr.add ⟨g, 0, none⟩ j) = ⟨g, j, none⟩ by by_cases h0 : j = 0 <;> simp [Addr.add, h0]] at this; exact this
  · intro j
    rcases h.2 with ⟨h, _⟩ | ⟨g', cap', cur, he, _, hb, _⟩
    · cases h
    · cases he; simp [World.frozen?, hb]
theorem LI.next {w wr : World} {g1 g2 n k : Nat} {ids : List Tx.B} (h : LI w wr g1 g2 n k ids) (u : Value) : LI w (wr.setCell ⟨g1, k, none⟩ u) g1 g2 n (k + 1) ids where
  c1 := fun j hj hk => (World.cell?_setCell_other wr ⟨g1, k, none⟩ ⟨g1, j, none⟩ u (by intro e; have := congrArg Addr.off e; simp at this; omega)).trans (h.c1 j hj (by omega))
  f1 := fun j => by simp [h.f1 j]
  c2 := fun j hj => (World.cell?_setCell_other wr ⟨g1, k, none⟩ ⟨g2, j, none⟩ u (by intro e; exact h.ne (congrArg Addr.block e))).trans (h.c2 j hj)
  ne := h.ne
  low := h.low
  len := h.len
  below := h.below.setCell h.low u
theorem LI.drew {w wr : World} {g1 g2 n k : Nat} {ids : List Tx.B} (h : LI w wr g1 g2 n k ids) (q : Nat) : LI w (wr.drewN q) g1 g2 n k ids :=
  ⟨h.c1, h.f1, h.c2, h.ne, h.low, h.len, below_drew h.below q⟩
set_option maxHeartbeats 4000000 in
set_option maxRecDepth 100000 in
theorem texts_full (s : ByteArray) (w : World) (hs : s.size < 16777216) (hc : w.cell? ⟨3, 15, none⟩ = some (.int .u8 4)) (h3 : 3 < w.heap.size) (ids : List Tx.B) (flag : Bool) (hids : 0 < ids.length) (hlen : ids.length ≤ 16777219)
    (C5 : ∀ w, Calls Tryd.prog 9 #[.string s] w (LookRes w ids flag)) (C6 : ∀ w, Calls Tryd.prog 10 #[.string s] w (LookRes w ids flag)) :
    Calls Tryd.prog 4 #[.string s] w (Yes w) := by
  have hs' : s.size ≤ maxLen := by unfold maxLen; omega
  have C1 := fun w => sID_any s w hs'
  have C2 := fun w => Wa.refID_any s w hs'
  have C3 := fun w hc h3 => sPacket_any s w hs' hc h3
  have C4 := fun w => Wa.refPacket_any s w hs'
  generalize Tx.idOf s.data.toList = own at C1 C2
  generalize Tx.packet s.data.toList = pk at C3 C4
  have C1 := Lib.hid C1
  have C2 := Lib.hid C2
  have C3 := Lib.hid C3
  have C4 := Lib.hid C4
  have C5 := Lib.hid C5
  have C6 := Lib.hid C6
  have hc := Lib.hid hc
  go_enter Tryd.func4, Tryd.ntmps4
  go_wp2_with fail
  refine (C1.out _).mono ?_
  rintro e w1 ⟨rfl, hb1⟩
  have hb1 := Lib.hid hb1
  go_wp2_with fail
  refine (C2.out _).mono ?_
  rintro e w1' ⟨rfl, rfl⟩
  go_wp2_with fail
  refine (C3.out _ ((hb1.out.cell (p := ⟨3, 15, none⟩) h3).trans hc.out) (Nat.lt_of_lt_of_le h3 hb1.out.size)).mono ?_
  rintro e w2 ⟨rfl, hb2⟩
  have hb2 := Lib.hid (hb1.out.trans (hb2.mono hb1.out.size))
  go_wp2_with fail
  refine (C4.out _).mono ?_
  rintro e w2' ⟨rfl, rfl⟩
  go_wp2_with fail
  refine (C5.out _).mono ?_
  rintro e w3 ⟨v1, rfl, ho1, hb3⟩
  have hb3 := Lib.hid (And.intro (hb2.out.trans (hb3.mono hb2.out.size)) hb3.size)
  have ho1 := Lib.hid ho1
  go_wp2_with fail
  refine (C6.out _).mono ?_
  rintro e w4 ⟨v2, rfl, ho2, hb4⟩
  have hb4 := Lib.hid (And.intro (hb3.out.1.trans (hb4.mono hb3.out.1.size)) hb4)
  have ho2 := Lib.hid ho2
  have s1 : ∃ g c, v1 = .slice (some ⟨g, 0, none⟩) ids.length c := by
    rcases ho1.out.2 with ⟨_, h⟩ | ⟨g, cap, _, h, _⟩
    · omega
    · exact ⟨_, _, h⟩
  have s2 : ∃ g c, v2 = .slice (some ⟨g, 0, none⟩) ids.length c := by
    rcases ho2.out.2 with ⟨_, h⟩ | ⟨g, cap, _, h, _⟩
    · omega
    · exact ⟨_, _, h⟩
  obtain ⟨g1, c1, rfl⟩ := s1
  obtain ⟨g2, c2, rfl⟩ := s2
  have L0 : LI w w4 g1 g2 ids.length 0 ids := by
    obtain ⟨x1, y1, z1, q1⟩ := row_cells ho1.out
    obtain ⟨x2, y2, z2, q2⟩ := row_cells ho2.out
    exact ⟨fun j hj _ => (hb4.out.2.cell (p := ⟨g1, j, none⟩) q1).trans (x1 j hj), fun j => (hb4.out.2.frozen (p := ⟨g1, j, none⟩) q1).trans (y1 j), x2, by omega, Nat.le_trans (hb2.out.size) z1, rfl, hb4.out.1⟩
  have L0 := Lib.hid L0
  generalize hn : ids.length = n at *
  have hn := Lib.hid hn
  go_wp2
  go_loopw [11] (fun i wr => ∃ k : Nat, k ≤ n ∧ i = .int .i64 k ∧ LI w wr g1 g2 n k ids) (fun i _ => n - (intOf i).toNat)
  case atStart => exact ⟨0, Nat.zero_le _, rfl, L0.out⟩
  case round =>
    rename_i wr
    clear L0
    obtain ⟨k, hk, rfl, hL⟩ := hrel
    have HL := Lib.hid hL
    by_cases hlt : k < n
    · have k1 := hL.c1 k (by rw [hn.out]; exact hlt) (Nat.le_refl _)
      have k2 := hL.c2 k (by rw [hn.out]; exact hlt)
      have f1 := hL.f1 k
      generalize ids[k]'(by rw [hn.out]; exact hlt) = e at k1 k2
      clear hL
      go_wp2
      go_quiet (fail)
      go_wp2
      go_roundw
      case rel => exact ⟨k + 1, by omega, by go_num, (HL.out.drew _).next _⟩
      case measure => simp [intOf]; omega
    · clear hL
      go_wp2_with fail
      refine (C5.out _).mono ?_
      rintro e w5 ⟨v3, rfl, ho3, hb5⟩
      have s3 : ∃ g c, v3 = .slice (some ⟨g, 0, none⟩) ids.length c := by
        rcases ho3.2 with ⟨_, h⟩ | ⟨g, cap, _, h, _⟩
        · have := hn.out; omega
        · exact ⟨_, _, h⟩
      obtain ⟨g3, c3, rfl⟩ := s3
      obtain ⟨x3, y3, z3, q3⟩ := row_cells ho3
      have c2' : ∀ j (hj : j < ids.length), w5.cell? ⟨g2, j, none⟩ = some (.string ⟨(ids[j]).toArray⟩) := fun j hj =>
        (hb5.cell (p := ⟨g2, j, none⟩) (World.block_lt_of_cell? _ ⟨g2, j, none⟩ (HL.out.c2 j hj))).trans (HL.out.c2 j hj)
      have F := Lib.hid (And.intro x3 (And.intro c2' (HL.out.below.trans (hb5.mono HL.out.below.size))))
      clear x3 y3 z3 q3 c2' ho3 hb5
      rw [hn.out]
      go_wp2
      go_loopw [14] (fun i wr => ∃ (k q : Nat), k ≤ n ∧ i = .int .i64 k ∧ wr = w5.drewN q) (fun i _ => n - (intOf i).toNat)
      case atStart => exact ⟨0, 0, Nat.zero_le _, rfl, rfl⟩
      case round =>
        obtain ⟨k, q, hk, rfl, rfl⟩ := hrel
        by_cases hlt : k < n
        · have k1 := F.out.1 k (by rw [hn.out]; exact hlt)
          have k2 := F.out.2.1 k (by rw [hn.out]; exact hlt)
          generalize ids[k]'(by rw [hn.out]; exact hlt) = e at k1 k2
          go_wp2
          go_quiet (fail)
          go_wp2
          go_roundw
          case rel => exact ⟨k + 1, _, by omega, by go_num, rfl⟩
          case measure => simp [intOf]; omega
        · go_wp2
          go_ret
          exact ⟨rfl, below_drew F.out.2.2 _⟩
theorem entries_len : ∀ (es : List Tx.B) (last : Tx.B) (ids : List Tx.B), Tx.entries last es = some ids → ids.length = es.length
  | [], _, ids, h => by simp [Tx.entries] at h; subst h; rfl
  | e :: r, last, ids, h => by
    rw [Tx.entries] at h
    split at h
    · rw [Option.map_eq_some_iff] at h
      obtain ⟨l, hl, rfl⟩ := h
      simp [entries_len r _ l hl]
    · cases h
theorem tree_len {l : Tx.B} {ids : List Tx.B} (h : Tx.tree l = some ids) : ids.length ≤ l.length + 1 := by
  rw [Tx.tree] at h
  split at h
  · cases h; simp
  · rw [entries_len _ _ _ h]; exact split_len 44 l
theorem commit_len {l : Tx.B} {ids : List Tx.B} (h : Tx.commit l = some ids) : ids.length ≤ 3 := by
  simp only [Tx.commit] at h
  split at h
  · split at h
    · cases h; simp
    · split at h
      · rename_i h2
        cases h
        simp at h2 ⊢; omega
      · cases h
  · cases h
theorem parse_len {l : Tx.B} {o : Tx.Obj} (h : Tx.parse l = some o) : o.ids.length ≤ l.length + 3 := by
  have hc := (cut_le 32 l).2
  simp only [Tx.parse] at h
  split at h
  · split at h
    · split at h
      · cases h; simp
      · cases h
    · split at h
      · rw [Option.map_eq_some_iff] at h
        obtain ⟨ids, hl, rfl⟩ := h
        have := tree_len hl; simp only; omega
      · split at h
        · rw [Option.map_eq_some_iff] at h
          obtain ⟨ids, hl, rfl⟩ := h
          have := commit_len hl; simp only; omega
        · cases h
  · cases h
theorem texts_all (s : ByteArray) (w : World) (hs : s.size < 16777216) (hc : w.cell? ⟨3, 15, none⟩ = some (.int .u8 4)) (h3 : 3 < w.heap.size) :
    Calls Tryd.prog 4 #[.string s] w (Yes w) := by
  have C5 : ∀ w, Calls Tryd.prog 9 #[.string s] w (LookRes w (((Tx.parse s.data.toList).map (·.ids)).getD []) ((Tx.parse s.data.toList).map (·.ids)).isSome) :=
    fun w => (look_any s w hs (fun o ho => by have := parse_len ho; rw [size_len] at this; omega)).mono fun _ _ h => look_res h
  have C6 : ∀ w, Calls Tryd.prog 10 #[.string s] w (LookRes w (((Tx.parse s.data.toList).map (·.ids)).getD []) ((Tx.parse s.data.toList).map (·.ids)).isSome) :=
    fun w => (rlook_any s w hs).mono fun _ _ h => look_res h
  by_cases h : ((Tx.parse s.data.toList).map (·.ids)).getD [] = []
  · exact texts_empty s w hs hc h3 _ _ h C5 C6
  · refine texts_full s w hs hc h3 _ _ (List.length_pos_iff.2 h) ?_ C5 C6
    cases hp : Tx.parse s.data.toList with
    | none => simp
    | some o => have := parse_len hp; rw [size_len] at this; simp; omega
end Wn
end Go.Proofs.YtmanpggemmgnnaaDoor
