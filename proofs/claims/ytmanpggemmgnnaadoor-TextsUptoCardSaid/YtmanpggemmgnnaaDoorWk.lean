/-
  WALK: the reference's entries of a tree compute what the plain function Tx.tree says. Condition: the text is shorter than 2^24 bytes.
-/
import Derived.Test.YtmanpggemmgnnaaDoorWj
import Derived.Test.YtmanpggemmgnnaaDoorWa
namespace Go.Proofs.YtmanpggemmgnnaaDoor
open Go Go.RowKit Go.Shelf Ba Num Fr
namespace Wk
open Wg Wi Wj
theorem split_cut (c : UInt8) : ∀ l : Tx.B, Tx.split c l = (Tx.cut c l).1 :: (if (Tx.cut c l).2.2 then Tx.split c (Tx.cut c l).2.1 else [])
  | [] => rfl
  | x :: r => by
    have ih := split_cut c r
    rw [Tx.split, Tx.cut]
    split
    · rfl
    · rw [ih]
theorem cut_short (c : UInt8) : ∀ l : Tx.B, (Tx.cut c l).2.2 = true → (Tx.cut c l).2.1.length < l.length
  | [], h => by cases h
  | x :: r, h => by
    rw [Tx.cut] at h ⊢
    split
    · simp
    · rename_i hx
      rw [if_neg hx] at h
      have := cut_short c r h
      simp; omega
theorem cell_new0 (w : World) (v : Value) (t : TypeId) : (w.alloc (.cells #[v] t)).cell? ⟨w.heap.size, 0, none⟩ = some v := by simp
def lenOf : Value → Nat
  | .string s => s.size
  | _ => 0
def boolOf : Value → Nat
  | .bool true => 1
  | _ => 0
/-- The loop of the reference's entries. -/
structure EI (w wr : World) (s0 : Tx.B) (s : Tx.B) (more : Bool) (last : Tx.B) (v : Value) (ids : List Tx.B) : Prop where
  spec : Tx.tree s0 = (if more then Tx.entries last (Tx.split 44 s) else some []).map (ids ++ ·)
  own : wr.ownsRow w.heap.size 9 1 v ids.length (ids.map strV)
  below : Below w.heap.size w wr
  len : ids.length + s.length + (if more then 1 else 0) ≤ s0.length + 1
  short : s.length ≤ s0.length
theorem EI.none {w wr w2 : World} {s0 s : Tx.B} {last : Tx.B} {v : Value} {ids : List Tx.B} (h : EI w wr s0 s true last v ids) (hb : Below wr.heap.size wr w2) (hn : Tx.entries last (Tx.split 44 s) = none) :
    LookAll w (Tx.tree s0) (.returned (.tuple #[.slice none 0 0, .bool false])) w2 := by
  rw [h.spec, if_pos rfl, hn]
  exact ⟨rfl, h.below.trans (hb.mono h.below.size)⟩
theorem EI.done {w wr : World} {s0 s : Tx.B} {last : Tx.B} {v : Value} {ids : List Tx.B} (h : EI w wr s0 s false last v ids) :
    LookAll w (Tx.tree s0) (.returned (.tuple #[v, .bool true])) wr := by
  rw [h.spec, if_neg (by decide)]
  exact ⟨v, rfl, by simpa using h.own, h.below⟩
theorem EI.next {w wr w3 : World} {s0 s e rest n y : Tx.B} {more : Bool} {last : Tx.B} {v v' : Value} {ids : List Tx.B} (h : EI w wr s0 s true last v ids)
    (hc : Tx.cut 44 s = (e, rest, more)) (hy : ∀ r, Tx.entries last (e :: r) = (Tx.entries n r).map (y :: ·)) (hown : w3.ownsRow w.heap.size 9 1 v' (ids.length + 1) (ids.map strV ++ [.string ⟨y.toArray⟩])) (hg : Below w.heap.size w w3) :
    EI w w3 s0 rest more n v' (ids ++ [y]) := by
  have hs := cut_short 44 s
  have hle := (cut_le 44 s).2
  rw [hc] at hs hle
  simp only at hs hle
  have hl := h.len
  have hsh := h.short
  simp only [if_true] at hl
  refine ⟨?_, by rw [List.length_append, List.map_append]; exact hown, hg, ?_, by omega⟩
  · rw [h.spec, if_pos rfl, split_cut, hc]
    simp only
    rw [hy]
    cases more
    · simp [Tx.entries]
    · simp only [if_true]
      rw [Option.map_map]; congr 1; funext l; simp
  · rw [List.length_append]
    cases more
    · simp; omega
    · have := hs rfl; simp; omega
set_option maxHeartbeats 2000000 in
set_option maxRecDepth 100000 in
theorem entries_any (s : ByteArray) (w : World) (hs : s.size < 16777216) :
    Calls Tryd.prog 20 #[.string s] w (LookAll w (Tx.tree s.data.toList)) := by
  obtain ⟨i0, hi, hz0, hz1, hz2⟩ := info_parts Tryd.infoS
  have E0 : EI w w s.data.toList s.data.toList (!s.data.toList.isEmpty) [] (.slice none 0 0) [] := by
    refine ⟨?_, World.ownsRow_nil _ _ _ _, Below.refl _ _, ?_, Nat.le_refl _⟩
    · rw [Tx.tree]
      cases h : s.data.toList with
      | nil => rfl
      | cons x r => simp
    · simp; split <;> omega
  have hs0 : s.data.toList.length < 16777216 := hs
  change Calls Tryd.prog 20 #[.string ⟨s.data.toList.toArray⟩] w (LookAll w (Tx.tree s.data.toList))
  clear hs
  generalize s.data.toList = s0 at *
  have E0 := Lib.hid E0
  go_enter Tryd.func20, Tryd.ntmps20
  go_wp2
  go_loopw [0, 4, 5, 6] (fun a v l m wr => ∃ (s : Tx.B) (more : Bool) (last : Tx.B) (ids : List Tx.B), a = .string ⟨s.toArray⟩ ∧ m = .bool more ∧ l = .string ⟨last.toArray⟩ ∧ EI w wr s0 s more last v ids) (fun a _ _ m _ => lenOf a + boolOf m)
  case atStart => exact ⟨s0, _, [], [], rfl, rfl, rfl, E0.out⟩
  case round =>
    rename_i wr
    clear E0
    obtain ⟨s, more, last, ids, rfl, rfl, rfl, hE⟩ := hrel
    have HE := Lib.hid hE
    cases more
    · clear hE
      go_wp2
      go_ret2
      exact HE.out.done
    · have hlen := hE.short
      have C1 := Wa.cut_any ⟨s.toArray⟩ 44 wr (by unfold maxLen; show s.length ≤ _; omega)
      change Calls _ _ _ wr (fun e' w' => e' = .returned (.tuple #[.string ⟨(Tx.cut 44 s).1.toArray⟩, .string ⟨(Tx.cut 44 s).2.1.toArray⟩, .bool (Tx.cut 44 s).2.2]) ∧ ∃ n, w' = wr.drewN n) at C1
      have hce := cut_le 44 s
      have hsp := split_cut 44 s
      have hsh := cut_short 44 s
      generalize hc1 : Tx.cut 44 s = c1 at C1 hce hsp hsh
      obtain ⟨e, rest, more⟩ := c1
      simp only at C1 hce hsp hsh
      have C2 := fun w => Wa.cut_any ⟨e.toArray⟩ 61 w (by unfold maxLen; show e.length ≤ _; omega)
      change ∀ w, Calls _ _ _ w (fun e' w' => e' = .returned (.tuple #[.string ⟨(Tx.cut 61 e).1.toArray⟩, .string ⟨(Tx.cut 61 e).2.1.toArray⟩, .bool (Tx.cut 61 e).2.2]) ∧ ∃ n, w' = w.drewN n) at C2
      have hn8 := (cut_le 61 e).1
      have hy8 := (cut_le 61 e).2
      have Hno := Lib.hid (fun r h => entries_no (last := last) (e := e) (r := r) h)
      have Hyes := Lib.hid (fun r h1 h2 h3 h4 h5 => entries_yes (last := last) (e := e) (r := r) h1 h2 h3 h4 h5)
      generalize hc2 : Tx.cut 61 e = c2 at C2 hn8 hy8 Hno Hyes
      obtain ⟨n, y, ok⟩ := c2
      simp only at C2 hn8 hy8
      have C3 := fun w => Wa.name_any ⟨n.toArray⟩ w (by unfold maxLen; show n.length ≤ _; omega)
      have C4 := fun w => Wa.id_any ⟨y.toArray⟩ w (by unfold maxLen; show y.length ≤ _; omega)
      change ∀ w, Calls _ _ _ w (fun e' w' => e' = .returned (.bool (Tx.nameOk n)) ∧ w' = w) at C3
      change ∀ w, Calls _ _ _ w (fun e' w' => e' = .returned (.bool (Tx.idd y)) ∧ w' = w) at C4
      have C1 := Lib.hid C1
      have C2 := Lib.hid C2
      have Hc1 := Lib.hid hc1
      have hshort := Lib.hid hsh
      have fin : Hid ((∀ r, Tx.entries last (e :: r) = none) → Tx.entries last (Tx.split 44 s) = none) := Lib.hid (fun h => by rw [hsp]; exact h _)
      have hmeas : rest.length + (if more then 1 else 0) < s.length + 1 := by
        cases more
        · simp; omega
        · have := hsh rfl; simp; omega
      have hmeas2 : lenOf (.string ⟨rest.toArray⟩) + boolOf (.bool more) < lenOf (.string ⟨s.toArray⟩) + boolOf (.bool true) := by
        show rest.length + boolOf (.bool more) < s.length + 1
        cases more <;> simp [boolOf] at hmeas ⊢ <;> omega
      clear hc1 hc2 hsp hsh hE hmeas
      by_cases hbad : ok = false ∨ Tx.nameOk n = false ∨ Tx.idd y = false ∨ Tx.leB n last = true
      · have hno : Hid (Tx.entries last (Tx.split 44 s) = none) := Lib.hid (fin.out (fun r => Hno.out r (by
          rcases hbad with h | h | h | h
          · exact .inl h
          · by_cases h0 : Tx.leB n last = true
            · exact .inr (.inl h0)
            · by_cases h8 : 8 < n.length
              · exact .inr (.inr (.inl h8))
              · refine .inr (.inr (.inr (.inl ?_)))
                have h1 : 1 ≤ n.length := by
                  cases n with
                  | nil => exact absurd (leB_nil last) h0
                  | cons => simp
                rw [Tx.nameOk] at h
                simpa [h1, show n.length ≤ 8 by omega] using h
          · exact .inr (.inr (.inr (.inr h)))
          · exact .inr (.inl h))))
        have Hbad := Lib.hid hbad
        generalize ha : Tx.nameOk n = a' at C3 hbad
        generalize hb : Tx.idd y = b' at C4 hbad
        have C3 := Lib.hid C3
        have C4 := Lib.hid C4
        clear ha hb
        have hle : (ok = true ∧ a' = true ∧ b' = true) → Op.bytesLess n last = true ∨ n = last := by
          rintro ⟨rfl, rfl, rfl⟩
          rcases hbad with h | h | h | h
          · cases h
          · cases h
          · cases h
          · exact (leB_iff n last).1 h
        clear hbad
        cases ok <;> cases a' <;> cases b'
        case true.true.true =>
          rcases hle ⟨rfl, rfl, rfl⟩ with hb1 | rfl
          · clear hle
            go_wp2_with fail
            refine C1.out.mono ?_
            rintro e w' ⟨rfl, q, rfl⟩
            go_wp2_with fail
            refine (C2.out _).mono ?_
            rintro e w' ⟨rfl, q2, rfl⟩
            go_wp2_with (first | (go_at_call 30; refine (C3.out _).mono ?_; rintro e w' ⟨rfl, rfl⟩) | (go_at_call 31; refine (C4.out _).mono ?_; rintro e w' ⟨rfl, rfl⟩))
            go_ret2
            exact HE.out.none (below_drew (Below.refl _ _) _) hno.out
          · clear hle
            go_wp2_with fail
            refine C1.out.mono ?_
            rintro e w' ⟨rfl, q, rfl⟩
            go_wp2_with fail
            refine (C2.out _).mono ?_
            rintro e w' ⟨rfl, q2, rfl⟩
            go_wp2_with (first | (go_at_call 30; refine (C3.out _).mono ?_; rintro e w' ⟨rfl, rfl⟩) | (go_at_call 31; refine (C4.out _).mono ?_; rintro e w' ⟨rfl, rfl⟩))
            go_ret2
            exact HE.out.none (below_drew (Below.refl _ _) _) hno.out
        all_goals
          clear hle
          go_wp2_with fail
          refine C1.out.mono ?_
          rintro e w' ⟨rfl, q, rfl⟩
          go_wp2_with fail
          refine (C2.out _).mono ?_
          rintro e w' ⟨rfl, q2, rfl⟩
          go_wp2_with (first | (go_at_call 30; refine (C3.out _).mono ?_; rintro e w' ⟨rfl, rfl⟩) | (go_at_call 31; refine (C4.out _).mono ?_; rintro e w' ⟨rfl, rfl⟩))
          go_ret2
          exact HE.out.none (below_drew (Below.refl _ _) _) hno.out
      · have hok : ok = true := by cases ok; exact absurd (.inl rfl) hbad; rfl
        have hna : Tx.nameOk n = true := by cases h : Tx.nameOk n; exact absurd (.inr (.inl h)) hbad; rfl
        have hid : Tx.idd y = true := by cases h : Tx.idd y; exact absurd (.inr (.inr (.inl h))) hbad; rfl
        have hlb : Tx.leB n last = false := by cases h : Tx.leB n last; rfl; exact absurd (.inr (.inr (.inr h))) hbad
        have hyes : Hid (∀ r, Tx.entries last (e :: r) = (Tx.entries n r).map (y :: ·)) := Lib.hid (fun r => Hyes.out r hok hlb (show n.length ≤ 8 by rw [Tx.nameOk] at hna; simp at hna; omega) (show n.all Tx.isLow = true by rw [Tx.nameOk, Bool.and_eq_true] at hna; exact hna.1) hid)
        have hb1 : Op.bytesLess n last = false := by
          rw [Bool.eq_false_iff]; exact fun h => by rw [(leB_iff n last).2 (.inl h)] at hlb; cases hlb
        have hb2 : ¬ n = last := fun h => by rw [(leB_iff n last).2 (.inr h)] at hlb; cases hlb
        have hb3 : (n == last) = false := beq_eq_false_iff_ne.2 hb2
        rw [hna] at C3
        rw [hid] at C4
        have C3 := Lib.hid C3
        have C4 := Lib.hid C4
        clear hna hid hlb hbad
        subst hok
        go_wp2_with fail
        refine C1.out.mono ?_
        rintro e w' ⟨rfl, q, rfl⟩
        go_wp2_with fail
        refine (C2.out _).mono ?_
        rintro e w' ⟨rfl, q2, rfl⟩
        have hown : (wr.drewN (q + q2)).ownsRow w.heap.size 9 1 u4 ids.length (ids.map strV) := HE.out.own
        have hbase : w.heap.size ≤ wr.heap.size := HE.out.below.size
        have hidl : ids.length ≤ 16777217 := by have := HE.out.len; omega
        go_wp2_with (first
          | (go_at_call 30; refine (C3.out _).mono ?_; rintro e w' ⟨rfl, rfl⟩)
          | (go_at_call 31; refine (C4.out _).mono ?_; rintro e w' ⟨rfl, rfl⟩)
          | (at_builtin; refine wpList_append_own _ rfl (.tmp 49) (.tmp 51) 28 rfl w.heap.size 9 i0 (.string ByteArray.empty) 1 16 Tryd.underlying28 hi hz0 hz1 hz2 rfl (by decide) u4 ids.length (ids.map strV) rfl (hown.alloc _) ⟨wr.heap.size, 0, none⟩ 1 1 [.string ⟨y.toArray⟩] rfl rfl ?c1 ?c2 ?c3 ?c4 ?c5 ?_))
        case c1 => intro j u hj; match j, hj with | 0, hj => simp at hj; subst hj; show ((wr.drewN (q + q2)).alloc (.cells #[.string ⟨y.toArray⟩] 9)).cell? ⟨(wr.drewN (q + q2)).heap.size, 0, none⟩ = _; exact cell_new0 _ _ _
        case c2 => intro u hu; simp at hu; subst hu; rfl
        case c3 => unfold maxLen; omega
        case c4 => omega
        case c5 => exact Nat.le_trans hbase (by rw [World.size_alloc]; exact Nat.le_succ _)
        intro v' w3 hown3 hgrow _
        have hg3 : Below w.heap.size w w3 := (((below_drew (HE.out.below) _).alloc hbase _).grown hgrow (Nat.le_trans hbase (by rw [World.size_alloc]; exact Nat.le_succ _)) (fun k hk => (HE.out.own.lt k hk).1))
        have HN := Lib.hid (EI.next HE.out Hc1.out hyes.out hown3 hg3)
        clear hown3 hgrow hown hg3
        go_wp2
        go_roundw
        case rel => exact ⟨rest, more, n, ids ++ [y], rfl, rfl, rfl, HN.out⟩
        case measure => exact hmeas2
end Wk
end Go.Proofs.YtmanpggemmgnnaaDoor
