/-
  WALK: the program's Tree.parse computes what the plain function Tx.tree says, and lays the names behind the object. Conditions: the text is shorter than 2^24 bytes; the object's block holds its text and no names yet.
-/
import Derived.Test.YtmanpggemmgnnaaDoorWf
namespace Go.Proofs.YtmanpggemmgnnaaDoor
open Go Go.RowKit Go.Shelf Ba Num Fr
namespace Wg
def strV (l : Tx.B) : Value := .string ⟨l.toArray⟩
theorem low_any (s : ByteArray) (hs : s.size ≤ maxLen) : ∃ r : Tx.B, (r = [] ↔ s.data.toList.all Tx.isLow = true) ∧ ∀ w, Calls Tryd.prog 82 #[.string s, .string ⟨#[97, 98, 99, 100, 101, 102, 103, 104, 105, 106, 107, 108, 109, 110, 111, 112, 113, 114, 115, 116, 117, 118, 119, 120, 121, 122]⟩] w fun e w' => e = .returned (.string ⟨r.toArray⟩) ∧ Below w.heap.size w w' :=
  ⟨_, Lx.trim_low _, fun w => Any.strings_Trim_laid Tryd.lays160 (by kernel_rfl) s ⟨#[97, 98, 99, 100, 101, 102, 103, 104, 105, 106, 107, 108, 109, 110, 111, 112, 113, 114, 115, 116, 117, 118, 119, 120, 121, 122]⟩ w (by unfold maxLen at hs; exact hs) (by decide) (ascii_of_all (by decide))⟩
structure TI (w wr : World) (b : Nat) (t : TypeId) (x v : Value) (es : List Tx.B) (k : Nat) (last : Tx.B) (ids : List Tx.B) : Prop where
  spec : Tx.entries [] es = (Tx.entries last (es.drop k)).map (ids ++ ·)
  len : ids.length = k
  two : Two wr b t x v
  own : wr.ownsRow (w.heap.size + 1) 9 1 v ids.length (ids.map strV)
  row : wr.heap[w.heap.size]? = some (.cells (es.map strV).toArray 9 (0, 0))
  chg : Chg (fun k => k = b) w wr
/-- What parse answers, and what has become of the object's block b. -/
def ParsePost (w : World) (b : Nat) (t : TypeId) (x : Value) (res : Option (List Tx.B)) (e : Ending) (w' : World) : Prop :=
  match res with
  | none => (∃ a, e = .returned (.iface 50 (.pointer (some a)))) ∧ Chg (fun k => k = b) w w'
  | some ids => e = .returned .nilIface ∧ ∃ v, Two w' b t x v ∧ w'.ownsRow w.heap.size 9 1 v ids.length (ids.map strV) ∧ Chg (fun k => k = b) w w'
theorem ParsePost.no {w : World} {b : Nat} {t : TypeId} {x : Value} {res : Option (List Tx.B)} {a : Addr} {w' : World} (h : res = none) (hc : Chg (fun k => k = b) w w') : ParsePost w b t x res (.returned (.iface 50 (.pointer (some a)))) w' := by
  subst h; exact ⟨⟨_, rfl⟩, hc⟩
theorem entries_no {last e : Tx.B} {r : List Tx.B} (h : (Tx.cut 61 e).2.2 = false ∨ Tx.leB (Tx.cut 61 e).1 last = true ∨ 8 < (Tx.cut 61 e).1.length ∨ (Tx.cut 61 e).1.all Tx.isLow = false ∨ Tx.idd (Tx.cut 61 e).2.1 = false) : Tx.entries last (e :: r) = none := by
  rw [Tx.entries, if_neg]
  rw [Bool.and_eq_true, Bool.and_eq_true, Bool.and_eq_true]
  rintro ⟨⟨⟨h1, h2⟩, h3⟩, h4⟩
  rw [Tx.nameOk] at h2
  rcases h with h | h | h | h | h
  · rw [h] at h1; cases h1
  · rw [h] at h4; cases h4
  · simp at h2; omega
  · rw [h] at h2; cases h2
  · rw [h] at h3; cases h3
theorem leB_nil (l : Tx.B) : Tx.leB [] l = true := by cases l <;> rfl
theorem entries_yes {last e : Tx.B} {r : List Tx.B} (h1 : (Tx.cut 61 e).2.2 = true) (h2 : Tx.leB (Tx.cut 61 e).1 last = false) (h3 : (Tx.cut 61 e).1.length ≤ 8) (h4 : (Tx.cut 61 e).1.all Tx.isLow = true) (h5 : Tx.idd (Tx.cut 61 e).2.1 = true) :
    Tx.entries last (e :: r) = (Tx.entries (Tx.cut 61 e).1 r).map ((Tx.cut 61 e).2.1 :: ·) := by
  have h6 : 1 ≤ (Tx.cut 61 e).1.length := by
    cases h : (Tx.cut 61 e).1 with
    | nil => rw [h, leB_nil] at h2; cases h2
    | cons => simp
  rw [Tx.entries, if_pos]
  rw [h1, h2, h5, Tx.nameOk, h4]
  simp [h3, h6]
theorem cut_le (c : UInt8) : ∀ l : Tx.B, (Tx.cut c l).1.length ≤ l.length ∧ (Tx.cut c l).2.1.length ≤ l.length
  | [] => ⟨Nat.le_refl _, Nat.le_refl _⟩
  | x :: r => by
    have ih := cut_le c r
    rw [Tx.cut]
    split
    · simp
    · simp; omega
theorem split_le (c : UInt8) : ∀ (l : Tx.B) (e : Tx.B), e ∈ Tx.split c l → e.length ≤ l.length
  | [], e, h => by simp [Tx.split] at h; subst h; simp
  | x :: r, e, h => by
    have ih := split_le c r
    rw [Tx.split] at h
    split at h
    · rcases List.mem_cons.1 h with rfl | h
      · simp
      · have := ih e h; simp; omega
    · split at h
      · simp at h; subst h; simp
      · rename_i p ps hp
        rcases List.mem_cons.1 h with rfl | h
        · have := ih p (by rw [hp]; simp); simp; omega
        · have := ih e (by rw [hp]; simp [h]); simp; omega
theorem split_len (c : UInt8) : ∀ l : Tx.B, (Tx.split c l).length ≤ l.length + 1
  | [] => by simp [Tx.split]
  | x :: r => by
    have ih := split_len c r
    rw [Tx.split]
    split
    · simp; omega
    · split
      · simp
      · rename_i p ps hp; rw [hp] at ih; simp at ih ⊢; omega
theorem leB_iff : ∀ a b : Tx.B, Tx.leB a b = true ↔ (Op.bytesLess a b = true ∨ a = b)
  | [], [] => by simp [Tx.leB]
  | [], _ :: _ => by simp [Tx.leB, Op.bytesLess]
  | _ :: _, [] => by simp [Tx.leB, Op.bytesLess]
  | x :: r, y :: s => by
    have ih := leB_iff r s
    by_cases hxy : x = y
    · subst hxy
      simp [Tx.leB, Op.bytesLess, ih]
    · simp [Tx.leB, Op.bytesLess, hxy, UInt8.lt_iff_toNat_lt]
theorem TI.cellk {w wr : World} {b : Nat} {t : TypeId} {x v : Value} {es : List Tx.B} {k : Nat} {last : Tx.B} {ids : List Tx.B} (h : TI w wr b t x v es k last ids) (hlt : k < es.length) :
    wr.cell? ⟨w.heap.size, k, none⟩ = some (.string ⟨(es[k]'hlt).toArray⟩) := by
  simp [World.cell?, h.row, strV, hlt]
theorem TI.next {w wr w2 w3 : World} {b : Nat} {t : TypeId} {x v : Value} {es : List Tx.B} {k : Nat} {last n y e : Tx.B} {ids : List Tx.B} (hb : b < w.heap.size) (h : TI w wr b t x v es k last ids) (hd : es.drop k = e :: es.drop (k + 1))
    (hy : Tx.entries last (e :: es.drop (k + 1)) = (Tx.entries n (es.drop (k + 1))).map (y :: ·)) (hC : Chg (fun _ => False) wr w2)
    (hr : ∃ v', Two w3 b t x v' ∧ w3.ownsRow (w.heap.size + 1) 9 1 v' (ids.length + 1) (ids.map strV ++ [.string ⟨y.toArray⟩]) ∧ (∀ k, v'.ownBlock = some k → v.ownBlock = some k ∨ w2.heap.size ≤ k) ∧ Chg (fun k => k = b ∨ v.ownBlock = some k) w2 w3) :
    ∃ v', TI w w3 b t x v' es (k + 1) n (ids ++ [y]) := by
  obtain ⟨v', r1, r2, r3, r4⟩ := hr
  have hlt := fun k hk => h.own.lt k hk
  have hrow := lt_of_block h.row
  have hs := hC.size
  refine ⟨v', ?_, by simp [h.len], r1, ?_, ?_, ?_⟩
  · rw [h.spec, hd, hy, Option.map_map]; congr 1; funext l; simp
  · rw [List.length_append, List.map_append]; exact r2
  · refine (r4.block _ (by omega) ?_).trans ((hC.block _ hrow (fun e => e)).trans h.row)
    rintro (e | e)
    · omega
    · have := (hlt _ e).1; omega
  · refine (h.chg.trans (hC.mono (fun _ _ e => e.elim))).trans' r4 ?_
    rintro i hi (e | e)
    · exact e
    · have := (hlt _ e).1; omega
theorem TI.done {w wr : World} {b : Nat} {t : TypeId} {x v : Value} {es : List Tx.B} {k : Nat} {last : Tx.B} {ids : List Tx.B} (h : TI w wr b t x v es k last ids) (hk : k = es.length) :
    ParsePost w b t x (Tx.entries [] es) (.returned .nilIface) wr := by
  have e : Tx.entries [] es = some ids := by rw [h.spec, hk, List.drop_length]; simp [Tx.entries]
  rw [e]
  refine ⟨rfl, v, h.two, ?_, h.chg⟩
  obtain ⟨hl, hc⟩ := h.own
  refine ⟨hl, ?_⟩
  rcases hc with hc | ⟨g, cap, cur, h0, h1, h2⟩
  · exact .inl hc
  · exact .inr ⟨g, cap, cur, h0, by omega, h2⟩
set_option maxHeartbeats 2000000 in
theorem tree_any (b : Nat) (t : TypeId) (x : Value) (s : ByteArray) (w : World) (hs : s.size < 16777216) (hne : ¬ s.data.toList = []) (h2 : Two w b t x (.slice none 0 0)) :
    Calls Tryd.prog 80 #[.pointer (some ⟨b, 0, none⟩), .string s] w (ParsePost w b t x (Tx.tree s.data.toList)) := by
  have C := Lib.hid (Wf.split_any s 44 w (by omega))
  have hspec : Tx.tree s.data.toList = Tx.entries [] (Tx.split 44 s.data.toList) := by rw [Tx.tree, if_neg hne]
  rw [hspec]
  have hall : ∀ e ∈ Tx.split 44 s.data.toList, e.length < 16777216 := fun e he => Nat.lt_of_le_of_lt (split_le 44 _ e he) hs
  generalize hes : Tx.split 44 s.data.toList = es at C hall ⊢
  have hle : es.length ≤ 16777216 := by rw [← hes]; exact Nat.le_trans (split_len 44 _) hs
  have t1 : (s.toList == []) = false := beq_eq_false_iff_ne.2 (by rw [ByteArray.toList_eq]; exact hne)
  have hb := h2.lt
  clear hspec hne hes hs
  have T0 : Hid (TI w (w.alloc (.cells (es.map fun l => Value.string ⟨l.toArray⟩).toArray 9)) b t x (.slice none 0 0) es 0 [] []) :=
    Lib.hid ⟨by simp, rfl, h2.chg ((Chg.refl (fun _ => False) w).alloc _) (fun e => e), World.ownsRow_nil _ _ _ _, heap_alloc_new w _, (Chg.refl _ _).alloc _⟩
  have hall := Lib.hid hall
  clear h2
  go_enter Tryd.func80, Tryd.ntmps80
  go_wp2_with (go_at_call 81; refine C.out.mono ?_; rintro e w' ⟨rfl, rfl⟩)
  go_loopw [5, 17] (fun l i wr => ∃ (k : Nat) (last : Tx.B) (ids : List Tx.B) (v : Value), k ≤ es.length ∧ i = .int .i64 k ∧ l = .string ⟨last.toArray⟩ ∧ TI w wr b t x v es k last ids) (fun _ i _ => es.length - (intOf i).toNat)
  case atStart => exact ⟨0, [], [], .slice none 0 0, Nat.zero_le _, rfl, rfl, T0.out⟩
  case round =>
    rename_i wr
    clear T0 C
    obtain ⟨k, last, ids, v, hk, rfl, rfl, hT⟩ := hrel
    by_cases hlt : k < es.length
    · have kc := hT.cellk hlt
      have hlen : (es[k]'hlt).length < 16777216 := hall.out _ (List.getElem_mem hlt)
      have hdrop : es.drop k = es[k]'hlt :: es.drop (k + 1) := List.drop_eq_getElem_cons hlt
      generalize es[k]'hlt = e at kc hlen hdrop
      have C1 := Lib.hid (Wf.cut_any ⟨e.toArray⟩ 61 wr (by unfold maxLen; show e.length ≤ _; omega))
      have hsz := hT.chg.size
      have HT := Lib.hid (And.intro hT hdrop)
      clear hT hdrop
      have hn8 := (cut_le 61 e).1
      have hy8 := (cut_le 61 e).2
      have Hno := Lib.hid (fun h => entries_no (last := last) (e := e) (r := es.drop (k + 1)) h)
      have Hyes := Lib.hid (fun h1 h2 h3 h4 h5 => entries_yes (last := last) (e := e) (r := es.drop (k + 1)) h1 h2 h3 h4 h5)
      change Hid (Calls _ _ _ _ (fun e' w' => e' = .returned (.tuple #[.string ⟨(Tx.cut 61 e).1.toArray⟩, .string ⟨(Tx.cut 61 e).2.1.toArray⟩, .bool (Tx.cut 61 e).2.2]) ∧ _)) at C1
      generalize Tx.cut 61 e = c at C1 hn8 hy8 Hno Hyes
      obtain ⟨n, y, ok⟩ := c
      simp only at C1 hn8 hy8
      have fin : Hid (Tx.entries last (e :: es.drop (k + 1)) = none → Tx.entries [] es = none) := Lib.hid (fun h => by rw [HT.out.1.spec, HT.out.2, h]; rfl)
      have base : Hid (Chg (fun k => k = b) w wr) := Lib.hid HT.out.1.chg
      cases ok
      · go_wp2_with (go_at_call 17; refine C1.out.mono ?_; rintro e w' ⟨rfl, q, rfl⟩)
        go_ret
        exact ParsePost.no (fin.out (Hno.out (.inl (by trivial)))) ((base.out.drewN _).alloc _)
      · by_cases hle1 : Tx.leB n last = true
        · have hor := (leB_iff n last).1 hle1
          have hle2 := Lib.hid hle1
          clear hle1
          rcases hor with hb1 | rfl
          · go_wp2_with (go_at_call 17; refine C1.out.mono ?_; rintro e w' ⟨rfl, q, rfl⟩)
            go_ret
            exact ParsePost.no (fin.out (Hno.out (.inr (.inl hle2.out)))) ((base.out.drewN _).alloc _)
          · go_wp2_with (go_at_call 17; refine C1.out.mono ?_; rintro e w' ⟨rfl, q, rfl⟩)
            go_ret
            exact ParsePost.no (fin.out (Hno.out (.inr (.inl hle2.out)))) ((base.out.drewN _).alloc _)
        · have hb1 : Op.bytesLess n last = false := by
            rw [Bool.eq_false_iff]; exact fun h => hle1 ((leB_iff n last).2 (.inl h))
          have hb2 : ¬ n = last := fun h => hle1 ((leB_iff n last).2 (.inr h))
          have hb3 : (n == last) = false := beq_eq_false_iff_ne.2 hb2
          have hle2 := Lib.hid (Bool.eq_false_iff.2 hle1)
          clear hle1
          by_cases h8 : n.length ≤ 8
          · obtain ⟨r, hr, C2⟩ := low_any ⟨n.toArray⟩ (by unfold maxLen; show n.length ≤ _; omega)
            have C2 := Lib.hid C2
            by_cases hr0 : r = []
            · have hlow : n.all Tx.isLow = true := hr.1 hr0
              have hr1 : r.isEmpty = true := by rw [hr0]; rfl
              have hr0 := Lib.hid hr0
              have hlow := Lib.hid hlow
              clear hr
              cases hid : Tx.idd y
              · have C3 := Lib.hid (fun w => Wf.name_no b ⟨y.toArray⟩ w (by unfold maxLen; show y.length ≤ _; omega) hid)
                have hid := Lib.hid hid
                go_wp2_with fail
                refine C1.out.mono ?_
                rintro e w' ⟨rfl, q, rfl⟩
                go_wp2_with fail
                refine (C2.out _).mono ?_
                rintro e w2 ⟨rfl, hb2w⟩
                go_wp2_with fail
                refine (C3.out _).mono ?_
                rintro e w3 ⟨⟨a, rfl⟩, hb3w⟩
                go_wp2
                go_ret
                exact ParsePost.no (fin.out (Hno.out (.inr (.inr (.inr (.inr hid.out)))))) (((base.out.drewN _).trans (Chg.of_below hb2w (fun k h1 h2 => absurd h2 (by omega)))).trans (Chg.of_below hb3w (fun k h1 h2 => absurd h2 (by omega))))
              · have hid := Lib.hid hid
                have hlk : ids.length < 1099511627776 := by have := HT.out.1.len; omega
                go_wp2_with fail
                refine C1.out.mono ?_
                rintro e w' ⟨rfl, q, rfl⟩
                go_wp2_with fail
                refine (C2.out _).mono ?_
                rintro e w2 ⟨rfl, hb2w⟩
                have hT := HT.out.1
                have hC2 : Chg (fun _ => False) wr w2 := ((Chg.refl _ wr).drewN q).trans (Chg.of_below hb2w (fun k h1 h2 => absurd h2 (by omega)))
                have two2 := hT.two.chg hC2 (fun e => e)
                have own2 := hC2.ownsRow hT.own (fun _ _ e => e)
                have hlt2 := fun k hk => hT.own.lt k hk
                have hs2 := hC2.size
                have row2 := (hC2.block w.heap.size (lt_of_block hT.row) (fun e => e)).trans hT.row
                have hvb : ∀ k, v.ownBlock = some k → k ≠ b := fun k hk e => by have := (hlt2 k hk).1; omega
                have hB2 : w.heap.size + 1 ≤ w2.heap.size := by have := lt_of_block hT.row; omega
                have C3 := Lib.hid (Wf.name_yes b (w.heap.size + 1) ids.length t x v (ids.map strV) ⟨y.toArray⟩ w2 (by unfold maxLen; show y.length ≤ _; omega) hid.out two2 own2 hvb hlk hB2)
                have K2 := Lib.hid (And.intro hC2 (And.intro row2 hlt2))
                clear hT hC2 two2 own2 hlt2 row2 hvb
                go_wp2_with fail
                refine C3.out.mono ?_
                rintro e w3 ⟨rfl, hres⟩
                have hres := Lib.hid hres
                go_wp2
                go_roundw
                case rel => exact ⟨k + 1, n, ids ++ [y], (TI.next hb HT.out.1 HT.out.2 (Hyes.out (by trivial) hle2.out h8 hlow.out hid.out) K2.out.1 hres.out).choose, by omega, by go_num, rfl, (TI.next hb HT.out.1 HT.out.2 (Hyes.out (by trivial) hle2.out h8 hlow.out hid.out) K2.out.1 hres.out).choose_spec⟩
                case measure => simp [intOf]; omega
            · have hlow : n.all Tx.isLow = false := by rw [Bool.eq_false_iff]; exact fun h => hr0 (hr.2 h)
              have hlow := Lib.hid hlow
              have hr1 : r.isEmpty = false := by cases r with | nil => exact absurd rfl hr0 | cons => rfl
              have hr0 := Lib.hid hr0
              clear hr
              go_wp2_with fail
              refine C1.out.mono ?_
              rintro e w' ⟨rfl, q, rfl⟩
              go_wp2_with fail
              refine (C2.out _).mono ?_
              rintro e w2 ⟨rfl, hb2w⟩
              go_wp2
              go_ret
              exact ParsePost.no (fin.out (Hno.out (.inr (.inr (.inr (.inl hlow.out)))))) (((base.out.drewN _).trans (Chg.of_below hb2w (fun k h1 h2 => absurd h2 (by omega)))).alloc _)
          · go_wp2_with (go_at_call 17; refine C1.out.mono ?_; rintro e w' ⟨rfl, q, rfl⟩)
            go_ret
            exact ParsePost.no (fin.out (Hno.out (.inr (.inr (.inl (by omega)))))) ((base.out.drewN _).alloc _)
    · have hk' : k = es.length := by omega
      have HT := Lib.hid hT
      clear hT
      go_wp2
      go_ret
      exact TI.done HT.out hk'
end Wg
end Go.Proofs.YtmanpggemmgnnaaDoor
