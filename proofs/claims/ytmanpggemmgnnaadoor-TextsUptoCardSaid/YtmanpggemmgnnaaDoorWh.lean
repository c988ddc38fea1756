/-
  WALK: the program's Commit.parse computes what the plain function Tx.commit says, and lays the names behind the object; Tree.parse at any text. Conditions: the text is shorter than 2^24 bytes; the object's block holds its text and no names yet.
-/
import Derived.Test.YtmanpggemmgnnaaDoorWg
namespace Go.Proofs.YtmanpggemmgnnaaDoor
open Go Go.RowKit Go.Shelf Ba Num Fr
namespace Wg
theorem tree_empty (b : Nat) (t : TypeId) (x : Value) (s : ByteArray) (w : World) (hne : s.data.toList = []) (h2 : Two w b t x (.slice none 0 0)) :
    Calls Tryd.prog 80 #[.pointer (some ⟨b, 0, none⟩), .string s] w (ParsePost w b t x (Tx.tree s.data.toList)) := by
  have t1 : (s.toList == []) = true := beq_iff_eq.2 (by rw [ByteArray.toList_eq]; exact hne)
  have hfin : ParsePost w b t x (Tx.tree s.data.toList) (.returned .nilIface) w := by
    rw [Tx.tree, if_pos hne]; exact ⟨rfl, _, h2, World.ownsRow_nil _ _ _ _, Chg.refl _ _⟩
  have hfin := Lib.hid hfin
  clear hne h2
  go_enter Tryd.func80, Tryd.ntmps80
  go_wp2
  go_ret
  exact hfin.out
theorem tree_all (b : Nat) (t : TypeId) (x : Value) (s : ByteArray) (w : World) (hs : s.size < 16777216) (h2 : Two w b t x (.slice none 0 0)) :
    Calls Tryd.prog 80 #[.pointer (some ⟨b, 0, none⟩), .string s] w (ParsePost w b t x (Tx.tree s.data.toList)) := by
  by_cases h : s.data.toList = []
  · exact tree_empty b t x s w h h2
  · exact tree_any b t x s w hs h h2
end Wg
namespace Wh
open Wg
/-- The names so far: the object's block, the row behind it. -/
structure NI (w wr : World) (b : Nat) (t : TypeId) (x v : Value) (ids : List Tx.B) : Prop where
  two : Two wr b t x v
  own : wr.ownsRow w.heap.size 9 1 v ids.length (ids.map strV)
  chg : Chg (fun k => k = b) w wr
theorem NI.next {w wr w3 : World} {b : Nat} {t : TypeId} {x v : Value} {ids : List Tx.B} {y : Tx.B} (h : NI w wr b t x v ids)
    (hr : ∃ v', Two w3 b t x v' ∧ w3.ownsRow w.heap.size 9 1 v' (ids.length + 1) (ids.map strV ++ [.string ⟨y.toArray⟩]) ∧ (∀ k, v'.ownBlock = some k → v.ownBlock = some k ∨ wr.heap.size ≤ k) ∧ Chg (fun k => k = b ∨ v.ownBlock = some k) wr w3) :
    ∃ v', NI w w3 b t x v' (ids ++ [y]) ∧ (∀ k, v'.ownBlock = some k → v.ownBlock = some k ∨ wr.heap.size ≤ k) ∧ Chg (fun k => k = b ∨ v.ownBlock = some k) wr w3 := by
  obtain ⟨v', r1, r2, r3, r4⟩ := hr
  refine ⟨v', ⟨r1, ?_, ?_⟩, r3, r4⟩
  · rw [List.length_append, List.map_append]; exact r2
  · refine h.chg.trans' r4 ?_
    rintro i hi (e | e)
    · exact e
    · have := (h.own.lt _ e).1; omega
theorem NI.carry {S : Nat → Prop} {w wr w2 : World} {b : Nat} {t : TypeId} {x v : Value} {ids : List Tx.B} (h : NI w wr b t x v ids) (hc : Chg S wr w2) (hs : ∀ k, ¬ S k) : NI w w2 b t x v ids :=
  ⟨h.two.chg hc (hs _), hc.ownsRow h.own (fun k _ => hs k), h.chg.trans' hc (fun i _ e => absurd e (hs i))⟩
theorem NI.start {w : World} {b : Nat} {t : TypeId} {x : Value} (h : Two w b t x (.slice none 0 0)) : NI w w b t x (.slice none 0 0) [] :=
  ⟨h, World.ownsRow_nil _ _ _ _, Chg.refl _ _⟩
/-- One name more. -/
theorem name_ni {w wr : World} {b : Nat} {t : TypeId} {x v : Value} {ids : List Tx.B} {y : Tx.B} (hb : b < w.heap.size) (h : NI w wr b t x v ids) (hn : ids.length < 1099511627776) (hy : y.length < 16777216) (hid : Tx.idd y = true) :
    Calls Tryd.prog 83 #[.pointer (some ⟨b, 0, none⟩), .string ⟨y.toArray⟩] wr fun e w3 => e = .returned .nilIface ∧ ∃ v', NI w w3 b t x v' (ids ++ [y]) ∧ (∀ k, v'.ownBlock = some k → v.ownBlock = some k ∨ wr.heap.size ≤ k) ∧ Chg (fun k => k = b ∨ v.ownBlock = some k) wr w3 :=
  (Wf.name_yes b w.heap.size ids.length t x v (ids.map strV) ⟨y.toArray⟩ wr (by unfold maxLen; show y.length ≤ _; omega) hid h.two h.own (fun k hk e => by have := (h.own.lt k hk).1; omega) hn h.chg.size).mono
    fun e w3 hh => ⟨hh.1, NI.next h hh.2⟩
theorem NI.no {w wr w2 : World} {b : Nat} {t : TypeId} {x v : Value} {ids : List Tx.B} {res : Option (List Tx.B)} {a : Addr} (h : NI w wr b t x v ids) (hb : Below wr.heap.size wr w2) (hr : res = none) : ParsePost w b t x res (.returned (.iface 50 (.pointer (some a)))) w2 :=
  ParsePost.no hr (h.chg.trans' (Chg.ofB hb) (fun _ _ (e : False) => e.elim))
theorem NI.yes {w wr : World} {b : Nat} {t : TypeId} {x v : Value} {ids : List Tx.B} {res : Option (List Tx.B)} (h : NI w wr b t x v ids) (hr : res = some ids) : ParsePost w b t x res (.returned .nilIface) wr := by
  subst hr; exact ⟨rfl, v, h.two, h.own, h.chg⟩
/-- The parents so far: k of the pieces es, which lie in block N2. -/
structure CI (w wr : World) (b : Nat) (t : TypeId) (x v : Value) (N2 : Nat) (es : List Tx.B) (k : Nat) (tr : Tx.B) : Prop where
  ni : NI w wr b t x v (tr :: es.take k)
  row : wr.heap[N2]? = some (.cells (es.map fun l => Value.string ⟨l.toArray⟩).toArray 9 (0, 0))
  ne : ∀ g, v.ownBlock = some g → g ≠ N2
  ok : ∀ (j : Nat) (hj : j < es.length), j < k → Tx.idd (es[j]) = true
  nb : N2 ≠ b
theorem CI.cellk {w wr : World} {b : Nat} {t : TypeId} {x v : Value} {N2 : Nat} {es : List Tx.B} {k : Nat} {tr : Tx.B} (h : CI w wr b t x v N2 es k tr) (hlt : k < es.length) :
    wr.cell? ⟨N2, k, none⟩ = some (.string ⟨(es[k]'hlt).toArray⟩) := by
  simp [World.cell?, h.row, hlt]
theorem CI.next {w wr w4 : World} {b : Nat} {t : TypeId} {x v v' : Value} {N2 : Nat} {es : List Tx.B} {k : Nat} {tr : Tx.B} (h : CI w wr b t x v N2 es k tr) (hlt : k < es.length) (hid : Tx.idd (es[k]'hlt) = true)
    (h1 : NI w w4 b t x v' ((tr :: es.take k) ++ [es[k]'hlt])) (h2 : ∀ g, v'.ownBlock = some g → v.ownBlock = some g ∨ wr.heap.size ≤ g) (h3 : Chg (fun g => g = b ∨ v.ownBlock = some g) wr w4) : CI w w4 b t x v' N2 es (k + 1) tr := by
  have hN := lt_of_block h.row
  refine ⟨by rw [List.take_succ_eq_append_getElem hlt]; exact h1, ?_, ?_, ?_, h.nb⟩
  · refine (h3.block N2 hN ?_).trans h.row
    rintro (e | e)
    · exact h.nb e
    · exact h.ne _ e rfl
  · intro g hg
    rcases h2 g hg with e | e
    · exact h.ne _ e
    · omega
  · intro j hj hjk
    by_cases e : j = k
    · subst e; exact hid
    · exact h.ok j hj (by omega)
theorem cut_size {c : UInt8} {l : Tx.B} {m : Nat} (h : l.length < m) : (Tx.cut c l).1.length < m ∧ (Tx.cut c l).2.1.length < m := by
  have := cut_le c l; omega
/-- What a commit's text has become: the pieces. -/
theorem commit_eq (l tr rest ps msg : Tx.B) (f f2 : Bool) (h1 : Tx.cut 32 l = (tr, rest, f)) (h2 : Tx.cut 32 rest = (ps, msg, f2)) :
    Tx.commit l = if f2 && Tx.idd tr && Tx.line msg 20 then (if ps = [45] then some [tr] else if (Tx.split 43 ps).length ≤ 2 && (Tx.split 43 ps).all Tx.idd then some (tr :: Tx.split 43 ps) else none) else none := by
  simp only [Tx.commit, h1, h2]
set_option maxHeartbeats 2000000 in
theorem commit_any (b : Nat) (t : TypeId) (x : Value) (s : ByteArray) (w : World) (hs : s.size < 16777216) (h2 : Two w b t x (.slice none 0 0)) :
    Calls Tryd.prog 107 #[.pointer (some ⟨b, 0, none⟩), .string s] w (ParsePost w b t x (Tx.commit s.data.toList)) := by
  have C1 := Wf.cut_any s 32 w (by unfold maxLen; omega)
  have hl1 := cut_size (c := 32) (l := s.data.toList) (m := 16777216) hs
  generalize hc1 : Tx.cut 32 s.data.toList = c1 at C1 hl1
  obtain ⟨tr, rest, f⟩ := c1
  have C2 := Lib.hid (fun w => Wf.cut_any ⟨rest.toArray⟩ 32 w (by unfold maxLen; show rest.length ≤ _; simp only at hl1; omega))
  have hl2 := cut_size (c := 32) (l := rest) (m := 16777216) hl1.2
  change Hid (∀ w, Calls _ _ _ w (fun e' w' => e' = .returned (.tuple #[.string ⟨(Tx.cut 32 rest).1.toArray⟩, .string ⟨(Tx.cut 32 rest).2.1.toArray⟩, .bool (Tx.cut 32 rest).2.2]) ∧ ∃ n, w' = w.drewN n)) at C2
  generalize hc2 : Tx.cut 32 rest = c2 at C2 hl2
  obtain ⟨ps, msg, f2⟩ := c2
  have hspec := commit_eq _ tr rest ps msg f f2 hc1 hc2
  simp only at C1 hl1 hl2
  have C1 := Lib.hid C1
  have hb := h2.lt
  have N0 := Lib.hid (NI.start h2)
  rw [hspec]
  clear hspec hc1 hc2 h2 hs
  have hltr := hl1.1
  have hlps := hl2.1
  have hlmsg := hl2.2
  clear hl1 hl2
  cases f2
  · have hno : (if false && Tx.idd tr && Tx.line msg 20 then (if ps = [45] then some [tr] else if (Tx.split 43 ps).length ≤ 2 && (Tx.split 43 ps).all Tx.idd then some (tr :: Tx.split 43 ps) else none) else none) = (none : Option (List Tx.B)) := by simp
    rw [hno]
    go_enter Tryd.func107, Tryd.ntmps107
    go_wp2_with fail
    refine C1.out.mono ?_
    rintro e w' ⟨rfl, q, rfl⟩
    go_wp2_with fail
    refine (C2.out _).mono ?_
    rintro e w' ⟨rfl, q2, rfl⟩
    go_wp2
    go_ret
    exact ParsePost.no rfl ((N0.out.chg.drewN _).alloc _)
  · cases hid : Tx.idd tr
    · have C3 := Lib.hid (fun w => Wf.name_no b ⟨tr.toArray⟩ w (by unfold maxLen; show tr.length ≤ _; omega) hid)
      have hno : (if true && false && Tx.line msg 20 then (if ps = [45] then some [tr] else if (Tx.split 43 ps).length ≤ 2 && (Tx.split 43 ps).all Tx.idd then some (tr :: Tx.split 43 ps) else none) else none) = (none : Option (List Tx.B)) := by simp
      rw [hno]
      clear hid
      go_enter Tryd.func107, Tryd.ntmps107
      go_wp2_with fail
      refine C1.out.mono ?_
      rintro e w' ⟨rfl, q, rfl⟩
      go_wp2_with fail
      refine (C2.out _).mono ?_
      rintro e w' ⟨rfl, q2, rfl⟩
      go_wp2_with fail
      refine (C3.out _).mono ?_
      rintro e w3 ⟨⟨a, rfl⟩, hb3⟩
      go_wp2
      go_ret
      exact (N0.out.carry ((Chg.refl (fun _ => False) w).drewN (q + q2)) (fun _ e => e)).no hb3 rfl
    · have C3 := Lib.hid (fun w1 (h : NI w w1 b t x (.slice none 0 0) []) => name_ni (ids := []) hb h (by show 0 < _; omega) hltr hid)
      clear hid
      generalize hres : (if true && true && Tx.line msg 20 then (if ps = [45] then some [tr] else if (Tx.split 43 ps).length ≤ 2 && (Tx.split 43 ps).all Tx.idd then some (tr :: Tx.split 43 ps) else none) else none) = res
      have hres := Lib.hid hres
      go_enter Tryd.func107, Tryd.ntmps107
      go_wp2_with fail
      refine C1.out.mono ?_
      rintro e w' ⟨rfl, q, rfl⟩
      go_wp2_with fail
      refine (C2.out _).mono ?_
      rintro e w' ⟨rfl, q2, rfl⟩
      go_wp2_with fail
      refine (C3.out _ (N0.out.carry ((Chg.refl (fun _ => False) w).drewN (q + q2)) (fun _ e => e))).mono ?_
      rintro e w3 ⟨rfl, hN⟩
      have hN := Lib.hid hN
      obtain ⟨v, hNI, hown, _⟩ := hN.out
      have hNI := Lib.hid hNI
      clear hN C1 C2 C3 N0
      by_cases hd : ps = [45]
      · have t1 : (ps == [45]) = true := beq_iff_eq.2 hd
        have Hd := Lib.hid hd
        clear hd
        cases hln : Tx.line msg 20
        · have C4 := Lib.hid (fun w => Wf.line_no ⟨msg.toArray⟩ 20 w (by decide) hln)
          have hln := Lib.hid hln
          go_wp2_with (go_at_call 77; refine (C4.out _).mono ?_; rintro e w4 ⟨⟨a, rfl⟩, hb4⟩)
          go_ret
          exact hNI.out.no hb4 (by rw [← hres.out, hln.out]; rfl)
        · have C4 := Lib.hid (fun w => Wf.line_yes ⟨msg.toArray⟩ 20 w (by decide) hln)
          have hln := Lib.hid hln
          go_wp2_with (go_at_call 77; refine (C4.out _).mono ?_; rintro e w4 ⟨rfl, rfl⟩)
          go_ret
          exact hNI.out.yes (by rw [← hres.out, hln.out, if_pos Hd.out]; rfl)
      · have t1 : (ps == [45]) = false := beq_eq_false_iff_ne.2 hd
        have Hd := Lib.hid hd
        clear hd
        have C4 := Lib.hid (fun w => Wf.split_any ⟨ps.toArray⟩ 43 w (by show ps.length < _; omega))
        have hall : ∀ e ∈ Tx.split 43 ps, e.length < 16777216 := fun e he => Nat.lt_of_le_of_lt (split_le 43 _ e he) hlps
        change Hid (∀ w, Calls _ _ _ w (fun e w' => e = .returned (.slice (some ⟨w.heap.size, 0, none⟩) (Tx.split 43 ps).length (Tx.split 43 ps).length) ∧ w' = w.alloc (.cells ((Tx.split 43 ps).map fun l => Value.string ⟨l.toArray⟩).toArray 9))) at C4
        have hmx : (Tx.split 43 ps).length ≤ 16777216 := Nat.le_trans (split_len 43 ps) hlps
        have hres2 : Hid ((if Tx.line msg 20 then (if (Tx.split 43 ps).length ≤ 2 && (Tx.split 43 ps).all Tx.idd then some (tr :: Tx.split 43 ps) else none) else none) = res) := Lib.hid (by rw [← hres.out, if_neg Hd.out]; rfl)
        generalize Tx.split 43 ps = es at C4 hall hmx hres2
        have hall := Lib.hid hall
        clear hres
        by_cases h3 : es.length ≤ 2
        · have hCI : CI w (w3.alloc (.cells (es.map fun l => Value.string ⟨l.toArray⟩).toArray 9)) b t x v w3.heap.size es 0 tr :=
            ⟨by simpa using hNI.out.carry ((Chg.refl (fun _ => False) w3).alloc _) (fun _ e => e), heap_alloc_new w3 _, fun k hk => Nat.ne_of_lt (hNI.out.own.lt k hk).2, fun j _ hj => absurd hj (by omega), Ne.symm (Nat.ne_of_lt (Nat.lt_of_lt_of_le hb hNI.out.chg.size))⟩
          have hCI := Lib.hid hCI
          generalize hN2 : w3.heap.size = N2 at hCI
          go_wp2_with (go_at_call 81; refine (C4.out _).mono ?_; rintro e w4 ⟨rfl, rfl⟩)
          go_loopw [52] (fun i wr => ∃ (k : Nat) (v : Value), k ≤ es.length ∧ i = .int .i64 k ∧ CI w wr b t x v N2 es k tr) (fun i _ => es.length - (intOf i).toNat)
          case atStart => exact ⟨0, v, Nat.zero_le _, rfl, hCI.out⟩
          case round =>
            rename_i wr
            clear hCI hNI hN2 C4 hown
            obtain ⟨k, v, hk, rfl, hCI⟩ := hrel
            by_cases hlt : k < es.length
            · have kc := hCI.cellk hlt
              have hlen : (es[k]'hlt).length < 16777216 := hall.out _ (List.getElem_mem hlt)
              have HC := Lib.hid hCI
              cases hid : Tx.idd (es[k]'hlt)
              · have hno : res = none := by
                  rw [← hres2.out]
                  have : es.all Tx.idd = false := by
                    rw [Bool.eq_false_iff, ne_eq, List.all_eq_true]
                    intro h; have := h _ (List.getElem_mem hlt); rw [hid] at this; cases this
                  simp [this]
                have C3 := Lib.hid (Wf.name_no b ⟨(es[k]'hlt).toArray⟩ wr (by unfold maxLen; show (es[k]'hlt).length ≤ _; omega) hid)
                have hno := Lib.hid hno
                generalize es[k]'hlt = e at kc C3
                clear hid hCI hres2 hlen
                go_wp2_with (go_at_call 83; refine C3.out.mono ?_; rintro e w4 ⟨⟨a, rfl⟩, hb4⟩)
                go_ret
                exact HC.out.ni.no hb4 hno.out
              · have C3 := Lib.hid (name_ni hb hCI.ni (by simp; omega) hlen hid)
                have HN := Lib.hid (fun v' w4 h1 h2 h3 => HC.out.next (v' := v') (w4 := w4) hlt hid h1 h2 h3)
                generalize es[k]'hlt = e at kc C3 HN
                clear hid hCI hres2 hlen
                go_wp2_with (go_at_call 83; refine C3.out.mono ?_; rintro e w4 ⟨rfl, hN4⟩)
                obtain ⟨v', g1, g2, g3⟩ := hN4
                go_roundw
                case rel => exact ⟨k + 1, v', by omega, by go_num, HN.out _ _ g1 g2 g3⟩
                case measure => simp [intOf]; omega
            · have hk' : k = es.length := by omega
              have hall2 : es.all Tx.idd = true := by
                rw [List.all_eq_true]; intro e he
                obtain ⟨j, hj, rfl⟩ := List.getElem_of_mem he
                exact hCI.ok j hj (by omega)
              have hni : NI w wr b t x v (tr :: es) := by have := hCI.ni; rw [hk', List.take_length] at this; exact this
              have hni := Lib.hid hni
              cases hln : Tx.line msg 20
              · have C4 := Lib.hid (Wf.line_no ⟨msg.toArray⟩ 20 wr (by decide) hln)
                have hno : res = none := by rw [← hres2.out, hln]; rfl
                have hno := Lib.hid hno
                clear hln hCI hres2 hall2 hk'
                go_wp2_with (go_at_call 77; refine C4.out.mono ?_; rintro e w4 ⟨⟨a, rfl⟩, hb4⟩)
                go_ret
                exact hni.out.no hb4 hno.out
              · have C4 := Lib.hid (Wf.line_yes ⟨msg.toArray⟩ 20 wr (by decide) hln)
                have hyes : res = some (tr :: es) := by rw [← hres2.out, hln, hall2]; simp [h3]
                have hyes := Lib.hid hyes
                clear hln hCI hres2 hall2 hk'
                go_wp2_with (go_at_call 77; refine C4.out.mono ?_; rintro e w4 ⟨rfl, rfl⟩)
                go_ret
                exact hni.out.yes hyes.out
        · go_wp2_with (go_at_call 81; refine (C4.out _).mono ?_; rintro e w4 ⟨rfl, rfl⟩)
          go_ret
          exact ParsePost.no (by rw [← hres2.out]; simp [h3]) ((hNI.out.chg.alloc _).alloc _)
end Wh
end Go.Proofs.YtmanpggemmgnnaaDoor
