/-
  WALK: the reference's commit computes what the plain function Tx.commit says. Condition: the text is shorter than 2^24 bytes.
-/
import Derived.Test.YtmanpggemmgnnaaDoorWk
namespace Go.Proofs.YtmanpggemmgnnaaDoor
open Go Go.RowKit Go.Shelf Ba Num Fr
namespace Wl
open Wg Wi Wj Wk
theorem hex_no {c : UInt8} {l : Tx.B} (h : Tx.idd l = true) (hc : Tx.isHexB c = false) : ∀ j (hj : j < l.length), l[j] ≠ c := by
  intro j hj e
  rw [Tx.idd, Bool.and_eq_true] at h
  have := List.all_eq_true.1 h.1 _ (List.getElem_mem hj)
  rw [e, hc] at this; cases this
/-- What stands behind the word 'commit', as the reference reads it. -/
theorem commit_ref (tr ps p q : Tx.B) (two : Bool) (hc : Tx.cut 43 ps = (p, q, two)) :
    (if (Tx.split 43 ps).length ≤ 2 && (Tx.split 43 ps).all Tx.idd then some (tr :: Tx.split 43 ps) else none) =
    (if Tx.idd p then (if two then (if Tx.idd q then some [tr, p, q] else none) else some [tr, p]) else none : Option (List Tx.B)) := by
  have hs := split_cut 43 ps
  rw [hc] at hs
  simp only at hs
  cases two
  · simp only [Bool.false_eq_true, if_false] at hs ⊢
    rw [hs]
    cases h : Tx.idd p <;> simp [h]
  · simp only [if_true] at hs ⊢
    rw [hs]
    cases h : Tx.idd p
    · simp [h]
    · cases h2 : Tx.idd q
      · have : ¬ ((p :: Tx.split 43 q).length ≤ 2 ∧ (p :: Tx.split 43 q).all Tx.idd = true) := by
          rintro ⟨h3, h4⟩
          have hq := split_cut 43 q
          have hl : (Tx.cut 43 q).2.2 = false := by
            cases h5 : (Tx.cut 43 q).2.2
            · rfl
            · rw [h5, if_pos rfl] at hq
              have h6 := split_cut 43 (Tx.cut 43 q).2.1
              rw [hq, h6] at h3
              simp at h3
          rw [hl] at hq
          have he : (Tx.cut 43 q).1 = q := by
            rcases Lx.idx_cases q 43 with ⟨k, hk, he, hn, _⟩ | ⟨hn, _⟩
            · rw [Tx.cut_at hk hn he] at hl; cases hl
            · rw [Tx.cut_none hn]
          rw [he] at hq
          rw [hq] at h4
          simp [h2] at h4
        simp only [Bool.and_eq_true, decide_eq_true_eq, this, if_false]
        simp
      · rw [split_none_of h2]
        simp [h, h2]
where
  split_none_of {q : Tx.B} (h : Tx.idd q = true) : Tx.split 43 q = [q] := Lx.split_none (hex_no h (by decide))
theorem own_one (w : World) (B : Nat) (l : Tx.B) (hB : B ≤ w.heap.size) : (w.alloc (.cells #[.string ⟨l.toArray⟩] 9)).ownsRow B 9 1 (.slice (some ⟨w.heap.size, 0, none⟩) 1 1) 1 [strV l] :=
  ⟨rfl, .inr ⟨w.heap.size, 1, _, rfl, hB, heap_alloc_new w _, Nat.le_refl _, by decide, rfl, rfl⟩⟩
theorem cell_newAt (W : World) (v : Value) (t : TypeId) (g : Nat) (hg : g = W.heap.size) : (W.alloc (.cells #[v] t)).cell? (Addr.add ⟨g, 0, none⟩ 0) = some v := by
  subst hg; simp [Addr.add]
set_option maxHeartbeats 4000000 in
set_option maxRecDepth 100000 in
theorem commit_any (s : ByteArray) (w : World) (hs : s.size < 16777216) :
    Calls Tryd.prog 21 #[.string s] w (LookAll w (Tx.commit s.data.toList)) := by
  obtain ⟨i0, hi, hz0, hz1, hz2⟩ := info_parts Tryd.infoS
  have C1 := Wa.cut_any s 32 w (by unfold maxLen; omega)
  have hl1 := Wh.cut_size (c := 32) (l := s.data.toList) (m := 16777216) hs
  generalize hc1 : Tx.cut 32 s.data.toList = c1 at C1 hl1
  obtain ⟨tr, rest, f⟩ := c1
  have C2 := fun w => Wa.cut_any ⟨rest.toArray⟩ 32 w (by unfold maxLen; show rest.length ≤ _; simp only at hl1; omega)
  have hl2 := Wh.cut_size (c := 32) (l := rest) (m := 16777216) hl1.2
  change ∀ w, Calls _ _ _ w (fun e' w' => e' = .returned (.tuple #[.string ⟨(Tx.cut 32 rest).1.toArray⟩, .string ⟨(Tx.cut 32 rest).2.1.toArray⟩, .bool (Tx.cut 32 rest).2.2]) ∧ ∃ n, w' = w.drewN n) at C2
  have hff : f = false → (Tx.cut 32 rest).2.2 = false := by
    rintro rfl
    have : rest = [] := by
      rcases Lx.idx_cases s.data.toList 32 with ⟨k, hk, he, hn, _⟩ | ⟨hn, _⟩
      · rw [Tx.cut_at hk hn he] at hc1; cases hc1
      · rw [Tx.cut_none hn] at hc1; cases hc1; rfl
    subst this; rfl
  generalize hc2 : Tx.cut 32 rest = c2 at C2 hl2 hff
  obtain ⟨ps, msg, f2⟩ := c2
  have hspec := Wh.commit_eq _ tr rest ps msg f f2 hc1 hc2
  simp only at C1 C2 hl1 hl2 hff
  rw [hspec]
  clear hspec hc1 hc2 hs
  have hltr := hl1.1
  have hlps := hl2.1
  have hlmsg := hl2.2
  clear hl1 hl2
  have C3 := fun w => Wa.id_any ⟨tr.toArray⟩ w (by unfold maxLen; show tr.length ≤ _; omega)
  have C4 := fun w => Wa.line_any ⟨msg.toArray⟩ 20 w (by unfold maxLen; show msg.length ≤ _; omega) (by decide)
  change ∀ w, Calls _ _ _ w (fun e' w' => e' = .returned (.bool (Tx.idd tr)) ∧ w' = w) at C3
  change ∀ w, Calls _ _ _ w (fun e' w' => e' = .returned (.bool (Tx.line msg 20)) ∧ w' = w) at C4
  have C1 := Lib.hid C1
  have C2 := Lib.hid C2
  have hres : ∃ res, (if f2 && Tx.idd tr && Tx.line msg 20 then (if ps = [45] then some [tr] else if (Tx.split 43 ps).length ≤ 2 && (Tx.split 43 ps).all Tx.idd then some (tr :: Tx.split 43 ps) else none) else none : Option (List Tx.B)) = res := ⟨_, rfl⟩
  obtain ⟨res, hres⟩ := hres
  rw [hres]
  generalize Tx.idd tr = a at C3 hres
  generalize Tx.line msg 20 = b at C4 hres
  have C3 := Lib.hid C3
  have C4 := Lib.hid C4
  by_cases hbad : f = false ∨ f2 = false ∨ a = false ∨ b = false
  · have hno : res = none := by
      rw [← hres]
      rcases hbad with h | h | h | h
      · rw [hff h]; rfl
      · rw [h]; rfl
      · rw [h]; cases f2 <;> rfl
      · rw [h]; cases f2 <;> cases a <;> rfl
    subst hno
    clear hres hff
    cases f <;> cases f2 <;> cases a <;> cases b
    case true.true.true.true => simp at hbad
    all_goals
      clear hbad
      go_enter Tryd.func21, Tryd.ntmps21
      go_wp2_with fail
      refine C1.out.mono ?_
      rintro e w' ⟨rfl, q1, rfl⟩
      go_wp2_with fail
      refine (C2.out _).mono ?_
      rintro e w' ⟨rfl, q2, rfl⟩
      go_wp2_with fail
      refine (C3.out _).mono ?_
      rintro e w' ⟨rfl, rfl⟩
      go_wp2_with fail
      refine (C4.out _).mono ?_
      rintro e w' ⟨rfl, rfl⟩
      go_wp2
      go_ret2
      exact ⟨rfl, below_drew (Below.refl _ _) _⟩
  · have h1 : f = true := by cases f; exact absurd (.inl rfl) hbad; rfl
    have h2 : f2 = true := by cases f2; exact absurd (.inr (.inl rfl)) hbad; rfl
    have h3 : a = true := by cases a; exact absurd (.inr (.inr (.inl rfl))) hbad; rfl
    have h4 : b = true := by cases b; exact absurd (.inr (.inr (.inr rfl))) hbad; rfl
    subst h1 h2 h3 h4
    clear hbad hff
    simp only [Bool.and_self, if_true] at hres
    by_cases hd : ps = [45]
    · rw [if_pos hd] at hres
      have t1 : (ps == [45]) = true := beq_iff_eq.2 hd
      subst hres
      clear hd
      go_enter Tryd.func21, Tryd.ntmps21
      go_wp2_with fail
      refine C1.out.mono ?_
      rintro e w' ⟨rfl, q1, rfl⟩
      go_wp2_with fail
      refine (C2.out _).mono ?_
      rintro e w' ⟨rfl, q2, rfl⟩
      go_wp2_with fail
      refine (C3.out _).mono ?_
      rintro e w' ⟨rfl, rfl⟩
      go_wp2_with fail
      refine (C4.out _).mono ?_
      rintro e w' ⟨rfl, rfl⟩
      go_wp2
      go_ret2
      exact ⟨_, rfl, own_one (w.drewN (q1 + q2)) _ tr (Nat.le_refl _), (below_drew (Below.refl _ _) _).alloc (Nat.le_refl _) _⟩
    · rw [if_neg hd] at hres
      have t1 : (ps == [45]) = false := beq_eq_false_iff_ne.2 hd
      have C5 := fun w => Wa.cut_any ⟨ps.toArray⟩ 43 w (by unfold maxLen; show ps.length ≤ _; omega)
      change ∀ w, Calls _ _ _ w (fun e' w' => e' = .returned (.tuple #[.string ⟨(Tx.cut 43 ps).1.toArray⟩, .string ⟨(Tx.cut 43 ps).2.1.toArray⟩, .bool (Tx.cut 43 ps).2.2]) ∧ ∃ n, w' = w.drewN n) at C5
      have hl5 := Wh.cut_size (c := 43) (l := ps) (m := 16777216) hlps
      generalize hc5 : Tx.cut 43 ps = c5 at C5 hl5
      obtain ⟨p, q, two⟩ := c5
      rw [commit_ref tr ps p q two hc5] at hres
      simp only at C5 hl5
      have C6 := fun w => Wa.id_any ⟨p.toArray⟩ w (by unfold maxLen; show p.length ≤ _; omega)
      have C7 := fun w => Wa.id_any ⟨q.toArray⟩ w (by unfold maxLen; show q.length ≤ _; omega)
      change ∀ w, Calls _ _ _ w (fun e' w' => e' = .returned (.bool (Tx.idd p)) ∧ w' = w) at C6
      change ∀ w, Calls _ _ _ w (fun e' w' => e' = .returned (.bool (Tx.idd q)) ∧ w' = w) at C7
      generalize Tx.idd p = ip at C6 hres
      generalize Tx.idd q = iq at C7 hres
      have C5 := Lib.hid C5
      have C6 := Lib.hid C6
      have C7 := Lib.hid C7
      clear hd hc5
      have Hown := Lib.hid (fun k => own_one (w.drewN k) w.heap.size tr (Nat.le_refl _))
      cases ip
      · simp only [Bool.false_eq_true, if_false] at hres
        subst hres
        go_enter Tryd.func21, Tryd.ntmps21
        go_wp2_with fail
        refine C1.out.mono ?_
        rintro e w' ⟨rfl, q1, rfl⟩
        go_wp2_with fail
        refine (C2.out _).mono ?_
        rintro e w' ⟨rfl, q2, rfl⟩
        go_wp2_with fail
        refine (C3.out _).mono ?_
        rintro e w' ⟨rfl, rfl⟩
        go_wp2_with fail
        refine (C4.out _).mono ?_
        rintro e w' ⟨rfl, rfl⟩
        go_wp2_with fail
        refine (C5.out _).mono ?_
        rintro e w' ⟨rfl, q5, rfl⟩
        go_wp2_with fail
        refine (C6.out _).mono ?_
        rintro e w' ⟨rfl, rfl⟩
        go_wp2
        go_ret2
        exact ⟨rfl, below_drew ((below_drew (Below.refl _ _) _).alloc (Nat.le_refl _) _) _⟩
      · simp only [if_true] at hres
        cases two
        · simp only [Bool.false_eq_true, if_false] at hres
          subst hres
          go_enter Tryd.func21, Tryd.ntmps21
          go_wp2_with fail
          refine C1.out.mono ?_
          rintro e w' ⟨rfl, q1, rfl⟩
          go_wp2_with fail
          refine (C2.out _).mono ?_
          rintro e w' ⟨rfl, q2, rfl⟩
          go_wp2_with fail
          refine (C3.out _).mono ?_
          rintro e w' ⟨rfl, rfl⟩
          go_wp2_with fail
          refine (C4.out _).mono ?_
          rintro e w' ⟨rfl, rfl⟩
          go_wp2_with fail
          refine (C5.out _).mono ?_
          rintro e w' ⟨rfl, q5, rfl⟩
          go_wp2_with fail
          refine (C6.out _).mono ?_
          rintro e w' ⟨rfl, rfl⟩
          go_wp2_with (at_builtin; refine wpList_append_own _ rfl (.tmp 61) (.tmp 63) 28 rfl w.heap.size 9 i0 (.string ByteArray.empty) 1 16 Tryd.underlying28 hi hz0 hz1 hz2 rfl (by decide) (.slice (some ⟨w.heap.size, 0, none⟩) 1 1) 1 [strV tr] rfl (World.ownsRow.alloc (show World.ownsRow _ _ _ _ _ _ _ from Hown.out (q1 + q2)) _) ⟨w.heap.size + 1, 0, none⟩ 1 1 [.string ⟨p.toArray⟩] rfl rfl ?c1 ?c2 ?c3 ?c4 ?c5 ?_)
          case c1 => intro j u hj; match j, hj with | 0, hj => simp at hj; subst hj; exact cell_newAt _ _ _ _ (by simp [World.drewN])
          case c2 => intro u hu; simp at hu; subst hu; rfl
          case c3 => decide
          case c4 => decide
          case c5 => simp only [World.size_alloc]; simp only [World.drewN, World.size_alloc]; omega
          intro v' w3 hown3 hgrow _
          have hg3 : Below w.heap.size w w3 := Below.grown ((below_drew ((below_drew (Below.refl w.heap.size w) (q1 + q2)).alloc (Nat.le_refl _) _) q5).alloc (by simp only [World.drewN, World.size_alloc]; omega) _) hgrow (by simp only [World.drewN, World.size_alloc]; omega) (fun k hk => by cases hk; exact Nat.le_refl _)
          have K := Lib.hid (And.intro hown3 hg3)
          clear hown3 hg3 hgrow
          go_wp2
          go_ret2
          exact ⟨_, rfl, K.out.1, K.out.2⟩
        · simp only [if_true] at hres
          cases iq
          · simp only [Bool.false_eq_true, if_false] at hres
            subst hres
            go_enter Tryd.func21, Tryd.ntmps21
            go_wp2_with fail
            refine C1.out.mono ?_
            rintro e w' ⟨rfl, q1, rfl⟩
            go_wp2_with fail
            refine (C2.out _).mono ?_
            rintro e w' ⟨rfl, q2, rfl⟩
            go_wp2_with fail
            refine (C3.out _).mono ?_
            rintro e w' ⟨rfl, rfl⟩
            go_wp2_with fail
            refine (C4.out _).mono ?_
            rintro e w' ⟨rfl, rfl⟩
            go_wp2_with fail
            refine (C5.out _).mono ?_
            rintro e w' ⟨rfl, q5, rfl⟩
            go_wp2_with fail
            refine (C6.out _).mono ?_
            rintro e w' ⟨rfl, rfl⟩
            go_wp2_with (at_builtin; refine wpList_append_own _ rfl (.tmp 61) (.tmp 63) 28 rfl w.heap.size 9 i0 (.string ByteArray.empty) 1 16 Tryd.underlying28 hi hz0 hz1 hz2 rfl (by decide) (.slice (some ⟨w.heap.size, 0, none⟩) 1 1) 1 [strV tr] rfl (World.ownsRow.alloc (show World.ownsRow _ _ _ _ _ _ _ from Hown.out (q1 + q2)) _) ⟨w.heap.size + 1, 0, none⟩ 1 1 [.string ⟨p.toArray⟩] rfl rfl ?c1 ?c2 ?c3 ?c4 ?c5 ?_)
            case c1 => intro j u hj; match j, hj with | 0, hj => simp at hj; subst hj; exact cell_newAt _ _ _ _ (by simp [World.drewN])
            case c2 => intro u hu; simp at hu; subst hu; rfl
            case c3 => decide
            case c4 => decide
            case c5 => simp only [World.size_alloc]; simp only [World.drewN, World.size_alloc]; omega
            intro v' w3 hown3 hgrow _
            have hg3 : Below w.heap.size w w3 := Below.grown ((below_drew ((below_drew (Below.refl w.heap.size w) (q1 + q2)).alloc (Nat.le_refl _) _) q5).alloc (by simp only [World.drewN, World.size_alloc]; omega) _) hgrow (by simp only [World.drewN, World.size_alloc]; omega) (fun k hk => by cases hk; exact Nat.le_refl _)
            have K := Lib.hid (And.intro hown3 hg3)
            clear hown3 hg3 hgrow
            go_wp2_with fail
            refine (C7.out _).mono ?_
            rintro e w' ⟨rfl, rfl⟩
            go_wp2
            go_ret2
            exact ⟨rfl, K.out.2⟩
          · simp only [if_true] at hres
            subst hres
            go_enter Tryd.func21, Tryd.ntmps21
            go_wp2_with fail
            refine C1.out.mono ?_
            rintro e w' ⟨rfl, q1, rfl⟩
            go_wp2_with fail
            refine (C2.out _).mono ?_
            rintro e w' ⟨rfl, q2, rfl⟩
            go_wp2_with fail
            refine (C3.out _).mono ?_
            rintro e w' ⟨rfl, rfl⟩
            go_wp2_with fail
            refine (C4.out _).mono ?_
            rintro e w' ⟨rfl, rfl⟩
            go_wp2_with fail
            refine (C5.out _).mono ?_
            rintro e w' ⟨rfl, q5, rfl⟩
            go_wp2_with fail
            refine (C6.out _).mono ?_
            rintro e w' ⟨rfl, rfl⟩
            go_wp2_with (at_builtin; refine wpList_append_own _ rfl (.tmp 61) (.tmp 63) 28 rfl w.heap.size 9 i0 (.string ByteArray.empty) 1 16 Tryd.underlying28 hi hz0 hz1 hz2 rfl (by decide) (.slice (some ⟨w.heap.size, 0, none⟩) 1 1) 1 [strV tr] rfl (World.ownsRow.alloc (show World.ownsRow _ _ _ _ _ _ _ from Hown.out (q1 + q2)) _) ⟨w.heap.size + 1, 0, none⟩ 1 1 [.string ⟨p.toArray⟩] rfl rfl ?c1 ?c2 ?c3 ?c4 ?c5 ?_)
            case c1 => intro j u hj; match j, hj with | 0, hj => simp at hj; subst hj; exact cell_newAt _ _ _ _ (by simp [World.drewN])
            case c2 => intro u hu; simp at hu; subst hu; rfl
            case c3 => decide
            case c4 => decide
            case c5 => simp only [World.size_alloc]; simp only [World.drewN, World.size_alloc]; omega
            intro v' w3 hown3 hgrow _
            have hg3 : Below w.heap.size w w3 := Below.grown ((below_drew ((below_drew (Below.refl w.heap.size w) (q1 + q2)).alloc (Nat.le_refl _) _) q5).alloc (by simp only [World.drewN, World.size_alloc]; omega) _) hgrow (by simp only [World.drewN, World.size_alloc]; omega) (fun k hk => by cases hk; exact Nat.le_refl _)
            have K := Lib.hid (And.intro hown3 hg3)
            clear hown3 hg3 hgrow
            go_wp2_with fail
            refine (C7.out _).mono ?_
            rintro e w' ⟨rfl, rfl⟩
            go_wp2_with (at_builtin; refine wpList_append_own _ rfl (.tmp 70) (.tmp 72) 28 rfl w.heap.size 9 i0 (.string ByteArray.empty) 1 16 Tryd.underlying28 hi hz0 hz1 hz2 rfl (by decide) v' 2 [strV tr, strV p] rfl (World.ownsRow.alloc K.out.1 _) ⟨w'.heap.size, 0, none⟩ 1 1 [.string ⟨q.toArray⟩] rfl rfl ?c1 ?c2 ?c3 ?c4 ?c5 ?_)
            case c1 => intro j u hj; match j, hj with | 0, hj => simp at hj; subst hj; exact cell_newAt _ _ _ _ rfl
            case c2 => intro u hu; simp at hu; subst hu; rfl
            case c3 => decide
            case c4 => decide
            case c5 => rw [World.size_alloc]; exact Nat.le_succ_of_le K.out.2.size
            intro v2 w4 hown4 hgrow4 _
            have hg4 : Below w.heap.size w w4 := Below.grown (K.out.2.alloc K.out.2.size _) hgrow4 (by rw [World.size_alloc]; exact Nat.le_succ_of_le K.out.2.size) (fun k hk => (K.out.1.lt k hk).1)
            have K4 := Lib.hid (And.intro hown4 hg4)
            clear hown4 hg4 hgrow4
            go_wp2
            go_ret2
            exact ⟨_, rfl, K4.out.1, K4.out.2⟩
end Wl
end Go.Proofs.YtmanpggemmgnnaaDoor
