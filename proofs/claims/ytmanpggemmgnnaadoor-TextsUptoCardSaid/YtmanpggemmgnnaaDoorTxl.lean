/-
  PLAIN LAW: lists of bytes: what the loops of the walks need of the functions of the text before it. No conditions.
-/
import Derived.Test.YtmanpggemmgnnaaDoorTx
namespace Go.Proofs.YtmanpggemmgnnaaDoor.Tx

theorem take_succ_all {p : UInt8 → Bool} {l : B} {k : Nat} (h : k < l.length) (h1 : (l.take k).all p = true) (h2 : p l[k] = true) : (l.take (k + 1)).all p = true := by
  rw [List.take_succ_eq_append_getElem h, List.all_append, h1]; simp [h2]
theorem all_false {p : UInt8 → Bool} {l : B} {k : Nat} (h : k < l.length) (h2 : p l[k] = false) : l.all p = false := by
  rw [Bool.eq_false_iff]
  intro ha
  rw [List.all_eq_true] at ha
  rw [ha _ (List.getElem_mem h)] at h2
  cases h2
theorem isHexB_yes {c : UInt8} (h : (48 ≤ (c.toNat : Int) ∧ (c.toNat : Int) ≤ 57) ∨ (97 ≤ (c.toNat : Int) ∧ (c.toNat : Int) ≤ 102)) : isHexB c = true := by
  unfold isHexB; simp; omega
theorem isHexB_no {c : UInt8} (h : ((c.toNat : Int) < 48 ∨ 57 < (c.toNat : Int)) ∧ ((c.toNat : Int) < 97 ∨ 102 < (c.toNat : Int))) : isHexB c = false := by
  rw [Bool.eq_false_iff]; unfold isHexB; simp; omega
theorem isLow_yes {c : UInt8} (h : 97 ≤ (c.toNat : Int) ∧ (c.toNat : Int) ≤ 122) : isLow c = true := by
  unfold isLow; simp; omega
theorem isLow_no {c : UInt8} (h : (c.toNat : Int) < 97 ∨ 122 < (c.toNat : Int)) : isLow c = false := by
  rw [Bool.eq_false_iff]; unfold isLow; simp; omega

/-- The cut found: nothing of the bytes ahead is c. -/
theorem cut_at {c : UInt8} : ∀ {l : B} {k : Nat} (h : k < l.length), (∀ j (hj : j < k), l[j] ≠ c) → l[k] = c → cut c l = (l.take k, l.drop (k + 1), true)
  | x :: r, 0, _, _, he => by
    have : x = c := he
    simp [cut, this]
  | x :: r, k + 1, h, hn, he => by
    have hx : x ≠ c := hn 0 (by omega)
    have hk : k < r.length := by simpa using h
    have ih := cut_at (l := r) (k := k) hk (fun j hj => by have := hn (j + 1) (by omega); simpa using this) (by simpa using he)
    simp [cut, hx, ih]
theorem cut_none {c : UInt8} : ∀ {l : B}, (∀ j (hj : j < l.length), l[j] ≠ c) → cut c l = (l, [], false)
  | [], _ => rfl
  | x :: r, hn => by
    have hx : x ≠ c := hn 0 (by simp)
    have ih := cut_none (l := r) (fun j hj => by have := hn (j + 1) (by simpa using hj); simpa using this)
    simp [cut, hx, ih]

end Go.Proofs.YtmanpggemmgnnaaDoor.Tx
