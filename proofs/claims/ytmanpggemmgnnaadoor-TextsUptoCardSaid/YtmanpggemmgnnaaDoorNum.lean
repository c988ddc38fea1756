/-
  SMALL LAWS: numbers as the walk spells them: xor on int and uint32, a product of FNV, remainders, digits. No conditions beyond each law's own.
-/
import Derived.WalkKit
import Derived.Laws.BitsAllLaws
import Derived.Test.YtmanpggemmgnnaaDoorTxl
import Derived.Test.YtmanpggemmgnnaaDoorBa
namespace Go.Proofs.YtmanpggemmgnnaaDoor.Num
open Go Go.RowKit Ba
theorem i64_xor_nat (a b : Nat) (ha : a < 4294967296) (hb : b < 4294967296) : bits .xor .i64 (a : Int) (b : Int) = ((a ^^^ b : Nat) : Int) := by
  have hx : a ^^^ b < 2 ^ 32 := Nat.xor_lt_two_pow ha hb
  have e1 : (BitVec.ofInt 64 (a : Int)).toNat = a := by simp; omega
  have e2 : (BitVec.ofInt 64 (b : Int)).toNat = b := by simp; omega
  have e : (BitVec.ofInt 64 (a : Int) ^^^ BitVec.ofInt 64 (b : Int)).toNat = a ^^^ b := by rw [BitVec.toNat_xor, e1, e2]
  show IntKind.i64.wrap ((BitVec.ofInt 64 (a : Int) ^^^ BitVec.ofInt 64 (b : Int)).toNat : Int) = _
  rw [e]
  generalize a ^^^ b = c at *
  simp [IntKind.wrap, IntKind.bits, IntKind.signed]
  omega
theorem tmod_nat (a b : Nat) : ((a : Int)).tmod (b : Int) = ((a % b : Nat) : Int) := by rw [Int.tmod_eq_emod_of_nonneg (by omega)]; rfl
theorem tdiv_nat (a b : Nat) : ((a : Int)).tdiv (b : Int) = ((a / b : Nat) : Int) := by rw [Int.tdiv_eq_ediv_of_nonneg (by omega)]; rfl
theorem wrap64_nat (n : Nat) (h : n < 4611686018427387904) : wrap64 (n : Int) = n := by
  unfold wrap64
  rw [Int.emod_eq_of_lt (by omega) (by omega)]
  omega
theorem fnv_lt (l : Tx.B) : Tx.fnv l < 4294967296 := by
  unfold Tx.fnv
  have : ∀ (l : Tx.B) (h : Nat), h < 4294967296 → l.foldl Tx.fnvStep h < 4294967296 := by
    intro l
    induction l with
    | nil => exact fun _ h => h
    | cons c r ih => intro h _; exact ih _ (Nat.mod_lt _ (by decide))
  exact this l _ (by decide)
theorem foldl_snoc {α β : Type} (f : β → α → β) (h : β) (l : List α) (c : α) : (l ++ [c]).foldl f h = f (l.foldl f h) c := by rw [List.foldl_append]; rfl
theorem fnv_snoc (l : Tx.B) (c : UInt8) : Tx.fnv (l ++ [c]) = Tx.fnvStep (Tx.fnv l) c := by unfold Tx.fnv; exact foldl_snoc Tx.fnvStep _ l c
theorem take_snoc (s : ByteArray) (k : Nat) (h : k < s.size) : s.data.toList.take (k + 1) = s.data.toList.take k ++ [s[k]] := by
  rw [List.take_succ_eq_append_getElem (by simpa using h)]; rfl
/-- One byte of FNV on Go's int. -/
theorem fnv_int (h : Nat) (c : UInt8) (hh : h < 4294967296) : (wrap64 (bits .xor .i64 (h : Int) (wrap64 (c.toNat : Int)) * 16777619)).tmod 4294967296 = (Tx.fnvStep h c : Nat) := by
  have hc : c.toNat < 256 := c.toNat_lt
  have hx : h ^^^ c.toNat < 2 ^ 32 := Nat.xor_lt_two_pow hh (by omega)
  unfold Tx.fnvStep
  rw [wrap64_nat _ (by omega), i64_xor_nat _ _ hh (by omega)]
  generalize h ^^^ c.toNat = x at *
  have e : ((x : Int) * 16777619) = ((x * 16777619 : Nat) : Int) := by omega
  rw [e, wrap64_nat _ (by omega)]
  exact tmod_nat _ 4294967296
theorem hexN_length : ∀ (k n : Nat), (Tx.hexN k n).length = k
  | 0, _ => rfl
  | k + 1, n => by rw [Tx.hexN, List.length_append, hexN_length k]; rfl
/-- The digits' highest one stands first. -/
theorem hexN_succ : ∀ (k n : Nat), Tx.hexN (k + 1) n = Tx.dig (n / 16 ^ k % 16) :: Tx.hexN k n
  | 0, n => by simp [Tx.hexN]
  | k + 1, n => by
    rw [Tx.hexN, hexN_succ k (n / 16), Nat.div_div_eq_div_mul, ← Nat.pow_succ', List.cons_append]
    rfl
theorem digs_at : ∀ d : Fin 16, (#[48, 49, 50, 51, 52, 53, 54, 55, 56, 57, 97, 98, 99, 100, 101, 102] : Array UInt8).toList[d.val]? = some (Tx.dig d.val) := by decide
theorem digs_cat (d : Nat) (l : Tx.B) (h : d < 16) : Value.string (({ data := #[48, 49, 50, 51, 52, 53, 54, 55, 56, 57, 97, 98, 99, 100, 101, 102] } : ByteArray).extract d (d + 1) ++ ⟨l.toArray⟩) = Value.string ⟨(Tx.dig d :: l).toArray⟩ := by
  have e := digs_at ⟨d, h⟩
  rw [app_eq, ext_data]
  have e2 : d + 1 - d = 1 := by omega
  rw [e2, List.take_one, List.head?_drop, e]
  rfl
theorem fnv_u32 (h : Nat) (c : UInt8) (hh : h < 4294967296) : bits .xor .u32 (h : Int) ((c.toNat : Int) % 4294967296) * 16777619 % 4294967296 = ((Tx.fnvStep h c : Nat) : Int) := by
  have hc : c.toNat < 256 := c.toNat_lt
  unfold Tx.fnvStep
  have e : ((c.toNat : Int) % 4294967296) = c.toNat := by omega
  rw [e, u32_xor_nat _ _ hh (by omega)]
  generalize h ^^^ c.toNat = x at *
  omega
def cellsJ (j h : Nat) : Array Value := ((List.replicate (8 - j) (0 : UInt8) ++ Tx.hexN j h).map fun c => Value.int .u8 c.toNat).toArray
theorem cellsJ_size (j h : Nat) (hj : j ≤ 8) : (cellsJ j h).size = 8 := by simp [cellsJ, hexN_length]; omega
theorem digs_val (d : Nat) (h : d < 16) : Value.int IntKind.u8 (({ data := #[48, 49, 50, 51, 52, 53, 54, 55, 56, 57, 97, 98, 99, 100, 101, 102] } : ByteArray)[d]'h).toNat = Value.int .u8 (Tx.dig d).toNat := by
  have e := digs_at ⟨d, h⟩
  rw [List.getElem?_eq_getElem (by simpa using h)] at e
  have e2 := Option.some.inj e
  rw [← e2]; rfl
theorem cellsJ_succ (j h : Nat) (hj : j < 8) : (cellsJ j h).setIfInBounds (7 - j) (.int .u8 (Tx.dig (h / 16 ^ j % 16)).toNat) = cellsJ (j + 1) h := by
  unfold cellsJ
  rw [List.setIfInBounds_toArray, hexN_succ]
  congr 1
  have e : 8 - j = (7 - j) + 1 := by omega
  have e' : 8 - (j + 1) = 7 - j := by omega
  rw [e, e', List.replicate_succ', List.append_assoc, List.map_append, List.map_append, List.set_append_right _ _ (by simp)]
  simp
end Go.Proofs.YtmanpggemmgnnaaDoor.Num
