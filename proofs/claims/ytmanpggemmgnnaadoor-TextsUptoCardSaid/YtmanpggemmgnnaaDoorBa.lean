/-
  SMALL LAWS: strings as lists of bytes: what a walk leaves ('s.extract ..', appends) and how results are closed. No conditions.
-/
import Derived.WalkKit
namespace Go.Proofs.YtmanpggemmgnnaaDoor.Ba
open Go
theorem size_len (s : ByteArray) : s.data.toList.length = s.size := rfl
theorem ba_eq {s : ByteArray} {l : List UInt8} (h : s.data.toList = l) : s = ⟨l.toArray⟩ := by rw [← h]
theorem ba_mk (l : List UInt8) : (⟨l.toArray⟩ : ByteArray).data.toList = l := rfl
theorem ext_data (s : ByteArray) (a b : Nat) : (s.extract a b).data.toList = (s.data.toList.drop a).take (b - a) := by
  rw [ByteArray.data_extract, Array.toList_extract, List.extract_eq_take_drop]
theorem ext_to (s : ByteArray) (k : Nat) : s.extract 0 k = ⟨(s.data.toList.take k).toArray⟩ := by
  apply ba_eq; rw [ext_data]; rfl
theorem ext_from (s : ByteArray) (k : Nat) : s.extract k s.size = ⟨(s.data.toList.drop k).toArray⟩ := by
  apply ba_eq; rw [ext_data]; exact List.take_of_length_le (by rw [List.length_drop, size_len]; omega)
theorem app_eq (s t : ByteArray) : s ++ t = ⟨(s.data.toList ++ t.data.toList).toArray⟩ := by
  apply ba_eq; simp [ByteArray.data_append]
theorem ret_bool {a b : Bool} (h : a = b) : Ending.returned (.bool a) = .returned (.bool b) := by rw [h]
theorem ret_str {a : ByteArray} {l : List UInt8} (h : a.data.toList = l) : Ending.returned (.string a) = .returned (.string ⟨l.toArray⟩) := by rw [ba_eq h]
theorem ret_ssb {a b : ByteArray} {l m : List UInt8} {f g : Bool} (h : a.data.toList = l) (h' : b.data.toList = m) (hf : f = g) :
    Ending.returned (.tuple #[.string a, .string b, .bool f]) = .returned (.tuple #[.string ⟨l.toArray⟩, .string ⟨m.toArray⟩, .bool g]) := by rw [ba_eq h, ba_eq h', hf]
end Go.Proofs.YtmanpggemmgnnaaDoor.Ba
