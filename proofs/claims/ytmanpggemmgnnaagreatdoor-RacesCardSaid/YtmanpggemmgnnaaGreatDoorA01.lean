/- Races: a part. Conditions: none. -/
import Derived.WalkKit
set_option linter.all false
namespace Go.Proofs.YtmanpggemmgnnaaGreatDoor
noncomputable section
open Go
namespace Ba
theorem dx (s:ByteArray):s.data.toList.length=s.size:=rfl
theorem Hr {s:ByteArray} {l:List UInt8} (h:s.data.toList=l):s=⟨l.toArray⟩:=by rw [<-h]
theorem pV (s:ByteArray) (a b:Nat):(s.extract a b).data.toList=(s.data.toList.drop a).take (b - a):=by rw [ByteArray.data_extract,Array.toList_extract,List.extract_eq_take_drop]
theorem M6 (s:ByteArray) (k:Nat):s.extract k s.size=⟨(s.data.toList.drop k).toArray⟩:=by apply Hr;rw [pV];exact List.take_of_length_le (by rw [List.length_drop,dx];omega)
theorem zR (s t:ByteArray):s++t=⟨(s.data.toList++t.data.toList).toArray⟩:=by apply Hr;simp [ByteArray.data_append]
theorem jS {a b:Bool} (h:a=b):Ending.returned (.bool a)=.returned (.bool b):=by rw [h]
theorem xM {a:ByteArray} {l:List UInt8} (h:a.data.toList=l):Ending.returned (.string a)=.returned (.string ⟨l.toArray⟩):=by rw [Hr h]
theorem QR {a b:ByteArray} {l m:List UInt8} {f g:Bool} (h:a.data.toList=l) (h':b.data.toList=m) (hf:f=g):
 Ending.returned (.tuple #[.string a,.string b,.bool f])=.returned (.tuple #[.string ⟨l.toArray⟩,.string ⟨m.toArray⟩,.bool g]):=by rw [Hr h,Hr h',hf]
end Ba
end
end Go.Proofs.YtmanpggemmgnnaaGreatDoor
