/- Ends: a part. Conditions: none. -/
import Derived.WalkKit
import Derived.Test.YtmanpggemmgnnaaGreatDoorA90
set_option linter.all false
namespace Go.Proofs.YtmanpggemmgnnaaGreatDoor
noncomputable section
open Go
namespace Ba
def dx(s:ByteArray):s.data.toList.length=s.size:=rfl
def Hr{l}{s:ByteArray}(h:s.data.toList=l):s=⟨l.toArray⟩:=by rw[<-h]
def pV(s:ByteArray)a b:(s.extract a b).data.toList=(s.data.toList.drop a).take (b - a):=by rw[ByteArray.data_extract,Array.toList_extract,List.extract_eq_take_drop]
def M6(s:ByteArray)k:s.extract k s.size=⟨(s.data.toList.drop k).toArray⟩:=by apply Hr;rw[pV];exact eM (by rw[gh,dx];omega)
def zR(s t:ByteArray):s++t=⟨(s.data.toList++t.data.toList).toArray⟩:=by apply Hr;simp[gv]
def jS{a b}(h:a=b):Ending.returned (.bool a)=.returned (.bool b):=by rw[h]
def xM{l a}(h:a.data.toList=l):Ending.returned (.string a)=.returned (.string ⟨l.toArray⟩):=by rw[Hr h]
def QR{l m f g a b}(h:a.data.toList=l)(h':b.data.toList=m)(hf:f=g):
 Ending.returned (.tuple #[.string a,.string b,.bool f])=.returned (.tuple #[.string ⟨l.toArray⟩,.string ⟨m.toArray⟩,.bool g]):=by rw[Hr h,Hr h',hf]
end Ba
