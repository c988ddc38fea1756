/- Ends: a part. Conditions: none. -/
import Derived.Test.YtmanpggemmgnnaaGreatDoorA01
import Derived.Test.YtmanpggemmgnnaaGreatDoorA09
set_option linter.all false
namespace Go.Proofs.YtmanpggemmgnnaaGreatDoor
noncomputable section
open Go Go.RowKit Ba
namespace VW
def Mi(a b:Nat)(ha:a<4294967296)(hb:b<4294967296):bits .xor .i64 (a:Int) (b:Int)=((a^^^b:Nat):Int):=by
 have E:a^^^b<2^32:=rL ha hb;have e1:(BitVec.ofInt 64 (a:Int)).toNat=a:=by simp;omega
 have e2:(BitVec.ofInt 64 (b:Int)).toNat=b:=by simp;omega
 have e:(BitVec.ofInt 64 (a:Int)^^^BitVec.ofInt 64 (b:Int)).toNat=a^^^b:=by rw[BitVec.toNat_xor,e1,e2]
 show IntKind.i64.wrap ((BitVec.ofInt 64 (a:Int)^^^BitVec.ofInt 64 (b:Int)).toNat:Int)=_;rw[e];generalize a^^^b=c at *;simp[IntKind.wrap,IntKind.bits,IntKind.signed];omega
def Xd(a b:Nat):((a:Int)).tmod (b:Int)=((a%b:Nat):Int):=by rw[Int.tmod_eq_emod_of_nonneg (by omega)];rfl
def BO(n:Nat)(h:n<4611686018427387904):wrap64 (n:Int)=n:=by unfold wrap64;rw[Int.emod_eq_of_lt (by omega) (by omega)];omega
def ZY l:Tx.PU l<4294967296:=by
 unfold Tx.PU;have:∀(l:Tx.B) (h:Nat),h<4294967296->l.foldl Tx.om h<4294967296:=by
  intro l
  induction l with
  |nil=>exact λ_ h=>h
  |cons c r ih=>intro h _;exact ih _ (pL _ (by decide))
 exact this l _ (by decide)
def PT{α β:Type}(f:β->α->β)h l c:(l++[c]).foldl f h=f (l.foldl f h) c:=by rw[kz];rfl
def M3 l c:Tx.PU (l++[c])=Tx.om (Tx.PU l) c:=by unfold Tx.PU;exact PT Tx.om _ l c
def FQ(s:ByteArray)k(h:k<s.size):s.data.toList.take (k+1)=s.data.toList.take k++[s[k]]:=by rw[jy (by simpa using h)];rfl
def aC2(h:Nat)c(hh:h<4294967296):(wrap64 (bits .xor .i64 (h:Int) (wrap64 (c.toNat:Int))*16777619)).tmod 4294967296=(Tx.om h c:Nat):=by
 have L:c.toNat<256:=c.toNat_lt;have E:h^^^c.toNat<2^32:=rL hh (by omega);unfold Tx.om;rw[BO _ (by omega),Mi _ _ hh (by omega)];generalize h^^^c.toNat=x at *;have e:((x:Int)*16777619)=((x*16777619:Nat):Int):=by omega
 rw[e,BO _ (by omega)];exact Xd _ 4294967296
def iy:∀k n,(Tx.pO k n).length=k
 |0,_=>rfl
 |k+1,n=>by rw[Tx.pO,b9,iy k];rfl
def uy:∀k n,Tx.pO (k+1) n=Tx.dig (n / 16^k%16)::Tx.pO k n
 |0,n=>by simp[Tx.pO]
 |k+1,n=>by
  rw[Tx.pO,uy k (n / 16),j1,<-Nat.pow_succ',cf];rfl
def RA:∀d:Fin 16,(#[48,49,50,51,52,53,54,55,56,57,97,98,99,100,101,102]:Array UInt8).toList[d.val]? =some (Tx.dig d.val):=by decide
def M9 d(l:Tx.B)(h:d<16):Value.string (({data:=#[48,49,50,51,52,53,54,55,56,57,97,98,99,100,101,102]}:ByteArray).extract d (d+1)++⟨l.toArray⟩)=Value.string ⟨(Tx.dig d::l).toArray⟩:=by
 have e:=RA ⟨d,h⟩;rw[zR,pV];have e2:d+1 - d=1:=by omega
 rw[e2,List.take_one,List.head?_drop,e];rfl
def aC1(h:Nat)c(hh:h<4294967296):bits .xor .u32 (h:Int) ((c.toNat:Int)%4294967296)*16777619%4294967296=((Tx.om h c:Nat):Int):=by
 have L:c.toNat<256:=c.toNat_lt;unfold Tx.om;have e:((c.toNat:Int)%4294967296)=c.toNat:=by omega
 rw[e,u32_xor_nat _ _ hh (by omega)];generalize h^^^c.toNat=x at *;omega
def qB(j h:Nat):Array Value:=((List.replicate (8 - j) (0:UInt8)++Tx.pO j h).map λc=>Value.int .u8 c.toNat).toArray
def Nk j h(hj:j<=8):(qB j h).size=8:=by simp[qB,iy];omega
def aAf d(h:d<16):Value.int IntKind.u8 (({data:=#[48,49,50,51,52,53,54,55,56,57,97,98,99,100,101,102]}:ByteArray)[d]'h).toNat=Value.int .u8 (Tx.dig d).toNat:=by have e:=RA ⟨d,h⟩;rw[bU (by simpa using h)]at e;have e2:=ay e;rw[<-e2];rfl
def Nj j h(hj:j<8):(qB j h).setIfInBounds (7 - j) (.int .u8 (Tx.dig (h / 16^j%16)).toNat)=qB (j+1) h:=by
 unfold qB;rw[bo,uy];congr 1;have e:8 - j=(7 - j)+1:=by omega
 have e':8 - (j+1)=7 - j:=by omega
 rw[e,e',List.replicate_succ',fN,eN,eN,List.set_append_right _ _ (by simp)];simp
end VW
