/- Ends: a part. Conditions: none. -/
import Derived.Lib.SlTrimSet
import Derived.Lib.SplitLaws
import Derived.Test.YtmanpggemmgnnaaGreatDoorA09
set_option linter.all false
set_option maxHeartbeats 8000000
set_option maxRecDepth 1000000
namespace Go.Proofs.YtmanpggemmgnnaaGreatDoor
noncomputable section
open Go
namespace Lx
def zy(l:Tx.B)c:(∃(k:Nat) (h:k<l.length),l[k]=c/\(∀j (hj:j<k),l[j]'(Nat.lt_trans hj h)≠c)/\Lib.indexByte l c=k)\/((∀j (hj:j<l.length),l[j]≠c)/\Lib.indexByte l c=-1):=by
 by_cases h:Lib.indexByte l c=-1
 ·refine .inr ⟨λj hj e=>Lib.indexByte_none h j ?_,h⟩;rw[bU hj,e]
 ·have hge:=Lib.indexByte_ge l c;obtain⟨k,A⟩:∃k:Nat,Lib.indexByte l c=k:=⟨(Lib.indexByte l c).toNat,by omega⟩
  obtain⟨V,J⟩:=Lib.indexByte_some A;obtain⟨hl,he⟩:=bA.1 V;refine .inl ⟨k,hl,he,λj hj e=>J j hj ?_,A⟩;rw[bU (Nat.lt_trans hj hl),e]
def Rs(l:Tx.B)c:decide (0<=Lib.indexByte l c)=!l.all (·!=c):=by
 rcases zy l c with⟨k,A,he,Q,hi⟩|⟨Q,hi⟩
 ·rw[hi,Tx.all_false (p:=(·!=c)) A (by rw[he];simp)];simp
 ·rw[hi];have:l.all (·!=c)=true:=by
   rw[ep];intro x E;obtain⟨j,hj,e⟩:=oB E;have:=Q j hj;rw[e]at this;simpa using this
  rw[this];rfl
def KM{c:UInt8}:∀{l:Tx.B} {k:Nat} (h:k<l.length),(∀j (hj:j<k),l[j]≠c)->l[k]=c->Tx.split c l=l.take k::Tx.split c (l.drop (k+1))
 |x::r,0,_,_,he=>by
  have:x=c:=he;simp[Tx.split,this]
 |x::r,k+1,h,Q,he=>by
  have E:x≠c:=Q 0 (by omega);have ih:=KM (c:=c) (l:=r) (k:=k) (by simpa using h) (λj hj=>by have:=Q (j+1) (by omega);simpa using this) (by simpa using he);rw[Tx.split,aX E,ih];simp
def CX{c}:∀{l},(∀j (hj:j<l.length),l[j]≠c)->Tx.split c l=[l]
 |[],_=>rfl
 |x::r,Q=>by
  have E:x≠c:=Q 0 (by simp);have ih:=CX (c:=c) (l:=r) (λj hj=>by have:=Q (j+1) (by simpa using hj);simpa using this);rw[Tx.split,aX E,ih]
def Ng{c}:∀{l:Tx.B} {k} (h:k<l.length),(∀j (hj:j<k),l[j]≠c)->l[k]=c->l.count c=(l.drop (k+1)).count c+1
 |x::r,0,_,_,he=>by
  have:x=c:=he;simp[this]
 |x::r,k+1,h,Q,he=>by
  have E:x≠c:=Q 0 (by omega);have ih:=Ng (c:=c) (l:=r) (k:=k) (by simpa using h) (λj hj=>by have:=Q (j+1) (by omega);simpa using this) (by simpa using he);rw[List.count_cons_of_ne E,ih];simp
def P5{c}{l:Tx.B}(Q:∀j (hj:j<l.length),l[j]≠c):l.count c=0:=by rw[List.count_eq_zero];intro h;obtain⟨j,hj,e⟩:=oB h;exact Q j hj e
def TD c:∀n (l:Tx.B),l.length<=n->Lib.splitK [c] 0 (l.count c) l=Tx.split c l:=by
 intro n
 induction n with
 |zero=>intro l hl;have:l=[]:=eK (by omega);subst this;rfl
 |succ n ih=>
  intro l hl;rcases zy l c with⟨k,A,he,Q,hi⟩|⟨Q,hi⟩
  ·rw[KM A Q he,Ng A Q he,Lib.splitK,Lib.index_one,hi,aX (by simp)];rw[show((k:Int).toNat+[c].length)=k+1 by simp,show((k:Int).toNat+0)=k by simp,ih _ (by rw[gh];omega)]
  ·rw[CX Q,P5 Q];rfl
def FZ s c:(Lib.splitB ⟨#[c]⟩ 0 (Lib.countB s ⟨#[c]⟩) s).map Value.string=(Tx.split c s.data.toList).map λl=>Value.string ⟨l.toArray⟩:=by have h:=Lib.splitB_data ⟨#[c]⟩ 0 (Lib.countB s ⟨#[c]⟩) s;have e:Lib.countB s ⟨#[c]⟩=s.data.toList.count c:=Lib.count_one c _;rw[e]at h ⊢;rw[show(⟨#[c]⟩:ByteArray).data.toList=[c]from rfl,TD c _ _ (aI _)]at h;rw[<-h,ll];rfl
def IC s c:Lib.countB s ⟨#[c]⟩+1=(Tx.split c s.data.toList).length:=by have h:=dv List.length (FZ s c);rw[dN,dN,Lib.splitB_all ⟨#[c]⟩ (aI 1) 0 _ s rfl]at h;exact h
def dropWhile_nil{p}:∀{l:List UInt8},l.dropWhile p=[]↔l.all p=true
 |[]=>by simp
 |x::r=>by
  rw[rz];by_cases h:p x=true
  ·simp[h,dropWhile_nil (l:=r)]
  ·simp[h]
def sV{p}:∀{l:List UInt8} {x r},l.dropWhile p=x::r->p x=false
 |[],_,_,h=>by simp at h
 |y::s,x,r,h=>by
  rw[rz]at h;by_cases hy:p y=true
  ·rw[bk hy]at h;exact sV h
  ·rw[aX hy]at h;cases h;simpa using hy
def BZ l cs:(Lib.trimS l cs=[])↔l.all (cs.contains ·)=true:=by
 unfold Lib.trimS Lib.trimLeftS Lib.trimRightS;rw[dropWhile_nil,pC];constructor
 ·intro h;cases hd:l.reverse.dropWhile (λx=>cs.contains x)with
  |nil=>rw[dropWhile_nil,pC]at hd;exact hd
  |cons x r=>rw[hd,gG,sV hd]at h;cases h
 ·intro h;rw[<-pC,<-dropWhile_nil]at h;rw[h];rfl
def zS{p:UInt8->Prop}(h:∀n:Fin 256,p (UInt8.ofNat n.val))c:p c:=by
 have:=h ⟨c.toNat,c.toNat_lt⟩
 rwa[UInt8.ofNat_toNat]at this
def aGr:∀c:UInt8,[48,49,50,51,52,53,54,55,56,57,97,98,99,100,101,102].contains c=Tx.zx c:=
 zS (by decide)
def aFJ:∀c:UInt8,[97,98,99,100,101,102,103,104,105,106,107,108,109,110,111,112,113,114,115,116,117,118,119,120,121,122].contains c=Tx.uW c:=
 zS (by decide)
def W9 l:(Lib.trimS l [48,49,50,51,52,53,54,55,56,57,97,98,99,100,101,102]=[])↔Tx.hex l=true:=by rw[BZ];unfold Tx.hex;rw[show(λx=>List.contains [48,49,50,51,52,53,54,55,56,57,97,98,99,100,101,102] x)=Tx.zx from funext aGr]
def WZ l:(Lib.trimS l [97,98,99,100,101,102,103,104,105,106,107,108,109,110,111,112,113,114,115,116,117,118,119,120,121,122]=[])↔l.all Tx.uW=true:=by rw[BZ];rw[show(λx=>List.contains [97,98,99,100,101,102,103,104,105,106,107,108,109,110,111,112,113,114,115,116,117,118,119,120,121,122] x)=Tx.uW from funext aFJ]
end Lx
