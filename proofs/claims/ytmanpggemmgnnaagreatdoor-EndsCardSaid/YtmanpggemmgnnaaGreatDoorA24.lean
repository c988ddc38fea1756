/- Ends: a part. Conditions: none. -/
import Derived.BigQuiet
import Derived.Lib.Hide
import Derived.Test.YtmanpggemmgnnaaGreatDoorA16
import Derived.Test.YtmanpggemmgnnaaGreatDoorA18
import Derived.WalkLawsBesides
import Derived.WalkSpells
set_option linter.all false
set_option maxHeartbeats 8000000
set_option maxRecDepth 1000000
namespace Go.Proofs.YtmanpggemmgnnaaGreatDoor
noncomputable section
open Go Go.RowKit Ba VW Tryz
def z24{p}(h:p):Go.RowKit.Hid p:=Go.Lib.hid h
namespace Wb
def l7 s w(hs:s.size<=maxLen):
 Calls Tq.prog 144 #[.string s] w λe U=>e=.returned (.string ⟨(Tx.dA s.data.toList).toArray⟩)/\Below w.heap.size w U:=by
 unfold maxLen at hs;go_enter Tq.func144,ntmps144;go_wp2
 go_loop [3,4,9] (λh j i=>∃k:Nat,k<=s.size/\i=.int .i64 k/\h=.int .u32 (Tx.PU (s.data.toList.take k):Nat)) (λ_ _ i=>s.size - (intOf i).toNat)
 case atStart=>exact⟨0,cQ _,rfl,by simp[Tx.PU]⟩
 case round=>
  obtain⟨k,A,rfl,rfl⟩:=hrel;have Zj:=ZY (s.data.toList.take k);generalize hh:Tx.PU (s.data.toList.take k)=h at *;have X1:=z24 hh;clear hh;by_cases tP:k<s.size
  ·have X2:=z24 (FQ s k tP);go_wp2
   go_round
   case rel=>exact⟨k+1,by omega,by go_num,by rw[X2.out,M3,X1.out,aC1 _ _ Zj]⟩
   case measure=>simp[intOf];omega
  ·have X2:=z24 (show Tx.PU s.data.toList=h by rw[<-X1.out,eM (by rw[dx];omega)]);go_wp2
   go_loopw [3,6,21] (λg x i wr=>∃j:Nat,j<=8/\i=.int .i64 j/\g=.int .u32 (h / 16^j:Nat)/\wr=w.alloc (.cells (qB j h) 245)) (λ_ _ i _=>8 - (intOf i).toNat)
   case atStart=>exact⟨0,by omega,rfl,by simp,rfl⟩
   case round=>
    obtain⟨j,hj,rfl,rfl,rfl⟩:=hrel;have hg:h / 16^j<4294967296:=gH (ox _ _) Zj;generalize H3:h / 16^j=g at *;generalize Hh:qB j h=d at *;have J1:d.size=8:=by rw[<-Hh,Nk _ _ hj]
    have X3:=z24 H3;have X4:=z24 Hh;clear H3 Hh;by_cases h8:j<8
    ·have he:bits .and .u32 (g:Int) 15=((g%16:Nat):Int):=by
      rw[show(15:Int)=((15:Nat):Int)from rfl,u32_and_nat _ _ hg (by decide),show(15:Nat)=2^4 - 1 from rfl,Nat.and_two_pow_sub_one_eq_mod]
     obtain⟨x,E⟩:∃x,(w.alloc (.cells d 245)).cell? ⟨w.heap.size,7 - j,none⟩=some x:=by refine⟨d[7 - j]'(by omega),?_⟩;simp
     go_wp2
     go_roundw
     case rel=>exact⟨j+1,by omega,by go_num,by rw[pM,<-j1,X3.out];go_num,by rw[<-Nj j h h8,X3.out,X4.out,aAf _ (pL _ (by decide))]⟩
     case measure=>simp[intOf];omega
    ·have e8:j=8:=by omega
     have hcv:=run_convert_bytes_back (P:=Tq.prog) (w.alloc (.cells d 245)) 35 9 5 ⟨w.heap.size,0,none⟩ 8 (Tx.pO 8 h) ((Tq.underlying 35).trans underlying35) ((Tq.underlying 5).trans underlying5) ((Tq.underlying 9).trans underlying9) (λi hi=>by
      rw[iy]at hi;have e:=X4.out;rw[e8]at e;rw[<-e];by_cases wW:i=0
      ·subst wW;simp[Addr.add,qB];exact⟨_,bU (by rw[iy];exact hi),rfl⟩
      ·simp[Addr.add,qB,wW];exact⟨_,bU (by rw[iy];exact hi),rfl⟩)
     rw[iy]at hcv;go_wp2;go_ret;exact⟨xM (by rw[Tx.dA,X2.out]),(Below.refl _ _).alloc (aI _) _⟩
end Wb
namespace Wa
def aIr(s:ByteArray)(w:World)(hs:s.size<=maxLen):
 Calls Tq.prog 178 #[.string s] w λe U=>e=.returned (.bool (Tx.hex s.data.toList))/\U=w:=by
 unfold maxLen at hs;go_enter Tq.func178,ntmps178;go_wp2
 go_loop [3] (λi=>∃k:Nat,k<=s.size/\i=.int .i64 k/\(s.data.toList.take k).all Tx.zx=true) (λi=>s.size - (intOf i).toNat)
 case atStart=>exact⟨0,cQ _,rfl,rfl⟩
 case round=>
  obtain⟨k,A,rfl,E⟩:=hrel;by_cases tP:k<s.size
  ·have hl:k<s.data.toList.length:=by simpa using tP
   have X1:=z24 (λ(J:Tx.zx s[k]=true)=>Tx.aAy (p:=Tx.zx) hl E J);have X2:=z24 (λ(J:Tx.zx s[k]=false)=>Tx.all_false (p:=Tx.zx) hl J);clear E;go_wp2
   all_goals first
    |(go_round
      case rel=>exact⟨k+1,by omega,by go_num,X1.out (Tx.aEn (by omega))⟩
      case measure=>simp[intOf];omega)
    |(go_ret;exact⟨jS (X2.out (Tx.aFf (by omega))).symm,rfl⟩)
  ·go_wp2;go_ret;exact⟨jS (by rw[eM (by simp;omega)]at E;exact E.symm),rfl⟩
def aGo(s:ByteArray)(w:World)(hs:s.size<=maxLen):
 Calls Tq.prog 135 #[.string s] w λe U=>e=.returned (.bool (Tx.O3 s.data.toList))/\U=w:=by
 unfold maxLen at hs;go_enter Tq.func135,ntmps135;go_wp2
 go_loop [3] (λi=>∃k:Nat,k<=s.size/\i=.int .i64 k/\(s.data.toList.take k).all Tx.uW=true) (λi=>s.size - (intOf i).toNat)
 case atStart=>exact⟨0,cQ _,rfl,rfl⟩
 case round=>
  obtain⟨k,A,rfl,E⟩:=hrel;by_cases tP:k<s.size
  ·have hl:k<s.data.toList.length:=by simpa using tP
   have X1:=z24 (λ(J:Tx.uW s[k]=true)=>Tx.aAy (p:=Tx.uW) hl E J);have X2:=z24 (λ(J:Tx.uW s[k]=false)=>Tx.all_false (p:=Tx.uW) hl J);clear E;go_wp2
   all_goals first
    |(go_round
      case rel=>exact⟨k+1,by omega,by go_num,X1.out (Tx.aFa (by omega))⟩
      case measure=>simp[intOf];omega)
    |(go_ret;exact⟨jS (by rw[Tx.O3,X2.out (Tx.aGy (by omega))];rfl),rfl⟩)
  ·have X1:=z24 E;clear E;go_wp2
   all_goals (go_ret;exact⟨jS (by have E:=X1.out;rw[eM (by simp;omega)]at E;rw[Tx.O3,E];simp only[dx,jD];rw[j9];simp;omega),rfl⟩)
def aDW(s:ByteArray)(n:Int)(w:World)(hs:s.size<=maxLen)(Q:0<=n):
 Calls Tq.prog 91 #[.string s,.int .i64 n] w λe U=>e=.returned (.bool (Tx.line s.data.toList n.toNat))/\U=w:=by
 unfold maxLen at hs;go_enter Tq.func91,ntmps91;go_wp2
 go_loop [5] (λi=>∃k:Nat,k<=s.size/\i=.int .i64 k/\(s.data.toList.take k).all (·!=10)=true) (λi=>s.size - (intOf i).toNat)
 case atStart=>exact⟨0,cQ _,rfl,rfl⟩
 case round=>
  obtain⟨k,A,rfl,E⟩:=hrel;by_cases tP:k<s.size
  ·have hl:k<s.data.toList.length:=by simpa using tP
   have X1:=z24 (λ(J:(s[k]!=10)=true)=>Tx.aAy (p:=(·!=10)) hl E J);have X2:=z24 (λ(J:(s[k]!=10)=false)=>Tx.all_false (p:=(·!=10)) hl J);clear E;by_cases L:s[k]=10
   ·have t1:((s[k].toNat:Int)==10)=true:=by rw[L];rfl
    have X3:=z24 L;clear L;go_wp2;go_ret;exact⟨jS (by rw[Tx.line,X2.out (by rw[X3.out];rfl)];rfl),rfl⟩
   ·have t1:((s[k].toNat:Int)==10)=false:=by
     rw[b8];intro h;exact L (s9.1 (by simpa using(by omega:s[k].toNat=10)))
    have X3:=z24 L;clear L;go_wp2
    go_round
    case rel=>exact⟨k+1,by omega,by go_num,X1.out (by simpa using X3.out)⟩
    case measure=>simp[intOf];omega
  ·have X1:=z24 E;clear E;go_wp2
   all_goals (go_ret;exact⟨jS (by have E:=X1.out;rw[eM (by simp;omega)]at E;rw[Tx.line,E];simp only[dx,jD];rw[j9];simp;omega),rfl⟩)
def lV s c w(hs:s.size<=maxLen):
 Calls Tq.prog 90 #[.string s,.int .u8 c.toNat] w λe U=>
  e=.returned (.tuple #[.string ⟨(Tx.cut c s.data.toList).1.toArray⟩,.string ⟨(Tx.cut c s.data.toList).2.1.toArray⟩,.bool (Tx.cut c s.data.toList).2.2])/\∃n,U=w.drewN n:=by
 unfold maxLen at hs;go_enter Tq.func90,ntmps90;go_wp2
 go_loop [7] (λi=>∃k:Nat,k<=s.size/\i=.int .i64 k/\∀j (hj:j<k) (hs:j<s.size),s[j]≠c) (λi=>s.size - (intOf i).toNat)
 case atStart=>exact⟨0,cQ _,rfl,λj hj=>absurd hj (by omega)⟩
 case round=>
  obtain⟨k,A,rfl,E⟩:=hrel;have X1:=z24 E;clear E;by_cases tP:k<s.size
  ·by_cases L:s[k]=c
   ·have t1:((s[k].toNat:Int)==(c.toNat:Int))=true:=by rw[L];simp
    have X3:=z24 (Tx.aAi (c:=c) (l:=s.data.toList) (k:=k) (by simpa using tP) (λj hj=>X1.out j hj (by omega)) L);clear L;go_wp2;go_quiet (fail)
    go_wp2
    go_ret3
    exact⟨QR (by rw[X3.out,pV];rfl) (by rw[X3.out,pV];exact eM (by rw[gh,dx];omega)) (by rw[X3.out]),_,rfl⟩
   ·have t1:((s[k].toNat:Int)==(c.toNat:Int))=false:=by
     rw[b8];intro h;exact L (s9.1 (by omega))
    have X3:=z24 L;clear L;go_wp2
    go_round
    case rel=>exact⟨k+1,by omega,by go_num,λj hj hs=>by
     by_cases e:j=k
     ·subst e;exact X3.out
     ·exact X1.out j (by omega) hs⟩
    case measure=>simp[intOf];omega
  ·have X3:=z24 (Tx.Nf (c:=c) (l:=s.data.toList) (λj hj=>X1.out j (by rw[dx]at hj;omega) hj));go_wp2
   go_ret3
   exact⟨QR (by rw[X3.out]) (by rw[X3.out]) (by rw[X3.out]),0,rfl⟩
def Je s w(hs:s.size<=maxLen):
 Calls Tq.prog 136 #[.string s] w λe U=>e=.returned (.bool (Tx.yN s.data.toList))/\U=w:=by
 unfold maxLen at hs;have E:∃b,Tx.hex s.data.toList=b:=⟨_,rfl⟩
 obtain⟨b,E⟩:=E;have X1:=z24 E;have C:=z24 (aIr s w hs);rw[E]at C;clear E;go_enter Tq.func136,ntmps136;cases b
 ·go_wp2_with (go_at_call 178;refine C.out.mono ?_;rintro e U ⟨rfl,rfl⟩);go_ret;exact⟨jS (by rw[Tx.yN,X1.out];rfl),rfl⟩
 ·by_cases h8:s.size=8
  ·have t1:((s.size:Int)==8)=true:=by rw[h8];rfl
   have X2:=z24 h8;clear h8;go_wp2_with (go_at_call 178;refine C.out.mono ?_;rintro e U ⟨rfl,rfl⟩);go_ret;exact⟨jS (by rw[Tx.yN,X1.out,dx,X2.out,ByteArray.toList_eq];rfl),rfl⟩
  ·have t1:((s.size:Int)==8)=false:=by rw[b8];omega
   have X2:=z24 h8;clear h8;go_wp2_with (go_at_call 178;refine C.out.mono ?_;rintro e U ⟨rfl,rfl⟩);go_ret;exact⟨jS (by rw[Tx.yN,X1.out,dx];simp[X2.out]),rfl⟩
def Gc s w(hs:s.size<=maxLen):
 Calls Tq.prog 22 #[.string s] w λe U=>e=.returned (.string ⟨(Tx.dA s.data.toList).toArray⟩)/\U=w:=by
 unfold maxLen at hs;go_enter Tq.func22,ntmps22;go_wp2
 go_loop [3,4] (λh i=>∃k:Nat,k<=s.size/\i=.int .i64 k/\h=.int .i64 (Tx.PU (s.data.toList.take k):Nat)) (λ_ i=>s.size - (intOf i).toNat)
 case atStart=>exact⟨0,cQ _,rfl,by simp[Tx.PU]⟩
 case round=>
  obtain⟨k,A,rfl,rfl⟩:=hrel;have Zj:=ZY (s.data.toList.take k);generalize hh:Tx.PU (s.data.toList.take k)=h at *;have X1:=z24 hh;clear hh;by_cases tP:k<s.size
  ·have X2:=z24 (FQ s k tP);go_wp2
   go_round
   case rel=>exact⟨k+1,by omega,by go_num,by rw[X2.out,M3,X1.out,aC2 _ _ Zj]⟩
   case measure=>simp[intOf];omega
  ·have X2:=z24 (show Tx.PU s.data.toList=h by rw[<-X1.out,eM (by rw[dx];omega)]);go_wp2
   go_loop [3,5,6] (λg d i=>∃j:Nat,j<=8/\i=.int .i64 j/\d=.string ⟨(Tx.pO j h).toArray⟩/\g=.int .i64 (h / 16^j:Nat)) (λ_ _ i=>8 - (intOf i).toNat)
   case atStart=>exact⟨0,by omega,rfl,rfl,by simp⟩
   case round=>
    obtain⟨j,hj,rfl,rfl,rfl⟩:=hrel;have hg:h / 16^j<4294967296:=gH (ox _ _) Zj;generalize H3:h / 16^j=g at *;generalize Hh:Tx.pO j h=d at *;have hdl:d.length<=8:=by rw[<-Hh,iy];exact hj
    have X3:=z24 H3;have X4:=z24 Hh;clear H3 Hh;by_cases h8:j<8
    ·go_wp2
     go_round
     case rel=>exact⟨j+1,by omega,by go_num,by rw[uy,X4.out,X3.out,M9];exact pL _ (by decide),by rw[pM,<-j1,X3.out];go_num⟩
     case measure=>simp[intOf];omega
    ·go_wp2;go_ret;exact⟨xM (by rw[<-X4.out,Tx.dA,X2.out,show j=8 by omega]),rfl⟩
def EX s w(hs:s.size<=maxLen):
 Calls Tq.prog 24 #[.string s] w λe U=>e=.returned (.string ⟨(Tx.dU s.data.toList).toArray⟩)/\U=w:=by
 unfold maxLen at hs;by_cases h0:s.size=0\/200<s.size
 ·have X0:=z24 (show Tx.dU s.data.toList=[] by unfold Tx.dU;rw[dx,bk h0]);by_cases hz:s.size=0
  ·have t1:((s.size:Int)==0)=true:=by rw[hz];rfl
   clear h0 hz;go_enter Tq.func24,ntmps24;go_wp2;go_ret;exact⟨xM (by rw[X0.out]),rfl⟩
  ·have t1:((s.size:Int)==0)=false:=by rw[b8];omega
   have J:200<s.size:=by omega
   clear h0 hz;go_enter Tq.func24,ntmps24;go_wp2;go_ret;exact⟨xM (by rw[X0.out]),rfl⟩
 ·have X0:=z24 (show Tx.dU s.data.toList=Tx.pO 4 (s.size+4)++s.data.toList by unfold Tx.dU;rw[dx,aX h0]);have t1:((s.size:Int)==0)=false:=by rw[b8];omega
  have J:s.size<=200:=by omega
  clear h0;go_enter Tq.func24,ntmps24;go_wp2
  go_loop [3,4,5] (λg d i=>∃j:Nat,j<=4/\i=.int .i64 j/\d=.string ⟨(Tx.pO j (s.size+4)).toArray⟩/\g=.int .i64 ((s.size+4) / 16^j:Nat)) (λ_ _ i=>4 - (intOf i).toNat)
  case atStart=>exact⟨0,by omega,rfl,rfl,by simp⟩
  case round=>
   obtain⟨j,hj,rfl,rfl,rfl⟩:=hrel;have hg:(s.size+4) / 16^j<=204:=cV (ox _ _) (by omega);generalize H3:(s.size+4) / 16^j=g at *;generalize Hh:Tx.pO j (s.size+4)=d at *;have hdl:d.length<=4:=by rw[<-Hh,iy];exact hj
   have X3:=z24 H3;have X4:=z24 Hh;clear H3 Hh;by_cases h8:j<4
   ·go_wp2
    go_round
    case rel=>exact⟨j+1,by omega,by go_num,by rw[uy,X4.out,X3.out,M9];exact pL _ (by decide),by rw[pM,<-j1,X3.out];go_num⟩
    case measure=>simp[intOf];omega
   ·go_wp2;go_ret;exact⟨xM (by have e4:=X4.out;rw[show j=4 by omega]at e4;rw[X0.out,e4,zR]),rfl⟩
end Wa
