/- Ends: a part. Conditions: none. -/
import Derived.Shelf.Strings.SlTrimAscii
import Derived.Test.YtmanpggemmgnnaaGreatDoorA02
import Derived.Test.YtmanpggemmgnnaaGreatDoorA10
import Derived.Test.YtmanpggemmgnnaaGreatDoorA16
import Derived.Test.YtmanpggemmgnnaaGreatDoorA22
import Derived.WalkLawsBesides
import Derived.WalkSpells
set_option linter.all false
set_option maxHeartbeats 8000000
set_option maxRecDepth 1000000
namespace Go.Proofs.YtmanpggemmgnnaaGreatDoor
noncomputable section
open Go Go.RowKit Go.Shelf Ba VW Tryz
def ŝ:=@Any.strings_Trim_laid
def Ŝ:=@ByteArray.toList_eq
def ś:=@World.ownsRow_nil
def Ś:=@lt_of_block
def wJ{p}(h:p):Go.RowKit.Hid p:=Go.Lib.hid h
def GC{a b}(x:a)(y:b):a/\b:=⟨x,y⟩
namespace We
def JQ s w(hs:s.size<=maxLen):
 Calls Tq.prog 157 #[.string s] w λe U=>e=.returned (.bool (Tx.hex s.data.toList))/\Below w.heap.size w U:=by
 have C:=ŝ Jd (by kernel_rfl) s ⟨#[48,49,50,51,52,53,54,55,56,57,97,98,99,100,101,102]⟩ w (by unfold maxLen at hs;exact hs) (by decide) (ascii_of_all (by decide));change Calls Tq.prog 187 _ _ (λe U=>e=.returned (.string ⟨(Lib.trimS s.data.toList [48,49,50,51,52,53,54,55,56,57,97,98,99,100,101,102]).toArray⟩)/\Below w.heap.size w U)at C;have T:=Lx.W9 s.data.toList;generalize Lib.trimS s.data.toList [48,49,50,51,52,53,54,55,56,57,97,98,99,100,101,102]=r at C T;have C:=wJ C;have T:=wJ T;go_enter Tq.func157,ntmps157;go_wp2_with (go_at_call 187;refine C.out.mono ?_;rintro e U ⟨rfl,hB⟩);go_ret;exact⟨jS (by rw[j9,sY];exact T.out),hB⟩
def Ga s w(hs:s.size<=maxLen):
 Calls Tq.prog 316 #[.string s] w λe U=>e=.returned (.bool (Tx.yN s.data.toList))/\Below w.heap.size w U:=by
 have C:=wJ (JQ s w hs);unfold maxLen at hs;by_cases h8:s.size=8
 ·have t1:((s.size:Int)==8)=true:=by rw[h8];rfl
  have X2:=wJ h8;clear h8;by_cases hz:s.toList=[48,48,48,48,48,48,48,48]
  ·have t2:(s.toList==[48,48,48,48,48,48,48,48])=true:=jA.2 hz;have X3:=wJ hz;clear hz;go_enter Tq.func316,ntmps316;go_wp2_with (go_at_call 157;refine C.out.mono ?_;rintro e U ⟨rfl,hB⟩);go_ret;exact⟨jS (by have e:=X3.out;rw[Ŝ]at e;rw[Tx.yN,e];rfl),Below.refl _ _⟩
  ·have t2:(s.toList==[48,48,48,48,48,48,48,48])=false:=b8.2 hz;have X3:=wJ hz;clear hz;go_enter Tq.func316,ntmps316;go_wp2_with (go_at_call 157;refine C.out.mono ?_;rintro e U ⟨rfl,hB⟩);go_ret;exact⟨jS (by have e:=X3.out;rw[Ŝ]at e;rw[Tx.yN,dx,X2.out];simp[Tx.di,e]),hB⟩
 ·have t1:((s.size:Int)==8)=false:=by rw[b8];omega
  have X2:=wJ h8;clear h8;go_enter Tq.func316,ntmps316;go_wp2_with (go_at_call 157;refine C.out.mono ?_;rintro e U ⟨rfl,hB⟩);go_ret;exact⟨jS (by rw[Tx.yN,dx];simp[X2.out]),Below.refl _ _⟩
end We
section
open Fr
def pI:(Tq.prog.info? 9).map (λi=>(i.zero,i.size,i.bytes))=some (some (.string ByteArray.empty),1,16):=(by kernel_rfl)
namespace Wf
def aAj s c w(hs:s.size<=maxLen):
 Calls Tq.prog 207 #[.string s,.string ⟨#[c]⟩] w λe U=>
  e=.returned (.tuple #[.string ⟨(Tx.cut c s.data.toList).1.toArray⟩,.string ⟨(Tx.cut c s.data.toList).2.1.toArray⟩,.bool (Tx.cut c s.data.toList).2.2])/\∃n,U=w.drewN n:=by
 unfold maxLen at hs;have C:=stringslite_Index_one s c w;rcases Lx.zy s.data.toList c with⟨k,A,he,Q,hi⟩|⟨Q,hi⟩
 ·rw[hi]at C;have C:=wJ C;have lh:k<s.size:=A;have X3:=wJ (Tx.aAi (c:=c) A Q he);clear hi Q he A;go_enter Tq.func207,ntmps207;go_wp2_with (go_at_call 244;refine C.out.mono ?_;rintro e U ⟨rfl,rfl⟩);go_quiet (fail)
  go_wp2
  go_ret3
  exact⟨QR (by rw[X3.out,pV];rfl) (by rw[X3.out,pV];exact eM (by rw[gh,dx];omega)) (by rw[X3.out]),_,rfl⟩
 ·rw[hi]at C;have C:=wJ C;have X3:=wJ (Tx.Nf (c:=c) Q);clear hi Q;go_enter Tq.func207,ntmps207;go_wp2_with (go_at_call 244;refine C.out.mono ?_;rintro e U ⟨rfl,rfl⟩)
  go_ret3
  exact⟨QR (by rw[X3.out]) (by rw[X3.out]) (by rw[X3.out]),0,rfl⟩
def lV s c w(hs:s.size<=maxLen):
 Calls Tq.prog 181 #[.string s,.string ⟨#[c]⟩] w λe U=>
  e=.returned (.tuple #[.string ⟨(Tx.cut c s.data.toList).1.toArray⟩,.string ⟨(Tx.cut c s.data.toList).2.1.toArray⟩,.bool (Tx.cut c s.data.toList).2.2])/\∃n,U=w.drewN n:=by
 have C:=wJ (aAj s c w hs);go_enter Tq.func181,ntmps181;go_wp2_with (go_at_call 207;refine C.out.mono ?_;rintro e U ⟨rfl,hw⟩)
 go_ret3
 exact⟨rfl,hw⟩
def lZ s c w(hs:s.size<4294967281):
 Calls Tq.prog 158 #[.string s,.string ⟨#[c]⟩] w λe U=>
  e=.returned (.slice (some ⟨w.heap.size,0,none⟩) (Tx.split c s.data.toList).length (Tx.split c s.data.toList).length)/\
  U=w.alloc (.cells ((Tx.split c s.data.toList).map λl=>Value.string ⟨l.toArray⟩).toArray 9):=by
 have u7:Lib.countB s ⟨#[c]⟩<=s.size:=Lib.countB_le ⟨#[c]⟩ (aI 1) s.size s (aI _);have C:=Any.strings_genSplit_core aCi pI s ⟨#[c]⟩ 0 (-1) (Lib.countB s ⟨#[c]⟩+1) w hs (aI 1) (cQ _)
  (λx cs _=>by have h:=strings_Index_one x c (w.alloc (.cells cs 9));rw[<-Lib.index_one]at h;exact h)
  (by have h:=strings_Count_one s c w;rw[show Lib.countByte s.data.toList c=Lib.countB s ⟨#[c]⟩from(Lib.count_one c _).symm]at h;exact h)
  (by decide) (by decide) (by rw[bk (by decide)];omega)
 rw[Nat.add_sub_cancel,Lib.splitB_all ⟨#[c]⟩ (aI 1) 0 _ s rfl]at C;have e2:Lib.cellsOf (Lib.splitB ⟨#[c]⟩ 0 (Lib.countB s ⟨#[c]⟩) s) (Lib.countB s ⟨#[c]⟩+1)=((Lib.splitB ⟨#[c]⟩ 0 (Lib.countB s ⟨#[c]⟩) s).map Value.string).toArray:=by
  conv=>lhs;rw[<-Lib.splitB_all ⟨#[c]⟩ (aI 1) 0 _ s rfl]
  exact Lib.cellsOf_full _
 rw[e2,Lx.FZ,Lx.IC]at C;change Calls Tq.prog 188 #[.string s,.string ⟨#[c]⟩,.int .i64 0,.int .i64 (-1)] w (λe U=>e=.returned (.slice (some ⟨w.heap.size,0,none⟩) (Tx.split c s.data.toList).length (Tx.split c s.data.toList).length)/\U=w.alloc (.cells ((Tx.split c s.data.toList).map λl=>Value.string ⟨l.toArray⟩).toArray 9))at C;have C:=wJ C;go_enter Tq.func158,ntmps158;go_wp2_with (go_at_call 188;refine C.out.mono ?_;rintro e U ⟨rfl,rfl⟩);go_ret;exact⟨rfl,rfl⟩
def DD s n w(Q:0<=n)(h:Tx.line s.data.toList n.toNat=true):
 Calls Tq.prog 312 #[.string s,.int .i64 n] w λe U=>e=.returned .nilIface/\U=w:=by
 have V:(s.size:Int)<=n:=by rw[Tx.line,bw]at h;have:=kA h.2;rw[dx]at this;omega
 have C:=strings_Contains_one s 10 w;rw[Lx.Rs,show s.data.toList.all (·!=10)=true by rw[Tx.line,bw]at h;exact h.1]at C;have C:=wJ C;clear h;go_enter Tq.func312,ntmps312;go_wp2_with (go_at_call 313;refine C.out.mono ?_;rintro e U ⟨rfl,rfl⟩);go_ret;exact⟨rfl,rfl⟩
def Jb s n w(Q:0<=n)(h:Tx.line s.data.toList n.toNat=false):
 Calls Tq.prog 312 #[.string s,.int .i64 n] w λe U=>(∃a,e=.returned (.iface 249 (.pointer (some a))))/\Below w.heap.size w U:=by
 by_cases V:(s.size:Int)<=n
 ·have C:=strings_Contains_one s 10 w;rw[Lx.Rs,show s.data.toList.all (·!=10)=false by
   rw[Tx.line,dx,show decide (s.size<=n.toNat)=true by simp;omega]at h;simpa using h]at C
  have C:=wJ C;clear h;go_enter Tq.func312,ntmps312;go_wp2_with (go_at_call 313;refine C.out.mono ?_;rintro e U ⟨rfl,rfl⟩);go_ret;exact⟨⟨_,rfl⟩,(Below.refl _ _).alloc (aI _) _⟩
 ·clear h;go_enter Tq.func312,ntmps312;go_wp2;go_ret;exact⟨⟨_,rfl⟩,(Below.refl _ _).alloc (aI _) _⟩
def aAs b s w(h:Tx.line s.data.toList 40=true):
 Calls Tq.prog 311 #[.pointer (some ⟨b,0,none⟩),.string s] w λe U=>e=.returned .nilIface/\U=w:=by
 have C:=wJ (DD s 40 w (by decide) h);clear h;go_enter Tq.func311,ntmps311;go_wp2_with (go_at_call 312;refine C.out.mono ?_;rintro e U ⟨rfl,rfl⟩);go_ret;exact⟨rfl,rfl⟩
def aDl b s w(h:Tx.line s.data.toList 40=false):
 Calls Tq.prog 311 #[.pointer (some ⟨b,0,none⟩),.string s] w λe U=>(∃a,e=.returned (.iface 249 (.pointer (some a))))/\Below w.heap.size w U:=by
 have C:=wJ (Jb s 40 w (by decide) h);clear h;go_enter Tq.func311,ntmps311;go_wp2_with (go_at_call 312;refine C.out.mono ?_;rintro e U ⟨⟨a,rfl⟩,hb⟩);go_ret;exact⟨⟨_,rfl⟩,hb⟩
def I7 b s w(hs:s.size<=maxLen)(h:Tx.yN s.data.toList=false):
 Calls Tq.prog 315 #[.pointer (some ⟨b,0,none⟩),.string s] w λe U=>(∃a,e=.returned (.iface 249 (.pointer (some a))))/\Below w.heap.size w U:=by
 have C:=We.Ga s w hs;rw[h]at C;have C:=wJ C;clear h;unfold maxLen at hs;go_enter Tq.func315,ntmps315;go_wp2_with (go_at_call 316;refine C.out.mono ?_;rintro e U ⟨rfl,hb⟩);go_ret;exact⟨⟨_,rfl⟩,hb.alloc hb.size _⟩
def Ll b B n t x v xs s w(hs:s.size<=maxLen)(h:Tx.yN s.data.toList=true)
 (J:nE w b t x v) (tU:w.ownsRow B 9 1 v n xs) (X:∀k,v.ownBlock=some k->k≠b) (Q:n<1099511627776) (hB:B<=w.heap.size):
 Calls Tq.prog 315 #[.pointer (some ⟨b,0,none⟩),.string s] w λe U=>e=.returned .nilIface/\
  ∃v',nE U b t x v'/\U.ownsRow B 9 1 v' (n+1) (xs++[.string s])/\(∀k,v'.ownBlock=some k->v.ownBlock=some k\/w.heap.size<=k)/\aj (λk=>k=b\/v.ownBlock=some k) w U:=by
 have C:=We.Ga s w hs;rw[h]at C;have C:=wJ C;clear h;unfold maxLen at hs;obtain⟨i0,hi,xr,xU,ya⟩:=info_parts pI;go_enter Tq.func315,ntmps315;go_wp2_with fail;refine C.out.mono ?_;rintro e w1 ⟨rfl,hb⟩;have hC:=wJ (aj.jU (S:=λk=>k=b\/v.ownBlock=some k) hb (λk V J=>absurd J (by omega)));have h21:nE w1 b t x v:=(hb.block b J.lt).trans J;have EY:w1.ownsRow B 9 1 v n xs:=(aj.jU (S:=λ_=>False) hb (λk V J=>absurd J (by omega))).ownsRow tU (λ_ _ e=>e);have k1:=h21.c1;have f1:=h21.f1;have uG:=hb.size;have tP:=J.lt;have H:=wJ (GC J (GC tU hb));clear J tU hb;have H21:=wJ h21;clear h21;go_wp2_with (at_builtin;refine wpList_append_own_at _ rfl (.tmp 15) (.tmp 17) 34 rfl B 9 i0 (.string ByteArray.empty) 1 16 ((Tq.underlying 34).trans underlying34) hi xr xU ya rfl (by decide) v n xs rfl (EY.alloc _) ⟨w1.heap.size,0,none⟩ 1 1 [.string s] rfl rfl ?c1 ?c2 ?c3 ?c4 ?c5 ?_)
 case c1=>intro j u hj;match j,hj with|0,hj=>simp at hj;subst hj;simp[Addr.add]
 case c2=>intro u hu;simp at hu;subst hu;rfl
 case c3=>unfold maxLen;omega
 case c4=>omega
 case c5=>rw[World.size_alloc];omega
 intro v' w2 xT tR hnn wx;have xd:=H21.out.lt;have tW:v.ownBlock≠some b:=λe=>X b e rfl;have h22:nE w2 b t x v:=(tR.block b (by rw[World.size_alloc];omega) (λe=>tW e.symm)).trans ((Below.heap_alloc w1 _ b xd).trans H21.out);obtain⟨g,vZ,rfl⟩:∃g vZ,v'=.slice (some ⟨g,0,none⟩) (n+1) vZ:=by
  rcases xT.2 with⟨_,h⟩|⟨g,vZ,_,h,_⟩
  ·omega
  ·exact⟨g,vZ,h⟩
 have k2:=h22.c1;have f2:=h22.f1;have lu:∀k,(Value.slice (some ⟨g,0,none⟩) (n+1) vZ).ownBlock=some k->v.ownBlock=some k\/w.heap.size<=k:=by
  intro k A;rcases wx with wx|wx
  ·exact .inl (wx.symm.trans A)
  ·rw[A]at wx;exact .inr (by have:=ay wx;omega)
 have K:=wJ (GC h22 (GC xT (GC tR (GC tW lu))));have B2:∀k,(Value.slice (some ⟨g,0,none⟩) (n+1) vZ).ownBlock=some k->k≠b:=by
  intro k A e;subst e;rcases lu k A with h|h
  ·exact tW h
  ·have:=tP;omega
 have KG:=wJ B2;clear h22 xT tR k1 f1 hnn tW lu X wx B2;go_wp2;go_ret;obtain⟨h22,xT,tR,tW,lu⟩:=K.out;refine⟨rfl,_,h22.aMT,ownsRow_setCell_other xT (λe=>KG.out _ e rfl) _,lu,?_⟩;refine(aj.grown (hC.out.alloc _) tR (λk A=>.inl (.inr A))).setCell (.inl (.inl rfl)) _
end Wf
end
section
open Fr
namespace Wg
def av(l:Tx.B):Value:=.string ⟨l.toArray⟩
def aCe s(hs:s.size<=maxLen):∃r:Tx.B,(r=[]↔s.data.toList.all Tx.uW=true)/\∀w,Calls Tq.prog 187 #[.string s,.string ⟨#[97,98,99,100,101,102,103,104,105,106,107,108,109,110,111,112,113,114,115,116,117,118,119,120,121,122]⟩] w λe U=>e=.returned (.string ⟨r.toArray⟩)/\Below w.heap.size w U:=
 ⟨_,Lx.WZ _,λw=>ŝ Jd (by kernel_rfl) s ⟨#[97,98,99,100,101,102,103,104,105,106,107,108,109,110,111,112,113,114,115,116,117,118,119,120,121,122]⟩ w (by unfold maxLen at hs;exact hs) (by decide) (ascii_of_all (by decide))⟩
structure TI(w wr:World)b t x v(es:List Tx.B)k last(ids:List Tx.B):Prop where
 spec:Tx.entries [] es=(Tx.entries last (es.drop k)).map (ids++·)
 len:ids.length=k
 two:nE wr b t x v
 own:wr.ownsRow (w.heap.size+1) 9 1 v ids.length (ids.map av)
 row:wr.heap[w.heap.size]? =some (.cells (es.map av).toArray 9 (0,0))
 aA:aj (λk=>k=b) w wr
def bL(w:World)(b:Nat)(t:TypeId)(x:Value)(res:Option (List Tx.B))(e:Ending)(U:World):Prop:=
 match res with
 |none=>(∃a,e=.returned (.iface 249 (.pointer (some a))))/\aj (λk=>k=b) w U
 |some ids=>e=.returned .nilIface/\∃v,nE U b t x v/\U.ownsRow w.heap.size 9 1 v ids.length (ids.map av)/\aj (λk=>k=b) w U
def bL.no{res b w U t x a}(h:res=none)(L:aj (λk=>k=b) w U):bL w b t x res (.returned (.iface 249 (.pointer (some a)))) U:=by subst h;exact⟨⟨_,rfl⟩,L⟩
def PY{e last r}(h:(Tx.cut 61 e).2.2=false\/Tx.leB (Tx.cut 61 e).1 last=true\/8<(Tx.cut 61 e).1.length\/(Tx.cut 61 e).1.all Tx.uW=false\/Tx.yN (Tx.cut 61 e).2.1=false):Tx.entries last (e::r)=none:=by
 rw[Tx.entries,aX];rw[bw,bw,bw];rintro⟨⟨⟨V,J⟩,h3⟩,h4⟩;rw[Tx.O3]at J;rcases h with h|h|h|h|h
 ·rw[h]at V;cases V
 ·rw[h]at h4;cases h4
 ·simp at J;omega
 ·rw[h]at J;cases J
 ·rw[h]at h3;cases h3
def aCg l:Tx.leB [] l=true:=by cases l<;>rfl
def M7{e last r}(V:(Tx.cut 61 e).2.2=true)(J:Tx.leB (Tx.cut 61 e).1 last=false)(h3:(Tx.cut 61 e).1.length<=8)(h4:(Tx.cut 61 e).1.all Tx.uW=true)(h5:Tx.yN (Tx.cut 61 e).2.1=true):
 Tx.entries last (e::r)=(Tx.entries (Tx.cut 61 e).1 r).map ((Tx.cut 61 e).2.1::·):=by
 have h6:1<=(Tx.cut 61 e).1.length:=by
  cases h:(Tx.cut 61 e).1 with
  |nil=>rw[h,aCg]at J;cases J
  |cons=>simp
 rw[Tx.entries,bk];rw[V,J,h5,Tx.O3,h4];simp[h3,h6]
def wG c:∀l:Tx.B,(Tx.cut c l).1.length<=l.length/\(Tx.cut c l).2.1.length<=l.length
 |[]=>⟨aI _,aI _⟩
 |x::r=>by
  have ih:=wG c r;rw[Tx.cut];split
  ·simp
  ·simp;omega
def rT c:∀l e,e∈Tx.split c l->e.length<=l.length
 |[],e,h=>by simp[Tx.split]at h;subst h;simp
 |x::r,e,h=>by
  have ih:=rT c r;rw[Tx.split]at h;split at h
  ·rcases bm.1 h with rfl|h
   ·simp
   ·have:=ih e h;simp;omega
  ·split at h
   ·simp at h;subst h;simp
   ·rename_i p ps hp;rcases bm.1 h with rfl|h
    ·have:=ih p (by rw[hp];simp);simp;omega
    ·have:=ih e (by rw[hp];simp[h]);simp;omega
def lY c:∀l:Tx.B,(Tx.split c l).length<=l.length+1
 |[]=>by simp[Tx.split]
 |x::r=>by
  have ih:=lY c r;rw[Tx.split];split
  ·simp;omega
  ·split
   ·simp
   ·rename_i p ps hp;rw[hp]at ih;simp at ih ⊢;omega
def BA:∀a b:Tx.B,Tx.leB a b=true↔(Op.bytesLess a b=true\/a=b)
 |[],[]=>by simp[Tx.leB]
 |[],_::_=>by simp[Tx.leB,Op.bytesLess]
 |_::_,[]=>by simp[Tx.leB,Op.bytesLess]
 |x::r,y::s=>by
  have ih:=BA r s;by_cases NG:x=y
  ·subst NG;simp[Tx.leB,Op.bytesLess,ih]
  ·simp[Tx.leB,Op.bytesLess,NG,UInt8.lt_iff_toNat_lt]
def TI.aAp{w wr b t x v es k last ids}(h:TI w wr b t x v es k last ids)(tP:k<es.length):
 wr.cell? ⟨w.heap.size,k,none⟩=some (.string ⟨(es[k]'tP).toArray⟩):=by
 simp[World.cell?,h.row,av,tP]
def TI.next{b w wr t x v es k last ids e n y w2 w3}(hb:b<w.heap.size)(h:TI w wr b t x v es k last ids)(hd:es.drop k=e::es.drop (k+1))
 (hy:Tx.entries last (e::es.drop (k+1))=(Tx.entries n (es.drop (k+1))).map (y::·)) (hC:aj (λ_=>False) wr w2)
 (Y:∃v',nE w3 b t x v'/\w3.ownsRow (w.heap.size+1) 9 1 v' (ids.length+1) (ids.map av++[.string ⟨y.toArray⟩])/\(∀k,v'.ownBlock=some k->v.ownBlock=some k\/w2.heap.size<=k)/\aj (λk=>k=b\/v.ownBlock=some k) w2 w3):
 ∃v',TI w w3 b t x v' es (k+1) n (ids++[y]):=by
 obtain⟨v',r1,r2,r3,r4⟩:=Y;have tP:=λk A=>h.own.lt k A;have tM:=Ś h.row;have hs:=hC.size;refine⟨v',?_,by simp[h.len],r1,?_,?_,?_⟩
 ·rw[h.spec,hd,hy,nd];congr 1;funext l;simp
 ·rw[b9,eN];exact r2
 ·refine(r4.block _ (by omega) ?_).trans ((hC.block _ tM (λe=>e)).trans h.row);rintro(e|e)
  ·omega
  ·have:=(tP _ e).1;omega
 ·refine(h.aA.trans (hC.mono (λ_ _ e=>e.elim))).trans' r4 ?_;rintro i hi (e|e)
  ·exact e
  ·have:=(tP _ e).1;omega
def TI.done{w wr b t x v es k last ids}(h:TI w wr b t x v es k last ids)(A:k=es.length):
 bL w b t x (Tx.entries [] es) (.returned .nilIface) wr:=by
 have e:Tx.entries [] es=some ids:=by rw[h.spec,A,sZ];simp[Tx.entries]
 rw[e];refine⟨rfl,v,h.two,?_,h.aA⟩;obtain⟨hl,L⟩:=h.own;refine⟨hl,?_⟩;rcases L with L|⟨g,cap,cur,h0,V,J⟩
 ·exact .inl L
 ·exact .inr ⟨g,cap,cur,h0,by omega,J⟩
def Xa b t x s w(hs:s.size<16777216)(tW:¬s.data.toList=[])(J:nE w b t x (.slice none 0 0)):
 Calls Tq.prog 314 #[.pointer (some ⟨b,0,none⟩),.string s] w (bL w b t x (Tx.tree s.data.toList)):=by
 have C:=wJ (Wf.lZ s 44 w (by omega));have Mq:Tx.tree s.data.toList=Tx.entries [] (Tx.split 44 s.data.toList):=by rw[Tx.tree,aX tW]
 rw[Mq];have wA:∀e∈Tx.split 44 s.data.toList,e.length<16777216:=λe he=>gH (rT 44 _ e he) hs;generalize zO:Tx.split 44 s.data.toList=es at C wA ⊢;have hle:es.length<=16777216:=by rw[<-zO];exact cV (lY 44 _) hs
 have t1:(s.toList==[])=false:=b8.2 (by rw[Ŝ];exact tW);have hb:=J.lt;clear Mq tW zO hs;have T0:Hid (TI w (w.alloc (.cells (es.map λl=>Value.string ⟨l.toArray⟩).toArray 9)) b t x (.slice none 0 0) es 0 [] []):=
  wJ ⟨by simp,rfl,J.aA ((aj.refl (λ_=>False) w).alloc _) (λe=>e),ś _ _ _ _,heap_alloc_new w _,(aj.refl _ _).alloc _⟩
 have wA:=wJ wA;clear J;go_enter Tq.func314,ntmps314;go_wp2_with (go_at_call 158;refine C.out.mono ?_;rintro e U ⟨rfl,rfl⟩)
 go_loopw [5,17] (λl i wr=>∃(k:Nat) (last:Tx.B) (ids:List Tx.B) (v:Value),k<=es.length/\i=.int .i64 k/\l=.string ⟨last.toArray⟩/\TI w wr b t x v es k last ids) (λ_ i _=>es.length - (intOf i).toNat)
 case atStart=>exact⟨0,[],[],.slice none 0 0,cQ _,rfl,rfl,T0.out⟩
 case round=>
  rename_i wr;clear T0 C;obtain⟨k,last,ids,v,A,rfl,rfl,hT⟩:=hrel;by_cases tP:k<es.length
  ·have kc:=hT.aAp tP;have hlen:(es[k]'tP).length<16777216:=wA.out _ (lj tP);have MO:es.drop k=es[k]'tP::es.drop (k+1):=lx tP;generalize es[k]'tP=e at kc hlen MO;have C1:=wJ (Wf.lV ⟨e.toArray⟩ 61 wr (by unfold maxLen;show e.length<=_;omega));have uG:=hT.aA.size;have HT:=wJ (GC hT MO);clear hT MO;have hn8:=(wG 61 e).1;have hy8:=(wG 61 e).2;have Hno:=wJ (λh=>PY (last:=last) (e:=e) (r:=es.drop (k+1)) h);have aHR:=wJ (λV J h3 h4 h5=>M7 (last:=last) (e:=e) (r:=es.drop (k+1)) V J h3 h4 h5);change Hid (Calls _ _ _ _ (λe' U=>e'=.returned (.tuple #[.string ⟨(Tx.cut 61 e).1.toArray⟩,.string ⟨(Tx.cut 61 e).2.1.toArray⟩,.bool (Tx.cut 61 e).2.2])/\_))at C1;generalize Tx.cut 61 e=c at C1 hn8 hy8 Hno aHR;obtain⟨n,y,ok⟩:=c;simp only at C1 hn8 hy8;have fin:Hid (Tx.entries last (e::es.drop (k+1))=none->Tx.entries [] es=none):=wJ (λh=>by rw[HT.out.1.spec,HT.out.2,h];rfl);have base:Hid (aj (λk=>k=b) w wr):=wJ HT.out.1.aA;cases ok
   ·go_wp2_with (go_at_call 181;refine C1.out.mono ?_;rintro e U ⟨rfl,q,rfl⟩);go_ret;exact bL.no (fin.out (Hno.out (.inl (by trivial)))) ((base.out.drewN _).alloc _)
   ·by_cases Pz:Tx.leB n last=true
    ·have hor:=(BA n last).1 Pz;have Zl:=wJ Pz;clear Pz;rcases hor with xd|rfl
     ·go_wp2_with (go_at_call 181;refine C1.out.mono ?_;rintro e U ⟨rfl,q,rfl⟩);go_ret;exact bL.no (fin.out (Hno.out (.inr (.inl Zl.out)))) ((base.out.drewN _).alloc _)
     ·go_wp2_with (go_at_call 181;refine C1.out.mono ?_;rintro e U ⟨rfl,q,rfl⟩);go_ret;exact bL.no (fin.out (Hno.out (.inr (.inl Zl.out)))) ((base.out.drewN _).alloc _)
    ·have xd:Op.bytesLess n last=false:=by
      rw[gN];exact λh=>Pz ((BA n last).2 (.inl h))
     have wj:¬n=last:=λh=>Pz ((BA n last).2 (.inr h));have xb:(n==last)=false:=b8.2 wj;have Zl:=wJ (gN.2 Pz);clear Pz;by_cases h8:n.length<=8
     ·obtain⟨r,Y,C2⟩:=aCe ⟨n.toArray⟩ (by unfold maxLen;show n.length<=_;omega);have C2:=wJ C2;by_cases HQ:r=[]
      ·have oJ:n.all Tx.uW=true:=Y.1 HQ;have E4:r.isEmpty=true:=by rw[HQ];rfl
       have HQ:=wJ HQ;have oJ:=wJ oJ;clear Y;cases hid:Tx.yN y
       ·have C3:=wJ (λw=>Wf.I7 b ⟨y.toArray⟩ w (by unfold maxLen;show y.length<=_;omega) hid);have hid:=wJ hid;go_wp2_with fail;refine C1.out.mono ?_;rintro e U ⟨rfl,q,rfl⟩;go_wp2_with fail;refine(C2.out _).mono ?_;rintro e w2 ⟨rfl,ZJ⟩;go_wp2_with fail;refine(C3.out _).mono ?_;rintro e w3 ⟨⟨a,rfl⟩,aPC⟩;go_wp2;go_ret;exact bL.no (fin.out (Hno.out (.inr (.inr (.inr (.inr hid.out)))))) (((base.out.drewN _).trans (aj.jU ZJ (λk V J=>absurd J (by omega)))).trans (aj.jU aPC (λk V J=>absurd J (by omega))))
       ·have hid:=wJ hid;have B5:ids.length<1099511627776:=by have:=HT.out.1.len;omega
        go_wp2_with fail;refine C1.out.mono ?_;rintro e U ⟨rfl,q,rfl⟩;go_wp2_with fail;refine(C2.out _).mono ?_;rintro e w2 ⟨rfl,ZJ⟩;have hT:=HT.out.1;have eF:aj (λ_=>False) wr w2:=((aj.refl _ wr).drewN q).trans (aj.jU ZJ (λk V J=>absurd J (by omega)));have aI1:=hT.two.aA eF (λe=>e);have aJq:=eF.ownsRow hT.own (λ_ _ e=>e);have Zi:=λk A=>hT.own.lt k A;have yB:=eF.size;have aJd:=(eF.block w.heap.size (Ś hT.row) (λe=>e)).trans hT.row;have hvb:∀k,v.ownBlock=some k->k≠b:=λk A e=>by have:=(Zi k A).1;omega
        have Jr:w.heap.size+1<=w2.heap.size:=by have:=Ś hT.row;omega
        have C3:=wJ (Wf.Ll b (w.heap.size+1) ids.length t x v (ids.map av) ⟨y.toArray⟩ w2 (by unfold maxLen;show y.length<=_;omega) hid.out aI1 aJq hvb B5 Jr);have K2:=wJ (GC eF (GC aJd Zi));clear hT eF aI1 aJq Zi aJd hvb;go_wp2_with fail;refine C3.out.mono ?_;rintro e w3 ⟨rfl,vd⟩;have vd:=wJ vd;go_wp2
        go_roundw
        case rel=>exact⟨k+1,n,ids++[y],(TI.next hb HT.out.1 HT.out.2 (aHR.out (by trivial) Zl.out h8 oJ.out hid.out) K2.out.1 vd.out).choose,by omega,by go_num,rfl,(TI.next hb HT.out.1 HT.out.2 (aHR.out (by trivial) Zl.out h8 oJ.out hid.out) K2.out.1 vd.out).choose_spec⟩
        case measure=>simp[intOf];omega
      ·have oJ:n.all Tx.uW=false:=by rw[gN];exact λh=>HQ (Y.2 h)
       have oJ:=wJ oJ;have E4:r.isEmpty=false:=by cases r with|nil=>exact absurd rfl HQ|cons=>rfl
       have HQ:=wJ HQ;clear Y;go_wp2_with fail;refine C1.out.mono ?_;rintro e U ⟨rfl,q,rfl⟩;go_wp2_with fail;refine(C2.out _).mono ?_;rintro e w2 ⟨rfl,ZJ⟩;go_wp2;go_ret;exact bL.no (fin.out (Hno.out (.inr (.inr (.inr (.inl oJ.out)))))) (((base.out.drewN _).trans (aj.jU ZJ (λk V J=>absurd J (by omega)))).alloc _)
     ·go_wp2_with (go_at_call 181;refine C1.out.mono ?_;rintro e U ⟨rfl,q,rfl⟩);go_ret;exact bL.no (fin.out (Hno.out (.inr (.inr (.inl (by omega)))))) ((base.out.drewN _).alloc _)
  ·have lh:k=es.length:=by omega
   have HT:=wJ hT;clear hT;go_wp2;go_ret;exact TI.done HT.out lh
def NZ b t x s w(tW:s.data.toList=[])(J:nE w b t x (.slice none 0 0)):
 Calls Tq.prog 314 #[.pointer (some ⟨b,0,none⟩),.string s] w (bL w b t x (Tx.tree s.data.toList)):=by
 have t1:(s.toList==[])=true:=jA.2 (by rw[Ŝ];exact tW);have iN:bL w b t x (Tx.tree s.data.toList) (.returned .nilIface) w:=by rw[Tx.tree,bk tW];exact⟨rfl,_,J,ś _ _ _ _,aj.refl _ _⟩
 have iN:=wJ iN;clear tW J;go_enter Tq.func314,ntmps314;go_wp2;go_ret;exact iN.out
def Xb b t x s w(hs:s.size<16777216)(J:nE w b t x (.slice none 0 0)):
 Calls Tq.prog 314 #[.pointer (some ⟨b,0,none⟩),.string s] w (bL w b t x (Tx.tree s.data.toList)):=by
 by_cases h:s.data.toList=[]
 ·exact NZ b t x s w h J
 ·exact Xa b t x s w hs h J
end Wg
namespace Wh
open Wg
structure NI(w wr:World)b t x v(ids:List Tx.B):Prop where
 two:nE wr b t x v
 own:wr.ownsRow w.heap.size 9 1 v ids.length (ids.map av)
 aA:aj (λk=>k=b) w wr
def NI.next{w wr b t x v ids w3 y}(h:NI w wr b t x v ids)
 (Y:∃v',nE w3 b t x v'/\w3.ownsRow w.heap.size 9 1 v' (ids.length+1) (ids.map av++[.string ⟨y.toArray⟩])/\(∀k,v'.ownBlock=some k->v.ownBlock=some k\/wr.heap.size<=k)/\aj (λk=>k=b\/v.ownBlock=some k) wr w3):
 ∃v',NI w w3 b t x v' (ids++[y])/\(∀k,v'.ownBlock=some k->v.ownBlock=some k\/wr.heap.size<=k)/\aj (λk=>k=b\/v.ownBlock=some k) wr w3:=by
 obtain⟨v',r1,r2,r3,r4⟩:=Y;refine⟨v',⟨r1,?_,?_⟩,r3,r4⟩
 ·rw[b9,eN];exact r2
 ·refine h.aA.trans' r4 ?_;rintro i hi (e|e)
  ·exact e
  ·have:=(h.own.lt _ e).1;omega
def NI.carry{w wr b t x v ids S w2}(h:NI w wr b t x v ids)(L:aj S wr w2)(hs:∀k,¬S k):NI w w2 b t x v ids:=
 ⟨h.two.aA L (hs _),L.ownsRow h.own (λk _=>hs k),h.aA.trans' L (λi _ e=>absurd e (hs i))⟩
def NI.start{w b t x}(h:nE w b t x (.slice none 0 0)):NI w w b t x (.slice none 0 0) []:=
 ⟨h,ś _ _ _ _,aj.refl _ _⟩
def Q6{b w wr t x v ids y}(hb:b<w.heap.size)(h:NI w wr b t x v ids)(Q:ids.length<1099511627776)(hy:y.length<16777216)(hid:Tx.yN y=true):
 Calls Tq.prog 315 #[.pointer (some ⟨b,0,none⟩),.string ⟨y.toArray⟩] wr λe w3=>e=.returned .nilIface/\∃v',NI w w3 b t x v' (ids++[y])/\(∀k,v'.ownBlock=some k->v.ownBlock=some k\/wr.heap.size<=k)/\aj (λk=>k=b\/v.ownBlock=some k) wr w3:=
 (Wf.Ll b w.heap.size ids.length t x v (ids.map av) ⟨y.toArray⟩ wr (by unfold maxLen;show y.length<=_;omega) hid h.two h.own (λk A e=>by have:=(h.own.lt k A).1;omega) Q h.aA.size).mono
   λe w3 hh=>⟨hh.1,NI.next h hh.2⟩
def NI.no{w wr b t x v ids w2 res a}(h:NI w wr b t x v ids)(hb:Below wr.heap.size wr w2)(Y:res=none):bL w b t x res (.returned (.iface 249 (.pointer (some a)))) w2:=
 bL.no Y (h.aA.trans' (aj.nK hb) (λ_ _ (e:False)=>e.elim))
def NI.yes{w wr b t x v ids res}(h:NI w wr b t x v ids)(Y:res=some ids):bL w b t x res (.returned .nilIface) wr:=by subst Y;exact⟨rfl,v,h.two,h.own,h.aA⟩
structure CI w wr b t x v(N2:Nat)(es:List Tx.B)k tr:Prop where
 ni:NI w wr b t x v (tr::es.take k)
 row:wr.heap[N2]? =some (.cells (es.map λl=>Value.string ⟨l.toArray⟩).toArray 9 (0,0))
 ne:∀g,v.ownBlock=some g->g≠N2
 ok:∀j hj,j<k->Tx.yN (es[j])=true
 nb:N2≠b
def CI.aAp{w wr b t x v N2 es k tr}(h:CI w wr b t x v N2 es k tr)(tP:k<es.length):
 wr.cell? ⟨N2,k,none⟩=some (.string ⟨(es[k]'tP).toArray⟩):=by
 simp[World.cell?,h.row,tP]
def CI.next{w wr b t x v N2 es k tr w4 v'}(h:CI w wr b t x v N2 es k tr)(tP:k<es.length)(hid:Tx.yN (es[k]'tP)=true)
 (V:NI w w4 b t x v' ((tr::es.take k)++[es[k]'tP])) (J:∀g,v'.ownBlock=some g->v.ownBlock=some g\/wr.heap.size<=g) (h3:aj (λg=>g=b\/v.ownBlock=some g) wr w4):CI w w4 b t x v' N2 es (k+1) tr:=by
 have hN:=Ś h.row;refine⟨by rw[jy tP];exact V,?_,?_,?_,h.nb⟩
 ·refine(h3.block N2 hN ?_).trans h.row;rintro(e|e)
  ·exact h.nb e
  ·exact h.ne _ e rfl
 ·intro g hg;rcases J g hg with e|e
  ·exact h.ne _ e
  ·omega
 ·intro j hj hjk;by_cases e:j=k
  ·subst e;exact hid
  ·exact h.ok j hj (by omega)
def Nc{m c l}(h:l.length<m):(Tx.cut c l).1.length<m/\(Tx.cut c l).2.1.length<m:=by have:=wG c l;omega
def Vn l tr rest ps msg f f2(V:Tx.cut 32 l=(tr,rest,f))(J:Tx.cut 32 rest=(ps,msg,f2)):
 Tx.ji l=if f2&&Tx.yN tr&&Tx.line msg 20 then(if ps=[45]then some [tr]else if(Tx.split 43 ps).length<=2&&(Tx.split 43 ps).all Tx.yN then some (tr::Tx.split 43 ps)else none)else none:=by
 simp only[Tx.ji,V,J]
def P7 b t x s w(hs:s.size<16777216)(J:nE w b t x (.slice none 0 0)):
 Calls Tq.prog 317 #[.pointer (some ⟨b,0,none⟩),.string s] w (bL w b t x (Tx.ji s.data.toList)):=by
 have C1:=Wf.lV s 32 w (by unfold maxLen;omega);have E7:=Nc (c:=32) (l:=s.data.toList) (m:=16777216) hs;generalize AD:Tx.cut 32 s.data.toList=c1 at C1 E7;obtain⟨tr,rest,f⟩:=c1;have C2:=wJ (λw=>Wf.lV ⟨rest.toArray⟩ 32 w (by unfold maxLen;show rest.length<=_;simp only at E7;omega));have Bh:=Nc (c:=32) (l:=rest) (m:=16777216) E7.2;change Hid (∀w,Calls _ _ _ w (λe' U=>e'=.returned (.tuple #[.string ⟨(Tx.cut 32 rest).1.toArray⟩,.string ⟨(Tx.cut 32 rest).2.1.toArray⟩,.bool (Tx.cut 32 rest).2.2])/\∃n,U=w.drewN n))at C2;generalize A4:Tx.cut 32 rest=c2 at C2 Bh;obtain⟨ps,msg,f2⟩:=c2;have Mq:=Vn _ tr rest ps msg f f2 AD A4;simp only at C1 E7 Bh;have C1:=wJ C1;have hb:=J.lt;have N0:=wJ (NI.start J);rw[Mq];clear Mq AD A4 J hs;have aO8:=E7.1;have aKF:=Bh.1;have aRQ:=Bh.2;clear E7 Bh;cases f2
 ·have vy:(if false&&Tx.yN tr&&Tx.line msg 20 then(if ps=[45]then some [tr]else if(Tx.split 43 ps).length<=2&&(Tx.split 43 ps).all Tx.yN then some (tr::Tx.split 43 ps)else none)else none)=(none:Option (List Tx.B)):=by simp
  rw[vy];go_enter Tq.func317,ntmps317;go_wp2_with fail;refine C1.out.mono ?_;rintro e U ⟨rfl,q,rfl⟩;go_wp2_with fail;refine(C2.out _).mono ?_;rintro e U ⟨rfl,q2,rfl⟩;go_wp2;go_ret;exact bL.no rfl ((N0.out.aA.drewN _).alloc _)
 ·cases hid:Tx.yN tr
  ·have C3:=wJ (λw=>Wf.I7 b ⟨tr.toArray⟩ w (by unfold maxLen;show tr.length<=_;omega) hid);have vy:(if true&&false&&Tx.line msg 20 then(if ps=[45]then some [tr]else if(Tx.split 43 ps).length<=2&&(Tx.split 43 ps).all Tx.yN then some (tr::Tx.split 43 ps)else none)else none)=(none:Option (List Tx.B)):=by simp
   rw[vy];clear hid;go_enter Tq.func317,ntmps317;go_wp2_with fail;refine C1.out.mono ?_;rintro e U ⟨rfl,q,rfl⟩;go_wp2_with fail;refine(C2.out _).mono ?_;rintro e U ⟨rfl,q2,rfl⟩;go_wp2_with fail;refine(C3.out _).mono ?_;rintro e w3 ⟨⟨a,rfl⟩,xb⟩;go_wp2;go_ret;exact(N0.out.carry ((aj.refl (λ_=>False) w).drewN (q+q2)) (λ_ e=>e)).no xb rfl
  ·have C3:=wJ (λw1 (h:NI w w1 b t x (.slice none 0 0) [])=>Q6 (ids:=[]) hb h (by show 0<_;omega) aO8 hid);clear hid;generalize vd:(if true&&true&&Tx.line msg 20 then(if ps=[45]then some [tr]else if(Tx.split 43 ps).length<=2&&(Tx.split 43 ps).all Tx.yN then some (tr::Tx.split 43 ps)else none)else none)=res;have vd:=wJ vd;go_enter Tq.func317,ntmps317;go_wp2_with fail;refine C1.out.mono ?_;rintro e U ⟨rfl,q,rfl⟩;go_wp2_with fail;refine(C2.out _).mono ?_;rintro e U ⟨rfl,q2,rfl⟩;go_wp2_with fail;refine(C3.out _ (N0.out.carry ((aj.refl (λ_=>False) w).drewN (q+q2)) (λ_ e=>e))).mono ?_;rintro e w3 ⟨rfl,hN⟩;have hN:=wJ hN;obtain⟨v,LR,tU,_⟩:=hN.out;have LR:=wJ LR;clear hN C1 C2 C3 N0;by_cases hd:ps=[45]
   ·have t1:(ps==[45])=true:=jA.2 hd;have Hd:=wJ hd;clear hd;cases Py:Tx.line msg 20
    ·have C4:=wJ (λw=>Wf.Jb ⟨msg.toArray⟩ 20 w (by decide) Py);have Py:=wJ Py;go_wp2_with (go_at_call 312;refine(C4.out _).mono ?_;rintro e w4 ⟨⟨a,rfl⟩,xp⟩);go_ret;exact LR.out.no xp (by rw[<-vd.out,Py.out];rfl)
    ·have C4:=wJ (λw=>Wf.DD ⟨msg.toArray⟩ 20 w (by decide) Py);have Py:=wJ Py;go_wp2_with (go_at_call 312;refine(C4.out _).mono ?_;rintro e w4 ⟨rfl,rfl⟩);go_ret;exact LR.out.yes (by rw[<-vd.out,Py.out,bk Hd.out];rfl)
   ·have t1:(ps==[45])=false:=b8.2 hd;have Hd:=wJ hd;clear hd;have C4:=wJ (λw=>Wf.lZ ⟨ps.toArray⟩ 43 w (by show ps.length<_;omega));have wA:∀e∈Tx.split 43 ps,e.length<16777216:=λe he=>gH (rT 43 _ e he) aKF;change Hid (∀w,Calls _ _ _ w (λe U=>e=.returned (.slice (some ⟨w.heap.size,0,none⟩) (Tx.split 43 ps).length (Tx.split 43 ps).length)/\U=w.alloc (.cells ((Tx.split 43 ps).map λl=>Value.string ⟨l.toArray⟩).toArray 9)))at C4;have hmx:(Tx.split 43 ps).length<=16777216:=cV (lY 43 ps) aKF;have yl:Hid ((if Tx.line msg 20 then(if(Tx.split 43 ps).length<=2&&(Tx.split 43 ps).all Tx.yN then some (tr::Tx.split 43 ps)else none)else none)=res):=wJ (by rw[<-vd.out,aX Hd.out];rfl);generalize Tx.split 43 ps=es at C4 wA hmx yl;have wA:=wJ wA;clear vd;by_cases h3:es.length<=2
    ·have PN:CI w (w3.alloc (.cells (es.map λl=>Value.string ⟨l.toArray⟩).toArray 9)) b t x v w3.heap.size es 0 tr:=
      ⟨by simpa using LR.out.carry ((aj.refl (λ_=>False) w3).alloc _) (λ_ e=>e),heap_alloc_new w3 _,λk A=>iu (LR.out.own.lt k A).2,λj _ hj=>absurd hj (by omega),dT (iu (eJ hb LR.out.aA.size))⟩
     have PN:=wJ PN;generalize hN2:w3.heap.size=N2 at PN;go_wp2_with (go_at_call 158;refine(C4.out _).mono ?_;rintro e w4 ⟨rfl,rfl⟩)
     go_loopw [52] (λi wr=>∃(k:Nat) (v:Value),k<=es.length/\i=.int .i64 k/\CI w wr b t x v N2 es k tr) (λi _=>es.length - (intOf i).toNat)
     case atStart=>exact⟨0,v,cQ _,rfl,PN.out⟩
     case round=>
      rename_i wr;clear PN LR hN2 C4 tU;obtain⟨k,v,A,rfl,PN⟩:=hrel;by_cases tP:k<es.length
      ·have kc:=PN.aAp tP;have hlen:(es[k]'tP).length<16777216:=wA.out _ (lj tP);have HC:=wJ PN;cases hid:Tx.yN (es[k]'tP)
       ·have vy:res=none:=by
         rw[<-yl.out];have:es.all Tx.yN=false:=by rw[gN,ne_eq,ep];intro h;have:=h _ (lj tP);rw[hid]at this;cases this
         simp[this]
        have C3:=wJ (Wf.I7 b ⟨(es[k]'tP).toArray⟩ wr (by unfold maxLen;show(es[k]'tP).length<=_;omega) hid);have vy:=wJ vy;generalize es[k]'tP=e at kc C3;clear hid PN yl hlen;go_wp2_with (go_at_call 315;refine C3.out.mono ?_;rintro e w4 ⟨⟨a,rfl⟩,xp⟩);go_ret;exact HC.out.ni.no xp vy.out
       ·have C3:=wJ (Q6 hb PN.ni (by simp;omega) hlen hid);have HN:=wJ (λv' w4 V J h3=>HC.out.next (v':=v') (w4:=w4) tP hid V J h3);generalize es[k]'tP=e at kc C3 HN;clear hid PN yl hlen;go_wp2_with (go_at_call 315;refine C3.out.mono ?_;rintro e w4 ⟨rfl,hN4⟩);obtain⟨v',g1,g2,g3⟩:=hN4
        go_roundw
        case rel=>exact⟨k+1,v',by omega,by go_num,HN.out _ _ g1 g2 g3⟩
        case measure=>simp[intOf];omega
      ·have lh:k=es.length:=by omega
       have ZN:es.all Tx.yN=true:=by rw[ep];intro e he;obtain⟨j,hj,rfl⟩:=oB he;exact PN.ok j hj (by omega)
       have hni:NI w wr b t x v (tr::es):=by have:=PN.ni;rw[lh,fM]at this;exact this
       have hni:=wJ hni;cases Py:Tx.line msg 20
       ·have C4:=wJ (Wf.Jb ⟨msg.toArray⟩ 20 wr (by decide) Py);have vy:res=none:=by rw[<-yl.out,Py];rfl
        have vy:=wJ vy;clear Py PN yl ZN lh;go_wp2_with (go_at_call 312;refine C4.out.mono ?_;rintro e w4 ⟨⟨a,rfl⟩,xp⟩);go_ret;exact hni.out.no xp vy.out
       ·have C4:=wJ (Wf.DD ⟨msg.toArray⟩ 20 wr (by decide) Py);have aFS:res=some (tr::es):=by rw[<-yl.out,Py,ZN];simp[h3]
        have aFS:=wJ aFS;clear Py PN yl ZN lh;go_wp2_with (go_at_call 312;refine C4.out.mono ?_;rintro e w4 ⟨rfl,rfl⟩);go_ret;exact hni.out.yes aFS.out
    ·go_wp2_with (go_at_call 158;refine(C4.out _).mono ?_;rintro e w4 ⟨rfl,rfl⟩);go_ret;exact bL.no (by rw[<-yl.out];simp[h3]) ((LR.out.aA.alloc _).alloc _)
end Wh
end
