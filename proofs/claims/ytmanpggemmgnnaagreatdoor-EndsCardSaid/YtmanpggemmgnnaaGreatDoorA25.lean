/- Ends: a part. Conditions: none. -/
import Derived.Laws.AppendOwnNone
import Derived.Test.YtmanpggemmgnnaaGreatDoorA23
import Derived.Test.YtmanpggemmgnnaaGreatDoorA24
set_option linter.all false
set_option maxHeartbeats 8000000
set_option maxRecDepth 1000000
namespace Go.Proofs.YtmanpggemmgnnaaGreatDoor
noncomputable section
open Go Go.RowKit Go.Shelf Ba VW Fr Tryz
def ř:=@World.cell?_setCell_other
def Ř:=@World.cell?_setCell_same
def ŗ:=@World.ownsRow.alloc
def Ŗ:=@World.ownsRow_nil
def ŕ:=@wpList_append_own
def Ŕ:=@World.size_alloc
def œ:=@heap_alloc_new
def Œ:=@bodyPost_ret
def ő:=@info_parts
def wq{p}(h:p):Go.RowKit.Hid p:=Go.Lib.hid h
def E1{a b}(x:a)(y:b):a/\b:=⟨x,y⟩
def qnz{B a w}(h:Below B a w)n:Below B a (w.drewN n):=⟨h.os,h.tape,h.output,h.size,h.block⟩
def qshape{v xs}{w:World}{B hx z n:Nat}(h:w.ownsRow B hx z v n xs):v=.slice none 0 0\/∃g m cap,v=.slice (some ⟨g,0,none⟩) m cap:=by
 rcases h.2 with⟨h,_⟩|⟨g,cap,_,h,_⟩
 ·exact .inl h
 ·exact .inr ⟨g,_,cap,h⟩
namespace Wi
open Wg
def O0 b g cap t x(ids:List Tx.B)B w(Q:ids.length<1099511627776)
 (J:nE w b t x (.slice (some ⟨g,0,none⟩) ids.length cap)) (tU:w.ownsRow B 9 1 (.slice (some ⟨g,0,none⟩) ids.length cap) ids.length (ids.map av)):
 Calls Tq.prog 234 #[.pointer (some ⟨b,0,none⟩)] w λe U=>∃v',e=.returned v'/\U.ownsRow w.heap.size 9 1 v' ids.length (ids.map av)/\Below w.heap.size w U:=by
 obtain⟨i0,hi,xr,xU,ya⟩:=ő pI;have k1:=J.c1;have uX:=tU.cells (g:=g) rfl;have uX:=wq uX;have yn:=Ŗ w w.heap.size 9 1;clear J tU;go_enter Tq.func234,ntmps234;go_wp2_with (at_builtin;refine ŕ _ rfl (.const (.slice none 0 0)) (.tmp 6) 34 rfl w.heap.size 9 i0 (.string ByteArray.empty) 1 16 ((Tq.underlying 34).trans underlying34) hi xr xU ya rfl (by decide) (.slice none 0 0) 0 [] rfl yn ⟨g,0,none⟩ ids.length cap (ids.map av) rfl ?c0 ?c1 ?c2 ?c3 ?c4 ?c5 ?_)
 case c0=>simp
 case c1=>exact uX.out
 case c2=>intro u hu;obtain⟨l,_,rfl⟩:=ey.1 hu;rfl
 case c3=>unfold maxLen;omega
 case c4=>omega
 case c5=>exact aI _
 intro v' w1 EY tR _;have K:=wq (E1 EY tR);clear EY tR k1 yn;go_wp2;go_ret;exact⟨_,rfl,K.out.1,((Below.refl _ _).grown K.out.2 (aI _) (λk h=>by cases h))⟩
def O1 b t x w(J:nE w b t x (.slice none 0 0)):
 Calls Tq.prog 234 #[.pointer (some ⟨b,0,none⟩)] w λe U=>e=.returned (.slice none 0 0)/\U=w:=by
 obtain⟨i0,hi,xr,xU,ya⟩:=ő pI;have k1:=J.c1;have yn:=Ŗ w w.heap.size 9 1;clear J;go_enter Tq.func234,ntmps234;go_wp2_with (at_builtin;refine wpList_append_own_none rfl (.const (.slice none 0 0)) (.tmp 6) 34 rfl w.heap.size 9 i0 1 ((Tq.underlying 34).trans underlying34) hi (.slice none 0 0) 0 [] rfl yn rfl ?_);go_ret;exact⟨rfl,rfl⟩
def Uz b t x v(ids:List Tx.B)B w(Q:ids.length<1099511627776)
 (J:nE w b t x v) (tU:w.ownsRow B 9 1 v ids.length (ids.map av)):
 Calls Tq.prog 234 #[.pointer (some ⟨b,0,none⟩)] w λe U=>∃v',e=.returned v'/\U.ownsRow w.heap.size 9 1 v' ids.length (ids.map av)/\Below w.heap.size w U:=by
 rcases tU.2 with⟨rfl,h0⟩|⟨g,cap,cur,rfl,_⟩
 ·obtain rfl:=eK h0;exact(O1 b t x w J).mono λe U h=>⟨_,h.1,h.2▸Ŗ _ _ _ _,h.2▸Below.refl _ _⟩
 ·exact O0 b g cap t x ids B w Q J tU
def aDk b t s0 s w(J:nE w b t s0 (.slice none 0 0)):
 Calls Tq.prog 311 #[.pointer (some ⟨b,0,none⟩),.string s] w (bL w b t s0 (if Tx.line s.data.toList 40 then some []else none)):=by
 cases h:Tx.line s.data.toList 40
 ·exact(Wf.aDl b s w h).mono λe U hh=>⟨hh.1,(aj.refl _ w).trans' (aj.nK hh.2) (λ_ _ (e:False)=>e.elim)⟩
 ·exact(Wf.aAs b s w h).mono λe U hh=>⟨hh.1,_,hh.2▸J,Ŗ _ _ _ _,hh.2▸aj.refl _ _⟩
def UC a w:(method 476 254 (.pointer (some a)) "refserve/object.parse").run Tq.prog w=.ok (311,.pointer (some a)) w:=(by kernel_rfl)
def UB a w:(method 476 257 (.pointer (some a)) "refserve/object.parse").run Tq.prog w=.ok (314,.pointer (some a)) w:=(by kernel_rfl)
def Lm a w:(method 476 259 (.pointer (some a)) "refserve/object.parse").run Tq.prog w=.ok (317,.pointer (some a)) w:=(by kernel_rfl)
def ED(k:UInt8):TypeId:=if k=98 then 254 else if k=116 then 257 else 259
def blT(k:UInt8):TypeId:=if k=98 then 256 else if k=116 then 258 else 260
def nG(w:World)(s:ByteArray)(res:Option Tx.Obj)(e:Ending)(U:World):Prop:=
 match res with
 |none=>(∃a,e=.returned (.tuple #[.nilIface,.iface 249 (.pointer (some a))]))/\Below w.heap.size w U
 |some o=>∃b v,e=.returned (.tuple #[.iface (ED o.kind) (.pointer (some ⟨b,0,none⟩)),.nilIface])/\w.heap.size<=b/\nE U b (blT o.kind) (.string s) v/\
  U.ownsRow w.heap.size 9 1 v o.ids.length (o.ids.map av)/\(∀k,v.ownBlock=some k->k≠b)/\Below w.heap.size w U
def lQ{v xs}{w:World}{B B' hx z n:Nat}(h:w.ownsRow B hx z v n xs)(hB:B'<=B):w.ownsRow B' hx z v n xs:=by
 obtain⟨hl,L⟩:=h;refine⟨hl,?_⟩;rcases L with L|⟨g,cap,cur,h0,V,J⟩
 ·exact .inl L
 ·exact .inr ⟨g,cap,cur,h0,cV hB V,J⟩
def OO s w(hs:s.size<16777216)word rest(hw:word=Tx.Ma)(V:Tx.cut 32 s.data.toList=(word,rest,true))(h0:Tx.dA s.data.toList≠Tx.di):
 Calls Tq.prog 146 #[.string s] w (nG w s (Option.map (⟨98,·⟩) ((if Tx.line rest 40 then some []else none:Option (List Tx.B))))):=by
 have C1:=Wf.lV s 32 w (by unfold maxLen;omega);have Ao:rest.length<16777216:=by have:=(wG 32 s.data.toList).2;rw[V]at this;simp only at this;rw[dx]at this;omega
 rw[V]at C1;have C1:=wq C1;have C2:=wq (λw=>Wb.l7 s w (by unfold maxLen;omega));clear V;have t0:(Tx.dA s.data.toList==[48,48,48,48,48,48,48,48])=false:=b8.2 h0;clear h0;have tb:(word==[98,108,111,98])=true:=by rw[hw];decide
 have tt:(word==[116,114,101,101])=false:=by rw[hw];decide
 have tc:(word==[99,111,109,109,105,116])=false:=by rw[hw];decide
 clear hw;generalize Tx.dA s.data.toList=own at C2 t0;have hm:=UC;have C3:=wq (λb w3 (J:nE w3 b 256 (.string s) (.slice none 0 0))=>aDk b 256 (.string s) ⟨rest.toArray⟩ w3 J);change Hid (∀b w3,nE w3 b 256 (.string s) (.slice none 0 0)->Calls Tq.prog 311 #[.pointer (some ⟨b,0,none⟩),.string ⟨rest.toArray⟩] w3 (bL w3 b 256 (.string s) ((if Tx.line rest 40 then some []else none:Option (List Tx.B)))))at C3;generalize vd:(if Tx.line rest 40 then some []else none:Option (List Tx.B))=res at C3;clear vd;go_enter Tq.func146,ntmps146;go_wp2_with fail;refine C1.out.mono ?_;rintro e U ⟨rfl,q,rfl⟩;go_wp2_with fail;refine(C2.out _).mono ?_;rintro e w2 ⟨rfl,wj⟩;have wj:=wq wj;go_wp2_with fail;have J:nE ((w2.alloc (.cells #[.string s,.slice none 0 0] 253)).alloc (.cells #[.string s,.slice none 0 0] 256)) (w2.heap.size+1) 256 (.string s) (.slice none 0 0):=by have:=œ (w2.alloc (.cells #[.string s,.slice none 0 0] 253)) (.cells #[.string s,.slice none 0 0] 256);rw[Ŕ]at this;exact this
 refine(C3.out _ _ J).mono ?_;intro e w4 hp;have lD:=wq (show Below w.heap.size w ((w2.alloc (.cells #[.string s,.slice none 0 0] 253)).alloc (.cells #[.string s,.slice none 0 0] 256))from(((qnz (Below.refl w.heap.size w) q).trans wj.out).alloc wj.out.size _).alloc (by rw[Ŕ];have:=wj.out.size;simp only[World.drewN]at this;omega) _);have uG:=wj.out.size;cases res with
 |none=>
  obtain⟨⟨a,rfl⟩,L⟩:=hp;have L:=wq L;clear J;go_wp2
  go_ret2
  exact⟨⟨_,rfl⟩,lD.out.trans (L.out.below (by simp only[Ŕ];simp only[World.drewN]at uG;omega) (λk e=>by subst e;simp only[World.drewN]at uG;omega))⟩
 |some ids=>
  obtain⟨rfl,v,r1,r2,r3⟩:=hp;have K:=wq (E1 r1 (E1 r2 r3));clear J r1 r2 r3;go_wp2
  go_ret2
  obtain⟨r1,r2,r3⟩:=K.out;simp only[Ŕ]at r2;simp only[World.drewN]at uG;exact⟨_,v,rfl,by omega,r1,lQ r2 (by omega),λk A e=>by have:=(r2.lt k A).1;omega,lD.out.trans (r3.below (by simp only[Ŕ];omega) (λk e=>by subst e;omega))⟩
def OL s w(hs:s.size<16777216)word rest(hw:word=Tx.L9)(V:Tx.cut 32 s.data.toList=(word,rest,true))(h0:Tx.dA s.data.toList≠Tx.di):
 Calls Tq.prog 146 #[.string s] w (nG w s (Option.map (⟨116,·⟩) ((Tx.tree rest)))):=by
 have C1:=Wf.lV s 32 w (by unfold maxLen;omega);have Ao:rest.length<16777216:=by have:=(wG 32 s.data.toList).2;rw[V]at this;simp only at this;rw[dx]at this;omega
 rw[V]at C1;have C1:=wq C1;have C2:=wq (λw=>Wb.l7 s w (by unfold maxLen;omega));clear V;have t0:(Tx.dA s.data.toList==[48,48,48,48,48,48,48,48])=false:=b8.2 h0;clear h0;have tb:(word==[98,108,111,98])=false:=by rw[hw];decide
 have tt:(word==[116,114,101,101])=true:=by rw[hw];decide
 have tc:(word==[99,111,109,109,105,116])=false:=by rw[hw];decide
 clear hw;generalize Tx.dA s.data.toList=own at C2 t0;have hm:=UB;have C3:=wq (λb w3 (J:nE w3 b 258 (.string s) (.slice none 0 0))=>Wg.Xb b 258 (.string s) ⟨rest.toArray⟩ w3 (show rest.length<_ from Ao) J);change Hid (∀b w3,nE w3 b 258 (.string s) (.slice none 0 0)->Calls Tq.prog 314 #[.pointer (some ⟨b,0,none⟩),.string ⟨rest.toArray⟩] w3 (bL w3 b 258 (.string s) ((Tx.tree rest))))at C3;generalize vd:(Tx.tree rest)=res at C3;clear vd;go_enter Tq.func146,ntmps146;go_wp2_with fail;refine C1.out.mono ?_;rintro e U ⟨rfl,q,rfl⟩;go_wp2_with fail;refine(C2.out _).mono ?_;rintro e w2 ⟨rfl,wj⟩;have wj:=wq wj;go_wp2_with fail;have J:nE ((w2.alloc (.cells #[.string s,.slice none 0 0] 253)).alloc (.cells #[.string s,.slice none 0 0] 258)) (w2.heap.size+1) 258 (.string s) (.slice none 0 0):=by have:=œ (w2.alloc (.cells #[.string s,.slice none 0 0] 253)) (.cells #[.string s,.slice none 0 0] 258);rw[Ŕ]at this;exact this
 refine(C3.out _ _ J).mono ?_;intro e w4 hp;have lD:=wq (show Below w.heap.size w ((w2.alloc (.cells #[.string s,.slice none 0 0] 253)).alloc (.cells #[.string s,.slice none 0 0] 258))from(((qnz (Below.refl w.heap.size w) q).trans wj.out).alloc wj.out.size _).alloc (by rw[Ŕ];have:=wj.out.size;simp only[World.drewN]at this;omega) _);have uG:=wj.out.size;cases res with
 |none=>
  obtain⟨⟨a,rfl⟩,L⟩:=hp;have L:=wq L;clear J;go_wp2
  go_ret2
  exact⟨⟨_,rfl⟩,lD.out.trans (L.out.below (by simp only[Ŕ];simp only[World.drewN]at uG;omega) (λk e=>by subst e;simp only[World.drewN]at uG;omega))⟩
 |some ids=>
  obtain⟨rfl,v,r1,r2,r3⟩:=hp;have K:=wq (E1 r1 (E1 r2 r3));clear J r1 r2 r3;go_wp2
  go_ret2
  obtain⟨r1,r2,r3⟩:=K.out;simp only[Ŕ]at r2;simp only[World.drewN]at uG;exact⟨_,v,rfl,by omega,r1,lQ r2 (by omega),λk A e=>by have:=(r2.lt k A).1;omega,lD.out.trans (r3.below (by simp only[Ŕ];omega) (λk e=>by subst e;omega))⟩
def I4 s w(hs:s.size<16777216)word rest(hw:word=Tx.qo)(V:Tx.cut 32 s.data.toList=(word,rest,true))(h0:Tx.dA s.data.toList≠Tx.di):
 Calls Tq.prog 146 #[.string s] w (nG w s (Option.map (⟨99,·⟩) ((Tx.ji rest)))):=by
 have C1:=Wf.lV s 32 w (by unfold maxLen;omega);have Ao:rest.length<16777216:=by have:=(wG 32 s.data.toList).2;rw[V]at this;simp only at this;rw[dx]at this;omega
 rw[V]at C1;have C1:=wq C1;have C2:=wq (λw=>Wb.l7 s w (by unfold maxLen;omega));clear V;have t0:(Tx.dA s.data.toList==[48,48,48,48,48,48,48,48])=false:=b8.2 h0;clear h0;have tb:(word==[98,108,111,98])=false:=by rw[hw];decide
 have tt:(word==[116,114,101,101])=false:=by rw[hw];decide
 have tc:(word==[99,111,109,109,105,116])=true:=by rw[hw];decide
 clear hw;generalize Tx.dA s.data.toList=own at C2 t0;have hm:=Lm;have C3:=wq (λb w3 (J:nE w3 b 260 (.string s) (.slice none 0 0))=>Wh.P7 b 260 (.string s) ⟨rest.toArray⟩ w3 (show rest.length<_ from Ao) J);change Hid (∀b w3,nE w3 b 260 (.string s) (.slice none 0 0)->Calls Tq.prog 317 #[.pointer (some ⟨b,0,none⟩),.string ⟨rest.toArray⟩] w3 (bL w3 b 260 (.string s) ((Tx.ji rest))))at C3;generalize vd:(Tx.ji rest)=res at C3;clear vd;go_enter Tq.func146,ntmps146;go_wp2_with fail;refine C1.out.mono ?_;rintro e U ⟨rfl,q,rfl⟩;go_wp2_with fail;refine(C2.out _).mono ?_;rintro e w2 ⟨rfl,wj⟩;have wj:=wq wj;go_wp2_with fail;have J:nE ((w2.alloc (.cells #[.string s,.slice none 0 0] 253)).alloc (.cells #[.string s,.slice none 0 0] 260)) (w2.heap.size+1) 260 (.string s) (.slice none 0 0):=by have:=œ (w2.alloc (.cells #[.string s,.slice none 0 0] 253)) (.cells #[.string s,.slice none 0 0] 260);rw[Ŕ]at this;exact this
 refine(C3.out _ _ J).mono ?_;intro e w4 hp;have lD:=wq (show Below w.heap.size w ((w2.alloc (.cells #[.string s,.slice none 0 0] 253)).alloc (.cells #[.string s,.slice none 0 0] 260))from(((qnz (Below.refl w.heap.size w) q).trans wj.out).alloc wj.out.size _).alloc (by rw[Ŕ];have:=wj.out.size;simp only[World.drewN]at this;omega) _);have uG:=wj.out.size;cases res with
 |none=>
  obtain⟨⟨a,rfl⟩,L⟩:=hp;have L:=wq L;clear J;go_wp2
  go_ret2
  exact⟨⟨_,rfl⟩,lD.out.trans (L.out.below (by simp only[Ŕ];simp only[World.drewN]at uG;omega) (λk e=>by subst e;simp only[World.drewN]at uG;omega))⟩
 |some ids=>
  obtain⟨rfl,v,r1,r2,r3⟩:=hp;have K:=wq (E1 r1 (E1 r2 r3));clear J r1 r2 r3;go_wp2
  go_ret2
  obtain⟨r1,r2,r3⟩:=K.out;simp only[Ŕ]at r2;simp only[World.drewN]at uG;exact⟨_,v,rfl,by omega,r1,lQ r2 (by omega),λk A e=>by have:=(r2.lt k A).1;omega,lD.out.trans (r3.below (by simp only[Ŕ];omega) (λk e=>by subst e;omega))⟩
def K8 s w(hs:s.size<16777216)word rest(hb:word≠Tx.Ma)(ht:word≠Tx.L9)(L:word≠Tx.qo)(V:Tx.cut 32 s.data.toList=(word,rest,true))(h0:Tx.dA s.data.toList≠Tx.di):
 Calls Tq.prog 146 #[.string s] w (nG w s none):=by
 have C1:=Wf.lV s 32 w (by unfold maxLen;omega);rw[V]at C1;have C1:=wq C1;have C2:=wq (λw=>Wb.l7 s w (by unfold maxLen;omega));clear V;have t0:(Tx.dA s.data.toList==[48,48,48,48,48,48,48,48])=false:=b8.2 h0;clear h0;have tb:(word==[98,108,111,98])=false:=b8.2 hb;have tt:(word==[116,114,101,101])=false:=b8.2 ht;have tc:(word==[99,111,109,109,105,116])=false:=b8.2 L;clear hb ht L;generalize Tx.dA s.data.toList=own at C2 t0;go_enter Tq.func146,ntmps146;go_wp2_with fail;refine C1.out.mono ?_;rintro e U ⟨rfl,q,rfl⟩;go_wp2_with fail;refine(C2.out _).mono ?_;rintro e w2 ⟨rfl,wj⟩;have wj:=wq wj;go_wp2
 go_ret2
 have uG:=wj.out.size;simp only[World.drewN]at uG;exact⟨⟨_,rfl⟩,((((qnz (Below.refl w.heap.size w) q).trans wj.out).alloc wj.out.size _).alloc (by simp only[Ŕ];omega) _)⟩
def K9 s w(hs:s.size<16777216)word rest(V:Tx.cut 32 s.data.toList=(word,rest,false)):
 Calls Tq.prog 146 #[.string s] w (nG w s none):=by
 have C1:=Wf.lV s 32 w (by unfold maxLen;omega);rw[V]at C1;have C1:=wq C1;clear V;go_enter Tq.func146,ntmps146;go_wp2_with fail;refine C1.out.mono ?_;rintro e U ⟨rfl,q,rfl⟩;go_wp2
 go_ret2
 exact⟨⟨_,rfl⟩,((qnz (Below.refl w.heap.size w) q).alloc (aI _) _)⟩
def OJ s w(hs:s.size<16777216)word rest(V:Tx.cut 32 s.data.toList=(word,rest,true))(h0:Tx.dA s.data.toList=Tx.di):
 Calls Tq.prog 146 #[.string s] w (nG w s none):=by
 have C1:=Wf.lV s 32 w (by unfold maxLen;omega);rw[V]at C1;have C1:=wq C1;have C2:=wq (λw=>Wb.l7 s w (by unfold maxLen;omega));clear V;have t0:(Tx.dA s.data.toList==[48,48,48,48,48,48,48,48])=true:=jA.2 h0;clear h0;generalize Tx.dA s.data.toList=own at C2 t0;go_enter Tq.func146,ntmps146;go_wp2_with fail;refine C1.out.mono ?_;rintro e U ⟨rfl,q,rfl⟩;go_wp2_with fail;refine(C2.out _).mono ?_;rintro e w2 ⟨rfl,wj⟩;have wj:=wq wj;go_wp2
 go_ret2
 exact⟨⟨_,rfl⟩,(((qnz (Below.refl w.heap.size w) q).trans wj.out).alloc wj.out.size _)⟩
def Gm s w(hs:s.size<16777216):Calls Tq.prog 146 #[.string s] w (nG w s (Tx.parse s.data.toList)):=by
 have hp:∀word rest f,Tx.cut 32 s.data.toList=(word,rest,f)->Tx.parse s.data.toList=if f&&Tx.dA s.data.toList !=Tx.di then
  if word=Tx.Ma then(if Tx.line rest 40 then some ⟨98,[]⟩else none)else if word=Tx.L9 then(Tx.tree rest).map (⟨116,·⟩)else if word=Tx.qo then(Tx.ji rest).map (⟨99,·⟩)else none else none:=by
  intro word rest f h;simp only[Tx.parse,h]
 rcases L:Tx.cut 32 s.data.toList with⟨word,rest,f⟩
 rw[hp _ _ _ L];cases f
 ·exact K9 s w hs word rest L
 ·by_cases h0:Tx.dA s.data.toList=Tx.di
  ·rw[aX (by rw[h0];decide)];exact OJ s w hs word rest L h0
  ·rw[bk (by rw[jD,tx];exact h0)];by_cases hb:word=Tx.Ma
   ·rw[bk hb];have:=OO s w hs word rest hb L h0;cases hl:Tx.line rest 40<;>rw[hl]at this<;>exact this
   ·rw[aX hb];by_cases ht:word=Tx.L9
    ·rw[bk ht];exact OL s w hs word rest ht L h0
    ·rw[aX ht];by_cases A:word=Tx.qo
     ·rw[bk A];exact I4 s w hs word rest A L h0
     ·rw[aX A];exact K8 s w hs word rest hb ht A L h0
end Wi
namespace Wj
open Wg Wi
def aAx(w:World)(res:Option (List Tx.B))(e:Ending)(U:World):Prop:=
 match res with
 |none=>e=.returned (.tuple #[.slice none 0 0,.bool false])/\Below w.heap.size w U
 |some ids=>∃v,e=.returned (.tuple #[v,.bool true])/\U.ownsRow w.heap.size 9 1 v ids.length (ids.map av)/\Below w.heap.size w U
end Wj
namespace Wk
open Wg Wi Wj
def vI(c:UInt8):∀l:Tx.B,Tx.split c l=(Tx.cut c l).1::(if(Tx.cut c l).2.2 then Tx.split c (Tx.cut c l).2.1 else[])
 |[]=>rfl
 |x::r=>by
  have ih:=vI c r;rw[Tx.split,Tx.cut];split
  ·rfl
  ·rw[ih]
def aAS(c:UInt8):∀l:Tx.B,(Tx.cut c l).2.2=true->(Tx.cut c l).2.1.length<l.length
 |[],h=>by cases h
 |x::r,h=>by
  rw[Tx.cut]at h ⊢;split
  ·simp
  ·rename_i E;rw[aX E]at h;have:=aAS c r h;simp;omega
def aFV(w:World)(v:Value)(t:TypeId):(w.alloc (.cells #[v] t)).cell? ⟨w.heap.size,0,none⟩=some v:=by simp
def lenOf:Value->Nat
 | .string s=>s.size
 |_=>0
def aB7:Value->Nat
 | .bool true=>1
 |_=>0
structure EI(w wr:World)s0 s(more:Bool)last v(ids:List Tx.B):Prop where
 spec:Tx.tree s0=(if more then Tx.entries last (Tx.split 44 s)else some []).map (ids++·)
 own:wr.ownsRow w.heap.size 9 1 v ids.length (ids.map av)
 below:Below w.heap.size w wr
 len:ids.length+s.length+(if more then 1 else 0)<=s0.length+1
 short:s.length<=s0.length
def EI.none{w wr w2:World}{s0 s:Tx.B}{last:Tx.B}{v:Value}{ids:List Tx.B}(h:EI w wr s0 s true last v ids)(hb:Below wr.heap.size wr w2)(Q:Tx.entries last (Tx.split 44 s)=none):
 aAx w (Tx.tree s0) (.returned (.tuple #[.slice none 0 0,.bool false])) w2:=by
 rw[h.spec,bk rfl,Q];exact⟨rfl,h.below.trans (hb.mono h.below.size)⟩
def EI.done{w wr:World}{s0 s:Tx.B}{last:Tx.B}{v:Value}{ids:List Tx.B}(h:EI w wr s0 s false last v ids):
 aAx w (Tx.tree s0) (.returned (.tuple #[v,.bool true])) wr:=by
 rw[h.spec,aX (by decide)];exact⟨v,rfl,by simpa using h.own,h.below⟩
def EI.next{w wr s0 s last v ids e rest more n y w3 v'}(h:EI w wr s0 s true last v ids)
 (L:Tx.cut 44 s=(e,rest,more)) (hy:∀r,Tx.entries last (e::r)=(Tx.entries n r).map (y::·)) (tU:w3.ownsRow w.heap.size 9 1 v' (ids.length+1) (ids.map av++[.string ⟨y.toArray⟩])) (hg:Below w.heap.size w w3):
 EI w w3 s0 rest more n v' (ids++[y]):=by
 have hs:=aAS 44 s;have hle:=(wG 44 s).2;rw[L]at hs hle;simp only at hs hle;have hl:=h.len;have fT:=h.short;simp only[j2]at hl;refine⟨?_,by rw[b9,eN];exact tU,hg,?_,by omega⟩
 ·rw[h.spec,bk rfl,vI,L];simp only;rw[hy];cases more
  ·simp[Tx.entries]
  ·simp only[j2];rw[nd];congr 1;funext l;simp
 ·rw[b9];cases more
  ·simp;omega
  ·have:=hs rfl;simp;omega
def aDZ(s:ByteArray)(w:World)(hs:s.size<16777216):
 Calls Tq.prog 92 #[.string s] w (aAx w (Tx.tree s.data.toList)):=by
 obtain⟨i0,hi,xr,xU,ya⟩:=ő pI;have E0:EI w w s.data.toList s.data.toList (!s.data.toList.isEmpty) [] (.slice none 0 0) []:=by
  refine⟨?_,Ŗ _ _ _ _,Below.refl _ _,?_,aI _⟩
  ·rw[Tx.tree];cases h:s.data.toList with
   |nil=>rfl
   |cons x r=>simp
  ·simp;split<;>omega
 have hs0:s.data.toList.length<16777216:=hs;change Calls Tq.prog 92 #[.string ⟨s.data.toList.toArray⟩] w (aAx w (Tx.tree s.data.toList));clear hs;generalize s.data.toList=s0 at *;have E0:=wq E0;go_enter Tq.func92,ntmps92;go_wp2
 go_loopw [0,4,5,6] (λa v l m wr=>∃(s:Tx.B) (more:Bool) (last:Tx.B) (ids:List Tx.B),a=.string ⟨s.toArray⟩/\m=.bool more/\l=.string ⟨last.toArray⟩/\EI w wr s0 s more last v ids) (λa _ _ m _=>lenOf a+aB7 m)
 case atStart=>exact⟨s0,_,[],[],rfl,rfl,rfl,E0.out⟩
 case round=>
  rename_i wr;clear E0;obtain⟨s,more,last,ids,rfl,rfl,rfl,hE⟩:=hrel;have HE:=wq hE;cases more
  ·clear hE;go_wp2
   go_ret2
   exact HE.out.done
  ·have hlen:=hE.short;have C1:=Wa.lV ⟨s.toArray⟩ 44 wr (by unfold maxLen;show s.length<=_;omega);change Calls _ _ _ wr (λe' U=>e'=.returned (.tuple #[.string ⟨(Tx.cut 44 s).1.toArray⟩,.string ⟨(Tx.cut 44 s).2.1.toArray⟩,.bool (Tx.cut 44 s).2.2])/\∃n,U=wr.drewN n)at C1;have hce:=wG 44 s;have Av:=vI 44 s;have fT:=aAS 44 s;generalize AD:Tx.cut 44 s=c1 at C1 hce Av fT;obtain⟨e,rest,more⟩:=c1;simp only at C1 hce Av fT;have C2:=λw=>Wa.lV ⟨e.toArray⟩ 61 w (by unfold maxLen;show e.length<=_;omega);change ∀w,Calls _ _ _ w (λe' U=>e'=.returned (.tuple #[.string ⟨(Tx.cut 61 e).1.toArray⟩,.string ⟨(Tx.cut 61 e).2.1.toArray⟩,.bool (Tx.cut 61 e).2.2])/\∃n,U=w.drewN n)at C2;have hn8:=(wG 61 e).1;have hy8:=(wG 61 e).2;have Hno:=wq (λr h=>PY (last:=last) (e:=e) (r:=r) h);have aHR:=wq (λr V J h3 h4 h5=>M7 (last:=last) (e:=e) (r:=r) V J h3 h4 h5);generalize A4:Tx.cut 61 e=c2 at C2 hn8 hy8 Hno aHR;obtain⟨n,y,ok⟩:=c2;simp only at C2 hn8 hy8;have C3:=λw=>Wa.aGo ⟨n.toArray⟩ w (by unfold maxLen;show n.length<=_;omega);have C4:=λw=>Wa.Je ⟨y.toArray⟩ w (by unfold maxLen;show y.length<=_;omega);change ∀w,Calls _ _ _ w (λe' U=>e'=.returned (.bool (Tx.O3 n))/\U=w)at C3;change ∀w,Calls _ _ _ w (λe' U=>e'=.returned (.bool (Tx.yN y))/\U=w)at C4;have C1:=wq C1;have C2:=wq C2;have Hc1:=wq AD;have aR7:=wq fT;have fin:Hid ((∀r,Tx.entries last (e::r)=none)->Tx.entries last (Tx.split 44 s)=none):=wq (λh=>by rw[Av];exact h _);have aJT:rest.length+(if more then 1 else 0)<s.length+1:=by
    cases more
    ·simp;omega
    ·have:=fT rfl;simp;omega
   have aLV:lenOf (.string ⟨rest.toArray⟩)+aB7 (.bool more)<lenOf (.string ⟨s.toArray⟩)+aB7 (.bool true):=by show rest.length+aB7 (.bool more)<s.length+1;cases more<;>simp[aB7]at aJT ⊢<;>omega
   clear AD A4 Av fT hE aJT;by_cases aGA:ok=false\/Tx.O3 n=false\/Tx.yN y=false\/Tx.leB n last=true
   ·have vy:Hid (Tx.entries last (Tx.split 44 s)=none):=wq (fin.out (λr=>Hno.out r (by
     rcases aGA with h|h|h|h
     ·exact .inl h
     ·by_cases h0:Tx.leB n last=true
      ·exact .inr (.inl h0)
      ·by_cases h8:8<n.length
       ·exact .inr (.inr (.inl h8))
       ·refine .inr (.inr (.inr (.inl ?_)));have V:1<=n.length:=by
         cases n with
         |nil=>exact absurd (aCg last) h0
         |cons=>simp
        rw[Tx.O3]at h;simpa [V,show n.length<=8 by omega]using h
     ·exact .inr (.inr (.inr (.inr h)))
     ·exact .inr (.inl h))))
    have aYn:=wq aGA;generalize ha:Tx.O3 n=a' at C3 aGA;generalize hb:Tx.yN y=b' at C4 aGA;have C3:=wq C3;have C4:=wq C4;clear ha hb;have hle:(ok=true/\a'=true/\b'=true)->Op.bytesLess n last=true\/n=last:=by
     rintro⟨rfl,rfl,rfl⟩;rcases aGA with h|h|h|h
     ·cases h
     ·cases h
     ·cases h
     ·exact(BA n last).1 h
    clear aGA;cases ok<;>cases a'<;>cases b'
    case true.true.true=>
     rcases hle ⟨rfl,rfl,rfl⟩with xd|rfl
     ·clear hle;go_wp2_with fail;refine C1.out.mono ?_;rintro e U ⟨rfl,q,rfl⟩;go_wp2_with fail;refine(C2.out _).mono ?_;rintro e U ⟨rfl,q2,rfl⟩;go_wp2_with (first|(go_at_call 135;refine(C3.out _).mono ?_;rintro e U ⟨rfl,rfl⟩)|(go_at_call 136;refine(C4.out _).mono ?_;rintro e U ⟨rfl,rfl⟩))
      go_ret2
      exact HE.out.none (qnz (Below.refl _ _) _) vy.out
     ·clear hle;go_wp2_with fail;refine C1.out.mono ?_;rintro e U ⟨rfl,q,rfl⟩;go_wp2_with fail;refine(C2.out _).mono ?_;rintro e U ⟨rfl,q2,rfl⟩;go_wp2_with (first|(go_at_call 135;refine(C3.out _).mono ?_;rintro e U ⟨rfl,rfl⟩)|(go_at_call 136;refine(C4.out _).mono ?_;rintro e U ⟨rfl,rfl⟩))
      go_ret2
      exact HE.out.none (qnz (Below.refl _ _) _) vy.out
    all_goals
     clear hle;go_wp2_with fail;refine C1.out.mono ?_;rintro e U ⟨rfl,q,rfl⟩;go_wp2_with fail;refine(C2.out _).mono ?_;rintro e U ⟨rfl,q2,rfl⟩;go_wp2_with (first|(go_at_call 135;refine(C3.out _).mono ?_;rintro e U ⟨rfl,rfl⟩)|(go_at_call 136;refine(C4.out _).mono ?_;rintro e U ⟨rfl,rfl⟩))
     go_ret2
     exact HE.out.none (qnz (Below.refl _ _) _) vy.out
   ·have aH:ok=true:=by cases ok;exact absurd (.inl rfl) aGA;rfl
    have hna:Tx.O3 n=true:=by cases h:Tx.O3 n;exact absurd (.inr (.inl h)) aGA;rfl
    have hid:Tx.yN y=true:=by cases h:Tx.yN y;exact absurd (.inr (.inr (.inl h))) aGA;rfl
    have G3:Tx.leB n last=false:=by cases h:Tx.leB n last;rfl;exact absurd (.inr (.inr (.inr h))) aGA
    have aFS:Hid (∀r,Tx.entries last (e::r)=(Tx.entries n r).map (y::·)):=wq (λr=>aHR.out r aH G3 (show n.length<=8 by rw[Tx.O3]at hna;simp at hna;omega) (show n.all Tx.uW=true by rw[Tx.O3,bw]at hna;exact hna.1) hid);have xd:Op.bytesLess n last=false:=by rw[gN];exact λh=>by rw[(BA n last).2 (.inl h)]at G3;cases G3
    have wj:¬n=last:=λh=>by rw[(BA n last).2 (.inr h)]at G3;cases G3
    have xb:(n==last)=false:=b8.2 wj;rw[hna]at C3;rw[hid]at C4;have C3:=wq C3;have C4:=wq C4;clear hna hid G3 aGA;subst aH;go_wp2_with fail;refine C1.out.mono ?_;rintro e U ⟨rfl,q,rfl⟩;go_wp2_with fail;refine(C2.out _).mono ?_;rintro e U ⟨rfl,q2,rfl⟩;have tU:(wr.drewN (q+q2)).ownsRow w.heap.size 9 1 u4 ids.length (ids.map av):=HE.out.own;have B3:w.heap.size<=wr.heap.size:=HE.out.below.size;have aW5:ids.length<=16777217:=by have:=HE.out.len;omega
    go_wp2_with (first
     |(go_at_call 135;refine(C3.out _).mono ?_;rintro e U ⟨rfl,rfl⟩)
     |(go_at_call 136;refine(C4.out _).mono ?_;rintro e U ⟨rfl,rfl⟩)
     |(at_builtin;refine ŕ _ rfl (.tmp 49) (.tmp 51) 34 rfl w.heap.size 9 i0 (.string ByteArray.empty) 1 16 ((Tq.underlying 34).trans underlying34) hi xr xU ya rfl (by decide) u4 ids.length (ids.map av) rfl (tU.alloc _) ⟨wr.heap.size,0,none⟩ 1 1 [.string ⟨y.toArray⟩] rfl rfl ?c1 ?c2 ?c3 ?c4 ?c5 ?_))
    case c1=>intro j u hj;match j,hj with|0,hj=>simp at hj;subst hj;show((wr.drewN (q+q2)).alloc (.cells #[.string ⟨y.toArray⟩] 9)).cell? ⟨(wr.drewN (q+q2)).heap.size,0,none⟩=_;exact aFV _ _ _
    case c2=>intro u hu;simp at hu;subst hu;rfl
    case c3=>unfold maxLen;omega
    case c4=>omega
    case c5=>exact cV B3 (by rw[Ŕ];exact lO _)
    intro v' w3 GU tR _;have D2:Below w.heap.size w w3:=(((qnz (HE.out.below) _).alloc B3 _).grown tR (cV B3 (by rw[Ŕ];exact lO _)) (λk A=>(HE.out.own.lt k A).1))
    have HN:=wq (EI.next HE.out Hc1.out aFS.out GU D2);clear GU tR tU D2;go_wp2
    go_roundw
    case rel=>exact⟨rest,more,n,ids++[y],rfl,rfl,rfl,HN.out⟩
    case measure=>exact aLV
end Wk
namespace Wl
open Wg Wi Wj Wk
def aL1{c:UInt8}{l:Tx.B}(h:Tx.yN l=true)(L:Tx.zx c=false):∀j (hj:j<l.length),l[j]≠c:=by intro j hj e;rw[Tx.yN,bw]at h;have:=ep.1 h.1 _ (lj hj);rw[e,L]at this;cases this
def aEp(tr ps p q:Tx.B)(two:Bool)(L:Tx.cut 43 ps=(p,q,two)):
 (if(Tx.split 43 ps).length<=2&&(Tx.split 43 ps).all Tx.yN then some (tr::Tx.split 43 ps)else none)=
 (if Tx.yN p then(if two then(if Tx.yN q then some [tr,p,q]else none)else some [tr,p])else none:Option (List Tx.B)):=by
 have hs:=vI 43 ps;rw[L]at hs;simp only at hs;cases two
 ·simp only[bh,cz]at hs ⊢;rw[hs];cases h:Tx.yN p<;>simp[h]
 ·simp only[j2]at hs ⊢;rw[hs];cases h:Tx.yN p
  ·simp[h]
  ·cases J:Tx.yN q
   ·have:¬((p::Tx.split 43 q).length<=2/\(p::Tx.split 43 q).all Tx.yN=true):=by
     rintro⟨h3,h4⟩;have hq:=vI 43 q;have hl:(Tx.cut 43 q).2.2=false:=by
      cases h5:(Tx.cut 43 q).2.2
      ·rfl
      ·rw[h5,bk rfl]at hq;have h6:=vI 43 (Tx.cut 43 q).2.1;rw[hq,h6]at h3;simp at h3
     rw[hl]at hq;have he:(Tx.cut 43 q).1=q:=by
      rcases Lx.zy q 43 with⟨k,A,he,Q,_⟩|⟨Q,_⟩
      ·rw[Tx.aAi A Q he]at hl;cases hl
      ·rw[Tx.Nf Q]
     rw[he]at hq;rw[hq]at h4;simp[J]at h4
    simp only[bw,cN,this,cz];simp
   ·rw[aCr J];simp[h,J]
where
 aCr {q:Tx.B} (h:Tx.yN q=true):Tx.split 43 q=[q]:=Lx.CX (aL1 h (by decide))
def aEr(w:World)(B:Nat)(l:Tx.B)(hB:B<=w.heap.size):(w.alloc (.cells #[.string ⟨l.toArray⟩] 9)).ownsRow B 9 1 (.slice (some ⟨w.heap.size,0,none⟩) 1 1) 1 [av l]:=
 ⟨rfl,.inr ⟨w.heap.size,1,_,rfl,hB,œ w _,aI _,by decide,rfl,rfl⟩⟩
def aAD(W:World)(v:Value)(t:TypeId)(g:Nat)(hg:g=W.heap.size):(W.alloc (.cells #[v] t)).cell? (Addr.add ⟨g,0,none⟩ 0)=some v:=by subst hg;simp[Addr.add]
def P7(s:ByteArray)(w:World)(hs:s.size<16777216):
 Calls Tq.prog 93 #[.string s] w (aAx w (Tx.ji s.data.toList)):=by
 obtain⟨i0,hi,xr,xU,ya⟩:=ő pI;have C1:=Wa.lV s 32 w (by unfold maxLen;omega);have E7:=Wh.Nc (c:=32) (l:=s.data.toList) (m:=16777216) hs;generalize AD:Tx.cut 32 s.data.toList=c1 at C1 E7;obtain⟨tr,rest,f⟩:=c1;have C2:=λw=>Wa.lV ⟨rest.toArray⟩ 32 w (by unfold maxLen;show rest.length<=_;simp only at E7;omega);have Bh:=Wh.Nc (c:=32) (l:=rest) (m:=16777216) E7.2;change ∀w,Calls _ _ _ w (λe' U=>e'=.returned (.tuple #[.string ⟨(Tx.cut 32 rest).1.toArray⟩,.string ⟨(Tx.cut 32 rest).2.1.toArray⟩,.bool (Tx.cut 32 rest).2.2])/\∃n,U=w.drewN n)at C2;have hff:f=false->(Tx.cut 32 rest).2.2=false:=by
  rintro rfl;have:rest=[]:=by
   rcases Lx.zy s.data.toList 32 with⟨k,A,he,Q,_⟩|⟨Q,_⟩
   ·rw[Tx.aAi A Q he]at AD;cases AD
   ·rw[Tx.Nf Q]at AD;cases AD;rfl
  subst this;rfl
 generalize A4:Tx.cut 32 rest=c2 at C2 Bh hff;obtain⟨ps,msg,f2⟩:=c2;have Mq:=Wh.Vn _ tr rest ps msg f f2 AD A4;simp only at C1 C2 E7 Bh hff;rw[Mq];clear Mq AD A4 hs;have aO8:=E7.1;have aKF:=Bh.1;have aRQ:=Bh.2;clear E7 Bh;have C3:=λw=>Wa.Je ⟨tr.toArray⟩ w (by unfold maxLen;show tr.length<=_;omega);have C4:=λw=>Wa.aDW ⟨msg.toArray⟩ 20 w (by unfold maxLen;show msg.length<=_;omega) (by decide);change ∀w,Calls _ _ _ w (λe' U=>e'=.returned (.bool (Tx.yN tr))/\U=w)at C3;change ∀w,Calls _ _ _ w (λe' U=>e'=.returned (.bool (Tx.line msg 20))/\U=w)at C4;have C1:=wq C1;have C2:=wq C2;have vd:∃res,(if f2&&Tx.yN tr&&Tx.line msg 20 then(if ps=[45]then some [tr]else if(Tx.split 43 ps).length<=2&&(Tx.split 43 ps).all Tx.yN then some (tr::Tx.split 43 ps)else none)else none:Option (List Tx.B))=res:=⟨_,rfl⟩
 obtain⟨res,vd⟩:=vd;rw[vd];generalize Tx.yN tr=a at C3 vd;generalize Tx.line msg 20=b at C4 vd;have C3:=wq C3;have C4:=wq C4;by_cases aGA:f=false\/f2=false\/a=false\/b=false
 ·have vy:res=none:=by
   rw[<-vd];rcases aGA with h|h|h|h
   ·rw[hff h];rfl
   ·rw[h];rfl
   ·rw[h];cases f2<;>rfl
   ·rw[h];cases f2<;>cases a<;>rfl
  subst vy;clear vd hff;cases f<;>cases f2<;>cases a<;>cases b
  case true.true.true.true=>simp at aGA
  all_goals
   clear aGA;go_enter Tq.func93,ntmps93;go_wp2_with fail;refine C1.out.mono ?_;rintro e U ⟨rfl,q1,rfl⟩;go_wp2_with fail;refine(C2.out _).mono ?_;rintro e U ⟨rfl,q2,rfl⟩;go_wp2_with fail;refine(C3.out _).mono ?_;rintro e U ⟨rfl,rfl⟩;go_wp2_with fail;refine(C4.out _).mono ?_;rintro e U ⟨rfl,rfl⟩;go_wp2
   go_ret2
   exact⟨rfl,qnz (Below.refl _ _) _⟩
 ·have V:f=true:=by cases f;exact absurd (.inl rfl) aGA;rfl
  have J:f2=true:=by cases f2;exact absurd (.inr (.inl rfl)) aGA;rfl
  have h3:a=true:=by cases a;exact absurd (.inr (.inr (.inl rfl))) aGA;rfl
  have h4:b=true:=by cases b;exact absurd (.inr (.inr (.inr rfl))) aGA;rfl
  subst V J h3 h4;clear aGA hff;simp only[Bool.and_self,j2]at vd;by_cases hd:ps=[45]
  ·rw[bk hd]at vd;have t1:(ps==[45])=true:=jA.2 hd;subst vd;clear hd;go_enter Tq.func93,ntmps93;go_wp2_with fail;refine C1.out.mono ?_;rintro e U ⟨rfl,q1,rfl⟩;go_wp2_with fail;refine(C2.out _).mono ?_;rintro e U ⟨rfl,q2,rfl⟩;go_wp2_with fail;refine(C3.out _).mono ?_;rintro e U ⟨rfl,rfl⟩;go_wp2_with fail;refine(C4.out _).mono ?_;rintro e U ⟨rfl,rfl⟩;go_wp2
   go_ret2
   exact⟨_,rfl,aEr (w.drewN (q1+q2)) _ tr (aI _),(qnz (Below.refl _ _) _).alloc (aI _) _⟩
  ·rw[aX hd]at vd;have t1:(ps==[45])=false:=b8.2 hd;have C5:=λw=>Wa.lV ⟨ps.toArray⟩ 43 w (by unfold maxLen;show ps.length<=_;omega);change ∀w,Calls _ _ _ w (λe' U=>e'=.returned (.tuple #[.string ⟨(Tx.cut 43 ps).1.toArray⟩,.string ⟨(Tx.cut 43 ps).2.1.toArray⟩,.bool (Tx.cut 43 ps).2.2])/\∃n,U=w.drewN n)at C5;have hl5:=Wh.Nc (c:=43) (l:=ps) (m:=16777216) aKF;generalize NP:Tx.cut 43 ps=c5 at C5 hl5;obtain⟨p,q,two⟩:=c5;rw[aEp tr ps p q two NP]at vd;simp only at C5 hl5;have C6:=λw=>Wa.Je ⟨p.toArray⟩ w (by unfold maxLen;show p.length<=_;omega);have C7:=λw=>Wa.Je ⟨q.toArray⟩ w (by unfold maxLen;show q.length<=_;omega);change ∀w,Calls _ _ _ w (λe' U=>e'=.returned (.bool (Tx.yN p))/\U=w)at C6;change ∀w,Calls _ _ _ w (λe' U=>e'=.returned (.bool (Tx.yN q))/\U=w)at C7;generalize Tx.yN p=ip at C6 vd;generalize Tx.yN q=iq at C7 vd;have C5:=wq C5;have C6:=wq C6;have C7:=wq C7;clear hd NP;have aMh:=wq (λk=>aEr (w.drewN k) w.heap.size tr (aI _));cases ip
   ·simp only[bh,cz]at vd;subst vd;go_enter Tq.func93,ntmps93;go_wp2_with fail;refine C1.out.mono ?_;rintro e U ⟨rfl,q1,rfl⟩;go_wp2_with fail;refine(C2.out _).mono ?_;rintro e U ⟨rfl,q2,rfl⟩;go_wp2_with fail;refine(C3.out _).mono ?_;rintro e U ⟨rfl,rfl⟩;go_wp2_with fail;refine(C4.out _).mono ?_;rintro e U ⟨rfl,rfl⟩;go_wp2_with fail;refine(C5.out _).mono ?_;rintro e U ⟨rfl,q5,rfl⟩;go_wp2_with fail;refine(C6.out _).mono ?_;rintro e U ⟨rfl,rfl⟩;go_wp2
    go_ret2
    exact⟨rfl,qnz ((qnz (Below.refl _ _) _).alloc (aI _) _) _⟩
   ·simp only[j2]at vd;cases two
    ·simp only[bh,cz]at vd;subst vd;go_enter Tq.func93,ntmps93;go_wp2_with fail;refine C1.out.mono ?_;rintro e U ⟨rfl,q1,rfl⟩;go_wp2_with fail;refine(C2.out _).mono ?_;rintro e U ⟨rfl,q2,rfl⟩;go_wp2_with fail;refine(C3.out _).mono ?_;rintro e U ⟨rfl,rfl⟩;go_wp2_with fail;refine(C4.out _).mono ?_;rintro e U ⟨rfl,rfl⟩;go_wp2_with fail;refine(C5.out _).mono ?_;rintro e U ⟨rfl,q5,rfl⟩;go_wp2_with fail;refine(C6.out _).mono ?_;rintro e U ⟨rfl,rfl⟩;go_wp2_with (at_builtin;refine ŕ _ rfl (.tmp 61) (.tmp 63) 34 rfl w.heap.size 9 i0 (.string ByteArray.empty) 1 16 ((Tq.underlying 34).trans underlying34) hi xr xU ya rfl (by decide) (.slice (some ⟨w.heap.size,0,none⟩) 1 1) 1 [av tr] rfl (ŗ (show World.ownsRow _ _ _ _ _ _ _ from aMh.out (q1+q2)) _) ⟨w.heap.size+1,0,none⟩ 1 1 [.string ⟨p.toArray⟩] rfl rfl ?c1 ?c2 ?c3 ?c4 ?c5 ?_)
     case c1=>intro j u hj;match j,hj with|0,hj=>simp at hj;subst hj;exact aAD _ _ _ _ (by simp[World.drewN])
     case c2=>intro u hu;simp at hu;subst hu;rfl
     case c3=>decide
     case c4=>decide
     case c5=>simp only[Ŕ];simp only[World.drewN,Ŕ];omega
     intro v' w3 GU tR _;have D2:Below w.heap.size w w3:=Below.grown ((qnz ((qnz (Below.refl w.heap.size w) (q1+q2)).alloc (aI _) _) q5).alloc (by simp only[World.drewN,Ŕ];omega) _) tR (by simp only[World.drewN,Ŕ];omega) (λk A=>by cases A;exact aI _);have K:=wq (E1 GU D2);clear GU D2 tR;go_wp2
     go_ret2
     exact⟨_,rfl,K.out.1,K.out.2⟩
    ·simp only[j2]at vd;cases iq
     ·simp only[bh,cz]at vd;subst vd;go_enter Tq.func93,ntmps93;go_wp2_with fail;refine C1.out.mono ?_;rintro e U ⟨rfl,q1,rfl⟩;go_wp2_with fail;refine(C2.out _).mono ?_;rintro e U ⟨rfl,q2,rfl⟩;go_wp2_with fail;refine(C3.out _).mono ?_;rintro e U ⟨rfl,rfl⟩;go_wp2_with fail;refine(C4.out _).mono ?_;rintro e U ⟨rfl,rfl⟩;go_wp2_with fail;refine(C5.out _).mono ?_;rintro e U ⟨rfl,q5,rfl⟩;go_wp2_with fail;refine(C6.out _).mono ?_;rintro e U ⟨rfl,rfl⟩;go_wp2_with (at_builtin;refine ŕ _ rfl (.tmp 61) (.tmp 63) 34 rfl w.heap.size 9 i0 (.string ByteArray.empty) 1 16 ((Tq.underlying 34).trans underlying34) hi xr xU ya rfl (by decide) (.slice (some ⟨w.heap.size,0,none⟩) 1 1) 1 [av tr] rfl (ŗ (show World.ownsRow _ _ _ _ _ _ _ from aMh.out (q1+q2)) _) ⟨w.heap.size+1,0,none⟩ 1 1 [.string ⟨p.toArray⟩] rfl rfl ?c1 ?c2 ?c3 ?c4 ?c5 ?_)
      case c1=>intro j u hj;match j,hj with|0,hj=>simp at hj;subst hj;exact aAD _ _ _ _ (by simp[World.drewN])
      case c2=>intro u hu;simp at hu;subst hu;rfl
      case c3=>decide
      case c4=>decide
      case c5=>simp only[Ŕ];simp only[World.drewN,Ŕ];omega
      intro v' w3 GU tR _;have D2:Below w.heap.size w w3:=Below.grown ((qnz ((qnz (Below.refl w.heap.size w) (q1+q2)).alloc (aI _) _) q5).alloc (by simp only[World.drewN,Ŕ];omega) _) tR (by simp only[World.drewN,Ŕ];omega) (λk A=>by cases A;exact aI _);have K:=wq (E1 GU D2);clear GU D2 tR;go_wp2_with fail;refine(C7.out _).mono ?_;rintro e U ⟨rfl,rfl⟩;go_wp2
      go_ret2
      exact⟨rfl,K.out.2⟩
     ·simp only[j2]at vd;subst vd;go_enter Tq.func93,ntmps93;go_wp2_with fail;refine C1.out.mono ?_;rintro e U ⟨rfl,q1,rfl⟩;go_wp2_with fail;refine(C2.out _).mono ?_;rintro e U ⟨rfl,q2,rfl⟩;go_wp2_with fail;refine(C3.out _).mono ?_;rintro e U ⟨rfl,rfl⟩;go_wp2_with fail;refine(C4.out _).mono ?_;rintro e U ⟨rfl,rfl⟩;go_wp2_with fail;refine(C5.out _).mono ?_;rintro e U ⟨rfl,q5,rfl⟩;go_wp2_with fail;refine(C6.out _).mono ?_;rintro e U ⟨rfl,rfl⟩;go_wp2_with (at_builtin;refine ŕ _ rfl (.tmp 61) (.tmp 63) 34 rfl w.heap.size 9 i0 (.string ByteArray.empty) 1 16 ((Tq.underlying 34).trans underlying34) hi xr xU ya rfl (by decide) (.slice (some ⟨w.heap.size,0,none⟩) 1 1) 1 [av tr] rfl (ŗ (show World.ownsRow _ _ _ _ _ _ _ from aMh.out (q1+q2)) _) ⟨w.heap.size+1,0,none⟩ 1 1 [.string ⟨p.toArray⟩] rfl rfl ?c1 ?c2 ?c3 ?c4 ?c5 ?_)
      case c1=>intro j u hj;match j,hj with|0,hj=>simp at hj;subst hj;exact aAD _ _ _ _ (by simp[World.drewN])
      case c2=>intro u hu;simp at hu;subst hu;rfl
      case c3=>decide
      case c4=>decide
      case c5=>simp only[Ŕ];simp only[World.drewN,Ŕ];omega
      intro v' w3 GU tR _;have D2:Below w.heap.size w w3:=Below.grown ((qnz ((qnz (Below.refl w.heap.size w) (q1+q2)).alloc (aI _) _) q5).alloc (by simp only[World.drewN,Ŕ];omega) _) tR (by simp only[World.drewN,Ŕ];omega) (λk A=>by cases A;exact aI _);have K:=wq (E1 GU D2);clear GU D2 tR;go_wp2_with fail;refine(C7.out _).mono ?_;rintro e U ⟨rfl,rfl⟩;go_wp2_with (at_builtin;refine ŕ _ rfl (.tmp 70) (.tmp 72) 34 rfl w.heap.size 9 i0 (.string ByteArray.empty) 1 16 ((Tq.underlying 34).trans underlying34) hi xr xU ya rfl (by decide) v' 2 [av tr,av p] rfl (ŗ K.out.1 _) ⟨U.heap.size,0,none⟩ 1 1 [.string ⟨q.toArray⟩] rfl rfl ?c1 ?c2 ?c3 ?c4 ?c5 ?_)
      case c1=>intro j u hj;match j,hj with|0,hj=>simp at hj;subst hj;exact aAD _ _ _ _ rfl
      case c2=>intro u hu;simp at hu;subst hu;rfl
      case c3=>decide
      case c4=>decide
      case c5=>rw[Ŕ];exact jx K.out.2.size
      intro v2 w4 Aq aGH _;have hg4:Below w.heap.size w w4:=Below.grown (K.out.2.alloc K.out.2.size _) aGH (by rw[Ŕ];exact jx K.out.2.size) (λk A=>(K.out.1.lt k A).1);have K4:=wq (E1 Aq hg4);clear Aq hg4 aGH;go_wp2
      go_ret2
      exact⟨_,rfl,K4.out.1,K4.out.2⟩
end Wl
namespace Wm
open Wg Wi Wj Wk
def aAN(w:World)(res:Option Tx.Obj)(e:Ending)(U:World):Prop:=
 match res with
 |none=>(∃k:Int,e=.returned (.tuple #[.agg #[.int .u8 k,.slice none 0 0],.bool false]))/\Below w.heap.size w U
 |some o=>∃v,e=.returned (.tuple #[.agg #[.int .u8 o.kind.toNat,v],.bool true])/\U.ownsRow w.heap.size 9 1 v o.ids.length (o.ids.map av)/\Below w.heap.size w U
def aCV(s:ByteArray)(w:World)(hs:s.size<16777216)(word rest:Tx.B)(V:Tx.cut 32 s.data.toList=(word,rest,false)):
 Calls Tq.prog 53 #[.string s] w (aAN w (none)):=by
 have C1:=λw=>Wa.lV s 32 w (by unfold maxLen;omega);have Ao:rest.length<16777216:=by have:=(wG 32 s.data.toList).2;rw[V]at this;simp only at this;rw[dx]at this;omega
 rw[V]at C1;have C1:=wq C1;have C2:=wq (λw=>Wa.Gc s w (by unfold maxLen;omega));clear V;generalize Tx.dA s.data.toList=own at *;go_enter Tq.func53,ntmps53;go_wp2_with fail;refine(C1.out _).mono ?_;rintro e U ⟨rfl,q,rfl⟩;go_wp2_with fail;refine(C2.out _).mono ?_;rintro e U ⟨rfl,rfl⟩;go_wp2;exact Œ (v:=.tuple #[.agg #[.int .u8 0,.slice none 0 0],.bool false]) (by simp[results,results53,go_sem]) rfl ⟨⟨_,rfl⟩,(((qnz ((Below.refl w.heap.size w).alloc (aI _) _) q).setCell (aI _) _).setCell (aI _) _)⟩
def aDP(s:ByteArray)(w:World)(hs:s.size<16777216)(word rest:Tx.B)(V:Tx.cut 32 s.data.toList=(word,rest,true))(h0:Tx.dA s.data.toList=Tx.di):
 Calls Tq.prog 53 #[.string s] w (aAN w (none)):=by
 have C1:=λw=>Wa.lV s 32 w (by unfold maxLen;omega);have Ao:rest.length<16777216:=by have:=(wG 32 s.data.toList).2;rw[V]at this;simp only at this;rw[dx]at this;omega
 rw[V]at C1;have C1:=wq C1;have C2:=wq (λw=>Wa.Gc s w (by unfold maxLen;omega));clear V;have t0:(Tx.dA s.data.toList==[48,48,48,48,48,48,48,48])=true:=jA.2 h0;clear h0;generalize Tx.dA s.data.toList=own at *;go_enter Tq.func53,ntmps53;go_wp2_with fail;refine(C1.out _).mono ?_;rintro e U ⟨rfl,q,rfl⟩;go_wp2_with fail;refine(C2.out _).mono ?_;rintro e U ⟨rfl,rfl⟩;go_wp2;exact Œ (v:=.tuple #[.agg #[.int .u8 0,.slice none 0 0],.bool false]) (by simp[results,results53,go_sem]) rfl ⟨⟨_,rfl⟩,(((qnz ((Below.refl w.heap.size w).alloc (aI _) _) q).setCell (aI _) _).setCell (aI _) _)⟩
def aCR(s:ByteArray)(w:World)(hs:s.size<16777216)(word rest:Tx.B)(hb:word≠Tx.Ma)(ht:word≠Tx.L9)(L:word≠Tx.qo)(V:Tx.cut 32 s.data.toList=(word,rest,true))(h0:Tx.dA s.data.toList≠Tx.di):
 Calls Tq.prog 53 #[.string s] w (aAN w (none)):=by
 have C1:=λw=>Wa.lV s 32 w (by unfold maxLen;omega);have Ao:rest.length<16777216:=by have:=(wG 32 s.data.toList).2;rw[V]at this;simp only at this;rw[dx]at this;omega
 rw[V]at C1;have C1:=wq C1;have C2:=wq (λw=>Wa.Gc s w (by unfold maxLen;omega));clear V;have t0:(Tx.dA s.data.toList==[48,48,48,48,48,48,48,48])=false:=b8.2 h0;clear h0;have tb:(word==[98,108,111,98])=false:=b8.2 hb;have tt:(word==[116,114,101,101])=false:=b8.2 ht;have tc:(word==[99,111,109,109,105,116])=false:=b8.2 L;clear hb ht L;generalize Tx.dA s.data.toList=own at *;go_enter Tq.func53,ntmps53;go_wp2_with fail;refine(C1.out _).mono ?_;rintro e U ⟨rfl,q,rfl⟩;go_wp2_with fail;refine(C2.out _).mono ?_;rintro e U ⟨rfl,rfl⟩;go_wp2;exact Œ (v:=.tuple #[.agg #[.int .u8 0,.slice none 0 0],.bool false]) (by simp[results,results53,go_sem]) rfl ⟨⟨_,rfl⟩,(((qnz ((Below.refl w.heap.size w).alloc (aI _) _) q).setCell (aI _) _).setCell (aI _) _)⟩
def aDS(s:ByteArray)(w:World)(hs:s.size<16777216)(word rest:Tx.B)(hw:word=Tx.Ma)(V:Tx.cut 32 s.data.toList=(word,rest,true))(h0:Tx.dA s.data.toList≠Tx.di):
 Calls Tq.prog 53 #[.string s] w (aAN w (Option.map (⟨98,·⟩) (if Tx.line rest 40 then some []else none))):=by
 have C1:=λw=>Wa.lV s 32 w (by unfold maxLen;omega);have Ao:rest.length<16777216:=by have:=(wG 32 s.data.toList).2;rw[V]at this;simp only at this;rw[dx]at this;omega
 rw[V]at C1;have C1:=wq C1;have C2:=wq (λw=>Wa.Gc s w (by unfold maxLen;omega));clear V;have t0:(Tx.dA s.data.toList==[48,48,48,48,48,48,48,48])=false:=b8.2 h0;clear h0;have tb:(word==[98,108,111,98])=true:=by rw[hw];decide
 have tt:(word==[116,114,101,101])=false:=by rw[hw];decide
 have tc:(word==[99,111,109,109,105,116])=false:=by rw[hw];decide
 clear hw;have C3:=λw=>Wa.aDW ⟨rest.toArray⟩ 40 w (by unfold maxLen;show rest.length<=_;omega) (by decide);change ∀w,Calls _ _ _ w (λe' U=>e'=.returned (.bool (Tx.line rest 40))/\U=w)at C3;generalize Tx.line rest 40=bl at *;have C3:=wq C3;generalize Tx.dA s.data.toList=own at *;go_enter Tq.func53,ntmps53;go_wp2_with fail;refine(C1.out _).mono ?_;rintro e U ⟨rfl,q,rfl⟩;go_wp2_with fail;refine(C2.out _).mono ?_;rintro e U ⟨rfl,rfl⟩;cases bl
 ·go_wp2_with (go_at_call 91;refine(C3.out _).mono ?_;rintro e U ⟨rfl,rfl⟩);exact Œ (v:=.tuple #[.agg #[.int .u8 98,.slice none 0 0],.bool false]) (by simp[results,results53,go_sem]) rfl ⟨⟨_,rfl⟩,(((qnz ((Below.refl w.heap.size w).alloc (aI _) _) q).setCell (aI _) _).setCell (aI _) _)⟩
 ·go_wp2_with (go_at_call 91;refine(C3.out _).mono ?_;rintro e U ⟨rfl,rfl⟩);exact Œ (v:=.tuple #[.agg #[.int .u8 98,.slice none 0 0],.bool true]) (by simp[results,results53,go_sem]) rfl ⟨_,rfl,Ŗ _ _ _ _,(((qnz ((Below.refl w.heap.size w).alloc (aI _) _) q).setCell (aI _) _).setCell (aI _) _)⟩
def aCO{w w2:World}{q:Nat}(hb:Below (w.heap.size+1) ((w.alloc (.cells #[.int .u8 0,.slice none 0 0] 111)).drewN q) w2):nE w2 w.heap.size 111 (.int .u8 0) (.slice none 0 0):=
 (hb.block w.heap.size (tE _)).trans (œ w _)
def aAK{w:World}{b:Nat}{t:TypeId}{x y a c:Value}(h:nE w b t x y):((w.setCell ⟨b,0,none⟩ a).setCell ⟨b,1,none⟩ c).cell? ⟨b,0,none⟩=some a:=
 (ř _ ⟨b,1,none⟩ ⟨b,0,none⟩ _ (by simp)).trans (Ř w ⟨b,0,none⟩ a h.c0)
def aAJ{w:World}{b:Nat}{t:TypeId}{x y a c:Value}(h:nE w b t x y):((w.setCell ⟨b,0,none⟩ a).setCell ⟨b,1,none⟩ c).cell? ⟨b,1,none⟩=some c:=
 Ř _ ⟨b,1,none⟩ c ((ř w ⟨b,0,none⟩ ⟨b,1,none⟩ a (by simp)).trans h.c1)
def vR{w w2:World}{q:Nat}{a c:Value}(hb:Below (w.heap.size+1) ((w.alloc (.cells #[.int .u8 0,.slice none 0 0] 111)).drewN q) w2):Below w.heap.size w ((w2.setCell ⟨w.heap.size,0,none⟩ a).setCell ⟨w.heap.size,1,none⟩ c):=
 (((qnz ((Below.refl w.heap.size w).alloc (aI _) _) q).trans (hb.mono (lO _))).setCell (aI _) _).setCell (aI _) _
def aAU{w w2:World}{a c v:Value}{n:Nat}{xs:List Value}{q:Nat}(h:w2.ownsRow ((w.alloc (.cells #[.int .u8 0,.slice none 0 0] 111)).drewN q).heap.size 9 1 v n xs):
 ((w2.setCell ⟨w.heap.size,0,none⟩ a).setCell ⟨w.heap.size,1,none⟩ c).ownsRow w.heap.size 9 1 v n xs:=by
 have hs:((w.alloc (.cells #[.int .u8 0,.slice none 0 0] 111)).drewN q).heap.size=w.heap.size+1:=by simp[World.drewN]
 rw[hs]at h;exact lQ (ownsRow_setCell_below (ownsRow_setCell_below h (tE _) a) (tE _) c) (lO _)
def aDR(s:ByteArray)(w:World)(hs:s.size<16777216)(word rest:Tx.B)(hw:word=Tx.L9)(V:Tx.cut 32 s.data.toList=(word,rest,true))(h0:Tx.dA s.data.toList≠Tx.di):
 Calls Tq.prog 53 #[.string s] w (aAN w (Option.map (⟨116,·⟩) (Tx.tree rest))):=by
 have C1:=λw=>Wa.lV s 32 w (by unfold maxLen;omega);have Ao:rest.length<16777216:=by have:=(wG 32 s.data.toList).2;rw[V]at this;simp only at this;rw[dx]at this;omega
 rw[V]at C1;have C1:=wq C1;have C2:=wq (λw=>Wa.Gc s w (by unfold maxLen;omega));clear V;have t0:(Tx.dA s.data.toList==[48,48,48,48,48,48,48,48])=false:=b8.2 h0;clear h0;have tb:(word==[98,108,111,98])=false:=by rw[hw];decide
 have tt:(word==[116,114,101,101])=true:=by rw[hw];decide
 have tc:(word==[99,111,109,109,105,116])=false:=by rw[hw];decide
 clear hw;have C3:=λw=>Wk.aDZ ⟨rest.toArray⟩ w (show rest.length<_ from Ao);change ∀w,Calls _ _ _ w (aAx w (Tx.tree rest))at C3;generalize Tx.tree rest=res at *;have C3:=wq C3;generalize Tx.dA s.data.toList=own at *;go_enter Tq.func53,ntmps53;go_wp2_with fail;refine(C1.out _).mono ?_;rintro e U ⟨rfl,q,rfl⟩;go_wp2_with fail;refine(C2.out _).mono ?_;rintro e U ⟨rfl,rfl⟩;go_wp2_with fail;refine(C3.out _).mono ?_;intro e w2 hp;cases res with
 |none=>obtain⟨rfl,hb⟩:=hp;have hb:Hid (Below (w.heap.size+1) _ w2):=wq (hb.mono (by simp[World.drewN]));have J:=aCO hb.out;have k0:=J.c0;have k1:=J.c1;have f0:=J.f0;have f1:=J.f1;have uG:=hb.out.size;have H2:=wq J;clear J;go_wp2;exact Œ (v:=.tuple #[.agg #[.int .u8 116,.slice none 0 0],.bool false]) (by simp[results,results53,go_sem,aAK H2.out,aAJ H2.out]) rfl ⟨⟨_,rfl⟩,vR hb.out⟩
 |some ids=>
  obtain⟨v,rfl,tU,hb⟩:=hp;have hb:Hid (Below (w.heap.size+1) _ w2):=wq (hb.mono (by simp[World.drewN]));have J:=aCO hb.out;have k0:=J.c0;have k1:=J.c1;have f0:=J.f0;have f1:=J.f1;have uG:=hb.out.size;have H2:=wq J;have X:=qshape tU;have HO:=wq tU;clear J tU;rcases X with rfl|⟨g,n,cap,rfl⟩
  ·go_wp2;exact Œ (v:=.tuple #[.agg #[.int .u8 116,.slice none 0 0],.bool true]) (by simp[results,results53,go_sem,aAK H2.out,aAJ H2.out]) rfl ⟨_,rfl,aAU HO.out,vR hb.out⟩
  ·go_wp2;exact Œ (v:=.tuple #[.agg #[.int .u8 116,.slice (some ⟨g,0,none⟩) n cap],.bool true]) (by simp[results,results53,go_sem,aAK H2.out,aAJ H2.out]) rfl ⟨_,rfl,aAU HO.out,vR hb.out⟩
def aCu(s:ByteArray)(w:World)(hs:s.size<16777216)(word rest:Tx.B)(hw:word=Tx.qo)(V:Tx.cut 32 s.data.toList=(word,rest,true))(h0:Tx.dA s.data.toList≠Tx.di):
 Calls Tq.prog 53 #[.string s] w (aAN w (Option.map (⟨99,·⟩) (Tx.ji rest))):=by
 have C1:=λw=>Wa.lV s 32 w (by unfold maxLen;omega);have Ao:rest.length<16777216:=by have:=(wG 32 s.data.toList).2;rw[V]at this;simp only at this;rw[dx]at this;omega
 rw[V]at C1;have C1:=wq C1;have C2:=wq (λw=>Wa.Gc s w (by unfold maxLen;omega));clear V;have t0:(Tx.dA s.data.toList==[48,48,48,48,48,48,48,48])=false:=b8.2 h0;clear h0;have tb:(word==[98,108,111,98])=false:=by rw[hw];decide
 have tt:(word==[116,114,101,101])=false:=by rw[hw];decide
 have tc:(word==[99,111,109,109,105,116])=true:=by rw[hw];decide
 clear hw;have C3:=λw=>Wl.P7 ⟨rest.toArray⟩ w (show rest.length<_ from Ao);change ∀w,Calls _ _ _ w (aAx w (Tx.ji rest))at C3;generalize Tx.ji rest=res at *;have C3:=wq C3;generalize Tx.dA s.data.toList=own at *;go_enter Tq.func53,ntmps53;go_wp2_with fail;refine(C1.out _).mono ?_;rintro e U ⟨rfl,q,rfl⟩;go_wp2_with fail;refine(C2.out _).mono ?_;rintro e U ⟨rfl,rfl⟩;go_wp2_with fail;refine(C3.out _).mono ?_;intro e w2 hp;cases res with
 |none=>obtain⟨rfl,hb⟩:=hp;have hb:Hid (Below (w.heap.size+1) _ w2):=wq (hb.mono (by simp[World.drewN]));have J:=aCO hb.out;have k0:=J.c0;have k1:=J.c1;have f0:=J.f0;have f1:=J.f1;have uG:=hb.out.size;have H2:=wq J;clear J;go_wp2;exact Œ (v:=.tuple #[.agg #[.int .u8 99,.slice none 0 0],.bool false]) (by simp[results,results53,go_sem,aAK H2.out,aAJ H2.out]) rfl ⟨⟨_,rfl⟩,vR hb.out⟩
 |some ids=>
  obtain⟨v,rfl,tU,hb⟩:=hp;have hb:Hid (Below (w.heap.size+1) _ w2):=wq (hb.mono (by simp[World.drewN]));have J:=aCO hb.out;have k0:=J.c0;have k1:=J.c1;have f0:=J.f0;have f1:=J.f1;have uG:=hb.out.size;have H2:=wq J;have X:=qshape tU;have HO:=wq tU;clear J tU;rcases X with rfl|⟨g,n,cap,rfl⟩
  ·go_wp2;exact Œ (v:=.tuple #[.agg #[.int .u8 99,.slice none 0 0],.bool true]) (by simp[results,results53,go_sem,aAK H2.out,aAJ H2.out]) rfl ⟨_,rfl,aAU HO.out,vR hb.out⟩
  ·go_wp2;exact Œ (v:=.tuple #[.agg #[.int .u8 99,.slice (some ⟨g,0,none⟩) n cap],.bool true]) (by simp[results,results53,go_sem,aAK H2.out,aAJ H2.out]) rfl ⟨_,rfl,aAU HO.out,vR hb.out⟩
def aEa(s:ByteArray)(w:World)(hs:s.size<16777216):Calls Tq.prog 53 #[.string s] w (aAN w (Tx.parse s.data.toList)):=by
 have hp:∀word rest f,Tx.cut 32 s.data.toList=(word,rest,f)->Tx.parse s.data.toList=if f&&Tx.dA s.data.toList !=Tx.di then
  if word=Tx.Ma then(if Tx.line rest 40 then some ⟨98,[]⟩else none)else if word=Tx.L9 then(Tx.tree rest).map (⟨116,·⟩)else if word=Tx.qo then(Tx.ji rest).map (⟨99,·⟩)else none else none:=by
  intro word rest f h;simp only[Tx.parse,h]
 rcases L:Tx.cut 32 s.data.toList with⟨word,rest,f⟩
 rw[hp _ _ _ L];cases f
 ·exact aCV s w hs word rest L
 ·by_cases h0:Tx.dA s.data.toList=Tx.di
  ·rw[aX (by rw[h0];decide)];exact aDP s w hs word rest L h0
  ·rw[bk (by rw[jD,tx];exact h0)];by_cases hb:word=Tx.Ma
   ·rw[bk hb];have:=aDS s w hs word rest hb L h0;cases hl:Tx.line rest 40<;>rw[hl]at this<;>exact this
   ·rw[aX hb];by_cases ht:word=Tx.L9
    ·rw[bk ht];exact aDR s w hs word rest ht L h0
    ·rw[aX ht];by_cases A:word=Tx.qo
     ·rw[bk A];exact aCu s w hs word rest A L h0
     ·rw[aX A];exact aCR s w hs word rest hb ht A L h0
def aEC(s:ByteArray)(w:World)(hs:s.size<16777216):
 Calls Tq.prog 37 #[.string s] w (aAx w ((Tx.parse s.data.toList).map (·.ids))):=by
 have C:=wq (aEa s w hs);generalize Tx.parse s.data.toList=r at C;cases r with
 |none=>
  go_enter Tq.func37,ntmps37;go_wp2_with fail;refine C.out.mono ?_;rintro e w1 ⟨⟨k,rfl⟩,hb⟩;have hb:=wq hb;go_wp2
  go_ret2
  exact⟨rfl,hb.out.alloc hb.out.size _⟩
 |some o=>
  go_enter Tq.func37,ntmps37;go_wp2_with fail;refine C.out.mono ?_;rintro e w1 ⟨v,rfl,tU,hb⟩;have hb:=wq hb;have X:=qshape tU;have HO:=wq tU;clear tU;rcases X with rfl|⟨g,n,cap,rfl⟩
  all_goals
   go_wp2
   go_ret2
   exact⟨_,rfl,HO.out.alloc _,hb.out.alloc hb.out.size _⟩
end Wm
