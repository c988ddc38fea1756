/- Races: a part. Conditions: none. -/
import Derived.Laws.AppendOwnNone
import Derived.Test.YtmanpggemmgnnaaGreatDoorA23
import Derived.Test.YtmanpggemmgnnaaGreatDoorA24
set_option linter.all false
set_option maxHeartbeats 8000000
set_option maxRecDepth 1000000
namespace Go.Proofs.YtmanpggemmgnnaaGreatDoor
noncomputable section
open Go Go.RowKit Go.Shelf Ba VW Fr
theorem z25 {p:Prop} (h:p):Go.RowKit.Hid p:=Go.Lib.hid h
theorem y25 {a b:Prop} (x:a) (y:b):a/\b:=⟨x,y⟩
theorem qnz {B:Nat} {a w:World} (h:Below B a w) (n:Nat):Below B a (w.drewN n):=⟨h.os,h.tape,h.output,h.size,h.block⟩
namespace Wi
open Wg
theorem O0 (b g cap:Nat) (t:TypeId) (x:Value) (ids:List Tx.B) (B:Nat) (w:World) (hn:ids.length<1099511627776)
 (h2:nE w b t x (.slice (some ⟨g,0,none⟩) ids.length cap)) (bU:w.ownsRow B 9 1 (.slice (some ⟨g,0,none⟩) ids.length cap) ids.length (ids.map av)):
 Calls Tq.prog 234 #[.pointer (some ⟨b,0,none⟩)] w λe w'=>∃v',e=.returned v'/\w'.ownsRow w.heap.size 9 1 v' ids.length (ids.map av)/\Below w.heap.size w w':=by
 obtain ⟨i0,hi,uw,wQ,wP⟩:=info_parts Tryz.pI;have k1:=h2.c1;have dK:=bU.cells (g:=g) rfl;have dK:=z25 dK;have sH:=World.ownsRow_nil w w.heap.size 9 1;clear h2 bU;go_enter Tq.func234,Tryz.ntmps234;go_wp2_with (at_builtin;refine wpList_append_own _ rfl (.const (.slice none 0 0)) (.tmp 6) 34 rfl w.heap.size 9 i0 (.string ByteArray.empty) 1 16 ((Tq.underlying 34).trans Tryz.underlying34) hi uw wQ wP rfl (by decide) (.slice none 0 0) 0 [] rfl sH ⟨g,0,none⟩ ids.length cap (ids.map av) rfl ?c0 ?c1 ?c2 ?c3 ?c4 ?c5 ?_)
 case c0=>simp
 case c1=>exact dK.out
 case c2=>intro u hu;obtain ⟨l,_,rfl⟩:=List.mem_map.1 hu;rfl
 case c3=>unfold maxLen;omega
 case c4=>omega
 case c5=>exact Nat.le_refl _
 intro v' w1 Rj aX _;have K:=z25 (y25 Rj aX);clear Rj aX k1 sH;go_wp2;go_ret;exact ⟨_,rfl,K.out.1,((Below.refl _ _).grown K.out.2 (Nat.le_refl _) (λk h=>by cases h))⟩
theorem O1 (b:Nat) (t:TypeId) (x:Value) (w:World) (h2:nE w b t x (.slice none 0 0)):
 Calls Tq.prog 234 #[.pointer (some ⟨b,0,none⟩)] w λe w'=>e=.returned (.slice none 0 0)/\w'=w:=by
 obtain ⟨i0,hi,uw,wQ,wP⟩:=info_parts Tryz.pI;have k1:=h2.c1;have sH:=World.ownsRow_nil w w.heap.size 9 1;clear h2;go_enter Tq.func234,Tryz.ntmps234;go_wp2_with (at_builtin;refine wpList_append_own_none rfl (.const (.slice none 0 0)) (.tmp 6) 34 rfl w.heap.size 9 i0 1 ((Tq.underlying 34).trans Tryz.underlying34) hi (.slice none 0 0) 0 [] rfl sH rfl ?_);go_ret;exact ⟨rfl,rfl⟩
theorem Uz (b:Nat) (t:TypeId) (x v:Value) (ids:List Tx.B) (B:Nat) (w:World) (hn:ids.length<1099511627776)
 (h2:nE w b t x v) (bU:w.ownsRow B 9 1 v ids.length (ids.map av)):
 Calls Tq.prog 234 #[.pointer (some ⟨b,0,none⟩)] w λe w'=>∃v',e=.returned v'/\w'.ownsRow w.heap.size 9 1 v' ids.length (ids.map av)/\Below w.heap.size w w':=by
 rcases bU.2 with ⟨rfl,h0⟩|⟨g,cap,cur,rfl,_⟩
 ·obtain rfl:=List.eq_nil_of_length_eq_zero h0;exact (O1 b t x w h2).mono λe w' h=>⟨_,h.1,h.2▸World.ownsRow_nil _ _ _ _,h.2▸Below.refl _ _⟩
 ·exact O0 b g cap t x ids B w hn h2 bU
theorem aDk (b:Nat) (t:TypeId) (s0:Value) (s:ByteArray) (w:World) (h2:nE w b t s0 (.slice none 0 0)):
 Calls Tq.prog 311 #[.pointer (some ⟨b,0,none⟩),.string s] w (bL w b t s0 (if Tx.line s.data.toList 40 then some [] else none)):=by
 cases h:Tx.line s.data.toList 40
 ·exact (Wf.aDl b s w h).mono λe w' hh=>⟨hh.1,(aj.refl _ w).trans' (aj.nK hh.2) (λ_ _ (e:False)=>e.elim)⟩
 ·exact (Wf.aAs b s w h).mono λe w' hh=>⟨hh.1,_,hh.2▸h2,World.ownsRow_nil _ _ _ _,hh.2▸aj.refl _ _⟩
theorem UC (a:Addr) (w:World):(method 476 254 (.pointer (some a)) "refserve/object.parse").run Tq.prog w=.ok (311,.pointer (some a)) w:=(by kernel_rfl)
theorem UB (a:Addr) (w:World):(method 476 257 (.pointer (some a)) "refserve/object.parse").run Tq.prog w=.ok (314,.pointer (some a)) w:=(by kernel_rfl)
theorem Lm (a:Addr) (w:World):(method 476 259 (.pointer (some a)) "refserve/object.parse").run Tq.prog w=.ok (317,.pointer (some a)) w:=(by kernel_rfl)
def ED (k:UInt8):TypeId:=if k=98 then 254 else if k=116 then 257 else 259
def blT (k:UInt8):TypeId:=if k=98 then 256 else if k=116 then 258 else 260
def nG (w:World) (s:ByteArray) (res:Option Tx.Obj) (e:Ending) (w':World):Prop:=
 match res with
 |none=>(∃a,e=.returned (.tuple #[.nilIface,.iface 249 (.pointer (some a))]))/\Below w.heap.size w w'
 |some o=>∃b v,e=.returned (.tuple #[.iface (ED o.kind) (.pointer (some ⟨b,0,none⟩)),.nilIface])/\w.heap.size<=b/\nE w' b (blT o.kind) (.string s) v/\
  w'.ownsRow w.heap.size 9 1 v o.ids.length (o.ids.map av)/\(∀k,v.ownBlock=some k->k≠b)/\Below w.heap.size w w'
theorem lQ {w:World} {B B' E z n:Nat} {v:Value} {xs:List Value} (h:w.ownsRow B E z v n xs) (hB:B'<=B):w.ownsRow B' E z v n xs:=by
 obtain ⟨hl,hc⟩:=h;refine ⟨hl,?_⟩;rcases hc with hc|⟨g,cap,cur,h0,h1,h2⟩
 ·exact .inl hc
 ·exact .inr ⟨g,cap,cur,h0,Nat.le_trans hB h1,h2⟩
theorem OO (s:ByteArray) (w:World) (hs:s.size<16777216) (word rest:Tx.B) (hw:word=Tx.Ma) (h1:Tx.cut 32 s.data.toList=(word,rest,true)) (h0:Tx.dA s.data.toList≠Tx.di):
 Calls Tq.prog 146 #[.string s] w (nG w s (Option.map (⟨98,·⟩) ((if Tx.line rest 40 then some [] else none:Option (List Tx.B))))):=by
 have C1:=Wf.lV s 32 w (by unfold maxLen;omega);have Ao:rest.length<16777216:=by have:=(wG 32 s.data.toList).2;rw [h1] at this;simp only at this;rw [dx] at this;omega
 rw [h1] at C1;have C1:=z25 C1;have C2:=z25 (λw=>Wb.l7 s w (by unfold maxLen;omega));clear h1;have t0:(Tx.dA s.data.toList==[48,48,48,48,48,48,48,48])=false:=beq_eq_false_iff_ne.2 h0;clear h0;have tb:(word==[98,108,111,98])=true:=by rw [hw];decide
 have tt:(word==[116,114,101,101])=false:=by rw [hw];decide
 have tc:(word==[99,111,109,109,105,116])=false:=by rw [hw];decide
 clear hw;generalize Tx.dA s.data.toList=own at C2 t0;have hm:=UC;have C3:=z25 (λb w3 (h2:nE w3 b 256 (.string s) (.slice none 0 0))=>aDk b 256 (.string s) ⟨rest.toArray⟩ w3 h2);change Hid (∀b w3,nE w3 b 256 (.string s) (.slice none 0 0)->Calls Tq.prog 311 #[.pointer (some ⟨b,0,none⟩),.string ⟨rest.toArray⟩] w3 (bL w3 b 256 (.string s) ((if Tx.line rest 40 then some [] else none:Option (List Tx.B))))) at C3;generalize iO:(if Tx.line rest 40 then some [] else none:Option (List Tx.B))=res at C3;clear iO;go_enter Tq.func146,Tryz.ntmps146;go_wp2_with fail;refine C1.out.mono ?_;rintro e w' ⟨rfl,q,rfl⟩;go_wp2_with fail;refine (C2.out _).mono ?_;rintro e w2 ⟨rfl,gQ⟩;have gQ:=z25 gQ;go_wp2_with fail;have h2:nE ((w2.alloc (.cells #[.string s,.slice none 0 0] 253)).alloc (.cells #[.string s,.slice none 0 0] 256)) (w2.heap.size+1) 256 (.string s) (.slice none 0 0):=by have:=heap_alloc_new (w2.alloc (.cells #[.string s,.slice none 0 0] 253)) (.cells #[.string s,.slice none 0 0] 256);rw [World.size_alloc] at this;exact this
 refine (C3.out _ _ h2).mono ?_;intro e w4 hp;have lD:=z25 (show Below w.heap.size w ((w2.alloc (.cells #[.string s,.slice none 0 0] 253)).alloc (.cells #[.string s,.slice none 0 0] 256)) from (((qnz (Below.refl w.heap.size w) q).trans gQ.out).alloc gQ.out.size _).alloc (by rw [World.size_alloc];have:=gQ.out.size;simp only [World.drewN] at this;omega) _);have bW:=gQ.out.size;cases res with
 |none=>
  obtain ⟨⟨a,rfl⟩,hc⟩:=hp;have hc:=z25 hc;clear h2;go_wp2
  go_ret2
  exact ⟨⟨_,rfl⟩,lD.out.trans (hc.out.below (by simp only [World.size_alloc];simp only [World.drewN] at bW;omega) (λk e=>by subst e;simp only [World.drewN] at bW;omega))⟩
 |some ids=>
  obtain ⟨rfl,v,r1,r2,r3⟩:=hp;have K:=z25 (y25 r1 (y25 r2 r3));clear h2 r1 r2 r3;go_wp2
  go_ret2
  obtain ⟨r1,r2,r3⟩:=K.out;simp only [World.size_alloc] at r2;simp only [World.drewN] at bW;exact ⟨_,v,rfl,by omega,r1,lQ r2 (by omega),λk hk e=>by have:=(r2.lt k hk).1;omega,lD.out.trans (r3.below (by simp only [World.size_alloc];omega) (λk e=>by subst e;omega))⟩
theorem OL (s:ByteArray) (w:World) (hs:s.size<16777216) (word rest:Tx.B) (hw:word=Tx.L9) (h1:Tx.cut 32 s.data.toList=(word,rest,true)) (h0:Tx.dA s.data.toList≠Tx.di):
 Calls Tq.prog 146 #[.string s] w (nG w s (Option.map (⟨116,·⟩) ((Tx.tree rest)))):=by
 have C1:=Wf.lV s 32 w (by unfold maxLen;omega);have Ao:rest.length<16777216:=by have:=(wG 32 s.data.toList).2;rw [h1] at this;simp only at this;rw [dx] at this;omega
 rw [h1] at C1;have C1:=z25 C1;have C2:=z25 (λw=>Wb.l7 s w (by unfold maxLen;omega));clear h1;have t0:(Tx.dA s.data.toList==[48,48,48,48,48,48,48,48])=false:=beq_eq_false_iff_ne.2 h0;clear h0;have tb:(word==[98,108,111,98])=false:=by rw [hw];decide
 have tt:(word==[116,114,101,101])=true:=by rw [hw];decide
 have tc:(word==[99,111,109,109,105,116])=false:=by rw [hw];decide
 clear hw;generalize Tx.dA s.data.toList=own at C2 t0;have hm:=UB;have C3:=z25 (λb w3 (h2:nE w3 b 258 (.string s) (.slice none 0 0))=>Wg.Xb b 258 (.string s) ⟨rest.toArray⟩ w3 (show rest.length<_ from Ao) h2);change Hid (∀b w3,nE w3 b 258 (.string s) (.slice none 0 0)->Calls Tq.prog 314 #[.pointer (some ⟨b,0,none⟩),.string ⟨rest.toArray⟩] w3 (bL w3 b 258 (.string s) ((Tx.tree rest)))) at C3;generalize iO:(Tx.tree rest)=res at C3;clear iO;go_enter Tq.func146,Tryz.ntmps146;go_wp2_with fail;refine C1.out.mono ?_;rintro e w' ⟨rfl,q,rfl⟩;go_wp2_with fail;refine (C2.out _).mono ?_;rintro e w2 ⟨rfl,gQ⟩;have gQ:=z25 gQ;go_wp2_with fail;have h2:nE ((w2.alloc (.cells #[.string s,.slice none 0 0] 253)).alloc (.cells #[.string s,.slice none 0 0] 258)) (w2.heap.size+1) 258 (.string s) (.slice none 0 0):=by have:=heap_alloc_new (w2.alloc (.cells #[.string s,.slice none 0 0] 253)) (.cells #[.string s,.slice none 0 0] 258);rw [World.size_alloc] at this;exact this
 refine (C3.out _ _ h2).mono ?_;intro e w4 hp;have lD:=z25 (show Below w.heap.size w ((w2.alloc (.cells #[.string s,.slice none 0 0] 253)).alloc (.cells #[.string s,.slice none 0 0] 258)) from (((qnz (Below.refl w.heap.size w) q).trans gQ.out).alloc gQ.out.size _).alloc (by rw [World.size_alloc];have:=gQ.out.size;simp only [World.drewN] at this;omega) _);have bW:=gQ.out.size;cases res with
 |none=>
  obtain ⟨⟨a,rfl⟩,hc⟩:=hp;have hc:=z25 hc;clear h2;go_wp2
  go_ret2
  exact ⟨⟨_,rfl⟩,lD.out.trans (hc.out.below (by simp only [World.size_alloc];simp only [World.drewN] at bW;omega) (λk e=>by subst e;simp only [World.drewN] at bW;omega))⟩
 |some ids=>
  obtain ⟨rfl,v,r1,r2,r3⟩:=hp;have K:=z25 (y25 r1 (y25 r2 r3));clear h2 r1 r2 r3;go_wp2
  go_ret2
  obtain ⟨r1,r2,r3⟩:=K.out;simp only [World.size_alloc] at r2;simp only [World.drewN] at bW;exact ⟨_,v,rfl,by omega,r1,lQ r2 (by omega),λk hk e=>by have:=(r2.lt k hk).1;omega,lD.out.trans (r3.below (by simp only [World.size_alloc];omega) (λk e=>by subst e;omega))⟩
theorem I4 (s:ByteArray) (w:World) (hs:s.size<16777216) (word rest:Tx.B) (hw:word=Tx.qo) (h1:Tx.cut 32 s.data.toList=(word,rest,true)) (h0:Tx.dA s.data.toList≠Tx.di):
 Calls Tq.prog 146 #[.string s] w (nG w s (Option.map (⟨99,·⟩) ((Tx.ji rest)))):=by
 have C1:=Wf.lV s 32 w (by unfold maxLen;omega);have Ao:rest.length<16777216:=by have:=(wG 32 s.data.toList).2;rw [h1] at this;simp only at this;rw [dx] at this;omega
 rw [h1] at C1;have C1:=z25 C1;have C2:=z25 (λw=>Wb.l7 s w (by unfold maxLen;omega));clear h1;have t0:(Tx.dA s.data.toList==[48,48,48,48,48,48,48,48])=false:=beq_eq_false_iff_ne.2 h0;clear h0;have tb:(word==[98,108,111,98])=false:=by rw [hw];decide
 have tt:(word==[116,114,101,101])=false:=by rw [hw];decide
 have tc:(word==[99,111,109,109,105,116])=true:=by rw [hw];decide
 clear hw;generalize Tx.dA s.data.toList=own at C2 t0;have hm:=Lm;have C3:=z25 (λb w3 (h2:nE w3 b 260 (.string s) (.slice none 0 0))=>Wh.P7 b 260 (.string s) ⟨rest.toArray⟩ w3 (show rest.length<_ from Ao) h2);change Hid (∀b w3,nE w3 b 260 (.string s) (.slice none 0 0)->Calls Tq.prog 317 #[.pointer (some ⟨b,0,none⟩),.string ⟨rest.toArray⟩] w3 (bL w3 b 260 (.string s) ((Tx.ji rest)))) at C3;generalize iO:(Tx.ji rest)=res at C3;clear iO;go_enter Tq.func146,Tryz.ntmps146;go_wp2_with fail;refine C1.out.mono ?_;rintro e w' ⟨rfl,q,rfl⟩;go_wp2_with fail;refine (C2.out _).mono ?_;rintro e w2 ⟨rfl,gQ⟩;have gQ:=z25 gQ;go_wp2_with fail;have h2:nE ((w2.alloc (.cells #[.string s,.slice none 0 0] 253)).alloc (.cells #[.string s,.slice none 0 0] 260)) (w2.heap.size+1) 260 (.string s) (.slice none 0 0):=by have:=heap_alloc_new (w2.alloc (.cells #[.string s,.slice none 0 0] 253)) (.cells #[.string s,.slice none 0 0] 260);rw [World.size_alloc] at this;exact this
 refine (C3.out _ _ h2).mono ?_;intro e w4 hp;have lD:=z25 (show Below w.heap.size w ((w2.alloc (.cells #[.string s,.slice none 0 0] 253)).alloc (.cells #[.string s,.slice none 0 0] 260)) from (((qnz (Below.refl w.heap.size w) q).trans gQ.out).alloc gQ.out.size _).alloc (by rw [World.size_alloc];have:=gQ.out.size;simp only [World.drewN] at this;omega) _);have bW:=gQ.out.size;cases res with
 |none=>
  obtain ⟨⟨a,rfl⟩,hc⟩:=hp;have hc:=z25 hc;clear h2;go_wp2
  go_ret2
  exact ⟨⟨_,rfl⟩,lD.out.trans (hc.out.below (by simp only [World.size_alloc];simp only [World.drewN] at bW;omega) (λk e=>by subst e;simp only [World.drewN] at bW;omega))⟩
 |some ids=>
  obtain ⟨rfl,v,r1,r2,r3⟩:=hp;have K:=z25 (y25 r1 (y25 r2 r3));clear h2 r1 r2 r3;go_wp2
  go_ret2
  obtain ⟨r1,r2,r3⟩:=K.out;simp only [World.size_alloc] at r2;simp only [World.drewN] at bW;exact ⟨_,v,rfl,by omega,r1,lQ r2 (by omega),λk hk e=>by have:=(r2.lt k hk).1;omega,lD.out.trans (r3.below (by simp only [World.size_alloc];omega) (λk e=>by subst e;omega))⟩
theorem K8 (s:ByteArray) (w:World) (hs:s.size<16777216) (word rest:Tx.B) (hb:word≠Tx.Ma) (ht:word≠Tx.L9) (hc:word≠Tx.qo) (h1:Tx.cut 32 s.data.toList=(word,rest,true)) (h0:Tx.dA s.data.toList≠Tx.di):
 Calls Tq.prog 146 #[.string s] w (nG w s none):=by
 have C1:=Wf.lV s 32 w (by unfold maxLen;omega);rw [h1] at C1;have C1:=z25 C1;have C2:=z25 (λw=>Wb.l7 s w (by unfold maxLen;omega));clear h1;have t0:(Tx.dA s.data.toList==[48,48,48,48,48,48,48,48])=false:=beq_eq_false_iff_ne.2 h0;clear h0;have tb:(word==[98,108,111,98])=false:=beq_eq_false_iff_ne.2 hb;have tt:(word==[116,114,101,101])=false:=beq_eq_false_iff_ne.2 ht;have tc:(word==[99,111,109,109,105,116])=false:=beq_eq_false_iff_ne.2 hc;clear hb ht hc;generalize Tx.dA s.data.toList=own at C2 t0;go_enter Tq.func146,Tryz.ntmps146;go_wp2_with fail;refine C1.out.mono ?_;rintro e w' ⟨rfl,q,rfl⟩;go_wp2_with fail;refine (C2.out _).mono ?_;rintro e w2 ⟨rfl,gQ⟩;have gQ:=z25 gQ;go_wp2
 go_ret2
 have bW:=gQ.out.size;simp only [World.drewN] at bW;exact ⟨⟨_,rfl⟩,((((qnz (Below.refl w.heap.size w) q).trans gQ.out).alloc gQ.out.size _).alloc (by simp only [World.size_alloc];omega) _)⟩
theorem K9 (s:ByteArray) (w:World) (hs:s.size<16777216) (word rest:Tx.B) (h1:Tx.cut 32 s.data.toList=(word,rest,false)):
 Calls Tq.prog 146 #[.string s] w (nG w s none):=by
 have C1:=Wf.lV s 32 w (by unfold maxLen;omega);rw [h1] at C1;have C1:=z25 C1;clear h1;go_enter Tq.func146,Tryz.ntmps146;go_wp2_with fail;refine C1.out.mono ?_;rintro e w' ⟨rfl,q,rfl⟩;go_wp2
 go_ret2
 exact ⟨⟨_,rfl⟩,((qnz (Below.refl w.heap.size w) q).alloc (Nat.le_refl _) _)⟩
theorem OJ (s:ByteArray) (w:World) (hs:s.size<16777216) (word rest:Tx.B) (h1:Tx.cut 32 s.data.toList=(word,rest,true)) (h0:Tx.dA s.data.toList=Tx.di):
 Calls Tq.prog 146 #[.string s] w (nG w s none):=by
 have C1:=Wf.lV s 32 w (by unfold maxLen;omega);rw [h1] at C1;have C1:=z25 C1;have C2:=z25 (λw=>Wb.l7 s w (by unfold maxLen;omega));clear h1;have t0:(Tx.dA s.data.toList==[48,48,48,48,48,48,48,48])=true:=beq_iff_eq.2 h0;clear h0;generalize Tx.dA s.data.toList=own at C2 t0;go_enter Tq.func146,Tryz.ntmps146;go_wp2_with fail;refine C1.out.mono ?_;rintro e w' ⟨rfl,q,rfl⟩;go_wp2_with fail;refine (C2.out _).mono ?_;rintro e w2 ⟨rfl,gQ⟩;have gQ:=z25 gQ;go_wp2
 go_ret2
 exact ⟨⟨_,rfl⟩,(((qnz (Below.refl w.heap.size w) q).trans gQ.out).alloc gQ.out.size _)⟩
theorem Gm (s:ByteArray) (w:World) (hs:s.size<16777216):Calls Tq.prog 146 #[.string s] w (nG w s (Tx.parse s.data.toList)):=by
 have hp:∀word rest f,Tx.cut 32 s.data.toList=(word,rest,f)->Tx.parse s.data.toList=if f&&Tx.dA s.data.toList !=Tx.di then
  if word=Tx.Ma then (if Tx.line rest 40 then some ⟨98,[]⟩ else none) else if word=Tx.L9 then (Tx.tree rest).map (⟨116,·⟩) else if word=Tx.qo then (Tx.ji rest).map (⟨99,·⟩) else none else none:=by
  intro word rest f h;simp only [Tx.parse,h]
 rcases hc:Tx.cut 32 s.data.toList with ⟨word,rest,f⟩
 rw [hp _ _ _ hc];cases f
 ·exact K9 s w hs word rest hc
 ·by_cases h0:Tx.dA s.data.toList=Tx.di
  ·rw [if_neg (by rw [h0];decide)];exact OJ s w hs word rest hc h0
  ·rw [if_pos (by rw [Bool.true_and,bne_iff_ne];exact h0)];by_cases hb:word=Tx.Ma
   ·rw [if_pos hb];have:=OO s w hs word rest hb hc h0;cases hl:Tx.line rest 40<;>rw [hl] at this<;>exact this
   ·rw [if_neg hb];by_cases ht:word=Tx.L9
    ·rw [if_pos ht];exact OL s w hs word rest ht hc h0
    ·rw [if_neg ht];by_cases hk:word=Tx.qo
     ·rw [if_pos hk];exact I4 s w hs word rest hk hc h0
     ·rw [if_neg hk];exact K8 s w hs word rest hb ht hk hc h0
end Wi
end
end Go.Proofs.YtmanpggemmgnnaaGreatDoor
