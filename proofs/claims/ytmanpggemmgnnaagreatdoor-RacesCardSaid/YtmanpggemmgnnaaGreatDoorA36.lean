/- Races: a part. Conditions: none. -/
import Derived.Test.YtmanpggemmgnnaaGreatDoorA08
import Derived.Test.YtmanpggemmgnnaaGreatDoorA35
set_option linter.all false
set_option maxHeartbeats 8000000
set_option maxRecDepth 1000000
namespace Go.Proofs.YtmanpggemmgnnaaGreatDoor
noncomputable section
open Go Go.RowKit Go.Shelf Ba Fr
theorem z36 {p:Prop} (h:p):Go.RowKit.Hid p:=Go.Lib.hid h
namespace Mp
open Tx Sp
theorem Mg {ρ:Operand->Value} {dst:Option Tmp} {t:TypeId} {mm x v:Operand} {type:TypeId} {pos:String} {after:Array Go.Edge} {guard:Option (Nat×Bool)}:execOp ρ ⟨dst,.insert t mm x v,type,pos,after,guard⟩=execOp ρ ⟨dst,.mapUpdate t mm x v,type,pos,after,guard⟩:=rfl
theorem insert {w:World} {ops:Array Oper} {rest:List Oper} {o:Oper} {a:Act} {Q:Exit->Act->World->Prop} (hg:o.guard=none) (mm x v:Operand) (t:TypeId) (dC:o.op=Op.insert t mm x v) (e:TypeId) (ht:Tq.prog.underlying t=some (.map 9 e)) (b:Nat) (m:M Value) (hm:a.eval mm=.map (some b)) (bU:SM w b m) (hn:m.length<maxLen) (s:ByteArray) (val:Value) (hx:a.eval x=.string s) (hv:a.eval v=val) (hs:s.size<=maxLen)
 (hK:∀w',SM w' b (m.put s.data.toList val)->w.mapTurned w' b->wpList Tq.prog ops Q rest (a.put o.dst undef) w'):wpList Tq.prog ops Q (o::rest) a w:=by
 obtain ⟨dst,op,type,pos,after,guard⟩:=o;simp only at dC hg hK;subst dC;have h:=store (o:=⟨dst,.mapUpdate t mm x v,type,pos,after,guard⟩) hg mm x v t rfl e ht b m hm bU hn s val hx hv hs hK;unfold wpList at h ⊢;unfold Oper.wp Oper.asks at h ⊢;rw [Mg];exact h
end Mp
namespace Qu
open Tx Sp Wg Rd Bk Mp
theorem uk (n:B):∀(l seen:List B),news seen (l++[n])=news seen l++(if n∈seen++news seen l then [] else [n])
 |[],seen=>by
  simp only [List.nil_append,news];by_cases h:seen.contains n=true
  ·rw [if_pos h];simp at h;simp [h]
  ·rw [if_neg h];simp at h;simp [h]
 |x::l,seen=>by
  by_cases h:seen.contains x=true
  ·have e1:∀r,news seen (x::r)=news seen r:=λr=>by rw [news,if_pos h]
   simp only [List.cons_append,e1];exact uk n l seen
  ·have e1:∀r,news seen (x::r)=x::news (seen++[x]) r:=λr=>by rw [news,if_neg h]
   simp only [List.cons_append,e1,uk n l (seen++[x])];simp
def QV (w:World) (B0:Nat) (v:Value) (l:List B):Prop:=∃g o cap,v=.slice (some ⟨g,o,none⟩) l.length cap/\l.length<=cap/\cap<=maxLen/\B0<=g/\g<w.heap.size/\
 (0<cap->∃cur,w.heap[g]? =some (.cells cur 9 (0,0))/\o+cap<=cur.size/\∀i x,l[i]? =some x->cur[o+i]? =some (av x))
theorem QV.aA {S:Nat->Prop} {w w':World} {B0:Nat} {v:Value} {l:List B} (h:QV w B0 v l) (hc:aj S w w') (hn:∀k,v.ownBlock=some k->¬S k):QV w' B0 v l:=by obtain ⟨g,o,cap,rfl,h1,h2,h3,h4,h5⟩:=h;refine ⟨g,o,cap,rfl,h1,h2,h3,Nat.lt_of_lt_of_le h4 hc.size,λh0=>?_⟩;obtain ⟨cur,c1,c2,c3⟩:=h5 h0;exact ⟨cur,(hc.block g h4 (hn g rfl)).trans c1,c2,c3⟩
theorem QV.block {w:World} {B0:Nat} {v:Value} {l:List B} (h:QV w B0 v l):∃g,v.ownBlock=some g/\B0<=g/\g<w.heap.size:=by obtain ⟨g,o,cap,rfl,h1,h2,h3,h4,h5⟩:=h;exact ⟨g,rfl,h3,h4⟩
theorem QV.tail {w:World} {B0:Nat} {g o cap:Nat} {x:B} {l:List B} {n:Nat} (h:QV w B0 (.slice (some ⟨g,o,none⟩) n cap) (x::l)):n=l.length+1/\1<=cap/\w.cell? ⟨g,o,none⟩=some (av x)/\
 QV w B0 (.slice (if cap - 1=0 then some ⟨g,o,none⟩ else some ⟨g,o+1,none⟩) l.length (cap - 1)) l:=by
 obtain ⟨g',o',fM,e,h1,h2,h3,h4,h5⟩:=h;injection e with e1 e2 e3;injection e1 with e1;injection e1 with e1 e4;subst e1 e2 e3 e4;simp only [List.length_cons] at h1;obtain ⟨cur,c1,c2,c3⟩:=h5 (by omega);refine ⟨rfl,by omega,?_,?_⟩
 ·have:=c3 0 x rfl;rw [Nat.add_zero] at this;simpa [World.cell?,c1] using this
 ·by_cases h0:cap - 1=0
  ·rw [if_pos h0];exact ⟨g,o,cap - 1,rfl,by omega,by omega,h3,h4,λe=>by omega⟩
  ·rw [if_neg h0];refine ⟨g,o+1,cap - 1,rfl,by omega,by omega,h3,h4,λ_=>⟨cur,c1,by omega,λi y hy=>?_⟩⟩;rw [Nat.add_assoc,Nat.add_comm 1 i];exact c3 (i+1) y hy
theorem QV.aFl {w:World} {B0:Nat} {v:Value} {l:List B} (h:w.ownsRow B0 9 1 v l.length (l.map av)) (bA:l≠[]):QV w B0 v l:=by
 obtain ⟨hl,hc⟩:=h;rcases hc with ⟨_,h0⟩|⟨g,cap,cur,rfl,h1,h2,h3,h4,h5,h6⟩
 ·exact absurd (List.eq_nil_of_length_eq_zero h0) bA
 ·refine ⟨g,0,cap,rfl,h3,h4,h1,lt_of_block h2,λ_=>⟨cur,h2,by rw [h5];omega,λi x hx=>?_⟩⟩;have hi:(l.map av)[i]? =some (av x):=by rw [List.getElem?_map,hx];rfl
  rw [<-h6,Nat.mul_one,List.getElem?_take] at hi;split at hi
  ·rw [Nat.zero_add,<-Array.getElem?_toList];exact hi
  ·cases hi
def Seen (w:World) (b:Nat) (seen:List B):Prop:=∃m:M Value,SM w b m/\m.length<=seen.length/\∀k,(M.get m k).getD (.int .i64 0)=if k∈seen then .int .i64 1 else .int .i64 0
theorem ZW {α:Type} (m:M α) (k x:B) (v:α):M.get (M.put m k v) x=if x=k then some v else M.get m x:=by
 have bG:∀(p:B×α) (m:M α) (k:B),M.get (p::m) k=if p.1=k then some p.2 else M.get m k:=by
  intro p m k;unfold M.get;rw [List.find?_cons];by_cases h:p.1=k
  ·simp [h]
  ·have:(p.1==k)=false:=by simpa using h
   simp [this,h]
 have aCZ:∀(m:M α),(∀p∈m,p.1≠k)->M.get (M.ins k v m) x=if x=k then some v else M.get m x:=by
  intro m
  induction m with
  |nil=>intro _;simp only [M.ins];rw [bG];by_cases e:x=k<;>simp [e,M.get];exact λh=>e h.symm
  |cons q m ih=>
   intro h;unfold M.ins;split
   ·rw [bG];simp only;by_cases e:x=k
    ·simp [e]
    ·rw [if_neg (λa=>e a.symm),if_neg e]
   ·rw [bG,bG,ih (λp hp=>h p (List.mem_cons_of_mem _ hp))];by_cases e:x=k
    ·subst e;rw [if_neg (h q (List.mem_cons_self ..)),if_pos rfl,if_pos rfl]
    ·rw [if_neg e,if_neg e]
 have Jt:∀(m:M α),x≠k->M.get (M.del m k) x=M.get m x:=by
  intro m hx;unfold M.del
  induction m with
  |nil=>rfl
  |cons p m ih=>
   by_cases h:p.1=k
   ·rw [List.filter_cons_of_neg (by simp [h]),ih,bG,if_neg (λa=>hx (a.symm.trans h))]
   ·rw [List.filter_cons_of_pos (by simp [h]),bG,bG,ih]
 unfold M.put;rw [aCZ _ (λp hp=>by have:=(List.mem_filter.1 hp).2;simpa using this)];by_cases e:x=k
 ·rw [if_pos e,if_pos e]
 ·rw [if_neg e,if_neg e,Jt m e]
theorem aB3 {α:Type} (m:M α) (k:B) (v:α):(M.put m k v).length<=m.length+1:=Bk.OH m k v
theorem Seen.put {w':World} {b:Nat} {seen:List B} {m:M Value} (hm:m.length<=seen.length/\∀k,(M.get m k).getD (.int .i64 0)=if k∈seen then .int .i64 1 else .int .i64 0) {n:B} (h:SM w' b (M.put m n (.int .i64 1))):Seen w' b (seen++[n]):=by
 refine ⟨_,h,?_,λk=>?_⟩
 ·have:=aB3 m n (.int .i64 1);simp only [List.length_append,List.length_singleton];omega
 ·rw [ZW];by_cases e:k=n
  ·subst e;simp
  ·rw [if_neg e,hm.2 k];by_cases h:k∈seen<;>simp [h,e]
theorem Seen.aA {S:Nat->Prop} {w w':World} {b:Nat} {seen:List B} (h:Seen w b seen) (hc:aj S w w') (hb:¬S b):Seen w' b seen:=by obtain ⟨m,h1,h2⟩:=h;exact ⟨m,h1.block (hc.block b h1.lt hb),h2⟩
end Qu
namespace De
open Tx Sp Wg Rd Bk Wi Se Rx Mp
theorem lS {t:B} {o:Tx.Obj} (h:Tx.parse t=some o):bE t=o.ids/\kindOf t=o.kind:=by unfold bE kindOf;rw [h];exact ⟨rfl,rfl⟩
theorem zm (w:World) (t:B) (o:Tx.Obj) (b:Nat) (n:Value) (hp:Tx.parse t=some o) (h2:nE w b (blT o.kind) (av t) n) (hr:w.ownsRow 0 9 1 n o.ids.length (o.ids.map av)) (hl:o.ids.length<1099511627776):
 Calls Tq.prog 234 #[.pointer (some ⟨b,0,none⟩)] w λe w'=>∃v',e=.returned v'/\w'.ownsRow w.heap.size 9 1 v' (bE t).length ((bE t).map av)/\Below w.heap.size w w':=by
 rw [(lS hp).1];exact Uz b _ _ n o.ids 0 w hl h2 hr
theorem lY (c:UInt8):∀l:B,(split c l).length<=l.length+1
 |[]=>Nat.le_refl _
 |x::r=>by
  unfold split;have ih:=lY c r;split
  ·simp only [List.length_cons];omega
  ·split
   ·simp
   ·rename_i p ps e;rw [e] at ih;simp only [List.length_cons] at ih ⊢;omega
theorem AA:∀(l:List B) (last:B) (r:List B),entries last l=some r->r.length=l.length
 |[],_,r,h=>by unfold entries at h;obtain rfl:=Option.some.inj h;rfl
 |e::l,last,r,h=>by
  unfold entries at h;split at h
  ·rw [Option.map_eq_some_iff] at h;obtain ⟨r',h1,rfl⟩:=h;simp only [List.length_cons,AA l _ r' h1]
  ·cases h
theorem RG (c:UInt8):∀l:B,(Tx.cut c l).2.1.length<=l.length
 |[]=>Nat.le_refl _
 |x::r=>by
  unfold Tx.cut;have:=RG c r;split
  ·simp
  ·simp only [List.length_cons];omega
theorem BB {t:B} {o:Tx.Obj} (h:Tx.parse t=some o):o.ids.length<=t.length+3:=by
 unfold Tx.parse at h;simp only at h;split at h
 ·split at h
  ·split at h
   ·obtain rfl:=Option.some.inj h;simp
   ·cases h
  ·split at h
   ·rw [Option.map_eq_some_iff] at h;obtain ⟨l,hl,rfl⟩:=h;unfold tree at hl;split at hl
    ·obtain rfl:=Option.some.inj hl;simp
    ·have:=AA _ _ _ hl;have:=lY 44 (Tx.cut 32 t).2.1;have:=RG 32 t;simp only;omega
   ·split at h
    ·rw [Option.map_eq_some_iff] at h;obtain ⟨l,hl,rfl⟩:=h;unfold ji at hl;simp only at hl;split at hl
     ·split at hl
      ·obtain rfl:=Option.some.inj hl;simp
      ·split at hl
       ·rename_i hc;obtain rfl:=Option.some.inj hl;simp only [Bool.and_eq_true,decide_eq_true_eq] at hc;simp only [List.length_cons];omega
       ·cases hl
     ·cases hl
    ·cases h
 ·cases h
theorem Ob.Bl {w:World} {t:B} {v:Value} (h:Ob w t v):(bE t).length<=16777218:=by obtain ⟨o,b,n,h1,h2,h3,h4,h5⟩:=h;rw [(lS h1).1];have:=BB h1;omega
theorem Lj (w:World) (st mo mr pb mw:Nat) (μ:Int) (S:St) (cv:Value) (p:M B) (cl:Bool) (k:ByteArray) (hS:qZ w st mo mr μ S) (hP:kK w pb mw cv p cl) (hk:k.size<=maxLen):
 Calls Tq.prog 88 #[aG st,aG pb,.string k] w λe w'=>∃v,e=.returned v/\w'.ownsRow w.heap.size 9 1 v (Sp.names S p k.data.toList).length ((Sp.names S p k.data.toList).map av)/\Below w.heap.size w w':=by
 have Fi:=z36 (sP w st mo mr pb mw μ S cv p cl k hS hP hk);have hn:Sp.names S p k.data.toList=match Sp.find S p k.data.toList with|some t=>bE t|none=>[]:=rfl
 rw [hn];generalize Sp.find S p k.data.toList=fo at Fi ⊢;clear hS hP hk hn;unfold aG at Fi ⊢;have mN:=YI;go_enter Tq.func88,Tryz.ntmps88;go_wp2_with fail;refine Fi.out.mono ?_;rintro e w' ⟨⟨v,rfl,hv⟩,rfl⟩;cases fo with
 |none=>obtain rfl:v=.nilIface:=hv;go_wp2_with fail;go_ret;exact ⟨_,rfl,World.ownsRow_nil _ _ _ _,Below.refl _ _⟩
 |some t=>have hf:=Ob.Bl hv;obtain ⟨o,b,n,h1,rfl,h3,h4,h5⟩:=hv;rw [(lS h1).1] at hf;have N:=z36 (zm w' t o b n h1 h3 h4 (by omega));clear h1 h3 h4 h5;unfold aG;go_wp2_with fail;refine N.out.mono ?_;rintro e w2 ⟨v',rfl,ay,hb⟩;have R:=z36 (And.intro ay hb);clear ay hb;go_wp2_with fail;go_ret;exact ⟨_,rfl,R.out⟩
theorem YB (w:World) (bs bp st mo mr pb mw:Nat) (μ:Int) (S:St) (cv:Value) (p:M B) (cl:Bool) (k:ByteArray) (hS:qZ w st mo mr μ S) (hP:kK w pb mw cv p cl) (hk:k.size<=maxLen) (h1:w.cell? ⟨bs,0,none⟩=some (aG st)) (h2:w.cell? ⟨bp,0,none⟩=some (aG pb)):
 Calls Tq.prog 232 #[.string k,.pointer (some ⟨bs,0,none⟩),.pointer (some ⟨bp,0,none⟩)] w λe w'=>∃v,e=.returned v/\w'.ownsRow w.heap.size 9 1 v (Sp.names S p k.data.toList).length ((Sp.names S p k.data.toList).map av)/\Below w.heap.size w w':=by
 have C:=z36 (Lj w st mo mr pb mw μ S cv p cl k hS hP hk);clear hS hP hk;unfold aG at h1 h2 C;go_enter Tq.func232,Tryz.ntmps232;go_wp2_with fail;refine C.out.mono ?_;rintro e w2 ⟨v',rfl,ay,hb⟩;have R:=z36 (And.intro ay hb);clear ay hb h1 h2;go_wp2_with fail;go_ret;exact ⟨_,rfl,R.out⟩
theorem tJ (k:UInt8) (hk:k=98\/k=116\/k=99) (a:Addr) (w:World):(Instr.typeAssert (.iface (ED k) (.pointer (some a))) 106 259 true).run Tq.prog w=.ok (.tuple #[if k=99 then .pointer (some a) else .pointer none,.bool (k==99)]) w:=by rcases hk with rfl|rfl|rfl<;>kernel_rfl
theorem HV (w:World):(Instr.typeAssert .nilIface 106 259 true).run Tq.prog w=.ok (.tuple #[.pointer none,.bool false]) w:=(by kernel_rfl)
theorem EB (k:UInt8) (hk:k=98\/k=116\/k=99) (a:Addr) (w:World):(Instr.typeAssert (.iface (ED k) (.pointer (some a))) 106 257 true).run Tq.prog w=.ok (.tuple #[if k=116 then .pointer (some a) else .pointer none,.bool (k==116)]) w:=by rcases hk with rfl|rfl|rfl<;>kernel_rfl
theorem aDs (w:World):(Instr.typeAssert .nilIface 106 257 true).run Tq.prog w=.ok (.tuple #[.pointer none,.bool false]) w:=(by kernel_rfl)
theorem qj {t:B} {o:Tx.Obj} (h:Tx.parse t=some o):o.kind=98\/o.kind=116\/o.kind=99:=by
 unfold Tx.parse at h;simp only at h;split at h
 ·split at h
  ·split at h
   ·obtain rfl:=Option.some.inj h;exact .inl rfl
   ·cases h
  ·split at h
   ·rw [Option.map_eq_some_iff] at h;obtain ⟨l,hl,rfl⟩:=h;exact .inr (.inl rfl)
   ·split at h
    ·rw [Option.map_eq_some_iff] at h;obtain ⟨l,hl,rfl⟩:=h;exact .inr (.inr rfl)
    ·cases h
 ·cases h
end De
section
open VW
namespace Tz
open Tx Sp Wg
theorem aC8 (s:ByteArray) (a b:Nat):Value.string (s.extract a b)=av ((s.data.toList.drop a).take (b - a)):=by unfold av;congr 1;apply ByteArray.ext;rw [ByteArray.data_extract];apply Array.toList_inj.1;simp [Array.toList_extract,List.extract_eq_drop_take]
structure LN (r:B) (fr k:Nat) (ls:List B):Prop where
 fk:fr<=k
 eq:Rc.lines r=ls++Rc.dW ((r.drop fr).take (k - fr)) (r.drop k)
theorem LN.nl {r:B} {fr k:Nat} {ls:List B} (h:LN r fr k ls) (hk:k<r.length) (e:r[k]=10):LN r (k+1) (k+1) (ls++[(r.drop fr).take (k - fr)]):=by refine ⟨Nat.le_refl _,?_⟩;rw [h.eq,List.drop_eq_getElem_cons hk,Rc.dW,if_pos e];simp
theorem LN.no {r:B} {fr k:Nat} {ls:List B} (h:LN r fr k ls) (hk:k<r.length) (e:r[k]≠10):LN r fr (k+1) ls:=by
 have hf:=h.fk;refine ⟨by omega,?_⟩;rw [h.eq,List.drop_eq_getElem_cons hk,Rc.dW,if_neg e];congr 2;have:k+1 - fr=(k - fr)+1:=by omega
 rw [this,List.take_succ];congr 1;rw [List.getElem?_drop,show fr+(k - fr)=k by omega,List.getElem?_eq_getElem hk];rfl
theorem LN.done {r:B} {fr k:Nat} {ls:List B} (h:LN r fr k ls) (hk:r.length<=k):Rc.lines r=ls:=by rw [h.eq,List.drop_eq_nil_of_le hk];simp [Rc.dW]
structure LI (w wr:World) (r:B) (fr k:Nat) (v:Value) (ls:List B):Prop where
 ln:LN r fr k ls
 row:wr.ownsRow w.heap.size 9 1 v ls.length (ls.map av)
 Bl:ls.length<=k
 bel:Below w.heap.size w wr
theorem UI (r:ByteArray) (w:World) (hs:r.size<=1099511627776):
 Calls Tq.prog 49 #[.string r] w λe w'=>∃v,e=.returned v/\w'.ownsRow w.heap.size 9 1 v (Rc.lines r.data.toList).length ((Rc.lines r.data.toList).map av)/\Below w.heap.size w w':=by
 obtain ⟨i0,hi,uw,wQ,wP⟩:=info_parts Tryz.pI;go_enter Tq.func49,Tryz.ntmps49;go_wp2
 go_loopw [3,4,5] (λv f i wr=>∃(fr k:Nat) (ls:List B),f=.int .i64 fr/\i=.int .i64 k/\k<=r.size/\fr<=k/\Hid (LI w wr r.data.toList fr k v ls)) (λ_ _ i _=>r.size - (intOf i).toNat)
 case atStart=>exact ⟨0,0,[],rfl,rfl,Nat.zero_le _,Nat.le_refl _,z36 ⟨⟨Nat.le_refl _,rfl⟩,World.ownsRow_nil _ _ _ _,Nat.le_refl _,Below.refl _ _⟩⟩
 case round=>
  obtain ⟨fr,k,ls,rfl,rfl,hk,u6,HI⟩:=hrel;by_cases aI:k<r.size
  ·have hl:k<r.data.toList.length:=by simpa using aI
   by_cases hc:r[k]=10
   ·have t1:((r[k].toNat:Int)==10)=true:=by rw [hc];rfl
    have X3:=z36 hc;clear hc;have ay:=HI.out.row;have Zy:=HI.out.Bl;have Jh:=HI.out.bel.size;go_wp2_with (first
     |(at_builtin;refine wpList_append_own_at _ rfl _ _ 34 rfl w.heap.size 9 i0 (.string ByteArray.empty) 1 16 ((Tq.underlying 34).trans Tryz.underlying34) hi uw wQ wP rfl (by decide) _ _ _ rfl (ay.alloc _) ⟨wr.heap.size,0,none⟩ 1 1 [.string (r.extract fr k)] rfl rfl ?c1 ?c2 ?c3 ?c4 ?c5 ?_)
     |go_in)
    case c1=>
     intro j u hj
     match j,hj with
     |0,hj=>simp at hj;subst hj;simp [Addr.add]
    case c2=>intro u hu;simp at hu;subst hu;rfl
    case c3=>unfold maxLen;omega
    case c4=>omega
    case c5=>simp;omega
    intro v' w4 jD aX _ oL;have HB4:=z36 ((HI.out.bel.alloc Jh (.cells #[Value.string (r.extract fr k)] 9)).grown aX (by simp;omega) (λk h=>(ay.lt k h).1));have gG:w4.ownsRow w.heap.size 9 1 v' (ls++[(r.data.toList.drop fr).take (k - fr)]).length ((ls++[(r.data.toList.drop fr).take (k - fr)]).map av):=by rw [List.map_append,List.map_cons,List.map_nil,<-aC8,List.length_append];exact jD
    have G8:=z36 (LI.mk (HI.out.ln.nl hl (by show r.data[k]=10;exact X3.out)) gG (by simp;omega) HB4.out);clear jD aX oL ay HB4 gG;go_wp2
    go_roundw
    case rel=>exact ⟨k+1,k+1,_,by go_num,by go_num,by omega,by omega,G8⟩
    case measure=>simp [intOf];omega
   ·have t1:((r[k].toNat:Int)==10)=false:=by
     rw [beq_eq_false_iff_ne];intro h;exact hc (UInt8.toNat_inj.1 (by simpa using (by omega:r[k].toNat=10)))
    have X3:=z36 hc;clear hc;go_wp2
    go_roundw
    case rel=>exact ⟨fr,k+1,ls,rfl,by go_num,by omega,by omega,z36 ⟨HI.out.ln.no hl (by show ¬r.data[k]=10;exact X3.out),HI.out.row,by have:=HI.out.Bl;omega,HI.out.bel⟩⟩
    case measure=>simp [intOf];omega
  ·go_wp2;go_ret;have e:=HI.out.ln.done (by simp;omega);rw [e];exact ⟨_,rfl,HI.out.row,HI.out.bel⟩
end Tz
end
section
open VW
namespace Tz
open Tx Sp Wg
def Di (v n:Int):Int:=Int.tmod (if v<0 then -(v+1) else v) n
theorem Ug (v:Int) {n:Nat} (hn:0<n):∃c:Nat,c<n/\Di v n=c:=by
 obtain ⟨x,hx⟩:∃x:Nat,(if v<0 then -(v+1) else v)=x:=⟨(if v<0 then -(v+1) else v).toNat,by split<;>omega⟩
 refine ⟨x%n,Nat.mod_lt _ hn,?_⟩;unfold Di;rw [hx];exact (Int.ofNat_tmod x n).symm
theorem Yh (v:Int) (n:Nat) (w:World) (h1:-9223372036854775808<=v) (h2:v<9223372036854775808) (hn:0<n) (h5:n<=5):
 Calls Tq.prog 27 #[.int .i64 v,.int .i64 n] w λe w'=>e=.returned (.int .i64 (Di v n))/\w'=w:=by
 go_enter Tq.func27,Tryz.ntmps27;by_cases hv:v<0
 ·have e:Di v n=Int.tmod (-(v+1)) n:=by unfold Di;rw [if_pos hv]
  rw [e];go_wp2;go_ret;rw [Int.neg_tmod];exact ⟨rfl,rfl⟩
 ·have e:Di v n=Int.tmod v n:=by unfold Di;rw [if_neg hv]
  rw [e];go_wp2;go_ret;rw [Int.tmod_eq_emod_of_nonneg hv];exact ⟨rfl,rfl⟩
theorem Yp (l:B) (r:List B):Rc.rq (l::r)=if decide (3<l.length)&&(l.take 3==Rc.pOk) then (Rc.rq r).map (·+1) else if decide (l.length<3)||!(l.take 3==Rc.pNg) then none else Rc.rq r:=rfl
structure AI (t:List B) (i cnt:Nat):Prop where
 le:i<=t.length
 cl:cnt<=i
 eq:Rc.rq t=(Rc.rq (t.drop i)).map (·+cnt)
theorem aQe (x:ByteArray):(x.extract 0 3).toList=x.data.toList.take 3:=by rw [ByteArray.toList_eq,ByteArray.data_extract,Array.toList_extract,List.extract_eq_take_drop];simp
theorem AI.ok {t:List B} {k cnt:Nat} (h:AI t k cnt) (aI:k<t.length) (e:Rc.rq (t.drop k)=(Rc.rq (t.drop (k+1))).map (·+1)):AI t (k+1) (cnt+1):=
 ⟨aI,by have:=h.cl;omega,by rw [h.eq,e];cases Rc.rq (t.drop (k+1)) with
   |none=>rfl
   |some x=>simp;omega⟩
theorem AI.ng {t:List B} {k cnt:Nat} (h:AI t k cnt) (aI:k<t.length) (e:Rc.rq (t.drop k)=Rc.rq (t.drop (k+1))):AI t (k+1) cnt:=⟨aI,by have:=h.cl;omega,by rw [h.eq,e]⟩
theorem AI.bad {t:List B} {k cnt:Nat} (h:AI t k cnt) (e:Rc.rq (t.drop k)=none):Rc.rq t=none:=by rw [h.eq,e];rfl
theorem VC (r:ByteArray) (w:World) (hs:r.size<=1099511627776) (h:B) (t:List B) (hL:Rc.lines r.data.toList=h::t) (ht:t≠[]) (htl:t.length<=1000000):
 Calls Tq.prog 30 #[.string r] w λe w'=>e=.returned (.tuple #[.bool (Rc.kZ r.data.toList).1,.bool (Rc.kZ r.data.toList).2])/\Below w.heap.size w w':=by
 have hA:Rc.kZ r.data.toList=match Rc.rq t with
  |none=>(false,false)
  |some n=>(decide (0<n),(h==Rc.kD)&&(n==0||n==t.length)):=by
  unfold Rc.kZ;rw [hL];cases t with
  |nil=>exact absurd rfl ht
  |cons y t=>rfl
 generalize Rc.kZ r.data.toList=A at hA ⊢;replace hA:=z36 hA;have C:=UI r w hs;rw [hL] at C;have aTU:0<t.length:=List.length_pos_iff.2 ht;clear hL ht;replace C:=z36 C;go_enter Tq.func30,Tryz.ntmps30;go_wp2_with fail;refine C.out.mono ?_;rintro e w' ⟨v,rfl,ay,hb⟩;obtain ⟨g,cap,rfl⟩:∃g cap,v=.slice (some ⟨g,0,none⟩) (h::t).length cap:=by
  rcases ay.2 with ⟨_,h0⟩|⟨g,cap,cur,e,_⟩
  ·simp at h0
  ·exact ⟨g,cap,e⟩
 have cz:∀i x,(h::t)[i]? =some x->w'.cell? ⟨g,i,none⟩=some (av x):=λi x hx=>by
  have:=ay.cells (g:=g) rfl i (av x) (by rw [List.getElem?_map,hx];rfl);have e:(Addr.add ⟨g,0,none⟩ i)=⟨g,i,none⟩:=by unfold Addr.add;split<;>simp_all
  rw [e] at this;exact this
 have c0:=cz 0 h rfl;replace cz:=z36 cz;replace hb:=z36 hb;clear ay C;simp only [List.length_cons] at *;go_wp2_with fail
 go_loop [5,6] (λc i=>∃cnt k:Nat,c=.int .i64 cnt/\i=.int .i64 (k+1:Nat)/\k<=t.length/\cnt<=k/\Hid (AI t k cnt)) (λ_ i=>t.length+1 - (intOf i).toNat)
 case atStart=>exact ⟨0,0,rfl,rfl,Nat.zero_le _,Nat.le_refl _,z36 ⟨Nat.zero_le _,Nat.le_refl _,by simp⟩⟩
 case round=>
  obtain ⟨cnt,k,rfl,rfl,hk,nk,HI⟩:=hrel;by_cases aI:k<t.length
  ·have hy:(h::t)[k+1]? =some t[k]:=by simp [aI]
   have ck:=cz.out (k+1) t[k] hy;obtain ⟨yb,hyb⟩:∃yb:ByteArray,av t[k]=.string yb/\yb.data.toList=t[k]:=⟨⟨t[k].toArray⟩,rfl,by simp⟩
   rw [hyb.1] at ck;have aH:Rc.rq (t.drop k)=if (decide (3<(yb.size:Int))&&((yb.extract 0 3).toList==[111,107,32]))=true then (Rc.rq (t.drop (k+1))).map (·+1) else if (decide ((yb.size:Int)<3)||!((yb.extract 0 3).toList==[110,103,32]))=true then none else Rc.rq (t.drop (k+1)):=by
    rw [List.drop_eq_getElem_cons aI,Yp,aQe,hyb.2,<-hyb.2,dx,hyb.2];have e1:decide (3<(yb.size:Int))=decide (3<yb.size):=by rw [decide_eq_decide];omega
    have e2:decide ((yb.size:Int)<3)=decide (yb.size<3):=by rw [decide_eq_decide];omega
    rw [e1,e2];rfl
   replace hyb:=z36 hyb;replace aH:=z36 aH;have step1:=λ(e:Rc.rq (t.drop k)=(Rc.rq (t.drop (k+1))).map (·+1))=>HI.out.ok aI e;have xE:=λ(e:Rc.rq (t.drop k)=Rc.rq (t.drop (k+1)))=>HI.out.ng aI e;have xD:=λ(e:Rc.rq (t.drop k)=none)=>HI.out.bad e;have ST:=z36 (And.intro step1 (And.intro xE xD));clear step1 xE xD HI hy;go_wp2_with fail
   all_goals first
    |(refine ⟨⟨cnt+1,k+1,by go_num,by go_num,by omega,by omega,z36 (ST.out.1 ?_)⟩,by simp [intOf];omega⟩;rw [aH.out];simp [*];done)
    |(refine ⟨⟨cnt,k+1,by go_num,by go_num,by omega,by omega,z36 (ST.out.2.1 ?_)⟩,by simp [intOf];omega⟩;rw [aH.out,if_neg (by intro hc;simp only [Bool.and_eq_true,decide_eq_true_eq] at hc;first|omega|exact absurd hc.2 (by simp [*])),if_neg (by intro hc;simp only [Bool.or_eq_true,decide_eq_true_eq] at hc;rcases hc with hc|hc<;>first|omega|exact absurd hc (by simp [*]))];done)
    |(have e:=hA.out;rw [ST.out.2.2 (by rw [aH.out,if_neg (by intro hc;simp only [Bool.and_eq_true,decide_eq_true_eq] at hc;first|omega|exact absurd hc.2 (by simp [*])),if_pos (by simp only [Bool.or_eq_true,decide_eq_true_eq];first|assumption|(left;omega)|(right;simp [*]))])] at e;subst e;go_ret2;exact ⟨rfl,hb.out⟩)
  ·have e:Rc.rq t=some cnt:=by
    have:=HI.out.eq;rw [List.drop_eq_nil_of_le (by omega)] at this;simpa [Rc.rq] using this
   obtain rfl:k=t.length:=by omega
   replace e:=z36 e;clear HI;have hwo:(h==Rc.kD)=((⟨h.toArray⟩:ByteArray).toList==[117,110,112,97,99,107,32,111,107]):=by rw [ByteArray.toList_eq];rfl
   replace hwo:=z36 hwo;unfold av at c0;generalize (⟨h.toArray⟩:ByteArray)=ZK at c0 hwo;go_wp2_with fail
   all_goals
    have eA:=hA.out;rw [e.out] at eA;simp only [hwo.out] at eA;subst eA
    go_ret2
    refine ⟨?_,hb.out⟩
    first
     |(simp [*];done)
     |(simp [*];rw [Bool.eq_iff_iff];simp;omega)
end Tz
end
end
end Go.Proofs.YtmanpggemmgnnaaGreatDoor
