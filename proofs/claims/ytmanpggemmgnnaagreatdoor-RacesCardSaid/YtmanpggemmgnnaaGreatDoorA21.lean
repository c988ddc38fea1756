/- Races: a part. Conditions: none. -/
import Derived.Maps.Ext
import Derived.Maps.RangeWalk
import Derived.Sort.KeysCollected
import Derived.Test.YtmanpggemmgnnaaGreatDoorA02
import Derived.Test.YtmanpggemmgnnaaGreatDoorA09
import Derived.Test.YtmanpggemmgnnaaGreatDoorA18
set_option linter.all false
namespace Go.Proofs.YtmanpggemmgnnaaGreatDoor
noncomputable section
open Go Go.Maps
namespace Mp
open Tx Sp
theorem lt_eq:∀a b:B,bytesBefore a b=si a b
 |[],[]=>rfl
 |[],_::_=>by simp [bytesBefore,si]
 |_::_,[]=>by simp [bytesBefore,si]
 |a::r,b::s=>by
  simp only [bytesBefore,lt_eq r s,si];rw [Bool.eq_iff_iff];simp only [Bool.or_eq_true,decide_eq_true_eq,Bool.and_eq_true,beq_iff_eq,List.cons_lt_cons_iff]
def RV (v:Value):Option (DataW Value×List MemPlace):=some (.held v,[])
def Km (p:B×Value):Lit×DataW Value:=(.string p.1,.held p.2)
def JV (m:M Value):DataW Value:=.map (m.map Km)
theorem insert_eq (k:B) (v:Value):∀m:M Value,DataW.insert (Km (k,v)) (m.map Km)=(M.ins k v m).map Km
 |[]=>rfl
 |p::r=>by
  simp only [List.map_cons,DataW.insert,M.ins];have:(Km (k,v)).1.before (Km p).1=si k p.1:=lt_eq k p.1;rw [this];cases si k p.1
  ·simp only [Bool.false_eq_true,if_false,List.map_cons,insert_eq k v r]
  ·rfl
theorem filter_eq (k:B) (m:M Value):(m.map Km).filter (λp=>!p.1.sameKey (.string k))=(M.del m k).map Km:=by unfold M.del;rw [List.filter_map];rfl
theorem put_eq (m:M Value) (k:B) (v:Value):(JV m).put (.string k) (.held v)=JV (m.put k v):=by show DataW.map _=DataW.map _;rw [filter_eq,show ((Lit.string k,DataW.held v):Lit×DataW Value)=Km (k,v) from rfl,insert_eq];rfl
theorem del_eq (m:M Value) (k:B):(JV m).del (.string k)=JV (m.del k):=by show DataW.map _=DataW.map _;rw [filter_eq]
theorem find_eq (m:M Value) (k:B):(m.map Km).find? (λp=>p.1.sameKey (.string k))=(m.find? λp=>p.1==k).map Km:=by rw [List.find?_map];rfl
theorem yC (m:M Value) (k:B) (z:DataW Value):(JV m).atKey (.string k) z=match m.get k with|some v=>.held v|none=>z:=by unfold DataW.atKey JV;simp only [find_eq];unfold M.get;cases m.find? λp=>p.1==k<;>rfl
theorem aCT (m:M Value) (k:B):Maps.has (JV m) (.string k)=(m.get k).isSome:=by show (m.map Km).any _=_;rw [List.any_map];unfold M.get;rw [Option.isSome_map,Bool.eq_iff_iff,List.find?_isSome,List.any_eq_true];exact Iff.rfl
theorem CY (m:M Value):Maps.size (JV m)=m.length:=by show (m.map Km).length=_;simp
theorem L6:Keyed Tq.prog 9:=string_keyed ((Tq.underlying 9).trans Tryz.underlying9)
theorem DK {s:ByteArray} (h:s.size<=maxLen):keyOf Tq.prog 9 (.string s)=some (.string s.data.toList):=Go.WideMaps.keyOf_string_mk ((Tq.underlying 9).trans Tryz.underlying9) h
def SM (w:World) (b:Nat) (m:M Value):Prop:=w.ownsMap Tq.prog 9 RV b m.length (JV m)
section
variable {w w':World} {b:Nat} {m:M Value}
theorem SM.of {n:Nat} (h:w.ownsMap Tq.prog 9 RV b n (JV m)):SM w b m:=by
 obtain ⟨es,clock,hb,F,hs,hD⟩:=h;refine ⟨es,clock,hb,F,?_,hD⟩;have:=congrArg Maps.size hD;rw [CY] at this;have e:Maps.size (DataW.map ((es.toList.map (Go.WideElems.rg Tq.prog 9 RV)).foldr DataW.insert []))=es.size:=by simp [Maps.size,length_sorted]
 rw [e] at this;omega
theorem SM.made (w:World):SM (w.alloc (.map #[] 0)) w.heap.size []:=World.ownsMap_made w Tq.prog 9 RV
theorem SM.block (h:SM w b m) (e:w'.heap[b]? =w.heap[b]?):SM w' b m:=by obtain ⟨es,clock,hb,r⟩:=h;exact ⟨es,clock,e.trans hb,r⟩
theorem SM.lt (h:SM w b m):b<w.heap.size:=World.ownsMap.lt h
theorem SM.keys (h:SM w b m):∀p∈m,p.1.length<=maxLen:=λp hp=>by
 refine strKeys_le (D0:=JV m) h ((Tq.underlying 9).trans Tryz.underlying9) p.1 ?_;show p.1∈(m.map Km).map _;rw [List.map_map];exact List.mem_map.2 ⟨p,hp,rfl⟩
theorem SM.rising (h:SM w b m):m.Pairwise λp q=>si p.1 q.1=true:=by
 obtain ⟨es,hD,hp,_⟩:=World.ownsMap.canon h L6;have:es=m.map Km:=by have:=hD;unfold JV at this;injection this with this;exact this.symm
 subst this;rw [List.pairwise_map] at hp;exact hp.imp λ{p q} h=>by rw [<-lt_eq];exact h
end
section
variable {w:World} {ops:Array Oper} {rest:List Oper} {o:Oper} {a:Act} {Q:Exit->Act->World->Prop}
theorem lookup (hg:o.guard=none) (mm x:Operand) (t:TypeId) (dC:o.op=Op.lookup t mm x false) (e:TypeId) (ht:Tq.prog.underlying t=some (.map 9 e)) {z:Value} (hz:(zeroValue e).run Tq.prog w=.ok z w) (b:Nat) (m:M Value) (hm:a.eval mm=.map (some b)) (bU:SM w b m) (s:ByteArray) (hx:a.eval x=.string s) (hs:s.size<=maxLen)
 (hK:wpList Tq.prog ops Q rest (a.put o.dst ((m.get s.data.toList).getD z)) w):wpList Tq.prog ops Q (o::rest) a w:=by
 refine wpList_plain hg λK' hK'=>?_;obtain ⟨v,ps,bJ,hv⟩:=World.ownsMap.lookup bU L6 ht hz (zd:=.held z) (zp:=[]) rfl (DK hs);have:v=(m.get s.data.toList).getD z:=by
  rw [yC] at hv;unfold RV at hv;cases hh:m.get s.data.toList with
  |none=>rw [hh] at hv;simp at hv;exact hv.1
  |some u=>rw [hh] at hv;simp at hv;exact hv.1
 subst this;unfold Oper.wp;simp [execOp,dC,hm,hx,bJ,Result.andThen];exact hK' _ _ hK
theorem store (hg:o.guard=none) (mm x v:Operand) (t:TypeId) (dC:o.op=Op.mapUpdate t mm x v) (e:TypeId) (ht:Tq.prog.underlying t=some (.map 9 e)) (b:Nat) (m:M Value) (hm:a.eval mm=.map (some b)) (bU:SM w b m) (hn:m.length<maxLen) (s:ByteArray) (val:Value) (hx:a.eval x=.string s) (hv:a.eval v=val) (hs:s.size<=maxLen)
 (hK:∀w',SM w' b (m.put s.data.toList val)->w.mapTurned w' b->wpList Tq.prog ops Q rest (a.put o.dst undef) w'):wpList Tq.prog ops Q (o::rest) a w:=
 wpList_mapUpdate_in w hg mm x v t dC 9 e L6 ht RV b m.length (JV m) hm bU hn (.string s) val (.string s.data.toList) hx hv (DK hs) (.held val) [] rfl λw' h1 h2=>hK w' (SM.of (by rw [<-put_eq];exact h1)) h2
theorem delete (hg:o.guard=none) (mm x:Operand) (t:TypeId) (dC:o.op=Op.call {callee:=Callee.builtin Builtin.delete,args:=#[mm,x],argTypes:=#[t,9]}) (e:TypeId) (ht:Tq.prog.underlying t=some (.map 9 e)) (b:Nat) (m:M Value) (hm:a.eval mm=.map (some b)) (bU:SM w b m) (s:ByteArray) (hx:a.eval x=.string s) (hs:s.size<=maxLen)
 (hK:∀w',SM w' b (m.del s.data.toList)->w.mapTurned w' b->wpList Tq.prog ops Q rest (a.put o.dst (.tuple #[])) w'):wpList Tq.prog ops Q (o::rest) a w:=
 wpList_delete_own w hg mm x t 9 dC e L6 ht RV b m.length (JV m) hm bU (.string s) (.string s.data.toList) hx (DK hs) λw' h1 h2=>hK w' (SM.of (by rw [<-del_eq];exact h1)) h2
def GG (left:B->Bool):Lit->Bool
 | .string k=>left k
 |_=>false
def SR (w:World) (b r:Nat) (m:M Value) (left:B->Bool) (cnt:Nat):Prop:=w.ranges Tq.prog 9 RV b r m.length (JV m) (GG left) cnt
theorem SR.sm {r:Nat} {b:Nat} {m:M Value} {left:B->Bool} {cnt:Nat} (h:SR w b r m left cnt):SM w b m:=World.ranges.owns h
theorem UJ (m:M Value):GG (λk=>(m.get k).isSome)=Maps.has (JV m):=by
 funext l;cases l with
 |string k=>exact (aCT m k).symm
 |_=>show false=(m.map Km).any _;rw [List.any_map];exact (List.any_eq_false.2 (λp _=>by simp [Km,Lit.sameKey])).symm
theorem range (hg:o.guard=none) (mm:Operand) (t:TypeId) (dC:o.op=Op.range t mm) (e:TypeId) (ht:Tq.prog.underlying t=some (.map 9 e)) (b:Nat) (m:M Value) (hm:a.eval mm=.map (some b)) (bU:SM w b m)
 (hK:∀w',SR w' b w.heap.size m (λk=>(m.get k).isSome) m.length->w.grownBy w' none->w'.heap.size=w.heap.size+1->wpList Tq.prog ops Q rest (a.put o.dst (.pointer (some ⟨w.heap.size,0,none⟩))) w'):wpList Tq.prog ops Q (o::rest) a w:=
 wpList_range_own w hg mm t dC 9 e L6 ht RV b m.length (JV m) hm bU λw' h1 h2 h3=>hK w' (by unfold SR;rw [UJ];rw [CY] at h1;exact h1) h2 h3
theorem next (hg:o.guard=none) (it:Operand) (dC:o.op=Op.next it false) (b r:Nat) (m:M Value) (left:B->Bool) (cnt:Nat) (hit:a.eval it=.pointer (some ⟨r,0,none⟩)) (h:SR w b r m left cnt)
 (aLc:cnt=0->(∀k,left k=false)->wpList Tq.prog ops Q rest (a.put o.dst (.tuple #[.bool false])) w)
 (aLa:∀(k:B) (v:Value) (w':World) (aDe:Nat),k.length<=maxLen->left k=true->m.get k=some v->SR w' b r m (λz=>left z&&!(z==k)) aDe->aDe<cnt->
   w.grownBy w' (some r)->(Instr.entry (.pointer (some ⟨r,0,none⟩))).run Tq.prog w'=.ok (.tuple #[.string ⟨k.toArray⟩,v]) w'->wpList Tq.prog ops Q rest (a.put o.dst (.tuple #[.bool true,.string ⟨k.toArray⟩,v])) w'):
 wpList Tq.prog ops Q (o::rest) a w:=by
 refine wpList_next_ranges (α:=Value) (β:=Value) w hg it dC 9 L6 RV id id (λkey _ _=>⟨key,rfl⟩) (λv _ _=>⟨v,rfl⟩) b r m.length (JV m) (GG left) cnt hit h (λh0 hl=>aLc h0 λk=>hl (.string k)) λx c kl y w' aDe aPd yn hv iX BH aI Rn _ hen=>?_;obtain ⟨k,rfl,rfl,hlen⟩:=Maps.keyOf_str ((Tq.underlying 9).trans Tryz.underlying9) aPd;have hy:y=(.held c,[]):=(Option.some.inj hv).symm;subst hy;have iP:m.get k=some c:=by
  have:=iX (.lit (.bool true));rw [yC] at this;cases hh:m.get k with
  |none=>rw [hh] at this;cases this
  |some u=>rw [hh] at this;cases this;rfl
 refine aLa k c w' aDe hlen yn iP ?_ aI Rn hen;unfold SR;have:GG (λz=>left z&&!(z==k))=λz=>GG left z&&!z.sameKey (.string k):=by funext l;cases l<;>simp [GG,Lit.sameKey]
 rw [this];exact BH
end
def Nv (m:M Value) (left:B->Bool) (ss:List B):Prop:=ss.Nodup/\∀x,x∈ss↔((m.get x).isSome=true/\left x=false)
theorem Nv.start (m:M Value):Nv m (λk=>(m.get k).isSome) []:=⟨List.nodup_nil,λx=>by cases h:m.get x<;>simp [h]⟩
theorem Nv.step {m:M Value} {left:B->Bool} {ss:List B} (h:Nv m left ss) {k:B} {v:Value} (hl:left k=true) (hg:m.get k=some v):Nv m (λz=>left z&&!(z==k)) (ss++[k]):=by
 have lu:k∉ss:=λhx=>by have:=((h.2 k).1 hx).2;rw [hl] at this;cases this
 refine ⟨List.nodup_append.2 ⟨h.1,by simp,λa ha b hb=>by simp at hb;subst hb;exact λe=>lu (e▸ha)⟩,λy=>?_⟩;by_cases hy:y=k
 ·subst hy;simp [hg]
 ·simp [h.2 y,hy]
theorem aCd {α:Type} {m:M α} {x:B}:(m.get x).isSome=true↔x∈m.map (·.1):=by
 unfold M.get;rw [Option.isSome_map,List.find?_isSome,List.mem_map];constructor
 ·rintro ⟨p,hp,e⟩;exact ⟨p,hp,by simpa using e⟩
 ·rintro ⟨p,hp,e⟩;exact ⟨p,hp,by simpa using e⟩
theorem nodup_keys {α:Type} {m:M α} (h:m.Pairwise λp q=>si p.1 q.1=true):(m.map (·.1)).Nodup:=by rw [List.Nodup,List.pairwise_map];refine h.imp λ{p q} hpq e=>?_;unfold si at hpq;rw [e] at hpq;simp at hpq;exact absurd hpq (List.lt_irrefl _)
theorem Nv.perm {m:M Value} {left:B->Bool} {ss:List B} (h:Nv m left ss) (hm:m.Pairwise λp q=>si p.1 q.1=true) (hl:∀k,left k=false):ss.Perm (m.map (·.1)):=
 (List.perm_ext_iff_of_nodup h.1 (nodup_keys hm)).2 λx=>by rw [h.2 x,hl,aCd];simp
end Mp
section
open Go.RowKit Go.ChangeMaps
namespace Bk
open Tx Sp Mp Fr
def aM (w:World) (b:Nat) (xs:Array Value) (t:TypeId) (fz:Nat×Nat):Prop:=w.heap[b]? =some (.cells xs t fz)
section
variable {w w':World} {b:Nat} {xs:Array Value} {t:TypeId} {fz:Nat×Nat}
theorem aM.lt (h:aM w b xs t fz):b<w.heap.size:=lt_of_block h
theorem aM.cell (h:aM w b xs t fz) (i:Nat):w.cell? ⟨b,i,none⟩=xs[i]? :=by unfold aM at h;simp [World.cell?,h]
theorem aM.at (h:aM w b xs t fz) {i:Nat} {v:Value} (hi:xs[i]? =some v):w.cell? ⟨b,i,none⟩=some v:=(h.cell i).trans hi
theorem aM.frozen (h:aM w b xs t fz) {i:Nat} (hi:i<fz.1\/fz.2<=i):w.frozen? ⟨b,i,none⟩=false:=by unfold aM at h;simp [World.frozen?,h];omega
theorem aM.set (h:aM w b xs t fz) (i:Nat) (v:Value):aM (w.setCell ⟨b,i,none⟩ v) b (xs.setIfInBounds i v) t fz:=by unfold aM at *;have hb:b<w.heap.size:=lt_of_block h;simp [World.setCell,Array.getElem?_modify,h]
theorem aM.other (h:aM w b xs t fz) {p:Addr} (hp:b≠p.block) (v:Value):aM (w.setCell p v) b xs t fz:=(Below.heap_setCell w p v b hp).trans h
theorem aM.aA {S:Nat->Prop} (h:aM w b xs t fz) (hc:aj S w w') (hn:¬S b):aM w' b xs t fz:=(hc.block b h.lt hn).trans h
theorem aM.new (w:World) (xs:Array Value) (t:TypeId):aM (w.alloc (.cells xs t)) w.heap.size xs t (0,0):=heap_alloc_new w _
theorem aM.ne {b':Nat} {xs':Array Value} {t':TypeId} {jo:Nat×Nat} (h:aM w b xs t fz) (h':aM w b' xs' t' jo) (ht:t≠t'):b≠b':=λe=>by
 subst e;unfold aM at h h';rw [h] at h';injection h' with h';injection h' with _ h' _;exact ht h'
theorem aM.dV {b':Nat} {m:M Value} (h:aM w b xs t fz) (h':SM w b' m):b≠b':=λe=>by
 subst e;obtain ⟨es,clock,hb,_⟩:=h';unfold aM at h;rw [h] at hb;cases hb
end
theorem dY {w w':World} {b:Nat} (h:w.mapTurned w' b):aj (·=b) w w':=by
 obtain ⟨es,clock,qY,aQm,hb,rfl⟩:=h;refine ⟨rfl,rfl,rfl,?_,λk hk hn=>?_⟩
 ·simp [setBlock]
 ·simp only [setBlock,Array.getElem?_setIfInBounds];rw [if_neg (λe=>hn e.symm)]
inductive q8 {α β:Type} (R:α->β->Prop):M α->M β->Prop
 |nil:q8 R [] []
 |cons {k:B} {x:α} {y:β} {m:M α} {n:M β}:R x y->q8 R m n->q8 R ((k,x)::m) ((k,y)::n)
namespace q8
variable {α β:Type} {R:α->β->Prop} {m:M α} {n:M β}
theorem length (h:q8 R m n):m.length=n.length:=by induction h with|nil=>rfl|cons _ _ ih=>simp [ih]
theorem keys (h:q8 R m n):m.map (·.1)=n.map (·.1):=by induction h with|nil=>rfl|cons _ _ ih=>simp [ih]
theorem mono {R':α->β->Prop} (h:q8 R m n) (hr:∀k x y,(k,x)∈m->R x y->R' x y):q8 R' m n:=by
 induction h with
 |nil=>exact .nil
 |cons r _ ih=>exact .cons (hr _ _ _ (List.mem_cons_self ..) r) (ih λk x y hm=>hr k x y (List.mem_cons_of_mem _ hm))
theorem del (h:q8 R m n) (k:B):q8 R (M.del m k) (M.del n k):=by
 induction h with
 |nil=>exact .nil
 |@cons k' x y m n r _ ih=>
  unfold M.del at *;simp only [List.filter_cons];split
  ·exact .cons r ih
  ·exact ih
theorem ins (h:q8 R m n) (k:B) {x:α} {y:β} (r:R x y):q8 R (M.ins k x m) (M.ins k y n):=by
 induction h with
 |nil=>exact .cons r .nil
 |@cons k' x' y' m n r' h' ih=>
  unfold M.ins;split
  ·exact .cons r (.cons r' h')
  ·exact .cons r' ih
theorem put (h:q8 R m n) (k:B) {x:α} {y:β} (r:R x y):q8 R (M.put m k x) (M.put n k y):=(h.del k).ins k r
theorem get (h:q8 R m n) (k:B):(M.get m k=none/\M.get n k=none)\/∃x y,M.get m k=some x/\M.get n k=some y/\R x y:=by
 induction h with
 |nil=>exact .inl ⟨rfl,rfl⟩
 |@cons k' x y m n r _ ih=>
  unfold M.get at *;simp only [List.find?_cons];by_cases e:(k'==k)=true
  ·simp only [e];exact .inr ⟨x,y,rfl,rfl,r⟩
  ·simp only [eq_false_of_ne_true e];exact ih
end q8
def mapM {α β:Type} (f:α->β) (m:M α):M β:=m.map λp=>(p.1,f p.2)
section
variable {α β:Type} (f:α->β)
theorem mU (m:M α) (k:B):M.get (mapM f m) k=(M.get m k).map f:=by unfold M.get mapM;rw [List.find?_map,Option.map_map,Option.map_map];rfl
theorem Dx (m:M α) (k:B):M.del (mapM f m) k=mapM f (M.del m k):=by unfold M.del mapM;rw [List.filter_map];rfl
theorem YG (m:M α) (k:B) (v:α):M.ins k (f v) (mapM f m)=mapM f (M.ins k v m):=by
 induction m with
 |nil=>rfl
 |cons p r ih=>
  show (if si k p.1 then _ else _)=mapM f (if si k p.1 then _ else _);split
  ·rfl
  ·exact congrArg _ ih
theorem Ls (m:M α) (k:B) (v:α):M.put (mapM f m) k (f v)=mapM f (M.put m k v):=by unfold M.put;rw [Dx,YG]
theorem mapM_length (m:M α):(mapM f m).length=m.length:=by unfold mapM;simp
theorem uq (m:M α):(mapM f m).map (·.1)=m.map (·.1):=by unfold mapM;rw [List.map_map];rfl
end
theorem DN {α:Type} (k:B) (v:α):∀m:M α,(M.ins k v m).length=m.length+1
 |[]=>rfl
 |p::r=>by
  unfold M.ins;split
  ·rfl
  ·simp [DN k v r]
theorem OH {α:Type} (m:M α) (k:B) (v:α):(M.put m k v).length<=m.length+1:=by unfold M.put;rw [DN];have:(M.del m k).length<=m.length:=List.length_filter_le ..;omega
theorem iR (b o:Nat) (w:World) (h:w.cell? ⟨b,o,none⟩=some (.int .i32 0)) (hf:w.frozen? ⟨b,o,none⟩=false):
 Calls Tq.prog 38 #[.pointer (some ⟨b,o,none⟩)] w λe w'=>e=.returned (.tuple #[])/\w'=w.setCell ⟨b,o,none⟩ (.int .i32 1):=by
 go_enter Tq.func38,show Ka.qm.ntmps=4 from rfl
 unfold Ka.sj;go_wp2
 go_end0
 exact ⟨rfl,rfl⟩
theorem fE (b o:Nat) (u:FrameMode) (w:World) (h:w.cell? ⟨b,o,none⟩=some (.int .i32 1)) (hf:w.frozen? ⟨b,o,none⟩=false):
 CallsD Tq.prog 39 #[.pointer (some ⟨b,o,none⟩)] u w λe u' w'=>u'=u/\e=.returned (.tuple #[])/\w'=w.setCell ⟨b,o,none⟩ (.int .i32 0):=by
 go_enter_d Tq.func39,show Ka.jM.ntmps=4 from rfl
 unfold Ka.mf;go_wp2
 go_end0
 exact ⟨rfl,rfl⟩
end Bk
end
end
end Go.Proofs.YtmanpggemmgnnaaGreatDoor
