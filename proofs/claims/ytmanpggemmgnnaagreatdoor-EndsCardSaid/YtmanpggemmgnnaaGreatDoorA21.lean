/- Ends: a part. Conditions: none. -/
import Derived.Maps.Ext
import Derived.Maps.RangeWalk
import Derived.Sort.KeysCollected
import Derived.Test.YtmanpggemmgnnaaGreatDoorA02
import Derived.Test.YtmanpggemmgnnaaGreatDoorA09
import Derived.Test.YtmanpggemmgnnaaGreatDoorA18
set_option linter.all false
namespace Go.Proofs.YtmanpggemmgnnaaGreatDoor
noncomputable section
open Go Go.Maps Tryz
namespace Mp
open Tx Sp
def lt_eq:∀a b:B,bytesBefore a b=si a b
 |[],[]=>rfl
 |[],_::_=>by simp[bytesBefore,si]
 |_::_,[]=>by simp[bytesBefore,si]
 |a::r,b::s=>by
  simp only[bytesBefore,lt_eq r s,si];rw[j9];simp only[fL,cN,bw,jA,p7]
def RV(v:Value):Option (DataW Value×List MemPlace):=some (.held v,[])
def Km(p:B×Value):Lit×DataW Value:=(.string p.1,.held p.2)
def JV(m:M Value):DataW Value:=.map (m.map Km)
def insert_eq k v:∀m:M Value,DataW.insert (Km (k,v)) (m.map Km)=(M.ins k v m).map Km
 |[]=>rfl
 |p::r=>by
  simp only[gA,DataW.insert,M.ins];have:(Km (k,v)).1.before (Km p).1=si k p.1:=lt_eq k p.1;rw[this];cases si k p.1
  ·simp only[bh,cz,gA,insert_eq k v r]
  ·rfl
def filter_eq k m:(m.map Km).filter (λp=>!p.1.sameKey (.string k))=(M.del m k).map Km:=by unfold M.del;rw[pQ];rfl
def put_eq m(k:B)v:(JV m).put (.string k) (.held v)=JV (m.put k v):=by show DataW.map _=DataW.map _;rw[filter_eq,show((Lit.string k,DataW.held v):Lit×DataW Value)=Km (k,v)from rfl,insert_eq];rfl
def del_eq m(k:B):(JV m).del (.string k)=JV (m.del k):=by show DataW.map _=DataW.map _;rw[filter_eq]
def find_eq(m:M Value)(k:B):(m.map Km).find? (λp=>p.1.sameKey (.string k))=(m.find? λp=>p.1==k).map Km:=by rw[List.find?_map];rfl
def yC m(k:B)z:(JV m).atKey (.string k) z=match m.get k with|some v=>.held v|none=>z:=by unfold DataW.atKey JV;simp only[find_eq];unfold M.get;cases m.find? λp=>p.1==k<;>rfl
def aCT m(k:B):Maps.has (JV m) (.string k)=(m.get k).isSome:=by show(m.map Km).any _=_;rw[List.any_map];unfold M.get;rw[rS,j9,r8,gR];exact Iff.rfl
def CY m:Maps.size (JV m)=m.length:=by show(m.map Km).length=_;simp
def L6:Keyed Tq.prog 9:=string_keyed ((Tq.underlying 9).trans underlying9)
def DK{s}(h:s.size<=maxLen):keyOf Tq.prog 9 (.string s)=some (.string s.data.toList):=Go.WideMaps.keyOf_string_mk ((Tq.underlying 9).trans underlying9) h
def SM(w:World)(b:Nat)(m:M Value):Prop:=w.ownsMap Tq.prog 9 RV b m.length (JV m)
section
variable {w U:World}{b:Nat}{m:M Value}
def SM.of{n}(h:w.ownsMap Tq.prog 9 RV b n (JV m)):SM w b m:=by
 obtain⟨es,clock,hb,F,hs,hD⟩:=h;refine⟨es,clock,hb,F,?_,hD⟩;have:=dv Maps.size hD;rw[CY]at this;have e:Maps.size (DataW.map ((es.toList.map (Go.WideElems.rg Tq.prog 9 RV)).foldr DataW.insert []))=es.size:=by simp[Maps.size,length_sorted]
 rw[e]at this;omega
def SM.made(w:World):SM (w.alloc (.map #[] 0)) w.heap.size []:=World.ownsMap_made w Tq.prog 9 RV
def SM.block(h:SM w b m)(e:U.heap[b]? =w.heap[b]?):SM U b m:=by obtain⟨es,clock,hb,r⟩:=h;exact⟨es,clock,e.trans hb,r⟩
def SM.lt(h:SM w b m):b<w.heap.size:=World.ownsMap.lt h
def SM.keys(h:SM w b m):∀p∈m,p.1.length<=maxLen:=λp hp=>by
 refine strKeys_le (D0:=JV m) h ((Tq.underlying 9).trans underlying9) p.1 ?_;show p.1∈(m.map Km).map _;rw[ll];exact ey.2 ⟨p,hp,rfl⟩
def SM.rising(h:SM w b m):m.Pairwise λp q=>si p.1 q.1=true:=by
 obtain⟨es,hD,hp,_⟩:=World.ownsMap.canon h L6;have:es=m.map Km:=by have:=hD;unfold JV at this;injection this with this;exact this.symm
 subst this;rw[ia]at hp;exact hp.imp λ{p q} h=>by rw[<-lt_eq];exact h
variable {ops:Array Oper}{rest:List Oper}{o:Oper}{a:Act}{hn:Exit->Act->World->Prop}
def lookup{z}(hg:o.guard=none)mm x t(vh:o.op=Op.lookup t mm x false)e(ht:Tq.prog.underlying t=some (.map 9 e))(hz:(zeroValue e).run Tq.prog w=.ok z w)b m(hm:a.eval mm=.map (some b))(tU:SM w b m)s(E:a.eval x=.string s)(hs:s.size<=maxLen)
 (hK:wpList Tq.prog ops hn rest (a.put o.dst ((m.get s.data.toList).getD z)) w):wpList Tq.prog ops hn (o::rest) a w:=by
 refine wpList_plain hg λK' hK'=>?_;obtain⟨v,ps,uv,X⟩:=World.ownsMap.lookup tU L6 ht hz (zd:=.held z) (zp:=[]) rfl (DK hs);have:v=(m.get s.data.toList).getD z:=by
  rw[yC]at X;unfold RV at X;cases hh:m.get s.data.toList with
  |none=>rw[hh]at X;simp at X;exact X.1
  |some u=>rw[hh]at X;simp at X;exact X.1
 subst this;unfold Oper.wp;simp[execOp,vh,hm,E,uv,Result.andThen];exact hK' _ _ hK
def store(hg:o.guard=none)mm x v t(vh:o.op=Op.mapUpdate t mm x v)e(ht:Tq.prog.underlying t=some (.map 9 e))b m(hm:a.eval mm=.map (some b))(tU:SM w b m)(Q:m.length<maxLen)s val(E:a.eval x=.string s)(X:a.eval v=val)(hs:s.size<=maxLen)
 (hK:∀U,SM U b (m.put s.data.toList val)->w.mapTurned U b->wpList Tq.prog ops hn rest (a.put o.dst undef) U):wpList Tq.prog ops hn (o::rest) a w:=
 wpList_mapUpdate_in w hg mm x v t vh 9 e L6 ht RV b m.length (JV m) hm tU Q (.string s) val (.string s.data.toList) E X (DK hs) (.held val) [] rfl λU V J=>hK U (SM.of (by rw[<-put_eq];exact V)) J
def delete(hg:o.guard=none)mm x t(vh:o.op=Op.call {callee:=Callee.builtin Builtin.delete,args:=#[mm,x],argTypes:=#[t,9]})e(ht:Tq.prog.underlying t=some (.map 9 e))b m(hm:a.eval mm=.map (some b))(tU:SM w b m)s(E:a.eval x=.string s)(hs:s.size<=maxLen)
 (hK:∀U,SM U b (m.del s.data.toList)->w.mapTurned U b->wpList Tq.prog ops hn rest (a.put o.dst (.tuple #[])) U):wpList Tq.prog ops hn (o::rest) a w:=
 wpList_delete_own w hg mm x t 9 vh e L6 ht RV b m.length (JV m) hm tU (.string s) (.string s.data.toList) E (DK hs) λU V J=>hK U (SM.of (by rw[<-del_eq];exact V)) J
def GG(left:B->Bool):Lit->Bool
 | .string k=>left k
 |_=>false
def SR(w:World)(b r:Nat)(m:M Value)(left:B->Bool)(cnt:Nat):Prop:=w.ranges Tq.prog 9 RV b r m.length (JV m) (GG left) cnt
def SR.sm{b r m left cnt}(h:SR w b r m left cnt):SM w b m:=World.ranges.owns h
def UJ m:GG (λk=>(m.get k).isSome)=Maps.has (JV m):=by
 funext l;cases l with
 |string k=>exact(aCT m k).symm
 |_=>show false=(m.map Km).any _;rw[List.any_map];exact(List.any_eq_false.2 (λp _=>by simp[Km,Lit.sameKey])).symm
def range(hg:o.guard=none)mm t(vh:o.op=Op.range t mm)e(ht:Tq.prog.underlying t=some (.map 9 e))b m(hm:a.eval mm=.map (some b))(tU:SM w b m)
 (hK:∀U,SR U b w.heap.size m (λk=>(m.get k).isSome) m.length->w.grownBy U none->U.heap.size=w.heap.size+1->wpList Tq.prog ops hn rest (a.put o.dst (.pointer (some ⟨w.heap.size,0,none⟩))) U):wpList Tq.prog ops hn (o::rest) a w:=
 wpList_range_own w hg mm t vh 9 e L6 ht RV b m.length (JV m) hm tU λU V J h3=>hK U (by unfold SR;rw[UJ];rw[CY]at V;exact V) J h3
def next(hg:o.guard=none)it(vh:o.op=Op.next it false)b r m left cnt(hit:a.eval it=.pointer (some ⟨r,0,none⟩))(h:SR w b r m left cnt)
 (hDone:cnt=0->(∀k,left k=false)->wpList Tq.prog ops hn rest (a.put o.dst (.tuple #[.bool false])) w)
 (hMore:∀k v U LO,k.length<=maxLen->left k=true->m.get k=some v->SR U b r m (λz=>left z&&!(z==k)) LO->LO<cnt->
   w.grownBy U (some r)->(Instr.entry (.pointer (some ⟨r,0,none⟩))).run Tq.prog U=.ok (.tuple #[.string ⟨k.toArray⟩,v]) U->wpList Tq.prog ops hn rest (a.put o.dst (.tuple #[.bool true,.string ⟨k.toArray⟩,v])) U):
 wpList Tq.prog ops hn (o::rest) a w:=by
 refine wpList_next_ranges (α:=Value) (β:=Value) w hg it vh 9 L6 RV id id (λkey _ _=>⟨key,rfl⟩) (λv _ _=>⟨v,rfl⟩) b r m.length (JV m) (GG left) cnt hit h (λh0 hl=>hDone h0 λk=>hl (.string k)) λx c kl y U LO hkey B5 X wx Ek tP EU _ hen=>?_;obtain⟨k,rfl,rfl,hlen⟩:=Maps.keyOf_str ((Tq.underlying 9).trans underlying9) hkey;have hy:y=(.held c,[]):=(ay X).symm;subst hy;have iP:m.get k=some c:=by
  have:=wx (.lit (.bool true));rw[yC]at this;cases hh:m.get k with
  |none=>rw[hh]at this;cases this
  |some u=>rw[hh]at this;cases this;rfl
 refine hMore k c U LO hlen B5 iP ?_ tP EU hen;unfold SR;have:GG (λz=>left z&&!(z==k))=λz=>GG left z&&!z.sameKey (.string k):=by funext l;cases l<;>simp[GG,Lit.sameKey]
 rw[this];exact Ek
end
def Nv(m:M Value)(left:B->Bool)(ss:List B):Prop:=ss.Nodup/\∀x,x∈ss↔((m.get x).isSome=true/\left x=false)
def Nv.start m:Nv m (λk=>(m.get k).isSome) []:=⟨List.nodup_nil,λx=>by cases h:m.get x<;>simp[h]⟩
def Nv.step{m left ss k v}(h:Nv m left ss)(hl:left k=true)(hg:m.get k=some v):Nv m (λz=>left z&&!(z==k)) (ss++[k]):=by
 have lu:k∉ss:=λE=>by have:=((h.2 k).1 E).2;rw[hl]at this;cases this
 refine⟨mG.2 ⟨h.1,by simp,λa ha b hb=>by simp at hb;subst hb;exact λe=>lu (e▸ha)⟩,λy=>?_⟩;by_cases hy:y=k
 ·subst hy;simp[hg]
 ·simp[h.2 y,hy]
def aCd{α x}{m:M α}:(m.get x).isSome=true↔x∈m.map (·.1):=by
 unfold M.get;rw[rS,r8,ey];constructor
 ·rintro⟨p,hp,e⟩;exact⟨p,hp,by simpa using e⟩
 ·rintro⟨p,hp,e⟩;exact⟨p,hp,by simpa using e⟩
def nodup_keys{α}{m:M α}(h:m.Pairwise λp q=>si p.1 q.1=true):(m.map (·.1)).Nodup:=by rw[List.Nodup,ia];refine h.imp λ{p q} hpq e=>?_;unfold si at hpq;rw[e]at hpq;simp at hpq;exact absurd hpq (List.lt_irrefl _)
def Nv.perm{m left ss}(h:Nv m left ss)(hm:m.Pairwise λp q=>si p.1 q.1=true)(hl:∀k,left k=false):ss.Perm (m.map (·.1)):=
 (List.perm_ext_iff_of_nodup h.1 (nodup_keys hm)).2 λx=>by rw[h.2 x,hl,aCd];simp
end Mp
section
open Go.RowKit Go.ChangeMaps
namespace Bk
open Tx Sp Mp Fr
def aM(w:World)(b:Nat)(xs:Array Value)(t:TypeId)(fz:Nat×Nat):Prop:=w.heap[b]? =some (.cells xs t fz)
section
variable {w U:World}{b:Nat}{xs:Array Value}{t:TypeId}{fz:Nat×Nat}
def aM.lt(h:aM w b xs t fz):b<w.heap.size:=lt_of_block h
def aM.cell(h:aM w b xs t fz)i:w.cell? ⟨b,i,none⟩=xs[i]? :=by unfold aM at h;simp[World.cell?,h]
def aM.at{i v}(h:aM w b xs t fz)(hi:xs[i]? =some v):w.cell? ⟨b,i,none⟩=some v:=(h.cell i).trans hi
def aM.frozen{i}(h:aM w b xs t fz)(hi:i<fz.1\/fz.2<=i):w.frozen? ⟨b,i,none⟩=false:=by unfold aM at h;simp[World.frozen?,h];omega
def aM.set(h:aM w b xs t fz)i v:aM (w.setCell ⟨b,i,none⟩ v) b (xs.setIfInBounds i v) t fz:=by unfold aM at *;have hb:b<w.heap.size:=lt_of_block h;simp[World.setCell,gC,h]
def aM.other{p}(h:aM w b xs t fz)(hp:b≠p.block)v:aM (w.setCell p v) b xs t fz:=(Below.heap_setCell w p v b hp).trans h
def aM.aA{S}(h:aM w b xs t fz)(L:aj S w U)(Q:¬S b):aM U b xs t fz:=(L.block b h.lt Q).trans h
def aM.new(w:World)xs t:aM (w.alloc (.cells xs t)) w.heap.size xs t (0,0):=heap_alloc_new w _
def aM.ne{b' xs' t' jo}(h:aM w b xs t fz)(h':aM w b' xs' t' jo)(ht:t≠t'):b≠b':=λe=>by
 subst e;unfold aM at h h';rw[h]at h';injection h' with h';injection h' with _ h' _;exact ht h'
def aM.dV{b' m}(h:aM w b xs t fz)(h':SM w b' m):b≠b':=λe=>by
 subst e;obtain⟨es,clock,hb,_⟩:=h';unfold aM at h;rw[h]at hb;cases hb
end
def dY{b w U}(h:w.mapTurned U b):aj (·=b) w U:=by
 obtain⟨es,clock,yt,clock',hb,rfl⟩:=h;refine⟨rfl,rfl,rfl,?_,λk A Q=>?_⟩
 ·simp[setBlock]
 ·simp only[setBlock,fY];rw[aX (λe=>Q e.symm)]
inductive q8{α β}(R:α->β->Prop):M α->M β->Prop
 |nil:q8 R [] []
 |cons{k}  {x} {y} {m} {n}:R x y->q8 R m n->q8 R ((k,x)::m) ((k,y)::n)
namespace q8
variable {α β:Type}{R:α->β->Prop}{m:M α}{n:M β}
def length(h:q8 R m n):m.length=n.length:=by induction h with|nil=>rfl|cons _ _ ih=>simp[ih]
def keys(h:q8 R m n):m.map (·.1)=n.map (·.1):=by induction h with|nil=>rfl|cons _ _ ih=>simp[ih]
def mono{R'}(h:q8 R m n)(Y:∀k x y,(k,x)∈m->R x y->R' x y):q8 R' m n:=by
 induction h with
 |nil=>exact .nil
 |cons r _ ih=>exact .cons (Y _ _ _ (bj ..) r) (ih λk x y hm=>Y k x y (bc _ hm))
def del(h:q8 R m n)k:q8 R (M.del m k) (M.del n k):=by
 induction h with
 |nil=>exact .nil
 |@cons k' x y m n r _ ih=>
  unfold M.del at *;simp only[sT];split
  ·exact .cons r ih
  ·exact ih
def ins{x y}(h:q8 R m n)k(r:R x y):q8 R (M.ins k x m) (M.ins k y n):=by
 induction h with
 |nil=>exact .cons r .nil
 |@cons k' x' y' m n r' h' ih=>
  unfold M.ins;split
  ·exact .cons r (.cons r' h')
  ·exact .cons r' ih
def put{x y}(h:q8 R m n)k(r:R x y):q8 R (M.put m k x) (M.put n k y):=(h.del k).ins k r
def get(h:q8 R m n)k:(M.get m k=none/\M.get n k=none)\/∃x y,M.get m k=some x/\M.get n k=some y/\R x y:=by
 induction h with
 |nil=>exact .inl ⟨rfl,rfl⟩
 |@cons k' x y m n r _ ih=>
  unfold M.get at *;simp only[pP];by_cases e:(k'==k)=true
  ·simp only[e];exact .inr ⟨x,y,rfl,rfl,r⟩
  ·simp only[eq_false_of_ne_true e];exact ih
end q8
def mapM{α β}(f:α->β)(m:M α):M β:=m.map λp=>(p.1,f p.2)
section
variable {α β:Type}(f:α->β)
def mU m k:M.get (mapM f m) k=(M.get m k).map f:=by unfold M.get mapM;rw[List.find?_map,nd,nd];rfl
def Dx m k:M.del (mapM f m) k=mapM f (M.del m k):=by unfold M.del mapM;rw[pQ];rfl
def YG m k v:M.ins k (f v) (mapM f m)=mapM f (M.ins k v m):=by
 induction m with
 |nil=>rfl
 |cons p r ih=>
  show(if si k p.1 then _ else _)=mapM f (if si k p.1 then _ else _);split
  ·rfl
  ·exact dv _ ih
def Ls m k v:M.put (mapM f m) k (f v)=mapM f (M.put m k v):=by unfold M.put;rw[Dx,YG]
def mapM_length m:(mapM f m).length=m.length:=by unfold mapM;simp
def uq m:(mapM f m).map (·.1)=m.map (·.1):=by unfold mapM;rw[ll];rfl
end
def DN{α} k v:∀m:M α,(M.ins k v m).length=m.length+1
 |[]=>rfl
 |p::r=>by
  unfold M.ins;split
  ·rfl
  ·simp[DN k v r]
def OH{α}(m:M α)k v:(M.put m k v).length<=m.length+1:=by unfold M.put;rw[DN];have:(M.del m k).length<=m.length:=gQ ..;omega
def iR b o w(h:w.cell? ⟨b,o,none⟩=some (.int .i32 0))(hf:w.frozen? ⟨b,o,none⟩=false):
 Calls Tq.prog 38 #[.pointer (some ⟨b,o,none⟩)] w λe U=>e=.returned (.tuple #[])/\U=w.setCell ⟨b,o,none⟩ (.int .i32 1):=by
 go_enter Tq.func38,show Ka.qm.ntmps=4 from rfl
 unfold Ka.sj;go_wp2
 go_end0
 exact⟨rfl,rfl⟩
def aD5(b o:Nat)(w:World)(h:w.cell? ⟨b,o,none⟩=some (.int .i32 1))(hf:w.frozen? ⟨b,o,none⟩=false):
 Calls Tq.prog 39 #[.pointer (some ⟨b,o,none⟩)] w λe U=>e=.returned (.tuple #[])/\U=w.setCell ⟨b,o,none⟩ (.int .i32 0):=by
 go_enter Tq.func39,show Ka.jM.ntmps=4 from rfl
 unfold Ka.mf;go_wp2
 go_end0
 exact⟨rfl,rfl⟩
def fE b o u w(h:w.cell? ⟨b,o,none⟩=some (.int .i32 1))(hf:w.frozen? ⟨b,o,none⟩=false):
 CallsD Tq.prog 39 #[.pointer (some ⟨b,o,none⟩)] u w λe u' U=>u'=u/\e=.returned (.tuple #[])/\U=w.setCell ⟨b,o,none⟩ (.int .i32 0):=by
 go_enter_d Tq.func39,show Ka.jM.ntmps=4 from rfl
 unfold Ka.mf;go_wp2
 go_end0
 exact⟨rfl,rfl⟩
end Bk
end
