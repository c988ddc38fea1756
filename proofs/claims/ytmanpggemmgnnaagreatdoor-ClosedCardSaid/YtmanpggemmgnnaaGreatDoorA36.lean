/- Closed: a part. Conditions: none. -/
import Derived.Test.YtmanpggemmgnnaaGreatDoorA08
import Derived.Test.YtmanpggemmgnnaaGreatDoorA35
set_option linter.all false
set_option maxHeartbeats 8000000
set_option maxRecDepth 1000000
namespace Go.Proofs.YtmanpggemmgnnaaGreatDoor
noncomputable section
open Go Go.RowKit Go.Shelf Ba Fr
def ĺ:=@Lib.hid
namespace Mp
open Tx Sp
def Mg{ρ dst t mm x v type pos after}{guard}:execOp ρ ⟨dst,.insert t mm x v,type,pos,after,guard⟩=execOp ρ ⟨dst,.mapUpdate t mm x v,type,pos,after,guard⟩:=rfl
def insert{w ops hn rest o a}(hg:o.guard=none)mm x v t(hop:o.op=Op.insert t mm x v)e(ht:Tq.prog.underlying t=some (.map 9 e))b m(hm:a.eval mm=.map (some b))(hown:SM w b m)(Q:m.length<maxLen)s val(E:a.eval x=.string s)(X:a.eval v=val)(hs:s.size<=maxLen)
 (hK:∀U,SM U b (m.put s.data.toList val)->w.mapTurned U b->wpList Tq.prog ops hn rest (a.put o.dst undef) U):wpList Tq.prog ops hn (o::rest) a w:=by
 obtain⟨dst,op,type,pos,after,guard⟩:=o;simp only at hop hg hK;subst hop;have h:=store (o:=⟨dst,.mapUpdate t mm x v,type,pos,after,guard⟩) hg mm x v t rfl e ht b m hm hown Q s val E X hs hK;unfold wpList at h ⊢;unfold Oper.wp Oper.asks at h ⊢;rw[Mg];exact h
end Mp
namespace Qu
open Tx Sp Wg Rd Bk Mp
def uk n:∀l seen,news seen (l++[n])=news seen l++(if n∈seen++news seen l then[]else[n])
 |[],seen=>by
  simp only[cg,news];by_cases h:seen.contains n=true
  ·rw[bk h];simp at h;simp[h]
  ·rw[aX h];simp at h;simp[h]
 |x::l,seen=>by
  by_cases h:seen.contains x=true
  ·have e1:∀r,news seen (x::r)=news seen r:=λr=>by rw[news,bk h]
   simp only[cf,e1];exact uk n l seen
  ·have e1:∀r,news seen (x::r)=x::news (seen++[x]) r:=λr=>by rw[news,aX h]
   simp only[cf,e1,uk n l (seen++[x])];simp
def QV(w:World)(B0:Nat)(v:Value)(l:List B):Prop:=∃g o cap,v=.slice (some ⟨g,o,none⟩) l.length cap/\l.length<=cap/\cap<=maxLen/\B0<=g/\g<w.heap.size/\
 (0<cap->∃cur,w.heap[g]? =some (.cells cur 9 (0,0))/\o+cap<=cur.size/\∀i x,l[i]? =some x->cur[o+i]? =some (av x))
def QV.aA{w B0 v l S U}(h:QV w B0 v l)(L:aj S w U)(Q:∀k,v.ownBlock=some k->¬S k):QV U B0 v l:=by obtain⟨g,o,cap,rfl,V,J,h3,h4,h5⟩:=h;refine⟨g,o,cap,rfl,V,J,h3,eJ h4 L.size,λh0=>?_⟩;obtain⟨cur,c1,c2,c3⟩:=h5 h0;exact⟨cur,(L.block g h4 (Q g rfl)).trans c1,c2,c3⟩
def QV.block{w B0 v l}(h:QV w B0 v l):∃g,v.ownBlock=some g/\B0<=g/\g<w.heap.size:=by obtain⟨g,o,cap,rfl,V,J,h3,h4,h5⟩:=h;exact⟨g,rfl,h3,h4⟩
def QV.tail{w B0 g o n cap x l}(h:QV w B0 (.slice (some ⟨g,o,none⟩) n cap) (x::l)):n=l.length+1/\1<=cap/\w.cell? ⟨g,o,none⟩=some (av x)/\
 QV w B0 (.slice (if cap - 1=0 then some ⟨g,o,none⟩else some ⟨g,o+1,none⟩) l.length (cap - 1)) l:=by
 obtain⟨g',o',cap',e,V,J,h3,h4,h5⟩:=h;injection e with e1 e2 e3;injection e1 with e1;injection e1 with e1 e4;subst e1 e2 e3 e4;simp only[bt]at V;obtain⟨cur,c1,c2,c3⟩:=h5 (by omega);refine⟨rfl,by omega,?_,?_⟩
 ·have:=c3 0 x rfl;rw[mg]at this;simpa [World.cell?,c1]using this
 ·by_cases h0:cap - 1=0
  ·rw[bk h0];exact⟨g,o,cap - 1,rfl,by omega,by omega,h3,h4,λe=>by omega⟩
  ·rw[aX h0];refine⟨g,o+1,cap - 1,rfl,by omega,by omega,h3,h4,λ_=>⟨cur,c1,by omega,λi y hy=>?_⟩⟩;rw[ft,oP 1 i];exact c3 (i+1) y hy
def QV.aFl{l w B0 v}(h:w.ownsRow B0 9 1 v l.length (l.map av))(hne:l≠[]):QV w B0 v l:=by
 obtain⟨hl,L⟩:=h;rcases L with⟨_,h0⟩|⟨g,cap,cur,rfl,V,J,h3,h4,h5,h6⟩
 ·exact absurd (eK h0) hne
 ·refine⟨g,0,cap,rfl,h3,h4,V,lt_of_block J,λ_=>⟨cur,J,by rw[h5];omega,λi x E=>?_⟩⟩;have hi:(l.map av)[i]? =some (av x):=by rw[eL,E];rfl
  rw[<-h6,pn,j7]at hi;split at hi
  ·rw[j0,<-iO];exact hi
  ·cases hi
def Seen(w:World)(b:Nat)(seen:List B):Prop:=∃m:M Value,SM w b m/\m.length<=seen.length/\∀k,(M.get m k).getD (.int .i64 0)=if k∈seen then .int .i64 1 else .int .i64 0
def ZW{α}(m:M α)k x v:M.get (M.put m k v) x=if x=k then some v else M.get m x:=by
 have bG:∀(p:B×α) (m:M α) (k:B),M.get (p::m) k=if p.1=k then some p.2 else M.get m k:=by
  intro p m k;unfold M.get;rw[pP];by_cases h:p.1=k
  ·simp[h]
  ·have:(p.1==k)=false:=by simpa using h
   simp[this,h]
 have aCZ:∀(m:M α),(∀p∈m,p.1≠k)->M.get (M.ins k v m) x=if x=k then some v else M.get m x:=by
  intro m
  induction m with
  |nil=>intro _;simp only[M.ins];rw[bG];by_cases e:x=k<;>simp[e,M.get];exact λh=>e h.symm
  |cons q m ih=>
   intro h;unfold M.ins;split
   ·rw[bG];simp only;by_cases e:x=k
    ·simp[e]
    ·rw[aX (λa=>e a.symm),aX e]
   ·rw[bG,bG,ih (λp hp=>h p (bc _ hp))];by_cases e:x=k
    ·subst e;rw[aX (h q (bj ..)),bk rfl,bk rfl]
    ·rw[aX e,aX e]
 have Jt:∀(m:M α),x≠k->M.get (M.del m k) x=M.get m x:=by
  intro m E;unfold M.del
  induction m with
  |nil=>rfl
  |cons p m ih=>
   by_cases h:p.1=k
   ·rw[lG (by simp[h]),ih,bG,aX (λa=>E (a.symm.trans h))]
   ·rw[lK (by simp[h]),bG,bG,ih]
 unfold M.put;rw[aCZ _ (λp hp=>by have:=(ju.1 hp).2;simpa using this)];by_cases e:x=k
 ·rw[bk e,bk e]
 ·rw[aX e,aX e,Jt m e]
def aB3{α}(m:M α)k v:(M.put m k v).length<=m.length+1:=Bk.OH m k v
def Seen.put{m U b n}{seen}(hm:m.length<=seen.length/\∀k,(M.get m k).getD (.int .i64 0)=if k∈seen then .int .i64 1 else .int .i64 0)(h:SM U b (M.put m n (.int .i64 1))):Seen U b (seen++[n]):=by
 refine⟨_,h,?_,λk=>?_⟩
 ·have:=aB3 m n (.int .i64 1);simp only[b9,ki];omega
 ·rw[ZW];by_cases e:k=n
  ·subst e;simp
  ·rw[aX e,hm.2 k];by_cases h:k∈seen<;>simp[h,e]
def Seen.aA{w b S U}{seen}(h:Seen w b seen)(L:aj S w U)(hb:¬S b):Seen U b seen:=by obtain⟨m,V,J⟩:=h;exact⟨m,V.block (L.block b V.lt hb),J⟩
end Qu
namespace De
open Tx Sp Wg Rd Bk Wi Se Rx Mp
def lS{t o}(h:Tx.parse t=some o):bE t=o.ids/\kindOf t=o.kind:=by unfold bE kindOf;rw[h];exact⟨rfl,rfl⟩
def zm w t o b n(hp:Tx.parse t=some o)(J:nE w b (blT o.kind) (av t) n)(Y:w.ownsRow 0 9 1 n o.ids.length (o.ids.map av))(hl:o.ids.length<1099511627776):
 Calls Tq.prog 234 #[.pointer (some ⟨b,0,none⟩)] w λe U=>∃v',e=.returned v'/\U.ownsRow w.heap.size 9 1 v' (bE t).length ((bE t).map av)/\Below w.heap.size w U:=by
 rw[(lS hp).1];exact Uz b _ _ n o.ids 0 w hl J Y
def lY c:∀l:B,(split c l).length<=l.length+1
 |[]=>aI _
 |x::r=>by
  unfold split;have ih:=lY c r;split
  ·simp only[bt];omega
  ·split
   ·simp
   ·rename_i p ps e;rw[e]at ih;simp only[bt]at ih ⊢;omega
def AA:∀l last r,entries last l=some r->r.length=l.length
 |[],_,r,h=>by unfold entries at h;obtain rfl:=ay h;rfl
 |e::l,last,r,h=>by
  unfold entries at h;split at h
  ·rw[aY]at h;obtain⟨r',V,rfl⟩:=h;simp only[bt,AA l _ r' V]
  ·cases h
def RG c:∀l:B,(Tx.cut c l).2.1.length<=l.length
 |[]=>aI _
 |x::r=>by
  unfold Tx.cut;have:=RG c r;split
  ·simp
  ·simp only[bt];omega
def BB{t o}(h:Tx.parse t=some o):o.ids.length<=t.length+3:=by
 unfold Tx.parse at h;simp only at h;split at h
 ·split at h
  ·split at h
   ·obtain rfl:=ay h;simp
   ·cases h
  ·split at h
   ·rw[aY]at h;obtain⟨l,hl,rfl⟩:=h;unfold tree at hl;split at hl
    ·obtain rfl:=ay hl;simp
    ·have:=AA _ _ _ hl;have:=lY 44 (Tx.cut 32 t).2.1;have:=RG 32 t;simp only;omega
   ·split at h
    ·rw[aY]at h;obtain⟨l,hl,rfl⟩:=h;unfold ji at hl;simp only at hl;split at hl
     ·split at hl
      ·obtain rfl:=ay hl;simp
      ·split at hl
       ·rename_i L;obtain rfl:=ay hl;simp only[bw,cN]at L;simp only[bt];omega
       ·cases hl
     ·cases hl
    ·cases h
 ·cases h
def Ob.Bl{w t v}(h:Ob w t v):(bE t).length<=16777218:=by obtain⟨o,b,n,V,J,h3,h4,h5⟩:=h;rw[(lS V).1];have:=BB V;omega
def aNy(fo:Option B):List B:=match fo with|some t=>bE t|none=>[]
def aAQ w st pb k fo(Fi:Calls Tq.prog 133 #[aG st,aG pb,.string k] w λe U=>(∃v,e=.returned v/\OV w fo v)/\U=w):
 Calls Tq.prog 88 #[aG st,aG pb,.string k] w λe U=>∃v,e=.returned v/\U.ownsRow w.heap.size 9 1 v (aNy fo).length ((aNy fo).map av)/\Below w.heap.size w U:=by
 replace Fi:=ĺ Fi;unfold aG at Fi ⊢;have mN:=YI;go_enter Tq.func88,Tryz.ntmps88;go_wp2_with fail;refine Fi.out.mono ?_;rintro e U ⟨⟨v,rfl,X⟩,rfl⟩;cases fo with
 |none=>obtain rfl:v=.nilIface:=X;go_wp2_with fail;go_ret;exact⟨_,rfl,World.ownsRow_nil _ _ _ _,Below.refl _ _⟩
 |some t=>have hf:=Ob.Bl X;obtain⟨o,b,n,V,rfl,h3,h4,h5⟩:=X;rw[(lS V).1]at hf;have N:=ĺ (zm U t o b n V h3 h4 (by omega));clear V h3 h4 h5;unfold aG;go_wp2_with fail;refine N.out.mono ?_;rintro e w2 ⟨v',rfl,hrow,hb⟩;have R:=ĺ (l4 hrow hb);clear hrow hb;go_wp2_with fail;go_ret;exact⟨_,rfl,R.out⟩
def Lj w st mo mr pb mw μ S cv p cl k(hS:qZ w st mo mr μ S)(hP:kK w pb mw cv p cl)(A:k.size<=maxLen):
 Calls Tq.prog 88 #[aG st,aG pb,.string k] w λe U=>∃v,e=.returned v/\U.ownsRow w.heap.size 9 1 v (Sp.names S p k.data.toList).length ((Sp.names S p k.data.toList).map av)/\Below w.heap.size w U:=
 aAQ w st pb k _ (sP w st mo mr pb mw μ S cv p cl k hS hP A)
def YB w bs bp st mo mr pb mw μ S cv p cl k(hS:qZ w st mo mr μ S)(hP:kK w pb mw cv p cl)(A:k.size<=maxLen)(V:w.cell? ⟨bs,0,none⟩=some (aG st))(J:w.cell? ⟨bp,0,none⟩=some (aG pb)):
 Calls Tq.prog 232 #[.string k,.pointer (some ⟨bs,0,none⟩),.pointer (some ⟨bp,0,none⟩)] w λe U=>∃v,e=.returned v/\U.ownsRow w.heap.size 9 1 v (Sp.names S p k.data.toList).length ((Sp.names S p k.data.toList).map av)/\Below w.heap.size w U:=by
 have C:=ĺ (Lj w st mo mr pb mw μ S cv p cl k hS hP A);clear hS hP A;unfold aG at V J C;go_enter Tq.func232,Tryz.ntmps232;go_wp2_with fail;refine C.out.mono ?_;rintro e w2 ⟨v',rfl,hrow,hb⟩;have R:=ĺ (l4 hrow hb);clear hrow hb V J;go_wp2_with fail;go_ret;exact⟨_,rfl,R.out⟩
def tJ k(A:k=98\/k=116\/k=99)a w:(Instr.typeAssert (.iface (ED k) (.pointer (some a))) 106 259 true).run Tq.prog w=.ok (.tuple #[if k=99 then .pointer (some a)else .pointer none,.bool (k==99)]) w:=by rcases A with rfl|rfl|rfl<;>kernel_rfl
def HV w:(Instr.typeAssert .nilIface 106 259 true).run Tq.prog w=.ok (.tuple #[.pointer none,.bool false]) w:=(by kernel_rfl)
def EB k(A:k=98\/k=116\/k=99)a w:(Instr.typeAssert (.iface (ED k) (.pointer (some a))) 106 257 true).run Tq.prog w=.ok (.tuple #[if k=116 then .pointer (some a)else .pointer none,.bool (k==116)]) w:=by rcases A with rfl|rfl|rfl<;>kernel_rfl
def aDs w:(Instr.typeAssert .nilIface 106 257 true).run Tq.prog w=.ok (.tuple #[.pointer none,.bool false]) w:=(by kernel_rfl)
def qj{t o}(h:Tx.parse t=some o):o.kind=98\/o.kind=116\/o.kind=99:=by
 unfold Tx.parse at h;simp only at h;split at h
 ·split at h
  ·split at h
   ·obtain rfl:=ay h;exact .inl rfl
   ·cases h
  ·split at h
   ·rw[aY]at h;obtain⟨l,hl,rfl⟩:=h;exact .inr (.inl rfl)
   ·split at h
    ·rw[aY]at h;obtain⟨l,hl,rfl⟩:=h;exact .inr (.inr rfl)
    ·cases h
 ·cases h
end De
section
open VW
namespace Tz
open Tx Sp Wg Rd
def aSs(x:ByteArray):(x.extract 0 7).toList=x.data.toList.take 7:=by rw[ByteArray.toList_eq];simp
end Tz
end
