/- Ends: a part. Conditions: none. -/
import Derived.Test.YtmanpggemmgnnaaGreatDoorA08
import Derived.Test.YtmanpggemmgnnaaGreatDoorA35
set_option linter.all false
set_option maxHeartbeats 8000000
set_option maxRecDepth 1000000
namespace Go.Proofs.YtmanpggemmgnnaaGreatDoor
noncomputable section
open Go Go.RowKit Go.Shelf Ba Fr Tryz
def ĺ:=@ByteArray.toList_eq
def A1{p:Prop}(h:p):Go.RowKit.Hid p:=Go.Lib.hid h
namespace Mp
open Tx Sp
def Mg{ρ dst t mm x v type pos after}{guard}:execOp ρ ⟨dst,.insert t mm x v,type,pos,after,guard⟩=execOp ρ ⟨dst,.mapUpdate t mm x v,type,pos,after,guard⟩:=rfl
def insert{w ops hn rest o a}(hg:o.guard=none)mm x v t(vh:o.op=Op.insert t mm x v)e(ht:Tq.prog.underlying t=some (.map 9 e))b m(hm:a.eval mm=.map (some b))(tU:SM w b m)(Q:m.length<maxLen)s val(E:a.eval x=.string s)(X:a.eval v=val)(hs:s.size<=maxLen)
 (hK:∀U,SM U b (m.put s.data.toList val)->w.mapTurned U b->wpList Tq.prog ops hn rest (a.put o.dst undef) U):wpList Tq.prog ops hn (o::rest) a w:=by
 obtain⟨dst,op,type,pos,after,guard⟩:=o;simp only at vh hg hK;subst vh;have h:=store (o:=⟨dst,.mapUpdate t mm x v,type,pos,after,guard⟩) hg mm x v t rfl e ht b m hm tU Q s val E X hs hK;unfold wpList at h ⊢;unfold Oper.wp Oper.asks at h ⊢;rw[Mg];exact h
end Mp
namespace Qu
open Tx Sp Wg Rd Bk Mp
def uk n:∀l seen,news seen (l++[n])=news seen l++(if n∈seen++news seen l then[]else[n])
 |[],seen=>by
  simp only[cg,news];by_cases h:seen.contains n=true
  ·rw[bk h];simp at h;simp[h]
  ·rw[aX h];simp at h;simp[h]
 |x::l,seen=>by
  by_cases h:seen.contains x=true
  ·have e1:∀r,news seen (x::r)=news seen r:=λr=>by rw[news,bk h]
   simp only[cf,e1];exact uk n l seen
  ·have e1:∀r,news seen (x::r)=x::news (seen++[x]) r:=λr=>by rw[news,aX h]
   simp only[cf,e1,uk n l (seen++[x])];simp
def QV(w:World)(B0:Nat)(v:Value)(l:List B):Prop:=∃g o cap,v=.slice (some ⟨g,o,none⟩) l.length cap/\l.length<=cap/\cap<=maxLen/\B0<=g/\g<w.heap.size/\
 (0<cap->∃cur,w.heap[g]? =some (.cells cur 9 (0,0))/\o+cap<=cur.size/\∀i x,l[i]? =some x->cur[o+i]? =some (av x))
def QV.aA{w B0 v l S U}(h:QV w B0 v l)(L:aj S w U)(Q:∀k,v.ownBlock=some k->¬S k):QV U B0 v l:=by obtain⟨g,o,cap,rfl,V,J,h3,h4,h5⟩:=h;refine⟨g,o,cap,rfl,V,J,h3,eJ h4 L.size,λh0=>?_⟩;obtain⟨cur,c1,c2,c3⟩:=h5 h0;exact⟨cur,(L.block g h4 (Q g rfl)).trans c1,c2,c3⟩
def QV.block{w B0 v l}(h:QV w B0 v l):∃g,v.ownBlock=some g/\B0<=g/\g<w.heap.size:=by obtain⟨g,o,cap,rfl,V,J,h3,h4,h5⟩:=h;exact⟨g,rfl,h3,h4⟩
def QV.tail{w B0 g o n cap x l}(h:QV w B0 (.slice (some ⟨g,o,none⟩) n cap) (x::l)):n=l.length+1/\1<=cap/\w.cell? ⟨g,o,none⟩=some (av x)/\
 QV w B0 (.slice (if cap - 1=0 then some ⟨g,o,none⟩else some ⟨g,o+1,none⟩) l.length (cap - 1)) l:=by
 obtain⟨g',o',vZ,e,V,J,h3,h4,h5⟩:=h;injection e with e1 e2 e3;injection e1 with e1;injection e1 with e1 e4;subst e1 e2 e3 e4;simp only[bt]at V;obtain⟨cur,c1,c2,c3⟩:=h5 (by omega);refine⟨rfl,by omega,?_,?_⟩
 ·have:=c3 0 x rfl;rw[mg]at this;simpa [World.cell?,c1]using this
 ·by_cases h0:cap - 1=0
  ·rw[bk h0];exact⟨g,o,cap - 1,rfl,by omega,by omega,h3,h4,λe=>by omega⟩
  ·rw[aX h0];refine⟨g,o+1,cap - 1,rfl,by omega,by omega,h3,h4,λ_=>⟨cur,c1,by omega,λi y hy=>?_⟩⟩;rw[ft,oP 1 i];exact c3 (i+1) y hy
def QV.aFl{l w B0 v}(h:w.ownsRow B0 9 1 v l.length (l.map av))(tW:l≠[]):QV w B0 v l:=by
 obtain⟨hl,L⟩:=h;rcases L with⟨_,h0⟩|⟨g,cap,cur,rfl,V,J,h3,h4,h5,h6⟩
 ·exact absurd (eK h0) tW
 ·refine⟨g,0,cap,rfl,h3,h4,V,lt_of_block J,λ_=>⟨cur,J,by rw[h5];omega,λi x E=>?_⟩⟩;have hi:(l.map av)[i]? =some (av x):=by rw[eL,E];rfl
  rw[<-h6,pn,j7]at hi;split at hi
  ·rw[j0,<-iO];exact hi
  ·cases hi
def Seen(w:World)(b:Nat)(seen:List B):Prop:=∃m:M Value,SM w b m/\m.length<=seen.length/\∀k,(M.get m k).getD (.int .i64 0)=if k∈seen then .int .i64 1 else .int .i64 0
def ZW{α}(m:M α)k x v:M.get (M.put m k v) x=if x=k then some v else M.get m x:=by
 have bG:∀(p:B×α) (m:M α) (k:B),M.get (p::m) k=if p.1=k then some p.2 else M.get m k:=by
  intro p m k;unfold M.get;rw[pP];by_cases h:p.1=k
  ·simp[h]
  ·have:(p.1==k)=false:=by simpa using h
   simp[this,h]
 have aCZ:∀(m:M α),(∀p∈m,p.1≠k)->M.get (M.ins k v m) x=if x=k then some v else M.get m x:=by
  intro m
  induction m with
  |nil=>intro _;simp only[M.ins];rw[bG];by_cases e:x=k<;>simp[e,M.get];exact λh=>e h.symm
  |cons q m ih=>
   intro h;unfold M.ins;split
   ·rw[bG];simp only;by_cases e:x=k
    ·simp[e]
    ·rw[aX (λa=>e a.symm),aX e]
   ·rw[bG,bG,ih (λp hp=>h p (bc _ hp))];by_cases e:x=k
    ·subst e;rw[aX (h q (bj ..)),bk rfl,bk rfl]
    ·rw[aX e,aX e]
 have Jt:∀(m:M α),x≠k->M.get (M.del m k) x=M.get m x:=by
  intro m E;unfold M.del
  induction m with
  |nil=>rfl
  |cons p m ih=>
   by_cases h:p.1=k
   ·rw[lG (by simp[h]),ih,bG,aX (λa=>E (a.symm.trans h))]
   ·rw[lK (by simp[h]),bG,bG,ih]
 unfold M.put;rw[aCZ _ (λp hp=>by have:=(ju.1 hp).2;simpa using this)];by_cases e:x=k
 ·rw[bk e,bk e]
 ·rw[aX e,aX e,Jt m e]
def aB3{α}(m:M α)k v:(M.put m k v).length<=m.length+1:=Bk.OH m k v
def Seen.put{m U b n}{seen}(hm:m.length<=seen.length/\∀k,(M.get m k).getD (.int .i64 0)=if k∈seen then .int .i64 1 else .int .i64 0)(h:SM U b (M.put m n (.int .i64 1))):Seen U b (seen++[n]):=by
 refine⟨_,h,?_,λk=>?_⟩
 ·have:=aB3 m n (.int .i64 1);simp only[b9,ki];omega
 ·rw[ZW];by_cases e:k=n
  ·subst e;simp
  ·rw[aX e,hm.2 k];by_cases h:k∈seen<;>simp[h,e]
def Seen.aA{w b S U}{seen}(h:Seen w b seen)(L:aj S w U)(hb:¬S b):Seen U b seen:=by obtain⟨m,V,J⟩:=h;exact⟨m,V.block (L.block b V.lt hb),J⟩
end Qu
namespace De
open Tx Sp Wg Rd Bk Wi Se Rx Mp
def lS{t o}(h:Tx.parse t=some o):bE t=o.ids/\kindOf t=o.kind:=by unfold bE kindOf;rw[h];exact⟨rfl,rfl⟩
def zm w t o b n(hp:Tx.parse t=some o)(J:nE w b (blT o.kind) (av t) n)(Y:w.ownsRow 0 9 1 n o.ids.length (o.ids.map av))(hl:o.ids.length<1099511627776):
 Calls Tq.prog 234 #[.pointer (some ⟨b,0,none⟩)] w λe U=>∃v',e=.returned v'/\U.ownsRow w.heap.size 9 1 v' (bE t).length ((bE t).map av)/\Below w.heap.size w U:=by
 rw[(lS hp).1];exact Uz b _ _ n o.ids 0 w hl J Y
def lY c:∀l:B,(split c l).length<=l.length+1
 |[]=>aI _
 |x::r=>by
  unfold split;have ih:=lY c r;split
  ·simp only[bt];omega
  ·split
   ·simp
   ·rename_i p ps e;rw[e]at ih;simp only[bt]at ih ⊢;omega
def AA:∀l last r,entries last l=some r->r.length=l.length
 |[],_,r,h=>by unfold entries at h;obtain rfl:=ay h;rfl
 |e::l,last,r,h=>by
  unfold entries at h;split at h
  ·rw[aY]at h;obtain⟨r',V,rfl⟩:=h;simp only[bt,AA l _ r' V]
  ·cases h
def RG c:∀l:B,(Tx.cut c l).2.1.length<=l.length
 |[]=>aI _
 |x::r=>by
  unfold Tx.cut;have:=RG c r;split
  ·simp
  ·simp only[bt];omega
def BB{t o}(h:Tx.parse t=some o):o.ids.length<=t.length+3:=by
 unfold Tx.parse at h;simp only at h;split at h
 ·split at h
  ·split at h
   ·obtain rfl:=ay h;simp
   ·cases h
  ·split at h
   ·rw[aY]at h;obtain⟨l,hl,rfl⟩:=h;unfold tree at hl;split at hl
    ·obtain rfl:=ay hl;simp
    ·have:=AA _ _ _ hl;have:=lY 44 (Tx.cut 32 t).2.1;have:=RG 32 t;simp only;omega
   ·split at h
    ·rw[aY]at h;obtain⟨l,hl,rfl⟩:=h;unfold ji at hl;simp only at hl;split at hl
     ·split at hl
      ·obtain rfl:=ay hl;simp
      ·split at hl
       ·rename_i L;obtain rfl:=ay hl;simp only[bw,cN]at L;simp only[bt];omega
       ·cases hl
     ·cases hl
    ·cases h
 ·cases h
def Ob.Bl{w t v}(h:Ob w t v):(bE t).length<=16777218:=by obtain⟨o,b,n,V,J,h3,h4,h5⟩:=h;rw[(lS V).1];have:=BB V;omega
def aPc(fo:Option B):List B:=match fo with|some t=>bE t|none=>[]
def aBb(w:World)(st pb:Nat)(k:ByteArray)(fo:Option B)(Fi:Calls Tq.prog 133 #[aG st,aG pb,.string k] w λe U=>(∃v,e=.returned v/\OV w fo v)/\U=w):
 Calls Tq.prog 88 #[aG st,aG pb,.string k] w λe U=>∃v,e=.returned v/\U.ownsRow w.heap.size 9 1 v (aPc fo).length ((aPc fo).map av)/\Below w.heap.size w U:=by
 replace Fi:=A1 Fi;unfold aG at Fi ⊢;have mN:=YI;go_enter Tq.func88,ntmps88;go_wp2_with fail;refine Fi.out.mono ?_;rintro e U ⟨⟨v,rfl,X⟩,rfl⟩;cases fo with
 |none=>obtain rfl:v=.nilIface:=X;go_wp2_with fail;go_ret;exact⟨_,rfl,World.ownsRow_nil _ _ _ _,Below.refl _ _⟩
 |some t=>have hf:=Ob.Bl X;obtain⟨o,b,n,V,rfl,h3,h4,h5⟩:=X;rw[(lS V).1]at hf;have N:=A1 (zm U t o b n V h3 h4 (by omega));clear V h3 h4 h5;unfold aG;go_wp2_with fail;refine N.out.mono ?_;rintro e w2 ⟨v',rfl,tM,hb⟩;have R:=A1 (l4 tM hb);clear tM hb;go_wp2_with fail;go_ret;exact⟨_,rfl,R.out⟩
def Lj w st mo mr pb mw μ S cv p cl k(hS:qZ w st mo mr μ S)(hP:kK w pb mw cv p cl)(A:k.size<=maxLen):
 Calls Tq.prog 88 #[aG st,aG pb,.string k] w λe U=>∃v,e=.returned v/\U.ownsRow w.heap.size 9 1 v (Sp.names S p k.data.toList).length ((Sp.names S p k.data.toList).map av)/\Below w.heap.size w U:=
 aBb w st pb k _ (sP w st mo mr pb mw μ S cv p cl k hS hP A)
def YB w bs bp st mo mr pb mw μ S cv p cl k(hS:qZ w st mo mr μ S)(hP:kK w pb mw cv p cl)(A:k.size<=maxLen)(V:w.cell? ⟨bs,0,none⟩=some (aG st))(J:w.cell? ⟨bp,0,none⟩=some (aG pb)):
 Calls Tq.prog 232 #[.string k,.pointer (some ⟨bs,0,none⟩),.pointer (some ⟨bp,0,none⟩)] w λe U=>∃v,e=.returned v/\U.ownsRow w.heap.size 9 1 v (Sp.names S p k.data.toList).length ((Sp.names S p k.data.toList).map av)/\Below w.heap.size w U:=by
 have C:=A1 (Lj w st mo mr pb mw μ S cv p cl k hS hP A);clear hS hP A;unfold aG at V J C;go_enter Tq.func232,ntmps232;go_wp2_with fail;refine C.out.mono ?_;rintro e w2 ⟨v',rfl,tM,hb⟩;have R:=A1 (l4 tM hb);clear tM hb V J;go_wp2_with fail;go_ret;exact⟨_,rfl,R.out⟩
def tJ k(A:k=98\/k=116\/k=99)a w:(Instr.typeAssert (.iface (ED k) (.pointer (some a))) 106 259 true).run Tq.prog w=.ok (.tuple #[if k=99 then .pointer (some a)else .pointer none,.bool (k==99)]) w:=by rcases A with rfl|rfl|rfl<;>kernel_rfl
def HV w:(Instr.typeAssert .nilIface 106 259 true).run Tq.prog w=.ok (.tuple #[.pointer none,.bool false]) w:=(by kernel_rfl)
def EB k(A:k=98\/k=116\/k=99)a w:(Instr.typeAssert (.iface (ED k) (.pointer (some a))) 106 257 true).run Tq.prog w=.ok (.tuple #[if k=116 then .pointer (some a)else .pointer none,.bool (k==116)]) w:=by rcases A with rfl|rfl|rfl<;>kernel_rfl
def aDs w:(Instr.typeAssert .nilIface 106 257 true).run Tq.prog w=.ok (.tuple #[.pointer none,.bool false]) w:=(by kernel_rfl)
def qj{t o}(h:Tx.parse t=some o):o.kind=98\/o.kind=116\/o.kind=99:=by
 unfold Tx.parse at h;simp only at h;split at h
 ·split at h
  ·split at h
   ·obtain rfl:=ay h;exact .inl rfl
   ·cases h
  ·split at h
   ·rw[aY]at h;obtain⟨l,hl,rfl⟩:=h;exact .inr (.inl rfl)
   ·split at h
    ·rw[aY]at h;obtain⟨l,hl,rfl⟩:=h;exact .inr (.inr rfl)
    ·cases h
 ·cases h
end De
section
open VW
namespace Tz
open Tx Sp Wg
def aC8(s:ByteArray)(a b:Nat):Value.string (s.extract a b)=av ((s.data.toList.drop a).take (b - a)):=by unfold av;congr 1;apply n7;rw[ByteArray.data_extract];apply Array.toList_inj.1;simp[Array.toList_extract,List.extract_eq_drop_take]
structure LN(r:B)(fr k:Nat)(ls:List B):Prop where
 fk:fr<=k
 eq:Rc.lines r=ls++Rc.dW ((r.drop fr).take (k - fr)) (r.drop k)
def LN.nl{r:B}{fr k:Nat}{ls:List B}(h:LN r fr k ls)(A:k<r.length)(e:r[k]=10):LN r (k+1) (k+1) (ls++[(r.drop fr).take (k - fr)]):=by refine⟨aI _,?_⟩;rw[h.eq,lx A,Rc.dW,bk e];simp
def LN.no{r:B}{fr k:Nat}{ls:List B}(h:LN r fr k ls)(A:k<r.length)(e:r[k]≠10):LN r fr (k+1) ls:=by
 have hf:=h.fk;refine⟨by omega,?_⟩;rw[h.eq,lx A,Rc.dW,aX e];congr 2;have:k+1 - fr=(k - fr)+1:=by omega
 rw[this,List.take_succ];congr 1;rw[rB,show fr+(k - fr)=k by omega,bU A];rfl
def LN.done{r:B}{fr k:Nat}{ls:List B}(h:LN r fr k ls)(A:r.length<=k):Rc.lines r=ls:=by rw[h.eq,List.drop_eq_nil_of_le A];simp[Rc.dW]
structure LI(w wr:World)(r:B)(fr k:Nat)(v:Value)(ls:List B):Prop where
 ln:LN r fr k ls
 row:wr.ownsRow w.heap.size 9 1 v ls.length (ls.map av)
 Bl:ls.length<=k
 bel:Below w.heap.size w wr
def UI(r:ByteArray)(w:World)(hs:r.size<=1099511627776):
 Calls Tq.prog 49 #[.string r] w λe U=>∃v,e=.returned v/\U.ownsRow w.heap.size 9 1 v (Rc.lines r.data.toList).length ((Rc.lines r.data.toList).map av)/\Below w.heap.size w U:=by
 obtain⟨i0,hi,xr,xU,ya⟩:=info_parts pI;go_enter Tq.func49,ntmps49;go_wp2
 go_loopw [3,4,5] (λv f i wr=>∃(fr k:Nat) (ls:List B),f=.int .i64 fr/\i=.int .i64 k/\k<=r.size/\fr<=k/\Hid (LI w wr r.data.toList fr k v ls)) (λ_ _ i _=>r.size - (intOf i).toNat)
 case atStart=>exact⟨0,0,[],rfl,rfl,cQ _,aI _,A1 ⟨⟨aI _,rfl⟩,World.ownsRow_nil _ _ _ _,aI _,Below.refl _ _⟩⟩
 case round=>
  obtain⟨fr,k,ls,rfl,rfl,A,u6,HI⟩:=hrel;by_cases tP:k<r.size
  ·have hl:k<r.data.toList.length:=by simpa using tP
   by_cases L:r[k]=10
   ·have t1:((r[k].toNat:Int)==10)=true:=by rw[L];rfl
    have X3:=A1 L;clear L;have tM:=HI.out.row;have Zy:=HI.out.Bl;have Jh:=HI.out.bel.size;go_wp2_with (first
     |(at_builtin;refine wpList_append_own_at _ rfl _ _ 34 rfl w.heap.size 9 i0 (.string ByteArray.empty) 1 16 ((Tq.underlying 34).trans underlying34) hi xr xU ya rfl (by decide) _ _ _ rfl (tM.alloc _) ⟨wr.heap.size,0,none⟩ 1 1 [.string (r.extract fr k)] rfl rfl ?c1 ?c2 ?c3 ?c4 ?c5 ?_)
     |go_in)
    case c1=>
     intro j u hj
     match j,hj with
     |0,hj=>simp at hj;subst hj;simp[Addr.add]
    case c2=>intro u hu;simp at hu;subst hu;rfl
    case c3=>unfold maxLen;omega
    case c4=>omega
    case c5=>simp;omega
    intro v' w4 yO tR _ zj;have HB4:=A1 ((HI.out.bel.alloc Jh (.cells #[Value.string (r.extract fr k)] 9)).grown tR (by simp;omega) (λk h=>(tM.lt k h).1));have wQ:w4.ownsRow w.heap.size 9 1 v' (ls++[(r.data.toList.drop fr).take (k - fr)]).length ((ls++[(r.data.toList.drop fr).take (k - fr)]).map av):=by rw[eN,gA,List.map_nil,<-aC8,b9];exact yO
    have G8:=A1 (LI.mk (HI.out.ln.nl hl (by show r.data[k]=10;exact X3.out)) wQ (by simp;omega) HB4.out);clear yO tR zj tM HB4 wQ;go_wp2
    go_roundw
    case rel=>exact⟨k+1,k+1,_,by go_num,by go_num,by omega,by omega,G8⟩
    case measure=>simp[intOf];omega
   ·have t1:((r[k].toNat:Int)==10)=false:=by
     rw[b8];intro h;exact L (s9.1 (by simpa using(by omega:r[k].toNat=10)))
    have X3:=A1 L;clear L;go_wp2
    go_roundw
    case rel=>exact⟨fr,k+1,ls,rfl,by go_num,by omega,by omega,A1 ⟨HI.out.ln.no hl (by show ¬r.data[k]=10;exact X3.out),HI.out.row,by have:=HI.out.Bl;omega,HI.out.bel⟩⟩
    case measure=>simp[intOf];omega
  ·go_wp2;go_ret;have e:=HI.out.ln.done (by simp;omega);rw[e];exact⟨_,rfl,HI.out.row,HI.out.bel⟩
def Yp(l:B)(r:List B):Rc.rq (l::r)=if decide (3<l.length)&&(l.take 3==Rc.pOk)then(Rc.rq r).map (·+1)else if decide (l.length<3)||!(l.take 3==Rc.pNg)then none else Rc.rq r:=rfl
structure AI(t:List B)(i cnt:Nat):Prop where
 le:i<=t.length
 cl:cnt<=i
 eq:Rc.rq t=(Rc.rq (t.drop i)).map (·+cnt)
def aQe(x:ByteArray):(x.extract 0 3).toList=x.data.toList.take 3:=by rw[ĺ,ByteArray.data_extract,Array.toList_extract,List.extract_eq_take_drop];simp
def AI.ok{t:List B}{k cnt:Nat}(h:AI t k cnt)(tP:k<t.length)(e:Rc.rq (t.drop k)=(Rc.rq (t.drop (k+1))).map (·+1)):AI t (k+1) (cnt+1):=
 ⟨tP,by have:=h.cl;omega,by rw[h.eq,e];cases Rc.rq (t.drop (k+1))with
   |none=>rfl
   |some x=>simp;omega⟩
def AI.ng{t:List B}{k cnt:Nat}(h:AI t k cnt)(tP:k<t.length)(e:Rc.rq (t.drop k)=Rc.rq (t.drop (k+1))):AI t (k+1) cnt:=⟨tP,by have:=h.cl;omega,by rw[h.eq,e]⟩
def AI.bad{t:List B}{k cnt:Nat}(h:AI t k cnt)(e:Rc.rq (t.drop k)=none):Rc.rq t=none:=by rw[h.eq,e];rfl
def VC(r:ByteArray)(w:World)(hs:r.size<=1099511627776)(h:B)(t:List B)(hL:Rc.lines r.data.toList=h::t)(ht:t≠[])(htl:t.length<=1000000):
 Calls Tq.prog 30 #[.string r] w λe U=>e=.returned (.tuple #[.bool (Rc.kZ r.data.toList).1,.bool (Rc.kZ r.data.toList).2])/\Below w.heap.size w U:=by
 have hA:Rc.kZ r.data.toList=match Rc.rq t with
  |none=>(false,false)
  |some n=>(decide (0<n),(h==Rc.kD)&&(n==0||n==t.length)):=by
  unfold Rc.kZ;rw[hL];cases t with
  |nil=>exact absurd rfl ht
  |cons y t=>rfl
 generalize Rc.kZ r.data.toList=hk at hA ⊢;replace hA:=A1 hA;have C:=UI r w hs;rw[hL]at C;have aTU:0<t.length:=ly.2 ht;clear hL ht;replace C:=A1 C;go_enter Tq.func30,ntmps30;go_wp2_with fail;refine C.out.mono ?_;rintro e U ⟨v,rfl,tM,hb⟩;obtain⟨g,cap,rfl⟩:∃g cap,v=.slice (some ⟨g,0,none⟩) (h::t).length cap:=by
  rcases tM.2 with⟨_,h0⟩|⟨g,cap,cur,e,_⟩
  ·simp at h0
  ·exact⟨g,cap,e⟩
 have uz:∀i x,(h::t)[i]? =some x->U.cell? ⟨g,i,none⟩=some (av x):=λi x E=>by
  have:=tM.cells (g:=g) rfl i (av x) (by rw[eL,E];rfl);have e:(Addr.add ⟨g,0,none⟩ i)=⟨g,i,none⟩:=by unfold Addr.add;split<;>simp_all
  rw[e]at this;exact this
 have c0:=uz 0 h rfl;replace uz:=A1 uz;replace hb:=A1 hb;clear tM C;simp only[bt]at *;go_wp2_with fail
 go_loop [5,6] (λc i=>∃cnt k:Nat,c=.int .i64 cnt/\i=.int .i64 (k+1:Nat)/\k<=t.length/\cnt<=k/\Hid (AI t k cnt)) (λ_ i=>t.length+1 - (intOf i).toNat)
 case atStart=>exact⟨0,0,rfl,rfl,cQ _,aI _,A1 ⟨cQ _,aI _,by simp⟩⟩
 case round=>
  obtain⟨cnt,k,rfl,rfl,A,nk,HI⟩:=hrel;by_cases tP:k<t.length
  ·have hy:(h::t)[k+1]? =some t[k]:=by simp[tP]
   have ck:=uz.out (k+1) t[k] hy;obtain⟨yb,D4⟩:∃yb:ByteArray,av t[k]=.string yb/\yb.data.toList=t[k]:=⟨⟨t[k].toArray⟩,rfl,by simp⟩
   rw[D4.1]at ck;have aH:Rc.rq (t.drop k)=if(decide (3<(yb.size:Int))&&((yb.extract 0 3).toList==[111,107,32]))=true then(Rc.rq (t.drop (k+1))).map (·+1)else if(decide ((yb.size:Int)<3)||!((yb.extract 0 3).toList==[110,103,32]))=true then none else Rc.rq (t.drop (k+1)):=by
    rw[lx tP,Yp,aQe,D4.2,<-D4.2,dx,D4.2];have e1:decide (3<(yb.size:Int))=decide (3<yb.size):=by rw[decide_eq_decide];omega
    have e2:decide ((yb.size:Int)<3)=decide (yb.size<3):=by rw[decide_eq_decide];omega
    rw[e1,e2];rfl
   replace D4:=A1 D4;replace aH:=A1 aH;have step1:=λ(e:Rc.rq (t.drop k)=(Rc.rq (t.drop (k+1))).map (·+1))=>HI.out.ok tP e;have xE:=λ(e:Rc.rq (t.drop k)=Rc.rq (t.drop (k+1)))=>HI.out.ng tP e;have xD:=λ(e:Rc.rq (t.drop k)=none)=>HI.out.bad e;have ST:=A1 (l4 step1 (l4 xE xD));clear step1 xE xD HI hy;go_wp2_with fail
   all_goals first
    |(refine⟨⟨cnt+1,k+1,by go_num,by go_num,by omega,by omega,A1 (ST.out.1 ?_)⟩,by simp[intOf];omega⟩;rw[aH.out];simp[*];done)
    |(refine⟨⟨cnt,k+1,by go_num,by go_num,by omega,by omega,A1 (ST.out.2.1 ?_)⟩,by simp[intOf];omega⟩;rw[aH.out,aX (by intro L;simp only[bw,cN]at L;first|omega|exact absurd L.2 (by simp[*])),aX (by intro L;simp only[fL,cN]at L;rcases L with L|L<;>first|omega|exact absurd L (by simp[*]))];done)
    |(have e:=hA.out;rw[ST.out.2.2 (by rw[aH.out,aX (by intro L;simp only[bw,cN]at L;first|omega|exact absurd L.2 (by simp[*])),bk (by simp only[fL,cN];first|assumption|(left;omega)|(right;simp[*]))])]at e;subst e;go_ret2;exact⟨rfl,hb.out⟩)
  ·have e:Rc.rq t=some cnt:=by
    have:=HI.out.eq;rw[List.drop_eq_nil_of_le (by omega)]at this;simpa [Rc.rq]using this
   obtain rfl:k=t.length:=by omega
   replace e:=A1 e;clear HI;have hwo:(h==Rc.kD)=((⟨h.toArray⟩:ByteArray).toList==[117,110,112,97,99,107,32,111,107]):=by rw[ĺ];rfl
   replace hwo:=A1 hwo;unfold av at c0;generalize(⟨h.toArray⟩:ByteArray)=Gk at c0 hwo;go_wp2_with fail
   all_goals
    have eA:=hA.out;rw[e.out]at eA;simp only[hwo.out]at eA;subst eA
    go_ret2
    refine⟨?_,hb.out⟩
    first
     |(simp[*];done)
     |(simp[*];rw[j9];simp;omega)
open Rd
def aAQ:∀(l a:B),(Rc.dW a l).length<=l.length
 |[],_=>by simp[Rc.dW]
 |x::l,a=>by
  unfold Rc.dW;split
  ·have:=aAQ l [];simp only[bt];omega
  ·have:=aAQ l (a++[x]);simp only[bt];omega
def aQs(x:ByteArray):(x.extract 0 7).toList=x.data.toList.take 7:=by rw[ĺ];simp
def aAT(r:ByteArray)(w:World)(hs:r.size<=1000)(hl:(Rc.lines r.data.toList).length<=1):
 Calls Tq.prog 30 #[.string r] w λe U=>e=.returned (.tuple #[.bool (Rc.kZ r.data.toList).1,.bool (Rc.kZ r.data.toList).2])/\Below w.heap.size w U:=by
 have C:=UI r w (by omega);have hA:Rc.kZ r.data.toList=(false,((Rc.lines r.data.toList).length:Int)==1&&(decide (8<(r.size:Int))&&(((r.extract 0 7).toList==[117,110,112,97,99,107,32])&&!(r.toList==[117,110,112,97,99,107,32,111,107,10])))):=by
  unfold Rc.kZ
  match h:Rc.lines r.data.toList,hl with
  |[],_=>simp
  |[x],_=>
   have e1:decide (8<(r.size:Int))=decide (8<r.data.toList.length):=by rw[decide_eq_decide,dx];omega
   rw[e1,aQs,ĺ];simp only[bt,dt,Bool.and_assoc];rfl
 generalize Rc.kZ r.data.toList=hk at hA ⊢;generalize Rc.lines r.data.toList=hc at C hl hA;subst hA;replace C:=A1 C;go_enter Tq.func30,ntmps30;go_wp2_with fail;refine C.out.mono ?_;rintro e U ⟨v,rfl,tM,hb⟩;obtain⟨pv,cap,rfl⟩:∃p cap,v=.slice p hc.length cap:=by
  rcases tM.2 with⟨e,e0⟩|⟨g,cap,cur,e,_⟩
  ·exact⟨none,0,by rw[e,e0]⟩
  ·exact⟨_,_,e⟩
 replace hb:=A1 hb;clear tM C;have J:((hc.length:Int)<2)=True:=ie (by omega);have V:((hc.length:Int)==1)=true\/((hc.length:Int)==1)=false:=by cases((hc.length:Int)==1)<;>simp
 rcases V with V|V
 ·go_wp2_with fail
  all_goals
   go_ret2
   refine⟨?_,hb.out⟩
   first|(simp[*];done)|(simp[*];intros;first|omega|simp_all)
 ·go_wp2_with fail
  go_ret2
  refine⟨?_,hb.out⟩;rw[V];rfl
def aF1(r:ByteArray)(w:World)(hs:r.size<=1000):
 Calls Tq.prog 30 #[.string r] w λe U=>e=.returned (.tuple #[.bool (Rc.kZ r.data.toList).1,.bool (Rc.kZ r.data.toList).2])/\Below w.heap.size w U:=by
 have hlen:(Rc.lines r.data.toList).length<=r.size:=aAQ r.data.toList []
 match h:Rc.lines r.data.toList with
 |[]=>exact aAT r w hs (by rw[h];decide)
 |[x]=>exact aAT r w hs (by rw[h];exact aI 1)
 |a::b::t=>exact VC r w (by omega) a (b::t) h (by simp) (by rw[h]at hlen;simp at hlen ⊢;omega)
end Tz
end
