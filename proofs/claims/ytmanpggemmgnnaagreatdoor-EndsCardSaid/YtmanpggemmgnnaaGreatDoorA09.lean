/- Ends: a part. Conditions: none. -/
import Derived.Test.YtmanpggemmgnnaaGreatDoorA90
set_option linter.all false
namespace Go.Proofs.YtmanpggemmgnnaaGreatDoor
noncomputable section
namespace Tx
abbrev B:=List UInt8
def om(h:Nat)(c:UInt8):Nat:=((h^^^c.toNat)*16777619)%4294967296
def PU(l:B):Nat:=l.foldl om 2166136261
def dig(n:Nat):UInt8:=if n<10 then UInt8.ofNat (48+n)else UInt8.ofNat (87+n)
def pO:Nat->Nat->B
 |0,_=>[]
 |k+1,n=>pO k (n / 16)++[dig (n%16)]
def dA(l:B):B:=pO 8 (PU l)
def dU(l:B):B:=if l.length=0\/200<l.length then[]else pO 4 (l.length+4)++l
def zx(c:UInt8):Bool:=(decide (48<=c.toNat)&&decide (c.toNat<=57))||(decide (97<=c.toNat)&&decide (c.toNat<=102))
def uW(c:UInt8):Bool:=decide (97<=c.toNat)&&decide (c.toNat<=122)
def hex(l:B):Bool:=l.all zx
def di:B:=[48,48,48,48,48,48,48,48]
def yN(l:B):Bool:=hex l&&(decide (l.length=8)&&(l !=di))
def line(l:B)(n:Nat):Bool:=l.all (·!=10)&&decide (l.length<=n)
def O3(l:B):Bool:=l.all uW&&(decide (1<=l.length)&&decide (l.length<=8))
def cut(c:UInt8):B->B×B×Bool
 |[]=>([],[],false)
 |x::r=>if x=c then([],r,true)else(x::(cut c r).1,(cut c r).2.1,(cut c r).2.2)
def split(c:UInt8):B->List B
 |[]=>[[]]
 |x::r=>if x=c then[]::split c r else match split c r with|[]=>[[x]]|p::ps=>(x::p)::ps
def leB:B->B->Bool
 |[],_=>true
 |_::_,[]=>false
 |a::r,b::s=>decide (a.toNat<b.toNat)||(decide (a=b)&&leB r s)
def entries:B->List B->Option (List B)
 |_,[]=>some []
 |last,e::r=>if(cut 61 e).2.2&&O3 (cut 61 e).1&&yN (cut 61 e).2.1&&!leB (cut 61 e).1 last then(entries (cut 61 e).1 r).map ((cut 61 e).2.1::·)else none
def tree(l:B):Option (List B):=if l=[]then some []else entries [] (split 44 l)
def ji(l:B):Option (List B):=
 let a:=cut 32 l;let b:=cut 32 a.2.1
 if b.2.2&&yN a.1&&line b.2.1 20 then
  if b.1=[45]then some [a.1]
  else if(split 43 b.1).length<=2&&(split 43 b.1).all yN then some (a.1::split 43 b.1)else none
 else none
structure Obj where
 kind:UInt8
 ids:List B
 deriving DecidableEq
def Ma:B:=[98,108,111,98]
def L9:B:=[116,114,101,101]
def qo:B:=[99,111,109,109,105,116]
def parse(l:B):Option Obj:=
 let a:=cut 32 l
 if a.2.2&&dA l !=di then
  if a.1=Ma then(if line a.2.1 40 then some ⟨98,[]⟩else none)
  else if a.1=L9 then(tree a.2.1).map (⟨116,·⟩)
  else if a.1=qo then(ji a.2.1).map (⟨99,·⟩)
  else none
 else none
def aAy{p:UInt8->Bool}{l:B}{k:Nat}(h:k<l.length)(V:(l.take k).all p=true)(J:p l[k]=true):(l.take (k+1)).all p=true:=by rw[jy h,ot,V];simp[J]
def all_false{k p}{l:B}(h:k<l.length)(J:p l[k]=false):l.all p=false:=by rw[gN];intro ha;rw[ep]at ha;rw[ha _ (lj h)]at J;cases J
def aEn{c:UInt8}(h:(48<=(c.toNat:Int)/\(c.toNat:Int)<=57)\/(97<=(c.toNat:Int)/\(c.toNat:Int)<=102)):zx c=true:=by unfold zx;simp;omega
def aFf{c:UInt8}(h:((c.toNat:Int)<48\/57<(c.toNat:Int))/\((c.toNat:Int)<97\/102<(c.toNat:Int))):zx c=false:=by rw[gN];unfold zx;simp;omega
def aFa{c:UInt8}(h:97<=(c.toNat:Int)/\(c.toNat:Int)<=122):uW c=true:=by unfold uW;simp;omega
def aGy{c:UInt8}(h:(c.toNat:Int)<97\/122<(c.toNat:Int)):uW c=false:=by rw[gN];unfold uW;simp;omega
def aAi{c:UInt8}:∀{l:B} {k:Nat} (h:k<l.length),(∀j (hj:j<k),l[j]≠c)->l[k]=c->cut c l=(l.take k,l.drop (k+1),true)
 |x::r,0,_,_,he=>by
  have:x=c:=he;simp[cut,this]
 |x::r,k+1,h,Q,he=>by
  have E:x≠c:=Q 0 (by omega);have A:k<r.length:=by simpa using h
  have ih:=aAi (l:=r) (k:=k) A (λj hj=>by have:=Q (j+1) (by omega);simpa using this) (by simpa using he);simp[cut,E,ih]
def Nf{c}:∀{l},(∀j (hj:j<l.length),l[j]≠c)->cut c l=(l,[],false)
 |[],_=>rfl
 |x::r,Q=>by
  have E:x≠c:=Q 0 (by simp);have ih:=Nf (l:=r) (λj hj=>by have:=Q (j+1) (by simpa using hj);simpa using this);simp[cut,E,ih]
end Tx
section
open Tx
namespace Sp
def uH(x y:B):Bool:=decide (x<=y)
def si(x y:B):Bool:=decide (x<y)
abbrev M(α:Type):=List (B×α)
def M.get{α}(m:M α)(k:B):Option α:=(m.find? λp=>p.1==k).map (·.2)
def M.ins{α}(k:B)(v:α):M α->M α
 |[]=>[(k,v)]
 |p::r=>if si k p.1 then(k,v)::p::r else p::M.ins k v r
def M.del{α}(m:M α)(k:B):M α:=m.filter λp=>!(p.1==k)
def M.put{α}(m:M α)(k:B)(v:α):M α:=M.ins k v (m.del k)
structure nN where
 old:B
 new:B
 ref:B
 deriving DecidableEq
inductive Wk
 |read|lock|fin
 deriving DecidableEq
structure Cn where
 nL:B:=[]
 rest:B:=[]
 ended:Bool:=false
 second:Bool:=false
 done:Bool:=false
 au:List nN:=[]
 ah:List B:=[]
 over:Bool:=false
 bR:B:=[]
 bK:Bool:=false
 work:Option Wk:=some .read
 wants:List B:=[]
 deriving DecidableEq
structure St where
 forward:Bool
 room:Nat
 ah:M B
 refs:M B
 deriving DecidableEq
structure Sv where
 st:St
 aP:M Nat
 ae:List Cn
 over:Bool
 deriving DecidableEq
def bE(t:B):List B:=match parse t with
 |some o=>o.ids
 |none=>[]
def kindOf(t:B):UInt8:=match parse t with
 |some o=>o.kind
 |none=>0
def ZA(c:UInt8):Nat:=if c.toNat<=57 then c.toNat - 48 else c.toNat - 87
def dI(l:B):Nat:=l.foldl (λa c=>a*16+ZA c) 0
inductive Er
 |ok|more
 |refused (w:B)
 deriving DecidableEq
def nQ:B:=[112,97,99,107,101,116]
def fU:B:=[99,111,109,109,97,110,100]
def p9:B:=[116,119,105,99,101]
def uO:B:=[109,97,110,121]
def xc:B:=[98,101,104,105,110,100]
def wZ:B:=[111,98,106,101,99,116]
def Cn.A9(c:Cn):Er:=if c.ended then .refused nQ else .more
def Cn.next(c:Cn):Er×B×Bool×B:=
 if c.rest.length<4 then(c.A9,[],false,c.rest)
 else
  let h:=c.rest.take 4;let n:=dI h
  if !hex h||(n !=0&&decide (n<5))||decide (204<n)then(.refused nQ,[],false,c.rest)
  else if n=0 then(.ok,[],true,c.rest.drop 4)
  else if c.rest.length<n then(c.A9,[],false,c.rest)
  else(.ok,(c.rest.take n).drop 4,false,c.rest.drop n)
def oH(l:B):Bool:=decide (l.length=8)&&hex l
def zw(c:UInt8):Bool:=uW c||(decide (48<=c.toNat)&&decide (c.toNat<=57))||c==45
def pG:B:=[114,101,102,115,47]
def lJ(l:B):Bool:=pG.isPrefixOf l&&(decide (1<=(l.drop 5).length)&&decide ((l.drop 5).length<=12)&&(l.drop 5).all zw)
def Cn.command(c:Cn)(p:B)(flush:Bool):Er×Cn:=
 if flush&&decide (0<c.au.length)then(.ok,{c with second:=true})
 else if c.au.length=4 then(.refused uO,c)
 else match flush,split 32 p with
  |false,[a,b,r]=>
   if oH a&&oH b&&lJ r then
    if c.au.any (λm=>m.ref==r)then(.refused p9,c)else(.ok,{c with au:=c.au++[⟨a,b,r⟩]})
   else(.refused fU,c)
  |_,_=>(.refused fU,c)
def Cn.object(c:Cn)(p:B)(flush:Bool):Er×Cn:=
 if flush then(if c.rest=[]then .ok else .refused xc,{c with done:=true})
 else if c.ah.length=12 then(.refused uO,c)
 else if(parse p).isSome then(.ok,{c with ah:=c.ah++[p]})else(.refused wZ,c)
def Cn.aV(c:Cn):Er×Cn:=
 match c.next with
 |(.ok,p,f,r)=>if c.second then Cn.object {c with rest:=r} p f else Cn.command {c with rest:=r} p f
 |(e,_,_,_)=>(e,c)
def dB:B:=[117,110,112,97,99,107,32]
def nl:B:=[10]
def give(l:M Nat)(c:Nat):M Nat:=l.filter λp=>!(p.2==c+1)
def aD:List B->M B×Bool
 |l=>l.foldl (λ(a:M B×Bool) t=>
  match a.1.get (dA t)with
  |some u=>if u≠t then(a.1,true)else(a.1.put (dA t) t,a.2)
  |none=>(a.1.put (dA t) t,a.2)) ([],false)
def find(s:St)(p:M B)(id:B):Option B:=match p.get id with
 |some t=>some t
 |none=>s.ah.get id
def news(seen:List B):List B->List B
 |[]=>[]
 |n::r=>if seen.contains n then news seen r else n::news (seen++[n]) r
def Ew(beh:B->List B):Nat->List B->List B->List B
 |0,_,_=>[]
 |_,_,[]=>[]
 |n+1,seen,k::q=>k::Ew beh n (seen++news seen (beh k)) (q++news seen (beh k))
def names(s:St)(p:M B)(id:B):List B:=match find s p id with
 |some t=>bE t
 |none=>[]
def ek(t:B):Bool:=kindOf t==99
def Pe(t:B):Bool:=kindOf t==116
def parents(s:St)(p:M B)(id:B):List B:=match find s p id with
 |some t=>if ek t then(bE t).drop 1 else[]
 |none=>[]
def fuel(s:St)(p:M B):Nat:=1+((p.map λx=>(bE x.2).length).sum+(s.ah.map λx=>(bE x.2).length).sum)
def reach(s:St)(p:M B)(id:B):List B:=Ew (names s p) (fuel s p) [id] [id]
def line(s:St)(p:M B)(id:B):List B:=Ew (parents s p) (fuel s p) [id] [id]
def vo(k:UInt8):Nat->List (Option B)->Bool
 |_,[]=>true
 |i,n::r=>
  (if k=116 then !(match n with|some t=>ek t|none=>false)
   else if k=99 then(match n with|some t=>if i=0 then Pe t else ek t|none=>false)
   else true)&&vo k (i+1) r
def fits(s:St)(p:M B)(t:B):Bool:=vo (kindOf t) 0 ((bE t).map (find s p))
def rA:B:=[109,105,115,115,105,110,103]
def FL:B:=[116,121,112,101]
def jK:B:=[111,107]
def BS:B:=[115,116,97,108,101]
def BU:B:=[102,111,114,119,97,114,100]
def Qy:B:=[114,111,111,109]
def NU:B:=[99,108,97,115,104]
def rD:B:=[97,98,111,114,116,101,100]
def whole(s:St)(p:M B)(id:B):B:=
 if(reach s p id).any λk=>(find s p k).isNone then rA
 else if(reach s p id).all (λk=>match find s p k with|some t=>fits s p t|none=>true)&&(match find s p id with|some t=>ek t|none=>false)then[]
 else FL
def word(s:St)(p:M B)(c:nN):B:=
 if(match s.refs.get c.ref with|some v=>if v=[]then di else v|none=>di)≠c.old then BS
 else if c.new=di then jK
 else if whole s p c.new≠[]then whole s p c.new
 else if !s.forward||c.old=di then jK
 else if(line s p c.new).contains c.old then jK
 else BU
def kP(s:St)(p:M B)(cl:Bool):Bool:=p.any (λx=>match s.ah.get x.1 with|some t=>t≠x.2|none=>false)||cl
def fresh(s:St)(p:M B):Nat:=(p.filter λx=>(s.ah.get x.1).isNone).length
def take(s:St)(p:M B)(cs:List nN):St:=
 {s with ah:=p.foldl (λm x=>m.put x.1 x.2) s.ah,refs:=cs.foldl (λm c=>if c.new=di then m.del c.ref else m.put c.ref c.new) s.refs}
def dP(one:B)(all:Bool):List (nN×B)->B
 |[]=>[]
 |(c,w0)::r=>
  let w:=if one≠[]then one else if w0=jK&&!all then rD else w0
  (if w=jK then jK++[32]++c.ref++nl else[110,103,32]++c.ref++[32]++w++nl)++dP one all r
def oneOf(s:St)(p:M B)(cl all:Bool):B:=
 if kP s p cl then NU else if all&&decide (s.room<s.ah.length+fresh s p)then Qy else[]
def aW(s:St)(cs:List nN)(p:M B)(cl:Bool):B×St:=
 let ws:=cs.map (word s p);let all:=ws.all (·==jK);let one:=oneOf s p cl all
 (dB++jK++nl++dP one all (cs.zip ws),if all&&one==[]then take s p cs else s)
def Sv.set(s:Sv)(i:Nat)(c:Cn):Sv:={s with ae:=s.ae.set i c}
def Sv.work(s:Sv)(i:Nat)(c:Cn):Sv×Int:=
 match c.work with
 |some .read=>
  match c.aV with
  |(.refused w,d)=>({s with aP:=give s.aP i}.set i {d with bR:=dB++w++nl,bK:=true,work:=none},1)
  |(.more,d)=>(s.set i d,0)
  |(.ok,d)=>(s.set i (if d.done then {d with wants:=(d.wants++d.au.map (·.ref)).mergeSort uH,work:=some .lock}else d),1)
 |some .lock=>
  match c.wants with
  |[]=>
   let g:=aD c.ah;let r:=aW s.st c.au g.1 g.2
   ({s with st:=r.2}.set i {c with bR:=r.1,work:=some .fin},1)
  |w::ws=>if(s.aP.get w).getD 0=0 then({s with aP:=s.aP.put w (i+1)}.set i {c with wants:=ws},1)else(s,0)
 |some .fin=>({s with aP:=give s.aP i}.set i {c with bK:=true,work:=none},1)
 |none=>(s,0)
def Sv.conn(s:Sv)(c:Int):Option (Nat×Cn):=if c<0 then none else match s.ae[c.toNat]? with
 |some x=>if x.over then none else some (c.toNat,x)
 |none=>none
def Sv.mark(s:Sv)(i:Nat):Sv:=match s.ae[i]? with
 |some x=>if x.work.isNone then s.set i {x with over:=true}else s
 |none=>s
def Sv.step(s:Sv)(c:Int):Sv×Int:=match s.conn c with
 |none=>(s,-1)
 |some (i,x)=>((s.work i x).1.mark i,(s.work i x).2)
def Sv.lI(s:Sv)(i:Nat)(x:Cn):Sv:={s with aP:=give s.aP i}.set i {x with work:=none}
def Sv.drop(s:Sv)(c:Int):Sv×Bool:=match s.conn c with
 |none=>(s,false)
 |some (i,x)=>((s.lI i x).mark i,true)
def Sv.open_(s:Sv):Sv×Int:=if s.over||s.ae.length=8 then(s,-1)else({s with ae:=s.ae++[{}]},s.ae.length)
def Sv.feed(s:Sv)(c:Int)(t:B):Sv×Bool:=match s.conn c with
 |none=>(s,false)
 |some (i,x)=>if x.ended||decide (600<x.nL.length+t.length)then(s,false)else(s.set i {x with nL:=x.nL++t,rest:=x.rest++t},true)
def Sv.end_(s:Sv)(c:Int):Sv×Bool:=match s.conn c with
 |none=>(s,false)
 |some (i,x)=>(s.set i {x with ended:=true},true)
def Sv.bR(s:Sv)(c:Int):B×Bool:=if c<0 then([],false)else match s.ae[c.toNat]? with
 |some x=>if x.over&&x.bK then(x.bR,true)else([],false)
 |none=>([],false)
def Fb(forward:Bool)(room:Int):Sv:=⟨⟨forward,room.toNat,[],[]⟩,[],[],false⟩
end Sp
end
namespace Sp
open Tx
def ends(beh:B->List B):Nat->List B->List B->Prop
 |_,_,[]=>True
 |0,_,_::_=>False
 |n+1,seen,k::q=>ends beh n (seen++news seen (beh k)) (q++news seen (beh k))
def kV seen:∀l x,x∈news seen l↔x∈l/\x∉seen
 |[],x=>by simp[news]
 |n::r,x=>by
  unfold news;by_cases h:seen.contains n=true
  ·rw[bk h,kV seen r x];have Q:n∈seen:=by simpa using h
   constructor
   ·exact λa=>⟨bc _ a.1,a.2⟩
   ·rintro⟨a,b⟩;rcases bm.1 a with rfl|a
    ·exact absurd Q b
    ·exact⟨a,b⟩
  ·rw[aX h];have Q:n∉seen:=by simpa using h
   simp only[bm,kV (seen++[n]) r x,dg,cU,gb];constructor
   ·rintro(rfl|⟨a,b⟩)
    ·exact⟨.inl rfl,Q⟩
    ·exact⟨.inr a,λc=>b (.inl c)⟩
   ·rintro⟨rfl|a,b⟩
    ·exact .inl rfl
    ·by_cases e:x=n
     ·exact .inl e
     ·exact .inr ⟨a,λc=>c.elim b e⟩
def vN:∀l seen,(news seen l).Nodup
 |[],seen=>by simp[news]
 |n::r,seen=>by
  unfold news;split
  ·exact vN r seen
  ·refine js.2 ⟨λh=>?_,vN r _⟩;have:=((kV (seen++[n]) r n).1 h).2;simp at this
def jL(seen wO:List B):List B:=wO.filter λx=>!seen.contains x
def Ed:∀wO seen l,l.Nodup->(∀x∈l,x∈wO/\x∉seen)->(jL (seen++l) wO).length+l.length<=(jL seen wO).length
 |wO,seen,[],_,_=>by simp[jL]
 |wO,seen,a::l,hd,h=>by
  have J0:=js.1 hd;have ih:=Ed wO (seen++[a]) l J0.2 (λx E=>⟨(h x (bc _ E)).1,λe=>by
   rcases dg.1 e with e|e
   ·exact(h x (bc _ E)).2 e
   ·obtain rfl:=bW.1 e;exact J0.1 E⟩)
  have ha:=h a (bj ..);have V:(jL (seen++[a]) wO).length+1<=(jL seen wO).length:=by
   have e:jL (seen++[a]) wO=(jL seen wO).filter (λx=>!(x==a)):=by unfold jL;rw[List.filter_filter];congr 1;funext x;simp[Bool.and_comm];by_cases e1:x∈seen<;>by_cases e2:x=a<;>simp[e1,e2]
   rw[e];have hm:a∈jL seen wO:=ju.2 ⟨ha.1,by simpa using ha.2⟩;have:((jL seen wO).filter (λx=>!(x==a))).length<(jL seen wO).length:=by refine kB.2 ⟨a,hm,by simp⟩
   omega
  rw[fN]at ih;simp only[pS]at ih;simp only[bt];omega
def JA{beh wO}(hu:∀k,∀x∈beh k,x∈wO):∀n seen queue,queue.length+(jL seen wO).length<=n->ends beh n seen queue
 |n,seen,[],_=>by cases n<;>trivial
 |0,seen,k::q,h=>by simp at h
 |n+1,seen,k::q,h=>by
  unfold ends;refine JA hu n _ _ ?_;have:=Ed wO seen (news seen (beh k)) (vN _ _) (λx E=>⟨hu k x ((kV seen _ x).1 E).1,((kV seen _ x).1 E).2⟩);simp only[bt,b9]at h ⊢;omega
def wO(s:St)(p:M B):List B:=(p.map λx=>bE x.2).flatten++(s.ah.map λx=>bE x.2).flatten
def get_mem{α k}{m:M α}{v}(h:m.get k=some v):(k,v)∈m:=by
 unfold M.get at h;rw[aY]at h;obtain⟨p,hp,rfl⟩:=h;have V:=List.mem_of_find?_eq_some hp;have J:=List.find?_some hp;have:p.1=k:=by simpa using J
 rw[<-this];exact V
def M5{s p k t}(h:find s p k=some t):∀x∈bE t,x∈wO s p:=by
 intro x E;unfold wO;rw[dg];unfold find at h;split at h
 ·rename_i u hu;obtain rfl:=ay h;exact .inl (nx.2 ⟨_,ey.2 ⟨_,get_mem hu,rfl⟩,E⟩)
 ·exact .inr (nx.2 ⟨_,ey.2 ⟨_,get_mem h,rfl⟩,E⟩)
def Uy s p k:∀x∈names s p k,x∈wO s p:=by
 intro x E;unfold names at E;split at E
 ·rename_i t ht;exact M5 ht x E
 ·cases E
def La s p k:∀x∈parents s p k,x∈wO s p:=by
 intro x E;unfold parents at E;split at E
 ·rename_i t ht;split at E
  ·exact M5 ht x (qD E)
  ·cases E
 ·cases E
def M0 s p:fuel s p=1+(wO s p).length:=by unfold fuel wO;rw[b9,qY,qY,ll,ll];rfl
def Ef s p id:ends (names s p) (fuel s p) [id] [id]:=by refine JA (Uy s p) _ _ _ ?_;rw[M0];have:(jL [id] (wO s p)).length<=(wO s p).length:=gQ ..;simp;omega
def Jz s p id:ends (parents s p) (fuel s p) [id] [id]:=by refine JA (La s p) _ _ _ ?_;rw[M0];have:(jL [id] (wO s p)).length<=(wO s p).length:=gQ ..;simp;omega
inductive Rch(beh:B->List B)id:B->Prop
 |start:Rch beh id id
 |next{k n} :Rch beh id k->n∈beh k->Rch beh id n
def Hq{beh}{id}:∀n seen queue,(∀x∈queue,Rch beh id x)->∀x∈Ew beh n seen queue,Rch beh id x
 |0,_,_,_,x,E=>by simp[Ew]at E
 |_+1,_,[],_,x,E=>by simp[Ew]at E
 |n+1,seen,k::q,h,x,E=>by
  unfold Ew at E;rcases bm.1 E with rfl|E
  ·exact h _ (bj ..)
  ·refine Hq n _ _ (λy hy=>?_) x E;rcases dg.1 hy with hy|hy
   ·exact h y (bc _ hy)
   ·exact .next (h k (bj ..)) ((kV seen _ y).1 hy).1
def Ev{beh}:∀n (seen queue past:List B),ends beh n seen queue->(∀x∈seen,x∈past\/x∈queue)->(∀k∈past,∀y∈beh k,y∈seen)->
 (∀x∈queue,x∈Ew beh n seen queue)/\∀k,k∈past\/k∈Ew beh n seen queue->∀y∈beh k,y∈past\/y∈Ew beh n seen queue
 |n,seen,[],past,_,V,J=>by
  have e:Ew beh n seen []=[]:=by cases n<;>rfl
  rw[e];refine⟨(λx E=>absurd E (cU)),λk A y hy=>?_⟩;rcases A with A|A
  ·rcases V y (J k A y hy)with h|h
   ·exact .inl h
   ·cases h
  ·cases A
 |0,seen,k::q,past,he,_,_=>he.elim
 |n+1,seen,k::q,past,he,V,J=>by
  unfold ends at he;have ih:=Ev n (seen++news seen (beh k)) (q++news seen (beh k)) (k::past) he
   (λx E=>by
     rcases dg.1 E with E|E
     ·rcases V x E with h|h
      ·exact .inl (bc _ h)
      ·rcases bm.1 h with rfl|h
       ·exact .inl (bj ..)
       ·exact .inr (dg.2 (.inl h))
     ·exact .inr (dg.2 (.inr E)))
   (λz hz y hy=>by
     rcases bm.1 hz with rfl|hz
     ·by_cases hs:y∈seen
      ·exact dg.2 (.inl hs)
      ·exact dg.2 (.inr ((kV seen _ y).2 ⟨hy,hs⟩))
     ·exact dg.2 (.inl (J z hz y hy)))
  unfold Ew;refine⟨λx E=>?_,λz hz y hy=>?_⟩
  ·rcases bm.1 E with rfl|E
   ·exact bj ..
   ·exact bc _ (ih.1 x (dg.2 (.inl E)))
  ·have hz':z∈k::past\/z∈Ew beh n (seen++news seen (beh k)) (q++news seen (beh k)):=by
    rcases hz with h|h
    ·exact .inl (bc _ h)
    ·rcases bm.1 h with rfl|h
     ·exact .inl (bj ..)
     ·exact .inr h
   rcases ih.2 z hz' y hy with h|h
   ·rcases bm.1 h with rfl|h
    ·exact .inr (bj ..)
    ·exact .inl h
   ·exact .inr (bc _ h)
def aDm{beh n}{id x}(he:ends beh n [id] [id]):x∈Ew beh n [id] [id]↔Rch beh id x:=by
 refine⟨Hq n [id] [id] (λy hy=>by obtain rfl:=bW.1 hy;exact .start) x,λh=>?_⟩;have c:=Ev n [id] [id] [] he (λy hy=>.inr hy) (λy hy=>by cases hy)
 induction h with
 |start=>exact c.1 id (bW.2 rfl)
 |next _ Q ih=>exact(c.2 _ (.inr ih) _ Q).resolve_left (λh=>by cases h)
def T9 s p id x:x∈reach s p id↔Rch (names s p) id x:=aDm (Ef s p id)
end Sp
namespace Rc
open Tx Sp
def dW:B->B->List B
 |_,[]=>[]
 |a,x::r=>if x=10 then a::dW [] r else dW (a++[x]) r
def lines(r:B):List B:=dW [] r
def pOk:B:=[111,107,32]
def pNg:B:=[110,103,32]
def rq:List B->Option Nat
 |[]=>some 0
 |l::r=>if decide (3<l.length)&&(l.take 3==pOk)then(rq r).map (·+1)else if decide (l.length<3)||!(l.take 3==pNg)then none else rq r
def kD:B:=dB++jK
def kZ(r:B):Bool×Bool:=
 let l:=lines r
 match l with
 |[]=>(false,false)
 |[_]=>(false,decide (8<r.length)&&(r.take 7==dB)&&!(r==kD++nl))
 |h::t=>match rq t with
  |none=>(false,false)
  |some n=>(decide (0<n),(h==kD)&&(n==0||n==t.length))
def ny:Nat->Sv->Int->Sv
 |0,s,_=>s
 |k+1,s,c=>if(s.step c).2=1 then ny k (s.step c).1 c else(s.step c).1
def IA{c x st' l' d k}{s:Sv}(h:s.ae[c]? =some x)(ho:x.over=false)
 (hw:s.work c x=(Sv.set {s with st:=st',aP:=l'} c d,k)):
 s.step (c:Int)=({s with st:=st',aP:=l',ae:=s.ae.set c (if d.work.isNone then {d with over:=true}else d)},k):=by
 have tP:c<s.ae.length:=(bA.1 h).1;have L:s.conn (c:Int)=some (c,x):=by unfold Sv.conn;rw[aX (by omega),pd,h];simp[ho]
 unfold Sv.step;rw[L];simp only[hw];unfold Sv.mark Sv.set;simp only[mj tP];cases hd:d.work.isNone<;>simp
end Rc
namespace Sp
open Tx
def vQ a:si a a=false:=by unfold si;simp[List.lt_irrefl]
def zq{a b c}(h:si a b=true)(k:si b c=true):si a c=true:=by unfold si at *;simp only[cN]at *;exact List.lt_trans h k
def vP{a b}(h:si a b=true):a≠b:=λe=>by rw[e,vQ]at h;cases h
def Gv{a b}(h:si a b=false)(Q:a≠b):si b a=true:=by unfold si at *;simp only[cN,pB]at *;have:b<=a:=tI.1 h;exact fS λhh=>Q (sL (tI.1 hh) this)
namespace M
variable {α:Type}
def Up(m:M α):Prop:=m.Pairwise λp q=>si p.1 q.1=true
def get_nil k:M.get ([]:M α) k=none:=rfl
def bG p(m:M α)k:M.get (p::m) k=if p.1=k then some p.2 else M.get m k:=by
 unfold M.get;rw[pP];by_cases h:p.1=k
 ·simp[h]
 ·have:(p.1==k)=false:=by simpa using h
  simp[this,h]
def get_some{k v}{m:M α}(h:M.get m k=some v):(k,v)∈m:=by
 induction m with
 |nil=>cases h
 |cons p m ih=>
  rw[bG]at h;split at h
  ·rename_i e;obtain rfl:=ay h;rw[<-e];exact bj ..
  ·exact bc _ (ih h)
def get_of_mem{k v}{m:M α}(hu:Up m)(h:(k,v)∈m):M.get m k=some v:=by
 induction m with
 |nil=>cases h
 |cons p m ih=>
  have UR:=fX.1 hu;rw[bG];rcases bm.1 h with e|e
  ·rw[<-e];simp
  ·have:=vP (UR.1 _ e);rw[aX this];exact ih UR.2 e
def Jt(m:M α)k x:M.get (M.del m k) x=if x=k then none else M.get m x:=by
 unfold M.del
 induction m with
 |nil=>simp[M.get]
 |cons p m ih=>
  by_cases h:p.1=k
  ·rw[lG (by simp[h]),ih,bG];by_cases e:x=k
   ·simp[e]
   ·rw[aX e,aX e,aX (λa=>e (a.symm.trans h))]
  ·rw[lK (by simp[h]),bG,bG,ih];by_cases e:x=k
   ·subst e;simp[h]
   ·simp[e]
def aAh{m:M α}(h:Up m)k:Up (M.del m k):=h.sublist (rk ..)
def Bz{k p}{m:M α}:p∈M.del m k↔p∈m/\p.1≠k:=by unfold M.del;rw[ju];simp
def I8{k p}{v:α}:∀{m},p∈M.ins k v m↔p=(k,v)\/p∈m
 |[]=>by simp[M.ins]
 |q::m=>by
  unfold M.ins;split
  ·simp
  ·simp only[bm,I8 (m:=m)];exact⟨λh=>by rcases h with h|h|h<;>simp[h],λh=>by rcases h with h|h|h<;>simp[h]⟩
def YS{k}{v:α}:∀{m},Up m->(∀p∈m,p.1≠k)->Up (M.ins k v m)
 |[],_,_=>by simp[M.ins,Up]
 |q::m,h,A=>by
  have h':=fX.1 h;unfold M.ins;split
  ·rename_i tP;refine fX.2 ⟨λp hp=>?_,h⟩;rcases bm.1 hp with rfl|hp
   ·exact tP
   ·exact zq tP (h'.1 p hp)
  ·rename_i tP;have tP:si k q.1=false:=by cases hh:si k q.1 with
    |false=>rfl
    |true=>exact absurd hh tP
   refine fX.2 ⟨λp hp=>?_,YS h'.2 (λp hp=>A p (bc _ hp))⟩;rcases I8.1 hp with rfl|hp
   ·exact Gv tP (λe=>A q (bj ..) e.symm)
   ·exact h'.1 p hp
def IV{m:M α}(h:Up m)k v:Up (M.put m k v):=by unfold M.put;exact YS (aAh h k) (λp hp=>(Bz.1 hp).2)
def uo{k v p}{m:M α}:p∈M.put m k v↔p=(k,v)\/(p∈m/\p.1≠k):=by unfold M.put;rw[I8,Bz]
def yu k(v:α):∀{m},(∀p∈m,p.1≠k)->M.get (M.ins k v m) k=some v
 |[],_=>by simp[M.ins,M.get]
 |q::m,h=>by
  unfold M.ins;split
  ·rw[bG];simp
  ·rw[bG,aX (h q (bj ..))];exact yu k v (λp hp=>h p (bc _ hp))
def vk k x(v:α)(E:x≠k):∀m,M.get (M.ins k v m) x=M.get m x
 |[]=>by unfold M.ins;rw[bG,aX (λe=>E e.symm)]
 |q::m=>by
  unfold M.ins;split
  ·rw[bG,aX (λe=>E e.symm)]
  ·rw[bG,bG,vk k x v E m]
def get_put(m:M α)k x v:M.get (M.put m k v) x=if x=k then some v else M.get m x:=by
 unfold M.put;by_cases e:x=k
 ·subst e;rw[bk rfl];exact yu _ _ (λp hp=>(Bz.1 hp).2)
 ·rw[aX e,vk k x v e,Jt,aX e]
def uV(m:M α)k:(M.del m k).length<=m.length:=gQ ..
def vT k v:∀m:M α,(M.ins k v m).length=m.length+1
 |[]=>rfl
 |q::m=>by
  unfold M.ins;split
  ·rfl
  ·simp[vT k v m]
def gU(m:M α)k v:(M.put m k v).length<=m.length+1:=by unfold M.put;rw[vT];have:=uV m k;omega
def DJ{k v}{m:M α}(h:M.get m k=some v):(M.del m k).length<m.length:=by unfold M.del;exact kB.2 ⟨(k,v),get_some h,by simp⟩
def DF{k u}{m:M α}v(h:M.get m k=some u):(M.put m k v).length<=m.length:=by unfold M.put;rw[vT];have:=DJ h;omega
def MX(l:M α):∀m x,Up l->M.get (l.foldl (λm p=>M.put m p.1 p.2) m) x=match M.get l x with|some v=>some v|none=>M.get m x:=by
 induction l with
 |nil=>intro m x _;rfl
 |cons p l ih=>
  intro m x hu;have UR:=fX.1 hu;rw[ij,ih _ x UR.2,bG,get_put];by_cases e:p.1=x
  ·subst e;have:M.get l p.1=none:=by
    cases h:M.get l p.1 with
    |none=>rfl
    |some v=>exact absurd rfl (vP (UR.1 (p.1,v) (get_some h)))
   rw[this];simp
  ·rw[aX e,aX (λa=>e a.symm)]
def H9(l:M α):∀m,Up m->Up (l.foldl (λm p=>M.put m p.1 p.2) m):=by
 induction l with
 |nil=>intro m h;exact h
 |cons p l ih=>intro m h;rw[ij];exact ih _ (IV h _ _)
def LD(l:M α):∀m,Up l->(l.foldl (λm p=>M.put m p.1 p.2) m).length<=m.length+(l.filter λp=>(M.get m p.1).isNone).length:=by
 induction l with
 |nil=>intro m _;simp
 |cons p l ih=>
  intro m hu;have UR:=fX.1 hu;rw[ij];refine cV (ih _ UR.2) ?_;have e:(l.filter λq=>(M.get (M.put m p.1 p.2) q.1).isNone)=l.filter λq=>(M.get m q.1).isNone:=by refine List.filter_congr λq hq=>?_;rw[get_put,aX (λe=>vP (UR.1 q hq) e.symm)]
  rw[e];cases h:M.get m p.1 with
  |none=>rw[lK (by simp[h])];have:=gU m p.1 p.2;simp only[bt];omega
  |some v=>rw[lG (by simp[h])];have:=DF p.2 h;omega
end M
open Rc
def zt:∀(x a r:B),(∀c∈x,c≠10)->dW a (x++10::r)=(a++x)::dW [] r
 |[],a,r,_=>by
  show dW a (10::r)=_;rw[dW,bk rfl,jb]
 |c::x,a,r,h=>by
  have L:¬c=10:=h c (bj ..);show(if c=10 then a::dW [] (x++10::r)else dW (a++[c]) (x++10::r))=_;rw[aX L,zt x _ r (λy hy=>h y (bc _ hy))];simp
def jJ(one:B)(all:Bool)(w0:B):B:=if one≠[]then one else if w0=jK&&!all then rD else w0
def iT(one:B)(all:Bool)(x:nN×B):B:=if jJ one all x.2=jK then jK++[32]++x.1.ref else[110,103,32]++x.1.ref++[32]++jJ one all x.2
def IL one all x r:dP one all (x::r)=iT one all x++10::dP one all r:=by obtain⟨c,w0⟩:=x;show(if jJ one all w0=jK then jK++[32]++c.ref++nl else[110,103,32]++c.ref++[32]++jJ one all w0++nl)++dP one all r=(if jJ one all w0=jK then jK++[32]++c.ref else[110,103,32]++c.ref++[32]++jJ one all w0)++10::dP one all r;split<;>simp[nl]
def flat(l:B):Prop:=∀c∈l,c≠10
def sO{a b}(h:flat a)(k:flat b):flat (a++b):=λc L=>by
 rcases dg.1 L with L|L
 ·exact h c L
 ·exact k c L
def j4{l}(h:l.all (λc=>!(c==10))=true):flat l:=λc L e=>by
 have:=ep.1 h c L;subst e;simp at this
def XY{r}(h:lJ r=true):flat r:=by
 unfold lJ at h;simp only[bw,oT,cN]at h;obtain⟨⟨t,rfl⟩,_,h⟩:=h;refine sO (j4 (by decide)) λc L=>?_;have e:(pG++t).drop 5=t:=by rw[List.drop_append_of_le_length (by decide)];rfl
 rw[e]at h;have:=ep.1 h c L;rintro rfl;revert this;decide
def QS{r}(h:lJ r=true):r.length<=17:=by unfold lJ at h;simp only[bw,oT,cN,gh]at h;have:=h.2.1.2;omega
def Al one all(ho:flat one):∀l:List (nN×B),(∀x∈l,flat x.1.ref/\flat x.2)->dW [] (dP one all l)=l.map (iT one all)
 |[],_=>rfl
 |x::l,h=>by
  rw[IL,zt,Al one all ho l (λy hy=>h y (bc _ hy))]
  ·rfl
  ·obtain⟨V,J⟩:=h x (bj ..);have hw:flat (jJ one all x.2):=by
    unfold jJ;split
    ·exact ho
    ·split
     ·exact j4 (by decide)
     ·exact J
   show flat (iT one all x);unfold iT;split
   ·exact sO (j4 (by decide)) V
   ·exact sO (sO (sO (j4 (by decide)) V) (j4 (by decide))) hw
def QY one all:∀l:List (nN×B),(∀x∈l,x.1.ref≠[]/\jJ one all x.2=jK)->rq (l.map (iT one all))=some l.length
 |[],_=>rfl
 |x::l,h=>by
  obtain⟨V,J⟩:=h x (bj ..);show rq (iT one all x::l.map (iT one all))=_;have e:iT one all x=jK++[32]++x.1.ref:=by unfold iT;rw[bk J]
  have hl:0<x.1.ref.length:=ly.2 V;unfold rq;rw[e,bk,QY one all l (λy hy=>h y (bc _ hy))]
  ·rfl
  ·simp only[bw,cN];refine⟨?_,rfl⟩;simp[jK];omega
def Dn one all:∀l:List (nN×B),(∀x∈l,jJ one all x.2≠jK)->rq (l.map (iT one all))=some 0
 |[],_=>rfl
 |x::l,h=>by
  have J:=h x (bj ..);show rq (iT one all x::l.map (iT one all))=_;have e:iT one all x=[110,103,32]++x.1.ref++[32]++jJ one all x.2:=by unfold iT;rw[aX J]
  unfold rq;rw[e,aX,aX,Dn one all l (λy hy=>h y (bc _ hy))]
  ·simp only[fL,cN,my,tv];exact⟨by simp,by simp[pNg]⟩
  ·simp[pOk]
def FD{one all}{l:List (nN×B)}(hl:l≠[])(ho:flat one/\one≠jK)(h:∀x∈l,flat x.1.ref/\x.1.ref≠[]/\flat x.2)(ha:all=true->∀x∈l,x.2=jK):
 (kZ (dB++jK++nl++dP one all l)).2=true:=by
 have e:lines (dB++jK++nl++dP one all l)=kD::l.map (iT one all):=by
  show dW [] (dB++jK++[10]++dP one all l)=_;have:dB++jK++[10]++dP one all l=kD++10::dP one all l:=by simp[kD]
  rw[this,zt _ _ _ (j4 (by decide)),Al one all ho.1 l (λx E=>⟨(h x E).1,(h x E).2.2⟩)];rfl
 have A:rq (l.map (iT one all))=some 0\/rq (l.map (iT one all))=some l.length:=by
  by_cases V:one=[]
  ·subst V;cases all with
   |true=>exact .inr (QY _ _ _ λx E=>⟨(h x E).2.1,by unfold jJ;simp;exact ha rfl x E⟩)
   |false=>
    refine .inl (Dn _ _ _ λx _=>?_);unfold jJ;simp only[ne_eq,not_true_eq_false,cz,Bool.not_false,Bool.and_true,cN];split
    ·decide
    ·assumption
  ·exact .inl (Dn _ _ _ λx _=>by unfold jJ;rw[bk V];exact ho.2)
 unfold kZ;simp only[e];obtain⟨y,l',rfl⟩:∃y l',l=y::l':=by cases l with
  |nil=>exact absurd rfl hl
  |cons y l'=>exact⟨y,l',rfl⟩
 simp only[gA]at A ⊢;rcases A with A|A
 ·simp[A]
 ·simp[A]
def aMP{α:Type}{c d}[Decidable c][Decidable d](x y z:α):(if c then x else if d then y else z)=x\/(if c then x else if d then y else z)=y\/(if c then x else if d then y else z)=z:=by
 by_cases h:c
 ·rw[bk h];exact .inl rfl
 ·rw[aX h];by_cases k:d
  ·rw[bk k];exact .inr (.inl rfl)
  ·rw[aX k];exact .inr (.inr rfl)
def zV s p id:whole s p id=rA\/whole s p id=[]\/whole s p id=FL:=by unfold whole;exact aMP _ _ _
def Sl s p c:flat (word s p c):=by
 unfold word
 repeat' split
 all_goals first|exact j4 (by decide)|(rcases zV s p c.new with h|h|h<;>rw[h]<;>exact j4 (by decide))
def V8{hk hx}[Decidable hk][Decidable hx]{w r}(hw:w=rA\/w=[]\/w=FL)(h:(if hk then BS else if hx then jK else if w≠[]then w else r)=jK)(hz:¬hx):w=[]:=by
 by_cases hA:hk
 ·rw[bk hA]at h;exact absurd h (by decide)
 ·rw[aX hA,aX hz]at h;rcases hw with k|k|k
  ·subst k;rw[bk (by decide)]at h;exact absurd h (by decide)
  ·exact k
  ·subst k;rw[bk (by decide)]at h;exact absurd h (by decide)
def Qx{s p c}(h:word s p c=jK)(hz:c.new≠di):whole s p c.new=[]:=by unfold word at h;exact V8 (zV s p c.new) h hz
def Le s p cl all:oneOf s p cl all=NU\/oneOf s p cl all=Qy\/oneOf s p cl all=[]:=by
 unfold oneOf;split
 ·exact .inl rfl
 ·split
  ·exact .inr (.inl rfl)
  ·exact .inr (.inr rfl)
def Sn{c d}[Decidable c][Decidable d](h:(if c then rA else if d then[]else FL)=[]):¬c/\d:=by
 by_cases L:c
 ·rw[bk L]at h;exact absurd h (by decide)
 ·rw[aX L]at h;by_cases hd:d
  ·exact⟨L,hd⟩
  ·rw[aX hd]at h;exact absurd h (by decide)
def FK{s p}{id}(h:whole s p id=[]):(∃t,find s p id=some t/\ek t=true)/\∀k,Rch (names s p) id k->∃t,find s p k=some t/\fits s p t=true:=by
 have hh:=h;unfold whole at h;have h3:=Sn h;clear h;by_cases E:False
 ·exact E.elim
 ·have V:=h3.1;by_cases E:True
  ·have J:=h3.2;simp only[bw,ep]at J;refine⟨?_,λk A=>?_⟩
   ·cases hf:find s p id with
    |none=>rw[hf]at J;simp at J
    |some t=>rw[hf]at J;exact⟨t,rfl,J.2⟩
   ·have hm:=(T9 s p id k).2 A;cases hf:find s p k with
    |none=>exact absurd (gR.2 ⟨k,hm,by simp[hf]⟩) V
    |some t=>have:=J.1 k hm;rw[hf]at this;exact⟨t,rfl,this⟩
  ·exact absurd trivial E
structure Qj(s:St):Prop where
 upO:M.Up s.ah
 upR:M.Up s.refs
 own:∀p∈s.ah,(parse p.2).isSome=true/\dA p.2=p.1
 room:s.ah.length<=s.room
 com:∀p∈s.refs,∃t,s.ah.get p.2=some t/\ek t=true
 refs:∀p∈s.refs,∀k,Rch (names s []) p.2 k->∃t,s.ah.get k=some t/\fits s [] t=true
def Ec s k:find s [] k=s.ah.get k:=rfl
structure VD p:Prop where
 up:M.Up p
 own:∀x∈p,(parse x.2).isSome=true/\dA x.2=x.1
def Ha:∀(l:List B) a,VD a.1->(∀t∈l,(parse t).isSome=true)->VD (l.foldl (λ(a:M B×Bool) t=>
 match a.1.get (dA t)with
 |some u=>if u≠t then(a.1,true)else(a.1.put (dA t) t,a.2)
 |none=>(a.1.put (dA t) t,a.2)) a).1
 |[],a,h,_=>h
 |t::l,a,h,hl=>by
  rw[ij];refine Ha l _ ?_ (λu hu=>hl u (bc _ hu));have hp:VD (a.1.put (dA t) t):=⟨M.IV h.up _ _,λx E=>by
   rcases M.uo.1 E with rfl|⟨E,_⟩
   ·exact⟨hl t (bj ..),rfl⟩
   ·exact h.own x E⟩
  split
  ·split
   ·exact h
   ·exact hp
  ·exact hp
def sJ{l}(h:∀t∈l,(parse t).isSome=true):VD (aD l).1:=Ha l ([],false) ⟨mB,λx E=>by cases E⟩ h
def vH(cs:List nN):∀(m:M B) p,p∈cs.foldl (λm c=>if c.new=di then m.del c.ref else m.put c.ref c.new) m->p∈m\/∃c∈cs,c.new≠di/\p=(c.ref,c.new):=by
 induction cs with
 |nil=>intro m p h;exact .inl h
 |cons c cs ih=>
  intro m p h;rw[ij]at h;rcases ih _ p h with h|⟨d,hd,V,J⟩
  ·split at h
   ·exact .inl (M.Bz.1 h).1
   ·rename_i hz;rcases M.uo.1 h with h|h
    ·exact .inr ⟨c,bj ..,hz,h⟩
    ·exact .inl h.1
  ·exact .inr ⟨d,bc _ hd,V,J⟩
def aBW(cs:List nN):∀m,M.Up m->M.Up (cs.foldl (λm c=>if c.new=di then m.del c.ref else m.put c.ref c.new) m):=by
 induction cs with
 |nil=>intro m h;exact h
 |cons c cs ih=>
  intro m h;rw[ij];refine ih _ ?_;split
  ·exact M.aAh h _
  ·exact M.IV h _ _
def M4 k:∀i l m,l=m->vo k i l=vo k i m:=λ_ _ _ e=>by rw[e]
def aBl{s p cs cl}(hs:Qj s)(hp:VD p)(hw:∀c∈cs,word s p c=jK)(ho:oneOf s p cl true=[]):Qj (take s p cs):=by
 have L:kP s p cl=false:=by
  cases h:kP s p cl with
  |false=>rfl
  |true=>unfold oneOf at ho;rw[h,bk rfl]at ho;exact absurd ho (by decide)
 have CD:s.ah.length+fresh s p<=s.room:=by
  unfold oneOf at ho;rw[L]at ho;simp only[bh,cz,jD,cN]at ho;split at ho
  ·exact absurd ho (by decide)
  ·omega
 have iP:∀k,(take s p cs).ah.get k=find s p k:=λk=>by
  show M.get (p.foldl (λm x=>m.put x.1 x.2) s.ah) k=_;rw[M.MX p _ _ hp.up];unfold find;cases M.get p k<;>rfl
 have hf:find (take s p cs) []=find s p:=funext iP;have Q:names (take s p cs) []=names s p:=by unfold names;rw[hf]
 have PG:fits (take s p cs) []=fits s p:=by unfold fits;rw[hf]
 have gz:∀k t,s.ah.get k=some t->find s p k=some t:=λk t A=>by
  unfold find;cases h:M.get p k with
  |none=>exact A
  |some u=>
   by_cases e:u=t
   ·rw[e]
   ·have:kP s p cl=true:=by
     unfold kP;rw[fL];refine .inl (gR.2 ⟨(k,u),M.get_some h,?_⟩);simp only[A];simpa using λe'=>e e'.symm
    rw[L]at this;cases this
 have hold:∀q∈s.refs,∀k,Rch (names s p) q.2 k->Rch (names s []) q.2 k/\∃t,s.ah.get k=some t/\fits s [] t=true:=by
  intro q hq k A
  induction A with
  |start=>exact⟨.start,hs.refs q hq _ .start⟩
  |next V J ih=>
   rename_i a b;obtain⟨r,t,ht,hfi⟩:=ih;have hb:b∈names s [] a:=by unfold names at J ⊢;rw[gz a t ht]at J;rw[Ec,ht];exact J
   exact⟨.next r hb,hs.refs q hq _ (.next r hb)⟩
 refine⟨M.H9 p _ hs.upO,aBW cs _ hs.upR,λx E=>?_,?_,λq hq=>?_,λq hq k A=>?_⟩
 ·have fI:M.get (take s p cs).ah x.1=some x.2:=M.get_of_mem (M.H9 p _ hs.upO) E;rw[iP]at fI;unfold find at fI;split at fI
  ·rename_i t ht;obtain rfl:=ay fI;exact hp.own (x.1,_) (M.get_some ht)
  ·exact hs.own (x.1,x.2) (M.get_some fI)
 ·exact cV (M.LD p _ hp.up) CD
 ·rw[iP];rcases vH cs _ q hq with h|⟨c,F0,hz,rfl⟩
  ·obtain⟨t,ht,hct⟩:=hs.com q h;exact⟨t,gz _ _ ht,hct⟩
  ·exact(FK (Qx (hw c F0) hz)).1
 ·rw[iP,PG];rw[Q]at A;rcases vH cs _ q hq with h|⟨c,F0,hz,rfl⟩
  ·obtain⟨r,t,ht,hfi⟩:=hold q h k A;refine⟨t,gz _ _ ht,?_⟩;rw[<-hfi];unfold fits;refine M4 _ _ _ _ (List.map_congr_left λy hy=>?_);have hyn:y∈names s [] k:=by unfold names;rw[Ec,ht];exact hy
   obtain⟨u,hu,_⟩:=hs.refs q h y (.next r hyn);rw[gz y u hu,Ec,hu]
  ·exact(FK (Qx (hw c F0) hz)).2 k A
def Vm{s p cs cl}(hs:Qj s)(hp:VD p):Qj (aW s cs p cl).2:=by
 unfold aW;simp only;split
 ·rename_i h;simp only[bw,jA]at h;have ha:∀c∈cs,word s p c=jK:=λc L=>by
   have:=ep.1 h.1 (word s p c) (ey.2 ⟨c,L,rfl⟩);simpa using this
  refine aBl (cl:=cl) hs hp ha ?_;have J:=h.2;rw[h.1]at J;exact J
 ·exact hs
def Na{s cs p cl}:∀q∈(aW s cs p cl).2.refs,q∈s.refs\/q.1∈cs.map (·.ref):=by
 intro q hq;unfold aW at hq;simp only at hq;split at hq
 ·rcases vH cs _ q hq with h|⟨c,L,_,rfl⟩
  ·exact .inl h
  ·exact .inr (ey.2 ⟨c,L,rfl⟩)
 ·exact .inl hq
def AJ{s cs p cl}:(aW s cs p cl).2.room=s.room/\(aW s cs p cl).2.forward=s.forward:=by
 unfold aW;simp only;split
 ·exact⟨rfl,rfl⟩
 ·exact⟨rfl,rfl⟩
def aCN(r:B):Prop:=(kZ r).2=true/\r.length<=1000
def J8 s p c:(word s p c).length<=7:=by
 unfold word
 repeat' split
 all_goals first|decide|(rcases zV s p c.new with h|h|h<;>rw[h]<;>decide)
def aCw{one:B}{all:Bool}(ho:one.length<=7):∀l:List (nN×B),(∀x∈l,x.1.ref.length<=17/\x.2.length<=7)->(dP one all l).length<=40*l.length
 |[],_=>aI _
 |(c,w)::l,h=>by
  have ih:=aCw (all:=all) ho l λx E=>h x (bc _ E);obtain⟨V,J⟩:=h (c,w) (bj ..);have V:c.ref.length<=17:=V;have J:w.length<=7:=J;have e1:jK.length=2:=rfl;have e2:rD.length=7:=rfl;have e3:nl.length=1:=rfl;unfold dP;simp only[b9,bt]
  repeat' split
  all_goals simp only[b9,bt,dt]at *;omega
def JB{s:St}{p:M B}{cs:List nN}{cl:Bool}(L:cs≠[])(h4:cs.length<=4)(Y:∀c∈cs,lJ c.ref=true):aCN (aW s cs p cl).1:=by
 unfold aCN;unfold aW;simp only;have hz:∀x∈cs.zip (cs.map (word s p)),x.1∈cs/\x.2=word s p x.1:=by
  intro x E;rw[List.zip_map_right,ey]at E;obtain⟨y,hy,rfl⟩:=E;have V:=(s6 hy).1;have e:y.1=y.2:=by
   have:∀(l:List nN) (y:nN×nN),y∈l.zip l->y.1=y.2:=by
    intro l
    induction l with
    |nil=>intro y hy;cases hy
    |cons a l ih=>
     intro y hy;rw[rI]at hy;rcases bm.1 hy with rfl|hy
     ·rfl
     ·exact ih y hy
   exact this cs y hy
  exact⟨V,by show word s p y.2=_;rw[<-e];rfl⟩
 refine⟨FD ?_ ?_ (λx E=>?_) (λha x E=>?_),?_⟩
 ·cases cs with
  |nil=>exact absurd rfl L
  |cons c cs=>simp
 ·rcases Le s p cl ((cs.map (word s p)).all (·==jK))with h|h|h<;>rw[h]<;>exact⟨j4 (by decide),by decide⟩
 ·obtain⟨V,J⟩:=hz x E;refine⟨XY (Y _ V),λe=>?_,by rw[J];exact Sl s p x.1⟩;have:=Y _ V;rw[e]at this;exact absurd this (by decide)
 ·obtain⟨V,J⟩:=hz x E;have:=ep.1 ha (word s p x.1) (ey.2 ⟨_,V,rfl⟩);rw[J];simpa using this
 ·have:=aCw (all:=(cs.map (word s p)).all (·==jK)) (one:=oneOf s p cl ((cs.map (word s p)).all (·==jK))) (by rcases Le s p cl ((cs.map (word s p)).all (·==jK))with h|h|h<;>rw[h]<;>decide) (cs.zip (cs.map (word s p))) λx E=>by
   obtain⟨V,J⟩:=hz x E;exact⟨QS (Y _ V),by rw[J];exact J8 ..⟩
  have e1:(dB++jK++nl).length=10:=rfl;have e2:(cs.zip (cs.map (word s p))).length=cs.length:=by simp
  rw[b9,e1];omega
structure yI(q:Bool)(x:Cn):Prop where
 nL:x.nL.length<=600
 rest:x.rest.length<=x.nL.length
 Dw:x.au.length<=4
 I5:x.ah.length<=12
 cmd:∀m∈x.au,oH m.old=true/\oH m.new=true/\lJ m.ref=true
 twice:(x.au.map (·.ref)).Nodup
 obj:∀t∈x.ah,(parse t).isSome=true
 sec:x.second=true->x.au≠[]
 done:x.done=true->x.second=true
 read:x.work=some .read->x.wants=[]/\x.over=false
 lock:x.work=some .lock->(x.wants.Pairwise λa b=>si a b=true)/\(∀w∈x.wants,w∈x.au.map (·.ref))/\x.over=false/\x.au≠[]
 fin:x.work=some .fin->x.over=false/\aCN x.bR
 over:x.work=none->x.over=true/\(x.bK=true->aCN x.bR)/\(q=true->x.bK=true)
 rep:x.bK=true->x.work=none
def JR(k:B)(x:Cn):Prop:=k∈x.au.map (·.ref)/\((x.work=some .lock/\∀w∈x.wants,si k w=true)\/x.work=some .fin)
structure oW q(s:Sv):Prop where
 Bl:s.ae.length<=8
 cn:∀(i:Nat) x,s.ae[i]? =some x->yI q x
 up:M.Up s.aP
 held:∀p∈s.aP,∃(i:Nat) (x:Cn),p.2=i+1/\s.ae[i]? =some x/\JR p.1 x
 st:Qj s.st
 rf:∀p∈s.st.refs,∃(i:Nat) (x:Cn),s.ae[i]? =some x/\p.1∈x.au.map (·.ref)
def oW.new q forward room:oW q (Fb forward room):=by refine⟨cQ _,λi x h=>?_,mB,λp hp=>(by cases hp),⟨mB,mB,λp hp=>(by cases hp),cQ _,λp hp=>(by cases hp),λp hp=>(by cases hp)⟩,λp hp=>(by cases hp)⟩;simp[Fb]at h
def oW.open_{q s}(h:oW q s):oW q s.open_.1:=by
 unfold Sv.open_;split
 ·exact h
 ·rename_i L;simp only[fL,cN,tv]at L;have iP:∀(i:Nat) (x:Cn),s.ae[i]? =some x->(s.ae++[({}:Cn)])[i]? =some x:=λi x E=>by
   rw[fy (bA.1 E).1];exact E
  refine⟨?_,λi x E=>?_,h.up,λp hp=>?_,h.st,λp hp=>?_⟩
  ·have:=h.Bl;simp only[b9,ki];omega
  ·by_cases hi:i<s.ae.length
   ·exact h.cn i x (by simpa [fy hi]using E)
   ·simp only[iz (sR hi)]at E;have:x={}:=by
     have:=cM E;simpa using this
    subst this;exact⟨by simp,by simp,by simp,by simp,by simp,by simp,by simp,by simp,by simp,by simp,by simp,by simp,by simp,by simp⟩
  ·obtain⟨i,x,V,J,h3⟩:=h.held p hp;exact⟨i,x,V,iP i x J,h3⟩
  ·obtain⟨i,x,J,h3⟩:=h.rf p hp;exact⟨i,x,iP i x J,h3⟩
def oW.iQ{q s i x q' d l' st'}(h:oW q s)(E:s.ae[i]? =some x)(hd:yI q' d)(hq:q'=true->q=true)(UQ:M.Up l')(hl:∀p∈l',(p.2=i+1/\JR p.1 d)\/(p∈s.aP/\p.2≠i+1))(uw:Qj st')
 (L:∀r∈x.au.map (·.ref),r∈d.au.map (·.ref)) (Y:∀p∈st'.refs,p∈s.st.refs\/p.1∈d.au.map (·.ref)) o:oW q' {st:=st',aP:=l',ae:=s.ae.set i d,over:=o}:=by
 have tP:=(bA.1 E).1;have jY:(s.ae.set i d)[i]? =some d:=mj tP;have DZ:∀j,j≠i->(s.ae.set i d)[j]? =s.ae[j]? :=λj hj=>List.getElem?_set_ne (λe=>hj e.symm);refine⟨by simp only[j8];exact h.Bl,λj y hy=>?_,UQ,λp hp=>?_,uw,λp hp=>?_⟩
 ·by_cases e:j=i
  ·subst e;simp only at hy;rw[jY]at hy;obtain rfl:=ay hy;exact hd
  ·simp only at hy;rw[DZ j e]at hy;have:=h.cn j y hy;exact {this with over:=λhw=>⟨(this.over hw).1,(this.over hw).2.1,λhh=>(this.over hw).2.2 (hq hh)⟩}
 ·rcases hl p hp with⟨V,J⟩|⟨V,J⟩
  ·exact⟨i,d,V,jY,J⟩
  ·obtain⟨j,y,e1,e2,e3⟩:=h.held p V;exact⟨j,y,e1,by simp only;rw[DZ j (λe=>J (by rw[e1,e]))];exact e2,e3⟩
 ·rcases Y p hp with V|V
  ·obtain⟨j,y,e2,e3⟩:=h.rf p V;by_cases e:j=i
   ·subst e;rw[E]at e2;obtain rfl:=ay e2;exact⟨j,d,jY,L _ e3⟩
   ·exact⟨j,y,by simp only;rw[DZ j e];exact e2,e3⟩
  ·exact⟨i,d,jY,V⟩
def oW.same{q s i x q' d}(h:oW q s)(E:s.ae[i]? =some x)(hd:yI q' d)(hq:q'=true->q=true)(L:∀r∈x.au.map (·.ref),r∈d.au.map (·.ref))(hh:∀k,JR k x->JR k d):oW q' {s with ae:=s.ae.set i d}:=
 h.iQ E hd hq h.up (λp hp=>by
  obtain⟨j,y,e1,e2,e3⟩:=h.held p hp;by_cases e:j=i
  ·subst e;rw[E]at e2;obtain rfl:=ay e2;exact .inl ⟨e1,hh _ e3⟩
  ·exact .inr ⟨hp,by omega⟩) h.st L (λp hp=>.inl hp) _
def jc{c i x}{s:Sv}(h:s.conn c=some (i,x)):c=i/\s.ae[i]? =some x/\x.over=false:=by
 unfold Sv.conn at h;split at h
 ·cases h
 ·split at h
  ·rename_i y hy;split at h
   ·cases h
   ·obtain⟨rfl,rfl⟩:=Prod.mk.inj (ay h);rename_i h0 ho;exact⟨by omega,hy,by simpa using ho⟩
  ·cases h
def oW.feed{q s}(h:oW q s)c t:oW q (s.feed c t).1:=by
 unfold Sv.feed;cases L:s.conn c with
 |none=>exact h
 |some y=>
  obtain⟨i,x⟩:=y;obtain⟨_,E,ho⟩:=jc L;simp only;split
  ·exact h
  ·rename_i Q;simp only[fL,cN,tv]at Q;have k:=h.cn i x E;refine h.same E {k with nL:=?_,rest:=?_} id (λr Y=>Y) (λr Y=>Y)
   ·simp only[b9];omega
   ·have:=k.rest;simp only[b9];omega
def oW.end_{q s}(h:oW q s)c:oW q (s.end_ c).1:=by
 unfold Sv.end_;cases L:s.conn c with
 |none=>exact h
 |some y=>obtain⟨i,x⟩:=y;obtain⟨_,E,ho⟩:=jc L;have k:=h.cn i x E;exact h.same E (d:={x with ended:=true}) {k with} id (λr Y=>Y) (λr Y=>Y)
structure Rd q(x:Cn)(y:Er×Cn):Prop where
 ok:yI q y.2
 au:∀r∈x.au.map (·.ref),r∈y.2.au.map (·.ref)
 word:∀w,y.1=.refused w->w=nQ\/w=fU\/w=p9\/w=uO\/w=xc\/w=wZ
 more:y.1=.more->y.2=x/\x.ended=false
 aQg:y.1=.ok->y.2.rest.length+4<=x.rest.length
 ended:y.2.ended=x.ended
 same:y.2.work=x.work/\y.2.wants=x.wants/\y.2.over=x.over
def vU(x:Cn):(x.ended=true/\x.A9=.refused nQ)\/(x.ended=false/\x.A9=.more):=by
 unfold Cn.A9;cases x.ended
 ·exact .inr ⟨rfl,rfl⟩
 ·exact .inl ⟨rfl,rfl⟩
def vM(x:Cn):(x.next.1=x.A9)\/x.next.1=.refused nQ\/(x.next.1=.ok/\x.next.2.2.2.length+4<=x.rest.length):=by
 unfold Cn.next;split
 ·exact .inl rfl
 ·rename_i h4;simp only;split
  ·exact .inr (.inl rfl)
  ·rename_i hb;split
   ·refine .inr (.inr ⟨rfl,?_⟩);simp only[gh];omega
   ·rename_i Q;split
    ·exact .inl rfl
    ·refine .inr (.inr ⟨rfl,?_⟩);simp only[fL,bw,tx,ne_eq,cN,tv,not_and]at hb;simp only[gh];have:=hb.1.2 Q;omega
def P8{q x}(k:yI q x)(Y:x.work=some .read)(hs:x.second=false)p f:
 yI q (x.command p f).2/\(∀r∈x.au.map (·.ref),r∈(x.command p f).2.au.map (·.ref))/\(∀w,(x.command p f).1=.refused w->w=fU\/w=p9\/w=uO)/\(x.command p f).1≠.more/\(x.command p f).2.rest=x.rest/\(x.command p f).2.ended=x.ended/\(x.command p f).2.work=x.work/\(x.command p f).2.wants=x.wants/\(x.command p f).2.over=x.over:=by
 have hd:x.done=true->False:=λe=>by have:=k.done e;rw[hs]at this;cases this
 have keep:∀{e:Er},(∀w,e=.refused w->w=fU\/w=p9\/w=uO)->e≠.more->yI q (e,x).2/\(∀r∈x.au.map (·.ref),r∈(e,x).2.au.map (·.ref))/\(∀w,(e,x).1=.refused w->w=fU\/w=p9\/w=uO)/\(e,x).1≠.more/\(e,x).2.rest=x.rest/\(e,x).2.ended=x.ended/\(e,x).2.work=x.work/\(e,x).2.wants=x.wants/\(e,x).2.over=x.over:=
  λV J=>⟨k,λ_ Y=>Y,V,J,rfl,rfl,rfl,rfl,rfl⟩
 unfold Cn.command;split
 ·rename_i h;simp only[bw,cN]at h;refine⟨{k with sec:=λ_=>ly.1 h.2,done:=λe=>(hd e).elim},λ_ Y=>Y,λw e=>(by cases e),by simp,rfl,rfl,rfl,rfl,rfl⟩
 ·split
  ·exact keep (λw e=>by cases e;exact .inr (.inr rfl)) (by simp)
  ·rename_i h4;split
   ·rename_i a b r _;split
    ·rename_i hi;simp only[bw]at hi;split
     ·exact keep (λw e=>by cases e;exact .inr (.inl rfl)) (by simp)
     ·rename_i ht;have VN:x.work=some .lock->False:=λe=>by rw[Y]at e;cases e
      have hnf:x.work=some .fin->False:=λe=>by rw[Y]at e;cases e
      refine⟨{k with Dw:=?_,cmd:=?_,twice:=?_,sec:=λ_=>by simp,lock:=λe=>(VN e).elim},λz hz=>?_,λw e=>(by cases e),by simp,rfl,rfl,rfl,rfl,rfl⟩
      ·have:=k.Dw;simp only[b9,ki];omega
      ·intro m hm;rcases dg.1 hm with hm|hm
       ·exact k.cmd m hm
       ·obtain rfl:=bW.1 hm;exact⟨hi.1.1,hi.1.2,hi.2⟩
      ·rw[eN,mG];refine⟨k.twice,by simp,λu hu v X e=>?_⟩;simp only[gA,List.map_nil,bW]at X;subst X;subst e;obtain⟨m,hm,Rl⟩:=ey.1 hu;exact ht (gR.2 ⟨m,hm,by simpa using Rl⟩)
      ·simp only[eN];exact gS _ hz
    ·exact keep (λw e=>by cases e;exact .inl rfl) (by simp)
   ·exact keep (λw e=>by cases e;exact .inl rfl) (by simp)
def Ut{q x}(k:yI q x)(Y:x.work=some .read)(hs:x.second=true)p f:
 yI q (x.object p f).2/\(x.object p f).2.au=x.au/\(∀w,(x.object p f).1=.refused w->w=xc\/w=uO\/w=wZ)/\(x.object p f).1≠.more/\(x.object p f).2.rest=x.rest/\(x.object p f).2.ended=x.ended/\(x.object p f).2.work=x.work/\(x.object p f).2.wants=x.wants/\(x.object p f).2.over=x.over:=by
 unfold Cn.object;split
 ·refine⟨{k with done:=λ_=>hs},rfl,λw e=>?_,?_,rfl,rfl,rfl,rfl,rfl⟩
  ·simp only at e;split at e<;>cases e;exact .inl rfl
  ·simp only;split<;>simp
 ·split
  ·exact⟨k,rfl,λw e=>(by cases e;exact .inr (.inl rfl)),by simp,rfl,rfl,rfl,rfl,rfl⟩
  ·rename_i PO;split
   ·rename_i hp;refine⟨{k with I5:=?_,obj:=?_},rfl,λw e=>(by cases e),by simp,rfl,rfl,rfl,rfl,rfl⟩
    ·have:=k.I5;simp only[b9,ki];omega
    ·intro t ht;rcases dg.1 ht with ht|ht
     ·exact k.obj t ht
     ·obtain rfl:=bW.1 ht;exact hp
   ·exact⟨k,rfl,λw e=>(by cases e;exact .inr (.inr rfl)),by simp,rfl,rfl,rfl,rfl,rfl⟩
def KW x:x.aV=if x.next.1=.ok then(if x.second then Cn.object {x with rest:=x.next.2.2.2} x.next.2.1 x.next.2.2.1 else Cn.command {x with rest:=x.next.2.2.2} x.next.2.1 x.next.2.2.1)else(x.next.1,x):=by
 unfold Cn.aV;rcases h:x.next with⟨e,p,f,r⟩
 cases e<;>simp
def KU{q x}(k:yI q x)(Y:x.work=some .read):Rd q x x.aV:=by
 rw[KW];by_cases A:x.next.1=.ok
 ·rw[bk A];have he:x.next.2.2.2.length+4<=x.rest.length:=by
   rcases vM x with h|h|h
   ·rw[A]at h;rcases vU x with g|g<;>rw[g.2]at h<;>cases h
   ·rw[A]at h;cases h
   ·exact h.2
  have k':yI q {x with rest:=x.next.2.2.2}:={k with rest:=by have:=k.rest;show x.next.2.2.2.length<=x.nL.length;omega}
  split
  ·rename_i hs;have o:=Ut k' Y hs x.next.2.1 x.next.2.2.1;refine⟨o.1,λr Y=>by rw[o.2.1];exact Y,λw e=>?_,λe=>absurd e o.2.2.2.1,λ_=>by rw[o.2.2.2.2.1];exact he,o.2.2.2.2.2.1,o.2.2.2.2.2.2⟩;rcases o.2.2.1 w e with h|h|h
   ·exact .inr (.inr (.inr (.inr (.inl h))))
   ·exact .inr (.inr (.inr (.inl h)))
   ·exact .inr (.inr (.inr (.inr (.inr h))))
  ·rename_i hs;have hs:x.second=false:=by simpa using hs
   have o:=P8 k' Y hs x.next.2.1 x.next.2.2.1;refine⟨o.1,o.2.1,λw e=>?_,λe=>absurd e o.2.2.2.1,λ_=>by rw[o.2.2.2.2.1];exact he,o.2.2.2.2.2.1,o.2.2.2.2.2.2⟩;rcases o.2.2.1 w e with h|h|h
   ·exact .inr (.inl h)
   ·exact .inr (.inr (.inl h))
   ·exact .inr (.inr (.inr (.inl h)))
 ·rw[aX A];refine⟨k,λ_ Y=>Y,λw e=>?_,λe=>⟨rfl,?_⟩,λe=>absurd e A,rfl,rfl,rfl,rfl⟩
  ·rcases vM x with h|h|h
   ·simp only at e;rw[h]at e;rcases vU x with g|g<;>rw[g.2]at e<;>cases e;exact .inl rfl
   ·simp only at e;rw[h]at e;cases e;exact .inl rfl
   ·exact absurd h.1 A
  ·simp only at e;rcases vM x with h|h|h
   ·rw[h]at e;rcases vU x with g|g
    ·rw[g.2]at e;cases e
    ·exact g.1
   ·rw[h]at e;cases e
   ·exact absurd h.1 A
def EW{w:B}(h:w=nQ\/w=fU\/w=p9\/w=uO\/w=xc\/w=wZ):aCN (dB++w++nl):=by rcases h with rfl|rfl|rfl|rfl|rfl|rfl<;>exact⟨by decide,by decide⟩
def mu(x:Cn):Nat:=match x.work with
 |some .read=>x.rest.length+7
 |some .lock=>x.wants.length+2
 |some .fin=>1
 |none=>0
def aFM{a b}(h:uH a b=true)(Q:a≠b):si a b=true:=by unfold uH si at *;simp only[cN]at *;exact fS λhh=>Q (sL h (tI.1 hh))
def aBF{l:List B}(h:l.Nodup):(l.mergeSort uH).Pairwise λa b=>si a b=true:=by
 have V:(l.mergeSort uH).Pairwise λa b=>uH a b=true:=List.pairwise_mergeSort (λa b c V J=>by
  unfold uH at *;simp only[cN]at *;exact List.le_trans V J) (λa b=>by
  unfold uH;simp only[fL,cN];exact List.le_total a b) l
 have J:(l.mergeSort uH).Nodup:=(rv l uH).nodup_iff.2 h;exact(V.and (kO.1 J)).imp λh=>aFM h.1 h.2
def Js{l}(h:M.Up l)c:M.Up (give l c):=h.sublist (rk ..)
def Lp{l c p}:p∈give l c↔p∈l/\p.2≠c+1:=by unfold give;rw[ju];simp
structure Wkd q(s:Sv)i x d st'(l':M Nat):Prop where
 work:s.work i x=(Sv.set {s with st:=st',aP:=l'} i d,1)
 ok:yI q (if d.work.isNone then {d with over:=true}else d)
 up:M.Up l'
 aP:∀p∈l',(p.2=i+1/\JR p.1 (if d.work.isNone then {d with over:=true}else d))\/(p∈s.aP/\p.2≠i+1)
 st:Qj st'
 au:∀r∈x.au.map (·.ref),r∈(if d.work.isNone then {d with over:=true}else d).au.map (·.ref)
 refs:∀p∈st'.refs,p∈s.st.refs\/p.1∈(if d.work.isNone then {d with over:=true}else d).au.map (·.ref)
 less:mu (if d.work.isNone then {d with over:=true}else d)<mu x
 ended:(if d.work.isNone then {d with over:=true}else d).ended=x.ended
 room:st'.room=s.st.room/\st'.forward=s.st.forward
def Idl(s:Sv)(x:Cn):Prop:=(x.work=some .read/\x.ended=false)\/(x.work=some .lock/\∃w ws,x.wants=w::ws/\(s.aP.get w).getD 0≠0)
def NS{q s i x}(h:oW q s)(E:s.ae[i]? =some x)(ho:x.over=false):
 (s.work i x=(Sv.set s i x,0)/\Idl s x)\/∃d st' l',Wkd q s i x d st' l':=by
 have k:=h.cn i x E;have Zk:∀p∈s.aP,p.2=i+1->JR p.1 x:=λp hp e=>by
  obtain⟨j,y,e1,e2,e3⟩:=h.held p hp;obtain rfl:j=i:=by omega
  rw[E]at e2;obtain rfl:=ay e2;exact e3
 have GX:∀d:Cn,(∀p∈s.aP,p.2=i+1->JR p.1 d)->∀p∈s.aP,(p.2=i+1/\JR p.1 d)\/(p∈s.aP/\p.2≠i+1):=λd hd p hp=>by
  by_cases e:p.2=i+1
  ·exact .inl ⟨e,hd p hp e⟩
  ·exact .inr ⟨hp,e⟩
 have aEb:∀d:Cn,∀p∈give s.aP i,(p.2=i+1/\JR p.1 d)\/(p∈s.aP/\p.2≠i+1):=λd p hp=>.inr (Lp.1 hp);cases hw:x.work with
 |none=>have:=(k.over hw).1;rw[ho]at this;cases this
 |some wk=>
  cases wk with
  |read=>
   have rd:=KU k hw;have vy:∀p∈s.aP,p.2=i+1->False:=λp hp e=>by
    rcases(Zk p hp e).2 with⟨V,_⟩|V<;>rw[hw]at V<;>cases V
   rcases Y:x.aV with⟨e,d⟩
   rw[Y]at rd;have qW:d.work=some .read:=rd.same.1.trans hw;cases e with
   |more=>obtain⟨V,J⟩:=rd.more rfl;simp only at V;subst V;refine .inl ⟨?_,.inl ⟨hw,J⟩⟩;unfold Sv.work;simp only[hw,Y]
   |refused w=>
    refine .inr ⟨{d with bR:=dB++w++nl,bK:=true,work:=none},s.st,give s.aP i,?_,?_,Js h.up i,aEb _,h.st,rd.au,λp hp=>.inl hp,?_,rd.ended,rfl,rfl⟩
    ·unfold Sv.work;simp only[hw,Y]
    ·have kd:=rd.ok;exact {kd with read:=λe=>(by cases e),lock:=λe=>(by cases e),fin:=λe=>(by cases e),over:=λ_=>⟨rfl,λ_=>EW (rd.word w rfl),λ_=>rfl⟩,rep:=λ_=>rfl}
    ·show 0<mu x;unfold mu;rw[hw];simp only;omega
   |ok=>
    have he:=rd.aQg rfl;by_cases hd:d.done=true
    ·refine .inr ⟨{d with wants:=(d.wants++d.au.map (·.ref)).mergeSort uH,work:=some .lock},s.st,s.aP,?_,?_,h.up,GX _ (λp hp e=>(vy p hp e).elim),h.st,rd.au,λp hp=>.inl hp,?_,rd.ended,rfl,rfl⟩
     ·unfold Sv.work;simp only[hw,Y];rw[bk hd]
      try rfl
     ·have kd:=rd.ok;have BD:d.wants=[]:=(kd.read qW).1;show yI q {d with wants:=(d.wants++d.au.map (·.ref)).mergeSort uH,work:=some .lock};refine {kd with read:=λe=>(by cases e),fin:=λe=>(by cases e),over:=λe=>(by cases e),rep:=λe=>absurd (kd.rep e) (by rw[qW];simp),lock:=λ_=>?_};rw[BD,cg];exact⟨aBF kd.twice,λw hw=>(rv _ uH).mem_iff.1 hw,(kd.read qW).2,kd.sec (kd.done hd)⟩
     ·have kd:=rd.ok;have BD:d.wants=[]:=(kd.read qW).1;show(d.wants++d.au.map (·.ref)).mergeSort uH |>.length |> (·+2) |> (· <mu x);rw[BD,cg,kj,dN];have:=kd.Dw;unfold mu;rw[hw];simp only at he this ⊢;omega
    ·refine .inr ⟨d,s.st,s.aP,?_,?_,h.up,GX _ (λp hp e=>(vy p hp e).elim),h.st,?_,λp hp=>.inl hp,?_,?_,rfl,rfl⟩
     ·unfold Sv.work;simp only[hw,Y];rw[aX hd]
      try rfl
     all_goals rw[aX (by rw[qW];decide)]
     ·exact rd.ok
     ·exact rd.au
     ·unfold mu;rw[hw,qW];simp only at he ⊢;omega
     ·exact rd.ended
  |lock=>
   have kl:=k.lock hw;cases BD:x.wants with
   |nil=>
    refine .inr ⟨{x with bR:=(aW s.st x.au (aD x.ah).1 (aD x.ah).2).1,work:=some .fin},(aW s.st x.au (aD x.ah).1 (aD x.ah).2).2,s.aP,?_,?_,h.up,GX _ (λp hp e=>⟨(Zk p hp e).1,.inr rfl⟩),Vm h.st (sJ k.obj),λr Y=>Y,λp hp=>Na p hp,?_,rfl,AJ⟩
    ·unfold Sv.work;simp only[hw,BD]
     try rfl
    ·show yI q {x with bR:=(aW s.st x.au (aD x.ah).1 (aD x.ah).2).1,work:=some .fin};exact {k with read:=λe=>(by cases e),lock:=λe=>(by cases e),over:=λe=>(by cases e),rep:=λe=>absurd (k.rep e) (by rw[hw];simp),fin:=λ_=>⟨ho,JB kl.2.2.2 k.Dw (λc L=>(k.cmd c L).2.2)⟩}
    ·show 1<mu x;unfold mu;rw[hw];simp only;omega
   |cons w ws=>
    rw[BD]at kl;by_cases hg:(s.aP.get w).getD 0=0
    ·refine .inr ⟨{x with wants:=ws},s.st,s.aP.put w (i+1),?_,?_,M.IV h.up _ _,λp hp=>?_,h.st,?_,λp hp=>.inl hp,?_,?_,rfl,rfl⟩
     ·unfold Sv.work;simp only[hw,BD];rw[bk hg]
      try rfl
     all_goals
      rw[aX (by show ¬x.work.isNone=true;rw[hw];decide)]
     ·have kp:=fX.1 kl.1;exact {k with read:=λe=>(by rw[hw]at e;cases e),fin:=λe=>(by rw[hw]at e;cases e),over:=λe=>(by rw[hw]at e;cases e),lock:=λ_=>⟨kp.2,λv X=>kl.2.1 v (bc _ X),kl.2.2⟩}
     ·have kp:=fX.1 kl.1;rcases M.uo.1 hp with rfl|⟨hp,tW⟩
      ·exact .inl ⟨rfl,kl.2.1 w (bj ..),.inl ⟨hw,kp.1⟩⟩
      ·refine GX _ (λp hp e=>?_) p hp;obtain⟨V,J⟩:=Zk p hp e;refine⟨V,?_⟩;rcases J with⟨_,J⟩|J
       ·exact .inl ⟨hw,λv X=>J v (by rw[BD];exact bc _ X)⟩
       ·rw[hw]at J;cases J
     ·exact λr Y=>Y
     ·unfold mu;simp only[hw,BD,bt];omega
    ·refine .inl ⟨?_,.inr ⟨hw,w,ws,BD,hg⟩⟩;unfold Sv.work;simp only[hw,BD];rw[aX hg];unfold Sv.set;have:s.ae.set i x=s.ae:=by
      obtain⟨tP,hxe⟩:=bA.1 E;subst hxe;exact pT tP
     rw[this]
  |fin=>
   have kf:=k.fin hw;refine .inr ⟨{x with bK:=true,work:=none},s.st,give s.aP i,?_,?_,Js h.up i,aEb _,h.st,λr Y=>Y,λp hp=>.inl hp,?_,rfl,rfl,rfl⟩
   ·unfold Sv.work;simp only[hw]
   ·exact {k with read:=λe=>(by cases e),lock:=λe=>(by cases e),fin:=λe=>(by cases e),over:=λ_=>⟨rfl,λ_=>kf.2,λ_=>rfl⟩,rep:=λ_=>rfl}
   ·show 0<mu x;unfold mu;rw[hw];simp
inductive Stp q(s:Sv)c:Prop
 |none (h:s.conn c=none) (e:s.step c=(s,-1))
 |idle {i:Nat} {x} (L:c=i) (E:s.ae[i]? =some x) (ho:x.over=false) (hi:Idl s x) (e:s.step c=(s,0))
 |go {i:Nat} {x d} {st'} {l'} (L:c=i) (E:s.ae[i]? =some x) (ho:x.over=false) (e:s.step c=({s with st:=st',aP:=l',ae:=s.ae.set i d},1)) (hI:oW q (s.step c).1) (hm:mu d<mu x) (he:d.ended=x.ended) (Y:st'.room=s.st.room/\st'.forward=s.st.forward)
def JE{x}{s:Sv}{c:Int}{i:Nat}(L:c=i)(E:s.ae[i]? =some x)(ho:x.over=false):s.conn c=some (i,x):=by subst L;unfold Sv.conn;rw[aX (by omega),pd,E];simp[ho]
def stp{q s}(h:oW q s)c:Stp q s c:=by
 cases L:s.conn c with
 |none=>exact .none L (by unfold Sv.step;rw[L])
 |some y=>
  obtain⟨i,x⟩:=y;obtain⟨rfl,E,ho⟩:=jc L;rcases NS h E ho with⟨hw,hi⟩|⟨d,st',l',W⟩
  ·refine .idle rfl E ho hi ?_;have:=IA (d:=x) (st':=s.st) (l':=s.aP) (k:=0) E ho hw;rw[this];have hs:s.ae.set i x=s.ae:=by
    obtain⟨tP,hxe⟩:=bA.1 E;subst hxe;exact pT tP
   have BD:x.work.isNone=false:=by rcases hi with⟨hw,_⟩|⟨hw,_⟩<;>rw[hw]<;>rfl
   rw[BD];simp only[bh,cz];rw[hs]
  ·have e:=IA E ho W.work;refine .go rfl E ho e ?_ W.less W.ended W.room;rw[e];exact h.iQ E W.ok id W.up W.aP W.st W.au W.refs _
def oW.step{q s}(h:oW q s)c:oW q (s.step c).1:=by
 rcases stp h c with⟨_,e⟩|⟨_,_,_,_,e⟩|⟨_,_,_,_,hI,_⟩
 ·rw[e];exact h
 ·rw[e];exact h
 ·exact hI
def oW.aEP{s}(h:oW true s):oW false s:=by refine {h with cn:=λi x E=>?_};have k:=h.cn i x E;exact {k with over:=λe=>⟨(k.over e).1,(k.over e).2.1,λe=>(by cases e)⟩}
def drop_eq{x}{s:Sv}{i:Nat}(E:s.ae[i]? =some x)(ho:x.over=false):s.drop (i:Int)=({s with aP:=give s.aP i,ae:=s.ae.set i {x with work:=none,over:=true}},true):=by have tP:i<s.ae.length:=(bA.1 E).1;unfold Sv.drop;rw[JE rfl E ho];simp only;unfold Sv.lI Sv.mark Sv.set;simp only[mj tP,Option.isNone_none,j2,List.set_set]
def oW.drop{s}(h:oW false s)c:oW false (s.drop c).1:=by
 cases L:s.conn c with
 |none=>unfold Sv.drop;rw[L];exact h
 |some y=>obtain⟨i,x⟩:=y;obtain⟨rfl,E,ho⟩:=jc L;have k:=h.cn i x E;rw[drop_eq E ho];refine h.iQ (q':=false) E (d:={x with work:=none,over:=true}) {k with read:=λe=>(by cases e),lock:=λe=>(by cases e),fin:=λe=>(by cases e),rep:=λ_=>rfl,over:=λ_=>⟨rfl,λY=>?_,λe=>(by cases e)⟩} id (Js h.up i) (λp hp=>.inr (Lp.1 hp)) h.st (λr Y=>Y) (λp hp=>.inl hp) _;have:=(k.over (k.rep Y)).1;rw[ho]at this;cases this
def smu(l:List Cn):Nat:=(l.map mu).sum
def aCP:∀{l:List Cn} {i:Nat} {x d:Cn},l[i]? =some x->mu d<mu x->smu (l.set i d)<smu l
 |[],_,_,_,h,_=>by simp at h
 |y::l,0,x,d,h,hm=>by
  simp at h;subst h;simp only[cj,smu,gA,py];omega
 |y::l,i+1,x,d,h,hm=>by
  simp at h;have:=aCP h hm;simp only[cE,smu,gA,py]at this ⊢;omega
def aGg:∀(l:List Cn),(∀x∈l,mu x<=607)->smu l<=607*l.length
 |[],_=>by simp[smu]
 |y::l,h=>by
  have:=aGg l (λx E=>h x (bc _ E));have V:=h y (bj ..);simp only[smu,gA,py,bt]at this ⊢;omega
def Iy:∀(l m:List B),l.Nodup->(∀w∈l,w∈m)->l.length<=m.length
 |[],m,_,_=>cQ _
 |a::l,m,Q,hm=>by
  have Jm:=js.1 Q;have ha:=hm a (bj ..);have:=Iy l (m.erase a) Jm.2 (λw hw=>(List.mem_erase_of_ne (λ(e:w=a)=>Jm.1 (e▸hw))).2 (hm w (bc _ hw)));rw[List.length_erase_of_mem ha]at this;have:0<m.length:=List.length_pos_of_mem ha;simp only[bt];omega
def aOX{q:Bool}{x:Cn}(k:yI q x):mu x<=607:=by
 unfold mu;split
 ·have:=k.nL;have:=k.rest;omega
 ·rename_i hw;have:=k.lock hw;have h4:=k.Dw;have:x.wants.length<=4:=by
   have Q:x.wants.Nodup:=kO.2 (this.1.imp λh=>vP h);have:=Iy _ _ Q this.2.1;rw[dN]at this;omega
  omega
 ·omega
 ·omega
def past(w:B)(x:Cn):Bool:=match x.work,x.wants with
 |some .lock,v::_=>si w v
 |_,_=>false
def aCD{w:B}{x:Cn}(h:past w x=true):x.work=some .lock/\∃v ws,x.wants=v::ws/\si w v=true:=by
 unfold past at h;split at h
 ·rename_i V J;exact⟨V,_,_,J,h⟩
 ·cases h
def aCW{w v:B}{ws:List B}{x:Cn}(V:x.work=some .lock)(J:x.wants=v::ws)(h:si w v=true):past w x=true:=by unfold past;rw[V,J];exact h
def aHt{q:Bool}{s:Sv}(h:oW q s)(he:∀x∈s.ae,x.over=false->x.ended=true)(hi:∀x∈s.ae,x.over=true\/Idl s x):∀x∈s.ae,x.over=true:=by
 have key:∀(n:Nat) (x:Cn) (w:B) (ws:List B),x∈s.ae->x.work=some .lock->x.wants=w::ws->(s.aP.get w).getD 0≠0->(s.ae.filter (past w)).length<=n->False:=by
  intro n
  induction n with
  |zero=>
   intro x w ws E hw BD hg hlen;cases hm:s.aP.get w with
   |none=>rw[hm]at hg;exact hg rfl
   |some v=>
    obtain⟨j,y,_,hy,A⟩:=h.held (w,v) (M.get_some hm);have Gb:=cM hy;rcases A.2 with⟨V,J⟩|V
    ·have vy:=((h.cn j y hy).lock V).2.2.1;rcases hi y Gb with ho|⟨Y,_⟩|⟨_,v',ws',e,hg'⟩
     ·rw[vy]at ho;cases ho
     ·rw[V]at Y;cases Y
     ·have hl:=J v' (by rw[e];exact bj ..);have:y∈s.ae.filter (past w):=ju.2 ⟨Gb,aCW V e hl⟩;have:=List.length_pos_of_mem this;omega
    ·have vy:=((h.cn j y hy).fin V).1;rcases hi y Gb with ho|⟨Y,_⟩|⟨Y,_⟩
     ·rw[vy]at ho;cases ho
     ·rw[V]at Y;cases Y
     ·rw[V]at Y;cases Y
  |succ n ih=>
   intro x w ws E hw BD hg hlen;cases hm:s.aP.get w with
   |none=>rw[hm]at hg;exact hg rfl
   |some v=>
    obtain⟨j,y,_,hy,A⟩:=h.held (w,v) (M.get_some hm);have Gb:=cM hy;rcases A.2 with⟨V,J⟩|V
    ·have vy:=((h.cn j y hy).lock V).2.2.1;rcases hi y Gb with ho|⟨Y,_⟩|⟨_,v',ws',e,hg'⟩
     ·rw[vy]at ho;cases ho
     ·rw[V]at Y;cases Y
     ·have hl:=J v' (by rw[e];exact bj ..);refine ih y v' ws' Gb V e hg' ?_;have tP:(s.ae.filter (past v')).length<(s.ae.filter (past w)).length:=by
       have e1:s.ae.filter (past v')=(s.ae.filter (past w)).filter (past v'):=by rw[List.filter_filter];refine List.filter_congr λz _=>?_;rw[j9,bw];refine⟨λhz=>⟨hz,?_⟩,λhz=>hz.1⟩;obtain⟨z1,u,us,z2,z3⟩:=aCD hz;exact aCW z1 z2 (zq hl z3)
       rw[e1];refine kB.2 ⟨y,ju.2 ⟨Gb,aCW V e hl⟩,λhp=>?_⟩;obtain⟨_,u,us,z2,z3⟩:=aCD hp;rw[e]at z2;obtain⟨rfl,_⟩:=List.cons.inj z2;rw[vQ]at z3;cases z3
      omega
    ·have vy:=((h.cn j y hy).fin V).1;rcases hi y Gb with ho|⟨Y,_⟩|⟨Y,_⟩
     ·rw[vy]at ho;cases ho
     ·rw[V]at Y;cases Y
     ·rw[V]at Y;cases Y
 intro x E;rcases hi x E with ho|⟨Y,Q⟩|⟨hw,w,ws,BD,hg⟩
 ·exact ho
 ·obtain⟨i,hi'⟩:=qP E;rw[he x E ((h.cn i x hi').read Y).2]at Q;cases Q
 ·exact(key _ x w ws E hw BD hg (aI _)).elim
def gI:List Nat->Sv×Bool×Bool->Sv×Bool×Bool
 |[],a=>a
 |c::l,a=>gI l ((a.1.step (c:Int)).1,a.2.1||(a.1.step (c:Int)).2==1,a.2.2||(a.1.step (c:Int)).2==0)
def aAL:Nat->Sv->Sv×Bool
 |0,s=>(s,false)
 |n+1,s=>if(gI (List.range 8) (s,false,false)).2.1 then aAL n (gI (List.range 8) (s,false,false)).1 else((gI (List.range 8) (s,false,false)).1,!(gI (List.range 8) (s,false,false)).2.2)
def Pk(s:Sv):Prop:=∀x∈s.ae,x.over=false->x.ended=true
def aD8{q:Bool}{s:Sv}(h:oW q s)(he:Pk s)(c:Int):Pk (s.step c).1/\(s.step c).1.ae.length=s.ae.length/\smu (s.step c).1.ae<=smu s.ae/\((s.step c).2=1->smu (s.step c).1.ae<smu s.ae)/\((s.step c).2≠1->(s.step c).1=s):=by
 rcases stp h c with⟨_,e⟩|⟨_,_,_,_,e⟩|⟨L,E,ho,e,_,hm,hen,_⟩
 ·rw[e];exact⟨he,rfl,aI _,λe=>by simp at e,λ_=>rfl⟩
 ·rw[e];exact⟨he,rfl,aI _,λe=>by simp at e,λ_=>rfl⟩
 ·rename_i i x d st' l';rw[e];refine⟨λ(y:Cn) hy hyo=>?_,by simp,Nat.le_of_lt (aCP E hm),λ_=>aCP E hm,λe=>absurd rfl e⟩;rcases List.mem_or_eq_of_mem_set hy with hy|rfl
  ·exact he y hy hyo
  ·rw[hen];exact he _ (cM E) ho
def aDH{q:Bool}:∀(l:List Nat) (a:Sv×Bool×Bool),oW q a.1->Pk a.1->
 oW q (gI l a).1/\Pk (gI l a).1/\(gI l a).1.ae.length=a.1.ae.length/\smu (gI l a).1.ae<=smu a.1.ae/\((gI l a).2.1=true->a.2.1=true\/smu (gI l a).1.ae<smu a.1.ae)/\
  ((gI l a).2.1=false->(gI l a).1=a.1/\a.2.1=false/\(∀c∈l,(a.1.step (c:Int)).2≠1)/\((gI l a).2.2=true↔a.2.2=true\/∃c∈l,(a.1.step (c:Int)).2=0))
 |[],a,h,he=>⟨h,he,rfl,aI _,λe=>.inl e,λe=>⟨rfl,e,λc L=>absurd L (cU),⟨λe=>.inl e,λe=>e.elim id (λ⟨c,L,_⟩=>absurd L (cU))⟩⟩⟩
 |c::l,a,h,he=>by
  obtain⟨s1,s2,s3,s4,s5⟩:=aD8 h he (c:Int);obtain⟨t1,t2,t3,t4,t5,t6⟩:=aDH l ((a.1.step (c:Int)).1,a.2.1||(a.1.step (c:Int)).2==1,a.2.2||(a.1.step (c:Int)).2==0) (h.step c) s1;unfold gI;simp only at t3 t4 t5 t6;refine⟨t1,t2,by rw[t3,s2],by omega,λe=>?_,λe=>?_⟩
  ·rcases t5 e with e|e
   ·rw[fL]at e;rcases e with e|e
    ·exact .inl e
    ·have:=s4 (by simpa using e);exact .inr (by omega)
   ·exact .inr (by omega)
  ·obtain⟨u1,u2,u3,u4⟩:=t6 e;rw[Bool.or_eq_false_iff]at u2;have tW:(a.1.step (c:Int)).2≠1:=by simpa using u2.2
   have hs:=s5 tW;rw[hs]at u1 u3 u4;refine⟨by rw[hs];exact u1,u2.1,λd hd=>?_,?_⟩
   ·rcases bm.1 hd with rfl|hd
    ·exact tW
    ·exact u3 d hd
   ·rw[hs,u4,fL];constructor
    ·rintro((e|e)|⟨d,hd,e⟩)
     ·exact .inl e
     ·exact .inr ⟨c,bj ..,by simpa using e⟩
     ·exact .inr ⟨d,bc _ hd,e⟩
    ·rintro(e|⟨d,hd,e⟩)
     ·exact .inl (.inl e)
     ·rcases bm.1 hd with hdc|hd
      ·subst hdc;rename_i e';exact .inl (.inr (by simpa using e'))
      ·exact .inr ⟨d,hd,e⟩
def aAV(s:Sv):Prop:=∀x∈s.ae,x.over=true
def aAX{q:Bool}:∀(n:Nat) (s:Sv),oW q s->Pk s->smu s.ae<n->∃s',aAL n s=(s',true)/\oW q s'/\aAV s'
 |0,s,_,_,Q=>by omega
 |n+1,s,h,he,Q=>by
  obtain⟨t1,t2,t3,t4,t5,t6⟩:=aDH (List.range 8) (s,false,false) h he;unfold aAL;simp only at t3 t4 t5 t6;cases hm:(gI (List.range 8) (s,false,false)).2.1 with
  |true=>
   rw[bk rfl];refine aAX n _ t1 t2 ?_;rcases t5 hm with e|e
   ·cases e
   ·omega
  |false=>
   rw[aX (by simp)];obtain⟨u1,_,u3,u4⟩:=t6 hm;have MH:∀x∈s.ae,x.over=true\/Idl s x:=by
    intro x E;obtain⟨i,hi⟩:=qP E;have tP:i<8:=by have:=(bA.1 hi).1;have:=h.Bl;omega
    have h3:=u3 i (jI.2 tP);cases ho:x.over with
    |true=>exact .inl rfl
    |false=>
     rcases stp h (i:Int)with⟨Q,_⟩|⟨L,fI,_,hI,_⟩|⟨_,_,_,e,_⟩
     ·rw[JE rfl hi ho]at Q;cases Q
     ·rename_i j y _ _;obtain rfl:j=i:=by omega
      rw[hi]at fI;obtain rfl:=ay fI;exact .inr hI
     ·rw[e]at h3;exact absurd rfl h3
   have GV:=aHt h he MH;have hl:(gI (List.range 8) (s,false,false)).2.2=false:=by
    cases hh:(gI (List.range 8) (s,false,false)).2.2 with
    |false=>rfl
    |true=>
     rcases u4.1 hh with e|⟨c,L,e⟩
     ·cases e
     ·rcases stp h (c:Int)with⟨_,e'⟩|⟨_,E,ho,_,_⟩|⟨_,_,_,e',_⟩
      ·rw[e']at e;simp at e
      ·have:=GV _ (cM E);rw[ho]at this;cases this
      ·rw[e']at e;simp at e
   rw[hl];exact⟨_,rfl,by rw[u1];exact h,by rw[u1];exact GV⟩
def aEc{q:Bool}{s:Sv}(h:oW q s)(he:Pk s):∃s',aAL 4960 s=(s',true)/\oW q s'/\aAV s':=by
 refine aAX 4960 s h he ?_;have V:=aGg s.ae (λx E=>by
  obtain⟨i,hi⟩:=qP E;exact aOX (h.cn i x hi))
 have:=h.Bl;omega
def aD6{s:Sv}(h:aAV s)(c:Int):s.step c=(s,-1):=by
 have:s.conn c=none:=by
  cases L:s.conn c with
  |none=>rfl
  |some y=>obtain⟨i,x⟩:=y;obtain⟨_,E,ho⟩:=jc L;have:=h x (cM E);rw[ho]at this;cases this
 unfold Sv.step;rw[this]
def aED{s:Sv}(h:oW true s)(ho:aAV s)(c:Nat):((s.bR (c:Int)).2=true/\aCN (s.bR (c:Int)).1)\/((s.bR (c:Int)).2=false/\(s.bR (c:Int)).1=[]):=by
 unfold Sv.bR;rw[aX (by omega),pd];cases E:s.ae[c]? with
 |none=>exact .inr ⟨rfl,rfl⟩
 |some x=>
  have GV:=ho x (cM E);have k:=h.cn c x E;have hw:x.work=none:=by
   cases hw:x.work with
   |none=>rfl
   |some wk=>cases wk with
    |read=>rw[(k.read hw).2]at GV;cases GV
    |lock=>rw[(k.lock hw).2.2.1]at GV;cases GV
    |fin=>rw[(k.fin hw).1]at GV;cases GV
  obtain⟨_,J,h3⟩:=k.over hw;have Y:=h3 rfl;simp only[GV,Y,Bool.and_self,j2];exact .inl ⟨cq,J Y⟩
def aCM{beh:B->List B}:∀(n:Nat) (seen queue:List B),queue.Nodup->(∀x∈queue,x∈seen)->(Ew beh n seen queue).Nodup/\∀x∈Ew beh n seen queue,x∈queue\/x∉seen
 |0,_,_,_,_=>by simp[Ew]
 |_+1,_,[],_,_=>by simp[Ew]
 |n+1,seen,k::q,Q,hs=>by
  have Jm:=js.1 Q;have A:=hs k (bj ..);have hq:(q++news seen (beh k)).Nodup:=by rw[mG];refine⟨Jm.2,vN _ _,λu hu v X e=>?_⟩;subst e;exact((kV seen _ u).1 X).2 (hs u (bc _ hu))
  obtain⟨i1,i2⟩:=aCM n (seen++news seen (beh k)) (q++news seen (beh k)) hq (λx E=>by
   rcases dg.1 E with h|h
   ·exact gS _ (hs x (bc _ h))
   ·exact pX _ h)
  unfold Ew;refine⟨js.2 ⟨λhm=>?_,i1⟩,λx E=>?_⟩
  ·rcases i2 k hm with h|h
   ·rcases dg.1 h with h|h
    ·exact Jm.1 h
    ·exact((kV seen _ k).1 h).2 A
   ·exact h (gS _ A)
  ·rcases bm.1 E with rfl|E
   ·exact .inl (bj ..)
   ·rcases i2 x E with h|h
    ·rcases dg.1 h with h|h
     ·exact .inl (bc _ h)
     ·exact .inr ((kV seen _ x).1 h).2
    ·exact .inr (λe=>h (gS _ e))
def aEy:∀(l:B),(cut 32 l).2.2=true->l=(cut 32 l).1++32::(cut 32 l).2.1
 |[],h=>by simp[cut]at h
 |x::r,h=>by
  unfold cut at h ⊢;split
  ·rename_i e;rw[e];rfl
  ·rename_i e;rw[aX e]at h;have:=aEy r h;simp only[cf];rw[<-this]
def aD0{t:B}(h:ek t=true):∃r,t=[99,111,109,109,105,116,32]++r:=by
 unfold ek kindOf at h;have hp:∃o,parse t=some o/\o.kind=99:=by
  cases hh:parse t with
  |none=>rw[hh]at h;simp at h
  |some o=>rw[hh]at h;exact⟨o,rfl,by simpa using h⟩
 obtain⟨o,ho,A⟩:=hp;unfold parse at ho;simp only at ho;split at ho
 ·rename_i L;simp only[bw]at L;split at ho
  ·split at ho
   ·obtain rfl:=ay ho;cases A
   ·cases ho
  ·split at ho
   ·rw[aY]at ho;obtain⟨_,_,rfl⟩:=ho;cases A
   ·split at ho
    ·rename_i F0;refine⟨(cut 32 t).2.1,?_⟩;have:=aEy t L.1;rw[F0]at this;exact this.trans (by simp[qo])
    ·cases ho
 ·cases ho
def P6{t}(h:ek t=true):∃x r,bE t=x::r/\kindOf t=99:=by
 have A:kindOf t=99:=by unfold ek at h;simpa using h
 have hp:∃o,parse t=some o/\o.kind=99:=by
  unfold kindOf at A;cases hh:parse t with
  |none=>rw[hh]at A;simp at A
  |some o=>rw[hh]at A;exact⟨o,rfl,A⟩
 obtain⟨o,ho,hko⟩:=hp;have hi:bE t=o.ids:=by unfold bE;rw[ho]
 rw[hi];unfold parse at ho;simp only at ho;split at ho
 ·split at ho
  ·split at ho
   ·obtain rfl:=ay ho;cases hko
   ·cases ho
  ·split at ho
   ·rw[aY]at ho;obtain⟨_,_,rfl⟩:=ho;cases hko
   ·split at ho
    ·rw[aY]at ho;obtain⟨l,hl,rfl⟩:=ho;unfold ji at hl;simp only at hl;split at hl
     ·split at hl
      ·obtain rfl:=ay hl;exact⟨_,_,rfl,A⟩
      ·split at hl
       ·obtain rfl:=ay hl;exact⟨_,_,rfl,A⟩
       ·cases hl
     ·cases hl
    ·cases ho
 ·cases ho
def aGk{t:B}(h:(parse t).isSome=true):dA t≠di:=λe=>by
 unfold parse at h;simp[e]at h
structure Told(s:St)v:Prop where
 nz:v≠di
 text:∃r,s.ah.get v=some ([99,111,109,109,105,116,32]++r)
 head:∃l,reach s [] v=v::l/\l≠[]
 Bl:(reach s [] v).length<=s.room
 all:∀k∈reach s [] v,∃t,s.ah.get k=some t/\(parse t).isSome=true/\dA t=k
def told{s p}(h:Qj s)(hp:p∈s.refs):Told s p.2:=by
 obtain⟨t,ht,L⟩:=h.com p hp;obtain⟨r,Y⟩:=aD0 L;have wA:∀k∈reach s [] p.2,∃t,s.ah.get k=some t/\(parse t).isSome=true/\dA t=k:=λk A=>by
  obtain⟨u,hu,_⟩:=h.refs p hp k ((T9 s [] p.2 k).1 A);exact⟨u,hu,h.own (k,u) (M.get_some hu)⟩
 refine⟨?_,⟨r,by rw[ht,Y]⟩,?_,?_,wA⟩
 ·obtain⟨u,_,hu,hi⟩:=wA p.2 ((T9 s [] p.2 p.2).2 .start);exact hi▸aGk hu
 ·obtain⟨x,xs,E,A⟩:=P6 L;obtain⟨t',ht',hf⟩:=h.refs p hp p.2 .start;rw[ht]at ht';obtain rfl:=ay ht';have hxn:x∈names s [] p.2:=by unfold names;rw[Ec,ht];simp only;rw[E];exact bj ..
  have HF:x∈reach s [] p.2:=(T9 s [] p.2 x).2 (.next .start hxn);have tW:x≠p.2:=by rintro rfl;unfold fits at hf;rw[A,E,gA,Ec,ht]at hf;unfold vo at hf;simp only[bw]at hf;have V:Pe t=true:=hf.1;unfold Pe at V;rw[A]at V;exact absurd V (by decide)
  have e:∃l,reach s [] p.2=p.2::l:=by unfold reach fuel;rw[oP];exact⟨_,rfl⟩
  obtain⟨l,e⟩:=e;refine⟨l,e,λhl=>?_⟩;rw[e,hl]at HF;exact tW (bW.1 HF)
 ·have HJ:(reach s [] p.2).Nodup:=(aCM _ [p.2] [p.2] (by simp) (λx E=>E)).1;have:=Iy (reach s [] p.2) (s.ah.map (·.1)) HJ (λk A=>by
   obtain⟨u,hu,_⟩:=wA k A;exact ey.2 ⟨(k,u),M.get_some hu,rfl⟩)
  rw[dN]at this;exact cV this h.room
def ę{p:Prop}(h:p:=by
 rw[dN]at this;have hl:∀l:List Cn,(∀x∈l,x.au.length<=4)->((l.map λx=>x.au.map (·.ref)).flatten).length<=4*l.length:=by
  intro l
  induction l with
  |nil=>intro _;simp
  |cons y l ih=>intro hh;have:=ih (λx E=>hh x (bc _ E));have V:=hh y (bj ..);simp only[gA,rR,b9,dN,bt]at this ⊢;omega
 have:=hl s.ae (λx E=>by
  obtain⟨i,hi⟩:=qP E;exact(h.cn i x hi).Dw)
 have:=h.Bl;omega):p:=h
def oW.K5{q s}(h:oW q s):s.st.refs.length<=32:=by
 have Q:(s.st.refs.map (·.1)).Nodup:=kO.2 (ia.2 (h.st.upR.imp λe=>vP e));have:=Iy _ ((s.ae.map λx=>x.au.map (·.ref)).flatten) Q (λk A=>by
  obtain⟨p,hp,rfl⟩:=ey.1 A;obtain⟨i,x,E,Y⟩:=h.rf p hp;exact nx.2 ⟨_,ey.2 ⟨x,cM E,rfl⟩,Y⟩)
 exact ę
def oW.Gy{q s}(h:oW q s):s.aP.length<=32:=by
 have Q:(s.aP.map (·.1)).Nodup:=kO.2 (ia.2 (h.up.imp λe=>vP e));have:=Iy _ ((s.ae.map λx=>x.au.map (·.ref)).flatten) Q (λk A=>by
  obtain⟨p,hp,rfl⟩:=ey.1 A;obtain⟨i,x,_,E,Y⟩:=h.held p hp;exact nx.2 ⟨_,ey.2 ⟨x,cM E,rfl⟩,Y.1⟩)
 exact ę
end Sp
section
open Go
namespace Sp
open Tx
structure yE(s:Sv):Prop where
 room:s.st.room<=40
 cn:∀(i:Nat) x,s.ae[i]? =some x->∀t∈x.ah,t.length<=204
 st:∀p∈s.st.ah,p.2.length<=204
def Dt(x:Cn):x.next.2.1.length<=204:=by
 unfold Cn.next;split
 ·simp
 ·dsimp only;split
  ·simp
  ·rename_i hb;split
   ·simp
   ·split
    ·simp
    ·simp only[fL,cN,tv,Nat.not_lt]at hb;simp only[gh,jE];omega
def Lf(x:Cn)p f:∀t∈(x.object p f).2.ah,t∈x.ah\/t=p:=by
 unfold Cn.object;intro t ht;split at ht
 ·exact .inl ht
 ·split at ht
  ·exact .inl ht
  ·split at ht
   ·rcases dg.1 ht with h|h
    ·exact .inl h
    ·exact .inr (bW.1 h)
   ·exact .inl ht
def JF(x:Cn)p f:(x.command p f).2.ah=x.ah:=by
 unfold Cn.command;split
 ·rfl
 ·split
  ·rfl
  ·split
   ·split
    ·split<;>rfl
    ·rfl
   ·rfl
def Ox(x:Cn):∀t∈x.aV.2.ah,t∈x.ah\/t.length<=204:=by
 rw[KW];intro t ht;split at ht
 ·split at ht
  ·rcases Lf _ _ _ t ht with h|h
   ·exact .inl h
   ·exact .inr (h▸Dt x)
  ·rw[JF]at ht;exact .inl ht
 ·exact .inl ht
def PQ:∀(l:List B) a,(∀p∈(l.foldl (λ(a:M B×Bool) t=>
 match a.1.get (dA t)with
 |some u=>if u≠t then(a.1,true)else(a.1.put (dA t) t,a.2)
 |none=>(a.1.put (dA t) t,a.2)) a).1,p∈a.1\/p.2∈l)/\(l.foldl (λ(a:M B×Bool) t=>
 match a.1.get (dA t)with
 |some u=>if u≠t then(a.1,true)else(a.1.put (dA t) t,a.2)
 |none=>(a.1.put (dA t) t,a.2)) a).1.length<=a.1.length+l.length:=by
 intro l
 induction l with
 |nil=>exact λa=>⟨λp hp=>.inl hp,aI _⟩
 |cons t r ih=>
  intro a;have key:∀b:M B×Bool,(∀p∈b.1,p∈a.1\/p.2=t)->b.1.length<=a.1.length+1->(∀p∈(r.foldl (λ(a:M B×Bool) t=>
  match a.1.get (dA t)with
  |some u=>if u≠t then(a.1,true)else(a.1.put (dA t) t,a.2)
  |none=>(a.1.put (dA t) t,a.2)) b).1,p∈a.1\/p.2∈t::r)/\(r.foldl (λ(a:M B×Bool) t=>
  match a.1.get (dA t)with
  |some u=>if u≠t then(a.1,true)else(a.1.put (dA t) t,a.2)
  |none=>(a.1.put (dA t) t,a.2)) b).1.length<=a.1.length+(t::r).length:=by
   intro b hb hl;refine⟨λp hp=>?_,cV (ih b).2 (by simp only[bt];omega)⟩;rcases(ih b).1 p hp with h|h
   ·rcases hb p h with h|h
    ·exact .inl h
    ·exact .inr (h▸bj ..)
   ·exact .inr (bc _ h)
  rw[ij];refine key _ ?_ ?_
  ·intro p hp;split at hp
   ·split at hp
    ·exact .inl hp
    ·rcases M.uo.1 hp with h|h
     ·exact .inr (by rw[h])
     ·exact .inl h.1
   ·rcases M.uo.1 hp with h|h
    ·exact .inr (by rw[h])
    ·exact .inl h.1
  ·split
   ·split
    ·exact lO _
    ·exact M.gU _ _ _
   ·exact M.gU _ _ _
def sM{l}:(∀p∈(aD l).1,p.2∈l)/\(aD l).1.length<=l.length:=by
 have h:=PQ l ([],false);refine⟨λp hp=>?_,by have:=h.2;rw[dt,j0]at this;exact this⟩;rcases h.1 p hp with h|h
 ·cases h
 ·exact h
def Ye:∀(l m:M B) q,q∈l.foldl (λm x=>M.put m x.1 x.2) m->q∈m\/q∈l:=by
 intro l
 induction l with
 |nil=>exact λm q h=>.inl h
 |cons p r ih=>
  intro m q h;rw[ij]at h;rcases ih _ q h with h|h
  ·rcases M.uo.1 h with h|h
   ·exact .inr (h▸bj ..)
   ·exact .inl h.1
  ·exact .inr (bc _ h)
def Nb{s cs p cl}:∀q∈(aW s cs p cl).2.ah,q∈s.ah\/q∈p:=by
 intro q hq;unfold aW at hq;dsimp only at hq;split at hq
 ·exact Ye p s.ah q hq
 ·exact .inl hq
def yE.set{s i x st' l' d o}(h:yE s)(E:s.ae[i]? =some x)(hd:∀t∈d.ah,t∈x.ah\/t.length<=204)(Y:st'.room=s.st.room)(ho:∀p∈st'.ah,p∈s.st.ah\/p.2.length<=204):yE {st:=st',aP:=l',ae:=s.ae.set i d,over:=o} where
 room:=Y▸h.room
 cn j y hy t ht:=by
  rw[jz]at hy;split at hy
  ·split at hy
   ·obtain rfl:=ay hy;rcases hd t ht with e|e
    ·exact h.cn i x E t e
    ·exact e
   ·cases hy
  ·exact h.cn j y hy t ht
 st p hp:=(ho p hp).elim (h.st p) id
def yE.work{s i x}{q:Bool}(h:yE s)(E:s.ae[i]? =some x):yE (s.work i x).1:=by
 unfold Sv.work;have ho:=Ox x;have keep:∀p∈s.st.ah,p∈s.st.ah\/p.2.length<=204:=λp hp=>.inl hp;split
 ·split
  ·rename_i w d e;rw[e]at ho;refine h.set E ?_ ?_ ?_
   ·exact ho
   ·rfl
   ·exact keep
  ·rename_i d e;rw[e]at ho;refine h.set E ?_ ?_ ?_
   ·exact ho
   ·rfl
   ·exact keep
  ·rename_i d e;rw[e]at ho;refine h.set E ?_ ?_ ?_
   ·split
    ·exact ho
    ·exact ho
   ·rfl
   ·exact keep
 ·split
  ·refine h.set E ?_ ?_ ?_
   ·exact λt ht=>.inl ht
   ·exact AJ.1
   intro p hp;rcases Nb p hp with e|e
   ·exact .inl e
   ·exact .inr (h.cn i x E _ (sM.1 p e))
  ·split
   ·refine h.set E ?_ ?_ ?_
    ·exact λt ht=>.inl ht
    ·rfl
    ·exact keep
   ·exact h
 ·refine h.set E ?_ ?_ ?_
  ·exact λt ht=>.inl ht
  ·rfl
  ·exact keep
 ·exact h
def yE.mark{s}(h:yE s)i:yE (s.mark i):=by
 unfold Sv.mark;split
 ·rename_i x E;split
  ·refine h.set E ?_ ?_ ?_
   ·exact λt ht=>.inl ht
   ·rfl
   ·exact λp hp=>.inl hp
  ·exact h
 ·exact h
def yE.drop{s}(h:yE s)c:yE (s.drop c).1:=by
 unfold Sv.drop;split
 ·exact h
 ·rename_i i x e;refine yE.mark ?_ i;refine h.set (jc e).2.1 ?_ ?_ ?_
  ·exact λt ht=>.inl ht
  ·rfl
  ·exact λp hp=>.inl hp
def yE.feed{s}(h:yE s)c t:yE (s.feed c t).1:=by
 unfold Sv.feed;split
 ·exact h
 ·rename_i i x e;split
  ·exact h
  ·refine h.set (jc e).2.1 ?_ ?_ ?_
   ·exact λt ht=>.inl ht
   ·rfl
   ·exact λp hp=>.inl hp
def yE.end_{s}(h:yE s)c:yE (s.end_ c).1:=by
 unfold Sv.end_;split
 ·exact h
 ·rename_i i x e;refine h.set (jc e).2.1 ?_ ?_ ?_
  ·exact λt ht=>.inl ht
  ·rfl
  ·exact λp hp=>.inl hp
def yE.open_{s}(h:yE s):yE s.open_.1:=by
 unfold Sv.open_;split
 ·exact h
 ·refine⟨h.room,λi x E t ht=>?_,h.st⟩;have E:(s.ae++[({}:Cn)])[i]? =some x:=E;rw[qV]at E;split at E
  ·exact h.cn i x E t ht
  ·have:x={}:=by
    have:=cM E;exact bW.1 this
   subst this;cases ht
def yE.new f(room:Nat)(Y:room<=40):yE (Fb f room):=⟨by unfold Fb;exact Y,λi x E=>by simp[Fb]at E,λp hp=>by simp[Fb]at hp⟩
def Iw{k}:∀l:List Nat,(∀x∈l,x<=k)->l.sum<=k*l.length:=by
 intro l
 induction l with
 |nil=>exact λ_=>cQ _
 |cons a r ih=>intro h;have V:=h a (bj ..);have J:=ih λx E=>h x (bc _ E);simp only[py,bt,Nat.mul_add,pn];omega
end Sp
end
