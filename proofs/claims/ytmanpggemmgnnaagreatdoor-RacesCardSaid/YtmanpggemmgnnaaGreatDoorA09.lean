/- Races: a part. Conditions: none. -/
set_option linter.all false
namespace Go.Proofs.YtmanpggemmgnnaaGreatDoor
noncomputable section
namespace Tx
abbrev B:=List UInt8
def om (h:Nat) (c:UInt8):Nat:=((h^^^c.toNat)*16777619)%4294967296
def PU (l:B):Nat:=l.foldl om 2166136261
def dig (n:Nat):UInt8:=if n<10 then UInt8.ofNat (48+n) else UInt8.ofNat (87+n)
def pO:Nat->Nat->B
 |0,_=>[]
 |k+1,n=>pO k (n / 16)++[dig (n%16)]
def dA (l:B):B:=pO 8 (PU l)
def dU (l:B):B:=if l.length=0\/200<l.length then [] else pO 4 (l.length+4)++l
def zx (c:UInt8):Bool:=(decide (48<=c.toNat)&&decide (c.toNat<=57))||(decide (97<=c.toNat)&&decide (c.toNat<=102))
def uW (c:UInt8):Bool:=decide (97<=c.toNat)&&decide (c.toNat<=122)
def hex (l:B):Bool:=l.all zx
def di:B:=[48,48,48,48,48,48,48,48]
def yN (l:B):Bool:=hex l&&(decide (l.length=8)&&(l !=di))
def line (l:B) (n:Nat):Bool:=l.all (·!=10)&&decide (l.length<=n)
def O3 (l:B):Bool:=l.all uW&&(decide (1<=l.length)&&decide (l.length<=8))
def cut (c:UInt8):B->B×B×Bool
 |[]=>([],[],false)
 |x::r=>if x=c then ([],r,true) else (x::(cut c r).1,(cut c r).2.1,(cut c r).2.2)
def split (c:UInt8):B->List B
 |[]=>[[]]
 |x::r=>if x=c then []::split c r else match split c r with|[]=>[[x]]|p::ps=>(x::p)::ps
def leB:B->B->Bool
 |[],_=>true
 |_::_,[]=>false
 |a::r,b::s=>decide (a.toNat<b.toNat)||(decide (a=b)&&leB r s)
def entries:B->List B->Option (List B)
 |_,[]=>some []
 |last,e::r=>if (cut 61 e).2.2&&O3 (cut 61 e).1&&yN (cut 61 e).2.1&&!leB (cut 61 e).1 last then (entries (cut 61 e).1 r).map ((cut 61 e).2.1::·) else none
def tree (l:B):Option (List B):=if l=[] then some [] else entries [] (split 44 l)
def ji (l:B):Option (List B):=
 let a:=cut 32 l;let b:=cut 32 a.2.1
 if b.2.2&&yN a.1&&line b.2.1 20 then
  if b.1=[45] then some [a.1]
  else if (split 43 b.1).length<=2&&(split 43 b.1).all yN then some (a.1::split 43 b.1) else none
 else none
structure Obj where
 kind:UInt8
 ids:List B
 deriving DecidableEq
def Ma:B:=[98,108,111,98]
def L9:B:=[116,114,101,101]
def qo:B:=[99,111,109,109,105,116]
def parse (l:B):Option Obj:=
 let a:=cut 32 l
 if a.2.2&&dA l !=di then
  if a.1=Ma then (if line a.2.1 40 then some ⟨98,[]⟩ else none)
  else if a.1=L9 then (tree a.2.1).map (⟨116,·⟩)
  else if a.1=qo then (ji a.2.1).map (⟨99,·⟩)
  else none
 else none
end Tx
namespace Tx
theorem all_false {p:UInt8->Bool} {l:B} {k:Nat} (h:k<l.length) (h2:p l[k]=false):l.all p=false:=by rw [Bool.eq_false_iff];intro ha;rw [List.all_eq_true] at ha;rw [ha _ (List.getElem_mem h)] at h2;cases h2
theorem aAi {c:UInt8}:∀{l:B} {k:Nat} (h:k<l.length),(∀j (hj:j<k),l[j]≠c)->l[k]=c->cut c l=(l.take k,l.drop (k+1),true)
 |x::r,0,_,_,he=>by
  have:x=c:=he;simp [cut,this]
 |x::r,k+1,h,hn,he=>by
  have hx:x≠c:=hn 0 (by omega);have hk:k<r.length:=by simpa using h
  have ih:=aAi (l:=r) (k:=k) hk (λj hj=>by have:=hn (j+1) (by omega);simpa using this) (by simpa using he);simp [cut,hx,ih]
theorem Nf {c:UInt8}:∀{l:B},(∀j (hj:j<l.length),l[j]≠c)->cut c l=(l,[],false)
 |[],_=>rfl
 |x::r,hn=>by
  have hx:x≠c:=hn 0 (by simp);have ih:=Nf (l:=r) (λj hj=>by have:=hn (j+1) (by simpa using hj);simpa using this);simp [cut,hx,ih]
end Tx
section
open Tx
namespace Sp
def uH (x y:B):Bool:=decide (x<=y)
def si (x y:B):Bool:=decide (x<y)
abbrev M (α:Type):=List (B×α)
def M.get {α:Type} (m:M α) (k:B):Option α:=(m.find? λp=>p.1==k).map (·.2)
def M.ins {α:Type} (k:B) (v:α):M α->M α
 |[]=>[(k,v)]
 |p::r=>if si k p.1 then (k,v)::p::r else p::M.ins k v r
def M.del {α:Type} (m:M α) (k:B):M α:=m.filter λp=>!(p.1==k)
def M.put {α:Type} (m:M α) (k:B) (v:α):M α:=M.ins k v (m.del k)
structure nN where
 old:B
 new:B
 ref:B
 deriving DecidableEq
inductive Wk
 |read|lock|fin
 deriving DecidableEq
structure Cn where
 nL:B:=[]
 rest:B:=[]
 ended:Bool:=false
 second:Bool:=false
 done:Bool:=false
 au:List nN:=[]
 ah:List B:=[]
 over:Bool:=false
 bR:B:=[]
 bK:Bool:=false
 work:Option Wk:=some .read
 aY:List B:=[]
 deriving DecidableEq
structure St where
 forward:Bool
 room:Nat
 ah:M B
 refs:M B
 deriving DecidableEq
structure Sv where
 st:St
 aP:M Nat
 ae:List Cn
 over:Bool
 deriving DecidableEq
def bE (t:B):List B:=match parse t with
 |some o=>o.ids
 |none=>[]
def kindOf (t:B):UInt8:=match parse t with
 |some o=>o.kind
 |none=>0
def ZA (c:UInt8):Nat:=if c.toNat<=57 then c.toNat - 48 else c.toNat - 87
def dI (l:B):Nat:=l.foldl (λa c=>a*16+ZA c) 0
inductive Er
 |ok|more
 |refused (w:B)
 deriving DecidableEq
def nQ:B:=[112,97,99,107,101,116]
def fU:B:=[99,111,109,109,97,110,100]
def p9:B:=[116,119,105,99,101]
def uO:B:=[109,97,110,121]
def xc:B:=[98,101,104,105,110,100]
def wZ:B:=[111,98,106,101,99,116]
def Cn.A9 (c:Cn):Er:=if c.ended then .refused nQ else .more
def Cn.next (c:Cn):Er×B×Bool×B:=
 if c.rest.length<4 then (c.A9,[],false,c.rest)
 else
  let h:=c.rest.take 4;let n:=dI h
  if !hex h||(n !=0&&decide (n<5))||decide (204<n) then (.refused nQ,[],false,c.rest)
  else if n=0 then (.ok,[],true,c.rest.drop 4)
  else if c.rest.length<n then (c.A9,[],false,c.rest)
  else (.ok,(c.rest.take n).drop 4,false,c.rest.drop n)
def oH (l:B):Bool:=decide (l.length=8)&&hex l
def zw (c:UInt8):Bool:=uW c||(decide (48<=c.toNat)&&decide (c.toNat<=57))||c==45
def pG:B:=[114,101,102,115,47]
def lJ (l:B):Bool:=pG.isPrefixOf l&&(decide (1<=(l.drop 5).length)&&decide ((l.drop 5).length<=12)&&(l.drop 5).all zw)
def Cn.command (c:Cn) (p:B) (flush:Bool):Er×Cn:=
 if flush&&decide (0<c.au.length) then (.ok,{c with second:=true})
 else if c.au.length=4 then (.refused uO,c)
 else match flush,split 32 p with
  |false,[a,b,r]=>
   if oH a&&oH b&&lJ r then
    if c.au.any (λm=>m.ref==r) then (.refused p9,c) else (.ok,{c with au:=c.au++[⟨a,b,r⟩]})
   else (.refused fU,c)
  |_,_=>(.refused fU,c)
def Cn.object (c:Cn) (p:B) (flush:Bool):Er×Cn:=
 if flush then (if c.rest=[] then .ok else .refused xc,{c with done:=true})
 else if c.ah.length=12 then (.refused uO,c)
 else if (parse p).isSome then (.ok,{c with ah:=c.ah++[p]}) else (.refused wZ,c)
def Cn.aV (c:Cn):Er×Cn:=
 match c.next with
 |(.ok,p,f,r)=>if c.second then Cn.object {c with rest:=r} p f else Cn.command {c with rest:=r} p f
 |(e,_,_,_)=>(e,c)
def dB:B:=[117,110,112,97,99,107,32]
def nl:B:=[10]
def give (l:M Nat) (c:Nat):M Nat:=l.filter λp=>!(p.2==c+1)
def aD:List B->M B×Bool
 |l=>l.foldl (λ(a:M B×Bool) t=>
  match a.1.get (dA t) with
  |some u=>if u≠t then (a.1,true) else (a.1.put (dA t) t,a.2)
  |none=>(a.1.put (dA t) t,a.2)) ([],false)
def find (s:St) (p:M B) (id:B):Option B:=match p.get id with
 |some t=>some t
 |none=>s.ah.get id
def news (seen:List B):List B->List B
 |[]=>[]
 |n::r=>if seen.contains n then news seen r else n::news (seen++[n]) r
def Ew (beh:B->List B):Nat->List B->List B->List B
 |0,_,_=>[]
 |_,_,[]=>[]
 |n+1,seen,k::q=>k::Ew beh n (seen++news seen (beh k)) (q++news seen (beh k))
def names (s:St) (p:M B) (id:B):List B:=match find s p id with
 |some t=>bE t
 |none=>[]
def ek (t:B):Bool:=kindOf t==99
def Pe (t:B):Bool:=kindOf t==116
def parents (s:St) (p:M B) (id:B):List B:=match find s p id with
 |some t=>if ek t then (bE t).drop 1 else []
 |none=>[]
def fuel (s:St) (p:M B):Nat:=1+((p.map λx=>(bE x.2).length).sum+(s.ah.map λx=>(bE x.2).length).sum)
def reach (s:St) (p:M B) (id:B):List B:=Ew (names s p) (fuel s p) [id] [id]
def line (s:St) (p:M B) (id:B):List B:=Ew (parents s p) (fuel s p) [id] [id]
def vo (k:UInt8):Nat->List (Option B)->Bool
 |_,[]=>true
 |i,n::r=>
  (if k=116 then !(match n with|some t=>ek t|none=>false)
   else if k=99 then (match n with|some t=>if i=0 then Pe t else ek t|none=>false)
   else true)&&vo k (i+1) r
def fits (s:St) (p:M B) (t:B):Bool:=vo (kindOf t) 0 ((bE t).map (find s p))
def rA:B:=[109,105,115,115,105,110,103]
def FL:B:=[116,121,112,101]
def jK:B:=[111,107]
def BS:B:=[115,116,97,108,101]
def BU:B:=[102,111,114,119,97,114,100]
def Qy:B:=[114,111,111,109]
def NU:B:=[99,108,97,115,104]
def rD:B:=[97,98,111,114,116,101,100]
def whole (s:St) (p:M B) (id:B):B:=
 if (reach s p id).any λk=>(find s p k).isNone then rA
 else if (reach s p id).all (λk=>match find s p k with|some t=>fits s p t|none=>true)&&(match find s p id with|some t=>ek t|none=>false) then []
 else FL
def word (s:St) (p:M B) (c:nN):B:=
 if (match s.refs.get c.ref with|some v=>if v=[] then di else v|none=>di)≠c.old then BS
 else if c.new=di then jK
 else if whole s p c.new≠[] then whole s p c.new
 else if !s.forward||c.old=di then jK
 else if (line s p c.new).contains c.old then jK
 else BU
def kP (s:St) (p:M B) (cl:Bool):Bool:=p.any (λx=>match s.ah.get x.1 with|some t=>t≠x.2|none=>false)||cl
def fresh (s:St) (p:M B):Nat:=(p.filter λx=>(s.ah.get x.1).isNone).length
def take (s:St) (p:M B) (cs:List nN):St:=
 {s with ah:=p.foldl (λm x=>m.put x.1 x.2) s.ah,refs:=cs.foldl (λm c=>if c.new=di then m.del c.ref else m.put c.ref c.new) s.refs}
def dP (one:B) (all:Bool):List (nN×B)->B
 |[]=>[]
 |(c,w0)::r=>
  let w:=if one≠[] then one else if w0=jK&&!all then rD else w0
  (if w=jK then jK++[32]++c.ref++nl else [110,103,32]++c.ref++[32]++w++nl)++dP one all r
def oneOf (s:St) (p:M B) (cl all:Bool):B:=
 if kP s p cl then NU else if all&&decide (s.room<s.ah.length+fresh s p) then Qy else []
def aW (s:St) (cs:List nN) (p:M B) (cl:Bool):B×St:=
 let ws:=cs.map (word s p);let all:=ws.all (·==jK);let one:=oneOf s p cl all
 (dB++jK++nl++dP one all (cs.zip ws),if all&&one==[] then take s p cs else s)
def Sv.set (s:Sv) (i:Nat) (c:Cn):Sv:={s with ae:=s.ae.set i c}
def Sv.work (s:Sv) (i:Nat) (c:Cn):Sv×Int:=
 match c.work with
 |some .read=>
  match c.aV with
  |(.refused w,d)=>({s with aP:=give s.aP i}.set i {d with bR:=dB++w++nl,bK:=true,work:=none},1)
  |(.more,d)=>(s.set i d,0)
  |(.ok,d)=>(s.set i (if d.done then {d with aY:=(d.aY++d.au.map (·.ref)).mergeSort uH,work:=some .lock} else d),1)
 |some .lock=>
  match c.aY with
  |[]=>
   let g:=aD c.ah;let r:=aW s.st c.au g.1 g.2
   ({s with st:=r.2}.set i {c with bR:=r.1,work:=some .fin},1)
  |w::ws=>if (s.aP.get w).getD 0=0 then ({s with aP:=s.aP.put w (i+1)}.set i {c with aY:=ws},1) else (s,0)
 |some .fin=>({s with aP:=give s.aP i}.set i {c with bK:=true,work:=none},1)
 |none=>(s,0)
def Sv.conn (s:Sv) (c:Int):Option (Nat×Cn):=if c<0 then none else match s.ae[c.toNat]? with
 |some x=>if x.over then none else some (c.toNat,x)
 |none=>none
def Sv.mark (s:Sv) (i:Nat):Sv:=match s.ae[i]? with
 |some x=>if x.work.isNone then s.set i {x with over:=true} else s
 |none=>s
def Sv.step (s:Sv) (c:Int):Sv×Int:=match s.conn c with
 |none=>(s,-1)
 |some (i,x)=>((s.work i x).1.mark i,(s.work i x).2)
def Sv.lI (s:Sv) (i:Nat) (x:Cn):Sv:={s with aP:=give s.aP i}.set i {x with work:=none}
def Sv.drop (s:Sv) (c:Int):Sv×Bool:=match s.conn c with
 |none=>(s,false)
 |some (i,x)=>((s.lI i x).mark i,true)
def Sv.open_ (s:Sv):Sv×Int:=if s.over||s.ae.length=8 then (s,-1) else ({s with ae:=s.ae++[{}]},s.ae.length)
def Sv.feed (s:Sv) (c:Int) (t:B):Sv×Bool:=match s.conn c with
 |none=>(s,false)
 |some (i,x)=>if x.ended||decide (600<x.nL.length+t.length) then (s,false) else (s.set i {x with nL:=x.nL++t,rest:=x.rest++t},true)
def Sv.bR (s:Sv) (c:Int):B×Bool:=if c<0 then ([],false) else match s.ae[c.toNat]? with
 |some x=>if x.over&&x.bK then (x.bR,true) else ([],false)
 |none=>([],false)
def Fb (forward:Bool) (room:Int):Sv:=⟨⟨forward,room.toNat,[],[]⟩,[],[],false⟩
end Sp
end
namespace Sp
open Tx
def ends (beh:B->List B):Nat->List B->List B->Prop
 |_,_,[]=>True
 |0,_,_::_=>False
 |n+1,seen,k::q=>ends beh n (seen++news seen (beh k)) (q++news seen (beh k))
theorem kV (seen:List B):∀(l:List B) (x:B),x∈news seen l↔x∈l/\x∉seen
 |[],x=>by simp [news]
 |n::r,x=>by
  unfold news;by_cases h:seen.contains n=true
  ·rw [if_pos h,kV seen r x];have hn:n∈seen:=by simpa using h
   constructor
   ·exact λa=>⟨List.mem_cons_of_mem _ a.1,a.2⟩
   ·rintro ⟨a,b⟩;rcases List.mem_cons.1 a with rfl|a
    ·exact absurd hn b
    ·exact ⟨a,b⟩
  ·rw [if_neg h];have hn:n∉seen:=by simpa using h
   simp only [List.mem_cons,kV (seen++[n]) r x,List.mem_append,List.not_mem_nil,or_false];constructor
   ·rintro (rfl|⟨a,b⟩)
    ·exact ⟨.inl rfl,hn⟩
    ·exact ⟨.inr a,λc=>b (.inl c)⟩
   ·rintro ⟨rfl|a,b⟩
    ·exact .inl rfl
    ·by_cases e:x=n
     ·exact .inl e
     ·exact .inr ⟨a,λc=>c.elim b e⟩
theorem vN:∀(l seen:List B),(news seen l).Nodup
 |[],seen=>by simp [news]
 |n::r,seen=>by
  unfold news;split
  ·exact vN r seen
  ·refine List.nodup_cons.2 ⟨λh=>?_,vN r _⟩;have:=((kV (seen++[n]) r n).1 h).2;simp at this
def jL (seen wO:List B):List B:=wO.filter λx=>!seen.contains x
theorem Ed:∀(wO seen l:List B),l.Nodup->(∀x∈l,x∈wO/\x∉seen)->(jL (seen++l) wO).length+l.length<=(jL seen wO).length
 |wO,seen,[],_,_=>by simp [jL]
 |wO,seen,a::l,hd,h=>by
  have hd':=List.nodup_cons.1 hd;have ih:=Ed wO (seen++[a]) l hd'.2 (λx hx=>⟨(h x (List.mem_cons_of_mem _ hx)).1,λe=>by
   rcases List.mem_append.1 e with e|e
   ·exact (h x (List.mem_cons_of_mem _ hx)).2 e
   ·obtain rfl:=List.mem_singleton.1 e;exact hd'.1 hx⟩)
  have ha:=h a (List.mem_cons_self ..);have h1:(jL (seen++[a]) wO).length+1<=(jL seen wO).length:=by
   have e:jL (seen++[a]) wO=(jL seen wO).filter (λx=>!(x==a)):=by unfold jL;rw [List.filter_filter];congr 1;funext x;simp [Bool.and_comm];by_cases e1:x∈seen<;>by_cases e2:x=a<;>simp [e1,e2]
   rw [e];have hm:a∈jL seen wO:=List.mem_filter.2 ⟨ha.1,by simpa using ha.2⟩;have:((jL seen wO).filter (λx=>!(x==a))).length<(jL seen wO).length:=by refine List.length_filter_lt_length_iff_exists.2 ⟨a,hm,by simp⟩
   omega
  rw [List.append_assoc] at ih;simp only [List.singleton_append] at ih;simp only [List.length_cons];omega
theorem JA {beh:B->List B} {wO:List B} (hu:∀k,∀x∈beh k,x∈wO):∀(n:Nat) (seen queue:List B),queue.length+(jL seen wO).length<=n->ends beh n seen queue
 |n,seen,[],_=>by cases n<;>trivial
 |0,seen,k::q,h=>by simp at h
 |n+1,seen,k::q,h=>by
  unfold ends;refine JA hu n _ _ ?_;have:=Ed wO seen (news seen (beh k)) (vN _ _) (λx hx=>⟨hu k x ((kV seen _ x).1 hx).1,((kV seen _ x).1 hx).2⟩);simp only [List.length_cons,List.length_append] at h ⊢;omega
def wO (s:St) (p:M B):List B:=(p.map λx=>bE x.2).flatten++(s.ah.map λx=>bE x.2).flatten
theorem get_mem {α:Type} {m:M α} {k:B} {v:α} (h:m.get k=some v):(k,v)∈m:=by
 unfold M.get at h;rw [Option.map_eq_some_iff] at h;obtain ⟨p,hp,rfl⟩:=h;have h1:=List.mem_of_find?_eq_some hp;have h2:=List.find?_some hp;have:p.1=k:=by simpa using h2
 rw [<-this];exact h1
theorem M5 {s:St} {p:M B} {k t:B} (h:find s p k=some t):∀x∈bE t,x∈wO s p:=by
 intro x hx;unfold wO;rw [List.mem_append];unfold find at h;split at h
 ·rename_i u hu;obtain rfl:=Option.some.inj h;exact .inl (List.mem_flatten.2 ⟨_,List.mem_map.2 ⟨_,get_mem hu,rfl⟩,hx⟩)
 ·exact .inr (List.mem_flatten.2 ⟨_,List.mem_map.2 ⟨_,get_mem h,rfl⟩,hx⟩)
theorem Uy (s:St) (p:M B) (k:B):∀x∈names s p k,x∈wO s p:=by
 intro x hx;unfold names at hx;split at hx
 ·rename_i t ht;exact M5 ht x hx
 ·cases hx
theorem La (s:St) (p:M B) (k:B):∀x∈parents s p k,x∈wO s p:=by
 intro x hx;unfold parents at hx;split at hx
 ·rename_i t ht;split at hx
  ·exact M5 ht x (List.mem_of_mem_drop hx)
  ·cases hx
 ·cases hx
theorem M0 (s:St) (p:M B):fuel s p=1+(wO s p).length:=by unfold fuel wO;rw [List.length_append,List.length_flatten,List.length_flatten,List.map_map,List.map_map];rfl
theorem Ef (s:St) (p:M B) (id:B):ends (names s p) (fuel s p) [id] [id]:=by refine JA (Uy s p) _ _ _ ?_;rw [M0];have:(jL [id] (wO s p)).length<=(wO s p).length:=List.length_filter_le ..;simp;omega
theorem Jz (s:St) (p:M B) (id:B):ends (parents s p) (fuel s p) [id] [id]:=by refine JA (La s p) _ _ _ ?_;rw [M0];have:(jL [id] (wO s p)).length<=(wO s p).length:=List.length_filter_le ..;simp;omega
inductive Rch (beh:B->List B) (id:B):B->Prop
 |start:Rch beh id id
 |next {k n:B}:Rch beh id k->n∈beh k->Rch beh id n
theorem Hq {beh:B->List B} {id:B}:∀(n:Nat) (seen queue:List B),(∀x∈queue,Rch beh id x)->∀x∈Ew beh n seen queue,Rch beh id x
 |0,_,_,_,x,hx=>by simp [Ew] at hx
 |_+1,_,[],_,x,hx=>by simp [Ew] at hx
 |n+1,seen,k::q,h,x,hx=>by
  unfold Ew at hx;rcases List.mem_cons.1 hx with rfl|hx
  ·exact h _ (List.mem_cons_self ..)
  ·refine Hq n _ _ (λy hy=>?_) x hx;rcases List.mem_append.1 hy with hy|hy
   ·exact h y (List.mem_cons_of_mem _ hy)
   ·exact .next (h k (List.mem_cons_self ..)) ((kV seen _ y).1 hy).1
theorem Ev {beh:B->List B}:∀(n:Nat) (seen queue past:List B),ends beh n seen queue->(∀x∈seen,x∈past\/x∈queue)->(∀k∈past,∀y∈beh k,y∈seen)->
 (∀x∈queue,x∈Ew beh n seen queue)/\∀k,k∈past\/k∈Ew beh n seen queue->∀y∈beh k,y∈past\/y∈Ew beh n seen queue
 |n,seen,[],past,_,h1,h2=>by
  have e:Ew beh n seen []=[]:=by cases n<;>rfl
  rw [e];refine ⟨(λx hx=>absurd hx (List.not_mem_nil)),λk hk y hy=>?_⟩;rcases hk with hk|hk
  ·rcases h1 y (h2 k hk y hy) with h|h
   ·exact .inl h
   ·cases h
  ·cases hk
 |0,seen,k::q,past,he,_,_=>he.elim
 |n+1,seen,k::q,past,he,h1,h2=>by
  unfold ends at he;have ih:=Ev n (seen++news seen (beh k)) (q++news seen (beh k)) (k::past) he
   (λx hx=>by
     rcases List.mem_append.1 hx with hx|hx
     ·rcases h1 x hx with h|h
      ·exact .inl (List.mem_cons_of_mem _ h)
      ·rcases List.mem_cons.1 h with rfl|h
       ·exact .inl (List.mem_cons_self ..)
       ·exact .inr (List.mem_append.2 (.inl h))
     ·exact .inr (List.mem_append.2 (.inr hx)))
   (λz hz y hy=>by
     rcases List.mem_cons.1 hz with rfl|hz
     ·by_cases hs:y∈seen
      ·exact List.mem_append.2 (.inl hs)
      ·exact List.mem_append.2 (.inr ((kV seen _ y).2 ⟨hy,hs⟩))
     ·exact List.mem_append.2 (.inl (h2 z hz y hy)))
  unfold Ew;refine ⟨λx hx=>?_,λz hz y hy=>?_⟩
  ·rcases List.mem_cons.1 hx with rfl|hx
   ·exact List.mem_cons_self ..
   ·exact List.mem_cons_of_mem _ (ih.1 x (List.mem_append.2 (.inl hx)))
  ·have hz':z∈k::past\/z∈Ew beh n (seen++news seen (beh k)) (q++news seen (beh k)):=by
    rcases hz with h|h
    ·exact .inl (List.mem_cons_of_mem _ h)
    ·rcases List.mem_cons.1 h with rfl|h
     ·exact .inl (List.mem_cons_self ..)
     ·exact .inr h
   rcases ih.2 z hz' y hy with h|h
   ·rcases List.mem_cons.1 h with rfl|h
    ·exact .inr (List.mem_cons_self ..)
    ·exact .inl h
   ·exact .inr (List.mem_cons_of_mem _ h)
theorem aDm {beh:B->List B} {n:Nat} {id x:B} (he:ends beh n [id] [id]):x∈Ew beh n [id] [id]↔Rch beh id x:=by
 refine ⟨Hq n [id] [id] (λy hy=>by obtain rfl:=List.mem_singleton.1 hy;exact .start) x,λh=>?_⟩;have c:=Ev n [id] [id] [] he (λy hy=>.inr hy) (λy hy=>by cases hy)
 induction h with
 |start=>exact c.1 id (List.mem_singleton.2 rfl)
 |next _ hn ih=>exact (c.2 _ (.inr ih) _ hn).resolve_left (λh=>by cases h)
theorem T9 (s:St) (p:M B) (id x:B):x∈reach s p id↔Rch (names s p) id x:=aDm (Ef s p id)
end Sp
namespace Rc
open Tx Sp
def dW:B->B->List B
 |_,[]=>[]
 |a,x::r=>if x=10 then a::dW [] r else dW (a++[x]) r
def lines (r:B):List B:=dW [] r
def pOk:B:=[111,107,32]
def pNg:B:=[110,103,32]
def rq:List B->Option Nat
 |[]=>some 0
 |l::r=>if decide (3<l.length)&&(l.take 3==pOk) then (rq r).map (·+1) else if decide (l.length<3)||!(l.take 3==pNg) then none else rq r
def kD:B:=dB++jK
def kZ (r:B):Bool×Bool:=
 let l:=lines r
 match l with
 |[]=>(false,false)
 |[_]=>(false,decide (8<r.length)&&(r.take 7==dB)&&!(r==kD++nl))
 |h::t=>match rq t with
  |none=>(false,false)
  |some n=>(decide (0<n),(h==kD)&&(n==0||n==t.length))
def mg:B:=[116,114,101,101,32]
def tId:B:=dA mg
def sZ (c:Nat):B:=qo++[32]++tId++[32,45,32]++[UInt8.ofNat (97+c)]
def Hm (c:Nat):B:=dA (sZ c)
def rM:B:=pG++[109]
def jT (c:Nat):B:=pG++[111,119,110]++[UInt8.ofNat (97+c)]
def flush:B:=[48,48,48,48]
def lK (c:Nat):B:=dU (di++[32]++Hm c++[32]++jT c)++dU (di++[32]++Hm c++[32]++rM)++flush++dU mg++dU (sZ c)++flush
def ny:Nat->Sv->Int->Sv
 |0,s,_=>s
 |k+1,s,c=>if (s.step c).2=1 then ny k (s.step c).1 c else (s.step c).1
def start:Nat->Sv
 |0=>Fb false 40
 |c+1=>(((start c).open_.1).feed c (lK c)).1
def xe (s:Sv) (l:List Nat):Sv:=l.foldl (λs (c:Nat)=>(s.step (c:Int)).1) s
def gH (s:Sv) (l:List Nat):Sv:=l.foldl (λs (c:Nat)=>ny 51 s (c:Int)) s
def rounds (n:Nat):List Nat:=(List.range (20*n)).map (·%n)
def EY (c:Nat):Nat->Cn
 |0=>{nL:=lK c,rest:=lK c}
 |p+1=>(EY c p).aV.2
theorem aDF:∃f,f=EY:=⟨_,rfl⟩
def rd:Nat->Nat->Cn:=Classical.choose aDF
theorem qP:rd=EY:=Classical.choose_spec aDF
def EU (c:Nat) (b:Bool):B:=
 if b then dB++jK++nl++(pOk++jT c++nl)++(pOk++rM++nl)
 else dB++jK++nl++(pNg++jT c++[32]++rD++nl)++(pNg++rM++[32]++BS++nl)
theorem XW:∃f,f=EU:=⟨_,rfl⟩
def rep:Nat->Bool->B:=Classical.choose XW
theorem mO:rep=EU:=Classical.choose_spec XW
def YP (c:Nat) (ws:List B):Cn:={rd c 6 with aY:=ws,work:=some .lock}
def cn (c p:Nat) (b:Bool):Cn:=
 if p<6 then rd c p
 else if p=6 then YP c [rM,jT c]
 else if p=7 then YP c [jT c]
 else if p=8 then YP c []
 else if p=9 then {rd c 6 with aY:=[],work:=some .fin,bR:=rep c b}
 else {rd c 6 with aY:=[],work:=none,bR:=rep c b,bK:=true,over:=true}
def mG:Option Nat->St
 |none=>⟨false,40,[],[]⟩
 |some w=>⟨false,40,(aD [mg,sZ w]).1,[(rM,Hm w),(jT w,Hm w)]⟩
def uG (ph:Nat->Nat):Option Nat->M Nat
 |none=>[]
 |some h=>if ph h=7 then [(rM,h+1)] else [(rM,h+1),(jT h,h+1)]
def abs (n:Nat) (ph:Nat->Nat) (hold win:Option Nat):Sv:=
 {st:=mG win,aP:=uG ph hold,ae:=(List.range n).map λc=>cn c (ph c) (win==some c),over:=false}
structure I (n:Nat) (ph:Nat->Nat) (hold win:Option Nat):Prop where
 held:∀c,c<n->((7<=ph c/\ph c<=9)↔hold=some c)
 Pq:∀h,hold=some h->h<n
 YC:∀c,c<n->ph c<=10
 won:∀w,win=some w->w<n/\9<=ph w
 yet:win=none->∀c,c<n->ph c<=8
theorem wJ {p:Nat->Bool} (h:(List.range 5).all p=true) {c:Nat} (hc:c<5):p c=true:=List.all_eq_true.1 h c (List.mem_range.2 hc)
theorem aHv {p:Nat->Bool} (h:(List.range 6).all p=true) {c:Nat} (hc:c<6):p c=true:=List.all_eq_true.1 h c (List.mem_range.2 hc)
theorem aC5:((List.range 5).all λc=>(List.range 6).all λp=>decide ((EY c p).aV=(Er.ok,EY c (p+1)))&&decide ((EY c p).work=some .read)&&decide ((EY c p).over=false)&&decide ((EY c (p+1)).done=(p==5))&&decide ((EY c (p+1)).work=some .read))=true:=by decide+kernel
theorem Z8:((List.range 5).all λc=>(List.range 6).all λp=>decide ((rd c p).aV=(Er.ok,rd c (p+1)))&&decide ((rd c p).work=some .read)&&decide ((rd c p).over=false)&&decide ((rd c (p+1)).done=(p==5))&&decide ((rd c (p+1)).work=some .read))=true:=by
 first|rw [qP,mO]|rw [qP]|rw [mO]
 exact aC5
theorem aGT:((List.range 5).all λc=>decide ((EY c 6).aY=[])&&decide ((EY c 6).au.map (·.ref)=[jT c,rM])&&(!uH (jT c) rM)&&decide ((EY c 6).over=false)&&decide ((EY c 6).bR=[])&&decide ((EY c 6).ah=[mg,sZ c]))=true:=by decide+kernel
theorem aEv:((List.range 5).all λc=>decide ((rd c 6).aY=[])&&decide ((rd c 6).au.map (·.ref)=[jT c,rM])&&(!uH (jT c) rM)&&decide ((rd c 6).over=false)&&decide ((rd c 6).bR=[])&&decide ((rd c 6).ah=[mg,sZ c]))=true:=by
 first|rw [qP,mO]|rw [qP]|rw [mO]
 exact aGT
theorem aC7:((List.range 5).all λc=>decide (aW (mG none) (EY c 6).au (aD (EY c 6).ah).1 (aD (EY c 6).ah).2=(EU c true,mG (some c))))=true:=by decide+kernel
theorem aGZ:((List.range 5).all λc=>decide (aW (mG none) (rd c 6).au (aD (rd c 6).ah).1 (aD (rd c 6).ah).2=(rep c true,mG (some c))))=true:=by
 first|rw [qP,mO]|rw [qP]|rw [mO]
 exact aC7
theorem aC6:((List.range 5).all λc=>(List.range 5).all λw=>c==w||decide (aW (mG (some w)) (EY c 6).au (aD (EY c 6).ah).1 (aD (EY c 6).ah).2=(EU c false,mG (some w))))=true:=by decide+kernel
theorem aGY:((List.range 5).all λc=>(List.range 5).all λw=>c==w||decide (aW (mG (some w)) (rd c 6).au (aD (rd c 6).ah).1 (aD (rd c 6).ah).2=(rep c false,mG (some w))))=true:=by
 first|rw [qP,mO]|rw [qP]|rw [mO]
 exact aC6
theorem Ry:((List.range 5).all λc=>decide (M.put ([]:M Nat) rM (c+1)=[(rM,c+1)])&&decide (M.put [(rM,c+1)] (jT c) (c+1)=[(rM,c+1),(jT c,c+1)])&&decide (M.get [(rM,c+1)] (jT c)=none)&&decide (M.get [(rM,c+1)] rM=some (c+1))&&decide (M.get [(rM,c+1),(jT c,c+1)] rM=some (c+1))&&decide (give [(rM,c+1),(jT c,c+1)] c=[]))=true:=by decide+kernel
theorem aG0:((List.range 5).all λc=>decide (kZ (EU c true)=(true,true))&&decide (kZ (EU c false)=(false,true)))=true:=by decide+kernel
theorem aLk:((List.range 5).all λc=>decide (kZ (rep c true)=(true,true))&&decide (kZ (rep c false)=(false,true)))=true:=by
 first|rw [qP,mO]|rw [qP]|rw [mO]
 exact aG0
theorem aGV:((List.range 5).all λc=>decide ((start c).open_.2=(c:Int))&&(((start c).open_.1).feed c (lK c)).2)=true:=by decide+kernel
theorem Z7:((List.range 6).all λn=>decide (start n={st:=mG none,aP:=[],ae:=(List.range n).map λc=>EY c 0,over:=false}))=true:=by decide+kernel
theorem Rw:∀n,n<6->start n=abs n (λ_=>0) none none:=by intro n hn;have:=aHv Z7 hn;rw [decide_eq_true_eq] at this;rw [this];unfold abs cn;rw [qP];rfl
theorem aI9 (a b:B) (h:uH a b=false):[a,b].mergeSort uH=[b,a]:=by simp [List.mergeSort,List.MergeSort.Internal.splitInTwo,List.merge,h]
def upd (ph:Nat->Nat) (c p:Nat):Nat->Nat:=λx=>if x=c then p else ph x
theorem aBJ {α:Type} (n:Nat) (f:Nat->α) (c:Nat) (d:α):((List.range n).map f).set c d=(List.range n).map λx=>if x=c then d else f x:=by
 apply List.ext_getElem
 ·simp
 ·intro i h1 h2;simp only [List.getElem_set,List.getElem_map,List.getElem_range];by_cases h:c=i
  ·simp [h]
  ·rw [if_neg h,if_neg (λe=>h e.symm)]
theorem IA {s:Sv} {c:Nat} {x d:Cn} {st':St} {l':M Nat} {k:Int} (h:s.ae[c]? =some x) (ho:x.over=false)
 (hw:s.work c x=(Sv.set {s with st:=st',aP:=l'} c d,k)):
 s.step (c:Int)=({s with st:=st',aP:=l',ae:=s.ae.set c (if d.work.isNone then {d with over:=true} else d)},k):=by
 have aI:c<s.ae.length:=(List.getElem?_eq_some_iff.1 h).1;have hc:s.conn (c:Int)=some (c,x):=by unfold Sv.conn;rw [if_neg (by omega),Int.toNat_natCast,h];simp [ho]
 unfold Sv.step;rw [hc];simp only [hw];unfold Sv.mark Sv.set;simp only [List.getElem?_set_self aI];cases hd:d.work.isNone<;>simp
theorem yB {n c:Nat} (hc:c<n) (ph:Nat->Nat) (hold win:Option Nat):(abs n ph hold win).ae[c]? =some (cn c (ph c) (win==some c)):=by simp [abs,hc]
theorem aDq {n c p:Nat} {ph:Nat->Nat} {hold win jy rz:Option Nat} {l':M Nat} (hl:l'=uG (upd ph c p) jy)
 (hw:∀x,x<n->x≠c->(rz==some x)=(win==some x)):
 ({abs n ph hold win with st:=mG rz,aP:=l',ae:=(abs n ph hold win).ae.set c (cn c p (rz==some c))}:Sv)=abs n (upd ph c p) jy rz:=by
 unfold abs;simp only [hl,aBJ];congr 1;apply List.map_congr_left;intro x hx;unfold upd;by_cases h:x=c
 ·subst h;simp
 ·simp only [if_neg h,hw x (List.mem_range.1 hx) h]
theorem RL {c p:Nat} (hc:c<5) (hp:p<=9) (b:Bool):(cn c p b).over=false:=by
 have h6:(rd c 6).over=false:=by have:=wJ aEv hc;simp only [Bool.and_eq_true,decide_eq_true_eq] at this;exact this.1.1.2
 unfold cn YP
 repeat' split
 ·have:=aHv (wJ Z8 hc) (show p<6 by omega);simp only [Bool.and_eq_true,decide_eq_true_eq] at this;exact this.1.1.2
 all_goals first|omega|exact h6
def jy (c p:Nat) (hold:Option Nat):Option Nat:=if p=6 then some c else if p=9 then none else hold
def rz (c p:Nat) (win:Option Nat):Option Nat:=if p=8 then (if win=none then some c else win) else win
theorem I.step {n c:Nat} {ph:Nat->Nat} {hold win:Option Nat} (hI:I n ph hold win) (hc:c<n) (hp:ph c<=9) (h6:ph c=6->hold=none):
 I n (upd ph c (ph c+1)) (jy c (ph c) hold) (rz c (ph c) win):=by
 have hh:=hI.held c hc;refine ⟨λx hx=>?_,λh hh'=>?_,λx hx=>?_,λw hw=>?_,λhw x hx=>?_⟩
 ·have fI:=hI.held x hx;unfold upd jy;by_cases e:x=c
  ·subst e;rw [if_pos rfl];split
   ·simp;omega
   ·split
    ·simp;omega
    ·rw [<-hh];omega
  ·rw [if_neg e];split
   ·rename_i h;rw [fI,h6 h];simp;exact λa=>e a.symm
   ·split
    ·rename_i h;rw [fI,hh.1 (by omega)];simp;exact λa=>e a.symm
    ·exact fI
 ·unfold jy at hh';split at hh'
  ·simp at hh';omega
  ·split at hh'
   ·cases hh'
   ·exact hI.Pq h hh'
 ·unfold upd;split
  ·omega
  ·exact hI.YC x hx
 ·unfold rz at hw;unfold upd;by_cases h8:ph c=8
  ·rw [if_pos h8] at hw;by_cases hn:win=none
   ·rw [if_pos hn] at hw;obtain rfl:c=w:=Option.some.inj hw;exact ⟨hc,by rw [if_pos rfl];omega⟩
   ·rw [if_neg hn] at hw;have:=hI.won w hw;refine ⟨this.1,?_⟩;split
    ·omega
    ·exact this.2
  ·rw [if_neg h8] at hw;have:=hI.won w hw;refine ⟨this.1,?_⟩;split
   ·rename_i e;subst e;omega
   ·exact this.2
 ·unfold rz at hw;unfold upd;by_cases h8:ph c=8
  ·rw [if_pos h8] at hw;by_cases hn:win=none
   ·rw [if_pos hn] at hw;cases hw
   ·rw [if_neg hn] at hw;exact absurd hw hn
  ·rw [if_neg h8] at hw;have:=hI.yet hw;split
   ·have:=this c hc;omega
   ·exact this x hx
theorem xC {n c:Nat} {ph:Nat->Nat} {hold win:Option Nat} (hn:n<=5) (hI:I n ph hold win) (hc:c<n) (hp:ph c<=9) (h6:ph c=6->hold=none):
 (abs n ph hold win).step (c:Int)=(abs n (upd ph c (ph c+1)) (jy c (ph c) hold) (rz c (ph c) win),1):=by
 have NP:c<5:=by omega
 have hx:=yB hc ph hold win;have ho:=RL NP hp (win==some c);have h8:∀x,x<n->x≠c->(rz c (ph c) win==some x)=(win==some x):=by
  intro x hx e;unfold rz;split
  ·split
   ·rename_i h;rw [h];simp;exact λa=>e a.symm
   ·rfl
  ·rfl
 have key:∀(d:Cn) (st1:St) (l1:M Nat),(abs n ph hold win).work c (cn c (ph c) (win==some c))=(Sv.set {abs n ph hold win with st:=st1,aP:=l1} c d,1)->
  st1=mG (rz c (ph c) win)->l1=uG (upd ph c (ph c+1)) (jy c (ph c) hold)->(if d.work.isNone then {d with over:=true} else d)=cn c (ph c+1) (rz c (ph c) win==some c)->
  (abs n ph hold win).step (c:Int)=(abs n (upd ph c (ph c+1)) (jy c (ph c) hold) (rz c (ph c) win),1):=by
  intro d st1 l1 hw e1 e2 e3;rw [IA hx ho hw,e3,e1];exact congrArg (·,(1:Int)) (aDq e2 h8)
 have hs6:=wJ aEv NP;simp only [Bool.and_eq_true,decide_eq_true_eq] at hs6;obtain ⟨⟨⟨⟨⟨s1,s2⟩,s3⟩,s4⟩,s5⟩,s6⟩:=hs6;have yn:=wJ Ry NP;simp only [Bool.and_eq_true,decide_eq_true_eq] at yn;obtain ⟨⟨⟨⟨⟨k1,k2⟩,k3⟩,k4⟩,k5⟩,k6⟩:=yn;have aDK:∀p,p≠6->p≠9->p≠7->ph c=p->uG (upd ph c (p+1)) (jy c p hold)=uG ph hold:=by
  intro p a b d e;unfold jy;rw [if_neg a,if_neg b];cases hold with
  |none=>rfl
  |some h=>
   unfold uG upd;by_cases eh:h=c
   ·subst eh;simp only [if_pos];rw [if_neg (by omega),if_neg (by omega)]
   ·simp only [if_neg eh]
 obtain Pp|Pp|Pp|Pp|Pp:ph c<6\/ph c=6\/ph c=7\/ph c=8\/ph c=9:=by omega
 ·have hr:=aHv (wJ Z8 NP) Pp;simp only [Bool.and_eq_true,decide_eq_true_eq] at hr;obtain ⟨⟨⟨⟨r1,r2⟩,r3⟩,r4⟩,r5⟩:=hr;have ecn:cn c (ph c) (win==some c)=rd c (ph c):=by unfold cn;rw [if_pos Pp]
  have ew:rz c (ph c) win=win:=by unfold rz;rw [if_neg (by omega)]
  by_cases h5:ph c=5
  ·refine key (YP c [rM,jT c]) (mG win) (uG ph hold) ?_ (by rw [ew]) (aDK _ (by omega) (by omega) (by omega) rfl).symm ?_
   ·rw [ecn];unfold Sv.work;simp only [r2,r1];rw [h5] at r4 ⊢;rw [if_pos (show (rd c (5+1)).done=true by rw [r4];rfl)];show (Sv.set (abs n ph hold win) c {rd c 6 with aY:=((rd c 6).aY++(rd c 6).au.map (·.ref)).mergeSort uH,work:=some .lock},(1:Int))=_;rw [s1,s2,List.nil_append,aI9 _ _ (show uH (jT c) rM=false by simpa using s3)];rfl
   ·rw [h5];rfl
  ·refine key (rd c (ph c+1)) (mG win) (uG ph hold) ?_ (by rw [ew]) (aDK _ (by omega) (by omega) (by omega) rfl).symm ?_
   ·rw [ecn];unfold Sv.work;simp only [r2,r1];have r4:(rd c (ph c+1)).done=false:=by rw [r4];simp;exact h5
    simp only [r4,Bool.false_eq_true,if_false];rfl
   ·rw [r5,if_neg (by decide)];unfold cn;rw [if_pos (show ph c+1<6 by omega)]
 ·have eh:=h6 Pp;subst eh;have ew:rz c 6 win=win:=rfl;rw [Pp] at key ⊢;refine key (YP c [jT c]) (mG win) [(rM,c+1)] ?_ rfl ?_ rfl
  ·show (match (YP c [rM,jT c]).work with|_=>_)=_;unfold Sv.work;show (if (M.get (abs n ph none win).aP rM).getD 0=0 then _ else _)=_;rw [show (abs n ph none win).aP=([]:M Nat) from rfl,if_pos (show (M.get ([]:M Nat) rM).getD 0=0 from rfl),k1];rfl
  ·unfold jy uG upd;simp
 ·have eh:=(hI.held c hc).1 (by omega);subst eh;rw [Pp] at key ⊢;have hl:(abs n ph (some c) win).aP=[(rM,c+1)]:=by unfold abs uG;simp [Pp]
  refine key (YP c []) (mG win) [(rM,c+1),(jT c,c+1)] ?_ rfl ?_ rfl
  ·unfold Sv.work;show (if (M.get (abs n ph (some c) win).aP (jT c)).getD 0=0 then _ else _)=_;rw [hl,k3,if_pos (show (none:Option Nat).getD 0=0 from rfl),k2];rfl
  ·unfold jy uG upd;simp
 ·have eh:=(hI.held c hc).1 (by omega);subst eh;have hl:(abs n ph (some c) win).aP=[(rM,c+1),(jT c,c+1)]:=by unfold abs uG;simp [Pp]
  have hg:(YP c []).work=some .lock:=rfl;cases aJX:win with
  |none=>
   subst aJX;have hd:=wJ aGZ NP;rw [decide_eq_true_eq] at hd;rw [Pp] at key ⊢;refine key {rd c 6 with aY:=[],work:=some .fin,bR:=rep c true} (mG (some c)) (abs n ph (some c) none).aP ?_ rfl ?_ ?_
   ·unfold Sv.work;show (Sv.set {abs n ph (some c) none with st:=(aW (mG none) (rd c 6).au (aD (rd c 6).ah).1 (aD (rd c 6).ah).2).2} c {YP c [] with bR:=(aW (mG none) (rd c 6).au (aD (rd c 6).ah).1 (aD (rd c 6).ah).2).1,work:=some .fin},(1:Int))=_;rw [hd];rfl
   ·rw [hl];unfold jy uG upd;simp
   ·show _=cn c 9 (some c==some c);rw [show (some c==some c)=true by simp];rfl
  |some w=>
   subst aJX;have qX:c≠w:=λe=>by have:=(hI.won w rfl).2;rw [<-e] at this;omega
   have hw5:w<5:=by have:=(hI.won w rfl).1;omega
   have hd:=wJ (wJ aGY NP) hw5;rw [Bool.or_eq_true,decide_eq_true_eq] at hd;have hd:=hd.resolve_left (by simp;exact qX);rw [Pp] at key ⊢;refine key {rd c 6 with aY:=[],work:=some .fin,bR:=rep c false} (mG (some w)) (abs n ph (some c) (some w)).aP ?_ rfl ?_ ?_
   ·unfold Sv.work;show (Sv.set {abs n ph (some c) (some w) with st:=(aW (mG (some w)) (rd c 6).au (aD (rd c 6).ah).1 (aD (rd c 6).ah).2).2} c {YP c [] with bR:=(aW (mG (some w)) (rd c 6).au (aD (rd c 6).ah).1 (aD (rd c 6).ah).2).1,work:=some .fin},(1:Int))=_;rw [hd];rfl
   ·rw [hl];unfold jy uG upd;simp
   ·show _=cn c 9 (some w==some c);rw [show (some w==some c)=false by simp;exact λe=>qX e.symm];rfl
 ·have eh:=(hI.held c hc).1 (by omega);subst eh;have hl:(abs n ph (some c) win).aP=[(rM,c+1),(jT c,c+1)]:=by unfold abs uG;simp [Pp]
  rw [Pp] at key ⊢;refine key {rd c 6 with aY:=[],work:=none,bR:=rep c (win==some c),bK:=true} (mG win) [] ?_ rfl rfl ?_
  ·unfold Sv.work;show (Sv.set {abs n ph (some c) win with aP:=give (abs n ph (some c) win).aP c} c _,(1:Int))=_;rw [hl,k6];rfl
  ·rfl
theorem FY {n c h:Nat} {ph:Nat->Nat} {win:Option Nat} (hn:n<=5) (hI:I n ph (some h) win) (hc:c<n) (hp:ph c=6):
 (abs n ph (some h) win).step (c:Int)=(abs n ph (some h) win,0):=by
 have NP:c<5:=by omega
 have hx:=yB hc ph (some h) win;have ho:=RL NP (show ph c<=9 by omega) (win==some c);have hh5:h<5:=by have:=hI.Pq h rfl;omega
 have yn:=wJ Ry hh5;simp only [Bool.and_eq_true,decide_eq_true_eq] at yn;obtain ⟨⟨⟨⟨⟨k1,k2⟩,k3⟩,k4⟩,k5⟩,k6⟩:=yn;have ZF:(abs n ph (some h) win).conn (c:Int)=some (c,cn c (ph c) (win==some c)):=by unfold Sv.conn;rw [if_neg (by omega),Int.toNat_natCast,hx];simp [ho]
 have aKG:M.get (abs n ph (some h) win).aP rM=some (h+1):=by
  unfold abs uG;simp only;split
  ·exact k4
  ·exact k5
 have YV:(abs n ph (some h) win).work c (cn c (ph c) (win==some c))=(abs n ph (some h) win,0):=by rw [hp];unfold Sv.work;show (if (M.get (abs n ph (some h) win).aP rM).getD 0=0 then _ else _)=_;rw [aKG];rfl
 unfold Sv.step;rw [ZF];simp only [YV];unfold Sv.mark;rw [hx];simp only [hp];rfl
theorem yZ {n c:Nat} {ph:Nat->Nat} {hold win:Option Nat} (hc:c<n) (hp:ph c=10):
 (abs n ph hold win).step (c:Int)=(abs n ph hold win,-1):=by
 have hx:=yB hc ph hold win;have ZF:(abs n ph hold win).conn (c:Int)=none:=by unfold Sv.conn;rw [if_neg (by omega),Int.toNat_natCast,hx,hp];rfl
 unfold Sv.step;rw [ZF]
def Is (n:Nat) (s:Sv) (ph:Nat->Nat) (hold:Option Nat):Prop:=∃win,s=abs n ph hold win/\I n ph hold win
theorem iQ {n c:Nat} {s:Sv} {ph:Nat->Nat} {hold:Option Nat} (hn:n<=5) (hc:c<n) (h:Is n s ph hold):∃OI jy,Is n (s.step (c:Int)).1 OI jy:=by
 obtain ⟨win,rfl,hI⟩:=h;by_cases Ay:ph c=10
 ·exact ⟨ph,hold,win,by rw [yZ hc Ay],hI⟩
 ·have hle:=hI.YC c hc;by_cases h6:ph c=6
  ·cases hold with
   |none=>exact ⟨_,_,_,by rw [xC hn hI hc (by omega) (λ_=>rfl)],hI.step hc (by omega) (λ_=>rfl)⟩
   |some h=>exact ⟨_,_,_,by rw [FY hn hI hc h6],hI⟩
  ·exact ⟨_,_,_,by rw [xC hn hI hc (by omega) (λe=>absurd e h6)],hI.step hc (by omega) (λe=>absurd e h6)⟩
theorem turns {n:Nat} (hn:n<=5):∀(l:List Nat) (s:Sv),(∀c∈l,c<n)->(∃ph hold,Is n s ph hold)->∃ph hold,Is n (xe s l) ph hold
 |[],s,_,h=>h
 |c::l,s,hl,⟨ph,hold,h⟩=>turns hn l _ (λx hx=>hl x (List.mem_cons_of_mem _ hx)) (iQ hn (hl c (List.mem_cons_self ..)) h)
theorem wy {n c:Nat} (hn:n<=5) (hc:c<n):∀(k:Nat) (s:Sv) (ph:Nat->Nat) (hold:Option Nat),11 - ph c<=k->(hold=none\/hold=some c)->Is n s ph hold->
 ∃OI,Is n (ny k s (c:Int)) OI none/\OI c=10/\∀x,x≠c->OI x=ph x
 |0,s,ph,hold,hk,_,⟨win,hs,hI⟩=>by have:=hI.YC c hc;omega
 |k+1,s,ph,hold,hk,hh,⟨win,hs,hI⟩=>by
  subst hs;have hle:=hI.YC c hc;unfold ny;by_cases Ay:ph c=10
  ·rw [yZ hc Ay];have:hold=none:=by
    rcases hh with h|h
    ·exact h
    ·have:=(hI.held c hc).2 h;omega
   subst this;exact ⟨ph,⟨win,rfl,hI⟩,Ay,λ_ _=>rfl⟩
  ·have h6:ph c=6->hold=none:=λe=>by
    rcases hh with h|h
    ·exact h
    ·have:=(hI.held c hc).2 h;omega
   rw [xC hn hI hc (by omega) h6];obtain ⟨OI,r1,r2,r3⟩:=wy hn hc k _ (upd ph c (ph c+1)) (jy c (ph c) hold) (by unfold upd;rw [if_pos rfl];omega)
    (by unfold jy;split
        ·exact .inr rfl
        ·split
         ·exact .inl rfl
         ·exact hh) ⟨_,rfl,hI.step hc (by omega) h6⟩
   exact ⟨OI,r1,r2,λx hx=>by rw [r3 x hx];unfold upd;rw [if_neg hx]⟩
theorem Ei {n c h:Nat} (hn:n<=5) (hc:c<n) (gN:c≠h):∀(k:Nat) (s:Sv) (ph:Nat->Nat),Is n s ph (some h)->
 ∃OI,Is n (ny k s (c:Int)) OI (some h)
 |0,s,ph,i=>⟨ph,i⟩
 |k+1,s,ph,⟨win,hs,hI⟩=>by
  subst hs;have hle:=hI.YC c hc;unfold ny;by_cases Ay:ph c=10
  ·rw [yZ hc Ay];exact ⟨ph,⟨win,rfl,hI⟩⟩
  ·by_cases h6:ph c=6
   ·rw [FY hn hI hc h6];exact ⟨ph,⟨win,rfl,hI⟩⟩
   ·have h79:¬(7<=ph c/\ph c<=9):=λe=>gN (Option.some.inj ((hI.held c hc).1 e)).symm;rw [xC hn hI hc (by omega) (λe=>absurd e h6)];have e:jy c (ph c) (some h)=some h:=by unfold jy;rw [if_neg h6,if_neg (by omega)]
    have:=hI.step hc (by omega) (λe=>absurd e h6);rw [e] at this ⊢;exact Ei hn hc gN k _ _ ⟨_,rfl,this⟩
theorem XR {n:Nat} (hn:n<=5):∀(l:List Nat) (s:Sv),(∀c∈l,c<n)->(∃ph hold,Is n s ph hold/\∀h,hold=some h->h∈l)->∃ph,Is n (gH s l) ph none
 |[],s,_,⟨ph,hold,h,hm⟩=>by
  cases hold with
  |none=>exact ⟨ph,h⟩
  |some x=>exact absurd (hm x rfl) (by simp)
 |c::l,s,hl,⟨ph,hold,h,hm⟩=>by
  have hc:=hl c (List.mem_cons_self ..);refine XR hn l (ny 51 s (c:Int)) (λx hx=>hl x (List.mem_cons_of_mem _ hx)) ?_;by_cases e:hold=none\/hold=some c
  ·obtain ⟨OI,r,_⟩:=wy hn hc 51 s ph hold (by omega) e h;exact ⟨OI,none,r,λ_ e=>by cases e⟩
  ·cases hold with
   |none=>exact absurd (.inl rfl) e
   |some x=>have hx:c≠x:=λa=>e (.inr (by rw [a]));obtain ⟨OI,r⟩:=Ei hn hc hx 51 s ph h;refine ⟨OI,some x,r,λy hy=>?_⟩;obtain rfl:=Option.some.inj hy;exact (List.mem_cons.1 (hm x rfl)).resolve_left (λa=>hx a.symm)
theorem Oy {n:Nat} (hn:n<=5):∀(l:List Nat) (s:Sv),(∀c∈l,c<n)->∀(done:List Nat),(∃ph,Is n s ph none/\∀x∈done,ph x=10)->∃ph,Is n (gH s l) ph none/\(∀x∈done,ph x=10)/\∀x∈l,ph x=10
 |[],s,_,done,⟨ph,h,hm⟩=>⟨ph,h,hm,λx hx=>by cases hx⟩
 |c::l,s,hl,done,⟨ph,h,hm⟩=>by
  have hc:=hl c (List.mem_cons_self ..);obtain ⟨OI,r1,r2,r3⟩:=wy hn hc 51 s ph none (by omega) (.inl rfl) h;obtain ⟨ph2,q1,q2,q3⟩:=Oy hn l (ny 51 s (c:Int)) (λx hx=>hl x (List.mem_cons_of_mem _ hx)) (c::done) ⟨OI,r1,λx hx=>by
   by_cases e:x=c
   ·rw [e];exact r2
   ·rw [r3 x e];exact hm x ((List.mem_cons.1 hx).resolve_left e)⟩
  exact ⟨ph2,q1,λx hx=>q2 x (List.mem_cons_of_mem _ hx),λx hx=>by
   rcases List.mem_cons.1 hx with e|e
   ·exact q2 x (by rw [e];exact List.mem_cons_self ..)
   ·exact q3 x e⟩
theorem TS:([2,3,4,5].all λn=>decide (rounds n=List.range n++(List.range n++(rounds n).drop (2*n)))&&(rounds n).all (λc=>decide (c<n)))=true:=by decide+kernel
theorem lG (s:Sv) (a b:List Nat):gH s (a++b)=gH (gH s a) b:=by unfold gH;rw [List.foldl_append]
theorem races {n:Nat} (h2:2<=n) (h5:n<=5) (l:List Nat) (hl:∀c∈l,c<n):
 ∃w,w<n/\(∀c,c<n->(gH (xe (start n) l) (rounds n)).bR (c:Int)=(rep c (some w==some c),true))/\
  (gH (xe (start n) l) (rounds n)).st.refs=[(rM,Hm w),(jT w,Hm w)]:=by
 have h0:Is n (start n) (λ_=>0) none:=by refine ⟨none,?_,I.mk (λc hc=>by simp) (λh e=>by cases e) (λ_ _=>Nat.zero_le _) (λw e=>by cases e) (λ_ _ _=>Nat.zero_le _)⟩;exact Rw n (by omega)
 obtain ⟨ph1,aKq,i1⟩:=turns h5 l _ hl ⟨_,_,h0⟩;have hr:rounds n=List.range n++(List.range n++(rounds n).drop (2*n))/\∀c∈rounds n,c<n:=by have:=List.all_eq_true.1 TS n (by simp;omega);simp only [Bool.and_eq_true,decide_eq_true_eq,List.all_eq_true] at this;exact this
 have MO:∀c∈(rounds n).drop (2*n),c<n:=λc hc=>hr.2 c (List.mem_of_mem_drop hc);rw [hr.1,lG,lG];have hm:∀c∈List.range n,c<n:=λc hc=>List.mem_range.1 hc;obtain ⟨ph2,i2⟩:=XR h5 (List.range n) _ hm ⟨ph1,aKq,i1,λh e=>by
  obtain ⟨win,_,hI⟩:=i1;exact List.mem_range.2 (hI.Pq h e)⟩
 obtain ⟨ph3,i3,_,d3⟩:=Oy h5 (List.range n) _ hm [] ⟨ph2,i2,λx hx=>by cases hx⟩;obtain ⟨ph4,i4,d4,_⟩:=Oy h5 _ _ MO (List.range n) ⟨ph3,i3,d3⟩;obtain ⟨win,hs,hI⟩:=i4;rw [hs];have Ay:∀c,c<n->ph4 c=10:=λc hc=>d4 c (List.mem_range.2 hc);cases win with
 |none=>exact absurd (hI.yet rfl 0 (by omega)) (by rw [Ay 0 (by omega)];omega)
 |some w=>have hw:=(hI.won w rfl).1;refine ⟨w,hw,λc hc=>?_,rfl⟩;unfold Sv.bR;rw [if_neg (by omega),Int.toNat_natCast,yB hc,Ay c hc];rfl
end Rc
namespace Sp
open Tx
theorem vQ (a:B):si a a=false:=by unfold si;simp [List.lt_irrefl]
theorem zq {a b c:B} (h:si a b=true) (k:si b c=true):si a c=true:=by unfold si at *;simp only [decide_eq_true_eq] at *;exact List.lt_trans h k
theorem vP {a b:B} (h:si a b=true):a≠b:=λe=>by rw [e,vQ] at h;cases h
theorem Gv {a b:B} (h:si a b=false) (hn:a≠b):si b a=true:=by unfold si at *;simp only [decide_eq_true_eq,decide_eq_false_iff_not] at *;have:b<=a:=List.not_lt.1 h;exact Classical.byContradiction λhh=>hn (List.le_antisymm (List.not_lt.1 hh) this)
namespace M
variable {α:Type}
def Up (m:M α):Prop:=m.Pairwise λp q=>si p.1 q.1=true
theorem get_nil (k:B):M.get ([]:M α) k=none:=rfl
theorem bG (p:B×α) (m:M α) (k:B):M.get (p::m) k=if p.1=k then some p.2 else M.get m k:=by
 unfold M.get;rw [List.find?_cons];by_cases h:p.1=k
 ·simp [h]
 ·have:(p.1==k)=false:=by simpa using h
  simp [this,h]
theorem get_some {m:M α} {k:B} {v:α} (h:M.get m k=some v):(k,v)∈m:=by
 induction m with
 |nil=>cases h
 |cons p m ih=>
  rw [bG] at h;split at h
  ·rename_i e;obtain rfl:=Option.some.inj h;rw [<-e];exact List.mem_cons_self ..
  ·exact List.mem_cons_of_mem _ (ih h)
theorem get_of_mem {m:M α} (hu:Up m) {k:B} {v:α} (h:(k,v)∈m):M.get m k=some v:=by
 induction m with
 |nil=>cases h
 |cons p m ih=>
  have UR:=List.pairwise_cons.1 hu;rw [bG];rcases List.mem_cons.1 h with e|e
  ·rw [<-e];simp
  ·have:=vP (UR.1 _ e);rw [if_neg this];exact ih UR.2 e
theorem Jt (m:M α) (k x:B):M.get (M.del m k) x=if x=k then none else M.get m x:=by
 unfold M.del
 induction m with
 |nil=>simp [M.get]
 |cons p m ih=>
  by_cases h:p.1=k
  ·rw [List.filter_cons_of_neg (by simp [h]),ih,bG];by_cases e:x=k
   ·simp [e]
   ·rw [if_neg e,if_neg e,if_neg (λa=>e (a.symm.trans h))]
  ·rw [List.filter_cons_of_pos (by simp [h]),bG,bG,ih];by_cases e:x=k
   ·subst e;simp [h]
   ·simp [e]
theorem aAh {m:M α} (h:Up m) (k:B):Up (M.del m k):=h.sublist (List.filter_sublist ..)
theorem Bz {m:M α} {k:B} {p:B×α}:p∈M.del m k↔p∈m/\p.1≠k:=by unfold M.del;rw [List.mem_filter];simp
theorem I8 {k:B} {v:α} {p:B×α}:∀{m:M α},p∈M.ins k v m↔p=(k,v)\/p∈m
 |[]=>by simp [M.ins]
 |q::m=>by
  unfold M.ins;split
  ·simp
  ·simp only [List.mem_cons,I8 (m:=m)];exact ⟨λh=>by rcases h with h|h|h<;>simp [h],λh=>by rcases h with h|h|h<;>simp [h]⟩
theorem YS {k:B} {v:α}:∀{m:M α},Up m->(∀p∈m,p.1≠k)->Up (M.ins k v m)
 |[],_,_=>by simp [M.ins,Up]
 |q::m,h,hk=>by
  have h':=List.pairwise_cons.1 h;unfold M.ins;split
  ·rename_i aI;refine List.pairwise_cons.2 ⟨λp hp=>?_,h⟩;rcases List.mem_cons.1 hp with rfl|hp
   ·exact aI
   ·exact zq aI (h'.1 p hp)
  ·rename_i aI;have aI:si k q.1=false:=by cases hh:si k q.1 with
    |false=>rfl
    |true=>exact absurd hh aI
   refine List.pairwise_cons.2 ⟨λp hp=>?_,YS h'.2 (λp hp=>hk p (List.mem_cons_of_mem _ hp))⟩;rcases I8.1 hp with rfl|hp
   ·exact Gv aI (λe=>hk q (List.mem_cons_self ..) e.symm)
   ·exact h'.1 p hp
theorem IV {m:M α} (h:Up m) (k:B) (v:α):Up (M.put m k v):=by unfold M.put;exact YS (aAh h k) (λp hp=>(Bz.1 hp).2)
theorem uo {m:M α} {k:B} {v:α} {p:B×α}:p∈M.put m k v↔p=(k,v)\/(p∈m/\p.1≠k):=by unfold M.put;rw [I8,Bz]
theorem yu (k:B) (v:α):∀{m:M α},(∀p∈m,p.1≠k)->M.get (M.ins k v m) k=some v
 |[],_=>by simp [M.ins,M.get]
 |q::m,h=>by
  unfold M.ins;split
  ·rw [bG];simp
  ·rw [bG,if_neg (h q (List.mem_cons_self ..))];exact yu k v (λp hp=>h p (List.mem_cons_of_mem _ hp))
theorem vk (k x:B) (v:α) (hx:x≠k):∀(m:M α),M.get (M.ins k v m) x=M.get m x
 |[]=>by unfold M.ins;rw [bG,if_neg (λe=>hx e.symm)]
 |q::m=>by
  unfold M.ins;split
  ·rw [bG,if_neg (λe=>hx e.symm)]
  ·rw [bG,bG,vk k x v hx m]
theorem get_put (m:M α) (k x:B) (v:α):M.get (M.put m k v) x=if x=k then some v else M.get m x:=by
 unfold M.put;by_cases e:x=k
 ·subst e;rw [if_pos rfl];exact yu _ _ (λp hp=>(Bz.1 hp).2)
 ·rw [if_neg e,vk k x v e,Jt,if_neg e]
theorem uV (m:M α) (k:B):(M.del m k).length<=m.length:=List.length_filter_le ..
theorem vT (k:B) (v:α):∀m:M α,(M.ins k v m).length=m.length+1
 |[]=>rfl
 |q::m=>by
  unfold M.ins;split
  ·rfl
  ·simp [vT k v m]
theorem gU (m:M α) (k:B) (v:α):(M.put m k v).length<=m.length+1:=by unfold M.put;rw [vT];have:=uV m k;omega
theorem DJ {m:M α} {k:B} {v:α} (h:M.get m k=some v):(M.del m k).length<m.length:=by unfold M.del;exact List.length_filter_lt_length_iff_exists.2 ⟨(k,v),get_some h,by simp⟩
theorem DF {m:M α} {k:B} {u:α} (v:α) (h:M.get m k=some u):(M.put m k v).length<=m.length:=by unfold M.put;rw [vT];have:=DJ h;omega
theorem MX (l:M α):∀(m:M α) (x:B),Up l->M.get (l.foldl (λm p=>M.put m p.1 p.2) m) x=match M.get l x with|some v=>some v|none=>M.get m x:=by
 induction l with
 |nil=>intro m x _;rfl
 |cons p l ih=>
  intro m x hu;have UR:=List.pairwise_cons.1 hu;rw [List.foldl_cons,ih _ x UR.2,bG,get_put];by_cases e:p.1=x
  ·subst e;have:M.get l p.1=none:=by
    cases h:M.get l p.1 with
    |none=>rfl
    |some v=>exact absurd rfl (vP (UR.1 (p.1,v) (get_some h)))
   rw [this];simp
  ·rw [if_neg e,if_neg (λa=>e a.symm)]
theorem H9 (l:M α):∀(m:M α),Up m->Up (l.foldl (λm p=>M.put m p.1 p.2) m):=by
 induction l with
 |nil=>intro m h;exact h
 |cons p l ih=>intro m h;rw [List.foldl_cons];exact ih _ (IV h _ _)
theorem LD (l:M α):∀(m:M α),Up l->(l.foldl (λm p=>M.put m p.1 p.2) m).length<=m.length+(l.filter λp=>(M.get m p.1).isNone).length:=by
 induction l with
 |nil=>intro m _;simp
 |cons p l ih=>
  intro m hu;have UR:=List.pairwise_cons.1 hu;rw [List.foldl_cons];refine Nat.le_trans (ih _ UR.2) ?_;have e:(l.filter λq=>(M.get (M.put m p.1 p.2) q.1).isNone)=l.filter λq=>(M.get m q.1).isNone:=by refine List.filter_congr λq hq=>?_;rw [get_put,if_neg (λe=>vP (UR.1 q hq) e.symm)]
  rw [e];cases h:M.get m p.1 with
  |none=>rw [List.filter_cons_of_pos (by simp [h])];have:=gU m p.1 p.2;simp only [List.length_cons];omega
  |some v=>rw [List.filter_cons_of_neg (by simp [h])];have:=DF p.2 h;omega
end M
end Sp
namespace Sp
open Tx Rc
theorem zt:∀(x a r:B),(∀c∈x,c≠10)->dW a (x++10::r)=(a++x)::dW [] r
 |[],a,r,_=>by
  show dW a (10::r)=_;rw [dW,if_pos rfl,List.append_nil]
 |c::x,a,r,h=>by
  have hc:¬c=10:=h c (List.mem_cons_self ..);show (if c=10 then a::dW [] (x++10::r) else dW (a++[c]) (x++10::r))=_;rw [if_neg hc,zt x _ r (λy hy=>h y (List.mem_cons_of_mem _ hy))];simp
def jJ (one:B) (all:Bool) (w0:B):B:=if one≠[] then one else if w0=jK&&!all then rD else w0
def iT (one:B) (all:Bool) (x:nN×B):B:=if jJ one all x.2=jK then jK++[32]++x.1.ref else [110,103,32]++x.1.ref++[32]++jJ one all x.2
theorem IL (one:B) (all:Bool) (x:nN×B) (r:List (nN×B)):dP one all (x::r)=iT one all x++10::dP one all r:=by obtain ⟨c,w0⟩:=x;show (if jJ one all w0=jK then jK++[32]++c.ref++nl else [110,103,32]++c.ref++[32]++jJ one all w0++nl)++dP one all r=(if jJ one all w0=jK then jK++[32]++c.ref else [110,103,32]++c.ref++[32]++jJ one all w0)++10::dP one all r;split<;>simp [nl]
def flat (l:B):Prop:=∀c∈l,c≠10
theorem sO {a b:B} (h:flat a) (k:flat b):flat (a++b):=λc hc=>by
 rcases List.mem_append.1 hc with hc|hc
 ·exact h c hc
 ·exact k c hc
theorem j4 {l:B} (h:l.all (λc=>!(c==10))=true):flat l:=λc hc e=>by
 have:=List.all_eq_true.1 h c hc;subst e;simp at this
theorem XY {r:B} (h:lJ r=true):flat r:=by
 unfold lJ at h;simp only [Bool.and_eq_true,List.isPrefixOf_iff_prefix,decide_eq_true_eq] at h;obtain ⟨⟨t,rfl⟩,_,h⟩:=h;refine sO (j4 (by decide)) λc hc=>?_;have e:(pG++t).drop 5=t:=by rw [List.drop_append_of_le_length (by decide)];rfl
 rw [e] at h;have:=List.all_eq_true.1 h c hc;rintro rfl;revert this;decide
theorem QS {r:B} (h:lJ r=true):r.length<=17:=by unfold lJ at h;simp only [Bool.and_eq_true,List.isPrefixOf_iff_prefix,decide_eq_true_eq,List.length_drop] at h;have:=h.2.1.2;omega
theorem Al (one:B) (all:Bool) (ho:flat one):∀l:List (nN×B),(∀x∈l,flat x.1.ref/\flat x.2)->dW [] (dP one all l)=l.map (iT one all)
 |[],_=>rfl
 |x::l,h=>by
  rw [IL,zt,Al one all ho l (λy hy=>h y (List.mem_cons_of_mem _ hy))]
  ·rfl
  ·obtain ⟨h1,h2⟩:=h x (List.mem_cons_self ..);have hw:flat (jJ one all x.2):=by
    unfold jJ;split
    ·exact ho
    ·split
     ·exact j4 (by decide)
     ·exact h2
   show flat (iT one all x);unfold iT;split
   ·exact sO (j4 (by decide)) h1
   ·exact sO (sO (sO (j4 (by decide)) h1) (j4 (by decide))) hw
theorem QY (one:B) (all:Bool):∀l:List (nN×B),(∀x∈l,x.1.ref≠[]/\jJ one all x.2=jK)->rq (l.map (iT one all))=some l.length
 |[],_=>rfl
 |x::l,h=>by
  obtain ⟨h1,h2⟩:=h x (List.mem_cons_self ..);show rq (iT one all x::l.map (iT one all))=_;have e:iT one all x=jK++[32]++x.1.ref:=by unfold iT;rw [if_pos h2]
  have hl:0<x.1.ref.length:=List.length_pos_iff.2 h1;unfold rq;rw [e,if_pos,QY one all l (λy hy=>h y (List.mem_cons_of_mem _ hy))]
  ·rfl
  ·simp only [Bool.and_eq_true,decide_eq_true_eq];refine ⟨?_,rfl⟩;simp [jK];omega
theorem Dn (one:B) (all:Bool):∀l:List (nN×B),(∀x∈l,jJ one all x.2≠jK)->rq (l.map (iT one all))=some 0
 |[],_=>rfl
 |x::l,h=>by
  have h2:=h x (List.mem_cons_self ..);show rq (iT one all x::l.map (iT one all))=_;have e:iT one all x=[110,103,32]++x.1.ref++[32]++jJ one all x.2:=by unfold iT;rw [if_neg h2]
  unfold rq;rw [e,if_neg,if_neg,Dn one all l (λy hy=>h y (List.mem_cons_of_mem _ hy))]
  ·simp only [Bool.or_eq_true,decide_eq_true_eq,Bool.not_eq_true',not_or];exact ⟨by simp,by simp [pNg]⟩
  ·simp [pOk]
theorem FD {one:B} {all:Bool} {l:List (nN×B)} (hl:l≠[]) (ho:flat one/\one≠jK) (h:∀x∈l,flat x.1.ref/\x.1.ref≠[]/\flat x.2) (ha:all=true->∀x∈l,x.2=jK):
 (kZ (dB++jK++nl++dP one all l)).2=true:=by
 have e:lines (dB++jK++nl++dP one all l)=kD::l.map (iT one all):=by
  show dW [] (dB++jK++[10]++dP one all l)=_;have:dB++jK++[10]++dP one all l=kD++10::dP one all l:=by simp [kD]
  rw [this,zt _ _ _ (j4 (by decide)),Al one all ho.1 l (λx hx=>⟨(h x hx).1,(h x hx).2.2⟩)];rfl
 have hk:rq (l.map (iT one all))=some 0\/rq (l.map (iT one all))=some l.length:=by
  by_cases h1:one=[]
  ·subst h1;cases all with
   |true=>exact .inr (QY _ _ _ λx hx=>⟨(h x hx).2.1,by unfold jJ;simp;exact ha rfl x hx⟩)
   |false=>
    refine .inl (Dn _ _ _ λx _=>?_);unfold jJ;simp only [ne_eq,not_true_eq_false,if_false,Bool.not_false,Bool.and_true,decide_eq_true_eq];split
    ·decide
    ·assumption
  ·exact .inl (Dn _ _ _ λx _=>by unfold jJ;rw [if_pos h1];exact ho.2)
 unfold kZ;simp only [e];obtain ⟨y,l',rfl⟩:∃y l',l=y::l':=by cases l with
  |nil=>exact absurd rfl hl
  |cons y l'=>exact ⟨y,l',rfl⟩
 simp only [List.map_cons] at hk ⊢;rcases hk with hk|hk
 ·simp [hk]
 ·simp [hk]
theorem aMP {α:Type} {c d:Prop} [Decidable c] [Decidable d] (x y z:α):(if c then x else if d then y else z)=x\/(if c then x else if d then y else z)=y\/(if c then x else if d then y else z)=z:=by
 by_cases h:c
 ·rw [if_pos h];exact .inl rfl
 ·rw [if_neg h];by_cases k:d
  ·rw [if_pos k];exact .inr (.inl rfl)
  ·rw [if_neg k];exact .inr (.inr rfl)
theorem zV (s:St) (p:M B) (id:B):whole s p id=rA\/whole s p id=[]\/whole s p id=FL:=by unfold whole;exact aMP _ _ _
theorem Sl (s:St) (p:M B) (c:nN):flat (word s p c):=by
 unfold word
 repeat' split
 all_goals first|exact j4 (by decide)|(rcases zV s p c.new with h|h|h<;>rw [h]<;>exact j4 (by decide))
theorem V8 {A E:Prop} [Decidable A] [Decidable E] {w r:B} (hw:w=rA\/w=[]\/w=FL) (h:(if A then BS else if E then jK else if w≠[] then w else r)=jK) (hz:¬E):w=[]:=by
 by_cases hA:A
 ·rw [if_pos hA] at h;exact absurd h (by decide)
 ·rw [if_neg hA,if_neg hz] at h;rcases hw with k|k|k
  ·subst k;rw [if_pos (by decide)] at h;exact absurd h (by decide)
  ·exact k
  ·subst k;rw [if_pos (by decide)] at h;exact absurd h (by decide)
theorem Qx {s:St} {p:M B} {c:nN} (h:word s p c=jK) (hz:c.new≠di):whole s p c.new=[]:=by unfold word at h;exact V8 (zV s p c.new) h hz
theorem Le (s:St) (p:M B) (cl all:Bool):oneOf s p cl all=NU\/oneOf s p cl all=Qy\/oneOf s p cl all=[]:=by
 unfold oneOf;split
 ·exact .inl rfl
 ·split
  ·exact .inr (.inl rfl)
  ·exact .inr (.inr rfl)
theorem Sn {c d:Prop} [Decidable c] [Decidable d] (h:(if c then rA else if d then [] else FL)=[]):¬c/\d:=by
 by_cases hc:c
 ·rw [if_pos hc] at h;exact absurd h (by decide)
 ·rw [if_neg hc] at h;by_cases hd:d
  ·exact ⟨hc,hd⟩
  ·rw [if_neg hd] at h;exact absurd h (by decide)
theorem FK {s:St} {p:M B} {id:B} (h:whole s p id=[]):(∃t,find s p id=some t/\ek t=true)/\∀k,Rch (names s p) id k->∃t,find s p k=some t/\fits s p t=true:=by
 have hh:=h;unfold whole at h;have h3:=Sn h;clear h;by_cases hx:False
 ·exact hx.elim
 ·have h1:=h3.1;by_cases hx:True
  ·have h2:=h3.2;simp only [Bool.and_eq_true,List.all_eq_true] at h2;refine ⟨?_,λk hk=>?_⟩
   ·cases hf:find s p id with
    |none=>rw [hf] at h2;simp at h2
    |some t=>rw [hf] at h2;exact ⟨t,rfl,h2.2⟩
   ·have hm:=(T9 s p id k).2 hk;cases hf:find s p k with
    |none=>exact absurd (List.any_eq_true.2 ⟨k,hm,by simp [hf]⟩) h1
    |some t=>have:=h2.1 k hm;rw [hf] at this;exact ⟨t,rfl,this⟩
  ·exact absurd trivial hx
structure Qj (s:St):Prop where
 upO:M.Up s.ah
 upR:M.Up s.refs
 own:∀p∈s.ah,(parse p.2).isSome=true/\dA p.2=p.1
 room:s.ah.length<=s.room
 com:∀p∈s.refs,∃t,s.ah.get p.2=some t/\ek t=true
 refs:∀p∈s.refs,∀k,Rch (names s []) p.2 k->∃t,s.ah.get k=some t/\fits s [] t=true
theorem Ec (s:St) (k:B):find s [] k=s.ah.get k:=rfl
structure VD (p:M B):Prop where
 up:M.Up p
 own:∀x∈p,(parse x.2).isSome=true/\dA x.2=x.1
theorem Ha:∀(l:List B) (a:M B×Bool),VD a.1->(∀t∈l,(parse t).isSome=true)->VD (l.foldl (λ(a:M B×Bool) t=>
 match a.1.get (dA t) with
 |some u=>if u≠t then (a.1,true) else (a.1.put (dA t) t,a.2)
 |none=>(a.1.put (dA t) t,a.2)) a).1
 |[],a,h,_=>h
 |t::l,a,h,hl=>by
  rw [List.foldl_cons];refine Ha l _ ?_ (λu hu=>hl u (List.mem_cons_of_mem _ hu));have hp:VD (a.1.put (dA t) t):=⟨M.IV h.up _ _,λx hx=>by
   rcases M.uo.1 hx with rfl|⟨hx,_⟩
   ·exact ⟨hl t (List.mem_cons_self ..),rfl⟩
   ·exact h.own x hx⟩
  split
  ·split
   ·exact h
   ·exact hp
  ·exact hp
theorem sJ {l:List B} (h:∀t∈l,(parse t).isSome=true):VD (aD l).1:=Ha l ([],false) ⟨List.Pairwise.nil,λx hx=>by cases hx⟩ h
theorem vH (cs:List nN):∀(m:M B) (p:B×B),p∈cs.foldl (λm c=>if c.new=di then m.del c.ref else m.put c.ref c.new) m->p∈m\/∃c∈cs,c.new≠di/\p=(c.ref,c.new):=by
 induction cs with
 |nil=>intro m p h;exact .inl h
 |cons c cs ih=>
  intro m p h;rw [List.foldl_cons] at h;rcases ih _ p h with h|⟨d,hd,h1,h2⟩
  ·split at h
   ·exact .inl (M.Bz.1 h).1
   ·rename_i hz;rcases M.uo.1 h with h|h
    ·exact .inr ⟨c,List.mem_cons_self ..,hz,h⟩
    ·exact .inl h.1
  ·exact .inr ⟨d,List.mem_cons_of_mem _ hd,h1,h2⟩
theorem aBW (cs:List nN):∀(m:M B),M.Up m->M.Up (cs.foldl (λm c=>if c.new=di then m.del c.ref else m.put c.ref c.new) m):=by
 induction cs with
 |nil=>intro m h;exact h
 |cons c cs ih=>
  intro m h;rw [List.foldl_cons];refine ih _ ?_;split
  ·exact M.aAh h _
  ·exact M.IV h _ _
theorem M4 (k:UInt8):∀(i:Nat) (l m:List (Option B)),l=m->vo k i l=vo k i m:=λ_ _ _ e=>by rw [e]
theorem aBl {s:St} {p:M B} {cs:List nN} {cl:Bool} (hs:Qj s) (hp:VD p) (hw:∀c∈cs,word s p c=jK) (ho:oneOf s p cl true=[]):Qj (take s p cs):=by
 have hc:kP s p cl=false:=by
  cases h:kP s p cl with
  |false=>rfl
  |true=>unfold oneOf at ho;rw [h,if_pos rfl] at ho;exact absurd ho (by decide)
 have aKg:s.ah.length+fresh s p<=s.room:=by
  unfold oneOf at ho;rw [hc] at ho;simp only [Bool.false_eq_true,if_false,Bool.true_and,decide_eq_true_eq] at ho;split at ho
  ·exact absurd ho (by decide)
  ·omega
 have iP:∀k,(take s p cs).ah.get k=find s p k:=λk=>by
  show M.get (p.foldl (λm x=>m.put x.1 x.2) s.ah) k=_;rw [M.MX p _ _ hp.up];unfold find;cases M.get p k<;>rfl
 have hf:find (take s p cs) []=find s p:=funext iP;have hn:names (take s p cs) []=names s p:=by unfold names;rw [hf]
 have PG:fits (take s p cs) []=fits s p:=by unfold fits;rw [hf]
 have gz:∀k t,s.ah.get k=some t->find s p k=some t:=λk t hk=>by
  unfold find;cases h:M.get p k with
  |none=>exact hk
  |some u=>
   by_cases e:u=t
   ·rw [e]
   ·have:kP s p cl=true:=by
     unfold kP;rw [Bool.or_eq_true];refine .inl (List.any_eq_true.2 ⟨(k,u),M.get_some h,?_⟩);simp only [hk];simpa using λe'=>e e'.symm
    rw [hc] at this;cases this
 have hold:∀q∈s.refs,∀k,Rch (names s p) q.2 k->Rch (names s []) q.2 k/\∃t,s.ah.get k=some t/\fits s [] t=true:=by
  intro q hq k hk
  induction hk with
  |start=>exact ⟨.start,hs.refs q hq _ .start⟩
  |next h1 h2 ih=>
   rename_i a b;obtain ⟨r,t,ht,hfi⟩:=ih;have hb:b∈names s [] a:=by unfold names at h2 ⊢;rw [gz a t ht] at h2;rw [Ec,ht];exact h2
   exact ⟨.next r hb,hs.refs q hq _ (.next r hb)⟩
 refine ⟨M.H9 p _ hs.upO,aBW cs _ hs.upR,λx hx=>?_,?_,λq hq=>?_,λq hq k hk=>?_⟩
 ·have fI:M.get (take s p cs).ah x.1=some x.2:=M.get_of_mem (M.H9 p _ hs.upO) hx;rw [iP] at fI;unfold find at fI;split at fI
  ·rename_i t ht;obtain rfl:=Option.some.inj fI;exact hp.own (x.1,_) (M.get_some ht)
  ·exact hs.own (x.1,x.2) (M.get_some fI)
 ·exact Nat.le_trans (M.LD p _ hp.up) aKg
 ·rw [iP];rcases vH cs _ q hq with h|⟨c,hcm,hz,rfl⟩
  ·obtain ⟨t,ht,hct⟩:=hs.com q h;exact ⟨t,gz _ _ ht,hct⟩
  ·exact (FK (Qx (hw c hcm) hz)).1
 ·rw [iP,PG];rw [hn] at hk;rcases vH cs _ q hq with h|⟨c,hcm,hz,rfl⟩
  ·obtain ⟨r,t,ht,hfi⟩:=hold q h k hk;refine ⟨t,gz _ _ ht,?_⟩;rw [<-hfi];unfold fits;refine M4 _ _ _ _ (List.map_congr_left λy hy=>?_);have hyn:y∈names s [] k:=by unfold names;rw [Ec,ht];exact hy
   obtain ⟨u,hu,_⟩:=hs.refs q h y (.next r hyn);rw [gz y u hu,Ec,hu]
  ·exact (FK (Qx (hw c hcm) hz)).2 k hk
theorem Vm {s:St} {p:M B} {cs:List nN} {cl:Bool} (hs:Qj s) (hp:VD p):Qj (aW s cs p cl).2:=by
 unfold aW;simp only;split
 ·rename_i h;simp only [Bool.and_eq_true,beq_iff_eq] at h;have ha:∀c∈cs,word s p c=jK:=λc hc=>by
   have:=List.all_eq_true.1 h.1 (word s p c) (List.mem_map.2 ⟨c,hc,rfl⟩);simpa using this
  refine aBl (cl:=cl) hs hp ha ?_;have h2:=h.2;rw [h.1] at h2;exact h2
 ·exact hs
theorem Na {s:St} {p:M B} {cs:List nN} {cl:Bool}:∀q∈(aW s cs p cl).2.refs,q∈s.refs\/q.1∈cs.map (·.ref):=by
 intro q hq;unfold aW at hq;simp only at hq;split at hq
 ·rcases vH cs _ q hq with h|⟨c,hc,_,rfl⟩
  ·exact .inl h
  ·exact .inr (List.mem_map.2 ⟨c,hc,rfl⟩)
 ·exact .inl hq
theorem AJ {s:St} {p:M B} {cs:List nN} {cl:Bool}:(aW s cs p cl).2.room=s.room/\(aW s cs p cl).2.forward=s.forward:=by
 unfold aW;simp only;split
 ·exact ⟨rfl,rfl⟩
 ·exact ⟨rfl,rfl⟩
theorem JB {s:St} {p:M B} {cs:List nN} {cl:Bool} (hc:cs≠[]) (hr:∀c∈cs,lJ c.ref=true):(kZ (aW s cs p cl).1).2=true:=by
 unfold aW;simp only;have hz:∀x∈cs.zip (cs.map (word s p)),x.1∈cs/\x.2=word s p x.1:=by
  intro x hx;rw [List.zip_map_right,List.mem_map] at hx;obtain ⟨y,hy,rfl⟩:=hx;have h1:=(List.of_mem_zip hy).1;have e:y.1=y.2:=by
   have:∀(l:List nN) (y:nN×nN),y∈l.zip l->y.1=y.2:=by
    intro l
    induction l with
    |nil=>intro y hy;cases hy
    |cons a l ih=>
     intro y hy;rw [List.zip_cons_cons] at hy;rcases List.mem_cons.1 hy with rfl|hy
     ·rfl
     ·exact ih y hy
   exact this cs y hy
  exact ⟨h1,by show word s p y.2=_;rw [<-e];rfl⟩
 refine FD ?_ ?_ (λx hx=>?_) (λha x hx=>?_)
 ·cases cs with
  |nil=>exact absurd rfl hc
  |cons c cs=>simp
 ·rcases Le s p cl ((cs.map (word s p)).all (·==jK)) with h|h|h<;>rw [h]<;>exact ⟨j4 (by decide),by decide⟩
 ·obtain ⟨h1,h2⟩:=hz x hx;refine ⟨XY (hr _ h1),λe=>?_,by rw [h2];exact Sl s p x.1⟩;have:=hr _ h1;rw [e] at this;exact absurd this (by decide)
 ·obtain ⟨h1,h2⟩:=hz x hx;have:=List.all_eq_true.1 ha (word s p x.1) (List.mem_map.2 ⟨_,h1,rfl⟩);rw [h2];simpa using this
end Sp
namespace Sp
open Tx Rc
structure yI (q:Bool) (x:Cn):Prop where
 nL:x.nL.length<=600
 rest:x.rest.length<=x.nL.length
 Dw:x.au.length<=4
 I5:x.ah.length<=12
 cmd:∀m∈x.au,oH m.old=true/\oH m.new=true/\lJ m.ref=true
 WQ:(x.au.map (·.ref)).Nodup
 obj:∀t∈x.ah,(parse t).isSome=true
 sec:x.second=true->x.au≠[]
 done:x.done=true->x.second=true
 read:x.work=some .read->x.aY=[]/\x.over=false
 lock:x.work=some .lock->(x.aY.Pairwise λa b=>si a b=true)/\(∀w∈x.aY,w∈x.au.map (·.ref))/\x.over=false/\x.au≠[]
 fin:x.work=some .fin->x.over=false/\(kZ x.bR).2=true
 over:x.work=none->x.over=true/\(x.bK=true->(kZ x.bR).2=true)/\(q=true->x.bK=true)
 rep:x.bK=true->x.work=none
def JR (k:B) (x:Cn):Prop:=k∈x.au.map (·.ref)/\((x.work=some .lock/\∀w∈x.aY,si k w=true)\/x.work=some .fin)
structure oW (q:Bool) (s:Sv):Prop where
 Bl:s.ae.length<=8
 cn:∀(i:Nat) (x:Cn),s.ae[i]? =some x->yI q x
 up:M.Up s.aP
 held:∀p∈s.aP,∃(i:Nat) (x:Cn),p.2=i+1/\s.ae[i]? =some x/\JR p.1 x
 st:Qj s.st
 rf:∀p∈s.st.refs,∃(i:Nat) (x:Cn),s.ae[i]? =some x/\p.1∈x.au.map (·.ref)
theorem oW.new (q forward:Bool) (room:Int):oW q (Fb forward room):=by refine ⟨Nat.zero_le _,λi x h=>?_,List.Pairwise.nil,λp hp=>(by cases hp),⟨List.Pairwise.nil,List.Pairwise.nil,λp hp=>(by cases hp),Nat.zero_le _,λp hp=>(by cases hp),λp hp=>(by cases hp)⟩,λp hp=>(by cases hp)⟩;simp [Fb] at h
theorem oW.open_ {q:Bool} {s:Sv} (h:oW q s):oW q s.open_.1:=by
 unfold Sv.open_;split
 ·exact h
 ·rename_i hc;simp only [Bool.or_eq_true,decide_eq_true_eq,not_or] at hc;have iP:∀(i:Nat) (x:Cn),s.ae[i]? =some x->(s.ae++[({}:Cn)])[i]? =some x:=λi x hx=>by
   rw [List.getElem?_append_left (List.getElem?_eq_some_iff.1 hx).1];exact hx
  refine ⟨?_,λi x hx=>?_,h.up,λp hp=>?_,h.st,λp hp=>?_⟩
  ·have:=h.Bl;simp only [List.length_append,List.length_singleton];omega
  ·by_cases hi:i<s.ae.length
   ·exact h.cn i x (by simpa [List.getElem?_append_left hi] using hx)
   ·simp only [List.getElem?_append_right (Nat.le_of_not_lt hi)] at hx;have:x={}:=by
     have:=List.mem_of_getElem? hx;simpa using this
    subst this;exact ⟨by simp,by simp,by simp,by simp,by simp,by simp,by simp,by simp,by simp,by simp,by simp,by simp,by simp,by simp⟩
  ·obtain ⟨i,x,h1,h2,h3⟩:=h.held p hp;exact ⟨i,x,h1,iP i x h2,h3⟩
  ·obtain ⟨i,x,h2,h3⟩:=h.rf p hp;exact ⟨i,x,iP i x h2,h3⟩
theorem oW.iQ {q q':Bool} {s:Sv} {i:Nat} {x d:Cn} (h:oW q s) (hx:s.ae[i]? =some x) (hd:yI q' d) (hq:q'=true->q=true) {l':M Nat} {st':St} (UQ:M.Up l') (hl:∀p∈l',(p.2=i+1/\JR p.1 d)\/(p∈s.aP/\p.2≠i+1)) (dN:Qj st')
 (hc:∀r∈x.au.map (·.ref),r∈d.au.map (·.ref)) (hr:∀p∈st'.refs,p∈s.st.refs\/p.1∈d.au.map (·.ref)) (o:Bool):oW q' {st:=st',aP:=l',ae:=s.ae.set i d,over:=o}:=by
 have aI:=(List.getElem?_eq_some_iff.1 hx).1;have jY:(s.ae.set i d)[i]? =some d:=List.getElem?_set_self aI;have DZ:∀j,j≠i->(s.ae.set i d)[j]? =s.ae[j]? :=λj hj=>List.getElem?_set_ne (λe=>hj e.symm);refine ⟨by simp only [List.length_set];exact h.Bl,λj y hy=>?_,UQ,λp hp=>?_,dN,λp hp=>?_⟩
 ·by_cases e:j=i
  ·subst e;simp only at hy;rw [jY] at hy;obtain rfl:=Option.some.inj hy;exact hd
  ·simp only at hy;rw [DZ j e] at hy;have:=h.cn j y hy;exact {this with over:=λhw=>⟨(this.over hw).1,(this.over hw).2.1,λhh=>(this.over hw).2.2 (hq hh)⟩}
 ·rcases hl p hp with ⟨h1,h2⟩|⟨h1,h2⟩
  ·exact ⟨i,d,h1,jY,h2⟩
  ·obtain ⟨j,y,e1,e2,e3⟩:=h.held p h1;exact ⟨j,y,e1,by simp only;rw [DZ j (λe=>h2 (by rw [e1,e]))];exact e2,e3⟩
 ·rcases hr p hp with h1|h1
  ·obtain ⟨j,y,e2,e3⟩:=h.rf p h1;by_cases e:j=i
   ·subst e;rw [hx] at e2;obtain rfl:=Option.some.inj e2;exact ⟨j,d,jY,hc _ e3⟩
   ·exact ⟨j,y,by simp only;rw [DZ j e];exact e2,e3⟩
  ·exact ⟨i,d,jY,h1⟩
theorem oW.same {q q':Bool} {s:Sv} {i:Nat} {x d:Cn} (h:oW q s) (hx:s.ae[i]? =some x) (hd:yI q' d) (hq:q'=true->q=true) (hc:∀r∈x.au.map (·.ref),r∈d.au.map (·.ref)) (hh:∀k,JR k x->JR k d):oW q' {s with ae:=s.ae.set i d}:=
 h.iQ hx hd hq h.up (λp hp=>by
  obtain ⟨j,y,e1,e2,e3⟩:=h.held p hp;by_cases e:j=i
  ·subst e;rw [hx] at e2;obtain rfl:=Option.some.inj e2;exact .inl ⟨e1,hh _ e3⟩
  ·exact .inr ⟨hp,by omega⟩) h.st hc (λp hp=>.inl hp) _
theorem jc {s:Sv} {c:Int} {i:Nat} {x:Cn} (h:s.conn c=some (i,x)):c=i/\s.ae[i]? =some x/\x.over=false:=by
 unfold Sv.conn at h;split at h
 ·cases h
 ·split at h
  ·rename_i y hy;split at h
   ·cases h
   ·obtain ⟨rfl,rfl⟩:=Prod.mk.inj (Option.some.inj h);rename_i h0 ho;exact ⟨by omega,hy,by simpa using ho⟩
  ·cases h
theorem oW.feed {q:Bool} {s:Sv} (h:oW q s) (c:Int) (t:B):oW q (s.feed c t).1:=by
 unfold Sv.feed;cases hc:s.conn c with
 |none=>exact h
 |some y=>
  obtain ⟨i,x⟩:=y;obtain ⟨_,hx,ho⟩:=jc hc;simp only;split
  ·exact h
  ·rename_i hn;simp only [Bool.or_eq_true,decide_eq_true_eq,not_or] at hn;have k:=h.cn i x hx;refine h.same hx {k with nL:=?_,rest:=?_} id (λr hr=>hr) (λr hr=>hr)
   ·simp only [List.length_append];omega
   ·have:=k.rest;simp only [List.length_append];omega
structure Rd (q:Bool) (x:Cn) (y:Er×Cn):Prop where
 ok:yI q y.2
 au:∀r∈x.au.map (·.ref),r∈y.2.au.map (·.ref)
 word:∀w,y.1=.refused w->w=nQ\/w=fU\/w=p9\/w=uO\/w=xc\/w=wZ
 more:y.1=.more->y.2=x/\x.ended=false
 aQg:y.1=.ok->y.2.rest.length+4<=x.rest.length
 ended:y.2.ended=x.ended
 same:y.2.work=x.work/\y.2.aY=x.aY/\y.2.over=x.over
theorem vU (x:Cn):(x.ended=true/\x.A9=.refused nQ)\/(x.ended=false/\x.A9=.more):=by
 unfold Cn.A9;cases x.ended
 ·exact .inr ⟨rfl,rfl⟩
 ·exact .inl ⟨rfl,rfl⟩
theorem vM (x:Cn):(x.next.1=x.A9)\/x.next.1=.refused nQ\/(x.next.1=.ok/\x.next.2.2.2.length+4<=x.rest.length):=by
 unfold Cn.next;split
 ·exact .inl rfl
 ·rename_i h4;simp only;split
  ·exact .inr (.inl rfl)
  ·rename_i hb;split
   ·refine .inr (.inr ⟨rfl,?_⟩);simp only [List.length_drop];omega
   ·rename_i hn;split
    ·exact .inl rfl
    ·refine .inr (.inr ⟨rfl,?_⟩);simp only [Bool.or_eq_true,Bool.and_eq_true,bne_iff_ne,ne_eq,decide_eq_true_eq,not_or,not_and] at hb;simp only [List.length_drop];have:=hb.1.2 hn;omega
theorem P8 {q:Bool} {x:Cn} (k:yI q x) (hr:x.work=some .read) (hs:x.second=false) (p:B) (f:Bool):
 yI q (x.command p f).2/\(∀r∈x.au.map (·.ref),r∈(x.command p f).2.au.map (·.ref))/\(∀w,(x.command p f).1=.refused w->w=fU\/w=p9\/w=uO)/\(x.command p f).1≠.more/\(x.command p f).2.rest=x.rest/\(x.command p f).2.ended=x.ended/\(x.command p f).2.work=x.work/\(x.command p f).2.aY=x.aY/\(x.command p f).2.over=x.over:=by
 have hd:x.done=true->False:=λe=>by have:=k.done e;rw [hs] at this;cases this
 have keep:∀{e:Er},(∀w,e=.refused w->w=fU\/w=p9\/w=uO)->e≠.more->yI q (e,x).2/\(∀r∈x.au.map (·.ref),r∈(e,x).2.au.map (·.ref))/\(∀w,(e,x).1=.refused w->w=fU\/w=p9\/w=uO)/\(e,x).1≠.more/\(e,x).2.rest=x.rest/\(e,x).2.ended=x.ended/\(e,x).2.work=x.work/\(e,x).2.aY=x.aY/\(e,x).2.over=x.over:=
  λh1 h2=>⟨k,λ_ hr=>hr,h1,h2,rfl,rfl,rfl,rfl,rfl⟩
 unfold Cn.command;split
 ·rename_i h;simp only [Bool.and_eq_true,decide_eq_true_eq] at h;refine ⟨{k with sec:=λ_=>List.length_pos_iff.1 h.2,done:=λe=>(hd e).elim},λ_ hr=>hr,λw e=>(by cases e),by simp,rfl,rfl,rfl,rfl,rfl⟩
 ·split
  ·exact keep (λw e=>by cases e;exact .inr (.inr rfl)) (by simp)
  ·rename_i h4;split
   ·rename_i a b r _;split
    ·rename_i hi;simp only [Bool.and_eq_true] at hi;split
     ·exact keep (λw e=>by cases e;exact .inr (.inl rfl)) (by simp)
     ·rename_i ht;have VN:x.work=some .lock->False:=λe=>by rw [hr] at e;cases e
      have hnf:x.work=some .fin->False:=λe=>by rw [hr] at e;cases e
      refine ⟨{k with Dw:=?_,cmd:=?_,WQ:=?_,sec:=λ_=>by simp,lock:=λe=>(VN e).elim},λz hz=>?_,λw e=>(by cases e),by simp,rfl,rfl,rfl,rfl,rfl⟩
      ·have:=k.Dw;simp only [List.length_append,List.length_singleton];omega
      ·intro m hm;rcases List.mem_append.1 hm with hm|hm
       ·exact k.cmd m hm
       ·obtain rfl:=List.mem_singleton.1 hm;exact ⟨hi.1.1,hi.1.2,hi.2⟩
      ·rw [List.map_append,List.nodup_append];refine ⟨k.WQ,by simp,λu hu v hv e=>?_⟩;simp only [List.map_cons,List.map_nil,List.mem_singleton] at hv;subst hv;subst e;obtain ⟨m,hm,Rl⟩:=List.mem_map.1 hu;exact ht (List.any_eq_true.2 ⟨m,hm,by simpa using Rl⟩)
      ·simp only [List.map_append];exact List.mem_append_left _ hz
    ·exact keep (λw e=>by cases e;exact .inl rfl) (by simp)
   ·exact keep (λw e=>by cases e;exact .inl rfl) (by simp)
theorem Ut {q:Bool} {x:Cn} (k:yI q x) (hr:x.work=some .read) (hs:x.second=true) (p:B) (f:Bool):
 yI q (x.object p f).2/\(x.object p f).2.au=x.au/\(∀w,(x.object p f).1=.refused w->w=xc\/w=uO\/w=wZ)/\(x.object p f).1≠.more/\(x.object p f).2.rest=x.rest/\(x.object p f).2.ended=x.ended/\(x.object p f).2.work=x.work/\(x.object p f).2.aY=x.aY/\(x.object p f).2.over=x.over:=by
 unfold Cn.object;split
 ·refine ⟨{k with done:=λ_=>hs},rfl,λw e=>?_,?_,rfl,rfl,rfl,rfl,rfl⟩
  ·simp only at e;split at e<;>cases e;exact .inl rfl
  ·simp only;split<;>simp
 ·split
  ·exact ⟨k,rfl,λw e=>(by cases e;exact .inr (.inl rfl)),by simp,rfl,rfl,rfl,rfl,rfl⟩
  ·rename_i PO;split
   ·rename_i hp;refine ⟨{k with I5:=?_,obj:=?_},rfl,λw e=>(by cases e),by simp,rfl,rfl,rfl,rfl,rfl⟩
    ·have:=k.I5;simp only [List.length_append,List.length_singleton];omega
    ·intro t ht;rcases List.mem_append.1 ht with ht|ht
     ·exact k.obj t ht
     ·obtain rfl:=List.mem_singleton.1 ht;exact hp
   ·exact ⟨k,rfl,λw e=>(by cases e;exact .inr (.inr rfl)),by simp,rfl,rfl,rfl,rfl,rfl⟩
theorem KW (x:Cn):x.aV=if x.next.1=.ok then (if x.second then Cn.object {x with rest:=x.next.2.2.2} x.next.2.1 x.next.2.2.1 else Cn.command {x with rest:=x.next.2.2.2} x.next.2.1 x.next.2.2.1) else (x.next.1,x):=by
 unfold Cn.aV;rcases h:x.next with ⟨e,p,f,r⟩
 cases e<;>simp
theorem KU {q:Bool} {x:Cn} (k:yI q x) (hr:x.work=some .read):Rd q x x.aV:=by
 rw [KW];by_cases hk:x.next.1=.ok
 ·rw [if_pos hk];have he:x.next.2.2.2.length+4<=x.rest.length:=by
   rcases vM x with h|h|h
   ·rw [hk] at h;rcases vU x with g|g<;>rw [g.2] at h<;>cases h
   ·rw [hk] at h;cases h
   ·exact h.2
  have k':yI q {x with rest:=x.next.2.2.2}:={k with rest:=by have:=k.rest;show x.next.2.2.2.length<=x.nL.length;omega}
  split
  ·rename_i hs;have o:=Ut k' hr hs x.next.2.1 x.next.2.2.1;refine ⟨o.1,λr hr=>by rw [o.2.1];exact hr,λw e=>?_,λe=>absurd e o.2.2.2.1,λ_=>by rw [o.2.2.2.2.1];exact he,o.2.2.2.2.2.1,o.2.2.2.2.2.2⟩;rcases o.2.2.1 w e with h|h|h
   ·exact .inr (.inr (.inr (.inr (.inl h))))
   ·exact .inr (.inr (.inr (.inl h)))
   ·exact .inr (.inr (.inr (.inr (.inr h))))
  ·rename_i hs;have hs:x.second=false:=by simpa using hs
   have o:=P8 k' hr hs x.next.2.1 x.next.2.2.1;refine ⟨o.1,o.2.1,λw e=>?_,λe=>absurd e o.2.2.2.1,λ_=>by rw [o.2.2.2.2.1];exact he,o.2.2.2.2.2.1,o.2.2.2.2.2.2⟩;rcases o.2.2.1 w e with h|h|h
   ·exact .inr (.inl h)
   ·exact .inr (.inr (.inl h))
   ·exact .inr (.inr (.inr (.inl h)))
 ·rw [if_neg hk];refine ⟨k,λ_ hr=>hr,λw e=>?_,λe=>⟨rfl,?_⟩,λe=>absurd e hk,rfl,rfl,rfl,rfl⟩
  ·rcases vM x with h|h|h
   ·simp only at e;rw [h] at e;rcases vU x with g|g<;>rw [g.2] at e<;>cases e;exact .inl rfl
   ·simp only at e;rw [h] at e;cases e;exact .inl rfl
   ·exact absurd h.1 hk
  ·simp only at e;rcases vM x with h|h|h
   ·rw [h] at e;rcases vU x with g|g
    ·rw [g.2] at e;cases e
    ·exact g.1
   ·rw [h] at e;cases e
   ·exact absurd h.1 hk
theorem EW {w:B} (h:w=nQ\/w=fU\/w=p9\/w=uO\/w=xc\/w=wZ):(kZ (dB++w++nl)).2=true:=by rcases h with rfl|rfl|rfl|rfl|rfl|rfl<;>decide
end Sp
namespace Sp
open Tx Rc
def mu (x:Cn):Nat:=match x.work with
 |some .read=>x.rest.length+7
 |some .lock=>x.aY.length+2
 |some .fin=>1
 |none=>0
theorem aFM {a b:B} (h:uH a b=true) (hn:a≠b):si a b=true:=by unfold uH si at *;simp only [decide_eq_true_eq] at *;exact Classical.byContradiction λhh=>hn (List.le_antisymm h (List.not_lt.1 hh))
theorem aBF {l:List B} (h:l.Nodup):(l.mergeSort uH).Pairwise λa b=>si a b=true:=by
 have h1:(l.mergeSort uH).Pairwise λa b=>uH a b=true:=List.pairwise_mergeSort (λa b c h1 h2=>by
  unfold uH at *;simp only [decide_eq_true_eq] at *;exact List.le_trans h1 h2) (λa b=>by
  unfold uH;simp only [Bool.or_eq_true,decide_eq_true_eq];exact List.le_total a b) l
 have h2:(l.mergeSort uH).Nodup:=(List.mergeSort_perm l uH).nodup_iff.2 h;exact (h1.and (List.nodup_iff_pairwise_ne.1 h2)).imp λh=>aFM h.1 h.2
theorem Js {l:M Nat} (h:M.Up l) (c:Nat):M.Up (give l c):=h.sublist (List.filter_sublist ..)
theorem Lp {l:M Nat} {c:Nat} {p:B×Nat}:p∈give l c↔p∈l/\p.2≠c+1:=by unfold give;rw [List.mem_filter];simp
structure Wkd (q:Bool) (s:Sv) (i:Nat) (x d:Cn) (st':St) (l':M Nat):Prop where
 work:s.work i x=(Sv.set {s with st:=st',aP:=l'} i d,1)
 ok:yI q (if d.work.isNone then {d with over:=true} else d)
 up:M.Up l'
 aP:∀p∈l',(p.2=i+1/\JR p.1 (if d.work.isNone then {d with over:=true} else d))\/(p∈s.aP/\p.2≠i+1)
 st:Qj st'
 au:∀r∈x.au.map (·.ref),r∈(if d.work.isNone then {d with over:=true} else d).au.map (·.ref)
 refs:∀p∈st'.refs,p∈s.st.refs\/p.1∈(if d.work.isNone then {d with over:=true} else d).au.map (·.ref)
 less:mu (if d.work.isNone then {d with over:=true} else d)<mu x
 ended:(if d.work.isNone then {d with over:=true} else d).ended=x.ended
 room:st'.room=s.st.room/\st'.forward=s.st.forward
def Idl (s:Sv) (x:Cn):Prop:=(x.work=some .read/\x.ended=false)\/(x.work=some .lock/\∃w ws,x.aY=w::ws/\(s.aP.get w).getD 0≠0)
theorem NS {q:Bool} {s:Sv} (h:oW q s) {i:Nat} {x:Cn} (hx:s.ae[i]? =some x) (ho:x.over=false):
 (s.work i x=(Sv.set s i x,0)/\Idl s x)\/∃d st' l',Wkd q s i x d st' l':=by
 have k:=h.cn i x hx;have Zk:∀p∈s.aP,p.2=i+1->JR p.1 x:=λp hp e=>by
  obtain ⟨j,y,e1,e2,e3⟩:=h.held p hp;obtain rfl:j=i:=by omega
  rw [hx] at e2;obtain rfl:=Option.some.inj e2;exact e3
 have GX:∀d:Cn,(∀p∈s.aP,p.2=i+1->JR p.1 d)->∀p∈s.aP,(p.2=i+1/\JR p.1 d)\/(p∈s.aP/\p.2≠i+1):=λd hd p hp=>by
  by_cases e:p.2=i+1
  ·exact .inl ⟨e,hd p hp e⟩
  ·exact .inr ⟨hp,e⟩
 have aEb:∀d:Cn,∀p∈give s.aP i,(p.2=i+1/\JR p.1 d)\/(p∈s.aP/\p.2≠i+1):=λd p hp=>.inr (Lp.1 hp);cases hw:x.work with
 |none=>have:=(k.over hw).1;rw [ho] at this;cases this
 |some wk=>
  cases wk with
  |read=>
   have rd:=KU k hw;have iw:∀p∈s.aP,p.2=i+1->False:=λp hp e=>by
    rcases (Zk p hp e).2 with ⟨h1,_⟩|h1<;>rw [hw] at h1<;>cases h1
   rcases hr:x.aV with ⟨e,d⟩
   rw [hr] at rd;have qW:d.work=some .read:=rd.same.1.trans hw;cases e with
   |more=>obtain ⟨h1,h2⟩:=rd.more rfl;simp only at h1;subst h1;refine .inl ⟨?_,.inl ⟨hw,h2⟩⟩;unfold Sv.work;simp only [hw,hr]
   |refused w=>
    refine .inr ⟨{d with bR:=dB++w++nl,bK:=true,work:=none},s.st,give s.aP i,?_,?_,Js h.up i,aEb _,h.st,rd.au,λp hp=>.inl hp,?_,rd.ended,rfl,rfl⟩
    ·unfold Sv.work;simp only [hw,hr]
    ·have kd:=rd.ok;exact {kd with read:=λe=>(by cases e),lock:=λe=>(by cases e),fin:=λe=>(by cases e),over:=λ_=>⟨rfl,λ_=>EW (rd.word w rfl),λ_=>rfl⟩,rep:=λ_=>rfl}
    ·show 0<mu x;unfold mu;rw [hw];simp only;omega
   |ok=>
    have he:=rd.aQg rfl;by_cases hd:d.done=true
    ·refine .inr ⟨{d with aY:=(d.aY++d.au.map (·.ref)).mergeSort uH,work:=some .lock},s.st,s.aP,?_,?_,h.up,GX _ (λp hp e=>(iw p hp e).elim),h.st,rd.au,λp hp=>.inl hp,?_,rd.ended,rfl,rfl⟩
     ·unfold Sv.work;simp only [hw,hr];rw [if_pos hd]
      try rfl
     ·have kd:=rd.ok;have BD:d.aY=[]:=(kd.read qW).1;show yI q {d with aY:=(d.aY++d.au.map (·.ref)).mergeSort uH,work:=some .lock};refine {kd with read:=λe=>(by cases e),fin:=λe=>(by cases e),over:=λe=>(by cases e),rep:=λe=>absurd (kd.rep e) (by rw [qW];simp),lock:=λ_=>?_};rw [BD,List.nil_append];exact ⟨aBF kd.WQ,λw hw=>(List.mergeSort_perm _ uH).mem_iff.1 hw,(kd.read qW).2,kd.sec (kd.done hd)⟩
     ·have kd:=rd.ok;have BD:d.aY=[]:=(kd.read qW).1;show (d.aY++d.au.map (·.ref)).mergeSort uH |>.length |> (·+2) |> (· <mu x);rw [BD,List.nil_append,List.length_mergeSort,List.length_map];have:=kd.Dw;unfold mu;rw [hw];simp only at he this ⊢;omega
    ·refine .inr ⟨d,s.st,s.aP,?_,?_,h.up,GX _ (λp hp e=>(iw p hp e).elim),h.st,?_,λp hp=>.inl hp,?_,?_,rfl,rfl⟩
     ·unfold Sv.work;simp only [hw,hr];rw [if_neg hd]
      try rfl
     all_goals rw [if_neg (by rw [qW];decide)]
     ·exact rd.ok
     ·exact rd.au
     ·unfold mu;rw [hw,qW];simp only at he ⊢;omega
     ·exact rd.ended
  |lock=>
   have kl:=k.lock hw;cases BD:x.aY with
   |nil=>
    refine .inr ⟨{x with bR:=(aW s.st x.au (aD x.ah).1 (aD x.ah).2).1,work:=some .fin},(aW s.st x.au (aD x.ah).1 (aD x.ah).2).2,s.aP,?_,?_,h.up,GX _ (λp hp e=>⟨(Zk p hp e).1,.inr rfl⟩),Vm h.st (sJ k.obj),λr hr=>hr,λp hp=>Na p hp,?_,rfl,AJ⟩
    ·unfold Sv.work;simp only [hw,BD]
     try rfl
    ·show yI q {x with bR:=(aW s.st x.au (aD x.ah).1 (aD x.ah).2).1,work:=some .fin};exact {k with read:=λe=>(by cases e),lock:=λe=>(by cases e),over:=λe=>(by cases e),rep:=λe=>absurd (k.rep e) (by rw [hw];simp),fin:=λ_=>⟨ho,JB kl.2.2.2 (λc hc=>(k.cmd c hc).2.2)⟩}
    ·show 1<mu x;unfold mu;rw [hw];simp only;omega
   |cons w ws=>
    rw [BD] at kl;by_cases hg:(s.aP.get w).getD 0=0
    ·refine .inr ⟨{x with aY:=ws},s.st,s.aP.put w (i+1),?_,?_,M.IV h.up _ _,λp hp=>?_,h.st,?_,λp hp=>.inl hp,?_,?_,rfl,rfl⟩
     ·unfold Sv.work;simp only [hw,BD];rw [if_pos hg]
      try rfl
     all_goals
      rw [if_neg (by show ¬x.work.isNone=true;rw [hw];decide)]
     ·have kp:=List.pairwise_cons.1 kl.1;exact {k with read:=λe=>(by rw [hw] at e;cases e),fin:=λe=>(by rw [hw] at e;cases e),over:=λe=>(by rw [hw] at e;cases e),lock:=λ_=>⟨kp.2,λv hv=>kl.2.1 v (List.mem_cons_of_mem _ hv),kl.2.2⟩}
     ·have kp:=List.pairwise_cons.1 kl.1;rcases M.uo.1 hp with rfl|⟨hp,bA⟩
      ·exact .inl ⟨rfl,kl.2.1 w (List.mem_cons_self ..),.inl ⟨hw,kp.1⟩⟩
      ·refine GX _ (λp hp e=>?_) p hp;obtain ⟨h1,h2⟩:=Zk p hp e;refine ⟨h1,?_⟩;rcases h2 with ⟨_,h2⟩|h2
       ·exact .inl ⟨hw,λv hv=>h2 v (by rw [BD];exact List.mem_cons_of_mem _ hv)⟩
       ·rw [hw] at h2;cases h2
     ·exact λr hr=>hr
     ·unfold mu;simp only [hw,BD,List.length_cons];omega
    ·refine .inl ⟨?_,.inr ⟨hw,w,ws,BD,hg⟩⟩;unfold Sv.work;simp only [hw,BD];rw [if_neg hg];unfold Sv.set;have:s.ae.set i x=s.ae:=by
      obtain ⟨aI,hxe⟩:=List.getElem?_eq_some_iff.1 hx;subst hxe;exact List.set_getElem_self aI
     rw [this]
  |fin=>
   have kf:=k.fin hw;refine .inr ⟨{x with bK:=true,work:=none},s.st,give s.aP i,?_,?_,Js h.up i,aEb _,h.st,λr hr=>hr,λp hp=>.inl hp,?_,rfl,rfl,rfl⟩
   ·unfold Sv.work;simp only [hw]
   ·exact {k with read:=λe=>(by cases e),lock:=λe=>(by cases e),fin:=λe=>(by cases e),over:=λ_=>⟨rfl,λ_=>kf.2,λ_=>rfl⟩,rep:=λ_=>rfl}
   ·show 0<mu x;unfold mu;rw [hw];simp
inductive Stp (q:Bool) (s:Sv) (c:Int):Prop
 |none (h:s.conn c=none) (e:s.step c=(s,-1))
 |idle {i:Nat} {x:Cn} (hc:c=i) (hx:s.ae[i]? =some x) (ho:x.over=false) (hi:Idl s x) (e:s.step c=(s,0))
 |go {i:Nat} {x d:Cn} {st':St} {l':M Nat} (hc:c=i) (hx:s.ae[i]? =some x) (ho:x.over=false) (e:s.step c=({s with st:=st',aP:=l',ae:=s.ae.set i d},1)) (hI:oW q (s.step c).1) (hm:mu d<mu x) (he:d.ended=x.ended) (hr:st'.room=s.st.room/\st'.forward=s.st.forward)
theorem JE {s:Sv} {c:Int} {i:Nat} {x:Cn} (hc:c=i) (hx:s.ae[i]? =some x) (ho:x.over=false):s.conn c=some (i,x):=by subst hc;unfold Sv.conn;rw [if_neg (by omega),Int.toNat_natCast,hx];simp [ho]
theorem stp {q:Bool} {s:Sv} (h:oW q s) (c:Int):Stp q s c:=by
 cases hc:s.conn c with
 |none=>exact .none hc (by unfold Sv.step;rw [hc])
 |some y=>
  obtain ⟨i,x⟩:=y;obtain ⟨rfl,hx,ho⟩:=jc hc;rcases NS h hx ho with ⟨hw,hi⟩|⟨d,st',l',W⟩
  ·refine .idle rfl hx ho hi ?_;have:=IA (d:=x) (st':=s.st) (l':=s.aP) (k:=0) hx ho hw;rw [this];have hs:s.ae.set i x=s.ae:=by
    obtain ⟨aI,hxe⟩:=List.getElem?_eq_some_iff.1 hx;subst hxe;exact List.set_getElem_self aI
   have BD:x.work.isNone=false:=by rcases hi with ⟨hw,_⟩|⟨hw,_⟩<;>rw [hw]<;>rfl
   rw [BD];simp only [Bool.false_eq_true,if_false];rw [hs]
  ·have e:=IA hx ho W.work;refine .go rfl hx ho e ?_ W.less W.ended W.room;rw [e];exact h.iQ hx W.ok id W.up W.aP W.st W.au W.refs _
theorem oW.step {q:Bool} {s:Sv} (h:oW q s) (c:Int):oW q (s.step c).1:=by
 rcases stp h c with ⟨_,e⟩|⟨_,_,_,_,e⟩|⟨_,_,_,_,hI,_⟩
 ·rw [e];exact h
 ·rw [e];exact h
 ·exact hI
theorem oW.aEP {s:Sv} (h:oW true s):oW false s:=by refine {h with cn:=λi x hx=>?_};have k:=h.cn i x hx;exact {k with over:=λe=>⟨(k.over e).1,(k.over e).2.1,λe=>(by cases e)⟩}
theorem drop_eq {s:Sv} {i:Nat} {x:Cn} (hx:s.ae[i]? =some x) (ho:x.over=false):s.drop (i:Int)=({s with aP:=give s.aP i,ae:=s.ae.set i {x with work:=none,over:=true}},true):=by have aI:i<s.ae.length:=(List.getElem?_eq_some_iff.1 hx).1;unfold Sv.drop;rw [JE rfl hx ho];simp only;unfold Sv.lI Sv.mark Sv.set;simp only [List.getElem?_set_self aI,Option.isNone_none,if_true,List.set_set]
theorem oW.drop {s:Sv} (h:oW false s) (c:Int):oW false (s.drop c).1:=by
 cases hc:s.conn c with
 |none=>unfold Sv.drop;rw [hc];exact h
 |some y=>obtain ⟨i,x⟩:=y;obtain ⟨rfl,hx,ho⟩:=jc hc;have k:=h.cn i x hx;rw [drop_eq hx ho];refine h.iQ (q':=false) hx (d:={x with work:=none,over:=true}) {k with read:=λe=>(by cases e),lock:=λe=>(by cases e),fin:=λe=>(by cases e),rep:=λ_=>rfl,over:=λ_=>⟨rfl,λhr=>?_,λe=>(by cases e)⟩} id (Js h.up i) (λp hp=>.inr (Lp.1 hp)) h.st (λr hr=>hr) (λp hp=>.inl hp) _;have:=(k.over (k.rep hr)).1;rw [ho] at this;cases this
end Sp
namespace Sp
open Tx Rc
theorem Iy:∀(l m:List B),l.Nodup->(∀w∈l,w∈m)->l.length<=m.length
 |[],m,_,_=>Nat.zero_le _
 |a::l,m,hn,hm=>by
  have Jm:=List.nodup_cons.1 hn;have ha:=hm a (List.mem_cons_self ..);have:=Iy l (m.erase a) Jm.2 (λw hw=>(List.mem_erase_of_ne (λ(e:w=a)=>Jm.1 (e▸hw))).2 (hm w (List.mem_cons_of_mem _ hw)));rw [List.length_erase_of_mem ha] at this;have:0<m.length:=List.length_pos_of_mem ha;simp only [List.length_cons];omega
theorem P6 {t:B} (h:ek t=true):∃x r,bE t=x::r/\kindOf t=99:=by
 have hk:kindOf t=99:=by unfold ek at h;simpa using h
 have hp:∃o,parse t=some o/\o.kind=99:=by
  unfold kindOf at hk;cases hh:parse t with
  |none=>rw [hh] at hk;simp at hk
  |some o=>rw [hh] at hk;exact ⟨o,rfl,hk⟩
 obtain ⟨o,ho,hko⟩:=hp;have hi:bE t=o.ids:=by unfold bE;rw [ho]
 rw [hi];unfold parse at ho;simp only at ho;split at ho
 ·split at ho
  ·split at ho
   ·obtain rfl:=Option.some.inj ho;cases hko
   ·cases ho
  ·split at ho
   ·rw [Option.map_eq_some_iff] at ho;obtain ⟨_,_,rfl⟩:=ho;cases hko
   ·split at ho
    ·rw [Option.map_eq_some_iff] at ho;obtain ⟨l,hl,rfl⟩:=ho;unfold ji at hl;simp only at hl;split at hl
     ·split at hl
      ·obtain rfl:=Option.some.inj hl;exact ⟨_,_,rfl,hk⟩
      ·split at hl
       ·obtain rfl:=Option.some.inj hl;exact ⟨_,_,rfl,hk⟩
       ·cases hl
     ·cases hl
    ·cases ho
 ·cases ho
theorem oW.K5 {q:Bool} {s:Sv} (h:oW q s):s.st.refs.length<=32:=by
 have hn:(s.st.refs.map (·.1)).Nodup:=List.nodup_iff_pairwise_ne.2 (List.pairwise_map.2 (h.st.upR.imp λe=>vP e));have:=Iy _ ((s.ae.map λx=>x.au.map (·.ref)).flatten) hn (λk hk=>by
  obtain ⟨p,hp,rfl⟩:=List.mem_map.1 hk;obtain ⟨i,x,hx,hr⟩:=h.rf p hp;exact List.mem_flatten.2 ⟨_,List.mem_map.2 ⟨x,List.mem_of_getElem? hx,rfl⟩,hr⟩)
 rw [List.length_map] at this;have hl:∀l:List Cn,(∀x∈l,x.au.length<=4)->((l.map λx=>x.au.map (·.ref)).flatten).length<=4*l.length:=by
  intro l
  induction l with
  |nil=>intro _;simp
  |cons y l ih=>intro hh;have:=ih (λx hx=>hh x (List.mem_cons_of_mem _ hx));have h1:=hh y (List.mem_cons_self ..);simp only [List.map_cons,List.flatten_cons,List.length_append,List.length_map,List.length_cons] at this ⊢;omega
 have:=hl s.ae (λx hx=>by
  obtain ⟨i,hi⟩:=List.getElem?_of_mem hx;exact (h.cn i x hi).Dw)
 have:=h.Bl;omega
theorem oW.Gy {q:Bool} {s:Sv} (h:oW q s):s.aP.length<=32:=by
 have hn:(s.aP.map (·.1)).Nodup:=List.nodup_iff_pairwise_ne.2 (List.pairwise_map.2 (h.up.imp λe=>vP e));have:=Iy _ ((s.ae.map λx=>x.au.map (·.ref)).flatten) hn (λk hk=>by
  obtain ⟨p,hp,rfl⟩:=List.mem_map.1 hk;obtain ⟨i,x,_,hx,hr⟩:=h.held p hp;exact List.mem_flatten.2 ⟨_,List.mem_map.2 ⟨x,List.mem_of_getElem? hx,rfl⟩,hr.1⟩)
 rw [List.length_map] at this;have hl:∀l:List Cn,(∀x∈l,x.au.length<=4)->((l.map λx=>x.au.map (·.ref)).flatten).length<=4*l.length:=by
  intro l
  induction l with
  |nil=>intro _;simp
  |cons y l ih=>intro hh;have:=ih (λx hx=>hh x (List.mem_cons_of_mem _ hx));have h1:=hh y (List.mem_cons_self ..);simp only [List.map_cons,List.flatten_cons,List.length_append,List.length_map,List.length_cons] at this ⊢;omega
 have:=hl s.ae (λx hx=>by
  obtain ⟨i,hi⟩:=List.getElem?_of_mem hx;exact (h.cn i x hi).Dw)
 have:=h.Bl;omega
end Sp
section
open Go
namespace Sp
open Tx
structure yE (s:Sv):Prop where
 room:s.st.room<=40
 cn:∀(i:Nat) (x:Cn),s.ae[i]? =some x->∀t∈x.ah,t.length<=204
 st:∀p∈s.st.ah,p.2.length<=204
theorem Dt (x:Cn):x.next.2.1.length<=204:=by
 unfold Cn.next;split
 ·simp
 ·dsimp only;split
  ·simp
  ·rename_i hb;split
   ·simp
   ·split
    ·simp
    ·simp only [Bool.or_eq_true,decide_eq_true_eq,not_or,Nat.not_lt] at hb;simp only [List.length_drop,List.length_take];omega
theorem Lf (x:Cn) (p:B) (f:Bool):∀t∈(x.object p f).2.ah,t∈x.ah\/t=p:=by
 unfold Cn.object;intro t ht;split at ht
 ·exact .inl ht
 ·split at ht
  ·exact .inl ht
  ·split at ht
   ·rcases List.mem_append.1 ht with h|h
    ·exact .inl h
    ·exact .inr (List.mem_singleton.1 h)
   ·exact .inl ht
theorem JF (x:Cn) (p:B) (f:Bool):(x.command p f).2.ah=x.ah:=by
 unfold Cn.command;split
 ·rfl
 ·split
  ·rfl
  ·split
   ·split
    ·split<;>rfl
    ·rfl
   ·rfl
theorem Ox (x:Cn):∀t∈x.aV.2.ah,t∈x.ah\/t.length<=204:=by
 rw [KW];intro t ht;split at ht
 ·split at ht
  ·rcases Lf _ _ _ t ht with h|h
   ·exact .inl h
   ·exact .inr (h▸Dt x)
  ·rw [JF] at ht;exact .inl ht
 ·exact .inl ht
theorem PQ:∀(l:List B) (a:M B×Bool),(∀p∈(l.foldl (λ(a:M B×Bool) t=>
 match a.1.get (dA t) with
 |some u=>if u≠t then (a.1,true) else (a.1.put (dA t) t,a.2)
 |none=>(a.1.put (dA t) t,a.2)) a).1,p∈a.1\/p.2∈l)/\(l.foldl (λ(a:M B×Bool) t=>
 match a.1.get (dA t) with
 |some u=>if u≠t then (a.1,true) else (a.1.put (dA t) t,a.2)
 |none=>(a.1.put (dA t) t,a.2)) a).1.length<=a.1.length+l.length:=by
 intro l
 induction l with
 |nil=>exact λa=>⟨λp hp=>.inl hp,Nat.le_refl _⟩
 |cons t r ih=>
  intro a;have key:∀b:M B×Bool,(∀p∈b.1,p∈a.1\/p.2=t)->b.1.length<=a.1.length+1->(∀p∈(r.foldl (λ(a:M B×Bool) t=>
  match a.1.get (dA t) with
  |some u=>if u≠t then (a.1,true) else (a.1.put (dA t) t,a.2)
  |none=>(a.1.put (dA t) t,a.2)) b).1,p∈a.1\/p.2∈t::r)/\(r.foldl (λ(a:M B×Bool) t=>
  match a.1.get (dA t) with
  |some u=>if u≠t then (a.1,true) else (a.1.put (dA t) t,a.2)
  |none=>(a.1.put (dA t) t,a.2)) b).1.length<=a.1.length+(t::r).length:=by
   intro b hb hl;refine ⟨λp hp=>?_,Nat.le_trans (ih b).2 (by simp only [List.length_cons];omega)⟩;rcases (ih b).1 p hp with h|h
   ·rcases hb p h with h|h
    ·exact .inl h
    ·exact .inr (h▸List.mem_cons_self ..)
   ·exact .inr (List.mem_cons_of_mem _ h)
  rw [List.foldl_cons];refine key _ ?_ ?_
  ·intro p hp;split at hp
   ·split at hp
    ·exact .inl hp
    ·rcases M.uo.1 hp with h|h
     ·exact .inr (by rw [h])
     ·exact .inl h.1
   ·rcases M.uo.1 hp with h|h
    ·exact .inr (by rw [h])
    ·exact .inl h.1
  ·split
   ·split
    ·exact Nat.le_succ _
    ·exact M.gU _ _ _
   ·exact M.gU _ _ _
theorem sM {l:List B}:(∀p∈(aD l).1,p.2∈l)/\(aD l).1.length<=l.length:=by
 have h:=PQ l ([],false);refine ⟨λp hp=>?_,by have:=h.2;rw [List.length_nil,Nat.zero_add] at this;exact this⟩;rcases h.1 p hp with h|h
 ·cases h
 ·exact h
theorem Ye:∀(l m:M B) (q:B×B),q∈l.foldl (λm x=>M.put m x.1 x.2) m->q∈m\/q∈l:=by
 intro l
 induction l with
 |nil=>exact λm q h=>.inl h
 |cons p r ih=>
  intro m q h;rw [List.foldl_cons] at h;rcases ih _ q h with h|h
  ·rcases M.uo.1 h with h|h
   ·exact .inr (h▸List.mem_cons_self ..)
   ·exact .inl h.1
  ·exact .inr (List.mem_cons_of_mem _ h)
theorem Nb {s:St} {cs:List nN} {p:M B} {cl:Bool}:∀q∈(aW s cs p cl).2.ah,q∈s.ah\/q∈p:=by
 intro q hq;unfold aW at hq;dsimp only at hq;split at hq
 ·exact Ye p s.ah q hq
 ·exact .inl hq
theorem yE.set {s:Sv} {i:Nat} {x d:Cn} {st':St} {l':M Nat} (h:yE s) (hx:s.ae[i]? =some x) (hd:∀t∈d.ah,t∈x.ah\/t.length<=204) (hr:st'.room=s.st.room) (ho:∀p∈st'.ah,p∈s.st.ah\/p.2.length<=204) {o:Bool}:yE {st:=st',aP:=l',ae:=s.ae.set i d,over:=o} where
 room:=hr▸h.room
 cn j y hy t ht:=by
  rw [List.getElem?_set] at hy;split at hy
  ·split at hy
   ·obtain rfl:=Option.some.inj hy;rcases hd t ht with e|e
    ·exact h.cn i x hx t e
    ·exact e
   ·cases hy
  ·exact h.cn j y hy t ht
 st p hp:=(ho p hp).elim (h.st p) id
theorem yE.work {q:Bool} {s:Sv} {i:Nat} {x:Cn} (h:yE s) (hx:s.ae[i]? =some x):yE (s.work i x).1:=by
 unfold Sv.work;have ho:=Ox x;have keep:∀p∈s.st.ah,p∈s.st.ah\/p.2.length<=204:=λp hp=>.inl hp;split
 ·split
  ·rename_i w d e;rw [e] at ho;refine h.set hx ?_ ?_ ?_
   ·exact ho
   ·rfl
   ·exact keep
  ·rename_i d e;rw [e] at ho;refine h.set hx ?_ ?_ ?_
   ·exact ho
   ·rfl
   ·exact keep
  ·rename_i d e;rw [e] at ho;refine h.set hx ?_ ?_ ?_
   ·split
    ·exact ho
    ·exact ho
   ·rfl
   ·exact keep
 ·split
  ·refine h.set hx ?_ ?_ ?_
   ·exact λt ht=>.inl ht
   ·exact AJ.1
   intro p hp;rcases Nb p hp with e|e
   ·exact .inl e
   ·exact .inr (h.cn i x hx _ (sM.1 p e))
  ·split
   ·refine h.set hx ?_ ?_ ?_
    ·exact λt ht=>.inl ht
    ·rfl
    ·exact keep
   ·exact h
 ·refine h.set hx ?_ ?_ ?_
  ·exact λt ht=>.inl ht
  ·rfl
  ·exact keep
 ·exact h
theorem yE.mark {s:Sv} (h:yE s) (i:Nat):yE (s.mark i):=by
 unfold Sv.mark;split
 ·rename_i x hx;split
  ·refine h.set hx ?_ ?_ ?_
   ·exact λt ht=>.inl ht
   ·rfl
   ·exact λp hp=>.inl hp
  ·exact h
 ·exact h
theorem yE.drop {s:Sv} (h:yE s) (c:Int):yE (s.drop c).1:=by
 unfold Sv.drop;split
 ·exact h
 ·rename_i i x e;refine yE.mark ?_ i;refine h.set (jc e).2.1 ?_ ?_ ?_
  ·exact λt ht=>.inl ht
  ·rfl
  ·exact λp hp=>.inl hp
theorem yE.feed {s:Sv} (h:yE s) (c:Int) (t:B):yE (s.feed c t).1:=by
 unfold Sv.feed;split
 ·exact h
 ·rename_i i x e;split
  ·exact h
  ·refine h.set (jc e).2.1 ?_ ?_ ?_
   ·exact λt ht=>.inl ht
   ·rfl
   ·exact λp hp=>.inl hp
theorem yE.open_ {s:Sv} (h:yE s):yE s.open_.1:=by
 unfold Sv.open_;split
 ·exact h
 ·refine ⟨h.room,λi x hx t ht=>?_,h.st⟩;have hx:(s.ae++[({}:Cn)])[i]? =some x:=hx;rw [List.getElem?_append] at hx;split at hx
  ·exact h.cn i x hx t ht
  ·have:x={}:=by
    have:=List.mem_of_getElem? hx;exact List.mem_singleton.1 this
   subst this;cases ht
theorem yE.new (f:Bool) (room:Nat) (hr:room<=40):yE (Fb f room):=⟨by unfold Fb;exact hr,λi x hx=>by simp [Fb] at hx,λp hp=>by simp [Fb] at hp⟩
theorem Iw {k:Nat}:∀l:List Nat,(∀x∈l,x<=k)->l.sum<=k*l.length:=by
 intro l
 induction l with
 |nil=>exact λ_=>Nat.zero_le _
 |cons a r ih=>intro h;have h1:=h a (List.mem_cons_self ..);have h2:=ih λx hx=>h x (List.mem_cons_of_mem _ hx);simp only [List.sum_cons,List.length_cons,Nat.mul_add,Nat.mul_one];omega
end Sp
end
namespace Rc
open Tx Sp
theorem rR {c:Nat} (hc:c<6):(start c).st.ah=[]/\(start c).over=false/\(start c).ae.length=c/\∀(i:Nat) (x:Cn),(start c).ae[i]? =some x->x.ah=[]/\x.work=some .read:=by have h:=Rw c hc;refine ⟨by rw [h];rfl,by rw [h];rfl,by rw [h];simp [abs],λi x hx=>?_⟩;rw [h] at hx;simp only [abs,List.getElem?_map] at hx;obtain ⟨j,hj,rfl⟩:=Option.map_eq_some_iff.1 hx;have:cn j 0 ((none:Option Nat)==some j)=rd j 0:=rfl;rw [this,qP];exact ⟨rfl,rfl⟩
theorem Om {c:Nat} (hc:c<5):(start c).open_=({start c with ae:=(start c).ae++[{}]},(c:Int)):=by obtain ⟨_,h2,h3,_⟩:=rR (c:=c) (by omega);unfold Sv.open_;rw [if_neg (by rw [h2,h3];simp;omega),h3]
theorem Oo {c:Nat} (hc:c<5):(Sv.feed {start c with ae:=(start c).ae++[{}]} c (lK c))=(start (c+1),true):=by have h:=wJ aGV hc;simp only [Bool.and_eq_true] at h;have e:((start c).open_.1).feed c (lK c)=(start (c+1),(((start c).open_.1).feed c (lK c)).2):=rfl;rw [h.2,Om hc] at e;exact e
theorem aLj:((List.range 5).all λc=>decide ((sZ c).length<=100)&&decide ((Hm c).length<=100)&&decide ((lK c).length<=1000))=true:=by decide+kernel
theorem lens {c:Nat} (hc:c<5):(sZ c).length<=100/\(Hm c).length<=100/\(lK c).length<=1000:=by have:=wJ aLj hc;simp only [Bool.and_eq_true,decide_eq_true_eq] at this;exact ⟨this.1.1,this.1.2,this.2⟩
def p1 (c:Nat):B:=di++[32]++Hm c++[32]++jT c
def p2 (c:Nat):B:=di++[32]++Hm c++[32]++rM
theorem Yg (c:Nat):lK c=dU (p1 c)++dU (p2 c)++flush++dU mg++dU (sZ c)++flush:=rfl
theorem aGX:((List.range 5).all λc=>decide ((p1 c).length<=100)&&decide ((p2 c).length<=100))=true:=by decide+kernel
theorem aDL {c:Nat} (hc:c<5):(p1 c).length<=100/\(p2 c).length<=100:=by have:=wJ aGX hc;simp only [Bool.and_eq_true,decide_eq_true_eq] at this;exact this
theorem aGW:((List.range 5).all λc=>decide ((dU (p1 c)).length<=300)&&decide ((dU (p2 c)).length<=300)&&decide ((dU (sZ c)).length<=300)&&decide ((dU mg).length<=300))=true:=by decide+kernel
theorem Ra {c:Nat} (hc:c<5):(dU (p1 c)).length<=300/\(dU (p2 c)).length<=300/\(dU (sZ c)).length<=300/\(dU mg).length<=300:=by have:=wJ aGW hc;simp only [Bool.and_eq_true,decide_eq_true_eq] at this;exact ⟨this.1.1.1,this.1.1.2,this.1.2,this.2⟩
theorem aGU:((List.range 5).all λc=>[true,false].all λb=>decide (2<=(lines (EU c b)).length)&&decide ((lines (EU c b)).length<=10)&&decide ((EU c b).length<=1000))=true:=by decide+kernel
theorem Gb {c:Nat} (hc:c<5) (b:Bool):∃h t,lines (rep c b)=h::t/\t≠[]/\t.length<=10/\(rep c b).length<=1000:=by
 have h:=List.all_eq_true.1 (wJ aGU hc) b (by cases b<;>simp);simp only [Bool.and_eq_true,decide_eq_true_eq] at h;rw [mO];generalize EU c b=r at h;cases e:lines r with
 |nil=>rw [e] at h;simp at h
 |cons x t=>rw [e] at h;simp only [List.length_cons] at h;refine ⟨x,t,rfl,λe'=>?_,by omega,h.2⟩;subst e';simp at h
theorem TV {c:Nat} (hc:c<5) (b:Bool):kZ (rep c b)=(b,true):=by
 have h:=wJ aLk hc;simp only [Bool.and_eq_true,decide_eq_true_eq] at h;cases b
 ·exact h.2
 ·exact h.1
end Rc
end
end Go.Proofs.YtmanpggemmgnnaaGreatDoor
