/- Races: a part. Conditions: none. -/
import Derived.Test.YtmanpggemmgnnaaGreatDoorA07
import Derived.Test.YtmanpggemmgnnaaGreatDoorA11
set_option linter.all false
set_option maxHeartbeats 8000000
set_option maxRecDepth 1000000
namespace Go.Proofs.YtmanpggemmgnnaaGreatDoor
noncomputable section
open Go Go.Conc
theorem k12 {p:Prop} (h:p:=by kernel_rfl):p:=h
namespace Ky
theorem aAv {α β:Type} (P:Program):∀(s:Sem α) (f:α->Sem β) (an:List An),ask P (s.bind f) an=(ask P s an).bind λx=>(ask P (f x.1) x.2.1).map λy=>(y.1,y.2.1,x.2.2++y.2.2):=λs f=>by
 have nest:∀(o:Option (α×List An×List Io)) (i:Io),(o.bind λx=>(ask P (f x.1) x.2.1).map λy=>(y.1,y.2.1,x.2.2++y.2.2)).map (λ(x,r,io)=>(x,r,i::io))=(o.map λ(x,r,io)=>(x,r,i::io)).bind λx=>(ask P (f x.1) x.2.1).map λy=>(y.1,y.2.1,x.2.2++y.2.2):=λo i=>by
  cases o with
  |none=>rfl
  |some x=>simp only [Option.bind_some,Option.map_some];cases ask P (f x.1) x.2.1<;>rfl
 induction s with
 |pure a=>intro an;simp only [Sem.bind,ask,Option.bind_some];cases ask P (f a) an<;>rfl
 |load m a k ih=>intro an;cases an with
  |nil=>rfl
  |cons q an=>cases q<;>first|rfl|(simp only [Sem.bind,ask,ih,nest])
 |store m a v k ih=>intro an;simp only [Sem.bind,ask];split<;>first|rfl|simp only [ih,nest]
 |mark m k ih=>intro an;simp only [Sem.bind,ask,ih,nest]
 |program k ih=>intro an;simp only [Sem.bind,ask,ih]
 |shape b k ih=>intro an;cases an with
  |nil=>rfl
  |cons q an=>cases q<;>first|rfl|(simp only [Sem.bind,ask,ih,nest])
 |frozen b k ih=>intro an;cases an with
  |nil=>rfl
  |cons q an=>cases q<;>first|rfl|(simp only [Sem.bind,ask,ih,nest])
 |getObj b k ih=>intro an;cases an with
  |nil=>rfl
  |cons q an=>cases q<;>first|rfl|(simp only [Sem.bind,ask];split<;>first|rfl|simp only [ih,nest])
 |setObj b o k ih=>intro an;simp only [Sem.bind,ask,ih,nest]
 |new o k ih=>intro an;cases an with
  |nil=>rfl
  |cons q an=>cases q<;>first|rfl|(simp only [Sem.bind,ask,ih,nest])
 |_=>intro an;simp [Sem.bind,ask]
theorem JJ {α β:Type} (P:Program) (s:Sem α) (f:α->Sem β) (an:List An):ask P (s >>= f) an=(ask P s an).bind λx=>(ask P (f x.1) x.2.1).map λy=>(y.1,y.2.1,x.2.2++y.2.2):=aAv P s f an
theorem VB {P:Program} {fr:Frame} {cs:List Frame} {an nM:List An} {v:Value} {io:List Io} {ops:Array Oper} {i:Nat} {is:List Nat} {k:List Item} {o:Oper} (hr:fr.roundOf=none) (he:(fr.kind==.early)=false) (hm:fr.mode=.run) (ht:fr.todo=.inRegion ops (i::is)::k)
 (hw:((ops[i]?).map (Region.wanted · (yielded ops fr.tmps))).getD false=true) (ho:ops[i]? =some o) (ha:ask P (execOp fr.eval o) an=some (.value v,nM,io)):RU P fr cs an=some (fr.finish v,cs,nM,io):=by
 rw [ho] at hw;unfold RU;rw [hr,he];simp only [Option.isSome_none,Bool.false_or,Bool.false_eq_true,if_false,hm,ht,ho,hw,if_true,ha]
def aR (P:Program) (n:Nat) (fr:Frame) (cs:List Frame) (an:List An):Frame:=match walk P n fr cs an with
 |some (f,_)=>f
 |none=>fr
def bu (P:Program) (n:Nat) (fr:Frame) (cs:List Frame) (an:List An):List Frame:=match walk P n fr cs an with
 |some (_,c,_)=>c
 |none=>cs
def aFi (P:Program) (n:Nat) (fr:Frame) (cs:List Frame) (an:List An):List An:=match walk P n fr cs an with
 |some (_,_,a,_)=>a
 |none=>[]
def bM (P:Program) (n:Nat) (fr:Frame) (cs:List Frame) (an:List An):List (FuncId×List Io):=match walk P n fr cs an with
 |some (_,_,_,i)=>i
 |none=>[]
def thin:List (FuncId×List Io)->List (FuncId×List Io)
 |[]=>[]
 |(_,[])::l=>thin l
 |x::l=>x::thin l
def bV {α:Type}:Option α->Bool
 |some _=>true
 |none=>false
theorem l9 {P:Program} {n:Nat} {fr:Frame} {cs:List Frame} {an:List An} (h:bV (walk P n fr cs an)=true):walk P n fr cs an=some (aR P n fr cs an,bu P n fr cs an,aFi P n fr cs an,bM P n fr cs an):=by
 unfold aR bu aFi bM;cases hw:walk P n fr cs an with
 |none=>rw [hw] at h;cases h
 |some r=>rfl
end Ky
namespace Ka
open Ky
section
variable {P:Program} {C:Cut} {cs:List Frame} {main:Bool} {Stop:Frame->World->Prop}
theorem ma:∀{l:List (FuncId×List Io)} {w w':World} {d d':Nat},nC P C (thin l) w w' d d'->nC P C l w w' d d'
 |[],_,_,_,_,h=>h
 |(fn,[])::l,w,w',d,d',h=>⟨w,rfl,by
    have e:seen P fn (gV []).toArray=#[]:=rfl;rw [e,deafBehind_still (by simp)];exact ma (l:=l) h⟩
 |(fn,i::io)::l,w,w',d,d',h=>by
  obtain ⟨w1,h1,h2⟩:=h;exact ⟨w1,h1,ma (l:=l) h2⟩
theorem xI (n:Nat) {fr:Frame} {csl:List Frame} {an:List An} {wv wv':World} {d d':Nat} (h:bV (walk P n fr csl an)=true) (hb:nC P C (thin (bM P n fr csl an)) wv wv' d d')
 (hs:kJ P C main cs Stop (aR P n fr csl an) (bu P n fr csl an) wv' d'):kJ P C main cs Stop fr csl wv d:=
 KP n (l9 h) (ma hb) hs
def wK (C:Cut):List Io->World->World->World->Prop
 |[],w,_,w'=>w'=w
 | .ld _ a v::l,w,wa,w'=>w.cell? a=some v/\wK C l w wa w'
 | .st _ a v::l,w,wa,w'=>(∃x,w.cell? a=some x)/\w.frozen? a=false/\wK C l (w.setCell a v) (wa.setCell a v) w'
 | .mk m::l,w,wa,w'=>I9 C m/\wK C l w wa w'
 | .sh r x::l,w,wa,w'=>wa.shape? r=x/\wK C l w wa w'
 | .fz a b::l,w,wa,w'=>wa.frozen? a=b/\wK C l w wa w'
 |_::_,_,_,_=>False
theorem aEQ (io:List Io):∀{wv wv' wa:World},wK C io wv wa wv'->Vw C wv wa->∃bO,jg io wa bO/\Vw C wv' bO/\Hid C wa bO/\∀e∈gV io,oQ C e\/e.mute=true:=by
 induction io with
 |nil=>intro wv wv' wa h hv;cases h;exact ⟨wa,rfl,hv,Hid.refl C wa,λe he=>by cases he⟩
 |cons i l ih=>
  intro wv wv' wa h hv;cases i with
  |ld m a v=>
   obtain ⟨hc,h⟩:=h;obtain ⟨bO,h1,h2,h3,h4⟩:=ih h hv;obtain ⟨e1,e2,e3⟩:=hv.cell hc;refine ⟨bO,⟨e1,h1⟩,h2,h3,λe he=>?_⟩;rcases List.mem_cons.1 he with rfl|he
   ·exact .inl ⟨e2,λn hn=>⟨(e3 n hn).1,(e3 n hn).2,λx=>by cases x⟩⟩
   ·exact h4 e he
  |st m a v=>
   obtain ⟨⟨x,hx⟩,hf,h⟩:=h;obtain ⟨e1,e2,e3⟩:=hv.cell hx;obtain ⟨f1,f2⟩:=uB hv hx hf;obtain ⟨bO,h1,h2,h3,h4⟩:=ih h (hv.setCell hx);refine ⟨bO,⟨⟨x,e1⟩,f1,h1⟩,h2,(Hid.setCell hv hx f2).trans h3,λe he=>?_⟩;rcases List.mem_cons.1 he with rfl|he
   ·exact .inl ⟨e2,λn hn=>⟨(e3 n hn).1,(e3 n hn).2,λ_=>f2 n hn⟩⟩
   ·exact h4 e he
  |mk m=>
   obtain ⟨hm,h⟩:=h;obtain ⟨bO,h1,h2,h3,h4⟩:=ih h hv;refine ⟨bO,h1,h2,h3,λe he=>?_⟩;rcases List.mem_cons.1 he with rfl|he
   ·cases m<;>first|exact .inr rfl|exact .inl trivial|exact .inl hm|exact hm.elim
   ·exact h4 e he
  |sh r x=>obtain ⟨hx,h⟩:=h;obtain ⟨bO,h1,h2,h3,h4⟩:=ih h hv;exact ⟨bO,⟨hx,h1⟩,h2,h3,h4⟩
  |fz a b=>obtain ⟨hx,h⟩:=h;obtain ⟨bO,h1,h2,h3,h4⟩:=ih h hv;exact ⟨bO,⟨hx,h1⟩,h2,h3,h4⟩
  |_=>exact h.elim
theorem II {fr fr':Frame} {csl csl':List Frame} {wv wv':World} {d d':Nat} (h:∀wa,Vw C wv wa->∃an nM io,RU P fr csl an=some (fr',csl',nM,io)/\wK C io wv wa wv'/\deafBehind d (seen P fr.fn (gV io).toArray)=d')
 (hs:kJ P C main cs Stop fr' csl' wv' d'):kJ P C main cs Stop fr csl wv d:=
 kJ.ofS P C main cs Stop λwa hv=>by
  obtain ⟨an,nM,io,h1,h2,h3⟩:=h wa hv;obtain ⟨bO,g1,g2,g3,g4⟩:=aEQ io h2 hv;exact ⟨fr',csl',wv',bO,_,_,gK h1 main cs wa bO g1,⟨g2,g3,λe he=>g4 e (by simpa using mem_seen he),h3⟩,hs⟩
theorem xN {p:Program} {fr c:Frame} {l:List Frame} {k:CallKind} {v:Value} {fn:Func} (hm:fr.mode=.returning) (hd:fr.defers=[]) (hk:fr.kind=k) (Zp:k=.normal\/k=.deferred) (hf:p.funcs[fr.fn]? =some fn) (hr:results fn fr.tmps=pure v) (hc:jV c.mode) (main:Bool) (w:World):
 stepG p main (G fr (c::l)) w=.go (G (oN k c v) l) w #[]:=by
 have e:stepG p main (G fr (c::l)) w=unwind p main fr (c::l) none w:=by unfold stepG G;simp only [hm]
 rw [e];unfold unwind;simp only [hd,hm,hf,hr];show GStep.after (seen p fr.fn #[]) (doReturn p main fr (c::l) none v w)=_;subst hk;rcases Zp with hk|hk
 ·simp only [doReturn,hk,oN];rfl
 ·simp only [doReturn,hk,oN];cases hcm:c.mode with
  |run=>rfl
  |returning=>rfl
  |panicking ch=>
   cases ch with
   |nil=>rfl
   |cons x l=>rw [hcm] at hc;have hx:=hc x List.mem_cons_self;cases x;simp only at hx;subst hx;rfl
theorem QK {fr c:Frame} {csl:List Frame} {wv:World} {d:Nat} {k:CallKind} {v:Value} {fn:Func} (hm:fr.mode=.returning) (hd:fr.defers=[]) (hk:fr.kind=k) (Zp:k=.normal\/k=.deferred) (hf:P.funcs[fr.fn]? =some fn) (hr:results fn fr.tmps=pure v) (hc:jV c.mode)
 (hs:kJ P C main cs Stop (oN k c v) csl wv d):kJ P C main cs Stop fr (c::csl) wv d:=
 QL (λw=>xN (l:=csl++cs) hm hd hk Zp hf hr hc main w) hs
def p8:List (FuncId×List Io)->World->World->Prop
 |[],w,w'=>w'=w
 |(_,io)::l,w,w'=>∃w1,jg io w w1/\p8 l w1 w'
theorem oM:∀{l:List (FuncId×List Io)} {w w':World},p8 (thin l) w w'->p8 l w w'
 |[],_,_,h=>h
 |(_,[])::l,w,_,h=>⟨w,rfl,oM (l:=l) h⟩
 |(_,_::_)::l,_,_,⟨w1,h1,h2⟩=>⟨w1,h1,oM (l:=l) h2⟩
theorem Gw:∀(n:Nat) {fr fr':Frame} {c c':List Frame} {an nM:List An} {jX:List (FuncId×List Io)} {w w':World},walk P n fr c an=some (fr',c',nM,jX)->p8 jX w w'->∀l:List Frame,
 runN P n (lone fr (c++l) w)=.next (lone fr' (c'++l) w')/\∀i,i<=n->∃Bj l1 w1,runN P i (lone fr (c++l) w)=.next (lone Bj (l1++l) w1)
 |0,fr,fr',c,c',an,nM,jX,w,w',h,hb,l=>by
  simp only [walk,Option.some.injEq,Prod.mk.injEq] at h;obtain ⟨rfl,rfl,rfl,rfl⟩:=h;cases hb;exact ⟨rfl,λi hi=>⟨fr,c,w,by have e:i=0:=(by omega);subst e;rfl⟩⟩
 |n+1,fr,fr',c,c',an,nM,jX,w,w',h,hb,l=>by
  simp only [walk] at h;split at h
  ·cases h
  ·rename_i Bj NQ VV io lT;split at h
   ·cases h
   ·rename_i fr2 cs2 as2 Mf hw;cases h;obtain ⟨w1,ll,gQ⟩:=hb;have hs:=og (gK lT true l w w1 ll);obtain ⟨h1,h2⟩:=Gw n hw gQ l;refine ⟨by simp only [runN,hs];exact h1,λi hi=>?_⟩;cases i with
    |zero=>exact ⟨fr,c,w,rfl⟩
    |succ i=>obtain ⟨f1,l1,w1',e⟩:=h2 i (by omega);exact ⟨f1,l1,w1',by simp only [runN,hs];exact e⟩
theorem Uk {fr:Frame} {ops:Array Oper} {i:Nat} {is:List Nat} {k:List Item} {o:Oper} (hr:fr.roundOf=none) (he:(fr.kind==.early)=false) (hm:fr.mode=.run) (ht:fr.todo=.inRegion ops (i::is)::k)
 (hw:((ops[i]?).map (Region.wanted · (yielded ops fr.tmps))).getD false=true) (ho:ops[i]? =some o) {w:World} {h:Halt} {w1:World} (ha:(execOp fr.eval o).run P w=.halt h w1) (hh:(∃x,h=.stuck x)\/∃x,h=.unsupported x) (ahead:P.follows .staticDataAhead=true) (steps:∀g,P.stepOf g=none) (l:List Frame):
 ∃o w',step P (lone fr l w)=.ended o w':=by
 have e0:stepG P true (G fr l) w=stepG.apply P true fr l none (execOp fr.eval o) w:=by
  have dC:fr.oper?=some o:=by unfold Frame.oper?;rw [ht];exact ho
  unfold stepG G;simp only [hm];unfold stepG.exec;simp only [ht,hw,if_true];unfold stepG.oper;simp only [dC,hr]
 have bJ:∃es,(execOp fr.eval o).runT P w #[]=(.halt h w1,es):=by refine ⟨((execOp fr.eval o).runT P w #[]).2,?_⟩;have:=Sem.runT_fst P (execOp fr.eval o) w #[];rw [ha] at this;rw [<-this]
 obtain ⟨es,bJ⟩:=bJ;have:∃o w' es,stepG P true (G fr l) w=.ended o w' es:=by
  rw [e0];unfold stepG.apply;simp only [if_true,bJ,he,Bool.false_eq_true,if_false];rcases hh with ⟨x,rfl⟩|⟨x,rfl⟩
  ·exact ⟨_,_,_,rfl⟩
  ·cases x with
   |initOrder g=>unfold early;simp only [ahead,Bool.not_true,Bool.false_eq_true,if_false,steps];exact ⟨_,_,_,rfl⟩
   |_=>exact ⟨_,_,_,rfl⟩
 obtain ⟨o,w',es,e⟩:=this;exact ⟨o,w',mV e⟩
end
theorem FN (n:Nat) (args:Array Value):n<=(args++Array.replicate (n - args.size) undef).size:=by simp;omega
theorem FO (n:Nat) (hn:0<n) (args:Array Value):(args++Array.replicate (n - args.size) undef).toList.head?=some (args.getD 0 undef):=by
 obtain ⟨l⟩:=args;cases l with
 |nil=>simp [Array.getD];cases n with
  |zero=>omega
  |succ n=>simp [List.replicate]
 |cons x l=>simp [Array.getD]
end Ka
namespace Ka
open Ky
def tZ (P:Program) (f:FuncId) (tmps:List Value) (k:CallKind):Frame:=
 {fn:=f,tmps:=⟨tmps⟩,todo:=[.code (((P.funcs[f]?).bind (·.body)).getD (.refuse "unsupported: a function without a Go body is entered"))],defers:=[],mode:=.run,kind:=k}
section
variable (a:Addr) (a1 a2 a3 a4 a5:Value) (l:List Value) (k:CallKind) (csl:List Frame)
def lk0:Frame:=tZ Tryz.prog 38 (.pointer (some a)::a1::a2::a3::a4::a5::l) k
def lk1:Frame:=aR Tryz.prog 15 (lk0 a a1 a2 a3 a4 a5 l k) csl []
def qU:List Frame:=bu Tryz.prog 15 (lk0 a a1 a2 a3 a4 a5 l k) csl []
def lk2:Frame:=aR Tryz.prog 1 (lk1 a a1 a2 a3 a4 a5 l k csl) (qU a a1 a2 a3 a4 a5 l k csl) [.QM (some (0,0)),.frz false,.val (.int .i32 0)]
def lk3:Frame:=aR Tryz.prog 10 (lk2 a a1 a2 a3 a4 a5 l k csl) (qU a a1 a2 a3 a4 a5 l k csl) []
def lk4:Frame:=(lk3 a a1 a2 a3 a4 a5 l k csl).finish (.pointer (some a))
def lk5:Frame:=aR Tryz.prog 6 (lk4 a a1 a2 a3 a4 a5 l k csl) (qU a a1 a2 a3 a4 a5 l k csl) []
variable (hk:k=.normal\/k=.deferred)
include hk
theorem lkA:bV (walk Tryz.prog 15 (lk0 a a1 a2 a3 a4 a5 l k) csl [])=true:=by rcases hk with rfl|rfl<;>kernel_rfl
theorem aNT:thin (bM Tryz.prog 15 (lk0 a a1 a2 a3 a4 a5 l k) csl [])=[(54,[.mk (.extern 56),.mk .disable])]:=by rcases hk with rfl|rfl<;>kernel_rfl
theorem lkB (t:TypeId) (n:Nat):RU Tryz.prog (lk1 a a1 a2 a3 a4 a5 l k csl) (qU a a1 a2 a3 a4 a5 l k csl) [.QM (some (t,n)),.frz false,.val (.int .i32 0)]=some (lk2 a a1 a2 a3 a4 a5 l k csl,qU a a1 a2 a3 a4 a5 l k csl,[],[.mk (.extern 94),.sh a.block (some (t,n)),.fz a false,.ld .atomic a (.int .i32 0),.st .atomic a (.int .i32 1)]):=by rcases hk with rfl|rfl<;>kernel_rfl
theorem lkC:bV (walk Tryz.prog 10 (lk2 a a1 a2 a3 a4 a5 l k csl) (qU a a1 a2 a3 a4 a5 l k csl) [])=true:=by rcases hk with rfl|rfl<;>kernel_rfl
theorem aNS:thin (bM Tryz.prog 10 (lk2 a a1 a2 a3 a4 a5 l k csl) (qU a a1 a2 a3 a4 a5 l k csl) [])=[(54,[.mk (.extern 58),.mk .enable])]:=by rcases hk with rfl|rfl<;>kernel_rfl
theorem lkE:bV (walk Tryz.prog 6 (lk4 a a1 a2 a3 a4 a5 l k csl) (qU a a1 a2 a3 a4 a5 l k csl) [])=true:=by rcases hk with rfl|rfl<;>kernel_rfl
theorem aNP:thin (bM Tryz.prog 6 (lk4 a a1 a2 a3 a4 a5 l k csl) (qU a a1 a2 a3 a4 a5 l k csl) [])=[(54,[.mk (.extern 59),.mk (.acquire a)])]:=by rcases hk with rfl|rfl<;>kernel_rfl
end
end Ka
namespace Ky
def qh (fr:Frame):Array Oper:=match fr.todo with
 | .inRegion ops _::_=>ops
 |_=>#[]
def OA (fr:Frame):Nat:=match fr.todo with
 | .inRegion _ (i::_)::_=>i
 |_=>0
def aDE (fr:Frame):List Nat:=match fr.todo with
 | .inRegion _ (_::is)::_=>is
 |_=>[]
def aJe (fr:Frame):List Item:=match fr.todo with
 |_::k=>k
 |_=>[]
def runs:FrameMode->Bool
 | .run=>true
 |_=>false
def Bn (fr:Frame):Bool:=fr.roundOf.isNone&&!(fr.kind==.early)&&runs fr.mode&&(match fr.todo with
 | .inRegion _ (_::_)::_=>true
 |_=>false)&&(((qh fr)[OA fr]?).map (Region.wanted · (yielded (qh fr) fr.tmps))).getD false
def xQ (fr:Frame):Oper:=match (qh fr)[OA fr]? with
 |some o=>o
 |none=>default
theorem RQ {fr:Frame} (h:Bn fr=true):fr.roundOf=none/\(fr.kind==.early)=false/\fr.mode=.run/\fr.todo=.inRegion (qh fr) (OA fr::aDE fr)::aJe fr/\((((qh fr)[OA fr]?).map (Region.wanted · (yielded (qh fr) fr.tmps))).getD false=true)/\(qh fr)[OA fr]? =some (xQ fr):=by
 unfold Bn at h;simp only [Bool.and_eq_true] at h;obtain ⟨⟨⟨⟨h1,h2⟩,h3⟩,h4⟩,h5⟩:=h;refine ⟨by simpa using h1,by simpa using h2,?_,?_,h5,?_⟩
 ·cases hm:fr.mode<;>rw [hm] at h3<;>first|rfl|cases h3
 ·unfold qh OA aDE aJe;cases ht:fr.todo with
  |nil=>rw [ht] at h4;cases h4
  |cons x k=>
   rw [ht] at h4;cases x with
   |inRegion ops is=>cases is with
    |nil=>cases h4
    |cons i is=>rfl
   |_=>cases h4
 ·unfold xQ;cases hx:(qh fr)[OA fr]? with
  |none=>rw [hx] at h5;cases h5
  |some o=>rfl
theorem aAA {P:Program} {fr:Frame} {cs:List Frame} {an nM:List An} {v:Value} {io:List Io} (h:Bn fr=true) (ha:ask P (execOp fr.eval (xQ fr)) an=some (.value v,nM,io)):RU P fr cs an=some (fr.finish v,cs,nM,io):=
 let ⟨h1,h2,h3,h4,h5,h6⟩:=RQ h
 VB h1 h2 h3 h4 h5 h6 ha
end Ky
namespace Ka
open Ky
theorem aAt (an:List An):Ky.ask Tryz.prog (underlying 159) an=some (.pointer 61,an,[]):=k12
theorem aAu (an:List An):Ky.ask Tryz.prog (underlying 121) an=some (.unsafePointer,an,[]):=k12
theorem aDn (an:List An):Ky.ask Tryz.prog (sizeOf 61) an=some (2,an,[]):=k12
theorem Qe (P:Program) (a:Addr) (t:TypeId) (n:Nat) (an:List An):Ky.ask P (Conv.seenAt a) (.QM (some (t,n))::an)=some (a,an,[.sh a.block (some (t,n))]):=rfl
theorem Nq (P:Program) (r:Nat) (t:TypeId) (n:Nat) (an:List An):Ky.ask P (cellsIn r) (.QM (some (t,n))::an)=some (some n,an,[.sh r (some (t,n))]):=rfl
theorem AO {a:Addr} {t:TypeId} {n:Nat} (h:a.off<n):Ky.ask Tryz.prog (convert 159 121 (.pointer (some a))) [.QM (some (t,n)),.QM (some (t,n))]=some (.pointer (some a),[],[.sh a.block (some (t,n)),.sh a.block (some (t,n))]):=by have hn:(decide (a.off>=n))=false:=decide_eq_false (by omega);unfold convert Conv.unsafePointer;simp only [JJ,aAt,aAu,Qe,Nq,aDn,Option.bind_some,hn,Bool.false_and,List.nil_append];rfl
theorem oC {w:World} {a:Addr} {v:Value} (h:w.cell? a=some v):∃t n,w.shape? a.block=some (t,n)/\a.off<n:=by
 unfold World.cell? at h;unfold World.shape?;split at h
 ·rename_i c e f heq;split at h
  ·cases h
  ·exact ⟨e,c.size,rfl,(Array.getElem?_eq_some_iff.1 h).1⟩
 ·cases h
section
variable (a:Addr) (a1 a2 a3 a4 a5:Value) (l:List Value) (k:CallKind) (csl:List Frame)
variable (hk:k=.normal\/k=.deferred)
include hk
theorem aNR:Bn (lk3 a a1 a2 a3 a4 a5 l k csl)=true:=by rcases hk with rfl|rfl<;>kernel_rfl
theorem aNQ:execOp (lk3 a a1 a2 a3 a4 a5 l k csl).eval (xQ (lk3 a a1 a2 a3 a4 a5 l k csl))=(convert 159 121 (.pointer (some a)) >>= λv=>pure (.value v)):=by rcases hk with rfl|rfl<;>kernel_rfl
theorem lkD {t:TypeId} {n:Nat} (h:a.off<n):RU Tryz.prog (lk3 a a1 a2 a3 a4 a5 l k csl) (qU a a1 a2 a3 a4 a5 l k csl) [.QM (some (t,n)),.QM (some (t,n))]=some (lk4 a a1 a2 a3 a4 a5 l k csl,qU a a1 a2 a3 a4 a5 l k csl,[],[.sh a.block (some (t,n)),.sh a.block (some (t,n))]):=
 aAA (aNR a a1 a2 a3 a4 a5 l k csl hk) (by
  rw [aNQ a a1 a2 a3 a4 a5 l k csl hk,JJ,AO h];rfl)
theorem aNO:(lk5 a a1 a2 a3 a4 a5 l k csl).mode=.returning:=by rcases hk with rfl|rfl<;>kernel_rfl
theorem aNN:(lk5 a a1 a2 a3 a4 a5 l k csl).defers=[]:=by rcases hk with rfl|rfl<;>kernel_rfl
theorem aNM:(lk5 a a1 a2 a3 a4 a5 l k csl).kind=k:=by rcases hk with rfl|rfl<;>kernel_rfl
theorem aNL:(lk5 a a1 a2 a3 a4 a5 l k csl).fn=38:=by rcases hk with rfl|rfl<;>kernel_rfl
theorem aNK:bu Tryz.prog 6 (lk4 a a1 a2 a3 a4 a5 l k csl) (qU a a1 a2 a3 a4 a5 l k csl) []=csl:=by rcases hk with rfl|rfl<;>kernel_rfl
theorem aNJ:bu Tryz.prog 10 (lk2 a a1 a2 a3 a4 a5 l k csl) (qU a a1 a2 a3 a4 a5 l k csl) []=qU a a1 a2 a3 a4 a5 l k csl:=by rcases hk with rfl|rfl<;>kernel_rfl
theorem aNI:(lk1 a a1 a2 a3 a4 a5 l k csl).fn=54/\(lk2 a a1 a2 a3 a4 a5 l k csl).fn=54/\(lk3 a a1 a2 a3 a4 a5 l k csl).fn=54:=⟨by rcases hk with rfl|rfl<;>kernel_rfl,by rcases hk with rfl|rfl<;>kernel_rfl,by rcases hk with rfl|rfl<;>kernel_rfl⟩
end
theorem aJI (tmps:Array Value):∃fn,Tryz.prog.funcs[38]? =some fn/\results fn tmps=pure (.tuple #[]):=⟨Tryz.f38,k12,k12⟩
theorem dfA:deafBehind 0 (seen Tryz.prog 54 (gV [.mk (.extern 56),.mk .disable]).toArray)=1:=k12
theorem dfB (a:Addr) (t:TypeId) (n:Nat):deafBehind 1 (seen Tryz.prog 54 (gV [.mk (.extern 94),.sh a.block (some (t,n)),.fz a false,.ld .atomic a (.int .i32 0),.st .atomic a (.int .i32 1)]).toArray)=1:=k12
theorem dfC:deafBehind 1 (seen Tryz.prog 54 (gV [.mk (.extern 58),.mk .enable]).toArray)=0:=k12
theorem dfE (a:Addr):deafBehind 0 (seen Tryz.prog 54 (gV [.mk (.extern 59),.mk (.acquire a)]).toArray)=0:=k12
section
variable {C:Cut} {cs:List Frame} {main:Bool} {Stop:Frame->World->Prop}
theorem KR {a:Addr} {a1 a2 a3 a4 a5:Value} {l:List Value} {k:CallKind} {fr:Frame} {csl:List Frame} {wv wa0:World} (hk:k=.normal\/k=.deferred) (hm:jV fr.mode) (NJ:Vw C wv wa0) (hc:wv.cell? a=some (.int .i32 0)) (hf:wv.frozen? a=false)
 (hs:kJ Tryz.prog C main cs Stop (oN k fr (.tuple #[])) csl (wv.setCell a (.int .i32 1)) 0):kJ Tryz.prog C main cs Stop (lk0 a a1 a2 a3 a4 a5 l k) (fr::csl) wv 0:=by
 obtain ⟨gN,hhd⟩:=(NJ.cell hc).2;refine xI 15 (lkA a a1 a2 a3 a4 a5 l k (fr::csl) hk) (wv':=wv) (d':=1) ?_ ?_
 ·rw [aNT _ _ _ _ _ _ _ _ _ hk];exact ⟨wv,⟨trivial,trivial,rfl⟩,rfl,dfA.symm⟩
 show kJ Tryz.prog C main cs Stop (lk1 a a1 a2 a3 a4 a5 l k (fr::csl)) (qU a a1 a2 a3 a4 a5 l k (fr::csl)) wv 1;refine II (fr':=lk2 a a1 a2 a3 a4 a5 l k (fr::csl)) (csl':=qU a a1 a2 a3 a4 a5 l k (fr::csl)) (wv':=wv.setCell a (.int .i32 1)) (d':=1) (λwa hv=>?_) ?_
 ·have hca:=(hv.cell hc).1;obtain ⟨t,n,fT,_⟩:=oC hca;refine ⟨_,_,_,lkB a a1 a2 a3 a4 a5 l k (fr::csl) hk t n,⟨trivial,fT,(uB hv hc hf).1,hc,⟨_,hc⟩,hf,rfl⟩,?_⟩;rw [(aNI a a1 a2 a3 a4 a5 l k (fr::csl) hk).1];exact dfB a t n
 refine xI 10 (lkC a a1 a2 a3 a4 a5 l k (fr::csl) hk) (wv':=wv.setCell a (.int .i32 1)) (d':=0) ?_ ?_
 ·rw [aNS _ _ _ _ _ _ _ _ _ hk];exact ⟨_,⟨trivial,trivial,rfl⟩,rfl,dfC.symm⟩
 rw [aNJ a a1 a2 a3 a4 a5 l k (fr::csl) hk];have Rp:(wv.setCell a (.int .i32 1)).cell? a=some (.int .i32 1):=World.cell?_setCell_same _ _ _ hc;show kJ Tryz.prog C main cs Stop (lk3 a a1 a2 a3 a4 a5 l k (fr::csl)) (qU a a1 a2 a3 a4 a5 l k (fr::csl)) _ 0;refine II (fr':=lk4 a a1 a2 a3 a4 a5 l k (fr::csl)) (csl':=qU a a1 a2 a3 a4 a5 l k (fr::csl)) (wv':=wv.setCell a (.int .i32 1)) (d':=0) (λwa hv=>?_) ?_
 ·obtain ⟨t,n,fT,hn⟩:=oC (hv.cell Rp).1;exact ⟨_,_,_,lkD a a1 a2 a3 a4 a5 l k (fr::csl) hk hn,⟨fT,fT,rfl⟩,rfl⟩
 refine xI 6 (lkE a a1 a2 a3 a4 a5 l k (fr::csl) hk) (wv':=wv.setCell a (.int .i32 1)) (d':=0) ?_ ?_
 ·rw [aNP _ _ _ _ _ _ _ _ _ hk];exact ⟨_,⟨trivial,⟨gN,λn hn=>(hhd n hn).2⟩,rfl⟩,rfl,(dfE a).symm⟩
 rw [aNK a a1 a2 a3 a4 a5 l k (fr::csl) hk];obtain ⟨fn,Bh,iO⟩:=aJI (lk5 a a1 a2 a3 a4 a5 l k (fr::csl)).tmps;exact QK (fn:=fn) (aNO _ _ _ _ _ _ _ _ _ hk) (aNN _ _ _ _ _ _ _ _ _ hk) (aNM _ _ _ _ _ _ _ _ _ hk) hk (by
  show Tryz.prog.funcs[(lk5 a a1 a2 a3 a4 a5 l k (fr::csl)).fn]? =_;rw [aNL _ _ _ _ _ _ _ _ _ hk];exact Bh) iO hm hs
end
end Ka
namespace Ka
open Ky
section
variable (a:Addr) (a1 a2 a3 a4 a5:Value) (l:List Value) (k:CallKind) (csl:List Frame)
def ul0:Frame:=tZ Tryz.prog 39 (.pointer (some a)::a1::a2::a3::a4::a5::l) k
def ul1:Frame:=aR Tryz.prog 17 (ul0 a a1 a2 a3 a4 a5 l k) csl [.val (.int .i32 1)]
def Kj:List Frame:=bu Tryz.prog 17 (ul0 a a1 a2 a3 a4 a5 l k) csl [.val (.int .i32 1)]
def ul2:Frame:=(ul1 a a1 a2 a3 a4 a5 l k csl).finish (.pointer (some a))
def ul3:Frame:=aR Tryz.prog 28 (ul2 a a1 a2 a3 a4 a5 l k csl) (Kj a a1 a2 a3 a4 a5 l k csl) [.val (.int .i32 1)]
variable (hk:k=.normal\/k=.deferred)
include hk
theorem ulA:bV (walk Tryz.prog 17 (ul0 a a1 a2 a3 a4 a5 l k) csl [.val (.int .i32 1)])=true:=by rcases hk with rfl|rfl<;>kernel_rfl
theorem aMO:thin (bM Tryz.prog 17 (ul0 a a1 a2 a3 a4 a5 l k) csl [.val (.int .i32 1)])=[(55,[.ld .plain a (.int .i32 1)])]:=by rcases hk with rfl|rfl<;>kernel_rfl
theorem aMN:Bn (ul1 a a1 a2 a3 a4 a5 l k csl)=true:=by rcases hk with rfl|rfl<;>kernel_rfl
theorem aMM:execOp (ul1 a a1 a2 a3 a4 a5 l k csl).eval (xQ (ul1 a a1 a2 a3 a4 a5 l k csl))=(convert 159 121 (.pointer (some a)) >>= λv=>pure (.value v)):=by rcases hk with rfl|rfl<;>kernel_rfl
theorem ulD {t:TypeId} {n:Nat} (h:a.off<n):RU Tryz.prog (ul1 a a1 a2 a3 a4 a5 l k csl) (Kj a a1 a2 a3 a4 a5 l k csl) [.QM (some (t,n)),.QM (some (t,n))]=some (ul2 a a1 a2 a3 a4 a5 l k csl,Kj a a1 a2 a3 a4 a5 l k csl,[],[.sh a.block (some (t,n)),.sh a.block (some (t,n))]):=
 aAA (aMN a a1 a2 a3 a4 a5 l k csl hk) (by
  rw [aMM a a1 a2 a3 a4 a5 l k csl hk,JJ,AO h];rfl)
theorem ulE:bV (walk Tryz.prog 28 (ul2 a a1 a2 a3 a4 a5 l k csl) (Kj a a1 a2 a3 a4 a5 l k csl) [.val (.int .i32 1)])=true:=by rcases hk with rfl|rfl<;>kernel_rfl
theorem aML:thin (bM Tryz.prog 28 (ul2 a a1 a2 a3 a4 a5 l k csl) (Kj a a1 a2 a3 a4 a5 l k csl) [.val (.int .i32 1)])=[(55,[.mk (.extern 76),.mk (.releaseMerge a)]),(55,[.mk (.extern 56),.mk .disable]),(55,[.mk (.extern 96),.ld .atomic a (.int .i32 1),.st .atomic a (.int .i32 0)]),(55,[.mk (.extern 58),.mk .enable])]:=by rcases hk with rfl|rfl<;>kernel_rfl
theorem ulF:(ul3 a a1 a2 a3 a4 a5 l k csl).mode=.returning/\(ul3 a a1 a2 a3 a4 a5 l k csl).defers=[]/\(ul3 a a1 a2 a3 a4 a5 l k csl).kind=k/\(ul3 a a1 a2 a3 a4 a5 l k csl).fn=39:=by rcases hk with rfl|rfl<;>exact ⟨k12,k12,k12,k12⟩
theorem aMK:bu Tryz.prog 28 (ul2 a a1 a2 a3 a4 a5 l k csl) (Kj a a1 a2 a3 a4 a5 l k csl) [.val (.int .i32 1)]=csl:=by rcases hk with rfl|rfl<;>kernel_rfl
end
theorem aIZ (tmps:Array Value):∃fn,Tryz.prog.funcs[39]? =some fn/\results fn tmps=pure (.tuple #[]):=⟨Tryz.f39,k12,k12⟩
theorem duA (a:Addr):deafBehind 0 (seen Tryz.prog 55 (gV [.ld .plain a (.int .i32 1)]).toArray)=0:=k12
theorem aQk (a:Addr):deafBehind 0 (seen Tryz.prog 55 (gV [.mk (.extern 76),.mk (.releaseMerge a)]).toArray)=0:=k12
theorem aQj:deafBehind 0 (seen Tryz.prog 55 (gV [.mk (.extern 56),.mk .disable]).toArray)=1:=k12
theorem aQi (a:Addr):deafBehind 1 (seen Tryz.prog 55 (gV [.mk (.extern 96),.ld .atomic a (.int .i32 1),.st .atomic a (.int .i32 0)]).toArray)=1:=k12
theorem aQh:deafBehind 1 (seen Tryz.prog 55 (gV [.mk (.extern 58),.mk .enable]).toArray)=0:=k12
section
variable {C:Cut} {cs:List Frame} {main:Bool} {Stop:Frame->World->Prop}
theorem CZ {a:Addr} {a1 a2 a3 a4 a5:Value} {l:List Value} {k:CallKind} {fr:Frame} {csl:List Frame} {wv wa0:World} (hk:k=.normal\/k=.deferred) (hm:jV fr.mode) (NJ:Vw C wv wa0) (hc:wv.cell? a=some (.int .i32 1)) (hf:wv.frozen? a=false)
 (hs:kJ Tryz.prog C main cs Stop (oN k fr (.tuple #[])) csl (wv.setCell a (.int .i32 0)) 0):kJ Tryz.prog C main cs Stop (ul0 a a1 a2 a3 a4 a5 l k) (fr::csl) wv 0:=by
 obtain ⟨gN,hhd⟩:=(NJ.cell hc).2;refine xI 17 (ulA a a1 a2 a3 a4 a5 l k (fr::csl) hk) (wv':=wv) (d':=0) ?_ ?_
 ·rw [aMO _ _ _ _ _ _ _ _ _ hk];exact ⟨wv,⟨hc,rfl⟩,rfl,(duA a).symm⟩
 show kJ Tryz.prog C main cs Stop (ul1 a a1 a2 a3 a4 a5 l k (fr::csl)) (Kj a a1 a2 a3 a4 a5 l k (fr::csl)) wv 0;refine II (fr':=ul2 a a1 a2 a3 a4 a5 l k (fr::csl)) (csl':=Kj a a1 a2 a3 a4 a5 l k (fr::csl)) (wv':=wv) (d':=0) (λwa hv=>?_) ?_
 ·obtain ⟨t,n,fT,hn⟩:=oC (hv.cell hc).1;exact ⟨_,_,_,ulD a a1 a2 a3 a4 a5 l k (fr::csl) hk hn,⟨fT,fT,rfl⟩,rfl⟩
 have hmk:I9 C (.releaseMerge a):=⟨gN,λn hn=>(hhd n hn).2⟩
 refine xI 28 (ulE a a1 a2 a3 a4 a5 l k (fr::csl) hk) (wv':=wv.setCell a (.int .i32 0)) (d':=0) ?_ ?_
 ·rw [aML _ _ _ _ _ _ _ _ _ hk];refine ⟨_,⟨trivial,hmk,rfl⟩,?_⟩;rw [aQk];refine ⟨_,⟨trivial,trivial,rfl⟩,?_⟩;rw [aQj];refine ⟨_,⟨trivial,hc,⟨_,hc⟩,hf,rfl⟩,?_⟩;rw [aQi];refine ⟨_,⟨trivial,trivial,rfl⟩,?_⟩;rw [aQh];exact ⟨rfl,rfl⟩
 rw [aMK a a1 a2 a3 a4 a5 l k (fr::csl) hk];obtain ⟨fn,Bh,iO⟩:=aIZ (ul3 a a1 a2 a3 a4 a5 l k (fr::csl)).tmps;obtain ⟨f1,f2,f3,f4⟩:=ulF a a1 a2 a3 a4 a5 l k (fr::csl) hk;exact QK (fn:=fn) f1 f2 f3 hk (by
  show Tryz.prog.funcs[(ul3 a a1 a2 a3 a4 a5 l k (fr::csl)).fn]? =_;rw [f4];exact Bh) iO hm hs
end
end Ka
namespace Ka
open Ky
abbrev QQ:Program:=Pf Tryz.prog uE
theorem xV (P:Program) (fs:Array Func) (i:Nat):(Pf P fs).funcs[i]? =fs[i]? :=rfl
theorem QX:Fits Tryz.prog uE Spq ⟨λ_=>none,λ_=>(0,0),λ_=>false,eU Tryz.prog,λ_=>False,λ_=>none⟩:=Ru (λ_ h=>h.elim) rfl
theorem Ya:QQ.follows .staticDataAhead=true:=QX.ahead
theorem X9 (g:Nat):QQ.stepOf g=none:=QX.steps g
theorem nY {P:Program} {fr:Frame} {s:String} {k:List Item} (hm:fr.mode=.run) (ht:fr.todo=.code (.refuse s)::k) (w:World) (l:List Frame):∃o w',step P (lone fr l w)=.ended o w':=by
 have:∃o,stepG P true (G fr l) w=.ended o w #[]:=by unfold stepG G;simp only [hm];unfold stepG.exec;simp only [ht];exact ⟨_,rfl⟩
 obtain ⟨o,e⟩:=this;exact ⟨o,w,mV e⟩
theorem zg {P:Program} {n:Nat} {m m':Machine} (h:runN P n m=.next m'):runN P (n+1) m=step P m':=by rw [runN_add,h];show runN P 1 m'=_;simp only [runN];cases step P m'<;>rfl
theorem TF {P:Program} {fs:Array Func} {f:FuncId} {args:Array Value} {wv:World} (n:Nat) (h:∀k,(k=.normal\/k=.deferred)->∀τ d,∃fr' w',(∀L,runN (Pf P fs) n (lone (Frame.enter (Pf P fs) f args k) L (re wv τ d))=.next (lone fr' L w')/\∀i,i<=n->∃Bj l1 w1,runN (Pf P fs) i (lone (Frame.enter (Pf P fs) f args k) L (re wv τ d))=.next (lone Bj (l1++L) w1))/\∀L,∃o w'',step (Pf P fs) (lone fr' L w')=.ended o w''):
 EA P fs f args wv:=by
 refine ⟨n,λk fr l τ d hk hl=>?_⟩;obtain ⟨fr',w',h1,h2⟩:=h k hk τ d;obtain ⟨o,w'',h3⟩:=h2 (fr::l);refine ⟨⟨o,w'',by rw [zg (h1 (fr::l)).1];exact h3⟩,λi hi=>?_⟩;obtain ⟨Bj,l1,w1,e⟩:=(h1 (fr::l)).2 i hi;refine ⟨Bj,_,w1,e,?_⟩;cases l with
 |nil=>exact absurd rfl hl
 |cons x l=>simp;omega
theorem aDA (args:Array Value):∃b1 b2 b3 l,args++Array.replicate (4 - args.size) undef=⟨args.getD 0 undef::b1::b2::b3::l⟩:=by
 have h1:=FN 4 args;have h2:=FO 4 (by omega) args;generalize args++Array.replicate (4 - args.size) undef=t at h1 h2;obtain ⟨t⟩:=t
 match t,h1,h2 with
 |x::b1::b2::b3::l,_,h2=>simp only [List.head?_cons,Option.some.injEq] at h2;subst h2;exact ⟨b1,b2,b3,l,rfl⟩
 |[],h1,_|[_],h1,_|[_,_],h1,_|[_,_,_],h1,_=>simp at h1
theorem aDz (args:Array Value):∃b1 b2 b3 b4 b5 l,args++Array.replicate (6 - args.size) undef=⟨args.getD 0 undef::b1::b2::b3::b4::b5::l⟩:=by
 have h1:=FN 6 args;have h2:=FO 6 (by omega) args;generalize args++Array.replicate (6 - args.size) undef=t at h1 h2;obtain ⟨t⟩:=t
 match t,h1,h2 with
 |x::b1::b2::b3::b4::b5::l,_,h2=>simp only [List.head?_cons,Option.some.injEq] at h2;subst h2;exact ⟨b1,b2,b3,b4,b5,l,rfl⟩
 |[],h1,_|[_],h1,_|[_,_],h1,_|[_,_,_],h1,_|[_,_,_,_],h1,_|[_,_,_,_,_],h1,_=>simp at h1
section
theorem Yb:QQ.funcs[(38:Nat)]? =some qm:=by
 have e:∃fn,Tryz.prog.funcs[(38:Nat)]? =some fn:=⟨Tryz.f38,k12⟩
 have h:uE[(38:Nat)]? =some qm:=by rw [lN];obtain ⟨fn,e⟩:=e;rw [e];exact congrArg some (by unfold qi;rw [show keep 38=false by decide];rfl)
 exact (xV Tryz.prog uE 38).trans h
theorem aJk:((Tryz.prog.funcs[(38:Nat)]?).map (·.ntmps)).getD 0=6:=k12
variable (x:Value) (b1 b2 b3:Value) (l:List Value) (k:CallKind)
def aB1:Frame:={fn:=38,tmps:=⟨x::b1::b2::b3::l⟩,todo:=[.code sj],defers:=[],mode:=.run,kind:=k}
theorem Uf (args:Array Value):∃b1 b2 b3 l,Frame.enter QQ 38 args k=aB1 (args.getD 0 undef) b1 b2 b3 l k:=by obtain ⟨b1,b2,b3,l,e⟩:=aDA args;refine ⟨b1,b2,b3,l,?_⟩;unfold Frame.enter aB1;rw [Yb,<-e];rfl
theorem Gj (args:Array Value):∃b1 b2 b3 b4 b5 l,Frame.enter Tryz.prog 38 args k=tZ Tryz.prog 38 (args.getD 0 undef::b1::b2::b3::b4::b5::l) k:=by obtain ⟨b1,b2,b3,b4,b5,l,e⟩:=aDz args;refine ⟨b1,b2,b3,b4,b5,l,?_⟩;unfold Frame.enter tZ;simp only [aJk,<-e]
def IU:Frame:=aR QQ 2 (aB1 x b1 b2 b3 l k) [] []
variable (hk:k=.normal\/k=.deferred)
include hk
theorem qlA:walk QQ 2 (aB1 x b1 b2 b3 l k) [] []=some (IU x b1 b2 b3 l k,[],[],[(38,[]),(38,[])]):=by rcases hk with rfl|rfl<;>kernel_rfl
theorem aJl:Bn (IU x b1 b2 b3 l k)=true:=by rcases hk with rfl|rfl<;>kernel_rfl
theorem aNj (hx:∀a,x≠.pointer (some a)) (w:World):(execOp (IU x b1 b2 b3 l k).eval (xQ (IU x b1 b2 b3 l k))).run QQ w=.halt (.stuck "an address expected (no nilCheck in front?)") w:=by
 rcases hk with rfl|rfl<;>(cases x with
  |pointer p=>cases p with
   |none=>kernel_rfl
   |some a=>exact absurd rfl (hx a)
  |_=>kernel_rfl)
omit x in
theorem aNi (a:Addr) (w:World):(execOp (IU (.pointer (some a)) b1 b2 b3 l k).eval (xQ (IU (.pointer (some a)) b1 b2 b3 l k))).run QQ w=(Sem.load .plain a λv=>.pure (.value v)).run QQ w:=by rcases hk with rfl|rfl<;>kernel_rfl
end
section
variable (a:Addr) (v:Value) (b1 b2 b3:Value) (l:List Value) (k:CallKind)
def OG:Frame:=(IU (.pointer (some a)) b1 b2 b3 l k).finish v
def A8 (t1 t2:Bool):Frame:=((OG a v b1 b2 b3 l k).finish (.bool t1)).finish (.bool t2)
def OE:Frame:=aR QQ 4 (A8 a v b1 b2 b3 l k true true) [] []
def Gi:Frame:=aR QQ 3 (OE a v b1 b2 b3 l k) [] []
variable (hk:k=.normal\/k=.deferred)
include hk
theorem qlB:RU QQ (IU (.pointer (some a)) b1 b2 b3 l k) [] [.val v]=some (OG a v b1 b2 b3 l k,[],[],[.ld .plain a v]):=by rcases hk with rfl|rfl<;>kernel_rfl
theorem aNh:Bn (OG a v b1 b2 b3 l k)=true:=by rcases hk with rfl|rfl<;>kernel_rfl
theorem aNg (w:World):(execOp (OG a v b1 b2 b3 l k).eval (xQ (OG a v b1 b2 b3 l k))).run QQ w=(binOp .lss 21 v (.int .i32 (1)) >>= λv=>pure (.value v)).run QQ w:=by rcases hk with rfl|rfl<;>cases v<;>kernel_rfl
theorem qlC (n:Int):walk QQ 2 (OG a (.int .i32 n) b1 b2 b3 l k) [] []=some (A8 a (.int .i32 n) b1 b2 b3 l k (decide (n<1)) (decide (-1<n)),[],[],[(38,[]),(38,[])]):=by rcases hk with rfl|rfl<;>kernel_rfl
theorem aNf (t2:Bool):walk QQ 2 (A8 a v b1 b2 b3 l k false t2) [] []=some (aR QQ 2 (A8 a v b1 b2 b3 l k false t2) [] [],[],[],[(38,[]),(38,[])]):=by rcases hk with rfl|rfl<;>cases t2<;>kernel_rfl
theorem aNe (t2:Bool):(aR QQ 2 (A8 a v b1 b2 b3 l k false t2) [] []).mode=.run/\(aR QQ 2 (A8 a v b1 b2 b3 l k false t2) [] []).todo=[.code (.refuse "")]:=by rcases hk with rfl|rfl<;>cases t2<;>exact ⟨k12,k12⟩
theorem aNd:walk QQ 3 (A8 a v b1 b2 b3 l k true false) [] []=some (aR QQ 3 (A8 a v b1 b2 b3 l k true false) [] [],[],[],[(38,[]),(38,[]),(38,[])]):=by rcases hk with rfl|rfl<;>kernel_rfl
theorem aNc:(aR QQ 3 (A8 a v b1 b2 b3 l k true false) [] []).mode=.run/\(aR QQ 3 (A8 a v b1 b2 b3 l k true false) [] []).todo=[.code (.refuse "")]:=by rcases hk with rfl|rfl<;>exact ⟨k12,k12⟩
theorem qlE:walk QQ 4 (A8 a v b1 b2 b3 l k true true) [] []=some (OE a v b1 b2 b3 l k,[],[],[(38,[]),(38,[]),(38,[]),(38,[])]):=by rcases hk with rfl|rfl<;>kernel_rfl
theorem aNb:Bn (OE a v b1 b2 b3 l k)=true:=by rcases hk with rfl|rfl<;>kernel_rfl
theorem aNa (w:World):(execOp (OE a v b1 b2 b3 l k).eval (xQ (OE a v b1 b2 b3 l k))).run QQ w=(Sem.store .plain a (.int .i32 1) (.pure .skip)).run QQ w:=by rcases hk with rfl|rfl<;>kernel_rfl
theorem qlF:walk QQ 3 (OE a v b1 b2 b3 l k) [] []=some (Gi a v b1 b2 b3 l k,[],[],[(38,[.st .plain a (.int .i32 1)]),(38,[]),(38,[])]):=by rcases hk with rfl|rfl<;>kernel_rfl
theorem qlG:(Gi a v b1 b2 b3 l k).mode=.returning/\(Gi a v b1 b2 b3 l k).defers=[]/\(Gi a v b1 b2 b3 l k).kind=k/\(Gi a v b1 b2 b3 l k).fn=38:=by rcases hk with rfl|rfl<;>exact ⟨k12,k12,k12,k12⟩
end
section
theorem X8:QQ.funcs[(39:Nat)]? =some jM:=by
 have e:∃fn,Tryz.prog.funcs[(39:Nat)]? =some fn:=⟨Tryz.f39,k12⟩
 have h:uE[(39:Nat)]? =some jM:=by rw [lN];obtain ⟨fn,e⟩:=e;rw [e];exact congrArg some (by unfold qi;rw [show keep 39=false by decide];rfl)
 exact (xV Tryz.prog uE 39).trans h
theorem aJh:((Tryz.prog.funcs[(39:Nat)]?).map (·.ntmps)).getD 0=6:=k12
variable (x:Value) (b1 b2 b3:Value) (l:List Value) (k:CallKind)
def aB0:Frame:={fn:=39,tmps:=⟨x::b1::b2::b3::l⟩,todo:=[.code mf],defers:=[],mode:=.run,kind:=k}
theorem Ue (args:Array Value):∃b1 b2 b3 l,Frame.enter QQ 39 args k=aB0 (args.getD 0 undef) b1 b2 b3 l k:=by obtain ⟨b1,b2,b3,l,e⟩:=aDA args;refine ⟨b1,b2,b3,l,?_⟩;unfold Frame.enter aB0;rw [X8,<-e];rfl
theorem Gg (args:Array Value):∃b1 b2 b3 b4 b5 l,Frame.enter Tryz.prog 39 args k=tZ Tryz.prog 39 (args.getD 0 undef::b1::b2::b3::b4::b5::l) k:=by obtain ⟨b1,b2,b3,b4,b5,l,e⟩:=aDz args;refine ⟨b1,b2,b3,b4,b5,l,?_⟩;unfold Frame.enter tZ;simp only [aJh,<-e]
def IQ:Frame:=aR QQ 2 (aB0 x b1 b2 b3 l k) [] []
variable (hk:k=.normal\/k=.deferred)
include hk
theorem quA:walk QQ 2 (aB0 x b1 b2 b3 l k) [] []=some (IQ x b1 b2 b3 l k,[],[],[(39,[]),(39,[])]):=by rcases hk with rfl|rfl<;>kernel_rfl
theorem aJi:Bn (IQ x b1 b2 b3 l k)=true:=by rcases hk with rfl|rfl<;>kernel_rfl
theorem aM8 (hx:∀a,x≠.pointer (some a)) (w:World):(execOp (IQ x b1 b2 b3 l k).eval (xQ (IQ x b1 b2 b3 l k))).run QQ w=.halt (.stuck "an address expected (no nilCheck in front?)") w:=by
 rcases hk with rfl|rfl<;>(cases x with
  |pointer p=>cases p with
   |none=>kernel_rfl
   |some a=>exact absurd rfl (hx a)
  |_=>kernel_rfl)
omit x in
theorem aM7 (a:Addr) (w:World):(execOp (IQ (.pointer (some a)) b1 b2 b3 l k).eval (xQ (IQ (.pointer (some a)) b1 b2 b3 l k))).run QQ w=(Sem.load .plain a λv=>.pure (.value v)).run QQ w:=by rcases hk with rfl|rfl<;>kernel_rfl
end
section
variable (a:Addr) (v:Value) (b1 b2 b3:Value) (l:List Value) (k:CallKind)
def OD:Frame:=(IQ (.pointer (some a)) b1 b2 b3 l k).finish v
def A7 (t1 t2:Bool):Frame:=((OD a v b1 b2 b3 l k).finish (.bool t1)).finish (.bool t2)
def OC:Frame:=aR QQ 4 (A7 a v b1 b2 b3 l k true true) [] []
def Gf:Frame:=aR QQ 3 (OC a v b1 b2 b3 l k) [] []
variable (hk:k=.normal\/k=.deferred)
include hk
theorem quB:RU QQ (IQ (.pointer (some a)) b1 b2 b3 l k) [] [.val v]=some (OD a v b1 b2 b3 l k,[],[],[.ld .plain a v]):=by rcases hk with rfl|rfl<;>kernel_rfl
theorem aM6:Bn (OD a v b1 b2 b3 l k)=true:=by rcases hk with rfl|rfl<;>kernel_rfl
theorem aM5 (w:World):(execOp (OD a v b1 b2 b3 l k).eval (xQ (OD a v b1 b2 b3 l k))).run QQ w=(binOp .lss 21 v (.int .i32 (2)) >>= λv=>pure (.value v)).run QQ w:=by rcases hk with rfl|rfl<;>cases v<;>kernel_rfl
theorem quC (n:Int):walk QQ 2 (OD a (.int .i32 n) b1 b2 b3 l k) [] []=some (A7 a (.int .i32 n) b1 b2 b3 l k (decide (n<2)) (decide (0<n)),[],[],[(39,[]),(39,[])]):=by rcases hk with rfl|rfl<;>kernel_rfl
theorem aM4 (t2:Bool):walk QQ 2 (A7 a v b1 b2 b3 l k false t2) [] []=some (aR QQ 2 (A7 a v b1 b2 b3 l k false t2) [] [],[],[],[(39,[]),(39,[])]):=by rcases hk with rfl|rfl<;>cases t2<;>kernel_rfl
theorem aM3 (t2:Bool):(aR QQ 2 (A7 a v b1 b2 b3 l k false t2) [] []).mode=.run/\(aR QQ 2 (A7 a v b1 b2 b3 l k false t2) [] []).todo=[.code (.refuse "")]:=by rcases hk with rfl|rfl<;>cases t2<;>exact ⟨k12,k12⟩
theorem aM2:walk QQ 3 (A7 a v b1 b2 b3 l k true false) [] []=some (aR QQ 3 (A7 a v b1 b2 b3 l k true false) [] [],[],[],[(39,[]),(39,[]),(39,[])]):=by rcases hk with rfl|rfl<;>kernel_rfl
theorem aM1:(aR QQ 3 (A7 a v b1 b2 b3 l k true false) [] []).mode=.run/\(aR QQ 3 (A7 a v b1 b2 b3 l k true false) [] []).todo=[.code (.refuse "")]:=by rcases hk with rfl|rfl<;>exact ⟨k12,k12⟩
theorem quE:walk QQ 4 (A7 a v b1 b2 b3 l k true true) [] []=some (OC a v b1 b2 b3 l k,[],[],[(39,[]),(39,[]),(39,[]),(39,[])]):=by rcases hk with rfl|rfl<;>kernel_rfl
theorem aM0:Bn (OC a v b1 b2 b3 l k)=true:=by rcases hk with rfl|rfl<;>kernel_rfl
theorem aMZ (w:World):(execOp (OC a v b1 b2 b3 l k).eval (xQ (OC a v b1 b2 b3 l k))).run QQ w=(Sem.store .plain a (.int .i32 0) (.pure .skip)).run QQ w:=by rcases hk with rfl|rfl<;>kernel_rfl
theorem quF:walk QQ 3 (OC a v b1 b2 b3 l k) [] []=some (Gf a v b1 b2 b3 l k,[],[],[(39,[.st .plain a (.int .i32 0)]),(39,[]),(39,[])]):=by rcases hk with rfl|rfl<;>kernel_rfl
theorem quG:(Gf a v b1 b2 b3 l k).mode=.returning/\(Gf a v b1 b2 b3 l k).defers=[]/\(Gf a v b1 b2 b3 l k).kind=k/\(Gf a v b1 b2 b3 l k).fn=39:=by rcases hk with rfl|rfl<;>exact ⟨k12,k12,k12,k12⟩
end
end Ka
namespace Ka
open Ky
def LW (P:Program) (n:Nat) (fr:Frame) (w:World) (fr':Frame) (w':World):Prop:=
 ∀L,runN P n (lone fr L w)=.next (lone fr' L w')/\∀i,i<=n->∃Bj l1 w1,runN P i (lone fr L w)=.next (lone Bj (l1++L) w1)
theorem LW.trans {P:Program} {n m:Nat} {fr fr' wm:Frame} {w w' w'':World} (h:LW P n fr w fr' w') (k:LW P m fr' w' wm w''):LW P (n+m) fr w wm w'':=λL=>by
 refine ⟨by rw [runN_add,(h L).1];exact (k L).1,λi hi=>?_⟩;by_cases Bf:i<=n
 ·exact (h L).2 i Bf
 ·obtain ⟨j,rfl⟩:∃j,i=n+j:=⟨i - n,by omega⟩
  obtain ⟨f1,l1,w1,e⟩:=(k L).2 j (by omega);exact ⟨f1,l1,w1,by rw [runN_add,(h L).1];exact e⟩
theorem LW.walk {P:Program} {n:Nat} {fr fr':Frame} {an nM:List An} {jX:List (FuncId×List Io)} {w w':World} (h:walk P n fr [] an=some (fr',[],nM,jX)) (hb:p8 (thin jX) w w'):LW P n fr w fr' w':=
 λL=>Gw n h (oM hb) L
theorem LW.one {P:Program} {fr fr':Frame} {an nM:List An} {io:List Io} {w w':World} (h:RU P fr [] an=some (fr',[],nM,io)) (hb:jg io w w'):LW P 1 fr w fr' w':=λL=>by
 have hs:=og (gK h true L w w' hb);refine ⟨by simp only [runN];rw [show lone fr L w=lone fr ([]++L) w from rfl,hs];rfl,λi hi=>?_⟩;cases i with
 |zero=>exact ⟨fr,[],w,rfl⟩
 |succ i=>cases i with
  |zero=>exact ⟨fr',[],w',by simp only [runN];rw [show lone fr L w=lone fr ([]++L) w from rfl,hs]⟩
  |succ i=>omega
theorem LW.to {P:Program} {n m:Nat} {fr fr' wm:Frame} {w w' w'':World} (h:LW P n fr w fr' w') {an nM:List An} {jX:List (FuncId×List Io)} (k:Ky.walk P m fr' [] an=some (wm,[],nM,jX)) (hb:p8 (thin jX) w' w'') (N:Nat) (hN:n+m=N):LW P N fr w wm w'':=hN▸h.trans (LW.walk k hb)
theorem LW.to1 {P:Program} {n:Nat} {fr fr' wm:Frame} {w w' w'':World} (h:LW P n fr w fr' w') {an nM:List An} {io:List Io} (k:RU P fr' [] an=some (wm,[],nM,io)) (hb:jg io w' w''):LW P (n+1) fr w wm w'':=h.trans (LW.one k hb)
theorem fP {P:Program} {fs:Array Func} {f:FuncId} {args:Array Value} {wv:World} (n:Nat) (h:∀k,(k=.normal\/k=.deferred)->∀τ d,∃fr' w',LW (Pf P fs) n (Frame.enter (Pf P fs) f args k) (re wv τ d) fr' w'/\∀L,∃o w'',step (Pf P fs) (lone fr' L w')=.ended o w''):EA P fs f args wv:=
 TF n λk hk τ d=>by
  obtain ⟨fr',w',h1,h2⟩:=h k hk τ d;exact ⟨fr',w',h1,h2⟩
theorem ou {fr:Frame} {w w1:World} {h:Halt} (iX:Bn fr=true) (ha:(execOp fr.eval (xQ fr)).run QQ w=.halt h w1) (hh:(∃x,h=.stuck x)\/∃x,h=.unsupported x) (l:List Frame):∃o w',step QQ (lone fr l w)=.ended o w':=
 let ⟨h1,h2,h3,h4,h5,h6⟩:=RQ iX
 Uk h1 h2 h3 h4 h5 h6 ha hh Ya X9 l
theorem Lt {v:Value} (hv:∀n,v≠.int .i32 n) (h:Int) (w:World):∃e w',(binOp .lss 21 v (.int .i32 h) >>= λv=>pure (.value v):Sem Next).run QQ w=.halt e w'/\((∃x,e=.stuck x)\/∃x,e=.unsupported x):=by
 cases v with
 |int k n=>have hk:k≠.i32:=λe=>hv n (by rw [e]);exact ⟨.stuck "BinOp: operands of different kinds",w,by unfold binOp;simp only [ne_eq,hk,not_false_eq_true,if_true];rfl,.inl ⟨_,rfl⟩⟩
 |pointer p=>exact ⟨.unsupported .addressObserved,w,by cases p<;>rfl,.inr ⟨_,rfl⟩⟩
 |_=>exact ⟨_,w,rfl,.inl ⟨_,rfl⟩⟩
section
variable {C:Cut}
theorem aJj (tmps:Array Value):results qm tmps=pure (.tuple #[]):=k12
theorem aM9 {args:Array Value} {wv wa:World} (hv:Vw C wv wa):(∃v wv',Ql Tryz.prog uE C 38 args wv v wv')\/EA Tryz.prog uE 38 args wv:=by
 have start:∀k,(k=.normal\/k=.deferred)->∀τ d,∃b1 b2 b3 l,LW QQ 2 (Frame.enter QQ 38 args k) (re wv τ d) (IU (args.getD 0 undef) b1 b2 b3 l k) (re wv τ d):=λk hk τ d=>by
  obtain ⟨b1,b2,b3,l,e⟩:=Uf k args;exact ⟨b1,b2,b3,l,by rw [e];exact LW.walk (qlA _ b1 b2 b3 l k hk) rfl⟩
 by_cases hx:∃a,args.getD 0 undef=.pointer (some a)
 case neg=>
  refine .inr (fP 2 λk hk τ d=>?_);obtain ⟨b1,b2,b3,l,h⟩:=start k hk τ d;exact ⟨_,_,h,λL=>ou (aJl _ b1 b2 b3 l k hk) (aNj _ b1 b2 b3 l k hk (λa e=>hx ⟨a,e⟩) _) (.inl ⟨_,rfl⟩) L⟩
 obtain ⟨a,hx⟩:=hx;rw [hx] at start;cases hc:wv.cell? a with
 |none=>refine .inr (fP 2 λk hk τ d=>?_);obtain ⟨b1,b2,b3,l,h⟩:=start k hk τ d;obtain ⟨e,h1,_,h2⟩:=j6 (p:=QQ) hv a false τ d;refine ⟨_,_,h,λL=>ou (w1:=re wv τ d) (h:=e) (aJl _ b1 b2 b3 l k hk) ?_ h2 L⟩;rw [aNi b1 b2 b3 l k hk];have BI:(re wv τ d).cell? a=none:=hc;simp only [Sem.run,BI];have:(Mode.plain==Mode.atomic)=false:=rfl;rw [this,h1]
 |some v=>
  have ld:∀k,(k=.normal\/k=.deferred)->∀τ d,∃b1 b2 b3 l,LW QQ 3 (Frame.enter QQ 38 args k) (re wv τ d) (OG a v b1 b2 b3 l k) (re wv τ d):=λk hk τ d=>by
   obtain ⟨b1,b2,b3,l,h⟩:=start k hk τ d;exact ⟨b1,b2,b3,l,h.to1 (qlB a v b1 b2 b3 l k hk) (w'':=re wv τ d) ⟨hc,rfl⟩⟩
  by_cases hn:∃n,v=.int .i32 n
  case neg=>
   refine .inr (fP 3 λk hk τ d=>?_);obtain ⟨b1,b2,b3,l,h⟩:=ld k hk τ d;obtain ⟨e,w',h1,h2⟩:=Lt (v:=v) (λn e=>hn ⟨n,e⟩) 1 (re wv τ d);exact ⟨_,_,h,λL=>ou (aNh a v b1 b2 b3 l k hk) ((aNg a v b1 b2 b3 l k hk _).trans h1) h2 L⟩
  obtain ⟨n,rfl⟩:=hn;have cm:∀k,(k=.normal\/k=.deferred)->∀τ d,∃b1 b2 b3 l,LW QQ 5 (Frame.enter QQ 38 args k) (re wv τ d) (A8 a (.int .i32 n) b1 b2 b3 l k (decide (n<1)) (decide (-1<n))) (re wv τ d):=λk hk τ d=>by
   obtain ⟨b1,b2,b3,l,h⟩:=ld k hk τ d;exact ⟨b1,b2,b3,l,h.to (qlC a b1 b2 b3 l k hk n) rfl 5 rfl⟩
  by_cases h1:n<1
  case neg=>
   rw [decide_eq_false h1] at cm;refine .inr (fP 7 λk hk τ d=>?_);obtain ⟨b1,b2,b3,l,h⟩:=cm k hk τ d;obtain ⟨m1,m2⟩:=aNe a (.int .i32 n) b1 b2 b3 l k hk (decide (-1<n));exact ⟨_,_,h.to (aNf a (.int .i32 n) b1 b2 b3 l k hk _) rfl 7 rfl,λL=>nY m1 m2 _ L⟩
  rw [decide_eq_true h1] at cm;by_cases h2:-1<n
  case neg=>
   rw [decide_eq_false h2] at cm;refine .inr (fP 8 λk hk τ d=>?_);obtain ⟨b1,b2,b3,l,h⟩:=cm k hk τ d;obtain ⟨m1,m2⟩:=aNc a (.int .i32 n) b1 b2 b3 l k hk;exact ⟨_,_,h.to (aNd a (.int .i32 n) b1 b2 b3 l k hk) rfl 8 rfl,λL=>nY m1 m2 _ L⟩
  rw [decide_eq_true h2] at cm;obtain rfl:n=0:=by omega
  have at9:∀k,(k=.normal\/k=.deferred)->∀τ d,∃b1 b2 b3 l,LW QQ 9 (Frame.enter QQ 38 args k) (re wv τ d) (OE a (.int .i32 0) b1 b2 b3 l k) (re wv τ d):=λk hk τ d=>by
   obtain ⟨b1,b2,b3,l,h⟩:=cm k hk τ d;exact ⟨b1,b2,b3,l,h.to (qlE a (.int .i32 0) b1 b2 b3 l k hk) rfl 9 rfl⟩
  by_cases hf:wv.frozen? a=true
  ·refine .inr (fP 9 λk hk τ d=>?_);obtain ⟨b1,b2,b3,l,h⟩:=at9 k hk τ d;refine ⟨_,_,h,λL=>ou (w1:=re wv τ d) (h:=.unsupported (.unsafePointer "a write to bytes that a string shares")) (aNb a (.int .i32 0) b1 b2 b3 l k hk) ?_ (.inr ⟨_,rfl⟩) L⟩;rw [aNa a (.int .i32 0) b1 b2 b3 l k hk];have BI:(re wv τ d).cell? a=some (.int .i32 0):=hc;have NM:(re wv τ d).frozen? a=true:=hf;simp only [Sem.run,BI,NM,if_true]
  ·have hf0:wv.frozen? a=false:=by simpa using hf
   refine .inl ⟨.tuple #[],wv.setCell a (.int .i32 1),⟨12,λk fr l' τ d hk hm hl=>?_⟩,λmain cs Stop k fr csl hk aH hs=>?_⟩
   ·obtain ⟨b1,b2,b3,l,h⟩:=at9 k hk τ d;have PO:LW QQ 12 (Frame.enter QQ 38 args k) (re wv τ d) (Gi a (.int .i32 0) b1 b2 b3 l k) (re (wv.setCell a (.int .i32 1)) τ d):=h.to (qlF a (.int .i32 0) b1 b2 b3 l k hk) (w'':=re (wv.setCell a (.int .i32 1)) τ d) ⟨re (wv.setCell a (.int .i32 1)) τ d,⟨⟨_,hc⟩,hf0,rfl⟩,rfl⟩ 12 rfl;obtain ⟨g1,g2,g3,g4⟩:=qlG a (.int .i32 0) b1 b2 b3 l k hk;refine ⟨?_,λi hi=>?_⟩
    ·refine (zg (PO (fr::l')).1).trans (og (es:=#[]) ?_);exact xN (fn:=qm) g1 g2 g3 hk (by rw [g4];exact Yb) (aJj _) hm true _
    ·obtain ⟨Bj,l1,w1,e⟩:=(PO (fr::l')).2 i hi;refine ⟨Bj,_,w1,e,?_⟩;cases l' with
     |nil=>exact absurd rfl hl
     |cons x l=>simp;omega
   ·obtain ⟨c1,c2,c3,c4,c5,l,e⟩:=Gj k args;rw [e,hx];exact KR hk aH.mode hv hc hf0 hs
theorem aJg (tmps:Array Value):results jM tmps=pure (.tuple #[]):=k12
theorem aMY {args:Array Value} {wv wa:World} (hv:Vw C wv wa):(∃v wv',Ql Tryz.prog uE C 39 args wv v wv')\/EA Tryz.prog uE 39 args wv:=by
 have start:∀k,(k=.normal\/k=.deferred)->∀τ d,∃b1 b2 b3 l,LW QQ 2 (Frame.enter QQ 39 args k) (re wv τ d) (IQ (args.getD 0 undef) b1 b2 b3 l k) (re wv τ d):=λk hk τ d=>by
  obtain ⟨b1,b2,b3,l,e⟩:=Ue k args;exact ⟨b1,b2,b3,l,by rw [e];exact LW.walk (quA _ b1 b2 b3 l k hk) rfl⟩
 by_cases hx:∃a,args.getD 0 undef=.pointer (some a)
 case neg=>
  refine .inr (fP 2 λk hk τ d=>?_);obtain ⟨b1,b2,b3,l,h⟩:=start k hk τ d;exact ⟨_,_,h,λL=>ou (aJi _ b1 b2 b3 l k hk) (aM8 _ b1 b2 b3 l k hk (λa e=>hx ⟨a,e⟩) _) (.inl ⟨_,rfl⟩) L⟩
 obtain ⟨a,hx⟩:=hx;rw [hx] at start;cases hc:wv.cell? a with
 |none=>refine .inr (fP 2 λk hk τ d=>?_);obtain ⟨b1,b2,b3,l,h⟩:=start k hk τ d;obtain ⟨e,h1,_,h2⟩:=j6 (p:=QQ) hv a false τ d;refine ⟨_,_,h,λL=>ou (w1:=re wv τ d) (h:=e) (aJi _ b1 b2 b3 l k hk) ?_ h2 L⟩;rw [aM7 b1 b2 b3 l k hk];have BI:(re wv τ d).cell? a=none:=hc;simp only [Sem.run,BI];have:(Mode.plain==Mode.atomic)=false:=rfl;rw [this,h1]
 |some v=>
  have ld:∀k,(k=.normal\/k=.deferred)->∀τ d,∃b1 b2 b3 l,LW QQ 3 (Frame.enter QQ 39 args k) (re wv τ d) (OD a v b1 b2 b3 l k) (re wv τ d):=λk hk τ d=>by
   obtain ⟨b1,b2,b3,l,h⟩:=start k hk τ d;exact ⟨b1,b2,b3,l,h.to1 (quB a v b1 b2 b3 l k hk) (w'':=re wv τ d) ⟨hc,rfl⟩⟩
  by_cases hn:∃n,v=.int .i32 n
  case neg=>
   refine .inr (fP 3 λk hk τ d=>?_);obtain ⟨b1,b2,b3,l,h⟩:=ld k hk τ d;obtain ⟨e,w',h1,h2⟩:=Lt (v:=v) (λn e=>hn ⟨n,e⟩) 2 (re wv τ d);exact ⟨_,_,h,λL=>ou (aM6 a v b1 b2 b3 l k hk) ((aM5 a v b1 b2 b3 l k hk _).trans h1) h2 L⟩
  obtain ⟨n,rfl⟩:=hn;have cm:∀k,(k=.normal\/k=.deferred)->∀τ d,∃b1 b2 b3 l,LW QQ 5 (Frame.enter QQ 39 args k) (re wv τ d) (A7 a (.int .i32 n) b1 b2 b3 l k (decide (n<2)) (decide (0<n))) (re wv τ d):=λk hk τ d=>by
   obtain ⟨b1,b2,b3,l,h⟩:=ld k hk τ d;exact ⟨b1,b2,b3,l,h.to (quC a b1 b2 b3 l k hk n) rfl 5 rfl⟩
  by_cases h1:n<2
  case neg=>
   rw [decide_eq_false h1] at cm;refine .inr (fP 7 λk hk τ d=>?_);obtain ⟨b1,b2,b3,l,h⟩:=cm k hk τ d;obtain ⟨m1,m2⟩:=aM3 a (.int .i32 n) b1 b2 b3 l k hk (decide (0<n));exact ⟨_,_,h.to (aM4 a (.int .i32 n) b1 b2 b3 l k hk _) rfl 7 rfl,λL=>nY m1 m2 _ L⟩
  rw [decide_eq_true h1] at cm;by_cases h2:0<n
  case neg=>
   rw [decide_eq_false h2] at cm;refine .inr (fP 8 λk hk τ d=>?_);obtain ⟨b1,b2,b3,l,h⟩:=cm k hk τ d;obtain ⟨m1,m2⟩:=aM1 a (.int .i32 n) b1 b2 b3 l k hk;exact ⟨_,_,h.to (aM2 a (.int .i32 n) b1 b2 b3 l k hk) rfl 8 rfl,λL=>nY m1 m2 _ L⟩
  rw [decide_eq_true h2] at cm;obtain rfl:n=1:=by omega
  have at9:∀k,(k=.normal\/k=.deferred)->∀τ d,∃b1 b2 b3 l,LW QQ 9 (Frame.enter QQ 39 args k) (re wv τ d) (OC a (.int .i32 1) b1 b2 b3 l k) (re wv τ d):=λk hk τ d=>by
   obtain ⟨b1,b2,b3,l,h⟩:=cm k hk τ d;exact ⟨b1,b2,b3,l,h.to (quE a (.int .i32 1) b1 b2 b3 l k hk) rfl 9 rfl⟩
  by_cases hf:wv.frozen? a=true
  ·refine .inr (fP 9 λk hk τ d=>?_);obtain ⟨b1,b2,b3,l,h⟩:=at9 k hk τ d;refine ⟨_,_,h,λL=>ou (w1:=re wv τ d) (h:=.unsupported (.unsafePointer "a write to bytes that a string shares")) (aM0 a (.int .i32 1) b1 b2 b3 l k hk) ?_ (.inr ⟨_,rfl⟩) L⟩;rw [aMZ a (.int .i32 1) b1 b2 b3 l k hk];have BI:(re wv τ d).cell? a=some (.int .i32 1):=hc;have NM:(re wv τ d).frozen? a=true:=hf;simp only [Sem.run,BI,NM,if_true]
  ·have hf0:wv.frozen? a=false:=by simpa using hf
   refine .inl ⟨.tuple #[],wv.setCell a (.int .i32 0),⟨12,λk fr l' τ d hk hm hl=>?_⟩,λmain cs Stop k fr csl hk aH hs=>?_⟩
   ·obtain ⟨b1,b2,b3,l,h⟩:=at9 k hk τ d;have PO:LW QQ 12 (Frame.enter QQ 39 args k) (re wv τ d) (Gf a (.int .i32 1) b1 b2 b3 l k) (re (wv.setCell a (.int .i32 0)) τ d):=h.to (quF a (.int .i32 1) b1 b2 b3 l k hk) (w'':=re (wv.setCell a (.int .i32 0)) τ d) ⟨re (wv.setCell a (.int .i32 0)) τ d,⟨⟨_,hc⟩,hf0,rfl⟩,rfl⟩ 12 rfl;obtain ⟨g1,g2,g3,g4⟩:=quG a (.int .i32 1) b1 b2 b3 l k hk;refine ⟨?_,λi hi=>?_⟩
    ·refine (zg (PO (fr::l')).1).trans (og (es:=#[]) ?_);exact xN (fn:=jM) g1 g2 g3 hk (by rw [g4];exact X8) (aJg _) hm true _
    ·obtain ⟨Bj,l1,w1,e⟩:=(PO (fr::l')).2 i hi;refine ⟨Bj,_,w1,e,?_⟩;cases l' with
     |nil=>exact absurd rfl hl
     |cons x l=>simp;omega
   ·obtain ⟨c1,c2,c3,c4,c5,l,e⟩:=Gg k args;rw [e,hx];exact CZ hk aH.mode hv hc hf0 hs
theorem aE7:Qk Tryz.prog uE Spq C:=λf hf args wv wa hv=>by
 rcases hf with rfl|rfl
 ·exact aM9 hv
 ·exact aMY hv
end
end Ka
end
end Go.Proofs.YtmanpggemmgnnaaGreatDoor
