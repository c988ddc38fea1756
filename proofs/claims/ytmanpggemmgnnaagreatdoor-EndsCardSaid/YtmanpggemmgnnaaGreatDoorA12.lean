/- Ends: a part. Conditions: none. -/
import Derived.Test.YtmanpggemmgnnaaGreatDoorA07
import Derived.Test.YtmanpggemmgnnaaGreatDoorA11
set_option linter.all false
set_option maxHeartbeats 8000000
set_option maxRecDepth 1000000
namespace Go.Proofs.YtmanpggemmgnnaaGreatDoor
noncomputable section
open Go Go.Conc Tryz
def xv{p:Prop}(h:p:=by kernel_rfl):p:=h
namespace Ky
def aAv{α β} P:∀s (f:α->Sem β) an,ask P (s.bind f) an=(ask P s an).bind λx=>(ask P (f x.1) x.2.1).map λy=>(y.1,y.2.1,x.2.2++y.2.2):=λs f=>by
 have nest:∀(o:Option (α×List An×List Io)) (i:Io),(o.bind λx=>(ask P (f x.1) x.2.1).map λy=>(y.1,y.2.1,x.2.2++y.2.2)).map (λ(x,r,io)=>(x,r,i::io))=(o.map λ(x,r,io)=>(x,r,i::io)).bind λx=>(ask P (f x.1) x.2.1).map λy=>(y.1,y.2.1,x.2.2++y.2.2):=λo i=>by
  cases o with
  |none=>rfl
  |some x=>simp only[iw,fR];cases ask P (f x.1) x.2.1<;>rfl
 induction s with
 |pure a=>intro an;simp only[Sem.bind,ask,iw];cases ask P (f a) an<;>rfl
 |load m a k ih=>intro an;cases an with
  |nil=>rfl
  |cons q an=>cases q<;>first|rfl|(simp only[Sem.bind,ask,ih,nest])
 |store m a v k ih=>intro an;simp only[Sem.bind,ask];split<;>first|rfl|simp only[ih,nest]
 |mark m k ih=>intro an;simp only[Sem.bind,ask,ih,nest]
 |program k ih=>intro an;simp only[Sem.bind,ask,ih]
 |shape b k ih=>intro an;cases an with
  |nil=>rfl
  |cons q an=>cases q<;>first|rfl|(simp only[Sem.bind,ask,ih,nest])
 |frozen b k ih=>intro an;cases an with
  |nil=>rfl
  |cons q an=>cases q<;>first|rfl|(simp only[Sem.bind,ask,ih,nest])
 |getObj b k ih=>intro an;cases an with
  |nil=>rfl
  |cons q an=>cases q<;>first|rfl|(simp only[Sem.bind,ask];split<;>first|rfl|simp only[ih,nest])
 |setObj b o k ih=>intro an;simp only[Sem.bind,ask,ih,nest]
 |new o k ih=>intro an;cases an with
  |nil=>rfl
  |cons q an=>cases q<;>first|rfl|(simp only[Sem.bind,ask,ih,nest])
 |_=>intro an;simp[Sem.bind,ask]
def JJ{α β} P s(f:α->Sem β)an:ask P (s >>= f) an=(ask P s an).bind λx=>(ask P (f x.1) x.2.1).map λy=>(y.1,y.2.1,x.2.2++y.2.2):=aAv P s f an
def VB{k ops i o P an nM io v fr cs is}(Y:fr.roundOf=none)(he:(fr.kind==.early)=false)(hm:fr.mode=.run)(ht:fr.todo=.inRegion ops (i::is)::k)
 (hw:((ops[i]?).map (Region.wanted · (yielded ops fr.tmps))).getD false=true) (ho:ops[i]? =some o) (ha:ask P (execOp fr.eval o) an=some (.value v,nM,io)):RU P fr cs an=some (fr.finish v,cs,nM,io):=by
 rw[ho]at hw;unfold RU;rw[Y,he];simp only[ix,n6,bh,cz,hm,ht,ho,hw,j2,ha]
def aR(P:Program)(n:Nat)(fr:Frame)(cs:List Frame)(an:List An):Frame:=match walk P n fr cs an with
 |some (f,_)=>f
 |none=>fr
def bu(P:Program)(n:Nat)(fr:Frame)(cs:List Frame)(an:List An):List Frame:=match walk P n fr cs an with
 |some (_,c,_)=>c
 |none=>cs
def aFi(P:Program)(n:Nat)(fr:Frame)(cs:List Frame)(an:List An):List An:=match walk P n fr cs an with
 |some (_,_,a,_)=>a
 |none=>[]
def bM(P:Program)(n:Nat)(fr:Frame)(cs:List Frame)(an:List An):List (FuncId×List Io):=match walk P n fr cs an with
 |some (_,_,_,i)=>i
 |none=>[]
def thin:List (FuncId×List Io)->List (FuncId×List Io)
 |[]=>[]
 |(_,[])::l=>thin l
 |x::l=>x::thin l
def bV{α:Type}:Option α->Bool
 |some _=>true
 |none=>false
def l9{P n fr cs an}(h:bV (walk P n fr cs an)=true):walk P n fr cs an=some (aR P n fr cs an,bu P n fr cs an,aFi P n fr cs an,bM P n fr cs an):=by
 unfold aR bu aFi bM;cases hw:walk P n fr cs an with
 |none=>rw[hw]at h;cases h
 |some r=>rfl
end Ky
namespace Ka
open Ky
section
variable {P:Program}{C:Cut}{cs:List Frame}{main:Bool}{Stop:Frame->World->Prop}
def ma:∀{l:List (FuncId×List Io)} {w U:World} {d d':Nat},nC P C (thin l) w U d d'->nC P C l w U d d'
 |[],_,_,_,_,h=>h
 |(fn,[])::l,w,U,d,d',h=>⟨w,rfl,by
    have e:seen P fn (gV []).toArray=#[]:=rfl;rw[e,deafBehind_still (by simp)];exact ma (l:=l) h⟩
 |(fn,i::io)::l,w,U,d,d',h=>by
  obtain⟨w1,V,J⟩:=h;exact⟨w1,V,ma (l:=l) J⟩
def xI{fr csl an wv wv' d d'} n(h:bV (walk P n fr csl an)=true)(hb:nC P C (thin (bM P n fr csl an)) wv wv' d d')
 (hs:kJ P C main cs Stop (aR P n fr csl an) (bu P n fr csl an) wv' d'):kJ P C main cs Stop fr csl wv d:=
 KP n (l9 h) (ma hb) hs
def wK(C:Cut):List Io->World->World->World->Prop
 |[],w,_,U=>U=w
 | .ld _ a v::l,w,wa,U=>w.cell? a=some v/\wK C l w wa U
 | .st _ a v::l,w,wa,U=>(∃x,w.cell? a=some x)/\w.frozen? a=false/\wK C l (w.setCell a v) (wa.setCell a v) U
 | .mk m::l,w,wa,U=>I9 C m/\wK C l w wa U
 | .sh r x::l,w,wa,U=>wa.shape? r=x/\wK C l w wa U
 | .fz a b::l,w,wa,U=>wa.frozen? a=b/\wK C l w wa U
 |_::_,_,_,_=>False
def aEQ io:∀{wv wv' wa},wK C io wv wa wv'->Vw C wv wa->∃bO,jg io wa bO/\Vw C wv' bO/\Hid C wa bO/\∀e∈gV io,oQ C e\/e.mute=true:=by
 induction io with
 |nil=>intro wv wv' wa h X;cases h;exact⟨wa,rfl,X,Hid.refl C wa,λe he=>by cases he⟩
 |cons i l ih=>
  intro wv wv' wa h X;cases i with
  |ld m a v=>
   obtain⟨L,h⟩:=h;obtain⟨bO,V,J,h3,h4⟩:=ih h X;obtain⟨e1,e2,e3⟩:=X.cell L;refine⟨bO,⟨e1,V⟩,J,h3,λe he=>?_⟩;rcases bm.1 he with rfl|he
   ·exact .inl ⟨e2,λn Q=>⟨(e3 n Q).1,(e3 n Q).2,λx=>by cases x⟩⟩
   ·exact h4 e he
  |st m a v=>
   obtain⟨⟨x,E⟩,hf,h⟩:=h;obtain⟨e1,e2,e3⟩:=X.cell E;obtain⟨f1,f2⟩:=uB X E hf;obtain⟨bO,V,J,h3,h4⟩:=ih h (X.setCell E);refine⟨bO,⟨⟨x,e1⟩,f1,V⟩,J,(Hid.setCell X E f2).trans h3,λe he=>?_⟩;rcases bm.1 he with rfl|he
   ·exact .inl ⟨e2,λn Q=>⟨(e3 n Q).1,(e3 n Q).2,λ_=>f2 n Q⟩⟩
   ·exact h4 e he
  |mk m=>
   obtain⟨hm,h⟩:=h;obtain⟨bO,V,J,h3,h4⟩:=ih h X;refine⟨bO,V,J,h3,λe he=>?_⟩;rcases bm.1 he with rfl|he
   ·cases m<;>first|exact .inr rfl|exact .inl trivial|exact .inl hm|exact hm.elim
   ·exact h4 e he
  |sh r x=>obtain⟨E,h⟩:=h;obtain⟨bO,V,J,h3,h4⟩:=ih h X;exact⟨bO,⟨E,V⟩,J,h3,h4⟩
  |fz a b=>obtain⟨E,h⟩:=h;obtain⟨bO,V,J,h3,h4⟩:=ih h X;exact⟨bO,⟨E,V⟩,J,h3,h4⟩
  |_=>exact h.elim
def II{wv fr csl fr' csl' wv' d d'}(h:∀wa,Vw C wv wa->∃an nM io,RU P fr csl an=some (fr',csl',nM,io)/\wK C io wv wa wv'/\deafBehind d (seen P fr.fn (gV io).toArray)=d')
 (hs:kJ P C main cs Stop fr' csl' wv' d'):kJ P C main cs Stop fr csl wv d:=
 kJ.ofS P C main cs Stop λwa X=>by
  obtain⟨an,nM,io,V,J,h3⟩:=h wa X;obtain⟨bO,g1,g2,g3,g4⟩:=aEQ io J X;exact⟨fr',csl',wv',bO,_,_,gK V main cs wa bO g1,⟨g2,g3,λe he=>g4 e (by simpa using mem_seen he),h3⟩,hs⟩
def xN{k fn v p fr c l}(hm:fr.mode=.returning)(hd:fr.defers=[])(A:fr.kind=k)(CM:k=.normal\/k=.deferred)(hf:p.funcs[fr.fn]? =some fn)(Y:results fn fr.tmps=pure v)(L:jV c.mode)main w:
 stepG p main (G fr (c::l)) w=.go (G (oN k c v) l) w #[]:=by
 have e:stepG p main (G fr (c::l)) w=unwind p main fr (c::l) none w:=by unfold stepG G;simp only[hm]
 rw[e];unfold unwind;simp only[hd,hm,hf,Y];show GStep.after (seen p fr.fn #[]) (doReturn p main fr (c::l) none v w)=_;subst A;rcases CM with A|A
 ·simp only[doReturn,A,oN];rfl
 ·simp only[doReturn,A,oN];cases F0:c.mode with
  |run=>rfl
  |returning=>rfl
  |panicking ch=>
   cases ch with
   |nil=>rfl
   |cons x l=>rw[F0]at L;have E:=L x bj;cases x;simp only at E;subst E;rfl
def QK{k fn v c csl wv d fr}(hm:fr.mode=.returning)(hd:fr.defers=[])(A:fr.kind=k)(CM:k=.normal\/k=.deferred)(hf:P.funcs[fr.fn]? =some fn)(Y:results fn fr.tmps=pure v)(L:jV c.mode)
 (hs:kJ P C main cs Stop (oN k c v) csl wv d):kJ P C main cs Stop fr (c::csl) wv d:=
 QL (λw=>xN (l:=csl++cs) hm hd A CM hf Y L main w) hs
def p8:List (FuncId×List Io)->World->World->Prop
 |[],w,U=>U=w
 |(_,io)::l,w,U=>∃w1,jg io w w1/\p8 l w1 U
def oM:∀{l:List (FuncId×List Io)} {w U:World},p8 (thin l) w U->p8 l w U
 |[],_,_,h=>h
 |(_,[])::l,w,_,h=>⟨w,rfl,oM (l:=l) h⟩
 |(_,_::_)::l,_,_,⟨w1,V,J⟩=>⟨w1,V,oM (l:=l) J⟩
def Gw:∀(n:Nat) {fr fr':Frame} {c c':List Frame} {an nM:List An} {jX:List (FuncId×List Io)} {w U:World},walk P n fr c an=some (fr',c',nM,jX)->p8 jX w U->∀l:List Frame,
 runN P n (lone fr (c++l) w)=.next (lone fr' (c'++l) U)/\∀i,i<=n->∃Bj l1 w1,runN P i (lone fr (c++l) w)=.next (lone Bj (l1++l) w1)
 |0,fr,fr',c,c',an,nM,jX,w,U,h,hb,l=>by
  simp only[walk,cI,dp]at h;obtain⟨rfl,rfl,rfl,rfl⟩:=h;cases hb;exact⟨rfl,λi hi=>⟨fr,c,w,by have e:i=0:=(by omega);subst e;rfl⟩⟩
 |n+1,fr,fr',c,c',an,nM,jX,w,U,h,hb,l=>by
  simp only[walk]at h;split at h
  ·cases h
  ·rename_i Bj cs1 VV io lT;split at h
   ·cases h
   ·rename_i fr2 cs2 as2 Mf hw;cases h;obtain⟨w1,xd,wj⟩:=hb;have hs:=og (gK lT true l w w1 xd);obtain⟨V,J⟩:=Gw n hw wj l;refine⟨by simp only[runN,hs];exact V,λi hi=>?_⟩;cases i with
    |zero=>exact⟨fr,c,w,rfl⟩
    |succ i=>obtain⟨f1,l1,w1',e⟩:=J i (by omega);exact⟨f1,l1,w1',by simp only[runN,hs];exact e⟩
def Uk{k ops i o w h w1 fr is}(Y:fr.roundOf=none)(he:(fr.kind==.early)=false)(hm:fr.mode=.run)(ht:fr.todo=.inRegion ops (i::is)::k)
 (hw:((ops[i]?).map (Region.wanted · (yielded ops fr.tmps))).getD false=true) (ho:ops[i]? =some o)    (ha:(execOp fr.eval o).run P w=.halt h w1) (hh:(∃x,h=.stuck x)\/∃x,h=.unsupported x) (ahead:P.follows .staticDataAhead=true) (steps:∀g,P.stepOf g=none) l:
 ∃o U,step P (lone fr l w)=.ended o U:=by
 have e0:stepG P true (G fr l) w=stepG.apply P true fr l none (execOp fr.eval o) w:=by
  have vh:fr.oper?=some o:=by unfold Frame.oper?;rw[ht];exact ho
  unfold stepG G;simp only[hm];unfold stepG.exec;simp only[ht,hw,j2];unfold stepG.oper;simp only[vh,Y]
 have uv:∃es,(execOp fr.eval o).runT P w #[]=(.halt h w1,es):=by refine⟨((execOp fr.eval o).runT P w #[]).2,?_⟩;have:=Sem.runT_fst P (execOp fr.eval o) w #[];rw[ha]at this;rw[<-this]
 obtain⟨es,uv⟩:=uv;have:∃o U es,stepG P true (G fr l) w=.ended o U es:=by
  rw[e0];unfold stepG.apply;simp only[j2,uv,he,bh,cz];rcases hh with⟨x,rfl⟩|⟨x,rfl⟩
  ·exact⟨_,_,_,rfl⟩
  ·cases x with
   |initOrder g=>unfold early;simp only[ahead,kh,bh,cz,steps];exact⟨_,_,_,rfl⟩
   |_=>exact⟨_,_,_,rfl⟩
 obtain⟨o,U,es,e⟩:=this;exact⟨o,U,mV e⟩
end
def FN n args:n<=(args++Array.replicate (n - args.size) undef).size:=by simp;omega
def FO n(Q:0<n)args:(args++Array.replicate (n - args.size) undef).toList.head?=some (args.getD 0 undef):=by
 obtain⟨l⟩:=args;cases l with
 |nil=>simp[Array.getD];cases n with
  |zero=>omega
  |succ n=>simp[List.replicate]
 |cons x l=>simp[Array.getD]
noncomputable def tZ(P:Program)(f:FuncId)(tmps:List Value)(k:CallKind):Frame:=
 {fn:=f,tmps:=⟨tmps⟩,todo:=[.code (((P.funcs[f]?).bind (·.body)).getD (.refuse "unsupported: a function without a Go body is entered"))],defers:=[],mode:=.run,kind:=k}
section
variable (a:Addr)(a1 a2 a3 a4 a5:Value)(l:List Value)(k:CallKind)(csl:List Frame)
noncomputable def lk0:Frame:=tZ prog 38 (.pointer (some a)::a1::a2::a3::a4::a5::l) k
noncomputable def lk1:Frame:=aR prog 15 (lk0 a a1 a2 a3 a4 a5 l k) csl []
noncomputable def qU:List Frame:=bu prog 15 (lk0 a a1 a2 a3 a4 a5 l k) csl []
noncomputable def lk2:Frame:=aR prog 1 (lk1 a a1 a2 a3 a4 a5 l k csl) (qU a a1 a2 a3 a4 a5 l k csl) [.QM (some (0,0)),.frz false,.val (.int .i32 0)]
noncomputable def lk3:Frame:=aR prog 10 (lk2 a a1 a2 a3 a4 a5 l k csl) (qU a a1 a2 a3 a4 a5 l k csl) []
noncomputable def lk4:Frame:=(lk3 a a1 a2 a3 a4 a5 l k csl).finish (.pointer (some a))
noncomputable def lk5:Frame:=aR prog 6 (lk4 a a1 a2 a3 a4 a5 l k csl) (qU a a1 a2 a3 a4 a5 l k csl) []
variable (A:k=.normal\/k=.deferred)
include A
def lkA:bV (walk prog 15 (lk0 a a1 a2 a3 a4 a5 l k) csl [])=true:=by rcases A with rfl|rfl<;>kernel_rfl
def aNT:thin (bM prog 15 (lk0 a a1 a2 a3 a4 a5 l k) csl [])=[(54,[.mk (.extern 56),.mk .disable])]:=by rcases A with rfl|rfl<;>kernel_rfl
def lkB t n:RU prog (lk1 a a1 a2 a3 a4 a5 l k csl) (qU a a1 a2 a3 a4 a5 l k csl) [.QM (some (t,n)),.frz false,.val (.int .i32 0)]=some (lk2 a a1 a2 a3 a4 a5 l k csl,qU a a1 a2 a3 a4 a5 l k csl,[],[.mk (.extern 94),.sh a.block (some (t,n)),.fz a false,.ld .atomic a (.int .i32 0),.st .atomic a (.int .i32 1)]):=by rcases A with rfl|rfl<;>kernel_rfl
def lkC:bV (walk prog 10 (lk2 a a1 a2 a3 a4 a5 l k csl) (qU a a1 a2 a3 a4 a5 l k csl) [])=true:=by rcases A with rfl|rfl<;>kernel_rfl
def aNS:thin (bM prog 10 (lk2 a a1 a2 a3 a4 a5 l k csl) (qU a a1 a2 a3 a4 a5 l k csl) [])=[(54,[.mk (.extern 58),.mk .enable])]:=by rcases A with rfl|rfl<;>kernel_rfl
def lkE:bV (walk prog 6 (lk4 a a1 a2 a3 a4 a5 l k csl) (qU a a1 a2 a3 a4 a5 l k csl) [])=true:=by rcases A with rfl|rfl<;>kernel_rfl
def aNP:thin (bM prog 6 (lk4 a a1 a2 a3 a4 a5 l k csl) (qU a a1 a2 a3 a4 a5 l k csl) [])=[(54,[.mk (.extern 59),.mk (.acquire a)])]:=by rcases A with rfl|rfl<;>kernel_rfl
end
end Ka
namespace Ky
def qh(fr:Frame):Array Oper:=match fr.todo with
 | .inRegion ops _::_=>ops
 |_=>#[]
def OA(fr:Frame):Nat:=match fr.todo with
 | .inRegion _ (i::_)::_=>i
 |_=>0
def aDE(fr:Frame):List Nat:=match fr.todo with
 | .inRegion _ (_::is)::_=>is
 |_=>[]
def aJe(fr:Frame):List Item:=match fr.todo with
 |_::k=>k
 |_=>[]
def runs:FrameMode->Bool
 | .run=>true
 |_=>false
def Bn(fr:Frame):Bool:=fr.roundOf.isNone&&!(fr.kind==.early)&&runs fr.mode&&(match fr.todo with
 | .inRegion _ (_::_)::_=>true
 |_=>false)&&(((qh fr)[OA fr]?).map (Region.wanted · (yielded (qh fr) fr.tmps))).getD false
def xQ(fr:Frame):Oper:=match(qh fr)[OA fr]? with
 |some o=>o
 |none=>default
def RQ{fr}(h:Bn fr=true):fr.roundOf=none/\(fr.kind==.early)=false/\fr.mode=.run/\fr.todo=.inRegion (qh fr) (OA fr::aDE fr)::aJe fr/\((((qh fr)[OA fr]?).map (Region.wanted · (yielded (qh fr) fr.tmps))).getD false=true)/\(qh fr)[OA fr]? =some (xQ fr):=by
 unfold Bn at h;simp only[bw]at h;obtain⟨⟨⟨⟨V,J⟩,h3⟩,h4⟩,h5⟩:=h;refine⟨by simpa using V,by simpa using J,?_,?_,h5,?_⟩
 ·cases hm:fr.mode<;>rw[hm]at h3<;>first|rfl|cases h3
 ·unfold qh OA aDE aJe;cases ht:fr.todo with
  |nil=>rw[ht]at h4;cases h4
  |cons x k=>
   rw[ht]at h4;cases x with
   |inRegion ops is=>cases is with
    |nil=>cases h4
    |cons i is=>rfl
   |_=>cases h4
 ·unfold xQ;cases E:(qh fr)[OA fr]? with
  |none=>rw[E]at h5;cases h5
  |some o=>rfl
def aAA{fr P an nM io v cs}(h:Bn fr=true)(ha:ask P (execOp fr.eval (xQ fr)) an=some (.value v,nM,io)):RU P fr cs an=some (fr.finish v,cs,nM,io):=
 let ⟨V,J,h3,h4,h5,h6⟩:=RQ h
 VB V J h3 h4 h5 h6 ha
end Ky
namespace Ka
open Ky
def aAt an:Ky.ask prog (underlying 159) an=some (.pointer 61,an,[]):=xv
def aAu an:Ky.ask prog (underlying 121) an=some (.unsafePointer,an,[]):=xv
def aDn an:Ky.ask prog (sizeOf 61) an=some (2,an,[]):=xv
def Qe P a t n an:Ky.ask P (Conv.seenAt a) (.QM (some (t,n))::an)=some (a,an,[.sh a.block (some (t,n))]):=rfl
def Nq P r t n an:Ky.ask P (cellsIn r) (.QM (some (t,n))::an)=some (some n,an,[.sh r (some (t,n))]):=rfl
def AO{n a t}(h:a.off<n):Ky.ask prog (convert 159 121 (.pointer (some a))) [.QM (some (t,n)),.QM (some (t,n))]=some (.pointer (some a),[],[.sh a.block (some (t,n)),.sh a.block (some (t,n))]):=by have Q:(decide (a.off>=n))=false:=im (by omega);unfold convert Conv.unsafePointer;simp only[JJ,aAt,aAu,Qe,Nq,aDn,iw,Q,Bool.false_and,cg];rfl
def oC{a v}{w:World}(h:w.cell? a=some v):∃t n,w.shape? a.block=some (t,n)/\a.off<n:=by
 unfold World.cell? at h;unfold World.shape?;split at h
 ·rename_i c e f heq;split at h
  ·cases h
  ·exact⟨e,c.size,rfl,(a6.1 h).1⟩
 ·cases h
section
variable (a:Addr)(a1 a2 a3 a4 a5:Value)(l:List Value)(k:CallKind)(csl:List Frame)
variable (A:k=.normal\/k=.deferred)
include A
def aNR:Bn (lk3 a a1 a2 a3 a4 a5 l k csl)=true:=by rcases A with rfl|rfl<;>kernel_rfl
def aNQ:execOp (lk3 a a1 a2 a3 a4 a5 l k csl).eval (xQ (lk3 a a1 a2 a3 a4 a5 l k csl))=(convert 159 121 (.pointer (some a)) >>= λv=>pure (.value v)):=by rcases A with rfl|rfl<;>kernel_rfl
def lkD{n t}(h:a.off<n):RU prog (lk3 a a1 a2 a3 a4 a5 l k csl) (qU a a1 a2 a3 a4 a5 l k csl) [.QM (some (t,n)),.QM (some (t,n))]=some (lk4 a a1 a2 a3 a4 a5 l k csl,qU a a1 a2 a3 a4 a5 l k csl,[],[.sh a.block (some (t,n)),.sh a.block (some (t,n))]):=
 aAA (aNR a a1 a2 a3 a4 a5 l k csl A) (by
  rw[aNQ a a1 a2 a3 a4 a5 l k csl A,JJ,AO h];rfl)
def aNO:(lk5 a a1 a2 a3 a4 a5 l k csl).mode=.returning:=by rcases A with rfl|rfl<;>kernel_rfl
def aNN:(lk5 a a1 a2 a3 a4 a5 l k csl).defers=[]:=by rcases A with rfl|rfl<;>kernel_rfl
def aNM:(lk5 a a1 a2 a3 a4 a5 l k csl).kind=k:=by rcases A with rfl|rfl<;>kernel_rfl
def aNL:(lk5 a a1 a2 a3 a4 a5 l k csl).fn=38:=by rcases A with rfl|rfl<;>kernel_rfl
def aNK:bu prog 6 (lk4 a a1 a2 a3 a4 a5 l k csl) (qU a a1 a2 a3 a4 a5 l k csl) []=csl:=by rcases A with rfl|rfl<;>kernel_rfl
def aNJ:bu prog 10 (lk2 a a1 a2 a3 a4 a5 l k csl) (qU a a1 a2 a3 a4 a5 l k csl) []=qU a a1 a2 a3 a4 a5 l k csl:=by rcases A with rfl|rfl<;>kernel_rfl
def aNI:(lk1 a a1 a2 a3 a4 a5 l k csl).fn=54/\(lk2 a a1 a2 a3 a4 a5 l k csl).fn=54/\(lk3 a a1 a2 a3 a4 a5 l k csl).fn=54:=⟨by rcases A with rfl|rfl<;>kernel_rfl,by rcases A with rfl|rfl<;>kernel_rfl,by rcases A with rfl|rfl<;>kernel_rfl⟩
end
def aJI tmps:∃fn,prog.funcs[38]? =some fn/\results fn tmps=pure (.tuple #[]):=⟨f38,xv,xv⟩
def dfA:deafBehind 0 (seen prog 54 (gV [.mk (.extern 56),.mk .disable]).toArray)=1:=xv
def dfB a t n:deafBehind 1 (seen prog 54 (gV [.mk (.extern 94),.sh a.block (some (t,n)),.fz a false,.ld .atomic a (.int .i32 0),.st .atomic a (.int .i32 1)]).toArray)=1:=xv
def dfC:deafBehind 1 (seen prog 54 (gV [.mk (.extern 58),.mk .enable]).toArray)=0:=xv
def dfE a:deafBehind 0 (seen prog 54 (gV [.mk (.extern 59),.mk (.acquire a)]).toArray)=0:=xv
section
variable {C:Cut}{cs:List Frame}{main:Bool}{Stop:Frame->World->Prop}
def KR{k wv wa0 a fr csl a1 a2 a3 a4 a5 l}(A:k=.normal\/k=.deferred)(hm:jV fr.mode)(DU:Vw C wv wa0)(L:wv.cell? a=some (.int .i32 0))(hf:wv.frozen? a=false)
 (hs:kJ prog C main cs Stop (oN k fr (.tuple #[])) csl (wv.setCell a (.int .i32 1)) 0):kJ prog C main cs Stop (lk0 a a1 a2 a3 a4 a5 l k) (fr::csl) wv 0:=by
 obtain⟨vx,Kd⟩:=(DU.cell L).2;refine xI 15 (lkA a a1 a2 a3 a4 a5 l k (fr::csl) A) (wv':=wv) (d':=1) ?_ ?_
 ·rw[aNT _ _ _ _ _ _ _ _ _ A];exact⟨wv,⟨cq,cq,rfl⟩,rfl,dfA.symm⟩
 show kJ prog C main cs Stop (lk1 a a1 a2 a3 a4 a5 l k (fr::csl)) (qU a a1 a2 a3 a4 a5 l k (fr::csl)) wv 1;refine II (fr':=lk2 a a1 a2 a3 a4 a5 l k (fr::csl)) (csl':=qU a a1 a2 a3 a4 a5 l k (fr::csl)) (wv':=wv.setCell a (.int .i32 1)) (d':=1) (λwa X=>?_) ?_
 ·have hca:=(X.cell L).1;obtain⟨t,n,fT,_⟩:=oC hca;refine⟨_,_,_,lkB a a1 a2 a3 a4 a5 l k (fr::csl) A t n,⟨cq,fT,(uB X L hf).1,L,⟨_,L⟩,hf,rfl⟩,?_⟩;rw[(aNI a a1 a2 a3 a4 a5 l k (fr::csl) A).1];exact dfB a t n
 refine xI 10 (lkC a a1 a2 a3 a4 a5 l k (fr::csl) A) (wv':=wv.setCell a (.int .i32 1)) (d':=0) ?_ ?_
 ·rw[aNS _ _ _ _ _ _ _ _ _ A];exact⟨_,⟨cq,cq,rfl⟩,rfl,dfC.symm⟩
 rw[aNJ a a1 a2 a3 a4 a5 l k (fr::csl) A];have AD:(wv.setCell a (.int .i32 1)).cell? a=some (.int .i32 1):=World.cell?_setCell_same _ _ _ L;show kJ prog C main cs Stop (lk3 a a1 a2 a3 a4 a5 l k (fr::csl)) (qU a a1 a2 a3 a4 a5 l k (fr::csl)) _ 0;refine II (fr':=lk4 a a1 a2 a3 a4 a5 l k (fr::csl)) (csl':=qU a a1 a2 a3 a4 a5 l k (fr::csl)) (wv':=wv.setCell a (.int .i32 1)) (d':=0) (λwa X=>?_) ?_
 ·obtain⟨t,n,fT,Q⟩:=oC (X.cell AD).1;exact⟨_,_,_,lkD a a1 a2 a3 a4 a5 l k (fr::csl) A Q,⟨fT,fT,rfl⟩,rfl⟩
 refine xI 6 (lkE a a1 a2 a3 a4 a5 l k (fr::csl) A) (wv':=wv.setCell a (.int .i32 1)) (d':=0) ?_ ?_
 ·rw[aNP _ _ _ _ _ _ _ _ _ A];exact⟨_,⟨cq,⟨vx,λn Q=>(Kd n Q).2⟩,rfl⟩,rfl,(dfE a).symm⟩
 rw[aNK a a1 a2 a3 a4 a5 l k (fr::csl) A];obtain⟨fn,AW,vd⟩:=aJI (lk5 a a1 a2 a3 a4 a5 l k (fr::csl)).tmps;exact QK (fn:=fn) (aNO _ _ _ _ _ _ _ _ _ A) (aNN _ _ _ _ _ _ _ _ _ A) (aNM _ _ _ _ _ _ _ _ _ A) A (by
  show prog.funcs[(lk5 a a1 a2 a3 a4 a5 l k (fr::csl)).fn]? =_;rw[aNL _ _ _ _ _ _ _ _ _ A];exact AW) vd hm hs
end
section
variable (a:Addr)(a1 a2 a3 a4 a5:Value)(l:List Value)(k:CallKind)(csl:List Frame)
noncomputable def ul0:Frame:=tZ prog 39 (.pointer (some a)::a1::a2::a3::a4::a5::l) k
noncomputable def ul1:Frame:=aR prog 17 (ul0 a a1 a2 a3 a4 a5 l k) csl [.val (.int .i32 1)]
noncomputable def Kj:List Frame:=bu prog 17 (ul0 a a1 a2 a3 a4 a5 l k) csl [.val (.int .i32 1)]
noncomputable def ul2:Frame:=(ul1 a a1 a2 a3 a4 a5 l k csl).finish (.pointer (some a))
noncomputable def ul3:Frame:=aR prog 28 (ul2 a a1 a2 a3 a4 a5 l k csl) (Kj a a1 a2 a3 a4 a5 l k csl) [.val (.int .i32 1)]
variable (A:k=.normal\/k=.deferred)
include A
def ulA:bV (walk prog 17 (ul0 a a1 a2 a3 a4 a5 l k) csl [.val (.int .i32 1)])=true:=by rcases A with rfl|rfl<;>kernel_rfl
def aMO:thin (bM prog 17 (ul0 a a1 a2 a3 a4 a5 l k) csl [.val (.int .i32 1)])=[(55,[.ld .plain a (.int .i32 1)])]:=by rcases A with rfl|rfl<;>kernel_rfl
def aMN:Bn (ul1 a a1 a2 a3 a4 a5 l k csl)=true:=by rcases A with rfl|rfl<;>kernel_rfl
def aMM:execOp (ul1 a a1 a2 a3 a4 a5 l k csl).eval (xQ (ul1 a a1 a2 a3 a4 a5 l k csl))=(convert 159 121 (.pointer (some a)) >>= λv=>pure (.value v)):=by rcases A with rfl|rfl<;>kernel_rfl
def ulD{n t}(h:a.off<n):RU prog (ul1 a a1 a2 a3 a4 a5 l k csl) (Kj a a1 a2 a3 a4 a5 l k csl) [.QM (some (t,n)),.QM (some (t,n))]=some (ul2 a a1 a2 a3 a4 a5 l k csl,Kj a a1 a2 a3 a4 a5 l k csl,[],[.sh a.block (some (t,n)),.sh a.block (some (t,n))]):=
 aAA (aMN a a1 a2 a3 a4 a5 l k csl A) (by
  rw[aMM a a1 a2 a3 a4 a5 l k csl A,JJ,AO h];rfl)
def ulE:bV (walk prog 28 (ul2 a a1 a2 a3 a4 a5 l k csl) (Kj a a1 a2 a3 a4 a5 l k csl) [.val (.int .i32 1)])=true:=by rcases A with rfl|rfl<;>kernel_rfl
def aML:thin (bM prog 28 (ul2 a a1 a2 a3 a4 a5 l k csl) (Kj a a1 a2 a3 a4 a5 l k csl) [.val (.int .i32 1)])=[(55,[.mk (.extern 76),.mk (.releaseMerge a)]),(55,[.mk (.extern 56),.mk .disable]),(55,[.mk (.extern 96),.ld .atomic a (.int .i32 1),.st .atomic a (.int .i32 0)]),(55,[.mk (.extern 58),.mk .enable])]:=by rcases A with rfl|rfl<;>kernel_rfl
def ulF:(ul3 a a1 a2 a3 a4 a5 l k csl).mode=.returning/\(ul3 a a1 a2 a3 a4 a5 l k csl).defers=[]/\(ul3 a a1 a2 a3 a4 a5 l k csl).kind=k/\(ul3 a a1 a2 a3 a4 a5 l k csl).fn=39:=by rcases A with rfl|rfl<;>exact⟨xv,xv,xv,xv⟩
def aMK:bu prog 28 (ul2 a a1 a2 a3 a4 a5 l k csl) (Kj a a1 a2 a3 a4 a5 l k csl) [.val (.int .i32 1)]=csl:=by rcases A with rfl|rfl<;>kernel_rfl
end
def aIZ tmps:∃fn,prog.funcs[39]? =some fn/\results fn tmps=pure (.tuple #[]):=⟨f39,xv,xv⟩
def duA a:deafBehind 0 (seen prog 55 (gV [.ld .plain a (.int .i32 1)]).toArray)=0:=xv
def aQk a:deafBehind 0 (seen prog 55 (gV [.mk (.extern 76),.mk (.releaseMerge a)]).toArray)=0:=xv
def aQj:deafBehind 0 (seen prog 55 (gV [.mk (.extern 56),.mk .disable]).toArray)=1:=xv
def aQi a:deafBehind 1 (seen prog 55 (gV [.mk (.extern 96),.ld .atomic a (.int .i32 1),.st .atomic a (.int .i32 0)]).toArray)=1:=xv
def aQh:deafBehind 1 (seen prog 55 (gV [.mk (.extern 58),.mk .enable]).toArray)=0:=xv
section
variable {C:Cut}{cs:List Frame}{main:Bool}{Stop:Frame->World->Prop}
def CZ{k wv wa0 a fr csl a1 a2 a3 a4 a5 l}(A:k=.normal\/k=.deferred)(hm:jV fr.mode)(DU:Vw C wv wa0)(L:wv.cell? a=some (.int .i32 1))(hf:wv.frozen? a=false)
 (hs:kJ prog C main cs Stop (oN k fr (.tuple #[])) csl (wv.setCell a (.int .i32 0)) 0):kJ prog C main cs Stop (ul0 a a1 a2 a3 a4 a5 l k) (fr::csl) wv 0:=by
 obtain⟨vx,Kd⟩:=(DU.cell L).2;refine xI 17 (ulA a a1 a2 a3 a4 a5 l k (fr::csl) A) (wv':=wv) (d':=0) ?_ ?_
 ·rw[aMO _ _ _ _ _ _ _ _ _ A];exact⟨wv,⟨L,rfl⟩,rfl,(duA a).symm⟩
 show kJ prog C main cs Stop (ul1 a a1 a2 a3 a4 a5 l k (fr::csl)) (Kj a a1 a2 a3 a4 a5 l k (fr::csl)) wv 0;refine II (fr':=ul2 a a1 a2 a3 a4 a5 l k (fr::csl)) (csl':=Kj a a1 a2 a3 a4 a5 l k (fr::csl)) (wv':=wv) (d':=0) (λwa X=>?_) ?_
 ·obtain⟨t,n,fT,Q⟩:=oC (X.cell L).1;exact⟨_,_,_,ulD a a1 a2 a3 a4 a5 l k (fr::csl) A Q,⟨fT,fT,rfl⟩,rfl⟩
 have hmk:I9 C (.releaseMerge a):=⟨vx,λn Q=>(Kd n Q).2⟩
 refine xI 28 (ulE a a1 a2 a3 a4 a5 l k (fr::csl) A) (wv':=wv.setCell a (.int .i32 0)) (d':=0) ?_ ?_
 ·rw[aML _ _ _ _ _ _ _ _ _ A];refine⟨_,⟨cq,hmk,rfl⟩,?_⟩;rw[aQk];refine⟨_,⟨cq,cq,rfl⟩,?_⟩;rw[aQj];refine⟨_,⟨cq,L,⟨_,L⟩,hf,rfl⟩,?_⟩;rw[aQi];refine⟨_,⟨cq,cq,rfl⟩,?_⟩;rw[aQh];exact⟨rfl,rfl⟩
 rw[aMK a a1 a2 a3 a4 a5 l k (fr::csl) A];obtain⟨fn,AW,vd⟩:=aIZ (ul3 a a1 a2 a3 a4 a5 l k (fr::csl)).tmps;obtain⟨f1,f2,f3,f4⟩:=ulF a a1 a2 a3 a4 a5 l k (fr::csl) A;exact QK (fn:=fn) f1 f2 f3 A (by
  show prog.funcs[(ul3 a a1 a2 a3 a4 a5 l k (fr::csl)).fn]? =_;rw[f4];exact AW) vd hm hs
end
noncomputable abbrev QQ:Program:=Pf prog uE
def xV P fs(i:Nat):(Pf P fs).funcs[i]? =fs[i]? :=rfl
def QX:Fits prog uE Spq ⟨λ_=>none,λ_=>(0,0),λ_=>false,eU prog,λ_=>False,λ_=>none⟩:=Ru (λ_ h=>h.elim) rfl
def Ya:QQ.follows .staticDataAhead=true:=QX.ahead
def X9 g:QQ.stepOf g=none:=QX.steps g
def nY{k P fr s}(hm:fr.mode=.run)(ht:fr.todo=.code (.refuse s)::k)w l:∃o U,step P (lone fr l w)=.ended o U:=by
 have:∃o,stepG P true (G fr l) w=.ended o w #[]:=by unfold stepG G;simp only[hm];unfold stepG.exec;simp only[ht];exact⟨_,rfl⟩
 obtain⟨o,e⟩:=this;exact⟨o,w,mV e⟩
def zg{P n m m'}(h:runN P n m=.next m'):runN P (n+1) m=step P m':=by rw[runN_add,h];show runN P 1 m'=_;simp only[runN];cases step P m'<;>rfl
def TF{P fs f args wv} n(h:∀k,(k=.normal\/k=.deferred)->∀τ d,∃fr' U,(∀hc,runN (Pf P fs) n (lone (Frame.enter (Pf P fs) f args k) hc (re wv τ d))=.next (lone fr' hc U)/\∀i,i<=n->∃Bj l1 w1,runN (Pf P fs) i (lone (Frame.enter (Pf P fs) f args k) hc (re wv τ d))=.next (lone Bj (l1++hc) w1))/\∀hc,∃o w'',step (Pf P fs) (lone fr' hc U)=.ended o w''):
 EA P fs f args wv:=by
 refine⟨n,λk fr l τ d A hl=>?_⟩;obtain⟨fr',U,V,J⟩:=h k A τ d;obtain⟨o,w'',h3⟩:=J (fr::l);refine⟨⟨o,w'',by rw[zg (V (fr::l)).1];exact h3⟩,λi hi=>?_⟩;obtain⟨Bj,l1,w1,e⟩:=(V (fr::l)).2 i hi;refine⟨Bj,_,w1,e,?_⟩;cases l with
 |nil=>exact absurd rfl hl
 |cons x l=>simp;omega
def aDA args:∃b1 b2 b3 l,args++Array.replicate (4 - args.size) undef=⟨args.getD 0 undef::b1::b2::b3::l⟩:=by
 have V:=FN 4 args;have J:=FO 4 (by omega) args;generalize args++Array.replicate (4 - args.size) undef=t at V J;obtain⟨t⟩:=t
 match t,V,J with
 |x::b1::b2::b3::l,_,J=>simp only[s8,cI]at J;subst J;exact⟨b1,b2,b3,l,rfl⟩
 |[],V,_|[_],V,_|[_,_],V,_|[_,_,_],V,_=>simp at V
def aDz args:∃b1 b2 b3 b4 b5 l,args++Array.replicate (6 - args.size) undef=⟨args.getD 0 undef::b1::b2::b3::b4::b5::l⟩:=by
 have V:=FN 6 args;have J:=FO 6 (by omega) args;generalize args++Array.replicate (6 - args.size) undef=t at V J;obtain⟨t⟩:=t
 match t,V,J with
 |x::b1::b2::b3::b4::b5::l,_,J=>simp only[s8,cI]at J;subst J;exact⟨b1,b2,b3,b4,b5,l,rfl⟩
 |[],V,_|[_],V,_|[_,_],V,_|[_,_,_],V,_|[_,_,_,_],V,_|[_,_,_,_,_],V,_=>simp at V
section
def Yb:QQ.funcs[(38:Nat)]? =some qm:=by
 have e:∃fn,prog.funcs[(38:Nat)]? =some fn:=⟨f38,xv⟩
 have h:uE[(38:Nat)]? =some qm:=by rw[lN];obtain⟨fn,e⟩:=e;rw[e];exact dv some (by unfold qi;rw[show keep 38=false by decide];rfl)
 exact(xV prog uE 38).trans h
def aJk:((prog.funcs[(38:Nat)]?).map (·.ntmps)).getD 0=6:=xv
variable (x:Value)(b1 b2 b3:Value)(l:List Value)(k:CallKind)
noncomputable def aB1:Frame:={fn:=38,tmps:=⟨x::b1::b2::b3::l⟩,todo:=[.code sj],defers:=[],mode:=.run,kind:=k}
def Uf args:∃b1 b2 b3 l,Frame.enter QQ 38 args k=aB1 (args.getD 0 undef) b1 b2 b3 l k:=by obtain⟨b1,b2,b3,l,e⟩:=aDA args;refine⟨b1,b2,b3,l,?_⟩;unfold Frame.enter aB1;rw[Yb,<-e];rfl
def Gj args:∃b1 b2 b3 b4 b5 l,Frame.enter prog 38 args k=tZ prog 38 (args.getD 0 undef::b1::b2::b3::b4::b5::l) k:=by obtain⟨b1,b2,b3,b4,b5,l,e⟩:=aDz args;refine⟨b1,b2,b3,b4,b5,l,?_⟩;unfold Frame.enter tZ;simp only[aJk,<-e]
noncomputable def IU:Frame:=aR QQ 2 (aB1 x b1 b2 b3 l k) [] []
variable (A:k=.normal\/k=.deferred)
include A
def qlA:walk QQ 2 (aB1 x b1 b2 b3 l k) [] []=some (IU x b1 b2 b3 l k,[],[],[(38,[]),(38,[])]):=by rcases A with rfl|rfl<;>kernel_rfl
def aJl:Bn (IU x b1 b2 b3 l k)=true:=by rcases A with rfl|rfl<;>kernel_rfl
def aNj(E:∀a,x≠.pointer (some a))w:(execOp (IU x b1 b2 b3 l k).eval (xQ (IU x b1 b2 b3 l k))).run QQ w=.halt (.stuck "an address expected (no nilCheck in front?)") w:=by
 rcases A with rfl|rfl<;>(cases x with
  |pointer p=>cases p with
   |none=>kernel_rfl
   |some a=>exact absurd rfl (E a)
  |_=>kernel_rfl)
omit x in
def aNi(a:Addr)(w:World):(execOp (IU (.pointer (some a)) b1 b2 b3 l k).eval (xQ (IU (.pointer (some a)) b1 b2 b3 l k))).run QQ w=(Sem.load .plain a λv=>.pure (.value v)).run QQ w:=by rcases A with rfl|rfl<;>kernel_rfl
end
section
variable (a:Addr)(v:Value)(b1 b2 b3:Value)(l:List Value)(k:CallKind)
noncomputable def OG:Frame:=(IU (.pointer (some a)) b1 b2 b3 l k).finish v
noncomputable def A8(t1 t2:Bool):Frame:=((OG a v b1 b2 b3 l k).finish (.bool t1)).finish (.bool t2)
noncomputable def OE:Frame:=aR QQ 4 (A8 a v b1 b2 b3 l k true true) [] []
noncomputable def Gi:Frame:=aR QQ 3 (OE a v b1 b2 b3 l k) [] []
variable (A:k=.normal\/k=.deferred)
include A
def qlB:RU QQ (IU (.pointer (some a)) b1 b2 b3 l k) [] [.val v]=some (OG a v b1 b2 b3 l k,[],[],[.ld .plain a v]):=by rcases A with rfl|rfl<;>kernel_rfl
def aNh:Bn (OG a v b1 b2 b3 l k)=true:=by rcases A with rfl|rfl<;>kernel_rfl
def aNg w:(execOp (OG a v b1 b2 b3 l k).eval (xQ (OG a v b1 b2 b3 l k))).run QQ w=(binOp .lss 21 v (.int .i32 (1)) >>= λv=>pure (.value v)).run QQ w:=by rcases A with rfl|rfl<;>cases v<;>kernel_rfl
def qlC n:walk QQ 2 (OG a (.int .i32 n) b1 b2 b3 l k) [] []=some (A8 a (.int .i32 n) b1 b2 b3 l k (decide (n<1)) (decide (-1<n)),[],[],[(38,[]),(38,[])]):=by rcases A with rfl|rfl<;>kernel_rfl
def aNf t2:walk QQ 2 (A8 a v b1 b2 b3 l k false t2) [] []=some (aR QQ 2 (A8 a v b1 b2 b3 l k false t2) [] [],[],[],[(38,[]),(38,[])]):=by rcases A with rfl|rfl<;>cases t2<;>kernel_rfl
def aNe t2:(aR QQ 2 (A8 a v b1 b2 b3 l k false t2) [] []).mode=.run/\(aR QQ 2 (A8 a v b1 b2 b3 l k false t2) [] []).todo=[.code (.refuse "")]:=by rcases A with rfl|rfl<;>cases t2<;>exact⟨xv,xv⟩
def aNd:walk QQ 3 (A8 a v b1 b2 b3 l k true false) [] []=some (aR QQ 3 (A8 a v b1 b2 b3 l k true false) [] [],[],[],[(38,[]),(38,[]),(38,[])]):=by rcases A with rfl|rfl<;>kernel_rfl
def aNc:(aR QQ 3 (A8 a v b1 b2 b3 l k true false) [] []).mode=.run/\(aR QQ 3 (A8 a v b1 b2 b3 l k true false) [] []).todo=[.code (.refuse "")]:=by rcases A with rfl|rfl<;>exact⟨xv,xv⟩
def qlE:walk QQ 4 (A8 a v b1 b2 b3 l k true true) [] []=some (OE a v b1 b2 b3 l k,[],[],[(38,[]),(38,[]),(38,[]),(38,[])]):=by rcases A with rfl|rfl<;>kernel_rfl
def aNb:Bn (OE a v b1 b2 b3 l k)=true:=by rcases A with rfl|rfl<;>kernel_rfl
def aNa w:(execOp (OE a v b1 b2 b3 l k).eval (xQ (OE a v b1 b2 b3 l k))).run QQ w=(Sem.store .plain a (.int .i32 1) (.pure .skip)).run QQ w:=by rcases A with rfl|rfl<;>kernel_rfl
def qlF:walk QQ 3 (OE a v b1 b2 b3 l k) [] []=some (Gi a v b1 b2 b3 l k,[],[],[(38,[.st .plain a (.int .i32 1)]),(38,[]),(38,[])]):=by rcases A with rfl|rfl<;>kernel_rfl
def qlG:(Gi a v b1 b2 b3 l k).mode=.returning/\(Gi a v b1 b2 b3 l k).defers=[]/\(Gi a v b1 b2 b3 l k).kind=k/\(Gi a v b1 b2 b3 l k).fn=38:=by rcases A with rfl|rfl<;>exact⟨xv,xv,xv,xv⟩
end
section
def X8:QQ.funcs[(39:Nat)]? =some jM:=by
 have e:∃fn,prog.funcs[(39:Nat)]? =some fn:=⟨f39,xv⟩
 have h:uE[(39:Nat)]? =some jM:=by rw[lN];obtain⟨fn,e⟩:=e;rw[e];exact dv some (by unfold qi;rw[show keep 39=false by decide];rfl)
 exact(xV prog uE 39).trans h
def aJh:((prog.funcs[(39:Nat)]?).map (·.ntmps)).getD 0=6:=xv
variable (x:Value)(b1 b2 b3:Value)(l:List Value)(k:CallKind)
noncomputable def aB0:Frame:={fn:=39,tmps:=⟨x::b1::b2::b3::l⟩,todo:=[.code mf],defers:=[],mode:=.run,kind:=k}
def Ue args:∃b1 b2 b3 l,Frame.enter QQ 39 args k=aB0 (args.getD 0 undef) b1 b2 b3 l k:=by obtain⟨b1,b2,b3,l,e⟩:=aDA args;refine⟨b1,b2,b3,l,?_⟩;unfold Frame.enter aB0;rw[X8,<-e];rfl
def Gg args:∃b1 b2 b3 b4 b5 l,Frame.enter prog 39 args k=tZ prog 39 (args.getD 0 undef::b1::b2::b3::b4::b5::l) k:=by obtain⟨b1,b2,b3,b4,b5,l,e⟩:=aDz args;refine⟨b1,b2,b3,b4,b5,l,?_⟩;unfold Frame.enter tZ;simp only[aJh,<-e]
noncomputable def IQ:Frame:=aR QQ 2 (aB0 x b1 b2 b3 l k) [] []
variable (A:k=.normal\/k=.deferred)
include A
def quA:walk QQ 2 (aB0 x b1 b2 b3 l k) [] []=some (IQ x b1 b2 b3 l k,[],[],[(39,[]),(39,[])]):=by rcases A with rfl|rfl<;>kernel_rfl
def aJi:Bn (IQ x b1 b2 b3 l k)=true:=by rcases A with rfl|rfl<;>kernel_rfl
def aM8(E:∀a,x≠.pointer (some a))w:(execOp (IQ x b1 b2 b3 l k).eval (xQ (IQ x b1 b2 b3 l k))).run QQ w=.halt (.stuck "an address expected (no nilCheck in front?)") w:=by
 rcases A with rfl|rfl<;>(cases x with
  |pointer p=>cases p with
   |none=>kernel_rfl
   |some a=>exact absurd rfl (E a)
  |_=>kernel_rfl)
omit x in
def aM7(a:Addr)(w:World):(execOp (IQ (.pointer (some a)) b1 b2 b3 l k).eval (xQ (IQ (.pointer (some a)) b1 b2 b3 l k))).run QQ w=(Sem.load .plain a λv=>.pure (.value v)).run QQ w:=by rcases A with rfl|rfl<;>kernel_rfl
end
section
variable (a:Addr)(v:Value)(b1 b2 b3:Value)(l:List Value)(k:CallKind)
noncomputable def OD:Frame:=(IQ (.pointer (some a)) b1 b2 b3 l k).finish v
noncomputable def A7(t1 t2:Bool):Frame:=((OD a v b1 b2 b3 l k).finish (.bool t1)).finish (.bool t2)
noncomputable def OC:Frame:=aR QQ 4 (A7 a v b1 b2 b3 l k true true) [] []
noncomputable def Gf:Frame:=aR QQ 3 (OC a v b1 b2 b3 l k) [] []
variable (A:k=.normal\/k=.deferred)
include A
def quB:RU QQ (IQ (.pointer (some a)) b1 b2 b3 l k) [] [.val v]=some (OD a v b1 b2 b3 l k,[],[],[.ld .plain a v]):=by rcases A with rfl|rfl<;>kernel_rfl
def aM6:Bn (OD a v b1 b2 b3 l k)=true:=by rcases A with rfl|rfl<;>kernel_rfl
def aM5 w:(execOp (OD a v b1 b2 b3 l k).eval (xQ (OD a v b1 b2 b3 l k))).run QQ w=(binOp .lss 21 v (.int .i32 (2)) >>= λv=>pure (.value v)).run QQ w:=by rcases A with rfl|rfl<;>cases v<;>kernel_rfl
def quC n:walk QQ 2 (OD a (.int .i32 n) b1 b2 b3 l k) [] []=some (A7 a (.int .i32 n) b1 b2 b3 l k (decide (n<2)) (decide (0<n)),[],[],[(39,[]),(39,[])]):=by rcases A with rfl|rfl<;>kernel_rfl
def aM4 t2:walk QQ 2 (A7 a v b1 b2 b3 l k false t2) [] []=some (aR QQ 2 (A7 a v b1 b2 b3 l k false t2) [] [],[],[],[(39,[]),(39,[])]):=by rcases A with rfl|rfl<;>cases t2<;>kernel_rfl
def aM3 t2:(aR QQ 2 (A7 a v b1 b2 b3 l k false t2) [] []).mode=.run/\(aR QQ 2 (A7 a v b1 b2 b3 l k false t2) [] []).todo=[.code (.refuse "")]:=by rcases A with rfl|rfl<;>cases t2<;>exact⟨xv,xv⟩
def aM2:walk QQ 3 (A7 a v b1 b2 b3 l k true false) [] []=some (aR QQ 3 (A7 a v b1 b2 b3 l k true false) [] [],[],[],[(39,[]),(39,[]),(39,[])]):=by rcases A with rfl|rfl<;>kernel_rfl
def aM1:(aR QQ 3 (A7 a v b1 b2 b3 l k true false) [] []).mode=.run/\(aR QQ 3 (A7 a v b1 b2 b3 l k true false) [] []).todo=[.code (.refuse "")]:=by rcases A with rfl|rfl<;>exact⟨xv,xv⟩
def quE:walk QQ 4 (A7 a v b1 b2 b3 l k true true) [] []=some (OC a v b1 b2 b3 l k,[],[],[(39,[]),(39,[]),(39,[]),(39,[])]):=by rcases A with rfl|rfl<;>kernel_rfl
def aM0:Bn (OC a v b1 b2 b3 l k)=true:=by rcases A with rfl|rfl<;>kernel_rfl
def aMZ w:(execOp (OC a v b1 b2 b3 l k).eval (xQ (OC a v b1 b2 b3 l k))).run QQ w=(Sem.store .plain a (.int .i32 0) (.pure .skip)).run QQ w:=by rcases A with rfl|rfl<;>kernel_rfl
def quF:walk QQ 3 (OC a v b1 b2 b3 l k) [] []=some (Gf a v b1 b2 b3 l k,[],[],[(39,[.st .plain a (.int .i32 0)]),(39,[]),(39,[])]):=by rcases A with rfl|rfl<;>kernel_rfl
def quG:(Gf a v b1 b2 b3 l k).mode=.returning/\(Gf a v b1 b2 b3 l k).defers=[]/\(Gf a v b1 b2 b3 l k).kind=k/\(Gf a v b1 b2 b3 l k).fn=39:=by rcases A with rfl|rfl<;>exact⟨xv,xv,xv,xv⟩
end
def LW(P:Program)(n:Nat)(fr:Frame)(w:World)(fr':Frame)(U:World):Prop:=
 ∀hc,runN P n (lone fr hc w)=.next (lone fr' hc U)/\∀i,i<=n->∃Bj l1 w1,runN P i (lone fr hc w)=.next (lone Bj (l1++hc) w1)
def LW.trans{P n fr w fr' U m wm w''}(h:LW P n fr w fr' U)(k:LW P m fr' U wm w''):LW P (n+m) fr w wm w'':=λhc=>by
 refine⟨by rw[runN_add,(h hc).1];exact(k hc).1,λi hi=>?_⟩;by_cases Bf:i<=n
 ·exact(h hc).2 i Bf
 ·obtain⟨j,rfl⟩:∃j,i=n+j:=⟨i - n,by omega⟩
  obtain⟨f1,l1,w1,e⟩:=(k hc).2 j (by omega);exact⟨f1,l1,w1,by rw[runN_add,(h hc).1];exact e⟩
def LW.walk{P n fr an fr' nM jX w U}(h:walk P n fr [] an=some (fr',[],nM,jX))(hb:p8 (thin jX) w U):LW P n fr w fr' U:=
 λhc=>Gw n h (oM hb) hc
def LW.one{P fr an fr' nM io w U}(h:RU P fr [] an=some (fr',[],nM,io))(hb:jg io w U):LW P 1 fr w fr' U:=λhc=>by
 have hs:=og (gK h true hc w U hb);refine⟨by simp only[runN];rw[show lone fr hc w=lone fr ([]++hc) w from rfl,hs];rfl,λi hi=>?_⟩;cases i with
 |zero=>exact⟨fr,[],w,rfl⟩
 |succ i=>cases i with
  |zero=>exact⟨fr',[],U,by simp only[runN];rw[show lone fr hc w=lone fr ([]++hc) w from rfl,hs]⟩
  |succ i=>omega
def LW.to{P n fr w fr' U m an wm nM jX w''}(h:LW P n fr w fr' U)(k:Ky.walk P m fr' [] an=some (wm,[],nM,jX))(hb:p8 (thin jX) U w'')N(hN:n+m=N):LW P N fr w wm w'':=hN▸h.trans (LW.walk k hb)
def LW.to1{P n fr w fr' U an wm nM io w''}(h:LW P n fr w fr' U)(k:RU P fr' [] an=some (wm,[],nM,io))(hb:jg io U w''):LW P (n+1) fr w wm w'':=h.trans (LW.one k hb)
def fP{P fs f args wv} n(h:∀k,(k=.normal\/k=.deferred)->∀τ d,∃fr' U,LW (Pf P fs) n (Frame.enter (Pf P fs) f args k) (re wv τ d) fr' U/\∀hc,∃o w'',step (Pf P fs) (lone fr' hc U)=.ended o w''):EA P fs f args wv:=
 TF n λk A τ d=>by
  obtain⟨fr',U,V,J⟩:=h k A τ d;exact⟨fr',U,V,J⟩
def ou{fr w h w1}(wx:Bn fr=true)(ha:(execOp fr.eval (xQ fr)).run QQ w=.halt h w1)(hh:(∃x,h=.stuck x)\/∃x,h=.unsupported x)l:∃o U,step QQ (lone fr l w)=.ended o U:=
 let ⟨V,J,h3,h4,h5,h6⟩:=RQ wx
 Uk V J h3 h4 h5 h6 ha hh Ya X9 l
def Lt{v}(X:∀n,v≠.int .i32 n)h w:∃e U,(binOp .lss 21 v (.int .i32 h) >>= λv=>pure (.value v):Sem Next).run QQ w=.halt e U/\((∃x,e=.stuck x)\/∃x,e=.unsupported x):=by
 cases v with
 |int k n=>have A:k≠.i32:=λe=>X n (by rw[e]);exact⟨.stuck "BinOp: operands of different kinds",w,by unfold binOp;simp only[ne_eq,A,not_false_eq_true,j2];rfl,.inl ⟨_,rfl⟩⟩
 |pointer p=>exact⟨.unsupported .addressObserved,w,by cases p<;>rfl,.inr ⟨_,rfl⟩⟩
 |_=>exact⟨_,w,rfl,.inl ⟨_,rfl⟩⟩
section
variable {C:Cut}
def aJj tmps:results qm tmps=pure (.tuple #[]):=xv
def aM9{wv wa args}(X:Vw C wv wa):(∃v wv',Ql prog uE C 38 args wv v wv')\/EA prog uE 38 args wv:=by
 have start:∀k,(k=.normal\/k=.deferred)->∀τ d,∃b1 b2 b3 l,LW QQ 2 (Frame.enter QQ 38 args k) (re wv τ d) (IU (args.getD 0 undef) b1 b2 b3 l k) (re wv τ d):=λk A τ d=>by
  obtain⟨b1,b2,b3,l,e⟩:=Uf k args;exact⟨b1,b2,b3,l,by rw[e];exact LW.walk (qlA _ b1 b2 b3 l k A) rfl⟩
 by_cases E:∃a,args.getD 0 undef=.pointer (some a)
 case neg=>
  refine .inr (fP 2 λk A τ d=>?_);obtain⟨b1,b2,b3,l,h⟩:=start k A τ d;exact⟨_,_,h,λhc=>ou (aJl _ b1 b2 b3 l k A) (aNj _ b1 b2 b3 l k A (λa e=>E ⟨a,e⟩) _) (.inl ⟨_,rfl⟩) hc⟩
 obtain⟨a,E⟩:=E;rw[E]at start;cases L:wv.cell? a with
 |none=>refine .inr (fP 2 λk A τ d=>?_);obtain⟨b1,b2,b3,l,h⟩:=start k A τ d;obtain⟨e,V,_,J⟩:=j6 (p:=QQ) X a false τ d;refine⟨_,_,h,λhc=>ou (w1:=re wv τ d) (h:=e) (aJl _ b1 b2 b3 l k A) ?_ J hc⟩;rw[aNi b1 b2 b3 l k A];have A2:(re wv τ d).cell? a=none:=L;simp only[Sem.run,A2];have:(Mode.plain==Mode.atomic)=false:=rfl;rw[this,V]
 |some v=>
  have ld:∀k,(k=.normal\/k=.deferred)->∀τ d,∃b1 b2 b3 l,LW QQ 3 (Frame.enter QQ 38 args k) (re wv τ d) (OG a v b1 b2 b3 l k) (re wv τ d):=λk A τ d=>by
   obtain⟨b1,b2,b3,l,h⟩:=start k A τ d;exact⟨b1,b2,b3,l,h.to1 (qlB a v b1 b2 b3 l k A) (w'':=re wv τ d) ⟨L,rfl⟩⟩
  by_cases Q:∃n,v=.int .i32 n
  case neg=>
   refine .inr (fP 3 λk A τ d=>?_);obtain⟨b1,b2,b3,l,h⟩:=ld k A τ d;obtain⟨e,U,V,J⟩:=Lt (v:=v) (λn e=>Q ⟨n,e⟩) 1 (re wv τ d);exact⟨_,_,h,λhc=>ou (aNh a v b1 b2 b3 l k A) ((aNg a v b1 b2 b3 l k A _).trans V) J hc⟩
  obtain⟨n,rfl⟩:=Q;have cm:∀k,(k=.normal\/k=.deferred)->∀τ d,∃b1 b2 b3 l,LW QQ 5 (Frame.enter QQ 38 args k) (re wv τ d) (A8 a (.int .i32 n) b1 b2 b3 l k (decide (n<1)) (decide (-1<n))) (re wv τ d):=λk A τ d=>by
   obtain⟨b1,b2,b3,l,h⟩:=ld k A τ d;exact⟨b1,b2,b3,l,h.to (qlC a b1 b2 b3 l k A n) rfl 5 rfl⟩
  by_cases V:n<1
  case neg=>
   rw[im V]at cm;refine .inr (fP 7 λk A τ d=>?_);obtain⟨b1,b2,b3,l,h⟩:=cm k A τ d;obtain⟨m1,m2⟩:=aNe a (.int .i32 n) b1 b2 b3 l k A (decide (-1<n));exact⟨_,_,h.to (aNf a (.int .i32 n) b1 b2 b3 l k A _) rfl 7 rfl,λhc=>nY m1 m2 _ hc⟩
  rw[mL V]at cm;by_cases J:-1<n
  case neg=>
   rw[im J]at cm;refine .inr (fP 8 λk A τ d=>?_);obtain⟨b1,b2,b3,l,h⟩:=cm k A τ d;obtain⟨m1,m2⟩:=aNc a (.int .i32 n) b1 b2 b3 l k A;exact⟨_,_,h.to (aNd a (.int .i32 n) b1 b2 b3 l k A) rfl 8 rfl,λhc=>nY m1 m2 _ hc⟩
  rw[mL J]at cm;obtain rfl:n=0:=by omega
  have at9:∀k,(k=.normal\/k=.deferred)->∀τ d,∃b1 b2 b3 l,LW QQ 9 (Frame.enter QQ 38 args k) (re wv τ d) (OE a (.int .i32 0) b1 b2 b3 l k) (re wv τ d):=λk A τ d=>by
   obtain⟨b1,b2,b3,l,h⟩:=cm k A τ d;exact⟨b1,b2,b3,l,h.to (qlE a (.int .i32 0) b1 b2 b3 l k A) rfl 9 rfl⟩
  by_cases hf:wv.frozen? a=true
  ·refine .inr (fP 9 λk A τ d=>?_);obtain⟨b1,b2,b3,l,h⟩:=at9 k A τ d;refine⟨_,_,h,λhc=>ou (w1:=re wv τ d) (h:=.unsupported (.unsafePointer "a write to bytes that a string shares")) (aNb a (.int .i32 0) b1 b2 b3 l k A) ?_ (.inr ⟨_,rfl⟩) hc⟩;rw[aNa a (.int .i32 0) b1 b2 b3 l k A];have A2:(re wv τ d).cell? a=some (.int .i32 0):=L;have DO:(re wv τ d).frozen? a=true:=hf;simp only[Sem.run,A2,DO,j2]
  ·have Kf:wv.frozen? a=false:=by simpa using hf
   refine .inl ⟨.tuple #[],wv.setCell a (.int .i32 1),⟨12,λk fr l' τ d A hm hl=>?_⟩,λmain cs Stop k fr csl A aH hs=>?_⟩
   ·obtain⟨b1,b2,b3,l,h⟩:=at9 k A τ d;have PO:LW QQ 12 (Frame.enter QQ 38 args k) (re wv τ d) (Gi a (.int .i32 0) b1 b2 b3 l k) (re (wv.setCell a (.int .i32 1)) τ d):=h.to (qlF a (.int .i32 0) b1 b2 b3 l k A) (w'':=re (wv.setCell a (.int .i32 1)) τ d) ⟨re (wv.setCell a (.int .i32 1)) τ d,⟨⟨_,L⟩,Kf,rfl⟩,rfl⟩ 12 rfl;obtain⟨g1,g2,g3,g4⟩:=qlG a (.int .i32 0) b1 b2 b3 l k A;refine⟨?_,λi hi=>?_⟩
    ·refine(zg (PO (fr::l')).1).trans (og (es:=#[]) ?_);exact xN (fn:=qm) g1 g2 g3 A (by rw[g4];exact Yb) (aJj _) hm true _
    ·obtain⟨Bj,l1,w1,e⟩:=(PO (fr::l')).2 i hi;refine⟨Bj,_,w1,e,?_⟩;cases l' with
     |nil=>exact absurd rfl hl
     |cons x l=>simp;omega
   ·obtain⟨c1,c2,c3,c4,c5,l,e⟩:=Gj k args;rw[e,E];exact KR A aH.mode X L Kf hs
def aJg tmps:results jM tmps=pure (.tuple #[]):=xv
def aMY{wv wa args}(X:Vw C wv wa):(∃v wv',Ql prog uE C 39 args wv v wv')\/EA prog uE 39 args wv:=by
 have start:∀k,(k=.normal\/k=.deferred)->∀τ d,∃b1 b2 b3 l,LW QQ 2 (Frame.enter QQ 39 args k) (re wv τ d) (IQ (args.getD 0 undef) b1 b2 b3 l k) (re wv τ d):=λk A τ d=>by
  obtain⟨b1,b2,b3,l,e⟩:=Ue k args;exact⟨b1,b2,b3,l,by rw[e];exact LW.walk (quA _ b1 b2 b3 l k A) rfl⟩
 by_cases E:∃a,args.getD 0 undef=.pointer (some a)
 case neg=>
  refine .inr (fP 2 λk A τ d=>?_);obtain⟨b1,b2,b3,l,h⟩:=start k A τ d;exact⟨_,_,h,λhc=>ou (aJi _ b1 b2 b3 l k A) (aM8 _ b1 b2 b3 l k A (λa e=>E ⟨a,e⟩) _) (.inl ⟨_,rfl⟩) hc⟩
 obtain⟨a,E⟩:=E;rw[E]at start;cases L:wv.cell? a with
 |none=>refine .inr (fP 2 λk A τ d=>?_);obtain⟨b1,b2,b3,l,h⟩:=start k A τ d;obtain⟨e,V,_,J⟩:=j6 (p:=QQ) X a false τ d;refine⟨_,_,h,λhc=>ou (w1:=re wv τ d) (h:=e) (aJi _ b1 b2 b3 l k A) ?_ J hc⟩;rw[aM7 b1 b2 b3 l k A];have A2:(re wv τ d).cell? a=none:=L;simp only[Sem.run,A2];have:(Mode.plain==Mode.atomic)=false:=rfl;rw[this,V]
 |some v=>
  have ld:∀k,(k=.normal\/k=.deferred)->∀τ d,∃b1 b2 b3 l,LW QQ 3 (Frame.enter QQ 39 args k) (re wv τ d) (OD a v b1 b2 b3 l k) (re wv τ d):=λk A τ d=>by
   obtain⟨b1,b2,b3,l,h⟩:=start k A τ d;exact⟨b1,b2,b3,l,h.to1 (quB a v b1 b2 b3 l k A) (w'':=re wv τ d) ⟨L,rfl⟩⟩
  by_cases Q:∃n,v=.int .i32 n
  case neg=>
   refine .inr (fP 3 λk A τ d=>?_);obtain⟨b1,b2,b3,l,h⟩:=ld k A τ d;obtain⟨e,U,V,J⟩:=Lt (v:=v) (λn e=>Q ⟨n,e⟩) 2 (re wv τ d);exact⟨_,_,h,λhc=>ou (aM6 a v b1 b2 b3 l k A) ((aM5 a v b1 b2 b3 l k A _).trans V) J hc⟩
  obtain⟨n,rfl⟩:=Q;have cm:∀k,(k=.normal\/k=.deferred)->∀τ d,∃b1 b2 b3 l,LW QQ 5 (Frame.enter QQ 39 args k) (re wv τ d) (A7 a (.int .i32 n) b1 b2 b3 l k (decide (n<2)) (decide (0<n))) (re wv τ d):=λk A τ d=>by
   obtain⟨b1,b2,b3,l,h⟩:=ld k A τ d;exact⟨b1,b2,b3,l,h.to (quC a b1 b2 b3 l k A n) rfl 5 rfl⟩
  by_cases V:n<2
  case neg=>
   rw[im V]at cm;refine .inr (fP 7 λk A τ d=>?_);obtain⟨b1,b2,b3,l,h⟩:=cm k A τ d;obtain⟨m1,m2⟩:=aM3 a (.int .i32 n) b1 b2 b3 l k A (decide (0<n));exact⟨_,_,h.to (aM4 a (.int .i32 n) b1 b2 b3 l k A _) rfl 7 rfl,λhc=>nY m1 m2 _ hc⟩
  rw[mL V]at cm;by_cases J:0<n
  case neg=>
   rw[im J]at cm;refine .inr (fP 8 λk A τ d=>?_);obtain⟨b1,b2,b3,l,h⟩:=cm k A τ d;obtain⟨m1,m2⟩:=aM1 a (.int .i32 n) b1 b2 b3 l k A;exact⟨_,_,h.to (aM2 a (.int .i32 n) b1 b2 b3 l k A) rfl 8 rfl,λhc=>nY m1 m2 _ hc⟩
  rw[mL J]at cm;obtain rfl:n=1:=by omega
  have at9:∀k,(k=.normal\/k=.deferred)->∀τ d,∃b1 b2 b3 l,LW QQ 9 (Frame.enter QQ 39 args k) (re wv τ d) (OC a (.int .i32 1) b1 b2 b3 l k) (re wv τ d):=λk A τ d=>by
   obtain⟨b1,b2,b3,l,h⟩:=cm k A τ d;exact⟨b1,b2,b3,l,h.to (quE a (.int .i32 1) b1 b2 b3 l k A) rfl 9 rfl⟩
  by_cases hf:wv.frozen? a=true
  ·refine .inr (fP 9 λk A τ d=>?_);obtain⟨b1,b2,b3,l,h⟩:=at9 k A τ d;refine⟨_,_,h,λhc=>ou (w1:=re wv τ d) (h:=.unsupported (.unsafePointer "a write to bytes that a string shares")) (aM0 a (.int .i32 1) b1 b2 b3 l k A) ?_ (.inr ⟨_,rfl⟩) hc⟩;rw[aMZ a (.int .i32 1) b1 b2 b3 l k A];have A2:(re wv τ d).cell? a=some (.int .i32 1):=L;have DO:(re wv τ d).frozen? a=true:=hf;simp only[Sem.run,A2,DO,j2]
  ·have Kf:wv.frozen? a=false:=by simpa using hf
   refine .inl ⟨.tuple #[],wv.setCell a (.int .i32 0),⟨12,λk fr l' τ d A hm hl=>?_⟩,λmain cs Stop k fr csl A aH hs=>?_⟩
   ·obtain⟨b1,b2,b3,l,h⟩:=at9 k A τ d;have PO:LW QQ 12 (Frame.enter QQ 39 args k) (re wv τ d) (Gf a (.int .i32 1) b1 b2 b3 l k) (re (wv.setCell a (.int .i32 0)) τ d):=h.to (quF a (.int .i32 1) b1 b2 b3 l k A) (w'':=re (wv.setCell a (.int .i32 0)) τ d) ⟨re (wv.setCell a (.int .i32 0)) τ d,⟨⟨_,L⟩,Kf,rfl⟩,rfl⟩ 12 rfl;obtain⟨g1,g2,g3,g4⟩:=quG a (.int .i32 1) b1 b2 b3 l k A;refine⟨?_,λi hi=>?_⟩
    ·refine(zg (PO (fr::l')).1).trans (og (es:=#[]) ?_);exact xN (fn:=jM) g1 g2 g3 A (by rw[g4];exact X8) (aJg _) hm true _
    ·obtain⟨Bj,l1,w1,e⟩:=(PO (fr::l')).2 i hi;refine⟨Bj,_,w1,e,?_⟩;cases l' with
     |nil=>exact absurd rfl hl
     |cons x l=>simp;omega
   ·obtain⟨c1,c2,c3,c4,c5,l,e⟩:=Gg k args;rw[e,E];exact CZ A aH.mode X L Kf hs
def aE7:Qk prog uE Spq C:=λf hf args wv wa X=>by
 rcases hf with rfl|rfl
 ·exact aM9 X
 ·exact aMY X
end
end Ka
