/- Ends: a part. Conditions: none. -/
import Derived.Orders
import Derived.Test.YtmanpggemmgnnaaGreatDoorA19
set_option linter.all false
set_option maxHeartbeats 8000000
set_option maxRecDepth 1000000
namespace Go.Proofs.YtmanpggemmgnnaaGreatDoor
noncomputable section
open Go Go.Conc Tryz
def uJ{p:Prop}(h:p:=by kernel_rfl):p:=h
namespace Co
open Ka Kv Ky
def qR:Nat->List (Nat×Bool)
 |1=>[(0,true)]
 |2=>[(1,true)]
 |3=>[(2,true)]
 |4=>[(3,true)]
 |8=>[(4,true),(5,true),(6,true),(7,true)]
 |9=>[(8,true)]
 |10=>[(9,true),(0,true),(1,true),(2,true),(3,true),(4,true),(5,true),(6,true),(7,true),(8,true),(9,true)]
 |_=>[]
def OB(b:Nat->Bool)(i:Nat):Bool:=(qR i).all λx=>!x.2||b x.1
def aAg:((List.range 11).map λi=>(Dq[i]?).map λo=>o.after.toList.map λe=>(e.on,Region.binds .any e))=(List.range 11).map λi=>some (qR i):=uJ
def aDa i(h:i<11):(Dq[i]?).map (λo=>o.after.toList.map λe=>(e.on,Region.binds .any e))=some (qR i):=List.map_inj_left.1 aAg i (jI.2 h)
def XZ b i(h:i<11):((Dq[i]?).map (·.after.all λe=>!Region.binds .any e||b e.on)).getD false=OB b i:=by
 have hd:=aDa i h;generalize Dq[i]? =x at hd ⊢;cases x with
 |none=>cases hd
 |some o=>have hd:o.after.toList.map (λe=>(e.on,Region.binds .any e))=qR i:=ay hd;unfold OB;rw[<-hd,List.all_map];show o.after.all _=_;rw[<-Array.all_toList];rfl
def Gs:Dq.size=11:=uJ
def Gd l i:i∈Region.ready .any Dq l↔i<11/\l.getD i true=false/\OB (λj=>l.getD j false) i=true:=by
 unfold Region.ready;rw[Gs,ju,jI,bw];constructor
 ·rintro⟨V,J,h3⟩;exact⟨V,by simpa using J,(XZ (λj=>l.getD j false) i V)▸h3⟩
 ·rintro⟨V,J,h3⟩;exact⟨V,by simpa using J,(XZ (λj=>l.getD j false) i V).trans h3⟩
def Qg{l}(hs:l.size=11)(h:Region.ready .any Dq l=[]):∀j,j<11->l.getD j true=true:=by
 have Q:∀i,i<11->OB (λj=>l.getD j false) i=true->l.getD i true=true:=λi hi Y=>by
  cases e:l.getD i true with
  |true=>rfl
  |false=>have:=(Gd l i).2 ⟨hi,e,Y⟩;rw[h]at this;cases this
 have hg:∀j,j<11->l.getD j true=true->l.getD j false=true:=λj hj e=>by
  simp only[Array.getD,hs,hj,tA]at e ⊢;exact e
 have h0:=Q 0 (by omega) rfl;have V:=Q 1 (by omega) (by unfold OB qR;simp only[gG,lp,hg 0 (by omega) h0];rfl);have J:=Q 2 (by omega) (by unfold OB qR;simp only[gG,lp,hg 1 (by omega) V];rfl);have h3:=Q 3 (by omega) (by unfold OB qR;simp only[gG,lp,hg 2 (by omega) J];rfl);have h4:=Q 4 (by omega) (by unfold OB qR;simp only[gG,lp,hg 3 (by omega) h3];rfl);have h5:=Q 5 (by omega) rfl;have h6:=Q 6 (by omega) rfl;have h7:=Q 7 (by omega) rfl;have h8:=Q 8 (by omega) (by unfold OB qR;simp only[gG,lp,hg 4 (by omega) h4,hg 5 (by omega) h5,hg 6 (by omega) h6,hg 7 (by omega) h7];rfl);have h9:=Q 9 (by omega) (by unfold OB qR;simp only[gG,lp,hg 8 (by omega) h8];rfl);have DV:=Q 10 (by omega) (by unfold OB qR;simp only[gG,lp,hg 0 (by omega) h0,hg 1 (by omega) V,hg 2 (by omega) J,hg 3 (by omega) h3,hg 4 (by omega) h4,hg 5 (by omega) h5,hg 6 (by omega) h6,hg 7 (by omega) h7,hg 8 (by omega) h8,hg 9 (by omega) h9];rfl);intro j hj
 match j,hj with
 |0,_=>exact h0
 |1,_=>exact V
 |2,_=>exact J
 |3,_=>exact h3
 |4,_=>exact h4
 |5,_=>exact h5
 |6,_=>exact h6
 |7,_=>exact h7
 |8,_=>exact h8
 |9,_=>exact h9
 |10,_=>exact DV
 |j+11,h=>omega
def un(l:Array Bool):Nat:=((List.range 11).map λj=>if l.getD j true then 0 else 1).sum
def KI:∀{l:List Nat},l.sum=0->∀x∈l,x=0
 |a::r,h,x,E=>by
  simp only[py]at h;rcases bm.1 E with rfl|E
  ·omega
  ·exact KI (by omega) x E
def KJ{i}{f g:Nat->Nat}:∀(l:List Nat),(∀j∈l,g j<=f j)->i∈l->g i<f i->(l.map g).sum<(l.map f).sum
 |a::r,h,hi,tP=>by
  have ha:=h a (bj ..);have hle:∀(l:List Nat),(∀j∈l,g j<=f j)->(l.map g).sum<=(l.map f).sum:=by
   intro l
   induction l with
   |nil=>exact λ_=>aI _
   |cons b t ih=>intro h;have:=h b (bj ..);have:=ih λj hj=>h j (bc _ hj);simp only[gA,py];omega
  simp only[gA,py];rcases bm.1 hi with rfl|hi
  ·have:=hle r λj hj=>h j (bc _ hj);omega
  ·have:=KJ r (λj hj=>h j (bc _ hj)) hi tP;omega
def D9{i j b}{l:Array Bool}(hs:l.size=11)(hi:i<11):(l.setIfInBounds i true).getD j b=if i=j then true else l.getD j b:=by
 simp only[Array.getD_eq_getD_getElem?,fY];split
 ·rw[bk (by omega)];rfl
 ·rfl
def aE1{i l}(hs:l.size=11)(hi:i<11)(h:l.getD i true=false):un (l.setIfInBounds i true)<un l:=by
 unfold un;refine KJ (i:=i) _ (λj _=>?_) (jI.2 hi) ?_
 ·rw[D9 hs hi];split<;>split<;>simp_all
 ·rw[D9 hs hi,bk rfl,h];decide
def Vz{ops}(zH:∀l:Array Bool,l.size=11->Region.ready .any ops l=[]->∀j,j<11->l.getD j true=true)(Mt:∀l i,i∈Region.ready .any ops l->i<11/\l.getD i true=false/\OB (λj=>l.getD j false) i=true){Inv:Array Bool->(List Nat->Prop)->Prop}(h0:∀l hv,Inv l hv->(∀j,j<11->l.getD j true=true)->hv [])
 (V:∀l hv i,l.size=11->Inv l hv->i<11->l.getD i true=false->OB (λj=>l.getD j false) i=true->∀rest,(∀X',Inv (l.setIfInBounds i true) X'->X' rest)->hv (i::rest)):
 ∀fuel t l hv,l.size=11->un l<=fuel->Inv l hv->hv (Region.linearise.go .any ops fuel t l []):=by
 intro fuel
 induction fuel with
 |zero=>
  intro t l hv hs hu hI;simp only[Region.linearise.go,List.reverse_nil];refine h0 l hv hI λj hj=>?_;have:=KI (l:=(List.range 11).map λj=>if l.getD j true then 0 else 1) (by unfold un at hu;omega) (if l.getD j true then 0 else 1) (ey.2 ⟨j,jI.2 hj,rfl⟩);cases e:l.getD j true with
  |true=>rfl
  |false=>rw[e]at this;cases this
 |succ fuel ih=>
  intro t l hv hs hu hI;simp only[Region.linearise.go];change hv (match(Region.ready .any ops l)[t%(Region.ready .any ops l).length]? with
   |some i=>Region.linearise.go .any ops fuel (t / (Region.ready .any ops l).length) (l.setIfInBounds i true) [i]
   |none=>[].reverse)
  cases hi:(Region.ready .any ops l)[t%(Region.ready .any ops l).length]? with
  |none=>
   have yn:Region.ready .any ops l=[]:=by
    cases Y:Region.ready .any ops l with
    |nil=>rfl
    |cons x xs=>rw[Y]at hi;have tP:t%(x::xs).length<(x::xs).length:=pL _ (by simp);rw[o0]at hi;omega
   exact h0 l hv hI (zH l hs yn)
  |some i=>simp only[];rw[linearise_go_acc,List.reverse_singleton,pS];obtain⟨VQ,hi2,hi3⟩:=Mt l i (cM hi);refine V l hv i hs hI VQ hi2 hi3 _ λX' hX'=>ih _ _ X' (by rw[pA];exact hs) ?_ hX';have:=aE1 hs VQ hi2;omega
noncomputable def add0(s:Nat):Frame:=Frame.enter prog 45 #[.pointer (some ⟨s,5,none⟩),.int .i64 1] .normal
noncomputable def aF(s:Nat):Frame:=aR prog 47 (add0 s) [] []
noncomputable def aC(s:Nat):List Frame:=bu prog 47 (add0 s) [] []
noncomputable def bF(s:Nat)(x:Int):Frame:=aR prog 1 (aF s) (aC s) [.val (.int .u64 x)]
noncomputable def bC(s:Nat)(x:Int):List Frame:=bu prog 1 (aF s) (aC s) [.val (.int .u64 x)]
def EJ(s:Nat)(x y:Int):List Io:=[.mk (.extern 130),.ld .atomic (dE s) (.int .u64 x),.st .atomic (dE s) (.int .u64 y)]
def aIX s:cZ prog 47 (add0 s) [] [] 0=some (aF s,aC s,[(45,[.mk (.extern 64)]),(45,[.mk (.extern 56),.mk .disable])].reverse,true,1):=uJ
def WN s:Ky.walk prog 1 (aF s) (aC s) [.val (.int .u64 (aa 0 0))]=some (bF s (aa 0 0),bC s (aa 0 0),[],[(80,EJ s (aa 0 0) (aa 1 0))]):=uJ
def WM s:Ky.walk prog 1 (aF s) (aC s) [.val (.int .u64 (aa 1 0))]=some (bF s (aa 1 0),bC s (aa 1 0),[],[(80,EJ s (aa 1 0) (aa 2 0))]):=uJ
def WL s:Ky.walk prog 1 (aF s) (aC s) [.val (.int .u64 (aa 2 0))]=some (bF s (aa 2 0),bC s (aa 2 0),[],[(80,EJ s (aa 2 0) (aa 3 0))]):=uJ
def WK s:Ky.walk prog 1 (aF s) (aC s) [.val (.int .u64 (aa 3 0))]=some (bF s (aa 3 0),bC s (aa 3 0),[],[(80,EJ s (aa 3 0) (aa 4 0))]):=uJ
def WH s:Ky.walk prog 1 (aF s) (aC s) [.val (.int .u64 (aa 4 0))]=some (bF s (aa 4 0),bC s (aa 4 0),[],[(80,EJ s (aa 4 0) (aa 5 0))]):=uJ
def WG s:Ky.walk prog 1 (aF s) (aC s) [.val (.int .u64 (aa 5 0))]=some (bF s (aa 5 0),bC s (aa 5 0),[],[(80,EJ s (aa 5 0) (aa 6 0))]):=uJ
def WE s:Ky.walk prog 1 (aF s) (aC s) [.val (.int .u64 (aa 6 0))]=some (bF s (aa 6 0),bC s (aa 6 0),[],[(80,EJ s (aa 6 0) (aa 7 0))]):=uJ
def WB s:Ky.walk prog 1 (aF s) (aC s) [.val (.int .u64 (aa 7 0))]=some (bF s (aa 7 0),bC s (aa 7 0),[],[(80,EJ s (aa 7 0) (aa 8 0))]):=uJ
def aEZ s c(h:c<8):Ky.walk prog 1 (aF s) (aC s) [.val (.int .u64 (aa c 0))]=some (bF s (aa c 0),bC s (aa c 0),[],[(80,EJ s (aa c 0) (aa (c+1) 0))]):=by
 have L:c=0\/c=1\/c=2\/c=3\/c=4\/c=5\/c=6\/c=7:=by omega
 rcases L with rfl|rfl|rfl|rfl|rfl|rfl|rfl|rfl
 ·exact WN s
 ·exact WM s
 ·exact WL s
 ·exact WK s
 ·exact WH s
 ·exact WG s
 ·exact WE s
 ·exact WB s
def aBh s x y:seen prog 80 (gV (EJ s x y)).toArray=je s:=uJ
def WA s C:cZ prog 89 (bF s (aa 1 0)) (bC s (aa 1 0)++[C]) [] 1=some (C.finish (.tuple #[]),[],[(45,[.mk (.extern 58),.mk .enable])],true,0):=uJ
def Wy s C:cZ prog 89 (bF s (aa 2 0)) (bC s (aa 2 0)++[C]) [] 1=some (C.finish (.tuple #[]),[],[(45,[.mk (.extern 58),.mk .enable])],true,0):=uJ
def Ww s C:cZ prog 89 (bF s (aa 3 0)) (bC s (aa 3 0)++[C]) [] 1=some (C.finish (.tuple #[]),[],[(45,[.mk (.extern 58),.mk .enable])],true,0):=uJ
def Wv s C:cZ prog 89 (bF s (aa 4 0)) (bC s (aa 4 0)++[C]) [] 1=some (C.finish (.tuple #[]),[],[(45,[.mk (.extern 58),.mk .enable])],true,0):=uJ
def Wu s C:cZ prog 89 (bF s (aa 5 0)) (bC s (aa 5 0)++[C]) [] 1=some (C.finish (.tuple #[]),[],[(45,[.mk (.extern 58),.mk .enable])],true,0):=uJ
def Wt s C:cZ prog 89 (bF s (aa 6 0)) (bC s (aa 6 0)++[C]) [] 1=some (C.finish (.tuple #[]),[],[(45,[.mk (.extern 58),.mk .enable])],true,0):=uJ
def Ws s C:cZ prog 89 (bF s (aa 7 0)) (bC s (aa 7 0)++[C]) [] 1=some (C.finish (.tuple #[]),[],[(45,[.mk (.extern 58),.mk .enable])],true,0):=uJ
def aEY s c(h0:0<c)(h:c<8)C:cZ prog 89 (bF s (aa c 0)) (bC s (aa c 0)++[C]) [] 1=some (C.finish (.tuple #[]),[],[(45,[.mk (.extern 58),.mk .enable])],true,0):=by
 have L:c=1\/c=2\/c=3\/c=4\/c=5\/c=6\/c=7:=by omega
 rcases L with rfl|rfl|rfl|rfl|rfl|rfl|rfl
 ·exact WA s C
 ·exact Wy s C
 ·exact Ww s C
 ·exact Wv s C
 ·exact Wu s C
 ·exact Wt s C
 ·exact Ws s C
noncomputable def cF(s:Nat):Frame:=aR prog 53 (bF s (aa 0 0)) (bC s (aa 0 0)) an2
noncomputable def dF(s:Nat):Frame:=aR prog 1 (cF s) [] []
def aBf s:cZ prog 53 (bF s (aa 0 0)) (bC s (aa 0 0)) an2 1=some (cF s,[],[(45,[.sh s (some (79,8)),.sh s (some (79,8))])],true,1):=uJ
def aBi s:Ky.walk prog 1 (cF s) [] []=some (dF s,[],[],[(45,[.mk (.extern 81),.mk (.read (iD s))])])/\seen prog 45 (gV [.mk (.extern 81),.mk (.read (iD s))]).toArray=#[rZ (.read (iD s))]:=⟨uJ,uJ⟩
def aBg s C:cZ prog 41 (dF s) [C] [] 1=some (C.finish (.tuple #[]),[],[(45,[.mk (.extern 58),.mk .enable])],true,0):=uJ
section
variable (s r c n cap:Nat)(p:Option Addr)(f:Nat->Value)(v:Value)
noncomputable def o6:Frame:=oR s (bQ f 3 (fK r)) []
def ZZ(r:Nat):Value:=.func (.func 44) #[fK r] #[]
def an7(c n cap:Nat)(p:Option Addr):List An:=[.val (sl p n cap),.adr c]
noncomputable def aJs:List Item:=(aR prog 19 (o6 0 0 λ_=>undef) [] (an7 0 0 0 none)).todo
noncomputable def Dp:Array Oper:=match aJs with
 | .inRegion ops _::_=>ops
 |_=>#[]
noncomputable def oK7:List Item:=aJs.tail
noncomputable def oF7(i:Nat):Value:=(aR prog 19 (o6 s r f) [] (an7 c n cap p)).tmps.getD i undef
def aFo:bV (Ky.walk prog 19 (o6 s r f) [] (an7 c n cap p))=true/\aR prog 19 (o6 s r f) [] (an7 c n cap p)=(fb 23).at (oA s (oF7 s r c n cap p f)) (.inRegion Dp [7,8,9,10]::oK7)/\bu prog 19 (o6 s r f) [] (an7 c n cap p)=[]/\
 thin (bM prog 19 (o6 s r f) [] (an7 c n cap p))=[(23,[.st .plain ⟨r,14,none⟩ (ZZ r)]),(23,[.ld .plain ⟨s,4,none⟩ (sl p n cap)]),(23,[.nw (.cells #[fK r] 91 (0,0)) c])]/\oF7 s r c n cap p f 3=fK r/\oF7 s r c n cap p f 38=fK s/\oF7 s r c n cap p f 42=sl p n cap/\oF7 s r c n cap p f 44=.slice (some ⟨c,0,none⟩) 1 1:=
 ⟨uJ,uJ,uJ,uJ,uJ,uJ,uJ,uJ⟩
noncomputable def o7:Oper:=match Dp[7]? with
 |some o=>o
 |none=>{dst:=none,op:=.nilCheck (.tmp 0),type:=0,pos:= "",after:=#[],guard:=none}
def Yw:Dp[7]? =some o7/\o7.op=.call {callee:=.builtin .append,args:=#[.tmp 42,.tmp 44],argTypes:=#[70,70]}/\o7.dst=some 45/\o7.guard=none/\fF prog o7=true:=
 ⟨uJ,uJ,uJ,uJ,uJ⟩
end
section
variable (s r n:Nat)(f:Nat->Value)(v:Nat×Nat×Nat)
def vS(v:Nat×Nat×Nat):Value:=.slice (some ⟨v.1,0,none⟩) v.2.1 v.2.2
noncomputable def o8:Frame:=(fb 23).at (oA s (bQ (bQ (bQ f 3 (fK r)) 38 (fK s)) 45 (vS v))) (.inRegion Dp [8,9,10]::oK7)
noncomputable def kU:Frame:=(bu prog 10 (o8 s r f v) [] []).headD default
def aFn:bV (Ky.walk prog 10 (o8 s r f v) [] [])=true/\aR prog 10 (o8 s r f v) [] []=add0 s/\bu prog 10 (o8 s r f v) [] []=[kU s r f v]/\thin (bM prog 10 (o8 s r f v) [] [])=[(23,[.st .plain ⟨s,4,none⟩ (vS v)])]:=
 ⟨uJ,uJ,uJ,uJ⟩
noncomputable def Ym:Frame:=aR prog 4 ((kU s r f v).finish (.tuple #[])) [] []
def Um:cZ prog 4 ((kU s r f v).finish (.tuple #[])) [] [] 0=some (Ym s r f v,[],[],true,0):=uJ
noncomputable def rX:Frame:=(Ym s r f v).finish undef
def Yl w cs:stepG prog true (G (Ym s r f v) cs) w=.spawn (G (rX s r f v) cs) (G (rt0 ⟨s,r,0,0⟩) []) w #[]:=uJ
noncomputable def zl(C:Frame):Frame:=(bu prog 11 (rX s r f v) [C] [.val (.int .i64 n)]).headD default
def OU C:bV (Ky.walk prog 11 (rX s r f v) [C] [.val (.int .i64 n)])=true/\aR prog 11 (rX s r f v) [C] [.val (.int .i64 n)]=Frame.enter prog 39 #[fK s] .deferred/\bu prog 11 (rX s r f v) [C] [.val (.int .i64 n)]=[zl s r n f v C,C]/\thin (bM prog 11 (rX s r f v) [C] [.val (.int .i64 n)])=[(23,[.ld .plain ⟨r,0,none⟩ (.int .i64 n)])]/\(zl s r n f v C).mode=.returning:=
 ⟨uJ,uJ,uJ,uJ,uJ⟩
def OT C:bV (Ky.walk prog 1 (zl s r n f v C) [C] [])=true/\aR prog 1 (zl s r n f v C) [C] []=C.finish (.int .i64 n)/\bu prog 1 (zl s r n f v C) [C] []=[]/\thin (bM prog 1 (zl s r n f v C) [C] [])=[]:=
 ⟨uJ,uJ,uJ,uJ⟩
end
noncomputable def FX(s:Nat):Frame:=Frame.enter prog 18 #[fK s] .normal
noncomputable def FW(s:Nat):Frame:=(bu prog 6 (FX s) [] []).headD default
noncomputable def XA(s:Nat):Frame:=aR prog 13 ((FW s).finish (.tuple #[])) [] []
noncomputable def CW(s:Nat):Frame:=(XA s).finish undef
def sA(s:Nat)(f:Nat->Value):Act:={tmps:=⟨(List.range 29).map λi=>if i=0 then fK s else f i⟩,defers:=oD s}
noncomputable def sTd:List Item:=(aR prog 12 (CW 0) [] [.val (sl none 0 0)]).todo
noncomputable def sC:Code:=match sTd with
 | .code (.loop c)::_=>c
 |_=>.skip
noncomputable def sK:List Item:=sTd.tail
noncomputable def MV:List Item:=.code sC::.inLoop sC::sK
def sN(f:Nat->Value)(i n:Nat):Nat->Value:=bQ (bQ f 17 (.int .i64 n)) 18 (.int .i64 i)
noncomputable def cTd:List Item:=(aR prog 5 ((fb 18).at (sA 0 (sN (λ_=>undef) 0 0)) MV) [] []).todo.tail
noncomputable def sB(s i:Nat)(g:Nat->Value):Frame:=(bu prog 11 ((fb 18).at (sA s (bQ g 18 (.int .i64 i))) cTd) [] []).headD default
noncomputable def xTd:List Item:=(exitTo 0 cTd).getD []
noncomputable def sW(s:Nat)(g:Nat->Value):Frame:=(bu prog 5 ((fb 18).at (sA s g) xTd) [] []).headD default
section
variable (s i n cap:Nat)(p:Option Addr)(f g:Nat->Value)(x:Int)
def Tu:bV (Ky.walk prog 6 (FX s) [] [])=true/\aR prog 6 (FX s) [] []=Frame.enter prog 38 #[fK s] .normal/\bu prog 6 (FX s) [] []=[FW s]/\thin (bM prog 6 (FX s) [] [])=[]/\(FW s).mode=.run:=
 ⟨uJ,uJ,uJ,uJ,uJ⟩
def Tt:bV (Ky.walk prog 13 ((FW s).finish (.tuple #[])) [] [])=true/\bu prog 13 ((FW s).finish (.tuple #[])) [] []=[]/\thin (bM prog 13 ((FW s).finish (.tuple #[])) [] [])=[]:=
 ⟨uJ,uJ,uJ⟩
def Tp:Ky.walk prog 1 (XA s) [] []=some (CW s,[],[],[(18,[.st .plain ⟨s,7,none⟩ (.bool true)])]):=uJ
noncomputable def sF3(j:Nat):Value:=(aR prog 12 (CW s) [] [.val (sl p n cap)]).tmps.getD j undef
def Tn:bV (Ky.walk prog 12 (CW s) [] [.val (sl p n cap)])=true/\aR prog 12 (CW s) [] [.val (sl p n cap)]=(fb 18).at (sA s (sF3 s n cap p)) (.code (.loop sC)::sK)/\bu prog 12 (CW s) [] [.val (sl p n cap)]=[]/\thin (bM prog 12 (CW s) [] [.val (sl p n cap)])=[(18,[.ld .plain ⟨s,4,none⟩ (sl p n cap)])]/\sF3 s n cap p 17=.int .i64 n/\sF3 s n cap p 18=.int .i64 0:=
 ⟨uJ,uJ,uJ,uJ,uJ,uJ⟩
def TP:bV (Ky.walk prog 5 ((fb 18).at (sA s (sN f i n)) MV) [] [])=true/\aR prog 5 ((fb 18).at (sA s (sN f i n)) MV) [] []=(fb 18).at (sA s (bQ (sN f i n) 19 (.bool (decide ((i:Int)<(n:Int)))))) (.code (.cond (.tmp 19) .skip (.exit 0))::cTd)/\bu prog 5 ((fb 18).at (sA s (sN f i n)) MV) [] []=[]/\thin (bM prog 5 ((fb 18).at (sA s (sN f i n)) MV) [] [])=[]:=
 ⟨uJ,uJ,uJ,uJ⟩
def aJc b:(sA s (bQ f 19 (.bool b))).eval (.tmp 19)=.bool b:=uJ
def TQ:bV (Ky.walk prog 11 ((fb 18).at (sA s (bQ g 18 (.int .i64 i))) cTd) [] [])=true/\aR prog 11 ((fb 18).at (sA s (bQ g 18 (.int .i64 i))) cTd) [] []=rG s i 1/\bu prog 11 ((fb 18).at (sA s (bQ g 18 (.int .i64 i))) cTd) [] []=[sB s i g]/\thin (bM prog 11 ((fb 18).at (sA s (bQ g 18 (.int .i64 i))) cTd) [] [])=[]:=
 ⟨uJ,uJ,uJ,uJ⟩
noncomputable def ze(j:Nat):Value:=(aR prog 6 ((sB s i (bQ g 17 (.int .i64 n))).finish (.int .i64 x)) [] []).tmps.getD j undef
def aBT:bV (Ky.walk prog 6 ((sB s 0 (bQ g 17 (.int .i64 n))).finish (.int .i64 x)) [] [])=true/\aR prog 6 ((sB s 0 (bQ g 17 (.int .i64 n))).finish (.int .i64 x)) [] []=(fb 18).at (sA s (ze s 0 n g x)) (.inLoop sC::sK)/\bu prog 6 ((sB s 0 (bQ g 17 (.int .i64 n))).finish (.int .i64 x)) [] []=[]/\thin (bM prog 6 ((sB s 0 (bQ g 17 (.int .i64 n))).finish (.int .i64 x)) [] [])=[]/\ze s 0 n g x 17=.int .i64 n/\ze s 0 n g x 18=.int .i64 ((0+1:Nat):Int):=
 ⟨uJ,uJ,uJ,uJ,uJ,uJ⟩
def aBS:bV (Ky.walk prog 6 ((sB s 1 (bQ g 17 (.int .i64 n))).finish (.int .i64 x)) [] [])=true/\aR prog 6 ((sB s 1 (bQ g 17 (.int .i64 n))).finish (.int .i64 x)) [] []=(fb 18).at (sA s (ze s 1 n g x)) (.inLoop sC::sK)/\bu prog 6 ((sB s 1 (bQ g 17 (.int .i64 n))).finish (.int .i64 x)) [] []=[]/\thin (bM prog 6 ((sB s 1 (bQ g 17 (.int .i64 n))).finish (.int .i64 x)) [] [])=[]/\ze s 1 n g x 17=.int .i64 n/\ze s 1 n g x 18=.int .i64 ((1+1:Nat):Int):=
 ⟨uJ,uJ,uJ,uJ,uJ,uJ⟩
def aBR:bV (Ky.walk prog 6 ((sB s 2 (bQ g 17 (.int .i64 n))).finish (.int .i64 x)) [] [])=true/\aR prog 6 ((sB s 2 (bQ g 17 (.int .i64 n))).finish (.int .i64 x)) [] []=(fb 18).at (sA s (ze s 2 n g x)) (.inLoop sC::sK)/\bu prog 6 ((sB s 2 (bQ g 17 (.int .i64 n))).finish (.int .i64 x)) [] []=[]/\thin (bM prog 6 ((sB s 2 (bQ g 17 (.int .i64 n))).finish (.int .i64 x)) [] [])=[]/\ze s 2 n g x 17=.int .i64 n/\ze s 2 n g x 18=.int .i64 ((2+1:Nat):Int):=
 ⟨uJ,uJ,uJ,uJ,uJ,uJ⟩
def aBQ:bV (Ky.walk prog 6 ((sB s 3 (bQ g 17 (.int .i64 n))).finish (.int .i64 x)) [] [])=true/\aR prog 6 ((sB s 3 (bQ g 17 (.int .i64 n))).finish (.int .i64 x)) [] []=(fb 18).at (sA s (ze s 3 n g x)) (.inLoop sC::sK)/\bu prog 6 ((sB s 3 (bQ g 17 (.int .i64 n))).finish (.int .i64 x)) [] []=[]/\thin (bM prog 6 ((sB s 3 (bQ g 17 (.int .i64 n))).finish (.int .i64 x)) [] [])=[]/\ze s 3 n g x 17=.int .i64 n/\ze s 3 n g x 18=.int .i64 ((3+1:Nat):Int):=
 ⟨uJ,uJ,uJ,uJ,uJ,uJ⟩
def aBP:bV (Ky.walk prog 6 ((sB s 4 (bQ g 17 (.int .i64 n))).finish (.int .i64 x)) [] [])=true/\aR prog 6 ((sB s 4 (bQ g 17 (.int .i64 n))).finish (.int .i64 x)) [] []=(fb 18).at (sA s (ze s 4 n g x)) (.inLoop sC::sK)/\bu prog 6 ((sB s 4 (bQ g 17 (.int .i64 n))).finish (.int .i64 x)) [] []=[]/\thin (bM prog 6 ((sB s 4 (bQ g 17 (.int .i64 n))).finish (.int .i64 x)) [] [])=[]/\ze s 4 n g x 17=.int .i64 n/\ze s 4 n g x 18=.int .i64 ((4+1:Nat):Int):=
 ⟨uJ,uJ,uJ,uJ,uJ,uJ⟩
def aBO:bV (Ky.walk prog 6 ((sB s 5 (bQ g 17 (.int .i64 n))).finish (.int .i64 x)) [] [])=true/\aR prog 6 ((sB s 5 (bQ g 17 (.int .i64 n))).finish (.int .i64 x)) [] []=(fb 18).at (sA s (ze s 5 n g x)) (.inLoop sC::sK)/\bu prog 6 ((sB s 5 (bQ g 17 (.int .i64 n))).finish (.int .i64 x)) [] []=[]/\thin (bM prog 6 ((sB s 5 (bQ g 17 (.int .i64 n))).finish (.int .i64 x)) [] [])=[]/\ze s 5 n g x 17=.int .i64 n/\ze s 5 n g x 18=.int .i64 ((5+1:Nat):Int):=
 ⟨uJ,uJ,uJ,uJ,uJ,uJ⟩
def aBN:bV (Ky.walk prog 6 ((sB s 6 (bQ g 17 (.int .i64 n))).finish (.int .i64 x)) [] [])=true/\aR prog 6 ((sB s 6 (bQ g 17 (.int .i64 n))).finish (.int .i64 x)) [] []=(fb 18).at (sA s (ze s 6 n g x)) (.inLoop sC::sK)/\bu prog 6 ((sB s 6 (bQ g 17 (.int .i64 n))).finish (.int .i64 x)) [] []=[]/\thin (bM prog 6 ((sB s 6 (bQ g 17 (.int .i64 n))).finish (.int .i64 x)) [] [])=[]/\ze s 6 n g x 17=.int .i64 n/\ze s 6 n g x 18=.int .i64 ((6+1:Nat):Int):=
 ⟨uJ,uJ,uJ,uJ,uJ,uJ⟩
def aBM:bV (Ky.walk prog 6 ((sB s 7 (bQ g 17 (.int .i64 n))).finish (.int .i64 x)) [] [])=true/\aR prog 6 ((sB s 7 (bQ g 17 (.int .i64 n))).finish (.int .i64 x)) [] []=(fb 18).at (sA s (ze s 7 n g x)) (.inLoop sC::sK)/\bu prog 6 ((sB s 7 (bQ g 17 (.int .i64 n))).finish (.int .i64 x)) [] []=[]/\thin (bM prog 6 ((sB s 7 (bQ g 17 (.int .i64 n))).finish (.int .i64 x)) [] [])=[]/\ze s 7 n g x 17=.int .i64 n/\ze s 7 n g x 18=.int .i64 ((7+1:Nat):Int):=
 ⟨uJ,uJ,uJ,uJ,uJ,uJ⟩
def TN(h:i<8):bV (Ky.walk prog 6 ((sB s i (bQ g 17 (.int .i64 n))).finish (.int .i64 x)) [] [])=true/\aR prog 6 ((sB s i (bQ g 17 (.int .i64 n))).finish (.int .i64 x)) [] []=(fb 18).at (sA s (ze s i n g x)) (.inLoop sC::sK)/\bu prog 6 ((sB s i (bQ g 17 (.int .i64 n))).finish (.int .i64 x)) [] []=[]/\thin (bM prog 6 ((sB s i (bQ g 17 (.int .i64 n))).finish (.int .i64 x)) [] [])=[]/\ze s i n g x 17=.int .i64 n/\ze s i n g x 18=.int .i64 ((i+1:Nat):Int):=by
 have L:i=0\/i=1\/i=2\/i=3\/i=4\/i=5\/i=6\/i=7:=by omega
 rcases L with rfl|rfl|rfl|rfl|rfl|rfl|rfl|rfl
 ·exact aBT s n g x
 ·exact aBS s n g x
 ·exact aBR s n g x
 ·exact aBQ s n g x
 ·exact aBP s n g x
 ·exact aBO s n g x
 ·exact aBN s n g x
 ·exact aBM s n g x
def aJb:exitTo 0 cTd=some xTd:=uJ
def TM:bV (Ky.walk prog 5 ((fb 18).at (sA s g) xTd) [] [])=true/\aR prog 5 ((fb 18).at (sA s g) xTd) [] []=BR s/\bu prog 5 ((fb 18).at (sA s g) xTd) [] []=[sW s g]/\thin (bM prog 5 ((fb 18).at (sA s g) xTd) [] [])=[]:=
 ⟨uJ,uJ,uJ,uJ⟩
noncomputable def sX(C:Frame):Frame:=(bu prog 3 ((sW s g).finish (.tuple #[])) [C] []).headD default
def XL C:bV (Ky.walk prog 3 ((sW s g).finish (.tuple #[])) [C] [])=true/\aR prog 3 ((sW s g).finish (.tuple #[])) [C] []=Frame.enter prog 39 #[fK s] .deferred/\bu prog 3 ((sW s g).finish (.tuple #[])) [C] []=[sX s g C,C]/\thin (bM prog 3 ((sW s g).finish (.tuple #[])) [C] [])=[]/\(sX s g C).mode=.returning:=
 ⟨uJ,uJ,uJ,uJ,uJ⟩
def aFc C:bV (Ky.walk prog 1 (sX s g C) [C] [])=true/\aR prog 1 (sX s g C) [C] []=C.finish (.tuple #[])/\bu prog 1 (sX s g C) [C] []=[]/\thin (bM prog 1 (sX s g C) [C] [])=[]:=
 ⟨uJ,uJ,uJ,uJ⟩
end
end Co
