/- Ends: a part. Conditions: none. -/
import Derived.Test.YtmanpggemmgnnaaGreatDoorA29
import Derived.Test.YtmanpggemmgnnaaGreatDoorA36
set_option linter.all false
set_option maxHeartbeats 8000000
set_option maxRecDepth 1000000
namespace Go.Proofs.YtmanpggemmgnnaaGreatDoor
noncomputable section
open Go Go.RowKit Go.Shelf Ba Fr Tryz
def Ĺ:=@World.ownsMap.lookup
def ĸ:=@Calls.quiet_of_same
def ķ:=@World.putObj_size
def Ķ:=@World.size_alloc
def ĵ:=@cell_one_new
def Ĵ:=@lt_of_block
def ĳ:=@results_tmp
def z37{p}(h:p):Go.RowKit.Hid p:=Go.Lib.hid h
def ua{a b}(x:a)(y:b):a/\b:=⟨x,y⟩
namespace Lv
def D.rh{P Goal k cs a w}{b:Frame}{id}{ops:List Oper}(h:∀R:Act->World->Prop,Hid (∀a' U,D P Goal U (b.atR a' k) cs->R a' U)->wpList P ops.toArray (Qr R) ops a w)(bz:uC ops.toArray=true:=by exact rfl):D P Goal w (b.atR a (.code (.region id ops.toArray false)::k)) cs:=D.reg bz λR I=>h R (z37 I)
end Lv
namespace Qu
open Tx Sp Wg Rd Bk Mp Lv
def Eg{beh}:∀n seen queue,ends beh n seen queue->queue.length<=n
 |n,seen,[],_=>by simp
 |0,_,_::_,h=>h.elim
 |n+1,seen,k::q,h=>by
  unfold ends at h;have:=Eg n _ _ h;simp only[b9,bt]at this ⊢;omega
def Qm(w:World)(B1:Nat)(v:Value)(l:List B):Prop:=∃p cap,v=.slice p l.length cap/\(∀k,v.ownBlock=some k->B1<=k/\k<w.heap.size)/\∀i x,l[i]? =some x->∃g o cur,p=some ⟨g,o,none⟩/\w.heap[g]? =some (.cells cur 9 (0,0))/\cur[o+i]? =some (av x)
def Qm.of{w B1 v l}(h:w.ownsRow B1 9 1 v l.length (l.map av)):Qm w B1 v l:=by
 have tP:=λk A=>h.lt k A;obtain⟨hl,L⟩:=h;rcases L with⟨rfl,h0⟩|⟨g,cap,cur,rfl,V,J,h3,h4,h5,h6⟩
 ·exact⟨none,0,by rw[h0],tP,λi x E=>by rw[eK h0]at E;simp at E⟩
 ·refine⟨_,cap,rfl,tP,λi x E=>⟨g,0,cur,rfl,J,?_⟩⟩;have hi:(l.map av)[i]? =some (av x):=by rw[eL,E];rfl
  rw[<-h6,pn,j7]at hi;split at hi
  ·rw[j0,<-iO];exact hi
  ·cases hi
def Qm.aA{w B1 v l S U}(h:Qm w B1 v l)(L:aj S w U)(Q:∀k,v.ownBlock=some k->¬S k):Qm U B1 v l:=by obtain⟨p,cap,rfl,V,J⟩:=h;refine⟨p,cap,rfl,λk A=>⟨(V k A).1,eJ (V k A).2 L.size⟩,λi x E=>?_⟩;obtain⟨g,o,cur,rfl,g1,g2⟩:=J i x E;exact⟨g,o,cur,rfl,(L.block g (Ĵ g1) (Q g rfl)).trans g1,g2⟩
def Qm.at{w B1 v l i x}(h:Qm w B1 v l)(E:l[i]? =some x):∃p cap,v=.slice (some p) l.length cap/\w.cell? (p.add i)=some (av x):=by
 obtain⟨p,cap,rfl,V,J⟩:=h;obtain⟨g,o,cur,rfl,g1,g2⟩:=J i x E;refine⟨_,cap,rfl,?_⟩;by_cases h0:i=0
 ·subst h0;have e:((⟨g,o,none⟩:Addr).add 0)=⟨g,o,none⟩:=by simp[Addr.add]
  rw[e];rw[mg]at g2;simpa [World.cell?,g1]using g2
 ·have e:((⟨g,o,none⟩:Addr).add i)=⟨g,o+i,none⟩:=by simp[Addr.add,h0]
  rw[e];simpa [World.cell?,g1]using g2
structure Who Goal(l g:Nat)lb b1 b2 B0 N(id:B)(beh:B->List B)all cs(h2 Jx:List B->(Nat->Prop)->World->Prop):Prop where
 keep:∀pre F W W' T,h2 pre F W->aj T W W'->(∀k,T k->k<W.heap.size->B0<=k/\¬F k)->h2 pre F W'
 box:∀pre F W,h2 pre F W->W.cell? ⟨b1,0,none⟩=some (.string ⟨id.toArray⟩)/\W.cell? ⟨b2,0,none⟩=some (.func (.func g) #[] lb)/\B0<=W.heap.size
 enter:∀args w,(callFunc g args).run Tq.prog w=.ok (.enter g args) w
 back:∀pre F W k,h2 pre F W->k.size<=maxLen->Calls Tq.prog g (#[.string k]++lb) W λe W'=>∃v,e=.returned v/\Qm W' W.heap.size v (beh k.data.toList)/\Below W.heap.size W W'
 small:∀k,(beh k).length<=1000000/\∀x∈beh k,x.length<=maxLen
 round:∀pre x F W fi,h2 pre F W->pre++[x]<+:all->x.length<=maxLen->
  (∀F' W',h2 (pre++[x]) F' W'->aj F W W'->(∀k,F' k->(F k\/W.heap.size<=k)/\k<W'.heap.size)->D Tq.prog Goal W' (fi.finish (.bool true)) cs)->
  (∀F' W',Jx (pre++[x]) F' W'->D Tq.prog Goal W' (fi.finish (.bool false)) cs)->
  ∃f tm ag bd,(Instr.yield l #[av x]).run Tq.prog W=.ok (.round l f tm ag bd) W/\D Tq.prog Goal W (Frame.round l f tm ag bd .normal) (fi::cs)
 Bl:N<=1000000
structure WI(h2:List B->(Nat->Prop)->World->Prop)B0 sb N id beh m pre seen queue F w qv:Prop where
 j:h2 pre F w
 fr:∀k,F k->k<w.heap.size
 sF:¬F sb
 sn:Seen w sb seen
 q:QV w B0 qv queue
 qF:∀k,qv.ownBlock=some k->¬F k/\k≠sb
 all:pre++Ew beh m seen queue=Ew beh N [id] [id]
 ends:ends beh m seen queue
 cnt:seen.length+m=N+queue.length
 mN:m<=N
 len:∀x∈queue,x.length<=maxLen
structure WI2(h2:List B->(Nat->Prop)->World->Prop)B0 sb(pre seen queue ns:List B)F w qv v i:Prop where
 j:h2 pre F w
 fr:∀k,F k->k<w.heap.size
 sF:¬F sb
 sn:Seen w sb (seen++news seen (ns.take i))
 q:QV w B0 qv (queue++news seen (ns.take i))
 qF:∀k,qv.ownBlock=some k->¬F k/\k≠sb
 row:∃B1,Qm w B1 v ns/\B0<=B1
 vq:∀k,v.ownBlock=some k->qv.ownBlock≠some k/\k≠sb
 le:i<=ns.length
def setCells_one(w:World)b o x:w.setCells b o [x]=w.setCell ⟨b,o,none⟩ x:=rfl
def QV.put{w B0 g o cap l}(h:QV w B0 (.slice (some ⟨g,o,none⟩) l.length cap) l)(Y:l.length+1<=cap)n:QV (w.setCell ⟨g,o+l.length*1,none⟩ (av n)) B0 (.slice (some ⟨g,o,none⟩) (l.length+1) cap) (l++[n]):=by
 obtain⟨g',o',vZ,e,V,J,h3,h4,h5⟩:=h;injection e with e1 e2 e3;injection e1 with e1;injection e1 with e1 e4;subst e1 e3 e4;obtain⟨cur,c1,c2,c3⟩:=h5 (by omega);have hb:(w.setCell ⟨g,o+l.length*1,none⟩ (av n)).heap[g]? =some (.cells (cur.setIfInBounds (o+l.length*1) (av n)) 9 (0,0)):=by unfold World.setCell;simp[gC,c1]
 refine⟨g,o,cap,by simp,by simpa using Y,J,h3,by simpa using h4,λ_=>⟨_,hb,by simpa using c2,λi x E=>?_⟩⟩;by_cases hi:i<l.length
 ·rw[fy hi]at E;rw[bJ (by omega)];exact c3 i x E
 ·have hi2:i=l.length:=by
   have:=(bA.1 E).1;simp at this;omega
  subst hi2;simp at E;subst E;rw[pn,cG (by omega)]
def IK{B1 v n i x}{w:World}{xs:List B}(h:w.ownsRow B1 9 1 v n (xs.map av))(E:xs[i]? =some x):∃p cap,v=.slice (some p) n cap/\w.cell? (p.add i)=some (av x):=by obtain⟨p,cap,e,X⟩:=Lo.fZ h;obtain⟨a,rfl,_,_,L⟩:=X i (av x) (by rw[eL,E];rfl);exact⟨a,cap,e,L⟩
def aJS{p:Prop}(h:p):p:=h
def Kc{Goal l g lb b1 b2 B0 N beh fc cs h2 Jx F W}{id}
 (H:Who Goal l g lb b1 b2 B0 N id beh (Ew beh N [id] [id]) (fc::cs) h2 Jx) (hid:id.length<=maxLen) (hB0:B0=W.heap.size) (h0:h2 [] F W) (hF:∀k,F k->k<W.heap.size) (GZ:ends beh N [id] [id])
 (wo:∀F' W',h2 (Ew beh N [id] [id]) F' W'->D Tq.prog Goal W' (fc.finish (.tuple #[])) cs) (mY:∀pre F' W',pre<+:Ew beh N [id] [id]->Jx pre F' W'->D Tq.prog Goal W' (fc.finish (.tuple #[])) cs):
 D Tq.prog Goal W (Frame.enter Tq.prog 132 #[.func (.yield l) #[] #[],.pointer (some ⟨b1,0,none⟩),.pointer (some ⟨b2,0,none⟩)] .normal) (fc::cs):=by
 obtain⟨xd,wj,uG⟩:=H.box _ _ _ h0;have hv:=z37 (ua H (ua GZ (ua wo (ua mY (ua h0 (ua hF hid))))));have HB:=z37 hB0;clear H GZ wo mY h0 hF hid wj uG hB0;have hmm:=@run_makeMap Tq.prog;refine D.enter Tq.func132 rfl ?_;simp only[ntmps132,eC,bt,dt,Nat.reduceAdd,Nat.reduceSub,dC,dK,eI,cY,cg,cf];refine D.seq (D.rh λR I=>?_);have c1:aj (λ_=>False) W (W.alloc (.map #[] 0)):=(aj.refl _ W).alloc _;have k1:(W.alloc (.map #[] 0)).cell? ⟨b1,0,none⟩=some (.string ⟨id.toArray⟩):=c1.bB xd (λe=>e);have A0:SM (W.alloc (.map #[] 0)) W.heap.size []:=SM.made W;have UT:(W.alloc (.map #[] 0)).heap.size=W.heap.size+1:=Ķ ..;have C1:=z37 c1;clear c1;go_wp2_with (refine Mp.insert rfl (.tmp 9) (.tmp 10) (.const (.int .i64 1)) 67 rfl 3 ((Tq.underlying 67).trans underlying67) W.heap.size [] rfl A0 (by decide) ⟨id.toArray⟩ (.int .i64 1) rfl rfl hv.out.2.2.2.2.2.2 ?_;intro w2 ky LS);refine I.out _ _ ?_;have c2:aj (·=W.heap.size) W w2:=(C1.out.mono (λ_ _ e=>e.elim)).trans (dY LS);have k2:w2.cell? ⟨b1,0,none⟩=some (.string ⟨id.toArray⟩):=c2.bB xd (λe=>by have e:b1=W.heap.size:=e;have:=World.block_lt_of_cell? _ _ xd;simp only at this;omega);have Mo:W.heap.size<w2.heap.size:=ky.lt;replace ky:=z37 ky;have C2:=z37 c2;clear I R C1 c2 LS k1 A0 UT;refine D.seq (D.rh λR I=>?_);go_wp2_with fail;refine I.out _ _ ?_;clear I R;have cA:aj (·=W.heap.size) W (w2.alloc (.cells #[.string ⟨id.toArray⟩] 9)):=C2.out.alloc _;have hq:QV (w2.alloc (.cells #[.string ⟨id.toArray⟩] 9)) B0 (.slice (some ⟨w2.heap.size,0,none⟩) 1 1) [id]:=by
  refine⟨w2.heap.size,0,1,rfl,aI _,by decide,by have:=HB.out;omega,by simp,λ_=>⟨#[.string ⟨id.toArray⟩],heap_alloc_new _ _,by simp,λi x E=>?_⟩⟩;cases i with
  |zero=>simp at E;subst E;rfl
  |succ i=>simp at E
 have aDQ:Seen (w2.alloc (.cells #[.string ⟨id.toArray⟩] 9)) W.heap.size [id]:=by have:Seen w2 W.heap.size ([]++[id]):=Seen.put (m:=[]) ⟨by simp,λk=>by simp[M.get]⟩ ky.out;exact this.aA ((aj.refl (λ_=>False) w2).alloc _) (λe=>e)
 obtain⟨H,GZ,wo,mY,h0,hF,hid⟩:=hv.out;have xo:WI h2 B0 W.heap.size N id beh N [] [id] [id] F (w2.alloc (.cells #[.string ⟨id.toArray⟩] 9)) (.slice (some ⟨w2.heap.size,0,none⟩) 1 1):=by
  refine⟨H.keep _ _ _ _ _ h0 cA (λk A tP=>by omega),λk A=>?_,λe=>?_,aDQ,hq,λk A=>?_,rfl,GZ,by simp;omega,aI _,λx E=>?_⟩
  ·have:=hF k A;simp;omega
  ·have:=hF _ e;omega
  ·simp only[Value.ownBlock,cI]at A;subst A;exact⟨λe=>by have:=hF _ e;omega,by omega⟩
  ·obtain rfl:=bW.1 E;exact hid
 clear hq aDQ cA C2 k2 Mo xd h0 hF;generalize w2.alloc (.cells #[.string ⟨id.toArray⟩] 9)=w3 at xo ⊢;generalize hqv:(Value.slice (some ⟨w2.heap.size,0,none⟩) 1 1)=qv0 at xo ⊢;clear hqv ky w2;refine D.block ?_;refine D.while (m:=N) (λm w a=>∃(pre seen queue:List B) (F:Nat->Prop) (qv x3 x6 x7 x8 x9 x10 x11 x12 x13 x14 x15 x16 x17 x18 x19 x20 x21 x22 x23 x24 x25 x26 x27 x28 x29 x30 x31 x32 x33 x34 x35 x36 x37 x38 x39 x40 x41 x42 x43 x44:Value),a={tmps:=#[.func (.yield l) #[] #[],.pointer (some ⟨b1,0,none⟩),.pointer (some ⟨b2,0,none⟩),x3,.map (some W.heap.size),qv,x6,x7,x8,x9,x10,x11,x12,x13,x14,x15,x16,x17,x18,x19,x20,x21,x22,x23,x24,x25,x26,x27,x28,x29,x30,x31,x32,x33,x34,x35,x36,x37,x38,x39,x40,x41,x42,x43,x44],defers:=[]}/\WI h2 B0 W.heap.size N id beh m pre seen queue F w qv) ⟨[],[id],[id],F,qv0,_,_,_,_,_,_,_,_,_,_,_,_,_,_,_,_,_,_,_,_,_,_,_,_,_,_,_,_,_,_,_,_,_,_,_,_,_,_,_,_,rfl,xo⟩ ?_;clear xo w3 qv0;rintro m w a ⟨pre,seen,queue,F,qv,x3,x6,x7,x8,x9,x10,x11,x12,x13,x14,x15,x16,x17,x18,x19,x20,x21,x22,x23,x24,x25,x26,x27,x28,x29,x30,x31,x32,x33,x34,x35,x36,x37,x38,x39,x40,x41,x42,x43,x44,rfl,hI⟩ IH;replace IH:=z37 IH;cases queue with
 |nil=>
  obtain⟨g1,o1,aLv,rfl,-⟩:=hI.q;have wA:=hI.all;have hJ:=hI.j;have hbn:Ew beh m seen []=[]:=by cases m<;>rfl
  rw[hbn,jb]at wA;subst wA;have hd:=z37 (wo _ _ hJ);clear hI hJ wo mY H GZ IH hbn;refine D.seq (D.seq (D.rh λR I=>?_));go_wp2_with fail;refine I.out _ _ ?_;clear I R;refine D.cond rfl ?_;refine D.exit rfl (D.fin rfl ?_);exact D.back (v:=.tuple #[]) rfl rfl rfl Tq.func132 (results_none rfl _ _ _) hd.out
 |cons x queue=>
  obtain⟨m,rfl⟩:∃m',m=m'+1:=by have:=Eg _ _ _ hI.ends;simp at this;exact⟨m - 1,by omega⟩
  obtain⟨g1,o1,aLv,hqv,-⟩:=hI.q;subst hqv;have hq:=hI.q;obtain⟨hn1,AD,Bx,Y5⟩:=hq.tail;simp only[bt]at hq Y5 Bx ⊢;have wA:=hI.all;have mZ:=hI.ends;replace wA:pre++x::Ew beh m (seen++news seen (beh x)) (queue++news seen (beh x))=Ew beh N [id] [id]:=wA;replace mZ:ends beh m (seen++news seen (beh x)) (queue++news seen (beh x)):=mZ;have Mj:=hI.len x (bj ..);have S:=z37 (ua hI (ua Y5 (ua wA mZ)));have HH:=z37 (ua H (ua wo mY));have DG:g1<w.heap.size/\¬F g1/\g1≠W.heap.size/\B0<=g1:=by obtain⟨g',e,V,J⟩:=hI.q.block;simp only[Value.ownBlock,cI]at e;subst e;exact⟨J,(hI.qF _ rfl).1,(hI.qF _ rfl).2,V⟩
  replace DG:=z37 DG;clear hI hq Y5 wA mZ H wo mY GZ hn1 hv;replace Bx:w.cell? ⟨g1,o1,none⟩=some (.string ⟨x.toArray⟩):=Bx;have aKI:((0:Int)<((queue.length+1:Nat):Int))=True:=ie (by omega);refine D.seq (D.seq (D.rh λR I=>?_));go_wp2_with fail;refine I.out _ _ ?_;clear I R;refine D.cond rfl ?_;refine D.skip (D.block (D.seq (D.rh λR I=>?_)));have e10:((⟨g1,o1,none⟩:Addr).add 0)=⟨g1,o1,none⟩:=by simp[Addr.add]
  go_wp2_with fail;refine I.out _ _ ?_;clear I R;refine D.seq (D.rh λR I=>?_);have cont:∀(q2 y3 y7 y8 y9 y10 y11 y12 y13 y14 y15 y16 y17 y18 y19 y20 y21 y22 GC y24 E1 y26 y27 y28 Hi y30 y31 L4 y33 zr y35 y36 y37 uS Mb vA y41 AH y43 y44:Value),QV w B0 q2 queue->q2.ownBlock=some g1->R {tmps:=#[.func (.yield l) #[] #[],.pointer (some ⟨b1,0,none⟩),.pointer (some ⟨b2,0,none⟩),y3,.map (some W.heap.size),q2,.string ⟨x.toArray⟩,y7,y8,y9,y10,y11,y12,y13,y14,y15,y16,y17,y18,y19,y20,y21,y22,GC,y24,E1,y26,y27,y28,Hi,y30,y31,L4,y33,zr,y35,y36,y37,uS,Mb,vA,y41,AH,y43,y44],defers:=[]} w:=by
   intro q2 y3 y7 y8 y9 y10 y11 y12 y13 y14 y15 y16 y17 y18 y19 y20 y21 y22 GC y24 E1 y26 y27 y28 Hi y30 y31 L4 y33 zr y35 y36 y37 uS Mb vA y41 AH y43 y44 Y5 tU;refine I.out _ _ ?_;clear I R;obtain⟨hI,_,wA,mZ⟩:=S.out;obtain⟨H,wo,mY⟩:=HH.out;obtain⟨DG,L5,D2,hg4⟩:=DG.out;have hp:pre++[x]<+:Ew beh N [id] [id]:=⟨_,by rw[fN];exact wA⟩
   refine D.seq (D.seq (D.pre (l:=[_,_]) (r:=[_,_]) rfl λR I=>?_));replace I:=z37 I;go_wp2_with fail;refine I.out _ _ ?_;clear I R;refine D.aAZ (args:=#[av x]) _ rfl rfl rfl (λr Y=>?E) (H.round pre x F w _ hI.j hp Mj ?go ?stop)
   case E=>
    simp[execOp,resolve,invoke,go_sem];exact Y
   case stop=>
    intro F' W' hj;have hd:=z37 (mY _ _ _ hp hj);clear wo mY H hI wA mZ hp hj;refine D.called 24 rfl ?_;simp only[bo,cE,cj];refine D.post 3 rfl rfl λR I=>?_;replace I:=z37 I;simp only[cf,cg,lz,oX];go_wp2_with fail;refine I.out _ _ ?_;clear I R;refine D.cond rfl (D.ret rfl ?_);exact D.back (v:=.tuple #[]) rfl rfl rfl Tq.func132 (results_none rfl _ _ _) hd.out
   case go=>
    intro F' W' hj vx hF';have hb:=H.box _ _ _ hj;have wY:=H.back _ _ _ ⟨x.toArray⟩ hj (by exact Mj);have hsn:=hI.sn.aA vx hI.sF;have hq3:=Y5.aA vx (λk A=>by rw[tU]at A;obtain rfl:=ay A;exact L5);have eg:=H.enter;have A0:=H.small x;have k2:=hb.2.1;have uG:w.heap.size<=W'.heap.size:=vx.size;have hnF:¬F' g1/\¬F' W.heap.size:=⟨λe=>(hF' g1 e).1.elim L5 (λh=>by omega),λe=>(hF' _ e).1.elim hI.sF (λh=>by have:=HB.out;omega)⟩
    have Mh:=z37 (ua H (ua wo (ua mY (ua hI (ua wA (ua mZ (ua hp hj)))))));have hr:=z37 (ua hsn (ua hq3 (ua vx (ua hF' (ua A0 hnF)))));replace wY:=z37 wY;clear H wo mY hI wA mZ hp hj hsn hq3 vx hF' hb A0 Y5 hnF;refine D.called 24 rfl ?_;simp only[bo,cE,cj];refine D.post 3 rfl rfl λR I=>?_;replace I:=z37 I;simp only[cf,cg,lz,oX];go_wp2_with fail;refine I.out _ _ ?_;clear I R;refine D.cond rfl (D.skip (D.seq (D.rh λR I=>?_)));go_wp2_with fail;refine wY.out.mono ?_;rintro e W2 ⟨v,rfl,tM,fJ⟩;obtain⟨pv,qE,ev,-⟩:=aJS tM;subst ev;have R2:=z37 (ua tM fJ);clear tM fJ;go_wp2_with fail;refine I.out _ _ ?_;clear I R k2 eg wY;have hW2:WI2 h2 B0 W.heap.size (pre++[x]) seen queue (beh x) F' W2 q2 (.slice pv (beh x).length qE) 0:=by
     obtain⟨H,wo,mY,hI,wA,mZ,hp,hj⟩:=Mh.out;obtain⟨hsn,hq3,vx,hF',A0,hnF⟩:=hr.out;obtain⟨tM,fJ⟩:=R2.out;have cB:aj (λ_=>False) W' W2:=aj.nK fJ;have hB:=HB.out;have aT0:W.heap.size<w.heap.size:=by obtain⟨m,h,_⟩:=hI.sn;exact h.lt
     refine⟨H.keep _ _ _ _ _ hj cB (λk e _=>e.elim),λk A=>eJ (hF' k A).2 cB.size,hnF.2,?_,?_,λk A=>?_,⟨_,tM,by omega⟩,λk A=>?_,cQ _⟩
     ·simpa [news]using hsn.aA cB (λe=>e)
     ·simpa [news]using hq3.aA cB (λ_ _ e=>e)
     ·rw[tU]at A;obtain rfl:=ay A;exact⟨hnF.1,D2⟩
     ·have V:=(tM.choose_spec.choose_spec.2.1 k A).1;rw[tU];exact⟨λe=>by have:=ay e;omega,by omega⟩
    clear Bx Mj aKI AD uG R2;refine D.block ?_;refine D.while (m:=(beh x).length) (λm2 w a=>∃(i:Nat) (qv x3 x6 x7 x8 x9 x10 x11 x12 x13 x14 x15 x16 x17 x18 x19 x20 x21 x22 x23 x24 x25 x26 x27 x31 x32 x33 x34 x35 x36 x37 x38 x39 x40 x41 x42 x43 x44:Value),a={tmps:=#[.func (.yield l) #[] #[],.pointer (some ⟨b1,0,none⟩),.pointer (some ⟨b2,0,none⟩),x3,.map (some W.heap.size),qv,x6,x7,x8,x9,x10,x11,x12,x13,x14,x15,x16,x17,x18,x19,x20,x21,x22,x23,x24,x25,x26,x27,.slice pv (beh x).length qE,.int .i64 ((beh x).length:Nat),.int .i64 (i:Nat),x31,x32,x33,x34,x35,x36,x37,x38,x39,x40,x41,x42,x43,x44],defers:=[]}/\m2=(beh x).length - i/\WI2 h2 B0 W.heap.size (pre++[x]) seen queue (beh x) F' w qv (.slice pv (beh x).length qE) i) ⟨0,q2,_,_,_,_,_,_,_,_,_,_,_,_,_,_,_,_,_,_,_,_,_,_,_,_,_,_,_,_,_,_,_,_,_,_,_,_,_,rfl,rfl,hW2⟩ ?_;clear hW2;rintro m2 wr a ⟨i,qv,x3,x6,x7,x8,x9,x10,x11,x12,x13,x14,x15,x16,x17,x18,x19,x20,x21,x22,x23,x24,x25,x26,x27,x31,x32,x33,x34,x35,x36,x37,x38,x39,x40,x41,x42,x43,x44,rfl,rfl,I3⟩ IH2;replace IH2:=z37 IH2;by_cases tP:i<(beh x).length
    ·obtain⟨n,Q⟩:∃n,(beh x)[i]? =some n:=⟨_,bU tP⟩
     obtain⟨B1,tM,Ve⟩:=I3.row;obtain⟨p,aQp,e,uz⟩:=tM.at Q;injection e with e1 e2 e3;subst e1 e3;clear tM Ve B1;replace uz:wr.cell? (p.add i)=some (.string ⟨n.toArray⟩):=uz;have I3:=z37 I3;have qw:((i:Int)<((beh x).length:Int))=True:=ie (by omega);refine D.seq (D.rh λR I=>?_);go_wp2_with fail;refine I.out _ _ ?_;clear I R;refine D.seq (D.cond rfl (D.skip (D.seq (D.block (D.seq (D.rh λR I=>?_))))));go_wp2_with fail;refine I.out _ _ ?_;clear I R;clear uz;have uI:(beh x).take (i+1)=(beh x).take i++[n]:=by rw[fg,Q];rfl
     have hib:i<1000000:=by have:=hr.out.2.2.2.2.1.1;omega
     have Zd:n.length<=maxLen:=(hr.out.2.2.2.2.1).2 n (cM Q);obtain⟨sm,Aw,yB,B9⟩:=I3.out.sn;have hqs:(queue++news seen ((beh x).take i)).length<=2000000/\sm.length<maxLen:=by
      have L:=Mh.out.2.2.2.1.cnt;have hq:=Eg _ _ _ Mh.out.2.2.2.2.2.1;have V:(news seen ((beh x).take i)).length<=(beh x).length:=by
       have:∀(l s:List B),(news s l).length<=l.length:=by
        intro l
        induction l with
        |nil=>intro s;exact aI _
        |cons y l ih=>intro s;unfold news;split;exact jx (ih _);exact Nat.succ_le_succ (ih _)
       exact cV (this _ _) (by rw[jE];omega)
      have J:=hr.out.2.2.2.2.1.1;have h3:=Mh.out.1.Bl;have h4:=Mh.out.2.2.2.1.mN;simp only[b9,bt]at L hq yB ⊢;unfold maxLen;omega
     have UT:=hqs.2;replace hqs:=hqs.1;by_cases oI:n∈seen++news seen ((beh x).take i)
     ·have ev:((M.get sm n).getD (.int .i64 0))=.int .i64 1:=by rw[B9 n,bk oI]
      have Fv:news seen ((beh x).take (i+1))=news seen ((beh x).take i):=by rw[uI,uk,bk oI,jb]
      clear yB B9 UT hqs;refine D.seq (D.rh λR I=>?_);go_wp2_with (at_lookup;refine Mp.lookup rfl _ _ 67 rfl 3 ((Tq.underlying 67).trans underlying67) (z:=.int .i64 0) (by simp[zeroValue3]) W.heap.size sm rfl Aw ⟨n.toArray⟩ rfl Zd ?_;rw[ev]);refine I.out _ _ ?_;clear I R;refine D.cond rfl (D.skip (D.inBlock (D.rh λR I=>?_)));have hIx:=z37 (ua I3.out Fv);go_wp2_with fail;refine I.out _ _ ?_;clear I R;obtain⟨J,Fv⟩:=hIx.out;refine IH2.out ((beh x).length - (i+1)) _ _ (by omega) ⟨i+1,qv,_,_,_,_,_,_,_,_,_,_,_,_,_,_,_,_,_,_,_,_,_,_,_,_,_,_,_,_,_,_,_,_,_,_,_,_,_,rfl,rfl,⟨J.j,J.fr,J.sF,?_,?_,J.qF,J.row,J.vq,by omega⟩⟩
      ·rw[Fv];exact J.sn
      ·rw[Fv];exact J.q
     ·have ev:((M.get sm n).getD (.int .i64 0))=.int .i64 0:=by rw[B9 n,aX oI]
      have Fv:news seen ((beh x).take (i+1))=news seen ((beh x).take i)++[n]:=by rw[uI,uk,aX oI]
      have HS:=z37 (ua yB B9);clear yB B9;refine D.seq (D.rh λR I=>?_);go_wp2_with (at_lookup;refine Mp.lookup rfl _ _ 67 rfl 3 ((Tq.underlying 67).trans underlying67) (z:=.int .i64 0) (by simp[zeroValue3]) W.heap.size sm rfl Aw ⟨n.toArray⟩ rfl Zd ?_;rw[ev]);refine I.out _ _ ?_;clear I R;refine D.cond rfl (D.seq (D.rh λR I=>?_));go_wp2_with (at_mapUpdate;refine Mp.store rfl _ _ _ 67 rfl 3 ((Tq.underlying 67).trans underlying67) W.heap.size sm rfl Aw UT ⟨n.toArray⟩ (.int .i64 1) rfl rfl Zd ?_;intro w4 NL VJ);refine I.out _ _ ?_;clear I R UT;have Pj:Seen w4 W.heap.size (seen++news seen ((beh x).take i)++[n]):=Seen.put HS.out NL;have c4:aj (·=W.heap.size) wr w4:=dY VJ;have G8:WI2 h2 B0 W.heap.size (pre++[x]) seen queue (beh x) F' wr qv (.slice (some p) (beh x).length qE) i:=I3.out;have hq4:=G8.q.aA c4 (λk A e=>(G8.qF k A).2 e);have hj4:h2 (pre++[x]) F' w4:=Mh.out.1.keep _ _ _ _ _ G8.j c4 (λk A _=>by subst A;exact⟨by have:=HB.out;omega,G8.sF⟩);have ML:∀k,F' k->k<w4.heap.size:=λk A=>eJ (G8.fr k A) c4.size;have wQ:∃B1,Qm w4 B1 (.slice (some p) (beh x).length qE) (beh x)/\B0<=B1:=by obtain⟨B1,V,J⟩:=G8.row;exact⟨B1,V.aA c4 (λk A e=>(G8.vq k A).2 e),J⟩
      have DT:W.heap.size<w4.heap.size:=NL.lt;have Z:=z37 (ua G8 (ua Pj (ua hj4 (ua ML (ua wQ (ua Fv DT))))));clear Pj c4 G8 hj4 ML wQ NL VJ Fv Aw HS sm ev I3 DT;obtain⟨gq,oq,Vv,rfl,hq1,Y5,hq3,aOQ,hq5⟩:=hq4;have hgq:=(Z.out.1.qF gq rfl)
      have hvq:=Z.out.1.vq;have Q4:=z37 (show QV w4 B0 (.slice (some ⟨gq,oq,none⟩) (queue++news seen ((beh x).take i)).length Vv) (queue++news seen ((beh x).take i))from⟨gq,oq,Vv,rfl,hq1,Y5,hq3,aOQ,hq5⟩);have hq5:=z37 hq5;have hgq:=z37 hgq;have hvq:=z37 hvq;have hB:=z37 hq3;generalize hqq:queue++news seen ((beh x).take i)=qq at *;obtain⟨i0,wW,xr,xU,ya⟩:=info_parts pI;have hn1:∀j u,[Value.string ⟨n.toArray⟩][j]? =some u->(w4.alloc (.cells #[.string ⟨n.toArray⟩] 9)).cell? ((⟨w4.heap.size,0,none⟩:Addr).add j)=some u:=ĵ w4 (.string ⟨n.toArray⟩) 9;refine D.rh λR I=>?_;have aC4:∀(w5:World) (q5 x3 x6 x7 x8 x9 x10 x11 x12 x13 x14 x15 x16 x17 x18 x19 x20 x21 x22 x23 x24 x25 x26 x27 x31 x32 x33 x34 x35 x36 x37 x38 x39 x40 x41 x42 x43 x44:Value),WI2 h2 B0 W.heap.size (pre++[x]) seen queue (beh x) F' w5 q5 (.slice (some p) (beh x).length qE) (i+1)->R {tmps:=#[.func (.yield l) #[] #[],.pointer (some ⟨b1,0,none⟩),.pointer (some ⟨b2,0,none⟩),x3,.map (some W.heap.size),q5,x6,x7,x8,x9,x10,x11,x12,x13,x14,x15,x16,x17,x18,x19,x20,x21,x22,x23,x24,x25,x26,x27,.slice (some p) (beh x).length qE,.int .i64 ((beh x).length:Nat),.int .i64 (i:Nat),x31,x32,x33,x34,x35,x36,x37,x38,x39,x40,x41,x42,x43,x44],defers:=[]} w5:=by intro w5 q5 x3 x6 x7 x8 x9 x10 x11 x12 x13 x14 x15 x16 x17 x18 x19 x20 x21 x22 x23 x24 x25 x26 x27 x31 x32 x33 x34 x35 x36 x37 x38 x39 x40 x41 x42 x43 x44 h5;refine I.out _ _ ?_;have h5:=z37 h5;clear I R Q4 hq5 hgq hvq hB hn1 Z hqs;refine D.inBlock (D.rh λR I=>?_);go_wp2_with fail;refine I.out _ _ ?_;clear I R;exact IH2.out ((beh x).length - (i+1)) _ _ (by omega) ⟨i+1,q5,_,_,_,_,_,_,_,_,_,_,_,_,_,_,_,_,_,_,_,_,_,_,_,_,_,_,_,_,_,_,_,_,_,_,_,_,_,rfl,rfl,h5.out⟩
      replace aC4:=z37 aC4;clear I;go_wp2_with (at_builtin;refine wpList_append_arg _ rfl (.tmp 40) (.tmp 42) 34 rfl 9 i0 (.string ByteArray.empty) 1 16 ((Tq.underlying 34).trans underlying34) wW xr xU ya rfl (by decide) gq oq qq.length Vv (qq.map av) rfl ?c0 ?c1 ⟨w4.heap.size,0,none⟩ 1 1 [.string ⟨n.toArray⟩] rfl rfl hn1 ?c2 ?c3 ?c4 ?c5 ?room ?grow)
      case c1=>
       intro j y hy;have jZ:0<Vv:=by have:=(bA.1 hy).1;omega
       obtain⟨cur,d1,d2,d3⟩:=hq5.out jZ;have:=d3 j y hy;simpa [World.cell?,d1]using this
      case c2=>rfl
      case c3=>
       intro Y;obtain⟨cur,d1,d2,d3⟩:=hq5.out (by omega);have Zi:oq+qq.length<cur.size:=by omega
       constructor
       ·simp[World.cell?,d1,Zi]
       ·simp[World.frozen?,d1]
      case c4=>unfold maxLen;omega
      case c5=>omega
      case room=>
       intro Y;go_wp2_with fail;obtain⟨G8,Pj,hj4,ML,wQ,Fv,DT⟩:=Z.out;have cA:aj (λ_=>False) w4 (w4.alloc (.cells #[.string ⟨n.toArray⟩] 9)):=(aj.refl _ w4).alloc _;have cS:aj (·=gq) w4 ((w4.alloc (.cells #[.string ⟨n.toArray⟩] 9)).setCell ⟨gq,oq+qq.length*1,none⟩ (av n)):=(cA.mono (S':=(·=gq)) (λ_ _ e=>e.elim)).setCell (p:=⟨gq,oq+qq.length*1,none⟩) (.inl rfl) _;have hQ:QV ((w4.alloc (.cells #[.string ⟨n.toArray⟩] 9)).setCell ⟨gq,oq+qq.length*1,none⟩ (av n)) B0 (.slice (some ⟨gq,oq,none⟩) (qq.length+1) Vv) (qq++[n]):=QV.put (Q4.out.aA cA (λ_ _ e=>e)) Y n;have eW:∀w6,w6=(w4.alloc (.cells #[.string ⟨n.toArray⟩] 9)).setCell ⟨gq,oq+qq.length*1,none⟩ (av n)->WI2 h2 B0 W.heap.size (pre++[x]) seen queue (beh x) F' w6 (.slice (some ⟨gq,oq,none⟩) (qq.length+1) Vv) (.slice (some p) (beh x).length qE) (i+1):=by
        rintro w6 rfl;refine⟨Mh.out.1.keep _ _ _ _ _ hj4 cS (λk A _=>by subst A;exact⟨hB.out,hgq.out.1⟩),λk A=>eJ (ML k A) cS.size,G8.sF,?_,?_,λk A=>(by simp only[Value.ownBlock,cI]at A;subst A;exact hgq.out),?_,hvq.out,by omega⟩
        ·rw[Fv,<-fN];exact Pj.aA cS (λe=>hgq.out.2 e.symm)
        ·rw[Fv,<-fN,hqq];exact hQ
        ·obtain⟨B1,V,J⟩:=wQ;exact⟨B1,V.aA cS (λk A e=>(hvq.out k A).1 (by subst e;rfl)),J⟩
       exact aC4.out _ _ _ _ _ _ _ _ _ _ _ _ _ _ _ _ _ _ _ _ _ _ _ _ _ _ _ _ _ _ _ _ _ _ _ _ _ _ _ (eW _ (by simp[av,setCells_one]))
      case grow=>
       intro Y q5 w5 pK tR;obtain⟨G8,Pj,hj4,ML,wQ,Fv,DT⟩:=Z.out;have cA:aj (λ_=>False) w4 w5:=((aj.refl (λ_=>False) w4).alloc (.cells #[.string ⟨n.toArray⟩] 9)).grown tR (λk e=>by cases e);have U1:=(pK.lt)
       have eW:WI2 h2 B0 W.heap.size (pre++[x]) seen queue (beh x) F' w5 q5 (.slice (some p) (beh x).length qE) (i+1):=by
        have tW:qq++[n]≠[]:=by simp
        have Mr:w5.ownsRow (w4.heap.size+1) 9 1 q5 (qq++[n]).length ((qq++[n]).map av):=by rw[b9,eN];exact pK
        have hQ:=QV.aFl Mr tW;refine⟨Mh.out.1.keep _ _ _ _ _ hj4 cA (λk e _=>e.elim),λk A=>eJ (ML k A) cA.size,G8.sF,?_,?_,λk A=>?_,?_,λk A=>?_,by omega⟩
        ·rw[Fv,<-fN];exact Pj.aA cA (λe=>e)
        ·rw[Fv,<-fN,hqq];obtain⟨g',o',c',z1,z2,z3,z4,z5⟩:=hQ;exact⟨g',o',c',z1,z2,z3,by have:=HB.out;omega,z5⟩
        ·have:=(U1 k A).1;exact⟨λe=>by have:=ML k e;omega,by omega⟩
        ·obtain⟨B1,V,J⟩:=wQ;exact⟨B1,V.aA cA (λk A e=>e),J⟩
        ·refine⟨λe=>?_,(hvq.out k A).2⟩;have V:=(U1 k e).1;obtain⟨B1,J,_⟩:=wQ;have:=(J.choose_spec.choose_spec.2.1 k A).2;omega
       have eW:=z37 eW;clear pK tR G8 Pj hj4 ML wQ Fv DT cA U1;go_wp2_with fail;exact aC4.out _ _ _ _ _ _ _ _ _ _ _ _ _ _ _ _ _ _ _ _ _ _ _ _ _ _ _ _ _ _ _ _ _ _ _ _ _ _ _ eW.out
    ·obtain rfl:i=(beh x).length:=by have:=I3.le;omega
     have hI3:=z37 I3;have qw:(((beh x).length:Int)<((beh x).length:Int))=False:=gO (by omega);refine D.seq (D.rh λR I=>?_);clear I3;go_wp2_with fail;refine I.out _ _ ?_;clear I R;refine D.seq (D.cond rfl (D.exit rfl ?_));obtain⟨H,wo,mY,hI,wA,mZ,hp,hj⟩:=Mh.out;obtain⟨hsn,hq3,vx,hF',A0,hnF⟩:=hr.out;have J:=hI3.out;have ht:(beh x).take (beh x).length=beh x:=fM;have aJ8:=J.sn;have Y5:=J.q;rw[ht]at aJ8 Y5;refine D.inBlock (IH.out m _ _ (by omega) ⟨pre++[x],seen++news seen (beh x),queue++news seen (beh x),F',qv,_,_,_,_,_,_,_,_,_,_,_,_,_,_,_,_,_,_,_,_,_,_,_,_,_,_,_,_,_,_,_,_,_,_,_,_,_,_,_,_,rfl,⟨J.j,J.fr,J.sF,aJ8,Y5,J.qF,?_,mZ,?_,?_,?_⟩⟩)
     ·rw[fN];exact wA
     ·have:=hI.cnt;simp only[b9,bt]at this ⊢;omega
     ·have:=hI.mN;omega
     ·intro y hy;rcases dg.1 hy with hy|hy
      ·exact hI.len y (bc _ hy)
      ·exact A0.2 y ((kV seen _ y).1 hy).1
  have hQ2:=S.out.2.1;replace cont:=z37 cont;have hQ2:=z37 hQ2;clear I;go_wp2_with fail
  ·have J:=hQ2.out;have h0:aLv - 1=0:=by omega
   rw[bk h0,h0]at J;exact cont.out _ _ _ _ _ _ _ _ _ _ _ _ _ _ _ _ _ _ _ _ _ _ _ _ _ _ _ _ _ _ _ _ _ _ _ _ _ _ _ _ J rfl
  ·rename_i Ay;have J:=hQ2.out;rw[aX (by omega)]at J;exact cont.out _ _ _ _ _ _ _ _ _ _ _ _ _ _ _ _ _ _ _ _ _ _ _ _ _ _ _ _ _ _ _ _ _ _ _ _ _ _ _ _ J rfl
end Qu
namespace De
open Tx Sp Wg Rd Bk Wi Se Rx Mp Lv
def cB(o:Option B):Bool:=match o with|some t=>ek t|none=>false
def tB(o:Option B):Bool:=match o with|some t=>Pe t|none=>false
def OV.ji{w o v}(h:OV w o v)W:∃q,(Instr.typeAssert v 106 259 true).run Tq.prog W=.ok (.tuple #[q,.bool (cB o)]) W:=by
 cases o with
 |none=>obtain rfl:v=.nilIface:=h;exact⟨_,HV W⟩
 |some t=>
  obtain⟨o,b,n,V,rfl,_⟩:=h;have e:cB (some t)=(o.kind==99):=by simp only[cB,ek,(lS V).2]
  rw[e];exact⟨_,tJ o.kind (qj V) ⟨b,0,none⟩ W⟩
def OV.tree{w o v}(h:OV w o v)W:∃q,(Instr.typeAssert v 106 257 true).run Tq.prog W=.ok (.tuple #[q,.bool (tB o)]) W:=by
 cases o with
 |none=>obtain rfl:v=.nilIface:=h;exact⟨_,aDs W⟩
 |some t=>
  obtain⟨o,b,n,V,rfl,_⟩:=h;have e:tB (some t)=(o.kind==116):=by simp only[tB,Pe,(lS V).2]
  rw[e];exact⟨_,EB o.kind (qj V) ⟨b,0,none⟩ W⟩
def PV k i o r:vo k i (o::r)=((if k=116 then !cB o else if k=99 then(if i=0 then tB o else cB o)else true)&&vo k (i+1) r):=by
 cases o with
 |none=>
  have e:(if i=0 then tB none else cB none)=false:=by split<;>rfl
  rw[e];rfl
 |some t=>rfl
def Z4 w t kd ob nv os vs B1(Zo:kd=98\/kd=116\/kd=99)(A:kindOf t=kd)(tM:w.ownsRow B1 106 1 nv os.length vs)(EE:wN (OV w) os vs)(Q:os.length<1000000):
 Calls Tq.prog 233 #[.iface (ED kd) (.pointer (some ⟨ob,0,none⟩)),nv] w λe U=>e=.returned (.bool (vo (kindOf t) 0 os))/\U=w:=by
 rw[A];refine nA λcs=>?_;obtain⟨pv,qE,rfl,wx⟩:=Lo.fZ tM;have tT:=λW=>EB kd Zo ⟨ob,0,none⟩ W;have tC:=λW=>tJ kd Zo ⟨ob,0,none⟩ W;have hv:=z37 (ua wx EE);clear wx EE tM;refine D.enter Tq.func233 rfl ?_;simp only[ntmps233,eC,bt,dt,Nat.reduceAdd,Nat.reduceSub,dC,dK,eI,cY,cg,cf];refine D.seq (D.rh λR I=>?_);go_wp2_with fail;refine I.out _ _ ?_;clear I R;refine D.seq (D.seq (D.rh λR I=>?_));go_wp2_with fail;refine I.out _ _ ?_;clear I R;refine D.block ?_;refine D.while (m:=os.length) (λm U a=>∃(i:Nat) (x2 x3 x5 x6 x7 x8 x9 x10 x11 x12 x16 x17 x18 x19 x20 x21 x22 x23 x24 x25 x26 x27 x28 x29 x30 x31 x32 x33 x34 x35 x36 x37 x38 x39 x40 x41 x42 x43 x44 x45 x46 x47 x48 x49 x50 x51 x52 x53 x54 x55 x56 x57:Value),a={tmps:=#[.iface (ED kd) (.pointer (some ⟨ob,0,none⟩)),.slice pv os.length qE,x2,x3,.bool false,x5,x6,x7,x8,x9,x10,x11,x12,.slice pv os.length qE,.int .i64 (os.length:Nat),.int .i64 (i:Nat),x16,x17,x18,x19,x20,x21,x22,x23,x24,x25,x26,x27,x28,x29,x30,x31,x32,x33,x34,x35,x36,x37,x38,x39,x40,x41,x42,x43,x44,x45,x46,x47,x48,x49,x50,x51,x52,x53,x54,x55,x56,x57],defers:=[]}/\m=os.length - i/\i<=os.length/\U=w/\vo kd 0 os=vo kd i (os.drop i)) ⟨0,_,_,_,_,_,_,_,_,_,_,_,_,_,_,_,_,_,_,_,_,_,_,_,_,_,_,_,_,_,_,_,_,_,_,_,_,_,_,_,_,_,_,_,_,_,_,_,_,_,_,_,_,rfl,rfl,cQ _,rfl,rfl⟩ ?_;rintro m U a ⟨i,x2,x3,x5,x6,x7,x8,x9,x10,x11,x12,x16,x17,x18,x19,x20,x21,x22,x23,x24,x25,x26,x27,x28,x29,x30,x31,x32,x33,x34,x35,x36,x37,x38,x39,x40,x41,x42,x43,x44,x45,x46,x47,x48,x49,x50,x51,x52,x53,x54,x55,x56,x57,rfl,rfl,hle,rfl,PG⟩ IH;replace IH:=z37 IH;by_cases tP:i<os.length
 ·obtain⟨o,ho⟩:∃o,os[i]? =some o:=⟨_,bU tP⟩
  obtain⟨v,X,GV⟩:=hv.out.2.at_ ho;obtain⟨p,rfl,_,_,uz⟩:=hv.out.1 i v X;have B6:os.drop i=o::os.drop (i+1):=by rw[lx tP];have:=(bA.1 ho).2;rw[this]
  rw[B6,PV]at PG;have qw:((i:Int)<(os.length:Int))=True:=ie (by omega);have aC:=λW=>(OV.ji GV W).choose_spec;have aT:=λW=>(OV.tree GV W).choose_spec;generalize hqc:(λW=>(OV.ji GV W).choose)=qC at aC;generalize hqt:(λW=>(OV.tree GV W).choose)=qT at aT;replace aC:∀W,(Instr.typeAssert v 106 259 true).run Tq.prog W=.ok (.tuple #[qC W,.bool (cB o)]) W:=λW=>by rw[<-hqc];exact aC W
  replace aT:∀W,(Instr.typeAssert v 106 257 true).run Tq.prog W=.ok (.tuple #[qT W,.bool (tB o)]) W:=λW=>by rw[<-hqt];exact aT W
  clear hqc hqt GV X ho;have hF:=z37 PG;clear PG;refine D.seq (D.rh λR I=>?_);go_wp2_with fail;refine I.out _ _ ?_;clear I R;refine D.seq (D.cond rfl (D.skip (D.seq (D.block (D.seq (D.rh λR I=>?_))))));go_wp2_with fail;refine I.out _ _ ?_;clear I R;refine D.seq (D.rh λR I=>?_);go_wp2_with fail;refine I.out _ _ ?_;clear I R;rcases Zo with rfl|rfl|rfl
  ·have tT0:=EB 98 (.inl rfl) ⟨ob,0,none⟩ U;have tC0:=tJ 98 (.inl rfl) ⟨ob,0,none⟩ U;rw[aX (by decide)]at tT0 tC0;have iN:=hF.out;rw[aX (by decide),aX (by decide),jD]at iN;have iN:=z37 iN;refine D.block (D.seq (D.rh λR I=>?_));go_wp2_with fail;refine I.out _ _ ?_;clear I R;refine D.cond (t:=false) rfl (D.seq (D.rh λR I=>?_));go_wp2_with fail;refine I.out _ _ ?_;clear I R;refine D.cond (t:=false) rfl (D.skip (D.inBlock (D.inBlock (D.rh λR I=>?_))));go_wp2_with fail;refine I.out _ _ ?_;clear I R;refine IH.out (os.length - (i+1)) _ _ (by omega) ⟨i+1,_,_,_,_,_,_,_,_,_,_,_,_,_,_,_,_,_,_,_,_,_,_,_,_,_,_,_,_,_,_,_,_,_,_,_,_,_,_,_,_,_,_,_,_,_,_,_,_,_,_,_,_,rfl,rfl,by omega,rfl,?_⟩;exact iN.out
  ·have tT0:=EB 116 (.inr (.inl rfl)) ⟨ob,0,none⟩ U;rw[bk rfl]at tT0;have iN:=hF.out;rw[bk rfl]at iN;have iN:=z37 iN;refine D.block (D.seq (D.rh λR I=>?_));go_wp2_with fail;refine I.out _ _ ?_;clear I R;refine D.cond (t:=true) rfl (D.seq (D.rh λR I=>?_));go_wp2_with fail;refine I.out _ _ ?_;clear I R;refine D.seq (D.rh λR I=>?_);go_wp2_with fail;refine I.out _ _ ?_;clear I R;cases L:cB o with
   |true=>refine D.cond (t:=true) rfl (D.seq (D.rh λR I=>?_));go_wp2_with fail;refine I.out _ _ (D.ret rfl ?_);refine D.left rfl rfl rfl rfl Tq.func233 (ĳ rfl _ _ _) ⟨?_,rfl⟩;rw[iN.out,L];rfl
   |false=>refine D.cond (t:=false) rfl (D.skip (D.inBlock (D.inBlock (D.rh λR I=>?_))));go_wp2_with fail;refine I.out _ _ ?_;clear I R;refine IH.out (os.length - (i+1)) _ _ (by omega) ⟨i+1,_,_,_,_,_,_,_,_,_,_,_,_,_,_,_,_,_,_,_,_,_,_,_,_,_,_,_,_,_,_,_,_,_,_,_,_,_,_,_,_,_,_,_,_,_,_,_,_,_,_,_,_,rfl,rfl,by omega,rfl,?_⟩;rw[iN.out,L];rfl
  ·have tT0:=EB 99 (.inr (.inr rfl)) ⟨ob,0,none⟩ U;have tC0:=tJ 99 (.inr (.inr rfl)) ⟨ob,0,none⟩ U;rw[aX (by decide)]at tT0;rw[bk rfl]at tC0;have iN:=hF.out;rw[aX (by decide),bk rfl]at iN;have iN:=z37 iN;refine D.block (D.seq (D.rh λR I=>?_));go_wp2_with fail;refine I.out _ _ ?_;clear I R;refine D.cond (t:=false) rfl (D.seq (D.rh λR I=>?_));go_wp2_with fail;refine I.out _ _ ?_;clear I R;refine D.cond (t:=true) rfl (D.seq (D.rh λR I=>?_));go_wp2_with fail;refine I.out _ _ ?_;clear I R;refine D.seq (D.rh λR I=>?_);go_wp2_with fail;refine I.out _ _ ?_;clear I R;refine D.seq (D.rh λR I=>?_);have aGw:(i=0/\((i:Int)=0)=True/\((0:Int)<(i:Int))=False)\/(i≠0/\((i:Int)=0)=False/\((0:Int)<(i:Int))=True):=by
    by_cases h0:i=0
    ·exact .inl ⟨h0,ie (by omega),gO (by omega)⟩
    ·exact .inr ⟨h0,gO (by omega),ie (by omega)⟩
   rcases aGw with⟨h0,e1,e2⟩|⟨h0,e1,e2⟩<;>cases hbt:tB o<;>cases hbc:cB o
   all_goals
    have H0:=z37 h0;clear h0;go_wp2_with fail;refine I.out _ _ ?_
    first
     |(refine D.cond (t:=true) rfl (D.seq (D.reg rfl λR I=>?_))
       replace I:=z37 I;go_wp2_with fail;refine I.out _ _ (D.ret rfl ?_);refine D.left rfl rfl rfl rfl Tq.func233 (ĳ rfl _ _ _) ⟨?_,rfl⟩;rw[iN.out,hbt,hbc]
       first|rw[bk H0.out]|rw[aX H0.out]
       rfl)
     |(refine D.cond (t:=false) rfl (D.skip (D.inBlock (D.inBlock (D.reg rfl λR I=>?_))))
       replace I:=z37 I;go_wp2_with fail;refine I.out _ _ ?_
       try obtain rfl:=H0.out
       first
        |refine IH.out (os.length - (0+1)) _ _ (by omega) ⟨0+1,_,_,_,_,_,_,_,_,_,_,_,_,_,_,_,_,_,_,_,_,_,_,_,_,_,_,_,_,_,_,_,_,_,_,_,_,_,_,_,_,_,_,_,_,_,_,_,_,_,_,_,_,rfl,rfl,by omega,rfl,?_⟩
        |refine IH.out (os.length - (i+1)) _ _ (by omega) ⟨i+1,_,_,_,_,_,_,_,_,_,_,_,_,_,_,_,_,_,_,_,_,_,_,_,_,_,_,_,_,_,_,_,_,_,_,_,_,_,_,_,_,_,_,_,_,_,_,_,_,_,_,_,_,rfl,rfl,by omega,rfl,?_⟩
       rw[iN.out,hbt,hbc]
       first|rw[bk H0.out]|rw[aX H0.out]
       rfl)
 ·obtain rfl:i=os.length:=by omega
  have qw:((os.length:Int)<(os.length:Int))=False:=gO (by omega);have hF:=z37 PG;clear PG;refine D.seq (D.rh λR I=>?_);go_wp2_with fail;refine I.out _ _ ?_;clear I R;refine D.seq (D.cond rfl (D.exit rfl (D.seq (D.rh λR I=>?_))));go_wp2_with fail;refine I.out _ _ (D.ret rfl ?_);refine D.left rfl rfl rfl rfl Tq.func233 (ĳ rfl _ _ _) ⟨?_,rfl⟩;rw[hF.out,sZ];rfl
open Qu
def BC{l}(h:yN l=true):l.length=8:=by unfold yN at h;simp only[bw,cN]at h;exact h.2.1
def AB:∀l last r,entries last l=some r->∀x∈r,x.length=8
 |[],_,r,h=>by unfold entries at h;obtain rfl:=ay h;simp
 |e::l,last,r,h=>by
  unfold entries at h;split at h
  ·rename_i L;rw[aY]at h;obtain⟨r',V,rfl⟩:=h;simp only[bw]at L;intro x E;rcases bm.1 E with rfl|E
   ·exact BC L.1.2
   ·exact AB l _ r' V x E
  ·cases h
def UN{t o}(h:Tx.parse t=some o):∀x∈o.ids,x.length=8:=by
 unfold Tx.parse at h;simp only at h;split at h
 ·split at h
  ·split at h
   ·obtain rfl:=ay h;simp
   ·cases h
  ·split at h
   ·rw[aY]at h;obtain⟨l,hl,rfl⟩:=h;unfold tree at hl;split at hl
    ·obtain rfl:=ay hl;simp
    ·exact AB _ _ _ hl
   ·split at h
    ·rw[aY]at h;obtain⟨l,hl,rfl⟩:=h;unfold ji at hl;simp only at hl;split at hl
     ·rename_i L;simp only[bw]at L;split at hl
      ·obtain rfl:=ay hl;intro x E;obtain rfl:=bW.1 E;exact BC L.1.2
      ·split at hl
       ·rename_i A4;obtain rfl:=ay hl;simp only[bw]at A4;intro x E;rcases bm.1 E with rfl|E
        ·exact BC L.1.2
        ·exact BC (ep.1 A4.2 x E)
       ·cases hl
     ·cases hl
    ·cases h
 ·cases h
def AP(S:St)(p:M B):Prop:=(∀x∈S.ah,x.2.length<=204/\(Tx.parse x.2).isSome=true)/\(∀x∈p,x.2.length<=204/\(Tx.parse x.2).isSome=true)/\Sp.fuel S p<=1000000
def Z5{S p k t}(h:Sp.find S p k=some t):(∃x∈p,x.2=t)\/∃x∈S.ah,x.2=t:=by
 unfold Sp.find at h;split at h
 ·rename_i u hu;obtain rfl:=ay h;exact .inl ⟨(k,_),M.get_some hu,rfl⟩
 ·exact .inr ⟨(k,t),M.get_some h,rfl⟩
def vG{S p k t}(h:AP S p)(hf:Sp.find S p k=some t):t.length<=204/\(Tx.parse t).isSome=true:=by
 rcases Z5 hf with⟨x,E,rfl⟩|⟨x,E,rfl⟩
 ·exact h.2.1 x E
 ·exact h.1 x E
def zz{t}(h:t.length<=204):(bE t).length<=207/\∀x∈bE t,x.length=8:=by
 unfold bE;cases hp:Tx.parse t with
 |none=>simp
 |some o=>have:=BB hp;exact⟨by simp only;omega,UN hp⟩
def Li{S p}(h:AP S p)k:(Sp.names S p k).length<=1000000/\∀x∈Sp.names S p k,x.length<=maxLen:=by
 unfold Sp.names;split
 ·rename_i t ht;have:=zz (vG h ht).1;exact⟨by omega,λx E=>by have:=this.2 x E;unfold maxLen;omega⟩
 ·simp
def Wm id(g:Nat)lb w:Calls Tq.prog 86 #[.string id,.func (.func g) #[] lb] w λe U=>e=.returned (.func (.func 132) #[] #[.pointer (some ⟨w.heap.size,0,none⟩),.pointer (some ⟨w.heap.size+1,0,none⟩)])/\U=(w.alloc (.cells #[.string id] 9)).alloc (.cells #[.func (.func g) #[] lb] 103):=by go_enter Tq.func86,ntmps86;go_wp2_with fail;go_ret;exact⟨rfl,rfl⟩
def kT{fn p}(h:fn.results=#[.cell p 9])tmps w a s(hp:tmps.getD p undef=.pointer (some a))(L:w.cell? a=some (.string s)):(results fn tmps).run Tq.prog w=.ok (.string s) w:=by
 simp only[results,h];have hp':tmps[p]?.getD undef=.pointer (some a):=by simpa using hp
 simp[Sem.run_bind,Result.andThen,hp',L,loadVar,asAddr,isAgg9]
def ig(S:St)(p:M B)(k:B):Bool:=match Sp.find S p k with|some t=>Sp.fits S p t|none=>true
def wF(b6 b7 l LV:Nat)(k:Nat):Prop:=k=b6\/k=b7\/k=l\/k=LV
structure WJ W0 S p b6 b7 l LV rc(pre:List B)(F:Nat->Prop)W:Prop where
 Qo:F=wF b6 b7 l LV
 aA:aj (wF b6 b7 l LV) W0 W
 loop:W.heap[l]? =some (.loop rc)
 defs:W.heap[LV]? =some (.deferred (some []))
 bad:aM W b7 #[.bool (!(pre.all (ig S p)))] 4 (0,0)
 res:aM W b6 #[.string ⟨#[]⟩] 9 (0,0)
 found:∀k∈pre,(Sp.find S p k).isSome=true
structure WX W0 S p b6 b7 l LV(rc:Loop)(pre:List B)W:Prop where
 aA:aj (wF b6 b7 l LV) W0 W
 loop:W.heap[l]? =some (.loop {rc with state:=.done,pending:=some .ret})
 defs:W.heap[LV]? =some (.deferred (some []))
 res:aM W b6 #[.string ⟨#[109,105,115,115,105,110,103]⟩] 9 (0,0)
 lost:∃k∈pre,(Sp.find S p k).isNone=true
def cK{T a b l}(h:aj T a b)(hl:T l\/a.heap.size<=l)o:aj T a (b.putObj l o):=
 ⟨h.os,h.tape,h.output,by rw[ķ];exact h.size,λi hi Q=>(World.putObj_heap_other (λe=>by subst e;rcases hl with hl|hl;exact Q hl;omega)).trans (h.block i hi Q)⟩
def Sq w st mo mr pb mw μ S cv p cl id(hS:qZ w st mo mr μ S)(hP:kK w pb mw cv p cl)(hid:id.size<=maxLen)(fT:AP S p):
 Calls Tq.prog 196 #[aG st,aG pb,.string id] w λe U=>e=.returned (av (Sp.whole S p id.data.toList))/\Below w.heap.size w U:=by
 refine nA λcs=>?_;unfold aG;refine D.enter Tq.func196 rfl ?_;simp only[ntmps196,eC,bt,dt,Nat.reduceAdd,Nat.reduceSub,dC,dK,eI,cY,cg,cf];have hv:=z37 (ua hS (ua hP (ua hid fT)));clear hS hP hid fT;refine D.seq (D.rh λR I=>?_);go_wp2_with fail;refine I.out _ _ ?_;clear I R;refine D.seq (D.rh λR I=>?_);go_wp2_with fail;refine I.out _ _ ?_;clear I R;have Wk:=z37 (λg lb W=>Wm id g lb W);refine D.seq (D.seq (D.rh λR I=>?_));go_wp2_with fail;refine(Wk.out _ _ _).mono ?_;rintro e W1 ⟨rfl,rfl⟩;go_wp2_with fail;refine I.out _ _ ?_;clear I R Wk;refine D.block ?_;refine D.X7 rfl rfl (λargs w=>Tq.call132 args w) ?_;intro W0 rc r1 r2 r3 r4 r5 r6 r7 xo;have RC:=z37 (ua r1 (ua r2 (ua r3 (ua r4 (ua r5 (ua r6 r7))))));clear r1 r2 r3 r4 r5 r6 r7;obtain⟨n,Q⟩:∃n,n=w.heap.size:=⟨_,rfl⟩
 simp only[Ķ,<-Q,ft,Nat.reduceAdd]at xo ⊢;have g3:aM W0 n #[.pointer (some ⟨st,0,none⟩)] 54 (0,0):=by unfold aM;rw[xo];simp only[aO,Ķ];repeat (first|rw[aX (by omega)]|rw[bk (by omega),Q]|rw[bk (by omega)])
 have g4:aM W0 (n+1) #[.pointer (some ⟨pb,0,none⟩)] 153 (0,0):=by unfold aM;rw[xo];simp only[aO,Ķ];repeat (first|rw[aX (by omega)]|rw[bk (by omega),Q]|rw[bk (by omega)])
 have g6:aM W0 (n+2) #[.string ⟨#[]⟩] 9 (0,0):=by unfold aM;rw[xo];simp only[aO,Ķ];repeat (first|rw[aX (by omega)]|rw[bk (by omega),Q]|rw[bk (by omega)])
 have g7:aM W0 (n+3) #[.bool false] 4 (0,0):=by unfold aM;rw[xo];simp only[aO,Ķ];repeat (first|rw[aX (by omega)]|rw[bk (by omega),Q]|rw[bk (by omega)])
 have g8:aM W0 (n+4) #[.string id] 9 (0,0):=by unfold aM;rw[xo];simp only[aO,Ķ];repeat (first|rw[aX (by omega)]|rw[bk (by omega),Q]|rw[bk (by omega)])
 have g9:aM W0 (n+5) #[.func (.func 232) #[] #[.pointer (some ⟨n,0,none⟩),.pointer (some ⟨n+1,0,none⟩)]] 103 (0,0):=by unfold aM;rw[xo];simp only[aO,Ķ];repeat (first|rw[aX (by omega)]|rw[bk (by omega),Q]|rw[bk (by omega)])
 have gD:W0.heap[n+6]? =some (.deferred (some [])):=by rw[xo];simp only[aO,Ķ];repeat (first|rw[aX (by omega)]|rw[bk (by omega)])
 have gl:W0.heap[n+7]? =some (.loop rc):=by rw[xo];simp only[aO,Ķ];repeat (first|rw[aX (by omega)]|rw[bk (by omega)])
 have gs:W0.heap.size=n+8:=by rw[xo];simp only[Ķ];omega
 have gB:Below n w W0:=by rw[xo,Q];exact(((((((Below.refl _ w).alloc (aI _) _).alloc (by simp) _).alloc (by simp;omega) _).alloc (by simp;omega) _).alloc (by simp;omega) _).alloc (by simp;omega) _).alloc (by simp;omega) _ |>.alloc (by simp;omega) _
 clear xo;obtain⟨hS,hP,hid,fT⟩:=hv.out;have fJ:∀{W:World},aj (wF (n+2) (n+3) (n+7) (n+6)) W0 W->Below n w W:=λh=>gB.trans (h.below (by omega) (λk A=>by rcases A with rfl|rfl|rfl|rfl<;>omega));have uw:∀{W:World},Below n w W->qZ W st mo mr μ S/\kK W pb mw cv p cl:=λh=>by
  have L:aj (λ_=>False) w _:=aj.nK (Q▸h);exact⟨hS.aA L (Rx.Safe.none w) (λe=>e) (λe=>e) (λe=>e),hP.aA L (Rx.Safe.none w) (λe=>e) (λe=>e)⟩
 simp only[cY,cf,cg];have h0:WJ W0 S p (n+2) (n+3) (n+7) (n+6) rc [] (wF (n+2) (n+3) (n+7) (n+6)) W0:=⟨rfl,aj.refl _ _,gl,gD,g7,g6,λk A=>by cases A⟩
 refine Kc (l:=n+7) (g:=232) (lb:=#[.pointer (some ⟨n,0,none⟩),.pointer (some ⟨n+1,0,none⟩)]) (b1:=n+4) (b2:=n+5) (B0:=W0.heap.size) (N:=Sp.fuel S p) (id:=id.data.toList) (beh:=Sp.names S p)
  (h2:=WJ W0 S p (n+2) (n+3) (n+7) (n+6) rc) (Jx:=λpre _ W=>WX W0 S p (n+2) (n+3) (n+7) (n+6) rc pre W) (F:=wF (n+2) (n+3) (n+7) (n+6)) ?who hid rfl h0 (λk A=>by rw[gs];rcases A with rfl|rfl|rfl|rfl<;>omega) (Ef S p id.data.toList) ?done ?stop
 case who=>
  refine⟨?_,?_,λargs w=>Tq.call232 args w,?_,Li fT,?_,fT.2.2⟩
  ·intro pre F W W' T hJ L hT;have hF:∀k,wF (n+2) (n+3) (n+7) (n+6) k->k<W.heap.size->¬T k:=λk A tP e=>(hT k e tP).2 (by rw[hJ.Qo];exact A);have tP:∀k,wF (n+2) (n+3) (n+7) (n+6) k->k<W.heap.size:=λk A=>by have:=hJ.aA.size;rw[gs]at this;rcases A with rfl|rfl|rfl|rfl<;>omega
   refine⟨hJ.Qo,hJ.aA.trans' L (λi hi e=>?_),?_,?_,hJ.bad.aA L ?_,hJ.res.aA L ?_,hJ.found⟩
   ·have:=(hT i e (by have:=hJ.aA.size;omega)).1;omega
   ·exact(L.block _ (tP _ (.inr (.inr (.inl rfl)))) (hF _ (.inr (.inr (.inl rfl))) (tP _ (.inr (.inr (.inl rfl)))))).trans hJ.loop
   ·exact(L.block _ (tP _ (.inr (.inr (.inr rfl)))) (hF _ (.inr (.inr (.inr rfl))) (tP _ (.inr (.inr (.inr rfl)))))).trans hJ.defs
   ·exact hF _ (.inr (.inl rfl)) (tP _ (.inr (.inl rfl)))
   ·exact hF _ (.inl rfl) (tP _ (.inl rfl))
  ·intro pre F W hJ;have n4:¬wF (n+2) (n+3) (n+7) (n+6) (n+4):=by rintro(e|e|e|e)<;>omega
   have n5:¬wF (n+2) (n+3) (n+7) (n+6) (n+5):=by rintro(e|e|e|e)<;>omega
   exact⟨(g8.aA hJ.aA n4).at rfl,(g9.aA hJ.aA n5).at rfl,hJ.aA.size⟩
  ·intro pre F W k hJ A;have n3:¬wF (n+2) (n+3) (n+7) (n+6) n:=by rintro(e|e|e|e)<;>omega
   have n4:¬wF (n+2) (n+3) (n+7) (n+6) (n+1):=by rintro(e|e|e|e)<;>omega
   obtain⟨q1,q2⟩:=uw (fJ hJ.aA);exact(YB W n (n+1) st mo mr pb mw μ S cv p cl k q1 q2 A ((g3.aA hJ.aA n3).at rfl) ((g4.aA hJ.aA n4).at rfl)).mono λe U ⟨v,V,J,h3⟩=>⟨v,V,Qm.of J,h3⟩
  ·intro pre x F W fi hJ hp Mj go stop;obtain⟨r1,r2,r3,r4,r5,r6,r7⟩:=RC.out;refine⟨_,_,_,_,FJ hJ.loop r5,?_⟩;rw[r3,r4,r6,r7,round_eq];simp only[bo,cE,cj,<-Q,ft,Nat.reduceAdd];have hFe:=hJ.Qo;subst hFe;have tP:∀k,wF (n+2) (n+3) (n+7) (n+6) k->k<W.heap.size:=λk A=>by have:=hJ.aA.size;rw[gs]at this;rcases A with rfl|rfl|rfl|rfl<;>omega
   have Ep:aj (wF (n+2) (n+3) (n+7) (n+6)) W (W.putObj (n+7) (.loop {rc with state:=.busy})):=cK (aj.refl _ _) (.inl (.inr (.inr (.inl rfl)))) _;have zQ:=hJ.aA.trans Ep;have bl:(W.putObj (n+7) (.loop {rc with state:=.busy})).heap[n+7]? =some (.loop {rc with state:=.busy}):=by rw[aJ,bk ⟨rfl,tP _ (.inr (.inr (.inl rfl)))⟩]
   have bD:(W.putObj (n+7) (.loop {rc with state:=.busy})).heap[n+6]? =some (.deferred (some [])):=by rw[aJ,aX (by omega)];exact hJ.defs
   have bb:aM (W.putObj (n+7) (.loop {rc with state:=.busy})) (n+3) #[.bool (!(pre.all (ig S p)))] 4 (0,0):=by unfold aM;rw[aJ,aX (by omega)];exact hJ.bad
   have br:aM (W.putObj (n+7) (.loop {rc with state:=.busy})) (n+2) #[.string ⟨#[]⟩] 9 (0,0):=by unfold aM;rw[aJ,aX (by omega)];exact hJ.res
   have Au:=hJ.loop;refine D.rh λR I=>?_;have hr:=z37 (ua hJ (ua go (ua stop hp)));have Z:=z37 (ua Ep (ua zQ (ua bl (ua bD (ua bb br)))));have h1:=z37 (ua r1 (ua Au r2));have w':=z37 (ua hS (ua hP (ua hid fT)));have T:=z37 (ua (@fJ) (@uw));have Gx:=z37 (ua g3 g4);clear hJ go stop hp Ep zQ bl bD bb br r1 r2 r3 r4 r5 r6 r7 Au h0 hS hP hid fT fJ uw g3 g4 g6 g7 g8 g9 gD gl tP gB hv RC;replace Q:=z37 Q;go_wp2_with fail;refine I.out _ _ ?_;clear I R;refine D.begin h1.out.2.1 h1.out.1 ?_;obtain⟨Ep,zQ,bl,bD,bb,br⟩:=Z.out;generalize W.putObj (n+7) (.loop {rc with state:=.busy})=Wb at Ep zQ bl bD bb br ⊢;have n3:¬wF (n+2) (n+3) (n+7) (n+6) n:=by rintro(e|e|e|e)<;>omega
   have n4:¬wF (n+2) (n+3) (n+7) (n+6) (n+1):=by rintro(e|e|e|e)<;>omega
   have k3:Wb.cell? ⟨n,0,none⟩=some (.pointer (some ⟨st,0,none⟩)):=(Gx.out.1.aA zQ n3).at rfl;have k4:Wb.cell? ⟨n+1,0,none⟩=some (.pointer (some ⟨pb,0,none⟩)):=(Gx.out.2.aA zQ n4).at rfl;have Av:=T.out.2 (T.out.1 zQ);have Fi:=sP Wb st mo mr pb mw μ S cv p cl ⟨x.toArray⟩ Av.1 Av.2 Mj;replace Fi:=z37 Fi;clear Z n3 n4 Av;have Z:=z37 (ua Ep (ua zQ (ua bl (ua bD (ua bb br)))));clear Ep zQ bl bD bb br;refine D.block (D.seq (D.rh λR I=>?_));unfold aG at Fi;go_wp2_with fail;refine Fi.out.mono ?_;rintro e W2 ⟨⟨v,rfl,X⟩,rfl⟩;go_wp2_with fail;refine I.out _ _ ?_;clear I R;cases Jf:Sp.find S p x with
   |none=>
    rw[Jf]at X;obtain rfl:v=.nilIface:=X;obtain⟨Ep,zQ,bl,bD,bb,br⟩:=Z.out;have f6:=br.frozen (i:=0) (.inr (aI _));have k6:W2.cell? ⟨n+2,0,none⟩=some (.string ⟨#[]⟩):=br.at rfl;have hWX:∀W',W'=W2.setCell ⟨n+2,0,none⟩ (.string ⟨#[109,105,115,115,105,110,103]⟩)->WX W0 S p (n+2) (n+3) (n+7) (n+6) rc (pre++[x]) (W'.putObj (n+7) (.loop {rc with state:=.done,pending:=some .ret}))/\W'.heap[n+7]? =some (.loop {rc with state:=.busy}):=by
     rintro W' rfl;have cs1:aj (wF (n+2) (n+3) (n+7) (n+6)) W0 (W2.setCell ⟨n+2,0,none⟩ (.string ⟨#[109,105,115,115,105,110,103]⟩)):=zQ.setCell (p:=⟨n+2,0,none⟩) (.inl (.inl rfl)) _;have l2:(W2.setCell ⟨n+2,0,none⟩ (.string ⟨#[109,105,115,115,105,110,103]⟩)).heap[n+7]? =some (.loop {rc with state:=.busy}):=(Below.heap_setCell _ ⟨n+2,0,none⟩ _ _ (by simp)).trans bl;have U2:n+7<(W2.setCell ⟨n+2,0,none⟩ (.string ⟨#[109,105,115,115,105,110,103]⟩)).heap.size:=Ĵ l2;refine⟨⟨cK cs1 (.inl (.inr (.inr (.inl rfl)))) _,by rw[aJ,bk ⟨rfl,U2⟩],?_,?_,x,by simp,by rw[Jf];rfl⟩,l2⟩
     ·rw[aJ,aX (by omega)];exact(Below.heap_setCell _ ⟨n+2,0,none⟩ _ _ (by simp)).trans bD
     ·unfold aM;rw[aJ,aX (by omega)];exact aM.set br 0 _
    have hWX:=z37 hWX;clear Ep zQ bl bD bb br Jf Fi;refine D.seq (D.seq (D.rh λR I=>?_));go_wp2_with fail;refine I.out _ _ ?_;clear I R;refine D.cond rfl (D.seq (D.rh λR I=>?_));go_wp2_with fail;refine I.out _ _ ?_;clear I R;obtain⟨z1,z2⟩:=hWX.out _ rfl;exact D.KY z2 (hr.out.2.2.1 (λ_=>False) _ z1)
   |some t=>
    rw[Jf]at X;have hts:=vG w'.out.2.2.2 Jf;have aKO:=zz hts.1;have DU:=X;obtain⟨o,ob,nn,V,rfl,h3,h4,h5⟩:=X;have N:=z37 (λ(Wx:World) (E:nE Wx ob (blT o.kind) (av t) nn) (Y:Wx.ownsRow 0 9 1 nn o.ids.length (o.ids.map av))=>zm Wx t o ob nn V E Y (by have:=BB V;omega));have N1:=z37 (N.out W2 h3 h4);have fx:=z37 (ua V (ua DU (ua Jf (ua hts aKO))));have mN:=YI;clear V h3 h4 h5 DU Jf hts aKO N Fi;refine D.seq (D.seq (D.rh λR I=>?_));unfold aG;go_wp2_with fail;refine I.out _ _ ?_;clear I R;refine D.cond rfl (D.skip (D.seq (D.rh λR I=>?_)));go_wp2_with fail;refine I.out _ _ ?_;clear I R;refine D.seq (D.seq (D.rh λR I=>?_));go_wp2_with fail;refine N1.out.mono ?_;rintro e W3 ⟨v',rfl,tM,xb⟩;obtain⟨pv,qE,rfl,-⟩:=Lo.fZ tM;have R3:=z37 (ua tM xb);clear tM xb;go_wp2_with fail;refine I.out _ _ ?_;clear I R N1 mN;obtain⟨tM,xb⟩:=R3.out;refine D.block ?_;refine D.while (m:=(bE t).length) (λm U a=>∃(i:Nat) (nv:Value) (vs:List Value) (x5 x8 x11 x12 x13 x14 x15 x16 x17 x18 x19 x20 x21 x22 x23 x24 x25 x29 x30 x31 x32 x33 x34 x35 x36 x37 x38 x39 x40 x41 x42 x43 x44 x45 x46 x47 x48 x49 x50 x51 x52 x53 x54 x55 x56 x57 x58 x59:Value),a={tmps:=#[.pointer (some ⟨st,0,none⟩),.pointer (some ⟨pb,0,none⟩),.string id,.pointer (some ⟨n,0,none⟩),.pointer (some ⟨n+1,0,none⟩),x5,.pointer (some ⟨n+2,0,none⟩),.pointer (some ⟨n+3,0,none⟩),x8,.iface (ED o.kind) (.pointer (some ⟨ob,0,none⟩)),nv,x11,x12,x13,x14,x15,x16,x17,x18,x19,x20,x21,x22,x23,x24,x25,.slice pv (bE t).length qE,.int .i64 ((bE t).length:Nat),.int .i64 (i:Nat),x29,x30,x31,x32,x33,x34,x35,x36,x37,x38,x39,x40,x41,x42,x43,x44,x45,x46,x47,x48,x49,x50,x51,x52,x53,x54,x55,x56,x57,x58,x59],defers:=[]}/\m=(bE t).length - i/\i<=(bE t).length/\Below W2.heap.size W2 U/\(∃B1,U.ownsRow B1 9 1 (.slice pv (bE t).length qE) (bE t).length ((bE t).map av))/\U.ownsRow W2.heap.size 106 1 nv i vs/\wN (OV U) (((bE t).take i).map (Sp.find S p)) vs)
     ⟨0,.slice none 0 0,[],_,_,_,_,_,_,_,_,_,_,_,_,_,_,_,_,_,_,_,_,_,_,_,_,_,_,_,_,_,_,_,_,_,_,_,_,_,_,_,_,_,_,_,_,_,_,_,_,rfl,rfl,cQ _,xb,⟨_,tM⟩,World.ownsRow_nil _ _ _ _,.nil⟩ ?_
    clear tM xb R3;rintro m U a ⟨i,nv,vs,x5,x8,x11,x12,x13,x14,x15,x16,x17,x18,x19,x20,x21,x22,x23,x24,x25,x29,x30,x31,x32,x33,x34,x35,x36,x37,x38,x39,x40,x41,x42,x43,x44,x45,x46,x47,x48,x49,x50,x51,x52,x53,x54,x55,x56,x57,x58,x59,rfl,rfl,hle,G6,⟨B1,tM⟩,hnv,EE⟩ IH;replace IH:=z37 IH;by_cases tP:i<(bE t).length
    ·obtain⟨q,hq⟩:∃q,(bE t)[i]? =some q:=⟨_,bU tP⟩
     obtain⟨pa,aQp,e,uz⟩:=IK tM hq;injection e with e1 e2 e3;subst e1 e3;replace uz:U.cell? (pa.add i)=some (.string ⟨q.toArray⟩):=uz;have hq8:=fx.out.2.2.2.2.2 q (cM hq);have aCU:n+8<=W2.heap.size:=by have:=Z.out.2.1.size;omega
     have k3':=(aj.nK G6).bB k3 (λe=>e);have k4':=(aj.nK G6).bB k4 (λe=>e);have cw:aj (wF (n+2) (n+3) (n+7) (n+6)) W0 U:=Z.out.2.1.trans ((aj.nK G6).mono (λ_ _ e=>e.elim));have Av:=T.out.2 (T.out.1 cw);have Fi:=sP U st mo mr pb mw μ S cv p cl ⟨q.toArray⟩ Av.1 Av.2 (by show q.length<=maxLen;rw[hq8];decide);replace Fi:=z37 Fi;have i6:i<300:=by have:=fx.out.2.2.2.2.1;omega
     have uI:((bE t).take (i+1)).map (Sp.find S p)=((bE t).take i).map (Sp.find S p)++[Sp.find S p q]:=by rw[fg,hq,eN];rfl
     obtain⟨i1,VQ,xr,xU,ya⟩:=info_parts aDN;have hx:=z37 (ua G6 (ua (⟨B1,tM⟩:∃B1,U.ownsRow B1 9 1 (.slice (some pa) (bE t).length qE) (bE t).length ((bE t).map av)) (ua EE (ua uI aCU))));have qw:((i:Int)<((bE t).length:Int))=True:=ie (by omega);have MB:=z37 hnv;clear G6 tM EE cw Av k3 k4 hq uI aCU hq8 hnv;refine D.seq (D.rh λR I=>?_);go_wp2_with fail;refine I.out _ _ ?_;clear I R;refine D.seq (D.cond rfl (D.skip (D.seq (D.block (D.seq (D.rh λR I=>?_))))));go_wp2_with fail;refine I.out _ _ ?_;clear I R;refine D.rh λR I=>?_;unfold aG at Fi;go_wp2_with fail;refine Fi.out.mono ?_;rintro e W4 ⟨⟨fv,rfl,hfv⟩,rfl⟩;have aKS:(∃k a,fv=.iface k (.pointer a))\/fv=.nilIface:=by
      rcases pE hfv with⟨h,_⟩|⟨_,b,k,h,_⟩
      ·exact .inr h
      ·exact .inl ⟨_,_,h⟩
     have MK:=z37 hfv;clear hfv;rcases aKS with⟨tk,ta,rfl⟩|rfl
     ·have hz':=hx.out.1.size;go_wp2_with (at_builtin;refine wpList_append_own _ rfl (.tmp 32) (.tmp 37) 95 rfl W2.heap.size 106 i1 .nilIface 1 16 ((Tq.underlying 95).trans underlying95) VQ xr xU ya rfl (by decide) nv i vs rfl (MB.out.alloc _) ⟨W4.heap.size,0,none⟩ 1 1 [.iface tk (.pointer ta)] rfl rfl (ĵ _ _ _) (by intro u hu;obtain rfl:=bW.1 hu;rfl) (by unfold maxLen;omega) (by omega) (by rw[Ķ];omega) ?_;intro nv' w5 pK tR yn;have F5:=z37 (ua pK tR);clear pK tR yn);refine I.out _ _ ?_;clear I R;refine D.inBlock (D.rh λR I=>?_);go_wp2_with fail;refine I.out _ _ ?_;clear I R;obtain⟨G6,⟨B1,tM⟩,EE,uI,aCU⟩:=hx.out;obtain⟨pK,tR⟩:=F5.out;have hl:∀k,nv.ownBlock=some k->W2.heap.size<=k:=λk A=>(MB.out.lt k A).1;have U9:Below W2.heap.size W2 w5:=(G6.alloc hz' _).grown tR (by rw[Ķ];omega) (λk A=>hl k A);have c45:aj (λk=>nv.ownBlock=some k) W4 w5:=((aj.refl (λk=>nv.ownBlock=some k) W4).alloc _).grown tR (λk A=>.inl A);refine IH.out ((bE t).length - (i+1)) _ _ (by omega) ⟨i+1,nv',vs++[.iface tk (.pointer ta)],_,_,_,_,_,_,_,_,_,_,_,_,_,_,_,_,_,_,_,_,_,_,_,_,_,_,_,_,_,_,_,_,_,_,_,_,_,_,_,_,_,_,_,_,_,_,_,_,rfl,rfl,by omega,U9,⟨B1,c45.ownsRow tM (λk A e=>?_)⟩,pK,?_⟩
      ·obtain⟨c1,d1⟩:=bq tM A;obtain⟨c2,d2⟩:=bq MB.out e;rw[d1]at d2;cases d2
      ·rw[uI];have ru:Rx.Safe W4 (λk=>nv.ownBlock=some k):=λk cur T fz A hb=>by
        obtain⟨c2,d2⟩:=bq MB.out A;rw[d2]at hb;injection hb with hb;injection hb with _ hb _;subst hb;decide
       exact(EE.mono λa b _ hab=>OV.aA hab c45 ru).snoc (OV.aA MK.out c45 ru)
     ·have hz':=hx.out.1.size;go_wp2_with (at_builtin;refine wpList_append_own _ rfl (.tmp 32) (.tmp 37) 95 rfl W2.heap.size 106 i1 .nilIface 1 16 ((Tq.underlying 95).trans underlying95) VQ xr xU ya rfl (by decide) nv i vs rfl (MB.out.alloc _) ⟨W4.heap.size,0,none⟩ 1 1 [.nilIface] rfl rfl (ĵ _ _ _) (by intro u hu;obtain rfl:=bW.1 hu;rfl) (by unfold maxLen;omega) (by omega) (by rw[Ķ];omega) ?_;intro nv' w5 pK tR yn;have F5:=z37 (ua pK tR);clear pK tR yn);refine I.out _ _ ?_;clear I R;refine D.inBlock (D.rh λR I=>?_);go_wp2_with fail;refine I.out _ _ ?_;clear I R;obtain⟨G6,⟨B1,tM⟩,EE,uI,aCU⟩:=hx.out;obtain⟨pK,tR⟩:=F5.out;have hl:∀k,nv.ownBlock=some k->W2.heap.size<=k:=λk A=>(MB.out.lt k A).1;have U9:Below W2.heap.size W2 w5:=(G6.alloc hz' _).grown tR (by rw[Ķ];omega) (λk A=>hl k A);have c45:aj (λk=>nv.ownBlock=some k) W4 w5:=((aj.refl (λk=>nv.ownBlock=some k) W4).alloc _).grown tR (λk A=>.inl A);refine IH.out ((bE t).length - (i+1)) _ _ (by omega) ⟨i+1,nv',vs++[.nilIface],_,_,_,_,_,_,_,_,_,_,_,_,_,_,_,_,_,_,_,_,_,_,_,_,_,_,_,_,_,_,_,_,_,_,_,_,_,_,_,_,_,_,_,_,_,_,_,_,rfl,rfl,by omega,U9,⟨B1,c45.ownsRow tM (λk A e=>?_)⟩,pK,?_⟩
      ·obtain⟨c1,d1⟩:=bq tM A;obtain⟨c2,d2⟩:=bq MB.out e;rw[d1]at d2;cases d2
      ·rw[uI];have ru:Rx.Safe W4 (λk=>nv.ownBlock=some k):=λk cur T fz A hb=>by
        obtain⟨c2,d2⟩:=bq MB.out A;rw[d2]at hb;injection hb with hb;injection hb with _ hb _;subst hb;decide
       exact(EE.mono λa b _ hab=>OV.aA hab c45 ru).snoc (OV.aA MK.out c45 ru)
    ·obtain rfl:i=(bE t).length:=by omega
     have qw:(((bE t).length:Int)<((bE t).length:Int))=False:=gO (by omega);have cB:=aj.nK G6;obtain⟨Ep,zQ,bl,bD,bb,br⟩:=Z.out;have cw0:aj (wF (n+2) (n+3) (n+7) (n+6)) W U:=Ep.trans (cB.mono (λ_ _ e=>e.elim));have cw1:aj (wF (n+2) (n+3) (n+7) (n+6)) W0 U:=zQ.trans (cB.mono (λ_ _ e=>e.elim));have bb':=bb.aA cB (λe=>e);have k7:U.cell? ⟨n+3,0,none⟩=some (.bool (!(pre.all (ig S p)))):=bb'.at rfl;have f7:=bb'.frozen (i:=0) (.inr (aI _));have Zo:kindOf t=o.kind:=(lS fx.out.1).2;have hos:((bE t).map (Sp.find S p)).length=(bE t).length:=dN _;have LS:(bE t).take (bE t).length=bE t:=fM;rw[LS]at EE;have Ft:=Z4 U t o.kind ob nv ((bE t).map (Sp.find S p)) vs W2.heap.size (qj fx.out.1) Zo (by rw[hos];exact hnv) EE (by rw[hos];have:=fx.out.2.2.2.2.1;omega);replace Ft:=z37 Ft;have fin:∀w5,w5=U.setCell ⟨n+3,0,none⟩ (.bool (!((pre++[x]).all (ig S p))))->(∃Wz,Wz=w5.putObj (n+7) (.loop {{rc with state:=.busy}with state:=.ready,pending:=none})/\WJ W0 S p (n+2) (n+3) (n+7) (n+6) rc (pre++[x]) (wF (n+2) (n+3) (n+7) (n+6)) Wz/\aj (wF (n+2) (n+3) (n+7) (n+6)) W Wz/\∀k,wF (n+2) (n+3) (n+7) (n+6) k->(wF (n+2) (n+3) (n+7) (n+6) k\/W.heap.size<=k)/\k<Wz.heap.size)/\w5.heap[n+7]? =some (.loop {rc with state:=.busy}):=by
      rintro w5 rfl;have c5:aj (wF (n+2) (n+3) (n+7) (n+6)) W0 (U.setCell ⟨n+3,0,none⟩ (.bool (!((pre++[x]).all (ig S p))))):=cw1.setCell (p:=⟨n+3,0,none⟩) (.inl (.inr (.inl rfl))) _;have c50:aj (wF (n+2) (n+3) (n+7) (n+6)) W (U.setCell ⟨n+3,0,none⟩ (.bool (!((pre++[x]).all (ig S p))))):=cw0.setCell (p:=⟨n+3,0,none⟩) (.inl (.inr (.inl rfl))) _;have bl5:(U.setCell ⟨n+3,0,none⟩ (.bool (!((pre++[x]).all (ig S p))))).heap[n+7]? =some (.loop {rc with state:=.busy}):=(Below.heap_setCell _ ⟨n+3,0,none⟩ _ _ (by simp)).trans ((cB.block _ (Ĵ bl) (λe=>e)).trans bl);have bD5:(U.setCell ⟨n+3,0,none⟩ (.bool (!((pre++[x]).all (ig S p))))).heap[n+6]? =some (.deferred (some [])):=(Below.heap_setCell _ ⟨n+3,0,none⟩ _ _ (by simp)).trans ((cB.block _ (Ĵ bD) (λe=>e)).trans bD);have bb5:aM (U.setCell ⟨n+3,0,none⟩ (.bool (!((pre++[x]).all (ig S p))))) (n+3) #[.bool (!((pre++[x]).all (ig S p)))] 4 (0,0):=aM.set bb' 0 _;have br5:aM (U.setCell ⟨n+3,0,none⟩ (.bool (!((pre++[x]).all (ig S p))))) (n+2) #[.string ⟨#[]⟩] 9 (0,0):=aM.other (br.aA cB (λe=>e)) (by simp) _;have hrc:({{rc with state:=.busy}with state:=.ready,pending:=none}:Loop)=rc:=by have V:=h1.out.1;have J:=h1.out.2.2;cases rc;simp only at V J;subst V J;rfl
      have U2:n+7<(U.setCell ⟨n+3,0,none⟩ (.bool (!((pre++[x]).all (ig S p))))).heap.size:=Ĵ bl5;refine⟨⟨_,rfl,⟨rfl,cK c5 (.inl (.inr (.inr (.inl rfl)))) _,by rw[aJ,bk ⟨rfl,U2⟩,hrc],?_,?_,?_,λk A=>?_⟩,cK c50 (.inl (.inr (.inr (.inl rfl)))) _,λk A=>⟨.inl A,?_⟩⟩,bl5⟩
      ·rw[aJ,aX (by omega)];exact bD5
      ·unfold aM;rw[aJ,aX (by omega)];exact bb5
      ·unfold aM;rw[aJ,aX (by omega)];exact br5
      ·rcases dg.1 A with A|A
       ·exact hr.out.1.found k A
       ·obtain rfl:=bW.1 A;rw[fx.out.2.2.1];rfl
      ·rw[ķ];have:=c5.size;rw[gs]at this;rcases A with rfl|rfl|rfl|rfl<;>omega
     replace fin:=z37 fin;have Jf:=fx.out.2.2.1;have wA:(pre++[x]).all (ig S p)=(pre.all (ig S p)&&Sp.fits S p t):=by rw[ot];simp[ig,Jf]
     have FA:Sp.fits S p t=vo (kindOf t) 0 ((bE t).map (Sp.find S p)):=rfl;have HA:=z37 (ua wA FA);clear Ep zQ bl bD bb br cw0 cw1 bb' Zo hos LS EE hnv tM G6 cB wA FA Jf IH k3 k4;refine D.seq (D.rh λR I=>?_);go_wp2_with fail;refine I.out _ _ ?_;clear I R;refine D.seq (D.cond rfl (D.exit rfl (D.rh λR I=>?_)));cases hpa:pre.all (ig S p)with
     |true=>rw[hpa]at k7;replace k7:U.cell? ⟨n+3,0,none⟩=some (.bool false):=k7;go_wp2_with fail;refine Ft.out.mono ?_;rintro e W6 ⟨rfl,rfl⟩;go_wp2_with fail;refine I.out _ _ ?_;obtain⟨⟨_,rfl,z1,z2,z3⟩,q2⟩:=fin.out _ (by rw[HA.out.1,hpa,jD,HA.out.2]);exact D.inBlock (D.Db q2 (hr.out.2.1 _ _ z1 z2 z3))
     |false=>rw[hpa]at k7;replace k7:U.cell? ⟨n+3,0,none⟩=some (.bool true):=k7;go_wp2_with fail;refine I.out _ _ ?_;obtain⟨⟨_,rfl,z1,z2,z3⟩,q2⟩:=fin.out _ (by rw[HA.out.1,hpa,Bool.false_and]);exact D.inBlock (D.Db q2 (hr.out.2.1 _ _ z1 z2 z3))
 case stop=>
  rintro pre F' W' hp ⟨c,l1,d1,r1,k,A,hkn⟩;refine D.IP l1 (by simp) ?_;have U2:n+7<W'.heap.size:=Ĵ l1;refine D.ret rfl (D.Ia (LV:=n+6) rfl rfl (by rw[aJ,aX (by omega)];exact d1) ?_);have rr:aM ((W'.putObj (n+7) (.loop {{rc with state:=.done,pending:=some .ret}with state:=.exhausted})).putObj (n+6) (.deferred none)) (n+2) #[.string ⟨#[109,105,115,115,105,110,103]⟩] 9 (0,0):=by unfold aM;rw[aJ,aX (by omega),aJ,aX (by omega)];exact r1
  have hw:Sp.whole S p id.data.toList=rA:=by unfold Sp.whole;rw[bk];exact gR.2 ⟨k,hp.subset A,hkn⟩
  refine D.left (v:=.string ⟨#[109,105,115,115,105,110,103]⟩) rfl rfl rfl rfl Tq.func196 ?_ ⟨by rw[hw];rfl,?_⟩
  ·exact kT rfl _ _ ⟨n+2,0,none⟩ _ rfl (rr.at rfl)
  ·exact fJ (cK (cK c (.inl (.inr (.inr (.inl rfl)))) _) (.inl (.inr (.inr (.inr rfl)))) _)
 case done=>
  rintro F' W' hJ;refine D.IP hJ.loop (by rw[RC.out.1];simp) ?_;rw[RC.out.2.1];simp only[oy,lB,cg];refine D.inBlock ?_;have U2:n+7<W'.heap.size:=Ĵ hJ.loop;have cd:aj (wF (n+2) (n+3) (n+7) (n+6)) W0 (W'.putObj (n+7) (.loop {rc with state:=.exhausted,pending:=none})):=cK hJ.aA (.inl (.inr (.inr (.inl rfl)))) _;have dD:(W'.putObj (n+7) (.loop {rc with state:=.exhausted,pending:=none})).heap[n+6]? =some (.deferred (some [])):=by rw[aJ,aX (by omega)];exact hJ.defs
  have db:aM (W'.putObj (n+7) (.loop {rc with state:=.exhausted,pending:=none})) (n+3) #[.bool (!((Sp.reach S p id.data.toList).all (ig S p)))] 4 (0,0):=by unfold aM;rw[aJ,aX (by omega)];exact hJ.bad
  have dr:aM (W'.putObj (n+7) (.loop {rc with state:=.exhausted,pending:=none})) (n+2) #[.string ⟨#[]⟩] 9 (0,0):=by unfold aM;rw[aJ,aX (by omega)];exact hJ.res
  have Zw:=hJ.found;generalize W'.putObj (n+7) (.loop {rc with state:=.exhausted,pending:=none})=Wd at cd dD db dr ⊢;have n3:¬wF (n+2) (n+3) (n+7) (n+6) n:=by rintro(e|e|e|e)<;>omega
  have n4:¬wF (n+2) (n+3) (n+7) (n+6) (n+1):=by rintro(e|e|e|e)<;>omega
  have k3:Wd.cell? ⟨n,0,none⟩=some (.pointer (some ⟨st,0,none⟩)):=(g3.aA cd n3).at rfl;have k4:Wd.cell? ⟨n+1,0,none⟩=some (.pointer (some ⟨pb,0,none⟩)):=(g4.aA cd n4).at rfl;have k7:Wd.cell? ⟨n+3,0,none⟩=some (.bool (!((Sp.reach S p id.data.toList).all (ig S p)))):=db.at rfl;have k6:Wd.cell? ⟨n+2,0,none⟩=some (.string ⟨#[]⟩):=dr.at rfl;have f6:=dr.frozen (i:=0) (.inr (aI _));have hbd:=fJ cd;have Av:=uw hbd;have Fi:=sP Wd st mo mr pb mw μ S cv p cl id Av.1 Av.2 hid;replace Fi:=z37 Fi;have vy:¬((Sp.reach S p id.data.toList).any λk=>(Sp.find S p k).isNone)=true:=λe=>by
   obtain⟨k,A,hkn⟩:=gR.1 e;have:=Zw k A;cases hh:Sp.find S p k with
   |none=>rw[hh]at this;cases this
   |some _=>rw[hh]at hkn;cases hkn
  have hw:Sp.whole S p id.data.toList=if(Sp.reach S p id.data.toList).all (ig S p)&&cB (Sp.find S p id.data.toList)then[]else FL:=by unfold Sp.whole;rw[aX vy];rfl
  have fin:∀(s:B) (W5:World) (tm:Array Value) (td:List Item),(W5=Wd.setCell ⟨n+2,0,none⟩ (.string ⟨s.toArray⟩))->tm.getD 6 undef=.pointer (some ⟨n+2,0,none⟩)->Sp.whole S p id.data.toList=s->
   D Tq.prog (Lv.Left Tq.prog 196 cs λe U=>e=Ending.returned (av (whole S p id.data.toList))/\Below n w U) W5 {(fb 196).atR {tmps:=tm,defers:=[{target:=.collected (n+6),args:=#[]}]} td with mode:=.returning} cs:=by
   rintro s W5 tm td rfl htm hws;have hD6:(Wd.setCell ⟨n+2,0,none⟩ (.string ⟨s.toArray⟩)).heap[n+6]? =some (.deferred (some [])):=(Below.heap_setCell _ ⟨n+2,0,none⟩ _ _ (by simp)).trans dD;refine D.Ia (LV:=n+6) rfl rfl hD6 ?_;have rr:aM ((Wd.setCell ⟨n+2,0,none⟩ (.string ⟨s.toArray⟩)).putObj (n+6) (.deferred none)) (n+2) #[.string ⟨s.toArray⟩] 9 (0,0):=by unfold aM;rw[aJ,aX (by omega)];exact aM.set dr 0 _
   refine D.left (v:=.string ⟨s.toArray⟩) rfl rfl rfl rfl Tq.func196 ?_ ⟨by rw[hws];rfl,?_⟩
   ·exact kT rfl _ _ ⟨n+2,0,none⟩ _ htm (rr.at rfl)
   ·exact fJ (cK (cd.setCell (p:=⟨n+2,0,none⟩) (.inl (.inl rfl)) _) (.inl (.inr (.inr (.inr rfl)))) _)
  replace fin:=z37 fin;have HW:=z37 hw;replace Q:=z37 Q;clear vy Zw cd dD db dr hJ hbd Av n3 n4 fJ uw hS hP hid fT h0 g3 g4 g6 g7 g8 g9 gD gl gs gB hv RC U2 hw;unfold aG at Fi;refine D.seq (D.seq (D.rh λR I=>?_));go_wp2_with fail;refine Fi.out.mono ?_;rintro e W6 ⟨⟨v,rfl,GV⟩,rfl⟩;have aC:=(OV.ji GV W6).choose_spec;generalize(OV.ji GV W6).choose=qC at aC;clear GV Fi;go_wp2_with fail;refine I.out _ _ ?_;clear I R;refine D.seq (D.rh λR I=>?_);cases hba:(Sp.reach S p id.data.toList).all (ig S p)<;>cases AG:cB (Sp.find S p id.data.toList)
  all_goals
   rw[hba]at k7;have hw:=HW.out;rw[hba,AG]at hw;have hw:=z37 hw;simp only[kh,Bool.not_false]at k7;go_wp2_with fail;refine I.out _ _ ?_
   first
    |(refine D.cond (t:=true) rfl (D.seq (D.reg rfl λR I=>?_))
      replace I:=z37 I;go_wp2_with fail;refine I.out _ _ (D.ret rfl ?_);exact fin.out FL _ _ _ rfl rfl (by rw[hw.out];rfl))
    |(refine D.cond (t:=false) rfl (D.skip (D.seq (D.reg rfl λR I=>?_)))
      replace I:=z37 I;go_wp2_with fail;refine I.out _ _ (D.ret rfl ?_);exact fin.out [] _ _ _ rfl rfl (by rw[hw.out];rfl))
def Xh{n cap w B1 g x l}(h:w.ownsRow B1 9 1 (.slice (some ⟨g,0,none⟩) n cap) (x::l).length ((x::l).map av)):n=l.length+1/\1<=cap/\Qm w B1 (.slice (if cap - 1=0 then some ⟨g,0,none⟩else some ⟨g,1,none⟩) l.length (cap - 1)) l:=by
 obtain⟨hl,L⟩:=h;rcases L with⟨e,_⟩|⟨g',vZ,cur,e,V,J,h3,h4,h5,h6⟩
 ·cases e
 ·injection e with e1 e2 e3;injection e1 with e1;injection e1 with e1 _;subst e1 e2 e3;simp only[bt]at h3 h6;refine⟨rfl,by omega,?_⟩;have wx:∀i y,l[i]? =some y->cur[1+i]? =some (av y):=λi y hy=>by
   have hi:((x::l).map av)[i+1]? =some (av y):=by rw[gA,List.getElem?_cons_succ,eL,hy];rfl
   rw[<-h6,pn,j7]at hi;split at hi
   ·rw[oP,<-iO];exact hi
   ·cases hi
  by_cases h0:cap - 1=0
  ·rw[bk h0];have Q:l=[]:=eK (by omega);subst Q;exact⟨_,cap - 1,rfl,λk A=>by simp only[Value.ownBlock,cI]at A;subst A;exact⟨V,Ĵ J⟩,λi y hy=>by simp at hy⟩
  ·rw[aX h0];exact⟨_,cap - 1,rfl,λk A=>by simp only[Value.ownBlock,cI]at A;subst A;exact⟨V,Ĵ J⟩,λi y hy=>⟨g,1,cur,rfl,J,wx i y hy⟩⟩
def Lb w st mo mr pb mw μ S cv p cl k(hS:qZ w st mo mr μ S)(hP:kK w pb mw cv p cl)(A:k.size<=maxLen):
 Calls Tq.prog 198 #[aG st,aG pb,.string k] w λe U=>∃v,e=.returned v/\Qm U w.heap.size v (Sp.parents S p k.data.toList)/\Below w.heap.size w U:=by
 have Fi:=z37 (sP w st mo mr pb mw μ S cv p cl k hS hP A);have Q:Sp.parents S p k.data.toList=match Sp.find S p k.data.toList with|some t=>if ek t then(bE t).drop 1 else[]|none=>[]:=rfl
 rw[Q];generalize Sp.find S p k.data.toList=fo at Fi ⊢;generalize Ge:(match fo with|some t=>if ek t then(bE t).drop 1 else[]|none=>[])=po;replace Ge:=z37 Ge;clear hS hP A Q;unfold aG at Fi ⊢;go_enter Tq.func198,ntmps198;go_wp2_with fail;refine Fi.out.mono ?_;rintro e U ⟨⟨v,rfl,X⟩,rfl⟩;have yn:Qm U U.heap.size (.slice none 0 0) []:=⟨none,0,rfl,λk A=>by simp[Value.ownBlock]at A,λi x E=>by simp at E⟩
 cases fo with
 |none=>obtain rfl:v=.nilIface:=X;obtain rfl:[]=po:=Ge.out;have t0:=HV U;have H:=z37 yn;clear yn;go_wp2_with fail;go_ret;exact⟨_,rfl,H.out,Below.refl _ _⟩
 |some t=>
  have hf:=Ob.Bl X;obtain⟨o,b,n,V,rfl,h3,h4,h5⟩:=X;rw[(lS V).1]at hf;have N:=z37 (zm U t o b n V h3 h4 (by omega));have Zo:ek t=(o.kind==99):=by unfold ek;rw[(lS V).2]
  have hid:=λ(L:ek t=true)=>P6 L;clear h3 h4 h5;unfold aG;have tC:=tJ o.kind (qj V) ⟨b,0,none⟩ U;by_cases h99:o.kind=99
  ·have L:ek t=true:=by rw[Zo,h99];rfl
   obtain⟨x,r,E,_⟩:=hid L;have UX:=Ge.out;simp only[L,j2]at UX;rw[bk h99]at tC;rw[h99]at tC;simp only[pD]at tC;have hD:(bE t).drop 1=r:=by rw[E];rfl
   rw[hD]at UX;subst UX;have aP0:=z37 h99;have H:=z37 (ua E yn);clear E yn hid Zo L hD;rw[aP0.out];go_wp2_with fail;refine N.out.mono ?_;rintro e w2 ⟨v',rfl,tM,hb⟩;rw[H.out.1]at tM;obtain⟨g,cap,rfl⟩:∃g cap,v'=.slice (some ⟨g,0,none⟩) (x::r).length cap:=by
    rcases tM.2 with⟨_,h0⟩|⟨g,cap,cur,e,_⟩
    ·simp at h0
    ·exact⟨g,cap,e⟩
   simp only[bt]at tM ⊢;obtain⟨e1,e2,FY⟩:=Xh tM;have R:=z37 (ua FY hb);clear tM hb FY e1;go_wp2_with fail
   all_goals
    go_ret;refine⟨_,rfl,?_,R.out.2⟩;have J:=R.out.1
   ·have h0:cap - 1=0:=by omega
    rw[bk h0,h0]at J;exact J
   ·rw[aX (by omega)]at J;exact J
  ·have L:ek t=false:=by rw[Zo];simpa using h99
   have e99:(o.kind==99)=false:=by simpa using h99
   have UX:=Ge.out;simp only[L,bh,cz]at UX;subst UX;rw[aX h99,e99]at tC;have H:=z37 yn;clear yn hid Zo L e99;go_wp2_with fail;go_ret;exact⟨_,rfl,H.out,Below.refl _ _⟩
def OP w bs bp st mo mr pb mw μ S cv p cl k(hS:qZ w st mo mr μ S)(hP:kK w pb mw cv p cl)(A:k.size<=maxLen)(V:w.cell? ⟨bs,0,none⟩=some (aG st))(J:w.cell? ⟨bp,0,none⟩=some (aG pb)):
 Calls Tq.prog 197 #[.string k,.pointer (some ⟨bs,0,none⟩),.pointer (some ⟨bp,0,none⟩)] w λe U=>∃v,e=.returned v/\Qm U w.heap.size v (Sp.parents S p k.data.toList)/\Below w.heap.size w U:=by
 have C:=z37 (Lb w st mo mr pb mw μ S cv p cl k hS hP A);clear hS hP A;unfold aG at V J C;go_enter Tq.func197,ntmps197;go_wp2_with fail;refine C.out.mono ?_;rintro e w2 ⟨v',rfl,tM,hb⟩;have R:=z37 (ua tM hb);clear tM hb V J;go_wp2_with fail;go_ret;exact⟨_,rfl,R.out⟩
def E9{S p}(h:AP S p)k:(Sp.parents S p k).length<=1000000/\∀x∈Sp.parents S p k,x.length<=maxLen:=by
 unfold Sp.parents;split
 ·rename_i t ht;have:=zz (vG h ht).1;split
  ·exact⟨by rw[gh];omega,λx E=>by have:=this.2 x (qD E);unfold maxLen;omega⟩
  ·simp
 ·simp
def Yy(S:St)(r:B):B:=match S.refs.get r with|some v=>if v=[]then di else v|none=>di
def lF(r l LV:Nat)(k:Nat):Prop:=k=r\/k=l\/k=LV
structure LJ W0 old r l LV rc(pre:List B)(F:Nat->Prop)W:Prop where
 Qo:F=lF r l LV
 aA:aj (lF r l LV) W0 W
 loop:W.heap[l]? =some (.loop rc)
 defs:W.heap[LV]? =some (.deferred (some []))
 res:aM W r #[.string ⟨#[]⟩] 9 (0,0)
 Yz:old∉pre
structure LX W0 old r l LV(rc:Loop)(pre:List B)W:Prop where
 aA:aj (lF r l LV) W0 W
 loop:W.heap[l]? =some (.loop {rc with state:=.done,pending:=some .ret})
 defs:W.heap[LV]? =some (.deferred (some []))
 res:aM W r #[.string ⟨#[111,107]⟩] 9 (0,0)
 aOj:old∈pre
def V9 w st mo mr pb mw μ S cv p cl old new ref(hS:qZ w st mo mr μ S)(hP:kK w pb mw cv p cl)(lu:new.length<=maxLen)(UU:ref.length<=maxLen)(fT:AP S p):
 Calls Tq.prog 175 #[aG st,aG pb,.agg #[.string ⟨old.toArray⟩,.string ⟨new.toArray⟩,.string ⟨ref.toArray⟩]] w λe U=>e=.returned (av (Sp.word S p ⟨old,new,ref⟩))/\Below w.heap.size w U:=by
 refine nA λcs=>?_;unfold aG;refine D.enter Tq.func175 rfl ?_;simp only[ntmps175,eC,bt,dt,Nat.reduceAdd,Nat.reduceSub,dC,dK,eI,cY,cg,cf];have hv:=z37 (ua hS (ua hP (ua lu (ua UU fT))));clear hS hP lu UU fT;refine D.seq (D.rh λR I=>?_);go_wp2_with fail;refine I.out _ _ ?_;clear I R;obtain⟨n,Q⟩:∃n,n=w.heap.size:=⟨_,rfl⟩
 obtain⟨w1,sD⟩:∃w1,w1=(((w.alloc (.cells #[.pointer (some ⟨st,0,none⟩)] 54)).alloc (.cells #[.pointer (some ⟨pb,0,none⟩)] 153)).alloc (.cells #[.string ⟨old.toArray⟩,.string ⟨new.toArray⟩,.string ⟨ref.toArray⟩] 142)).alloc (.cells #[.string ⟨#[]⟩] 9):=⟨_,rfl⟩
 rw[<-sD];simp only[Ķ,<-Q,ft,Nat.reduceAdd];have g3:aM w1 n #[.pointer (some ⟨st,0,none⟩)] 54 (0,0):=by unfold aM;rw[sD];simp only[aO,Ķ];repeat (first|rw[aX (by omega)]|rw[bk (by omega)])
 have g4:aM w1 (n+1) #[.pointer (some ⟨pb,0,none⟩)] 153 (0,0):=by unfold aM;rw[sD];simp only[aO,Ķ];repeat (first|rw[aX (by omega)]|rw[bk (by omega)])
 have g5:aM w1 (n+2) #[.string ⟨old.toArray⟩,.string ⟨new.toArray⟩,.string ⟨ref.toArray⟩] 142 (0,0):=by unfold aM;rw[sD];simp only[aO,Ķ];repeat (first|rw[aX (by omega)]|rw[bk (by omega)])
 have g6:aM w1 (n+3) #[.string ⟨#[]⟩] 9 (0,0):=by unfold aM;rw[sD];simp only[aO,Ķ];repeat (first|rw[aX (by omega)]|rw[bk (by omega)])
 have gs:w1.heap.size=n+4:=by rw[sD];simp only[Ķ];omega
 have gB:Below n w w1:=by rw[sD,Q];exact((((Below.refl _ w).alloc (aI _) _).alloc (by simp) _).alloc (by simp;omega) _).alloc (by simp;omega) _
 clear sD;obtain⟨hS,hP,lu,UU,fT⟩:=hv.out;have uw:∀W:World,Below n w W->qZ W st mo mr μ S/\kK W pb mw cv p cl:=λW h=>by
  have L:aj (λ_=>False) w _:=aj.nK (Q▸h);exact⟨hS.aA L (Rx.Safe.none w) (λe=>e) (λe=>e) (λe=>e),hP.aA L (Rx.Safe.none w) (λe=>e) (λe=>e)⟩
 have s1:=uw _ gB;have k3:w1.cell? ⟨n,0,none⟩=some (.pointer (some ⟨st,0,none⟩)):=g3.at rfl;have k4:w1.cell? ⟨n+1,0,none⟩=some (.pointer (some ⟨pb,0,none⟩)):=g4.at rfl;have c0:w1.cell? ⟨n+2,0,none⟩=some (.string ⟨old.toArray⟩):=g5.at rfl;have c1:w1.cell? ⟨n+2,1,none⟩=some (.string ⟨new.toArray⟩):=g5.at rfl;have c2:w1.cell? ⟨n+2,2,none⟩=some (.string ⟨ref.toArray⟩):=g5.at rfl;have k6:w1.cell? ⟨n+3,0,none⟩=some (.string ⟨#[]⟩):=g6.at rfl;have f6:=g6.frozen (i:=0) (.inr (aI _));have m5:w1.cell? ⟨st,5,none⟩=some (.map (some mr)):=s1.1.blk.at rfl;have m2:w1.cell? ⟨st,2,none⟩=some (.bool S.forward):=s1.1.blk.at rfl;obtain⟨lv,lps,B5,BG⟩:=Ĺ (w:=w1.drew) (Mp.SM.block s1.1.refs rfl) L6 (t:=56) (e:=9) ((Tq.underlying 56).trans underlying56) (z:=.string ⟨#[]⟩) (by simp[zeroValue9]) (zd:=.held (.string ⟨#[]⟩)) (zp:=[]) rfl (DK (s:=⟨ref.toArray⟩) UU);have aGj:∃r0:B,lv=.string ⟨r0.toArray⟩/\Yy S ref=if r0=[]then di else r0:=by
  rw[yC,mU]at BG;unfold RV at BG;unfold Yy;cases hh:S.refs.get ref with
  |none=>rw[hh]at BG;simp at BG;exact⟨[],BG.1,rfl⟩
  |some u=>rw[hh]at BG;simp at BG;exact⟨u,BG.1,rfl⟩
 obtain⟨r0,rfl,U0⟩:=aGj;generalize vy:Yy S ref=now at U0;have hv:=z37 (ua hS (ua hP (ua lu (ua UU (ua fT vy)))));clear hS hP lu UU fT vy BG;have hr:=z37 (ua Q (ua g3 (ua g4 (ua g5 (ua g6 (ua gs (ua gB s1)))))));clear Q g3 g4 g5 g6 gs gB s1;replace uw:=z37 uw;refine D.seq (D.tq rfl λR I=>?_);replace I:=z37 I
 go_still (by kernel_rfl)
 refine I.out _ _ ?_;clear I R B5;have gBd:Below n w w1.drew:=(hr.out.1▸qnz (hr.out.1▸hr.out.2.2.2.2.2.2.1) 1)
 replace k3:w1.drew.cell? ⟨n,0,none⟩=some (.pointer (some ⟨st,0,none⟩)):=k3;replace k4:w1.drew.cell? ⟨n+1,0,none⟩=some (.pointer (some ⟨pb,0,none⟩)):=k4;replace c0:w1.drew.cell? ⟨n+2,0,none⟩=some (.string ⟨old.toArray⟩):=c0;replace c1:w1.drew.cell? ⟨n+2,1,none⟩=some (.string ⟨new.toArray⟩):=c1;replace c2:w1.drew.cell? ⟨n+2,2,none⟩=some (.string ⟨ref.toArray⟩):=c2;replace k6:w1.drew.cell? ⟨n+3,0,none⟩=some (.string ⟨#[]⟩):=k6;replace m2:w1.drew.cell? ⟨st,2,none⟩=some (.bool S.forward):=m2;have g3:aM w1.drew n #[.pointer (some ⟨st,0,none⟩)] 54 (0,0):=hr.out.2.1;have g4:aM w1.drew (n+1) #[.pointer (some ⟨pb,0,none⟩)] 153 (0,0):=hr.out.2.2.1;have g5:aM w1.drew (n+2) #[.string ⟨old.toArray⟩,.string ⟨new.toArray⟩,.string ⟨ref.toArray⟩] 142 (0,0):=hr.out.2.2.2.1;have g6:aM w1.drew (n+3) #[.string ⟨#[]⟩] 9 (0,0):=hr.out.2.2.2.2.1;have gs:w1.drew.heap.size=n+4:=hr.out.2.2.2.2.2.1;replace f6:w1.drew.frozen? ⟨n+3,0,none⟩=false:=f6;have Q:=hr.out.1;clear hr m5;change D Tq.prog _ w1.drew _ cs;generalize w1.drew=wd at *;have hr:=z37 (ua Q (ua g3 (ua g4 (ua g5 (ua g6 (ua gs gBd))))));clear Q g3 g4 g5 g6 gs gBd;refine D.seq (D.code rfl (R:=λhk W=>W=wd/\∃x0 x1 x2 x8 x9 x10 x11 x12 x13 x14 x15 x16 x17 x18 x19 x20 x21 x22 x23 x24 x25 x26 x27 x28 x29 x30 x31 x32 x33 x34 x35 x36 x37 x38 x39 x40 x41 x42 x43 x44 x45 x46 x47 x48 x49 x50 x51 x52,hk={tmps:=#[x0,x1,x2,.pointer (some ⟨n,0,none⟩),.pointer (some ⟨n+1,0,none⟩),.pointer (some ⟨n+2,0,none⟩),.pointer (some ⟨n+3,0,none⟩),.string ⟨now.toArray⟩,x8,x9,x10,x11,x12,x13,x14,x15,x16,x17,x18,x19,x20,x21,x22,x23,x24,x25,x26,x27,x28,x29,x30,x31,x32,x33,x34,x35,x36,x37,x38,x39,x40,x41,x42,x43,x44,x45,x46,x47,x48,x49,x50,x51,x52],defers:=[]}) ?_ ?_)
 ·by_cases h0:r0=[]
  ·subst h0;have V:=U0;simp only[j2]at V;subst V;clear U0;go_wp2_with fail;exact⟨rfl,_,_,_,_,_,_,_,_,_,_,_,_,_,_,_,_,_,_,_,_,_,_,_,_,_,_,_,_,_,_,_,_,_,_,_,_,_,_,_,_,_,_,_,_,_,_,_,_,rfl⟩
  ·rw[aX h0]at U0;subst U0;have V:List.isEmpty now=false:=by cases now with|nil=>exact absurd rfl h0|cons _ _=>rfl
   clear h0;go_wp2_with fail;exact⟨rfl,_,_,_,_,_,_,_,_,_,_,_,_,_,_,_,_,_,_,_,_,_,_,_,_,_,_,_,_,_,_,_,_,_,_,_,_,_,_,_,_,_,_,_,_,_,_,_,_,rfl⟩
 rintro hk W ⟨rfl,x0,x1,x2,x8,x9,x10,x11,x12,x13,x14,x15,x16,x17,x18,x19,x20,x21,x22,x23,x24,x25,x26,x27,x28,x29,x30,x31,x32,x33,x34,x35,x36,x37,x38,x39,x40,x41,x42,x43,x44,x45,x46,x47,x48,x49,x50,x51,x52,rfl⟩;dsimp only;obtain⟨Q,g3,g4,g5,g6,gs,gBd⟩:=hr.out;clear hr;have fJ:∀W',aj (λk=>n+3<=k) W W'->Below n w W':=λW' h=>gBd.trans (h.below (by omega) (λk A=>by omega));have fin:∀(s:B) (W5:World) (tm:Array Value) (td:List Item),aM W5 (n+3) #[.string ⟨s.toArray⟩] 9 (0,0)->aj (λk=>n+3<=k) W W5->tm.getD 6 undef=.pointer (some ⟨n+3,0,none⟩)->Sp.word S p ⟨old,new,ref⟩=s->
  D Tq.prog (Lv.Left Tq.prog 175 cs λe U=>e=Ending.returned (av (Sp.word S p ⟨old,new,ref⟩))/\Below n w U) W5 {(fb 175).atR {tmps:=tm,defers:=[]} td with mode:=.returning} cs:=by
  rintro s W5 tm td hb L htm hws;refine D.left (v:=.string ⟨s.toArray⟩) rfl rfl rfl rfl Tq.func175 ?_ ⟨by rw[hws];rfl,fJ _ L⟩;exact kT rfl _ _ ⟨n+3,0,none⟩ _ htm (hb.at rfl)
 have sQ:∀(s:B) (tm:Array Value) (td:List Item),tm.getD 6 undef=.pointer (some ⟨n+3,0,none⟩)->Sp.word S p ⟨old,new,ref⟩=s->
  D Tq.prog (Lv.Left Tq.prog 175 cs λe U=>e=Ending.returned (av (Sp.word S p ⟨old,new,ref⟩))/\Below n w U) (W.setCell ⟨n+3,0,none⟩ (.string ⟨s.toArray⟩)) {(fb 175).atR {tmps:=tm,defers:=[]} td with mode:=.returning} cs:=
  λs tm td V J=>fin s _ tm td (aM.set g6 0 _) (aj.setCell (S:=λk=>n+3<=k) (aj.refl _ W) (p:=⟨n+3,0,none⟩) (.inl (aI _)) _) V J
 replace fin:=z37 fin;replace sQ:=z37 sQ;have vy:=hv.out.2.2.2.2.2;have hw:Sp.word S p ⟨old,new,ref⟩=if now≠old then BS else if new=di then jK else if Sp.whole S p new≠[]then Sp.whole S p new else if !S.forward||old=di then jK else if(line S p new).contains old then jK else BU:=by rw[<-vy];rfl
 replace hw:=z37 hw;have hr:=z37 (ua Q (ua g3 (ua g4 (ua g5 (ua g6 (ua gs (ua gBd fJ)))))));clear Q g3 g4 g5 g6 gs gBd fJ vy U0;refine D.seq (D.seq (D.rh λR I=>?_));go_wp2_with fail;refine I.out _ _ ?_;clear I R;by_cases e1:now=old
 case neg=>
  have hb:(now==old)=false:=fq e1;rw[hb];refine D.cond (t:=true) rfl (D.seq (D.rh λR I=>?_));have hx:=z37 e1;clear e1 hb;go_wp2_with fail;refine I.out _ _ (D.ret rfl ?_);exact sQ.out BS _ _ rfl (by rw[hw.out,bk hx.out])
 have hb:(now==old)=true:=by simpa using e1
 rw[hb];refine D.cond (t:=false) rfl (D.skip ?_);replace hw:=hw.out;rw[aX (λh=>h e1)]at hw;replace hw:=z37 hw;clear hb e1;refine D.seq (D.seq (D.rh λR I=>?_));go_wp2_with fail;refine I.out _ _ ?_;clear I R;by_cases e1:new=di
 ·have hb:(new==[48,48,48,48,48,48,48,48])=true:=by rw[e1];rfl
  rw[hb];refine D.cond (t:=true) rfl (D.seq (D.rh λR I=>?_));have hx:=z37 e1;clear e1 hb;go_wp2_with fail;refine I.out _ _ (D.ret rfl ?_);exact sQ.out jK _ _ rfl (by rw[hw.out,bk hx.out])
 have hb:(new==[48,48,48,48,48,48,48,48])=false:=fq e1;rw[hb];refine D.cond (t:=false) rfl (D.skip ?_);replace hw:=hw.out;rw[aX e1]at hw;replace hw:=z37 hw;clear hb e1;obtain⟨hS,hP⟩:=uw.out _ hr.out.2.2.2.2.2.2.1;have Wh:=Sq W st mo mr pb mw μ S cv p cl ⟨new.toArray⟩ hS hP hv.out.2.2.1 hv.out.2.2.2.2.1;have CN:Sp.whole S p (⟨new.toArray⟩:ByteArray).data.toList=Sp.whole S p new:=rfl;rw[CN]at Wh;obtain⟨wd2,aCs⟩:∃x,x=Sp.whole S p new:=⟨_,rfl⟩
 rw[<-aCs]at Wh;replace hw:=hw.out;rw[<-aCs]at hw;replace hw:=z37 hw;unfold aG av at Wh;replace Wh:=z37 Wh;clear hS hP CN;replace aCs:=z37 aCs;refine D.seq (D.seq (D.rh λR I=>?_));go_wp2_with fail;refine Wh.out.mono ?_;rintro e W2 ⟨rfl,Jr⟩;have cW:aj (λ_=>False) W W2:=aj.nK Jr;have g3:=hr.out.2.1.aA cW (λe=>e);have g4:=hr.out.2.2.1.aA cW (λe=>e);have g5:=hr.out.2.2.2.1.aA cW (λe=>e);have g6:=hr.out.2.2.2.2.1.aA cW (λe=>e);have gs2:n+4<=W2.heap.size:=by have:=Jr.size;rw[hr.out.2.2.2.2.2.1]at this;exact this
 have gB2:Below n w W2:=hr.out.2.2.2.2.2.2.2 _ (cW.mono (λ_ _ e=>e.elim));replace fin:Hid (∀(s:B) (W5:World) (tm:Array Value) (td:List Item),aM W5 (n+3) #[.string ⟨s.toArray⟩] 9 (0,0)->aj (λk=>n+3<=k) W2 W5->tm.getD 6 undef=.pointer (some ⟨n+3,0,none⟩)->Sp.word S p ⟨old,new,ref⟩=s->
  D Tq.prog (Lv.Left Tq.prog 175 cs λe U=>e=Ending.returned (av (Sp.word S p ⟨old,new,ref⟩))/\Below n w U) W5 {(fb 175).atR {tmps:=tm,defers:=[]} td with mode:=.returning} cs):=
  z37 (λs W5 tm td hb L htm hws=>fin.out s W5 tm td hb ((cW.mono (λ_ _ e=>e.elim)).trans L) htm hws)
 have Q:=hr.out.1;have yB:=uw.out _ gB2;replace k3:W2.cell? ⟨n,0,none⟩=some (.pointer (some ⟨st,0,none⟩)):=g3.at rfl;replace k4:W2.cell? ⟨n+1,0,none⟩=some (.pointer (some ⟨pb,0,none⟩)):=g4.at rfl;replace c0:W2.cell? ⟨n+2,0,none⟩=some (.string ⟨old.toArray⟩):=g5.at rfl;replace c1:W2.cell? ⟨n+2,1,none⟩=some (.string ⟨new.toArray⟩):=g5.at rfl;replace k6:W2.cell? ⟨n+3,0,none⟩=some (.string ⟨#[]⟩):=g6.at rfl;replace f6:=g6.frozen (i:=0) (.inr (aI _));replace m2:W2.cell? ⟨st,2,none⟩=some (.bool S.forward):=yB.1.blk.at rfl;have sQ:∀(s:B) (tm:Array Value) (td:List Item),tm.getD 6 undef=.pointer (some ⟨n+3,0,none⟩)->Sp.word S p ⟨old,new,ref⟩=s->
  D Tq.prog (Lv.Left Tq.prog 175 cs λe U=>e=Ending.returned (av (Sp.word S p ⟨old,new,ref⟩))/\Below n w U) (W2.setCell ⟨n+3,0,none⟩ (.string ⟨s.toArray⟩)) {(fb 175).atR {tmps:=tm,defers:=[]} td with mode:=.returning} cs:=
  λs tm td V J=>fin.out s _ tm td (aM.set g6 0 _) (aj.setCell (S:=λk=>n+3<=k) (aj.refl _ W2) (p:=⟨n+3,0,none⟩) (.inl (aI _)) _) V J
 replace sQ:=z37 sQ;have hr:=z37 (ua Q (ua g3 (ua g4 (ua g5 (ua g6 (ua gs2 (ua gB2 yB)))))));clear Q g3 g4 g5 g6 gs2 gB2 cW Jr yB c2 Wh;go_wp2_with fail;refine I.out _ _ ?_;clear I R;refine D.seq (D.rh λR I=>?_);go_wp2_with fail;refine I.out _ _ ?_;clear I R;by_cases e1:wd2=[]
 case neg=>
  have hb:(!List.isEmpty wd2)=true:=by cases wd2 with|nil=>exact absurd rfl e1|cons _ _=>rfl
  rw[hb];refine D.cond (t:=true) rfl (D.seq (D.rh λR I=>?_));have hx:=z37 e1;clear e1 hb;go_wp2_with fail;refine I.out _ _ (D.ret rfl ?_);exact sQ.out wd2 _ _ rfl (by rw[hw.out,bk hx.out])
 have hb:(!List.isEmpty wd2)=false:=by rw[e1];rfl
 rw[hb];refine D.cond (t:=false) rfl (D.skip ?_);replace hw:=hw.out;rw[aX (λh=>h e1)]at hw;replace hw:=z37 hw;clear hb e1;obtain⟨fw,hfw⟩:∃b,b=S.forward:=⟨_,rfl⟩
 rw[<-hfw]at m2;replace hw:=hw.out;rw[<-hfw]at hw;replace hw:=z37 hw;replace hfw:=z37 hfw;refine D.seq (D.seq (D.rh λR I=>?_));cases fw with
 |false=>go_wp2_with fail;refine I.out _ _ ?_;clear I R;refine D.cond (t:=true) rfl (D.seq (D.rh λR I=>?_));go_wp2_with fail;refine I.out _ _ (D.ret rfl ?_);exact sQ.out jK _ _ rfl (by rw[hw.out];rfl)
 |true=>
 by_cases e1:old=di
 ·have hb:(old==[48,48,48,48,48,48,48,48])=true:=by rw[e1];rfl
  have hx:=z37 e1;clear e1;go_wp2_with fail;refine I.out _ _ ?_;clear I R;refine D.cond (t:=true) rfl (D.seq (D.rh λR I=>?_));go_wp2_with fail;refine I.out _ _ (D.ret rfl ?_);exact sQ.out jK _ _ rfl (by rw[hw.out,hx.out];rfl)
 have hb:(old==[48,48,48,48,48,48,48,48])=false:=fq e1;replace hw:=hw.out;have wj:(!true||decide (old=di))=false:=by simp[e1]
 simp only[fL,kh,bh,cN,e1,or_self,cz]at hw;replace hw:=z37 hw;clear e1 wj;go_wp2_with fail;refine I.out _ _ ?_;clear I R;refine D.cond (t:=false) rfl (D.skip ?_);clear hb m2;have Wk:=z37 (λg lb W=>Wm ⟨new.toArray⟩ g lb W);refine D.seq (D.seq (D.rh λR I=>?_));go_wp2_with fail;refine(Wk.out _ _ _).mono ?_;rintro e W1 ⟨rfl,rfl⟩;go_wp2_with fail;refine I.out _ _ ?_;clear I R Wk;refine D.block ?_;refine D.X7 rfl rfl (λargs w=>Tq.call132 args w) ?_;intro W0 rc r1 r2 r3 r4 r5 r6 r7 xo;have RC:=z37 (ua r1 (ua r2 (ua r3 (ua r4 (ua r5 (ua r6 r7))))));clear r1 r2 r3 r4 r5 r6 r7;obtain⟨n2,VO⟩:∃n2,n2=W2.heap.size:=⟨_,rfl⟩
 simp only[Ķ,<-VO,ft,Nat.reduceAdd]at xo ⊢;obtain⟨Q,g3,g4,g5,g6,gs2,gB2,yB⟩:=hr.out;have hle:n+4<=n2:=by rw[VO];exact gs2
 have b1:aM W0 (n2) #[.string ⟨new.toArray⟩] 9 (0,0):=by unfold aM;rw[xo];simp only[aO,Ķ];repeat (first|rw[aX (by omega)]|rw[bk (by omega),VO]|rw[bk (by omega)])
 have b2:aM W0 (n2+1) #[.func (.func 197) #[] #[.pointer (some ⟨n,0,none⟩),.pointer (some ⟨n+1,0,none⟩)]] 103 (0,0):=by unfold aM;rw[xo];simp only[aO,Ķ];repeat (first|rw[aX (by omega)]|rw[bk (by omega),VO]|rw[bk (by omega)])
 have gD:W0.heap[n2+2]? =some (.deferred (some [])):=by rw[xo];simp only[aO,Ķ];repeat (first|rw[aX (by omega)]|rw[bk (by omega)])
 have gl:W0.heap[n2+3]? =some (.loop rc):=by rw[xo];simp only[aO,Ķ];repeat (first|rw[aX (by omega)]|rw[bk (by omega)])
 have gs:W0.heap.size=n2+4:=by rw[xo];simp only[Ķ];omega
 have c0:aj (λ_=>False) W2 W0:=by rw[xo];exact((((aj.refl _ W2).alloc _).alloc _).alloc _).alloc _
 have g3:=g3.aA c0 (λe=>e);have g4:=g4.aA c0 (λe=>e);have g5:=g5.aA c0 (λe=>e);have g6:=g6.aA c0 (λe=>e);have gB:Below n w W0:=gB2.trans (c0.below (by omega) (λ_ e=>e.elim));clear xo;have fJ:∀{W:World},aj (lF (n+3) (n2+3) (n2+2)) W0 W->Below n w W:=λh=>gB.trans (h.below (by omega) (λk A=>by rcases A with rfl|rfl|rfl<;>omega));have tP:∀{W:World},aj (lF (n+3) (n2+3) (n2+2)) W0 W->n2+4<=W.heap.size:=λh=>by have:=h.size;omega
 have m0:∀(c:Nat),c<n+3->¬lF (n+3) (n2+3) (n2+2) c:=by rintro c L (e|e|e)<;>omega
 have m1:∀(c:Nat),n+3<c->c<n2+2->¬lF (n+3) (n2+3) (n2+2) c:=by rintro c L A4 (e|e|e)<;>omega
 simp only[cY,cf,cg];have h0:LJ W0 old (n+3) (n2+3) (n2+2) rc [] (lF (n+3) (n2+3) (n2+2)) W0:=⟨rfl,aj.refl _ _,gl,gD,g6,λh=>by cases h⟩
 have lu:=hv.out.2.2.1;have fT:=hv.out.2.2.2.2.1;refine Kc (l:=n2+3) (g:=197) (lb:=#[.pointer (some ⟨n,0,none⟩),.pointer (some ⟨n+1,0,none⟩)]) (b1:=n2) (b2:=n2+1) (B0:=W0.heap.size) (N:=Sp.fuel S p) (id:=new) (beh:=Sp.parents S p)
  (h2:=LJ W0 old (n+3) (n2+3) (n2+2) rc) (Jx:=λpre _ W=>LX W0 old (n+3) (n2+3) (n2+2) rc pre W) (F:=lF (n+3) (n2+3) (n2+2)) ?who lu rfl h0 (λk A=>by rw[gs];rcases A with rfl|rfl|rfl<;>omega) (Jz S p new) ?done ?stop
 case who=>
  refine⟨?_,?_,λargs w=>Tq.call197 args w,?_,E9 fT,?_,fT.2.2⟩
  ·intro pre F W W' T hJ L hT;have hl:=tP hJ.aA;have hF:∀k,lF (n+3) (n2+3) (n2+2) k->k<W.heap.size/\¬T k:=λk A=>by
    have V:k<W.heap.size:=by rcases A with rfl|rfl|rfl<;>omega
    exact⟨V,λe=>(hT k e V).2 (by rw[hJ.Qo];exact A)⟩
   refine⟨hJ.Qo,hJ.aA.trans' L (λi hi e=>?_),?_,?_,hJ.res.aA L (hF _ (.inl rfl)).2,hJ.Yz⟩
   ·have:=(hT i e (by omega)).1;omega
   ·exact(L.block _ (hF _ (.inr (.inl rfl))).1 (hF _ (.inr (.inl rfl))).2).trans hJ.loop
   ·exact(L.block _ (hF _ (.inr (.inr rfl))).1 (hF _ (.inr (.inr rfl))).2).trans hJ.defs
  ·intro pre F W hJ;exact⟨(b1.aA hJ.aA (m1 _ (by omega) (by omega))).at rfl,(b2.aA hJ.aA (m1 _ (by omega) (by omega))).at rfl,hJ.aA.size⟩
  ·intro pre F W k hJ A;obtain⟨q1,q2⟩:=uw.out _ (fJ hJ.aA);exact OP W n (n+1) st mo mr pb mw μ S cv p cl k q1 q2 A ((g3.aA hJ.aA (m0 _ (by omega))).at rfl) ((g4.aA hJ.aA (m0 _ (by omega))).at rfl)
  ·intro pre x F W fi hJ hp Mj go stop;obtain⟨r1,r2,r3,r4,r5,r6,r7⟩:=RC.out;refine⟨_,_,_,_,FJ hJ.loop r5,?_⟩;rw[r3,r4,r6,r7,round_eq];simp only[av,bo,cE,cj,<-Q,<-VO,ft,Nat.reduceAdd];have hFe:=hJ.Qo;subst hFe;have hl:=tP hJ.aA;have Ep:aj (lF (n+3) (n2+3) (n2+2)) W (W.putObj (n2+3) (.loop {rc with state:=.busy})):=cK (aj.refl _ _) (.inl (.inr (.inl rfl))) _;have zQ:=hJ.aA.trans Ep;have bl:(W.putObj (n2+3) (.loop {rc with state:=.busy})).heap[n2+3]? =some (.loop {rc with state:=.busy}):=by rw[aJ,bk ⟨rfl,by omega⟩]
   have bD:(W.putObj (n2+3) (.loop {rc with state:=.busy})).heap[n2+2]? =some (.deferred (some [])):=by rw[aJ,aX (by omega)];exact hJ.defs
   have br:aM (W.putObj (n2+3) (.loop {rc with state:=.busy})) (n+3) #[.string ⟨#[]⟩] 9 (0,0):=by unfold aM;rw[aJ,aX (by omega)];exact hJ.res
   have ls:(W.putObj (n2+3) (.loop {rc with state:=.busy})).heap.size=W.heap.size:=ķ ..;have Au:=hJ.loop;have hn:=z37 (ua hJ (ua go (ua stop (ua hp (ua r2 (ua r1 Au))))));have Z:=z37 (ua Ep (ua zQ (ua bl (ua bD (ua br (ua ls hl))))));have G:=z37 (ua g5 (ua gs (ua hle m0)));clear hJ go stop hp Ep zQ bl bD br ls hl r1 r2 r3 r4 r5 r6 r7 Au h0 lu fT fJ tP g3 g4 g5 g6 b1 b2 gD gl gs gB gB2 gs2 yB m0 m1 hle c0 k3 k4 c1 k6 f6 hv hr fin sQ uw RC;replace Q:=z37 Q;replace VO:=z37 VO;refine D.rh λR I=>?_;go_wp2_with fail;refine I.out _ _ ?_;clear I R;refine D.begin hn.out.2.2.2.2.2.2 hn.out.2.2.2.2.2.1 ?_;obtain⟨Ep,zQ,bl,bD,br,ls,hl⟩:=Z.out;generalize W.putObj (n2+3) (.loop {rc with state:=.busy})=Wb at Ep zQ bl bD br ls ⊢;have c0:Wb.cell? ⟨n+2,0,none⟩=some (.string ⟨old.toArray⟩):=(G.out.1.aA zQ (G.out.2.2.2 _ (by omega))).at rfl;have k6:Wb.cell? ⟨n+3,0,none⟩=some (.string ⟨#[]⟩):=br.at rfl;have f6:=br.frozen (i:=0) (.inr (aI _));clear Z;have Z:=z37 (ua Ep (ua zQ (ua bl (ua bD (ua br (ua ls hl))))));clear Ep zQ bl bD br ls hl;refine D.block (D.seq (D.rh λR I=>?_));go_wp2_with fail;refine I.out _ _ ?_;clear I R;by_cases e1:x=old
   ·have hb:(x==old)=true:=by simpa using e1
    rw[hb];have hx:=z37 e1;clear e1 hb;refine D.cond (t:=true) rfl (D.seq (D.rh λR I=>?_));go_wp2_with fail;refine I.out _ _ ?_;clear I R;obtain⟨Ep,zQ,bl,bD,br,ls,hl⟩:=Z.out;have c1:aj (lF (n+3) (n2+3) (n2+2)) W0 (Wb.setCell ⟨n+3,0,none⟩ (.string ⟨#[111,107]⟩)):=zQ.setCell (p:=⟨n+3,0,none⟩) (.inl (.inl rfl)) _;have l1:(Wb.setCell ⟨n+3,0,none⟩ (.string ⟨#[111,107]⟩)).heap[n2+3]? =some (.loop {rc with state:=.busy}):=(Below.heap_setCell _ ⟨n+3,0,none⟩ _ _ (by have:=G.out.2.2.1;simp;omega)).trans bl;have d1:(Wb.setCell ⟨n+3,0,none⟩ (.string ⟨#[111,107]⟩)).heap[n2+2]? =some (.deferred (some [])):=(Below.heap_setCell _ ⟨n+3,0,none⟩ _ _ (by have:=G.out.2.2.1;simp;omega)).trans bD;have rr:aM (Wb.setCell ⟨n+3,0,none⟩ (.string ⟨#[111,107]⟩)) (n+3) #[.string ⟨#[111,107]⟩] 9 (0,0):=aM.set br 0 _;have U2:=Ĵ l1;have hle:=G.out.2.2.1;refine D.KY l1 (hn.out.2.2.1 (lF (n+3) (n2+3) (n2+2)) _ ⟨cK c1 (.inl (.inr (.inl rfl))) _,by rw[aJ,bk ⟨rfl,U2⟩],by rw[aJ,aX (by omega)];exact d1,?_,by rw[hx.out];simp⟩);unfold aM;rw[aJ,aX (by omega)];exact rr
   ·have hb:(x==old)=false:=fq e1;rw[hb];refine D.cond (t:=false) rfl (D.skip (D.inBlock ?_));obtain⟨Ep,zQ,bl,bD,br,ls,hl⟩:=Z.out;have U2:=Ĵ bl;have hle:=G.out.2.2.1;obtain⟨hJ,go,-,-,r2,r1,-⟩:=hn.out;have hrc:({{rc with state:=LoopState.busy}with state:=LoopState.ready,pending:=none}:Loop)=rc:=by rw[<-r1,<-r2]
    refine D.Db bl (go (lF (n+3) (n2+3) (n2+2)) _ ⟨rfl,cK zQ (.inl (.inr (.inl rfl))) _,by rw[aJ,bk ⟨rfl,U2⟩,hrc],by rw[aJ,aX (by omega)];exact bD,?_,λh=>?_⟩ (cK Ep (.inl (.inr (.inl rfl))) _) λk A=>⟨.inl A,?_⟩)
    ·unfold aM;rw[aJ,aX (by omega)];exact br
    ·rcases dg.1 h with h|h
     ·exact hJ.Yz h
     ·exact e1 (bW.1 h).symm
    ·rw[ķ];rcases A with rfl|rfl|rfl<;>omega
 case stop=>
  rintro pre F' W' hp hX;refine D.IP hX.loop (by simp) ?_;have U2:=Ĵ hX.loop;refine D.ret rfl (D.Ia (LV:=n2+2) rfl rfl (by rw[aJ,aX (by omega)];exact hX.defs) ?_);have rr:aM ((W'.putObj (n2+3) (.loop {{rc with state:=.done,pending:=some .ret}with state:=.exhausted})).putObj (n2+2) (.deferred none)) (n+3) #[.string ⟨#[111,107]⟩] 9 (0,0):=by unfold aM;rw[aJ,aX (by omega),aJ,aX (by omega)];exact hX.res
  have Mk:(line S p new).contains old=true:=by have:=hp.subset hX.aOj;exact kn.2 this
  refine D.left (v:=.string ⟨#[111,107]⟩) rfl rfl rfl rfl Tq.func175 ?_ ⟨by rw[hw.out,bk Mk];rfl,?_⟩
  ·exact kT rfl _ _ ⟨n+3,0,none⟩ _ rfl (rr.at rfl)
  ·exact fJ (cK (cK hX.aA (.inl (.inr (.inl rfl))) _) (.inl (.inr (.inr rfl))) _)
 case done=>
  rintro F' W' hJ;refine D.IP hJ.loop (by rw[RC.out.1];simp) ?_;rw[RC.out.2.1];simp only[oy,lB,cg];refine D.inBlock ?_;have U2:=Ĵ hJ.loop;have Mk:(line S p new).contains old=false:=by
   cases h:(line S p new).contains old with
   |false=>rfl
   |true=>exact absurd (kn.1 h) hJ.Yz
  have bY:Sp.word S p ⟨old,new,ref⟩=BU:=by rw[hw.out,Mk];rfl
  have cd:aj (lF (n+3) (n2+3) (n2+2)) W0 (W'.putObj (n2+3) (.loop {rc with state:=.exhausted,pending:=none})):=cK hJ.aA (.inl (.inr (.inl rfl))) _;have dD:(W'.putObj (n2+3) (.loop {rc with state:=.exhausted,pending:=none})).heap[n2+2]? =some (.deferred (some [])):=by rw[aJ,aX (by omega)];exact hJ.defs
  have dr:aM (W'.putObj (n2+3) (.loop {rc with state:=.exhausted,pending:=none})) (n+3) #[.string ⟨#[]⟩] 9 (0,0):=by unfold aM;rw[aJ,aX (by omega)];exact hJ.res
  generalize W'.putObj (n2+3) (.loop {rc with state:=.exhausted,pending:=none})=Wd at cd dD dr ⊢;have k6:Wd.cell? ⟨n+3,0,none⟩=some (.string ⟨#[]⟩):=dr.at rfl;have f6:=dr.frozen (i:=0) (.inr (aI _));have aGS:∀(tm:Array Value) (td:List Item),tm.getD 6 undef=.pointer (some ⟨n+3,0,none⟩)->
   D Tq.prog (Lv.Left Tq.prog 175 cs λe U=>e=Ending.returned (av (Sp.word S p ⟨old,new,ref⟩))/\Below n w U) (Wd.setCell ⟨n+3,0,none⟩ (.string ⟨#[102,111,114,119,97,114,100]⟩)) {(fb 175).atR {tmps:=tm,defers:=[{target:=.collected (n2+2),args:=#[]}]} td with mode:=.returning} cs:=by
   intro tm td htm;have hD6:(Wd.setCell ⟨n+3,0,none⟩ (.string ⟨#[102,111,114,119,97,114,100]⟩)).heap[n2+2]? =some (.deferred (some [])):=(Below.heap_setCell _ ⟨n+3,0,none⟩ _ _ (by simp;omega)).trans dD;refine D.Ia (LV:=n2+2) rfl rfl hD6 ?_;have rr:aM ((Wd.setCell ⟨n+3,0,none⟩ (.string ⟨#[102,111,114,119,97,114,100]⟩)).putObj (n2+2) (.deferred none)) (n+3) #[.string ⟨#[102,111,114,119,97,114,100]⟩] 9 (0,0):=by unfold aM;rw[aJ,aX (by omega)];exact aM.set dr 0 _
   refine D.left (v:=.string ⟨#[102,111,114,119,97,114,100]⟩) rfl rfl rfl rfl Tq.func175 ?_ ⟨by rw[bY];rfl,?_⟩
   ·exact kT rfl _ _ ⟨n+3,0,none⟩ _ htm (rr.at rfl)
   ·exact fJ (cK (cd.setCell (p:=⟨n+3,0,none⟩) (.inl (.inl rfl)) _) (.inl (.inr (.inr rfl))) _)
  replace aGS:=z37 aGS;clear Mk bY cd dD dr hJ fJ tP m0 m1 uw lu fT h0 g3 g4 g5 g6 gD gl gs gB hv RC U2 hw b1 b2 c0 gB2 gs2 yB hr fin sQ c1 k3 k4;replace Q:=z37 Q;replace VO:=z37 VO;replace hle:=z37 hle;refine D.seq (D.rh λR I=>?_);go_wp2_with fail;refine I.out _ _ (D.ret rfl ?_);exact aGS.out _ _ rfl
def U4 k n:(Tx.pO k n).length=k:=by
 induction k generalizing n with
 |zero=>rfl
 |succ k ih=>show(Tx.pO k (n / 16)++_).length=_;rw[b9,ih];rfl
def Br w(b T:Nat)s n(h:nE w b T s n):Calls Tq.prog 310 #[.pointer (some ⟨b,0,none⟩)] w λe U=>e=.returned s/\U=w:=by have k0:w.cell? ⟨b,0,none⟩=some s:=aM.at (i:=0) h rfl;go_enter Tq.func310,ntmps310;go_wp2_with fail;go_ret;exact⟨rfl,rfl⟩
def pR(a:M B×Bool)(t:B):M B×Bool:=match a.1.get (dA t)with
 |some u=>if u≠t then(a.1,true)else(a.1.put (dA t) t,a.2)
 |none=>(a.1.put (dA t) t,a.2)
def MZ l t:aD (l++[t])=pR (aD l) t:=by unfold aD;rw[kz];rfl
def Vf a t:(pR a t).1.length<=a.1.length+1:=by
 unfold pR;split
 ·split
  ·exact lO _
  ·exact M.gU _ _ _
 ·exact M.gU _ _ _
def PR l:(aD l).1.length<=l.length:=by
 have key:∀(l:List B) (a:M B×Bool),(l.foldl pR a).1.length<=a.1.length+l.length:=by
  intro l
  induction l with
  |nil=>exact λa=>aI _
  |cons t r ih=>intro a;have V:=ih (pR a t);have J:=Vf a t;show(r.foldl pR (pR a t)).1.length<=a.1.length+(r.length+1);omega
 have:=key l ([],false);rw[dt,j0]at this;exact this
def PS w qc nc cc ov os vs B1(tM:w.ownsRow B1 106 1 ov os.length vs)(EE:wN (Ob w) os vs)(Q:os.length<=1000):
 Calls Tq.prog 126 #[.slice qc nc cc,ov] w λe U=>e=.returned (aG (w.heap.size+1))/\kK U (w.heap.size+1) w.heap.size (.slice qc nc cc) (aD os).1 (aD os).2/\Below w.heap.size w U:=by
 refine nA λcs=>?_;obtain⟨pv,qE,rfl,wx⟩:=Lo.fZ tM;have hmm:=@run_makeMap Tq.prog;have EF:=λk A=>(tM.lt k A).2;have hv:=z37 (ua wx (ua EE (ua Q EF)));clear wx EE tM Q EF;refine D.enter Tq.func126 rfl ?_;simp only[ntmps126,eC,bt,dt,Nat.reduceAdd,Nat.reduceSub,dC,dK,eI,cY,cg,cf];refine D.seq (D.rh λR I=>?_);go_wp2_with fail;refine I.out _ _ ?_;clear I R;obtain⟨n,Q⟩:∃n,n=w.heap.size:=⟨_,rfl⟩
 refine D.seq (D.rh λR I=>?_);go_wp2_with fail;refine I.out _ _ ?_;clear I R;clear hmm;refine D.seq (D.seq (D.rh λR I=>?_));go_wp2_with fail;refine I.out _ _ ?_;clear I R;simp only[Ķ,<-Q];obtain⟨w1,sD⟩:∃w1,w1=(w.alloc (.map #[] 0)).alloc (.cells #[.slice qc nc cc,.map (some n),.bool false] 155):=⟨_,rfl⟩
 rw[<-sD];refine D.block ?_;have Jh:w1.heap.size=n+2:=by rw[sD];simp only[Ķ];omega
 have hP0:kK w1 (n+1) n (.slice qc nc cc) [] false:=by
  refine⟨?_,[],?_,.nil⟩
  ·unfold aM;rw[sD,aO,bk (by simp;omega)]
  ·refine(Q▸SM.made w:SM (w.alloc (.map #[] 0)) n []).block ?_;rw[sD,aO,aX (by simp;omega)]
 have hB0:Below n w w1:=by rw[sD,Q];exact((Below.refl _ w).alloc (aI _) _).alloc (by simp) _
 clear sD;refine D.while (m:=os.length) (λm W a=>∃(i:Nat) (x2 x3 x4 x6 x7 x8 x9 x10 x11 x12 x13 x17 x18 x19 x20 x21 x22 x23 x24 x25 x26 x27 x28 x29 x30 x31 x32 x33 x34 x35 x36 x37 x38 x39 x40 x41 x42 x43 x44 x45 x46 x47 x48:Value),a={tmps:=#[.slice qc nc cc,.slice pv os.length qE,x2,x3,x4,.pointer (some ⟨n+1,0,none⟩),x6,x7,x8,x9,x10,x11,x12,x13,.slice pv os.length qE,.int .i64 (os.length:Nat),.int .i64 (i:Nat),x17,x18,x19,x20,x21,x22,x23,x24,x25,x26,x27,x28,x29,x30,x31,x32,x33,x34,x35,x36,x37,x38,x39,x40,x41,x42,x43,x44,x45,x46,x47,x48],defers:=[]}/\m=os.length - i/\i<=os.length/\kK W (n+1) n (.slice qc nc cc) (aD (os.take i)).1 (aD (os.take i)).2/\Below n w W) ⟨0,_,_,_,_,_,_,_,_,_,_,_,_,_,_,_,_,_,_,_,_,_,_,_,_,_,_,_,_,_,_,_,_,_,_,_,_,_,_,_,_,_,_,_,rfl,rfl,cQ _,hP0,hB0⟩ ?_;clear hP0 hB0 Jh;rintro m W a ⟨i,x2,x3,x4,x6,x7,x8,x9,x10,x11,x12,x13,x17,x18,x19,x20,x21,x22,x23,x24,x25,x26,x27,x28,x29,x30,x31,x32,x33,x34,x35,x36,x37,x38,x39,x40,x41,x42,x43,x44,x45,x46,x47,x48,rfl,rfl,hle,hP,hB⟩ IH;replace IH:=z37 IH;dsimp only;by_cases tP:i<os.length
 case neg=>
  have Bf:i=os.length:=by omega
  subst Bf;have qw:((os.length:Int)<(os.length:Int))=False:=gO (by omega);rw[fM]at hP;have hr:=z37 (ua hP (ua hB Q));clear hP hB Q tP hle;refine D.seq (D.rh λR I=>?_);go_wp2_with fail;refine I.out _ _ ?_;clear I R;refine D.seq (D.cond (t:=false) rfl (D.exit rfl ?_));refine D.seq (D.rh λR I=>?_);go_wp2_with fail;refine I.out _ _ ?_;clear I R;refine D.ret rfl (D.left rfl rfl rfl rfl Tq.func126 (ĳ rfl _ _ _) ⟨rfl,hr.out.1,hr.out.2.1⟩)
 obtain⟨t,ht⟩:∃o,os[i]? =some o:=⟨_,bU tP⟩
 obtain⟨v,X,GV⟩:=hv.out.2.1.at_ ht;obtain⟨p,rfl,hp1,hp2,uz⟩:=hv.out.1 i v X;obtain⟨o,b,nv,V,rfl,h3,h4,h5⟩:=GV;have uI:os.take (i+1)=os.take i++[t]:=by rw[fg,ht];rfl
 have qw:((i:Int)<(os.length:Int))=True:=ie (by omega);have VQ:i<1000000:=by have:=hv.out.2.2.1;omega
 have G0:p.block<n:=by rw[Q];exact hv.out.2.2.2 _ hp2
 have L:W.cell? (p.add i)=some (.iface (ED o.kind) (aG b)):=by rw[<-uz];exact hB.cell (by unfold Addr.add;split<;>exact G0)
 have Mj:t.length<=maxLen:=by unfold maxLen;omega
 have FH:∀W',Below n w W'->Calls Tq.prog 310 #[.pointer (some ⟨b,0,none⟩)] W' λe U=>e=.returned (.string ⟨t.toArray⟩)/\U=W':=λW' h'=>Br W' b _ (av t) nv (aM.aA h3 (aj.nK (Q▸h')) (λe=>e));have mT:=λW'=>Q7 o.kind ⟨b,0,none⟩ W';have aDr:=z37 (FH W hB);have hr:=z37 (ua hP (ua hB (ua Q (ua hle (ua tP (ua FH (ua V (ua h3 (ua h4 (ua h5 (ua uI Mj)))))))))));clear hP hB Q hle tP FH V h3 h4 h5 uI X ht hp1 hp2 uz Mj G0;unfold aG at L;refine D.seq (D.rh λR I=>?_);go_wp2_with fail;refine I.out _ _ ?_;clear I R;refine D.seq (D.cond (t:=true) rfl (D.skip (D.seq (D.block (D.seq (D.rh λR I=>?_))))));go_wp2_with fail;refine I.out _ _ ?_;clear I R;refine D.seq (D.rh λR I=>?_);go_wp2_with fail;refine aDr.out.mono ?_;rintro e W1 ⟨rfl,rfl⟩;have aLD:=z37 (Wb.l7 ⟨t.toArray⟩ W1 hr.out.2.2.2.2.2.2.2.2.2.2.2);go_wp2_with fail;refine aLD.out.mono ?_;rintro e W2 ⟨rfl,wj⟩;have hid:Tx.dA (⟨t.toArray⟩:ByteArray).data.toList=Tx.dA t:=rfl;simp only[hid];clear hid;go_wp2_with fail;refine I.out _ _ ?_;clear I R;clear aLD aDr;obtain⟨hP,hB,Q,hle,tP,FH,V,h3,h4,h5,uI,Mj⟩:=hr.out;have c2:aj (λ_=>False) W1 W2:=aj.nK wj;have Jr:Below n w W2:=hB.trans (c2.below (Q▸hB.size) (λ_ e=>e.elim));have Jq:=hP.aA c2 (Rx.Safe.none W1) (λe=>e) (λe=>e);have Pw:Ob W2 t (.iface (ED o.kind) (.pointer (some ⟨b,0,none⟩))):=by
  have:Ob w t (.iface (ED o.kind) (.pointer (some ⟨b,0,none⟩))):=⟨o,b,nv,V,rfl,h3,h4,h5⟩
  exact Ob.aA this (aj.nK (Q▸Jr)) (Rx.Safe.none w)
 have aDr:=z37 (FH W2 Jr);have k1:W2.cell? ⟨n+1,1,none⟩=some (.map (some n)):=Jq.blk.at rfl;have k2:W2.cell? ⟨n+1,2,none⟩=some (.bool (aD (os.take i)).2):=Jq.blk.at rfl;have f2:=Jq.blk.frozen (i:=2) (.inr (cQ _));have Jn:=PR (os.take i);have Bg:=MZ (os.take i) t;rw[<-uI]at Bg;generalize hG:aD (os.take i)=G at Jq k2 Jn Bg hP;obtain⟨gm,gc⟩:=G;obtain⟨mv,ry,ky⟩:=Jq.waits;have hml:gm.length<1000000:=by rw[jE]at Jn;have:=hv.out.2.2.1;simp only at Jn;omega
 have MF:(Tx.dA t).length<=maxLen:=by have:=U4 8 (Tx.PU t);unfold Tx.dA maxLen;omega
 have hg:=OM.get (b:=n) ky (Tx.dA t);have hr:=z37 (ua Jq (ua Jr (ua Q (ua hle (ua tP (ua Pw (ua FH (ua Bg (ua hml ky)))))))));clear hP hB Q hle tP FH V h3 h4 h5 uI Mj c2 wj Jq Jr Pw Jn Bg L hml ky;refine D.seq (D.rh λR I=>?_);go_wp2_with (at_lookup;refine Mp.lookup rfl _ _ 55 rfl 106 ((Tq.underlying 55).trans underlying55) (z:=.nilIface) (by simp[zeroValue106]) n mv rfl ry ⟨(Tx.dA t).toArray⟩ rfl MF ?_);refine I.out _ _ ?_;clear I R;rcases pE hg with⟨e1,e2⟩|⟨u,b2,kd2,e1,e2⟩
 ·rw[e1];have hmv:mv.length<maxLen:=by have:=hr.out.2.2.2.2.2.2.2.2.2.length;have:=hr.out.2.2.2.2.2.2.2.2.1;unfold maxLen;omega
  have hx:=z37 (ua e1 e2);clear e1 e2 hg;refine D.seq (D.seq (D.rh λR I=>?_));go_wp2_with fail;refine I.out _ _ ?_;clear I R;refine D.cond (t:=false) rfl (D.skip ?_);refine D.rh λR I=>?_;go_wp2_with (at_mapUpdate;refine Mp.store rfl _ _ _ 55 rfl 106 ((Tq.underlying 55).trans underlying55) n mv rfl ry hmv ⟨(Tx.dA t).toArray⟩ (.iface (ED o.kind) (.pointer (some ⟨b,0,none⟩))) rfl rfl MF ?_;intro w4 NL VJ);refine I.out _ _ ?_;clear I R;obtain⟨Jq,Jr,Q,hle,tP,Pw,FH,Bg,hml,ky⟩:=hr.out;have Fx:pR (gm,gc) t=(gm.put (dA t) t,gc):=by unfold pR;rw[show M.get gm (dA t)=none from hx.out.2]
  rw[Fx]at Bg;have c4:aj (·=n) W2 w4:=dY VJ;have ru:Rx.Safe W2 (·=n):=λk cur T fz A hb=>absurd hb (by subst A;exact OM.eQ ⟨mv,ry,ky⟩ _ _ _);have hn1:n+1≠n:=by omega
  have hP4:kK w4 (n+1) n (.slice qc nc cc) (aD (os.take (i+1))).1 (aD (os.take (i+1))).2:=by
   rw[Bg];refine⟨?_,_,NL,?_⟩
   ·exact Jq.blk.aA c4 hn1
   ·exact(ky.put _ Pw).mono λk x y _ Y=>Ob.aA Y c4 ru
  have hB4:Below n w w4:=Jr.trans (c4.below (Q▸Jr.size) (λk e=>by rw[e];exact aI _));refine D.inBlock ?_;refine D.rh λR I=>?_;go_wp2_with fail;refine I.out _ _ ?_;clear I R;exact IH.out (os.length - (i+1)) _ _ (by omega) ⟨i+1,_,_,_,_,_,_,_,_,_,_,_,_,_,_,_,_,_,_,_,_,_,_,_,_,_,_,_,_,_,_,_,_,_,_,_,_,_,_,_,_,_,_,_,rfl,rfl,by omega,hP4,hB4⟩
 ·rw[e1];have hmv:mv.length<maxLen:=by have:=hr.out.2.2.2.2.2.2.2.2.2.length;have:=hr.out.2.2.2.2.2.2.2.2.1;unfold maxLen;omega
  rw[e1,e2]at hg;obtain⟨o2,b3,nv2,q1,q2,q3,q4,q5⟩:=hg;injection q2 with q0 q2;injection q2 with q2;injection q2 with q2;injection q2 with q2 q9;subst q2;have C2:Hid (Calls Tq.prog 310 #[.pointer (some ⟨b2,0,none⟩)] W2 λe U=>e=.returned (.string ⟨u.toArray⟩)/\U=W2):=z37 (Br W2 b2 _ (av u) nv2 q3);have mT2:=λW'=>Q7 kd2 ⟨b2,0,none⟩ W';have hx:=z37 (ua e1 e2);clear e1 e2 q1 q3 q4 q5 q0;refine D.seq (D.seq (D.rh λR I=>?_));go_wp2_with fail;refine C2.out.mono ?_;rintro e W3 ⟨rfl,rfl⟩;go_wp2_with fail;refine aDr.out.mono ?_;rintro e W4 ⟨rfl,rfl⟩;go_wp2_with fail;refine I.out _ _ ?_;clear I R;by_cases Ml:u=t
  case neg=>
   have hb:(u==t)=false:=fq Ml;rw[hb];have w':=z37 Ml;clear Ml hb;refine D.cond (t:=true) rfl (D.seq (D.rh λR I=>?_));go_wp2_with fail;refine I.out _ _ ?_;clear I R;refine D.exit rfl ?_;obtain⟨Jq,Jr,Q,hle,tP,Pw,FH,Bg,hml,ky⟩:=hr.out;have Fx:pR (gm,gc) t=(gm,true):=by unfold pR;rw[show M.get gm (dA t)=some u from hx.out.2];exact bk w'.out
   rw[Fx]at Bg;have hP4:kK (W4.setCell ⟨n+1,2,none⟩ (.bool true)) (n+1) n (.slice qc nc cc) (aD (os.take (i+1))).1 (aD (os.take (i+1))).2:=by
    rw[Bg];have c4:aj (·=n+1) W4 (W4.setCell ⟨n+1,2,none⟩ (.bool true)):=aj.setCell (S:=(·=n+1)) (aj.refl _ W4) (p:=⟨n+1,2,none⟩) (.inl rfl) _;have ru:Rx.Safe W4 (·=n+1):=λk cur T fz A hb=>by
     subst A;have:=Jq.blk;unfold aM at this;rw[this]at hb;injection hb with hb;injection hb with _ hb _;subst hb;decide
    exact⟨aM.set Jq.blk 2 _,Jq.waits.aA c4 ru (by omega)⟩
   have hB4:Below n w (W4.setCell ⟨n+1,2,none⟩ (.bool true)):=Jr.trans ((aj.setCell (S:=(·=n+1)) (aj.refl _ W4) (p:=⟨n+1,2,none⟩) (.inl rfl) _).below (Q▸Jr.size) (λk e=>by rw[e];exact lO _));clear Q;refine D.rh λR I=>?_;go_wp2_with fail;refine I.out _ _ ?_;clear I R;exact IH.out (os.length - (i+1)) _ _ (by omega) ⟨i+1,_,_,_,_,_,_,_,_,_,_,_,_,_,_,_,_,_,_,_,_,_,_,_,_,_,_,_,_,_,_,_,_,_,_,_,_,_,_,_,_,_,_,_,rfl,rfl,by omega,hP4,hB4⟩
  subst Ml;have hb:(u==u)=true:=by simp
  rw[hb];clear hb;refine D.cond (t:=false) rfl (D.skip ?_);refine D.rh λR I=>?_;go_wp2_with (at_mapUpdate;refine Mp.store rfl _ _ _ 55 rfl 106 ((Tq.underlying 55).trans underlying55) n mv rfl ry hmv ⟨(Tx.dA u).toArray⟩ (.iface (ED o.kind) (.pointer (some ⟨b,0,none⟩))) rfl rfl MF ?_;intro w4 NL VJ);refine I.out _ _ ?_;clear I R;obtain⟨Jq,Jr,Q,hle,tP,Pw,FH,Bg,hml,ky⟩:=hr.out;have Fx:pR (gm,gc) u=(gm.put (dA u) u,gc):=by unfold pR;rw[show M.get gm (dA u)=some u from hx.out.2];exact aX (λh=>h rfl)
  rw[Fx]at Bg;have c4:aj (·=n) W4 w4:=dY VJ;have ru:Rx.Safe W4 (·=n):=λk cur T fz A hb=>absurd hb (by subst A;exact OM.eQ ⟨mv,ry,ky⟩ _ _ _);have hn1:n+1≠n:=by omega
  have hP4:kK w4 (n+1) n (.slice qc nc cc) (aD (os.take (i+1))).1 (aD (os.take (i+1))).2:=by
   rw[Bg];refine⟨?_,_,NL,?_⟩
   ·exact Jq.blk.aA c4 hn1
   ·exact(ky.put _ Pw).mono λk x y _ Y=>Ob.aA Y c4 ru
  have hB4:Below n w w4:=Jr.trans (c4.below (Q▸Jr.size) (λk e=>by rw[e];exact aI _));refine D.inBlock ?_;refine D.rh λR I=>?_;go_wp2_with fail;refine I.out _ _ ?_;clear I R;exact IH.out (os.length - (i+1)) _ _ (by omega) ⟨i+1,_,_,_,_,_,_,_,_,_,_,_,_,_,_,_,_,_,_,_,_,_,_,_,_,_,_,_,_,_,_,_,_,_,_,_,_,_,_,_,_,_,_,_,rfl,rfl,by omega,hP4,hB4⟩
def wH(S:St)(x:B×B):Bool:=match S.ah.get x.1 with|some t=>t≠x.2|none=>false
def Ni w st mo mr pb mw μ S cv p cl(hS:qZ w st mo mr μ S)(hP:kK w pb mw cv p cl)(Q:p.length<=1000)(A:∀x∈p,x.1.length<=maxLen):
 Calls Tq.prog 176 #[aG st,aG pb] w λe U=>e=.returned (.bool (Sp.kP S p cl))/\Below w.heap.size w U:=by
 refine nA λcs=>?_;obtain⟨mv,ry,ky⟩:=hP.waits;have hlen:=ky.length;have K:=z37 (Ks.aCo w mw mv ry (by omega));have UQ:=OM.up hP.waits;have k1:w.cell? ⟨pb,1,none⟩=some (.map (some mw)):=hP.blk.at rfl;have hv:=z37 (ua hS (ua hP (ua Q (ua A (ua ky UQ)))));clear hS hP Q A ky UQ ry;unfold aG;refine D.enter Tq.func176 rfl ?_;simp only[ntmps176,eC,bt,dt,Nat.reduceAdd,Nat.reduceSub,dC,dK,eI,cY,cg,cf];refine D.seq (D.rh λR I=>?_);go_wp2_with fail;refine I.out _ _ ?_;clear I R;refine D.seq (D.seq (D.rh λR I=>?_));go_wp2_with fail;refine K.out.mono ?_;rintro e w1 ⟨v,rfl,tM,Ve⟩;rw[hlen]at tM;obtain⟨pk,aQq,rfl,wx⟩:=Lo.fZ tM;rw[hv.out.2.2.2.2.1.keys]at wx;have Z:=z37 (ua wx Ve);clear wx Ve tM K hlen k1;go_wp2_with fail;refine I.out _ _ ?_;clear I R;refine D.block ?_;refine D.while (m:=p.length) (λm W a=>∃(i:Nat) (x2 x3 x4 x5 x6 x7 x8 x9 x10 x11 x15 x16 x17 x18 x19 x20 x21 x22 x23 x24 x25 x26 x27 x28 x29 x30 x31 x32 x33 x34 x35 x36 x37 x38 x39 x40 x41 x42:Value),a={tmps:=#[.pointer (some ⟨st,0,none⟩),.pointer (some ⟨pb,0,none⟩),x2,x3,x4,x5,x6,x7,x8,x9,x10,x11,.slice pk p.length aQq,.int .i64 (p.length:Nat),.int .i64 (i:Nat),x15,x16,x17,x18,x19,x20,x21,x22,x23,x24,x25,x26,x27,x28,x29,x30,x31,x32,x33,x34,x35,x36,x37,x38,x39,x40,x41,x42],defers:=[]}/\m=p.length - i/\i<=p.length/\(p.take i).any (wH S)=false/\aj (λ_=>False) w1 W) ⟨0,_,_,_,_,_,_,_,_,_,_,_,_,_,_,_,_,_,_,_,_,_,_,_,_,_,_,_,_,_,_,_,_,_,_,_,_,_,_,rfl,rfl,cQ _,rfl,aj.refl _ _⟩ ?_;rintro m W a ⟨i,x2,x3,x4,x5,x6,x7,x8,x9,x10,x11,x15,x16,x17,x18,x19,x20,x21,x22,x23,x24,x25,x26,x27,x28,x29,x30,x31,x32,x33,x34,x35,x36,x37,x38,x39,x40,x41,x42,rfl,rfl,hle,vy,hW⟩ IH;replace IH:=z37 IH;dsimp only;obtain⟨wx,Ve⟩:=Z.out;replace Ve:Below w.heap.size w W:=Ve.trans (hW.below Ve.size (λ_ e=>e.elim));obtain⟨hS,hP,Y6,MF,ky,UQ⟩:=hv.out;have c1:aj (λ_=>False) w W:=aj.nK Ve;have A6:=hS.aA c1 (Rx.Safe.none w) (λe=>e) (λe=>e) (λe=>e);have ZQ:=hP.aA c1 (Rx.Safe.none w) (λe=>e) (λe=>e);have k1:W.cell? ⟨pb,1,none⟩=some (.map (some mw)):=ZQ.blk.at rfl;have k2:W.cell? ⟨pb,2,none⟩=some (.bool cl):=ZQ.blk.at rfl;have k4:W.cell? ⟨st,4,none⟩=some (.map (some mo)):=A6.blk.at rfl;by_cases tP:i<p.length
 case neg=>
  have Bf:i=p.length:=by omega
  subst Bf;rw[fM]at vy;have zE:Sp.kP S p cl=cl:=by show(p.any (wH S)||cl)=cl;rw[vy];rfl
  have qw:((p.length:Int)<(p.length:Int))=False:=gO (by omega);have hr:=z37 (ua zE Ve);clear zE Ve hW tP hle vy hS hP Y6 MF ky UQ A6 ZQ c1 wx;refine D.seq (D.rh λR I=>?_);go_wp2_with fail;refine I.out _ _ ?_;clear I R;refine D.seq (D.cond (t:=false) rfl (D.exit rfl ?_));refine D.seq (D.rh λR I=>?_);go_wp2_with fail;refine I.out _ _ ?_;clear I R;exact D.ret rfl (D.left rfl rfl rfl rfl Tq.func176 (ĳ rfl _ _ _) ⟨by rw[hr.out.1];rfl,hr.out.2⟩)
 obtain⟨⟨k,t⟩,E⟩:∃x,p[i]? =some x:=⟨_,bU tP⟩
 obtain⟨a,rfl,-,-,uz⟩:=wx i (av k) (by rw[eL,eL,E];rfl);replace uz:=hW.bB uz (λe=>e);have uI:p.take (i+1)=p.take i++[(k,t)]:=by rw[fg,E];rfl
 have oI:(k,t)∈p:=cM E;have hkk:k.length<=maxLen:=MF _ oI;have iP:=M.get_of_mem UQ oI;have qw:((i:Int)<(p.length:Int))=True:=ie (by omega);have VQ:i<1000000:=by omega
 obtain⟨ov,Bc,Ax⟩:=A6.ah;obtain⟨pv,hp1,hp2⟩:=ZQ.waits;have hg:=OM.get (b:=mo) Ax k;have hgp:=OM.get (b:=mw) hp2 k;rw[iP]at hgp;have AD:wH S (k,t)=match S.ah.get k with|some u=>u≠t|none=>false:=rfl
 have ZM:(p.take (i+1)).any (wH S)=wH S (k,t):=by rw[uI,th,vy];simp
 have hr:=z37 (ua Ve (ua hW (ua hle (ua tP (ua oI (ua AD (ua ZM vy)))))));clear Ve hW tP hle vy hS hP Y6 MF ky UQ A6 ZQ c1 wx E uI oI iP Ax AD ZM;unfold av at uz;refine D.seq (D.rh λR I=>?_);go_wp2_with fail;refine I.out _ _ ?_;clear I R;refine D.seq (D.cond (t:=true) rfl (D.skip (D.seq (D.block (D.seq (D.rh λR I=>?_))))));go_wp2_with fail;refine I.out _ _ ?_;clear I R;refine D.seq (D.rh λR I=>?_);go_wp2_with (at_lookup;refine Mp.lookup rfl _ _ 55 rfl 106 ((Tq.underlying 55).trans underlying55) (z:=.nilIface) (by simp[zeroValue106]) mo ov rfl Bc ⟨k.toArray⟩ rfl hkk ?_);refine I.out _ _ ?_;clear I R;rcases pE hg with⟨e1,e2⟩|⟨u,b2,kd2,e1,e2⟩
 ·rw[e1];have hx:=z37 e2;clear e1 e2 hg;refine D.seq (D.tq rfl λR I=>?_);replace I:=z37 I;go_quiet (fail)
  refine I.out _ _ ?_;clear I R;refine D.cond (t:=false) rfl (D.skip (D.inBlock ?_));refine D.rh λR I=>?_;go_wp2_with fail;refine I.out _ _ ?_;clear I R;exact IH.out (p.length - (i+1)) _ _ (by have:=hr.out.2.2.2.1;omega) ⟨i+1,_,_,_,_,_,_,_,_,_,_,_,_,_,_,_,_,_,_,_,_,_,_,_,_,_,_,_,_,_,_,_,_,_,_,_,_,_,_,rfl,rfl,hr.out.2.2.2.1,by rw[hr.out.2.2.2.2.2.2.1,hr.out.2.2.2.2.2.1,hx.out],hr.out.2.1.drewN nq⟩
 rw[e1];rw[e2]at hg;have hx:=z37 (ua e1 e2);rw[e1]at hg;obtain⟨o2,b3,nv2,q1,q2,q3,q4,q5⟩:=hg;injection q2 with q0 q2;injection q2 with q2;injection q2 with q2;injection q2 with q2 q9;subst q2;have C2:∀k,Calls Tq.prog 310 #[.pointer (some ⟨b2,0,none⟩)] (W.drewN k) λe U=>e=.returned (.string ⟨u.toArray⟩)/\U=W.drewN k:=λk=>Br (W.drewN k) b2 _ (av u) nv2 q3;have mT2:=λW'=>Q7 kd2 ⟨b2,0,none⟩ W';clear e1 e2 q1 q3 q4 q5 q0;obtain⟨fv,hfv⟩:∃x,x=(pv.get k).getD .nilIface:=⟨_,rfl⟩
 rw[<-hfv]at hgp;obtain⟨o4,b4,nv4,r1,rfl,r3,r4,r5⟩:=hgp;have C4:∀k,Calls Tq.prog 310 #[.pointer (some ⟨b4,0,none⟩)] (W.drewN k) λe U=>e=.returned (.string ⟨t.toArray⟩)/\U=W.drewN k:=λk=>Br (W.drewN k) b4 _ (av t) nv4 r3;have mT4:=λW'=>Q7 o4.kind ⟨b4,0,none⟩ W';have B5:∀d,(Instr.lookup 55 (.map (some mw)) (.string ⟨k.toArray⟩) false).run Tq.prog (W.drewN d)=.ok (.iface (ED o4.kind) (.pointer (some ⟨b4,0,none⟩))) (W.drewN d):=by
  intro d;obtain⟨lv,lps,B5,BG⟩:=Ĺ (w:=W.drewN d) (Mp.SM.block hp1 rfl) L6 (t:=55) (e:=106) ((Tq.underlying 55).trans underlying55) (z:=.nilIface) (by simp[zeroValue106]) (zd:=.held .nilIface) (zp:=[]) rfl (DK (s:=⟨k.toArray⟩) hkk);have aGj:lv=.iface (ED o4.kind) (.pointer (some ⟨b4,0,none⟩)):=by
   rw[yC]at BG;unfold RV at BG;have MK:Value.iface (ED o4.kind) (aG b4)=(pv.get (⟨k.toArray⟩:ByteArray).data.toList).getD .nilIface:=hfv;cases hh:pv.get (⟨k.toArray⟩:ByteArray).data.toList with
   |none=>rw[hh]at BG MK;simp at BG MK
   |some z=>rw[hh]at BG MK;simp at BG MK;rw[BG.1];exact MK.symm
  rw[<-aGj];exact B5
 clear hfv r1 r4 r5;refine D.seq (D.tq rfl λR I=>?_);replace I:=z37 I;go_quiet (first|(exact ĸ (C2 _))|(exact ĸ (C4 _)))
 refine I.out _ _ ?_;clear I R;by_cases Ml:u=t
 ·subst Ml;have hb:(u==u)=true:=by simp
  rw[hb];clear hb;refine D.cond (t:=false) rfl (D.skip (D.inBlock ?_));refine D.rh λR I=>?_;go_wp2_with fail;refine I.out _ _ ?_;clear I R;exact IH.out (p.length - (i+1)) _ _ (by have:=hr.out.2.2.2.1;omega) ⟨i+1,_,_,_,_,_,_,_,_,_,_,_,_,_,_,_,_,_,_,_,_,_,_,_,_,_,_,_,_,_,_,_,_,_,_,_,_,_,_,rfl,rfl,hr.out.2.2.2.1,by rw[hr.out.2.2.2.2.2.2.1,hr.out.2.2.2.2.2.1,hx.out.2];simp,hr.out.2.1.drewN nq⟩
 have hb:(u==t)=false:=fq Ml;rw[hb];have w':=z37 Ml;clear hb Ml;refine D.cond (t:=true) rfl (D.seq (D.rh λR I=>?_));go_wp2_with fail;refine I.out _ _ ?_;clear I R;refine D.ret rfl (D.left rfl rfl rfl rfl Tq.func176 (ĳ rfl _ _ _) ⟨?_,?_⟩)
 ·have:Sp.kP S p cl=true:=by
   show(p.any (wH S)||cl)=true;have V:p.any (wH S)=true:=gR.2 ⟨(k,t),hr.out.2.2.2.2.1,by rw[hr.out.2.2.2.2.2.1,hx.out.2];simpa using w'.out⟩;rw[V];rfl
  rw[this];rfl
 ·exact hr.out.1.trans ((aj.drewN (aj.refl (λ_=>False) W) nq).below hr.out.1.size (λ_ e=>e.elim))
end De
