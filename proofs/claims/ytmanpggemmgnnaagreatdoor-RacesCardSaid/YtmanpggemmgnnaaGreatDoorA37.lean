/- Races: a part. Conditions: none. -/
import Derived.Test.YtmanpggemmgnnaaGreatDoorA29
import Derived.Test.YtmanpggemmgnnaaGreatDoorA36
set_option linter.all false
set_option maxHeartbeats 8000000
set_option maxRecDepth 1000000
namespace Go.Proofs.YtmanpggemmgnnaaGreatDoor
noncomputable section
open Go Go.RowKit Go.Shelf Ba Fr
theorem z37 {p:Prop} (h:p):Go.RowKit.Hid p:=Go.Lib.hid h
theorem p37 {a b:Prop} (x:a) (y:b):a/\b:=⟨x,y⟩
namespace Qu
open Tx Sp Wg Rd Bk Mp Lv
theorem Eg {beh:B->List B}:∀(n:Nat) (seen queue:List B),ends beh n seen queue->queue.length<=n
 |n,seen,[],_=>by simp
 |0,_,_::_,h=>h.elim
 |n+1,seen,k::q,h=>by
  unfold ends at h;have:=Eg n _ _ h;simp only [List.length_append,List.length_cons] at this ⊢;omega
def Qm (w:World) (B1:Nat) (v:Value) (l:List B):Prop:=∃p cap,v=.slice p l.length cap/\(∀k,v.ownBlock=some k->B1<=k/\k<w.heap.size)/\∀i x,l[i]? =some x->∃g o cur,p=some ⟨g,o,none⟩/\w.heap[g]? =some (.cells cur 9 (0,0))/\cur[o+i]? =some (av x)
theorem Qm.of {w:World} {B1:Nat} {v:Value} {l:List B} (h:w.ownsRow B1 9 1 v l.length (l.map av)):Qm w B1 v l:=by
 have aI:=λk hk=>h.lt k hk;obtain ⟨hl,hc⟩:=h;rcases hc with ⟨rfl,h0⟩|⟨g,cap,cur,rfl,h1,h2,h3,h4,h5,h6⟩
 ·exact ⟨none,0,by rw [h0],aI,λi x hx=>by rw [List.eq_nil_of_length_eq_zero h0] at hx;simp at hx⟩
 ·refine ⟨_,cap,rfl,aI,λi x hx=>⟨g,0,cur,rfl,h2,?_⟩⟩;have hi:(l.map av)[i]? =some (av x):=by rw [List.getElem?_map,hx];rfl
  rw [<-h6,Nat.mul_one,List.getElem?_take] at hi;split at hi
  ·rw [Nat.zero_add,<-Array.getElem?_toList];exact hi
  ·cases hi
theorem Qm.aA {S:Nat->Prop} {w w':World} {B1:Nat} {v:Value} {l:List B} (h:Qm w B1 v l) (hc:aj S w w') (hn:∀k,v.ownBlock=some k->¬S k):Qm w' B1 v l:=by obtain ⟨p,cap,rfl,h1,h2⟩:=h;refine ⟨p,cap,rfl,λk hk=>⟨(h1 k hk).1,Nat.lt_of_lt_of_le (h1 k hk).2 hc.size⟩,λi x hx=>?_⟩;obtain ⟨g,o,cur,rfl,g1,g2⟩:=h2 i x hx;exact ⟨g,o,cur,rfl,(hc.block g (lt_of_block g1) (hn g rfl)).trans g1,g2⟩
theorem Qm.at {w:World} {B1:Nat} {v:Value} {l:List B} (h:Qm w B1 v l) {i:Nat} {x:B} (hx:l[i]? =some x):∃p cap,v=.slice (some p) l.length cap/\w.cell? (p.add i)=some (av x):=by
 obtain ⟨p,cap,rfl,h1,h2⟩:=h;obtain ⟨g,o,cur,rfl,g1,g2⟩:=h2 i x hx;refine ⟨_,cap,rfl,?_⟩;by_cases h0:i=0
 ·subst h0;have e:((⟨g,o,none⟩:Addr).add 0)=⟨g,o,none⟩:=by simp [Addr.add]
  rw [e];rw [Nat.add_zero] at g2;simpa [World.cell?,g1] using g2
 ·have e:((⟨g,o,none⟩:Addr).add i)=⟨g,o+i,none⟩:=by simp [Addr.add,h0]
  rw [e];simpa [World.cell?,g1] using g2
structure Who (Goal:Machine->Prop) (l g:Nat) (lb:Array Value) (b1 b2 B0 N:Nat) (id:B) (beh:B->List B) (all:List B) (cs:List Frame) (J Jx:List B->(Nat->Prop)->World->Prop):Prop where
 keep:∀pre F W W' T,J pre F W->aj T W W'->(∀k,T k->k<W.heap.size->B0<=k/\¬F k)->J pre F W'
 box:∀pre F W,J pre F W->W.cell? ⟨b1,0,none⟩=some (.string ⟨id.toArray⟩)/\W.cell? ⟨b2,0,none⟩=some (.func (.func g) #[] lb)/\B0<=W.heap.size
 enter:∀args w,(callFunc g args).run Tq.prog w=.ok (.enter g args) w
 back:∀pre F W (k:ByteArray),J pre F W->k.size<=maxLen->Calls Tq.prog g (#[.string k]++lb) W λe W'=>∃v,e=.returned v/\Qm W' W.heap.size v (beh k.data.toList)/\Below W.heap.size W W'
 small:∀k,(beh k).length<=1000000/\∀x∈beh k,x.length<=maxLen
 round:∀pre x F W (fi:Frame),J pre F W->pre++[x]<+:all->x.length<=maxLen->
  (∀F' W',J (pre++[x]) F' W'->aj F W W'->(∀k,F' k->(F k\/W.heap.size<=k)/\k<W'.heap.size)->LV Tq.prog Goal W' (fi.finish (.bool true)) cs)->
  (∀F' W',Jx (pre++[x]) F' W'->LV Tq.prog Goal W' (fi.finish (.bool false)) cs)->
  ∃f tm ag bd,(Instr.yield l #[av x]).run Tq.prog W=.ok (.round l f tm ag bd) W/\LV Tq.prog Goal W (Frame.round l f tm ag bd .normal) (fi::cs)
 Bl:N<=1000000
structure WI (J:List B->(Nat->Prop)->World->Prop) (B0 sb N:Nat) (id:B) (beh:B->List B) (m:Nat) (pre seen queue:List B) (F:Nat->Prop) (w:World) (qv:Value):Prop where
 j:J pre F w
 fr:∀k,F k->k<w.heap.size
 sF:¬F sb
 sn:Seen w sb seen
 q:QV w B0 qv queue
 qF:∀k,qv.ownBlock=some k->¬F k/\k≠sb
 all:pre++Ew beh m seen queue=Ew beh N [id] [id]
 ends:ends beh m seen queue
 cnt:seen.length+m=N+queue.length
 mN:m<=N
 len:∀x∈queue,x.length<=maxLen
structure WI2 (J:List B->(Nat->Prop)->World->Prop) (B0 sb:Nat) (pre seen queue ns:List B) (F:Nat->Prop) (w:World) (qv v:Value) (i:Nat):Prop where
 j:J pre F w
 fr:∀k,F k->k<w.heap.size
 sF:¬F sb
 sn:Seen w sb (seen++news seen (ns.take i))
 q:QV w B0 qv (queue++news seen (ns.take i))
 qF:∀k,qv.ownBlock=some k->¬F k/\k≠sb
 row:∃B1,Qm w B1 v ns/\B0<=B1
 vq:∀k,v.ownBlock=some k->qv.ownBlock≠some k/\k≠sb
 le:i<=ns.length
theorem setCells_one (w:World) (b o:Nat) (x:Value):w.setCells b o [x]=w.setCell ⟨b,o,none⟩ x:=rfl
theorem QV.put {w:World} {B0 g o cap:Nat} {l:List B} (h:QV w B0 (.slice (some ⟨g,o,none⟩) l.length cap) l) (hr:l.length+1<=cap) (n:B):QV (w.setCell ⟨g,o+l.length*1,none⟩ (av n)) B0 (.slice (some ⟨g,o,none⟩) (l.length+1) cap) (l++[n]):=by
 obtain ⟨g',o',fM,e,h1,h2,h3,h4,h5⟩:=h;injection e with e1 e2 e3;injection e1 with e1;injection e1 with e1 e4;subst e1 e3 e4;obtain ⟨cur,c1,c2,c3⟩:=h5 (by omega);have hb:(w.setCell ⟨g,o+l.length*1,none⟩ (av n)).heap[g]? =some (.cells (cur.setIfInBounds (o+l.length*1) (av n)) 9 (0,0)):=by unfold World.setCell;simp [Array.getElem?_modify,c1]
 refine ⟨g,o,cap,by simp,by simpa using hr,h2,h3,by simpa using h4,λ_=>⟨_,hb,by simpa using c2,λi x hx=>?_⟩⟩;by_cases hi:i<l.length
 ·rw [List.getElem?_append_left hi] at hx;rw [Array.getElem?_setIfInBounds_ne (by omega)];exact c3 i x hx
 ·have hi2:i=l.length:=by
   have:=(List.getElem?_eq_some_iff.1 hx).1;simp at this;omega
  subst hi2;simp at hx;subst hx;rw [Nat.mul_one,Array.getElem?_setIfInBounds_self_of_lt (by omega)]
theorem IK {w:World} {B1 n:Nat} {v:Value} {xs:List B} (h:w.ownsRow B1 9 1 v n (xs.map av)) {i:Nat} {x:B} (hx:xs[i]? =some x):∃p cap,v=.slice (some p) n cap/\w.cell? (p.add i)=some (av x):=by obtain ⟨p,cap,e,hv⟩:=Lo.fZ h;obtain ⟨a,rfl,_,_,hc⟩:=hv i (av x) (by rw [List.getElem?_map,hx];rfl);exact ⟨a,cap,e,hc⟩
theorem aJS {p:Prop} (h:p):p:=h
theorem Kc {Goal:Machine->Prop} {l g:Nat} {lb:Array Value} {b1 b2 B0 N:Nat} {id:B} {beh:B->List B} {fc:Frame} {cs:List Frame} {J Jx:List B->(Nat->Prop)->World->Prop} {F:Nat->Prop} {W:World}
 (H:Who Goal l g lb b1 b2 B0 N id beh (Ew beh N [id] [id]) (fc::cs) J Jx) (hid:id.length<=maxLen) (hB0:B0=W.heap.size) (h0:J [] F W) (hF:∀k,F k->k<W.heap.size) (GZ:ends beh N [id] [id])
 (pQ:∀F' W',J (Ew beh N [id] [id]) F' W'->LV Tq.prog Goal W' (fc.finish (.tuple #[])) cs) (mY:∀pre F' W',pre<+:Ew beh N [id] [id]->Jx pre F' W'->LV Tq.prog Goal W' (fc.finish (.tuple #[])) cs):
 LV Tq.prog Goal W (Frame.enter Tq.prog 132 #[.func (.yield l) #[] #[],.pointer (some ⟨b1,0,none⟩),.pointer (some ⟨b2,0,none⟩)] .normal) (fc::cs):=by
 obtain ⟨ll,gQ,bW⟩:=H.box _ _ _ h0;have X:=z37 (p37 H (p37 GZ (p37 pQ (p37 mY (p37 h0 (p37 hF hid))))));have HB:=z37 hB0;clear H GZ pQ mY h0 hF hid gQ bW hB0;have hmm:=@run_makeMap Tq.prog;refine LV.enter Tq.func132 rfl ?_;simp only [Tryz.ntmps132,List.size_toArray,List.length_cons,List.length_nil,Nat.reduceAdd,Nat.reduceSub,Array.replicate_succ,Array.replicate_zero,List.push_toArray,List.append_toArray,List.nil_append,List.cons_append];refine LV.seq (LV.reg rfl λR hR=>?_);replace hR:=z37 hR;have c1:aj (λ_=>False) W (W.alloc (.map #[] 0)):=(aj.refl _ W).alloc _;have k1:(W.alloc (.map #[] 0)).cell? ⟨b1,0,none⟩=some (.string ⟨id.toArray⟩):=c1.bB ll (λe=>e);have Bc:SM (W.alloc (.map #[] 0)) W.heap.size []:=SM.made W;have UT:(W.alloc (.map #[] 0)).heap.size=W.heap.size+1:=World.size_alloc ..;have C1:=z37 c1;clear c1;go_wp2_with (refine Mp.insert rfl (.tmp 9) (.tmp 10) (.const (.int .i64 1)) 67 rfl 3 ((Tq.underlying 67).trans Tryz.underlying67) W.heap.size [] rfl Bc (by decide) ⟨id.toArray⟩ (.int .i64 1) rfl rfl X.out.2.2.2.2.2.2 ?_;intro w2 ky ht2);refine hR.out _ _ ?_;have c2:aj (·=W.heap.size) W w2:=(C1.out.mono (λ_ _ e=>e.elim)).trans (dY ht2);have k2:w2.cell? ⟨b1,0,none⟩=some (.string ⟨id.toArray⟩):=c2.bB ll (λe=>by have e:b1=W.heap.size:=e;have:=World.block_lt_of_cell? _ _ ll;simp only at this;omega);have Mo:W.heap.size<w2.heap.size:=ky.lt;replace ky:=z37 ky;have C2:=z37 c2;clear hR R C1 c2 ht2 k1 Bc UT;refine LV.seq (LV.reg rfl λR hR=>?_);replace hR:=z37 hR;go_wp2_with fail;refine hR.out _ _ ?_;clear hR R;have cA:aj (·=W.heap.size) W (w2.alloc (.cells #[.string ⟨id.toArray⟩] 9)):=C2.out.alloc _;have hq:QV (w2.alloc (.cells #[.string ⟨id.toArray⟩] 9)) B0 (.slice (some ⟨w2.heap.size,0,none⟩) 1 1) [id]:=by
  refine ⟨w2.heap.size,0,1,rfl,Nat.le_refl _,by decide,by have:=HB.out;omega,by simp,λ_=>⟨#[.string ⟨id.toArray⟩],heap_alloc_new _ _,by simp,λi x hx=>?_⟩⟩;cases i with
  |zero=>simp at hx;subst hx;rfl
  |succ i=>simp at hx
 have aDQ:Seen (w2.alloc (.cells #[.string ⟨id.toArray⟩] 9)) W.heap.size [id]:=by have:Seen w2 W.heap.size ([]++[id]):=Seen.put (m:=[]) ⟨by simp,λk=>by simp [M.get]⟩ ky.out;exact this.aA ((aj.refl (λ_=>False) w2).alloc _) (λe=>e)
 obtain ⟨H,GZ,pQ,mY,h0,hF,hid⟩:=X.out;have Aw:WI J B0 W.heap.size N id beh N [] [id] [id] F (w2.alloc (.cells #[.string ⟨id.toArray⟩] 9)) (.slice (some ⟨w2.heap.size,0,none⟩) 1 1):=by
  refine ⟨H.keep _ _ _ _ _ h0 cA (λk hk aI=>by omega),λk hk=>?_,λe=>?_,aDQ,hq,λk hk=>?_,rfl,GZ,by simp;omega,Nat.le_refl _,λx hx=>?_⟩
  ·have:=hF k hk;simp;omega
  ·have:=hF _ e;omega
  ·simp only [Value.ownBlock,Option.some.injEq] at hk;subst hk;exact ⟨λe=>by have:=hF _ e;omega,by omega⟩
  ·obtain rfl:=List.mem_singleton.1 hx;exact hid
 clear hq aDQ cA C2 k2 Mo ll h0 hF;generalize w2.alloc (.cells #[.string ⟨id.toArray⟩] 9)=w3 at Aw ⊢;generalize hqv:(Value.slice (some ⟨w2.heap.size,0,none⟩) 1 1)=qv0 at Aw ⊢;clear hqv ky w2;refine LV.block ?_;refine LV.while (m:=N) (λm w a=>∃(pre seen queue:List B) (F:Nat->Prop) (qv x3 x6 x7 x8 x9 x10 x11 x12 x13 x14 x15 x16 x17 x18 x19 x20 x21 x22 x23 x24 x25 x26 x27 x28 x29 x30 x31 x32 x33 x34 x35 x36 x37 x38 x39 x40 x41 x42 x43 x44:Value),a={tmps:=#[.func (.yield l) #[] #[],.pointer (some ⟨b1,0,none⟩),.pointer (some ⟨b2,0,none⟩),x3,.map (some W.heap.size),qv,x6,x7,x8,x9,x10,x11,x12,x13,x14,x15,x16,x17,x18,x19,x20,x21,x22,x23,x24,x25,x26,x27,x28,x29,x30,x31,x32,x33,x34,x35,x36,x37,x38,x39,x40,x41,x42,x43,x44],defers:=[]}/\WI J B0 W.heap.size N id beh m pre seen queue F w qv) ⟨[],[id],[id],F,qv0,_,_,_,_,_,_,_,_,_,_,_,_,_,_,_,_,_,_,_,_,_,_,_,_,_,_,_,_,_,_,_,_,_,_,_,_,_,_,_,_,rfl,Aw⟩ ?_;clear Aw w3 qv0;rintro m w a ⟨pre,seen,queue,F,qv,x3,x6,x7,x8,x9,x10,x11,x12,x13,x14,x15,x16,x17,x18,x19,x20,x21,x22,x23,x24,x25,x26,x27,x28,x29,x30,x31,x32,x33,x34,x35,x36,x37,x38,x39,x40,x41,x42,x43,x44,rfl,hI⟩ IH;replace IH:=z37 IH;cases queue with
 |nil=>
  obtain ⟨g1,o1,aLv,rfl,-⟩:=hI.q;have jb:=hI.all;have hJ:=hI.j;have hbn:Ew beh m seen []=[]:=by cases m<;>rfl
  rw [hbn,List.append_nil] at jb;subst jb;have hd:=z37 (pQ _ _ hJ);clear hI hJ pQ mY H GZ IH hbn;refine LV.seq (LV.seq (LV.reg rfl λR hR=>?_));replace hR:=z37 hR;go_wp2_with fail;refine hR.out _ _ ?_;refine LV.cond rfl ?_;refine LV.exit rfl (LV.fin rfl ?_);exact LV.back (v:=.tuple #[]) rfl rfl rfl Tq.func132 (results_none rfl _ _ _) hd.out
 |cons x queue=>
  obtain ⟨m,rfl⟩:∃m',m=m'+1:=by have:=Eg _ _ _ hI.ends;simp at this;exact ⟨m - 1,by omega⟩
  obtain ⟨g1,o1,aLv,hqv,-⟩:=hI.q;subst hqv;have hq:=hI.q;obtain ⟨hn1,Rp,GN,Y5⟩:=hq.tail;simp only [List.length_cons] at hq Y5 GN ⊢;have jb:=hI.all;have mZ:=hI.ends;replace jb:pre++x::Ew beh m (seen++news seen (beh x)) (queue++news seen (beh x))=Ew beh N [id] [id]:=jb;replace mZ:ends beh m (seen++news seen (beh x)) (queue++news seen (beh x)):=mZ;have Mj:=hI.len x (List.mem_cons_self ..);have S:=z37 (p37 hI (p37 Y5 (p37 jb mZ)));have HH:=z37 (p37 H (p37 pQ mY));have zD:g1<w.heap.size/\¬F g1/\g1≠W.heap.size/\B0<=g1:=by obtain ⟨g',e,h1,h2⟩:=hI.q.block;simp only [Value.ownBlock,Option.some.injEq] at e;subst e;exact ⟨h2,(hI.qF _ rfl).1,(hI.qF _ rfl).2,h1⟩
  replace zD:=z37 zD;clear hI hq Y5 jb mZ H pQ mY GZ hn1 X;replace GN:w.cell? ⟨g1,o1,none⟩=some (.string ⟨x.toArray⟩):=GN;have aKI:((0:Int)<((queue.length+1:Nat):Int))=True:=eq_true (by omega);refine LV.seq (LV.seq (LV.reg rfl λR hR=>?_));replace hR:=z37 hR;go_wp2_with fail;refine hR.out _ _ ?_;clear hR R;refine LV.cond rfl ?_;refine LV.skip (LV.block (LV.seq (LV.reg rfl λR hR=>?_)));replace hR:=z37 hR;have e10:((⟨g1,o1,none⟩:Addr).add 0)=⟨g1,o1,none⟩:=by simp [Addr.add]
  go_wp2_with fail;refine hR.out _ _ ?_;clear hR R;refine LV.seq (LV.reg rfl λR hR=>?_);replace hR:=z37 hR;have cont:∀(q2 y3 y7 y8 y9 y10 y11 y12 y13 y14 y15 y16 y17 y18 y19 y20 y21 y22 y23 y24 y25 y26 y27 y28 y29 y30 y31 y32 y33 y34 y35 y36 y37 y38 y39 y40 y41 y42 y43 y44:Value),QV w B0 q2 queue->q2.ownBlock=some g1->R {tmps:=#[.func (.yield l) #[] #[],.pointer (some ⟨b1,0,none⟩),.pointer (some ⟨b2,0,none⟩),y3,.map (some W.heap.size),q2,.string ⟨x.toArray⟩,y7,y8,y9,y10,y11,y12,y13,y14,y15,y16,y17,y18,y19,y20,y21,y22,y23,y24,y25,y26,y27,y28,y29,y30,y31,y32,y33,y34,y35,y36,y37,y38,y39,y40,y41,y42,y43,y44],defers:=[]} w:=by
   intro q2 y3 y7 y8 y9 y10 y11 y12 y13 y14 y15 y16 y17 y18 y19 y20 y21 y22 y23 y24 y25 y26 y27 y28 y29 y30 y31 y32 y33 y34 y35 y36 y37 y38 y39 y40 y41 y42 y43 y44 Y5 bU;refine hR.out _ _ ?_;clear hR R;obtain ⟨hI,_,jb,mZ⟩:=S.out;obtain ⟨H,pQ,mY⟩:=HH.out;obtain ⟨zD,hg2,hg3,hg4⟩:=zD.out;have hp:pre++[x]<+:Ew beh N [id] [id]:=⟨_,by rw [List.append_assoc];exact jb⟩
   refine LV.seq (LV.seq (LV.pre (l:=[_,_]) (r:=[_,_]) rfl λR hR=>?_));replace hR:=z37 hR;go_wp2_with fail;refine hR.out _ _ ?_;clear hR R;refine LV.aAZ (args:=#[av x]) _ rfl rfl rfl (λr hr=>?hx) (H.round pre x F w _ hI.j hp Mj ?go ?stop)
   case hx=>
    simp [execOp,resolve,invoke,go_sem];exact hr
   case stop=>
    intro F' W' hj;have hd:=z37 (mY _ _ _ hp hj);clear pQ mY H hI jb mZ hp hj;refine LV.called 24 rfl ?_;simp only [List.setIfInBounds_toArray,List.set_cons_succ,List.set_cons_zero];refine LV.post 3 rfl rfl λR hR=>?_;replace hR:=z37 hR;simp only [List.cons_append,List.nil_append,List.drop_succ_cons,List.drop_zero];go_wp2_with fail;refine hR.out _ _ ?_;clear hR R;refine LV.cond rfl (LV.ret rfl ?_);exact LV.back (v:=.tuple #[]) rfl rfl rfl Tq.func132 (results_none rfl _ _ _) hd.out
   case go=>
    intro F' W' hj gN hF';have hb:=H.box _ _ _ hj;have wY:=H.back _ _ _ ⟨x.toArray⟩ hj (by exact Mj);have hsn:=hI.sn.aA gN hI.sF;have hq3:=Y5.aA gN (λk hk=>by rw [bU] at hk;obtain rfl:=Option.some.inj hk;exact hg2);have eg:=H.enter;have Bc:=H.small x;have k2:=hb.2.1;have bW:w.heap.size<=W'.heap.size:=gN.size;have hnF:¬F' g1/\¬F' W.heap.size:=⟨λe=>(hF' g1 e).1.elim hg2 (λh=>by omega),λe=>(hF' _ e).1.elim hI.sF (λh=>by have:=HB.out;omega)⟩
    have Mh:=z37 (p37 H (p37 pQ (p37 mY (p37 hI (p37 jb (p37 mZ (p37 hp hj)))))));have Y:=z37 (p37 hsn (p37 hq3 (p37 gN (p37 hF' (p37 Bc hnF)))));replace wY:=z37 wY;clear H pQ mY hI jb mZ hp hj hsn hq3 gN hF' hb Bc Y5 hnF;refine LV.called 24 rfl ?_;simp only [List.setIfInBounds_toArray,List.set_cons_succ,List.set_cons_zero];refine LV.post 3 rfl rfl λR hR=>?_;replace hR:=z37 hR;simp only [List.cons_append,List.nil_append,List.drop_succ_cons,List.drop_zero];go_wp2_with fail;refine hR.out _ _ ?_;clear hR R;refine LV.cond rfl (LV.skip (LV.seq (LV.reg rfl λR hR=>?_)));replace hR:=z37 hR;go_wp2_with fail;refine wY.out.mono ?_;rintro e W2 ⟨v,rfl,ay,fJ⟩;obtain ⟨pv,qE,ev,-⟩:=aJS ay;subst ev;have R2:=z37 (p37 ay fJ);clear ay fJ;go_wp2_with fail;refine hR.out _ _ ?_;clear hR R k2 eg wY;have hW2:WI2 J B0 W.heap.size (pre++[x]) seen queue (beh x) F' W2 q2 (.slice pv (beh x).length qE) 0:=by
     obtain ⟨H,pQ,mY,hI,jb,mZ,hp,hj⟩:=Mh.out;obtain ⟨hsn,hq3,gN,hF',Bc,hnF⟩:=Y.out;obtain ⟨ay,fJ⟩:=R2.out;have cB:aj (λ_=>False) W' W2:=aj.nK fJ;have hB:=HB.out;have aT0:W.heap.size<w.heap.size:=by obtain ⟨m,h,_⟩:=hI.sn;exact h.lt
     refine ⟨H.keep _ _ _ _ _ hj cB (λk e _=>e.elim),λk hk=>Nat.lt_of_lt_of_le (hF' k hk).2 cB.size,hnF.2,?_,?_,λk hk=>?_,⟨_,ay,by omega⟩,λk hk=>?_,Nat.zero_le _⟩
     ·simpa [news] using hsn.aA cB (λe=>e)
     ·simpa [news] using hq3.aA cB (λ_ _ e=>e)
     ·rw [bU] at hk;obtain rfl:=Option.some.inj hk;exact ⟨hnF.1,hg3⟩
     ·have h1:=(ay.choose_spec.choose_spec.2.1 k hk).1;rw [bU];exact ⟨λe=>by have:=Option.some.inj e;omega,by omega⟩
    clear GN Mj aKI Rp bW R2;refine LV.block ?_;refine LV.while (m:=(beh x).length) (λm2 w a=>∃(i:Nat) (qv x3 x6 x7 x8 x9 x10 x11 x12 x13 x14 x15 x16 x17 x18 x19 x20 x21 x22 x23 x24 x25 x26 x27 x31 x32 x33 x34 x35 x36 x37 x38 x39 x40 x41 x42 x43 x44:Value),a={tmps:=#[.func (.yield l) #[] #[],.pointer (some ⟨b1,0,none⟩),.pointer (some ⟨b2,0,none⟩),x3,.map (some W.heap.size),qv,x6,x7,x8,x9,x10,x11,x12,x13,x14,x15,x16,x17,x18,x19,x20,x21,x22,x23,x24,x25,x26,x27,.slice pv (beh x).length qE,.int .i64 ((beh x).length:Nat),.int .i64 (i:Nat),x31,x32,x33,x34,x35,x36,x37,x38,x39,x40,x41,x42,x43,x44],defers:=[]}/\m2=(beh x).length - i/\WI2 J B0 W.heap.size (pre++[x]) seen queue (beh x) F' w qv (.slice pv (beh x).length qE) i) ⟨0,q2,_,_,_,_,_,_,_,_,_,_,_,_,_,_,_,_,_,_,_,_,_,_,_,_,_,_,_,_,_,_,_,_,_,_,_,_,_,rfl,rfl,hW2⟩ ?_;clear hW2;rintro m2 wr a ⟨i,qv,x3,x6,x7,x8,x9,x10,x11,x12,x13,x14,x15,x16,x17,x18,x19,x20,x21,x22,x23,x24,x25,x26,x27,x31,x32,x33,x34,x35,x36,x37,x38,x39,x40,x41,x42,x43,x44,rfl,rfl,hI2⟩ IH2;replace IH2:=z37 IH2;by_cases aI:i<(beh x).length
    ·obtain ⟨n,hn⟩:∃n,(beh x)[i]? =some n:=⟨_,List.getElem?_eq_getElem aI⟩
     obtain ⟨B1,ay,Ve⟩:=hI2.row;obtain ⟨p,aQp,e,cz⟩:=ay.at hn;injection e with e1 e2 e3;subst e1 e3;clear ay Ve B1;replace cz:wr.cell? (p.add i)=some (.string ⟨n.toArray⟩):=cz;have hI2:=z37 hI2;have qw:((i:Int)<((beh x).length:Int))=True:=eq_true (by omega);refine LV.seq (LV.reg rfl λR hR=>?_);replace hR:=z37 hR;go_wp2_with fail;refine hR.out _ _ ?_;clear hR R;refine LV.seq (LV.cond rfl (LV.skip (LV.seq (LV.block (LV.seq (LV.reg rfl λR hR=>?_))))));replace hR:=z37 hR;go_wp2_with fail;refine hR.out _ _ ?_;clear hR R cz;have uI:(beh x).take (i+1)=(beh x).take i++[n]:=by rw [List.take_add_one,hn];rfl
     have hib:i<1000000:=by have:=Y.out.2.2.2.2.1.1;omega
     have Zd:n.length<=maxLen:=(Y.out.2.2.2.2.1).2 n (List.mem_of_getElem? hn);obtain ⟨sm,GQ,BG,Pn⟩:=hI2.out.sn;have hqs:(queue++news seen ((beh x).take i)).length<=2000000/\sm.length<maxLen:=by
      have hc:=Mh.out.2.2.2.1.cnt;have hq:=Eg _ _ _ Mh.out.2.2.2.2.2.1;have h1:(news seen ((beh x).take i)).length<=(beh x).length:=by
       have:∀(l s:List B),(news s l).length<=l.length:=by
        intro l
        induction l with
        |nil=>intro s;exact Nat.le_refl _
        |cons y l ih=>intro s;unfold news;split;exact Nat.le_succ_of_le (ih _);exact Nat.succ_le_succ (ih _)
       exact Nat.le_trans (this _ _) (by rw [List.length_take];omega)
      have h2:=Y.out.2.2.2.2.1.1;have h3:=Mh.out.1.Bl;have h4:=Mh.out.2.2.2.1.mN;simp only [List.length_append,List.length_cons] at hc hq BG ⊢;unfold maxLen;omega
     have UT:=hqs.2;replace hqs:=hqs.1;by_cases oI:n∈seen++news seen ((beh x).take i)
     ·have ev:((M.get sm n).getD (.int .i64 0))=.int .i64 1:=by rw [Pn n,if_pos oI]
      have Fv:news seen ((beh x).take (i+1))=news seen ((beh x).take i):=by rw [uI,uk,if_pos oI,List.append_nil]
      clear BG Pn UT hqs;refine LV.seq (LV.reg rfl λR hR=>?_);replace hR:=z37 hR;go_wp2_with (at_lookup;refine Mp.lookup rfl _ _ 67 rfl 3 ((Tq.underlying 67).trans Tryz.underlying67) (z:=.int .i64 0) (by simp [Tryz.zeroValue3]) W.heap.size sm rfl GQ ⟨n.toArray⟩ rfl Zd ?_;rw [ev]);refine hR.out _ _ ?_;clear hR R;refine LV.cond rfl (LV.skip (LV.inBlock (LV.reg rfl λR hR=>?_)));replace hR:=z37 hR;have hIx:=z37 (p37 hI2.out Fv);go_wp2_with fail;refine hR.out _ _ ?_;clear hR R;obtain ⟨h2,Fv⟩:=hIx.out;refine IH2.out ((beh x).length - (i+1)) _ _ (by omega) ⟨i+1,qv,_,_,_,_,_,_,_,_,_,_,_,_,_,_,_,_,_,_,_,_,_,_,_,_,_,_,_,_,_,_,_,_,_,_,_,_,_,rfl,rfl,⟨h2.j,h2.fr,h2.sF,?_,?_,h2.qF,h2.row,h2.vq,by omega⟩⟩
      ·rw [Fv];exact h2.sn
      ·rw [Fv];exact h2.q
     ·have ev:((M.get sm n).getD (.int .i64 0))=.int .i64 0:=by rw [Pn n,if_neg oI]
      have Fv:news seen ((beh x).take (i+1))=news seen ((beh x).take i)++[n]:=by rw [uI,uk,if_neg oI]
      have HS:=z37 (p37 BG Pn);clear BG Pn;refine LV.seq (LV.reg rfl λR hR=>?_);replace hR:=z37 hR;go_wp2_with (at_lookup;refine Mp.lookup rfl _ _ 67 rfl 3 ((Tq.underlying 67).trans Tryz.underlying67) (z:=.int .i64 0) (by simp [Tryz.zeroValue3]) W.heap.size sm rfl GQ ⟨n.toArray⟩ rfl Zd ?_;rw [ev]);refine hR.out _ _ ?_;clear hR R;refine LV.cond rfl (LV.seq (LV.reg rfl λR hR=>?_));replace hR:=z37 hR;go_wp2_with (at_mapUpdate;refine Mp.store rfl _ _ _ 67 rfl 3 ((Tq.underlying 67).trans Tryz.underlying67) W.heap.size sm rfl GQ UT ⟨n.toArray⟩ (.int .i64 1) rfl rfl Zd ?_;intro w4 NL VJ);refine hR.out _ _ ?_;clear hR R UT;have Pj:Seen w4 W.heap.size (seen++news seen ((beh x).take i)++[n]):=Seen.put HS.out NL;have c4:aj (·=W.heap.size) wr w4:=dY VJ;have G8:WI2 J B0 W.heap.size (pre++[x]) seen queue (beh x) F' wr qv (.slice (some p) (beh x).length qE) i:=hI2.out;have hq4:=G8.q.aA c4 (λk hk e=>(G8.qF k hk).2 e);have hj4:J (pre++[x]) F' w4:=Mh.out.1.keep _ _ _ _ _ G8.j c4 (λk hk _=>by subst hk;exact ⟨by have:=HB.out;omega,G8.sF⟩);have ML:∀k,F' k->k<w4.heap.size:=λk hk=>Nat.lt_of_lt_of_le (G8.fr k hk) c4.size;have gG:∃B1,Qm w4 B1 (.slice (some p) (beh x).length qE) (beh x)/\B0<=B1:=by obtain ⟨B1,h1,h2⟩:=G8.row;exact ⟨B1,h1.aA c4 (λk hk e=>(G8.vq k hk).2 e),h2⟩
      have DT:W.heap.size<w4.heap.size:=NL.lt;have Z:=z37 (p37 G8 (p37 Pj (p37 hj4 (p37 ML (p37 gG (p37 Fv DT))))));clear Pj c4 G8 hj4 ML gG NL VJ Fv GQ HS sm ev hI2 DT;obtain ⟨gq,oq,Vv,rfl,hq1,Y5,hq3,aOQ,hq5⟩:=hq4;have hgq:=(Z.out.1.qF gq rfl)
      have hvq:=Z.out.1.vq;have Q4:=z37 (show QV w4 B0 (.slice (some ⟨gq,oq,none⟩) (queue++news seen ((beh x).take i)).length Vv) (queue++news seen ((beh x).take i)) from ⟨gq,oq,Vv,rfl,hq1,Y5,hq3,aOQ,hq5⟩);have hq5:=z37 hq5;have hgq:=z37 hgq;have hvq:=z37 hvq;have hB:=z37 hq3;generalize hqq:queue++news seen ((beh x).take i)=qq at *;obtain ⟨i0,wW,uw,wQ,wP⟩:=info_parts Tryz.pI;have hn1:∀j u,[Value.string ⟨n.toArray⟩][j]? =some u->(w4.alloc (.cells #[.string ⟨n.toArray⟩] 9)).cell? ((⟨w4.heap.size,0,none⟩:Addr).add j)=some u:=cell_one_new w4 (.string ⟨n.toArray⟩) 9;refine LV.reg rfl λR hR=>?_;replace hR:=z37 hR;have aC4:∀(w5:World) (q5 x3 x6 x7 x8 x9 x10 x11 x12 x13 x14 x15 x16 x17 x18 x19 x20 x21 x22 x23 x24 x25 x26 x27 x31 x32 x33 x34 x35 x36 x37 x38 x39 x40 x41 x42 x43 x44:Value),WI2 J B0 W.heap.size (pre++[x]) seen queue (beh x) F' w5 q5 (.slice (some p) (beh x).length qE) (i+1)->R {tmps:=#[.func (.yield l) #[] #[],.pointer (some ⟨b1,0,none⟩),.pointer (some ⟨b2,0,none⟩),x3,.map (some W.heap.size),q5,x6,x7,x8,x9,x10,x11,x12,x13,x14,x15,x16,x17,x18,x19,x20,x21,x22,x23,x24,x25,x26,x27,.slice (some p) (beh x).length qE,.int .i64 ((beh x).length:Nat),.int .i64 (i:Nat),x31,x32,x33,x34,x35,x36,x37,x38,x39,x40,x41,x42,x43,x44],defers:=[]} w5:=by intro w5 q5 x3 x6 x7 x8 x9 x10 x11 x12 x13 x14 x15 x16 x17 x18 x19 x20 x21 x22 x23 x24 x25 x26 x27 x31 x32 x33 x34 x35 x36 x37 x38 x39 x40 x41 x42 x43 x44 h5;refine hR.out _ _ ?_;have h5:=z37 h5;clear hR R Q4 hq5 hgq hvq hB hn1 Z hqs;refine LV.inBlock (LV.reg rfl λR hR=>?_);replace hR:=z37 hR;go_wp2_with fail;refine hR.out _ _ ?_;exact IH2.out ((beh x).length - (i+1)) _ _ (by omega) ⟨i+1,q5,_,_,_,_,_,_,_,_,_,_,_,_,_,_,_,_,_,_,_,_,_,_,_,_,_,_,_,_,_,_,_,_,_,_,_,_,_,rfl,rfl,h5.out⟩
      replace aC4:=z37 aC4;clear hR;go_wp2_with (at_builtin;refine wpList_append_arg _ rfl (.tmp 40) (.tmp 42) 34 rfl 9 i0 (.string ByteArray.empty) 1 16 ((Tq.underlying 34).trans Tryz.underlying34) wW uw wQ wP rfl (by decide) gq oq qq.length Vv (qq.map av) rfl ?c0 ?c1 ⟨w4.heap.size,0,none⟩ 1 1 [.string ⟨n.toArray⟩] rfl rfl hn1 ?c2 ?c3 ?c4 ?c5 ?room ?grow)
      case c1=>
       intro j y hy;have jZ:0<Vv:=by have:=(List.getElem?_eq_some_iff.1 hy).1;omega
       obtain ⟨cur,d1,d2,d3⟩:=hq5.out jZ;have:=d3 j y hy;simpa [World.cell?,d1] using this
      case c2=>rfl
      case c3=>
       intro hr;obtain ⟨cur,d1,d2,d3⟩:=hq5.out (by omega);have Zi:oq+qq.length<cur.size:=by omega
       constructor
       ·simp [World.cell?,d1,Zi]
       ·simp [World.frozen?,d1]
      case c4=>unfold maxLen;omega
      case c5=>omega
      case room=>
       intro hr;go_wp2_with fail;obtain ⟨G8,Pj,hj4,ML,gG,Fv,DT⟩:=Z.out;have cA:aj (λ_=>False) w4 (w4.alloc (.cells #[.string ⟨n.toArray⟩] 9)):=(aj.refl _ w4).alloc _;have cS:aj (·=gq) w4 ((w4.alloc (.cells #[.string ⟨n.toArray⟩] 9)).setCell ⟨gq,oq+qq.length*1,none⟩ (av n)):=(cA.mono (S':=(·=gq)) (λ_ _ e=>e.elim)).setCell (p:=⟨gq,oq+qq.length*1,none⟩) (.inl rfl) _;have hQ:QV ((w4.alloc (.cells #[.string ⟨n.toArray⟩] 9)).setCell ⟨gq,oq+qq.length*1,none⟩ (av n)) B0 (.slice (some ⟨gq,oq,none⟩) (qq.length+1) Vv) (qq++[n]):=QV.put (Q4.out.aA cA (λ_ _ e=>e)) hr n;have eW:∀w6,w6=(w4.alloc (.cells #[.string ⟨n.toArray⟩] 9)).setCell ⟨gq,oq+qq.length*1,none⟩ (av n)->WI2 J B0 W.heap.size (pre++[x]) seen queue (beh x) F' w6 (.slice (some ⟨gq,oq,none⟩) (qq.length+1) Vv) (.slice (some p) (beh x).length qE) (i+1):=by
        rintro w6 rfl;refine ⟨Mh.out.1.keep _ _ _ _ _ hj4 cS (λk hk _=>by subst hk;exact ⟨hB.out,hgq.out.1⟩),λk hk=>Nat.lt_of_lt_of_le (ML k hk) cS.size,G8.sF,?_,?_,λk hk=>(by simp only [Value.ownBlock,Option.some.injEq] at hk;subst hk;exact hgq.out),?_,hvq.out,by omega⟩
        ·rw [Fv,<-List.append_assoc];exact Pj.aA cS (λe=>hgq.out.2 e.symm)
        ·rw [Fv,<-List.append_assoc,hqq];exact hQ
        ·obtain ⟨B1,h1,h2⟩:=gG;exact ⟨B1,h1.aA cS (λk hk e=>(hvq.out k hk).1 (by subst e;rfl)),h2⟩
       exact aC4.out _ _ _ _ _ _ _ _ _ _ _ _ _ _ _ _ _ _ _ _ _ _ _ _ _ _ _ _ _ _ _ _ _ _ _ _ _ _ _ (eW _ (by simp [av,setCells_one]))
      case grow=>
       intro hr q5 w5 pK aX;obtain ⟨G8,Pj,hj4,ML,gG,Fv,DT⟩:=Z.out;have cA:aj (λ_=>False) w4 w5:=((aj.refl (λ_=>False) w4).alloc (.cells #[.string ⟨n.toArray⟩] 9)).grown aX (λk e=>by cases e);have U1:=(pK.lt)
       have eW:WI2 J B0 W.heap.size (pre++[x]) seen queue (beh x) F' w5 q5 (.slice (some p) (beh x).length qE) (i+1):=by
        have bA:qq++[n]≠[]:=by simp
        have Mr:w5.ownsRow (w4.heap.size+1) 9 1 q5 (qq++[n]).length ((qq++[n]).map av):=by rw [List.length_append,List.map_append];exact pK
        have hQ:=QV.aFl Mr bA;refine ⟨Mh.out.1.keep _ _ _ _ _ hj4 cA (λk e _=>e.elim),λk hk=>Nat.lt_of_lt_of_le (ML k hk) cA.size,G8.sF,?_,?_,λk hk=>?_,?_,λk hk=>?_,by omega⟩
        ·rw [Fv,<-List.append_assoc];exact Pj.aA cA (λe=>e)
        ·rw [Fv,<-List.append_assoc,hqq];obtain ⟨g',o',c',z1,z2,z3,z4,z5⟩:=hQ;exact ⟨g',o',c',z1,z2,z3,by have:=HB.out;omega,z5⟩
        ·have:=(U1 k hk).1;exact ⟨λe=>by have:=ML k e;omega,by omega⟩
        ·obtain ⟨B1,h1,h2⟩:=gG;exact ⟨B1,h1.aA cA (λk hk e=>e),h2⟩
        ·refine ⟨λe=>?_,(hvq.out k hk).2⟩;have h1:=(U1 k e).1;obtain ⟨B1,h2,_⟩:=gG;have:=(h2.choose_spec.choose_spec.2.1 k hk).2;omega
       have eW:=z37 eW;clear pK aX G8 Pj hj4 ML gG Fv DT cA U1;go_wp2_with fail;exact aC4.out _ _ _ _ _ _ _ _ _ _ _ _ _ _ _ _ _ _ _ _ _ _ _ _ _ _ _ _ _ _ _ _ _ _ _ _ _ _ _ eW.out
    ·obtain rfl:i=(beh x).length:=by have:=hI2.le;omega
     have hI3:=z37 hI2;have qw:(((beh x).length:Int)<((beh x).length:Int))=False:=eq_false (by omega);refine LV.seq (LV.reg rfl λR hR=>?_);replace hR:=z37 hR;clear hI2;go_wp2_with fail;refine hR.out _ _ ?_;clear hR R;refine LV.seq (LV.cond rfl (LV.exit rfl ?_));obtain ⟨H,pQ,mY,hI,jb,mZ,hp,hj⟩:=Mh.out;obtain ⟨hsn,hq3,gN,hF',Bc,hnF⟩:=Y.out;have h2:=hI3.out;have ht:(beh x).take (beh x).length=beh x:=List.take_length;have aJ8:=h2.sn;have Y5:=h2.q;rw [ht] at aJ8 Y5;refine LV.inBlock (IH.out m _ _ (by omega) ⟨pre++[x],seen++news seen (beh x),queue++news seen (beh x),F',qv,_,_,_,_,_,_,_,_,_,_,_,_,_,_,_,_,_,_,_,_,_,_,_,_,_,_,_,_,_,_,_,_,_,_,_,_,_,_,_,_,rfl,⟨h2.j,h2.fr,h2.sF,aJ8,Y5,h2.qF,?_,mZ,?_,?_,?_⟩⟩)
     ·rw [List.append_assoc];exact jb
     ·have:=hI.cnt;simp only [List.length_append,List.length_cons] at this ⊢;omega
     ·have:=hI.mN;omega
     ·intro y hy;rcases List.mem_append.1 hy with hy|hy
      ·exact hI.len y (List.mem_cons_of_mem _ hy)
      ·exact Bc.2 y ((kV seen _ y).1 hy).1
  have hQ2:=S.out.2.1;replace cont:=z37 cont;have hQ2:=z37 hQ2;clear hR;go_wp2_with fail
  ·have h2:=hQ2.out;have h0:aLv - 1=0:=by omega
   rw [if_pos h0,h0] at h2;exact cont.out _ _ _ _ _ _ _ _ _ _ _ _ _ _ _ _ _ _ _ _ _ _ _ _ _ _ _ _ _ _ _ _ _ _ _ _ _ _ _ _ h2 rfl
  ·rename_i Av;have h2:=hQ2.out;rw [if_neg (by omega)] at h2;exact cont.out _ _ _ _ _ _ _ _ _ _ _ _ _ _ _ _ _ _ _ _ _ _ _ _ _ _ _ _ _ _ _ _ _ _ _ _ _ _ _ _ h2 rfl
end Qu
namespace De
open Tx Sp Wg Rd Bk Wi Se Rx Mp Lv
def cB (o:Option B):Bool:=match o with|some t=>ek t|none=>false
def tB (o:Option B):Bool:=match o with|some t=>Pe t|none=>false
theorem OV.ji {w:World} {o:Option B} {v:Value} (h:OV w o v) (W:World):∃q,(Instr.typeAssert v 106 259 true).run Tq.prog W=.ok (.tuple #[q,.bool (cB o)]) W:=by
 cases o with
 |none=>obtain rfl:v=.nilIface:=h;exact ⟨_,HV W⟩
 |some t=>
  obtain ⟨o,b,n,h1,rfl,_⟩:=h;have e:cB (some t)=(o.kind==99):=by simp only [cB,ek,(lS h1).2]
  rw [e];exact ⟨_,tJ o.kind (qj h1) ⟨b,0,none⟩ W⟩
theorem OV.tree {w:World} {o:Option B} {v:Value} (h:OV w o v) (W:World):∃q,(Instr.typeAssert v 106 257 true).run Tq.prog W=.ok (.tuple #[q,.bool (tB o)]) W:=by
 cases o with
 |none=>obtain rfl:v=.nilIface:=h;exact ⟨_,aDs W⟩
 |some t=>
  obtain ⟨o,b,n,h1,rfl,_⟩:=h;have e:tB (some t)=(o.kind==116):=by simp only [tB,Pe,(lS h1).2]
  rw [e];exact ⟨_,EB o.kind (qj h1) ⟨b,0,none⟩ W⟩
theorem PV (k:UInt8) (i:Nat) (o:Option B) (r:List (Option B)):vo k i (o::r)=((if k=116 then !cB o else if k=99 then (if i=0 then tB o else cB o) else true)&&vo k (i+1) r):=by
 cases o with
 |none=>
  have e:(if i=0 then tB none else cB none)=false:=by split<;>rfl
  rw [e];rfl
 |some t=>rfl
theorem Z4 (w:World) (t:B) (kd:UInt8) (ob:Nat) (nv:Value) (os:List (Option B)) (vs:List Value) (B1:Nat) (Zo:kd=98\/kd=116\/kd=99) (hk:kindOf t=kd) (ay:w.ownsRow B1 106 1 nv os.length vs) (EE:wN (OV w) os vs) (hn:os.length<1000000):
 Calls Tq.prog 233 #[.iface (ED kd) (.pointer (some ⟨ob,0,none⟩)),nv] w λe w'=>e=.returned (.bool (vo (kindOf t) 0 os))/\w'=w:=by
 rw [hk];refine nA λcs=>?_;obtain ⟨pv,qE,rfl,iX⟩:=Lo.fZ ay;have tT:=λW=>EB kd Zo ⟨ob,0,none⟩ W;have tC:=λW=>tJ kd Zo ⟨ob,0,none⟩ W;have X:=z37 (p37 iX EE);clear iX EE ay;refine LV.enter Tq.func233 rfl ?_;simp only [Tryz.ntmps233,List.size_toArray,List.length_cons,List.length_nil,Nat.reduceAdd,Nat.reduceSub,Array.replicate_succ,Array.replicate_zero,List.push_toArray,List.append_toArray,List.nil_append,List.cons_append];refine LV.seq (LV.reg rfl λR hR=>?_);replace hR:=z37 hR;go_wp2_with fail;refine hR.out _ _ ?_;clear hR R;refine LV.seq (LV.seq (LV.reg rfl λR hR=>?_));replace hR:=z37 hR;go_wp2_with fail;refine hR.out _ _ ?_;clear hR R;refine LV.block ?_;refine LV.while (m:=os.length) (λm w' a=>∃(i:Nat) (x2 x3 x5 x6 x7 x8 x9 x10 x11 x12 x16 x17 x18 x19 x20 x21 x22 x23 x24 x25 x26 x27 x28 x29 x30 x31 x32 x33 x34 x35 x36 x37 x38 x39 x40 x41 x42 x43 x44 x45 x46 x47 x48 x49 x50 x51 x52 x53 x54 x55 x56 x57:Value),a={tmps:=#[.iface (ED kd) (.pointer (some ⟨ob,0,none⟩)),.slice pv os.length qE,x2,x3,.bool false,x5,x6,x7,x8,x9,x10,x11,x12,.slice pv os.length qE,.int .i64 (os.length:Nat),.int .i64 (i:Nat),x16,x17,x18,x19,x20,x21,x22,x23,x24,x25,x26,x27,x28,x29,x30,x31,x32,x33,x34,x35,x36,x37,x38,x39,x40,x41,x42,x43,x44,x45,x46,x47,x48,x49,x50,x51,x52,x53,x54,x55,x56,x57],defers:=[]}/\m=os.length - i/\i<=os.length/\w'=w/\vo kd 0 os=vo kd i (os.drop i)) ⟨0,_,_,_,_,_,_,_,_,_,_,_,_,_,_,_,_,_,_,_,_,_,_,_,_,_,_,_,_,_,_,_,_,_,_,_,_,_,_,_,_,_,_,_,_,_,_,_,_,_,_,_,_,rfl,rfl,Nat.zero_le _,rfl,rfl⟩ ?_;rintro m w' a ⟨i,x2,x3,x5,x6,x7,x8,x9,x10,x11,x12,x16,x17,x18,x19,x20,x21,x22,x23,x24,x25,x26,x27,x28,x29,x30,x31,x32,x33,x34,x35,x36,x37,x38,x39,x40,x41,x42,x43,x44,x45,x46,x47,x48,x49,x50,x51,x52,x53,x54,x55,x56,x57,rfl,rfl,hle,rfl,PG⟩ IH;replace IH:=z37 IH;by_cases aI:i<os.length
 ·obtain ⟨o,ho⟩:∃o,os[i]? =some o:=⟨_,List.getElem?_eq_getElem aI⟩
  obtain ⟨v,hv,GV⟩:=X.out.2.at_ ho;obtain ⟨p,rfl,_,_,cz⟩:=X.out.1 i v hv;have NN:os.drop i=o::os.drop (i+1):=by rw [List.drop_eq_getElem_cons aI];have:=(List.getElem?_eq_some_iff.1 ho).2;rw [this]
  rw [NN,PV] at PG;have qw:((i:Int)<(os.length:Int))=True:=eq_true (by omega);have aC:=λW=>(OV.ji GV W).choose_spec;have aT:=λW=>(OV.tree GV W).choose_spec;generalize hqc:(λW=>(OV.ji GV W).choose)=qC at aC;generalize hqt:(λW=>(OV.tree GV W).choose)=qT at aT;replace aC:∀W,(Instr.typeAssert v 106 259 true).run Tq.prog W=.ok (.tuple #[qC W,.bool (cB o)]) W:=λW=>by rw [<-hqc];exact aC W
  replace aT:∀W,(Instr.typeAssert v 106 257 true).run Tq.prog W=.ok (.tuple #[qT W,.bool (tB o)]) W:=λW=>by rw [<-hqt];exact aT W
  clear hqc hqt GV hv ho;have hF:=z37 PG;clear PG;refine LV.seq (LV.reg rfl λR hR=>?_);replace hR:=z37 hR;go_wp2_with fail;refine hR.out _ _ ?_;clear hR R;refine LV.seq (LV.cond rfl (LV.skip (LV.seq (LV.block (LV.seq (LV.reg rfl λR hR=>?_))))));replace hR:=z37 hR;go_wp2_with fail;refine hR.out _ _ ?_;clear hR R;refine LV.seq (LV.reg rfl λR hR=>?_);replace hR:=z37 hR;go_wp2_with fail;refine hR.out _ _ ?_;clear hR R;rcases Zo with rfl|rfl|rfl
  ·have tT0:=EB 98 (.inl rfl) ⟨ob,0,none⟩ w';have tC0:=tJ 98 (.inl rfl) ⟨ob,0,none⟩ w';rw [if_neg (by decide)] at tT0 tC0;have iN:=hF.out;rw [if_neg (by decide),if_neg (by decide),Bool.true_and] at iN;have iN:=z37 iN;refine LV.block (LV.seq (LV.reg rfl λR hR=>?_));replace hR:=z37 hR;go_wp2_with fail;refine hR.out _ _ ?_;clear hR R;refine LV.cond (t:=false) rfl (LV.seq (LV.reg rfl λR hR=>?_));replace hR:=z37 hR;go_wp2_with fail;refine hR.out _ _ ?_;clear hR R;refine LV.cond (t:=false) rfl (LV.skip (LV.inBlock (LV.inBlock (LV.reg rfl λR hR=>?_))));replace hR:=z37 hR;go_wp2_with fail;refine hR.out _ _ ?_;refine IH.out (os.length - (i+1)) _ _ (by omega) ⟨i+1,_,_,_,_,_,_,_,_,_,_,_,_,_,_,_,_,_,_,_,_,_,_,_,_,_,_,_,_,_,_,_,_,_,_,_,_,_,_,_,_,_,_,_,_,_,_,_,_,_,_,_,_,rfl,rfl,by omega,rfl,?_⟩;exact iN.out
  ·have tT0:=EB 116 (.inr (.inl rfl)) ⟨ob,0,none⟩ w';rw [if_pos rfl] at tT0;have iN:=hF.out;rw [if_pos rfl] at iN;have iN:=z37 iN;refine LV.block (LV.seq (LV.reg rfl λR hR=>?_));replace hR:=z37 hR;go_wp2_with fail;refine hR.out _ _ ?_;clear hR R;refine LV.cond (t:=true) rfl (LV.seq (LV.reg rfl λR hR=>?_));replace hR:=z37 hR;go_wp2_with fail;refine hR.out _ _ ?_;clear hR R;refine LV.seq (LV.reg rfl λR hR=>?_);replace hR:=z37 hR;go_wp2_with fail;refine hR.out _ _ ?_;clear hR R;cases hc:cB o with
   |true=>refine LV.cond (t:=true) rfl (LV.seq (LV.reg rfl λR hR=>?_));replace hR:=z37 hR;go_wp2_with fail;refine hR.out _ _ (LV.ret rfl ?_);refine LV.left rfl rfl rfl rfl Tq.func233 (results_tmp rfl _ _ _) ⟨?_,rfl⟩;rw [iN.out,hc];rfl
   |false=>refine LV.cond (t:=false) rfl (LV.skip (LV.inBlock (LV.inBlock (LV.reg rfl λR hR=>?_))));replace hR:=z37 hR;go_wp2_with fail;refine hR.out _ _ ?_;refine IH.out (os.length - (i+1)) _ _ (by omega) ⟨i+1,_,_,_,_,_,_,_,_,_,_,_,_,_,_,_,_,_,_,_,_,_,_,_,_,_,_,_,_,_,_,_,_,_,_,_,_,_,_,_,_,_,_,_,_,_,_,_,_,_,_,_,_,rfl,rfl,by omega,rfl,?_⟩;rw [iN.out,hc];rfl
  ·have tT0:=EB 99 (.inr (.inr rfl)) ⟨ob,0,none⟩ w';have tC0:=tJ 99 (.inr (.inr rfl)) ⟨ob,0,none⟩ w';rw [if_neg (by decide)] at tT0;rw [if_pos rfl] at tC0;have iN:=hF.out;rw [if_neg (by decide),if_pos rfl] at iN;have iN:=z37 iN;refine LV.block (LV.seq (LV.reg rfl λR hR=>?_));replace hR:=z37 hR;go_wp2_with fail;refine hR.out _ _ ?_;clear hR R;refine LV.cond (t:=false) rfl (LV.seq (LV.reg rfl λR hR=>?_));replace hR:=z37 hR;go_wp2_with fail;refine hR.out _ _ ?_;clear hR R;refine LV.cond (t:=true) rfl (LV.seq (LV.reg rfl λR hR=>?_));replace hR:=z37 hR;go_wp2_with fail;refine hR.out _ _ ?_;clear hR R;refine LV.seq (LV.reg rfl λR hR=>?_);replace hR:=z37 hR;go_wp2_with fail;refine hR.out _ _ ?_;clear hR R;refine LV.seq (LV.reg rfl λR hR=>?_);replace hR:=z37 hR;have aGw:(i=0/\((i:Int)=0)=True/\((0:Int)<(i:Int))=False)\/(i≠0/\((i:Int)=0)=False/\((0:Int)<(i:Int))=True):=by
    by_cases h0:i=0
    ·exact .inl ⟨h0,eq_true (by omega),eq_false (by omega)⟩
    ·exact .inr ⟨h0,eq_false (by omega),eq_true (by omega)⟩
   rcases aGw with ⟨h0,e1,e2⟩|⟨h0,e1,e2⟩<;>cases hbt:tB o<;>cases hbc:cB o
   all_goals
    have H0:=z37 h0;clear h0;go_wp2_with fail;refine hR.out _ _ ?_
    first
     |(refine LV.cond (t:=true) rfl (LV.seq (LV.reg rfl λR hR=>?_))
       replace hR:=z37 hR;go_wp2_with fail;refine hR.out _ _ (LV.ret rfl ?_);refine LV.left rfl rfl rfl rfl Tq.func233 (results_tmp rfl _ _ _) ⟨?_,rfl⟩;rw [iN.out,hbt,hbc]
       first|rw [if_pos H0.out]|rw [if_neg H0.out]
       rfl)
     |(refine LV.cond (t:=false) rfl (LV.skip (LV.inBlock (LV.inBlock (LV.reg rfl λR hR=>?_))))
       replace hR:=z37 hR;go_wp2_with fail;refine hR.out _ _ ?_
       try obtain rfl:=H0.out
       first
        |refine IH.out (os.length - (0+1)) _ _ (by omega) ⟨0+1,_,_,_,_,_,_,_,_,_,_,_,_,_,_,_,_,_,_,_,_,_,_,_,_,_,_,_,_,_,_,_,_,_,_,_,_,_,_,_,_,_,_,_,_,_,_,_,_,_,_,_,_,rfl,rfl,by omega,rfl,?_⟩
        |refine IH.out (os.length - (i+1)) _ _ (by omega) ⟨i+1,_,_,_,_,_,_,_,_,_,_,_,_,_,_,_,_,_,_,_,_,_,_,_,_,_,_,_,_,_,_,_,_,_,_,_,_,_,_,_,_,_,_,_,_,_,_,_,_,_,_,_,_,rfl,rfl,by omega,rfl,?_⟩
       rw [iN.out,hbt,hbc]
       first|rw [if_pos H0.out]|rw [if_neg H0.out]
       rfl)
 ·obtain rfl:i=os.length:=by omega
  have qw:((os.length:Int)<(os.length:Int))=False:=eq_false (by omega);have hF:=z37 PG;clear PG;refine LV.seq (LV.reg rfl λR hR=>?_);replace hR:=z37 hR;go_wp2_with fail;refine hR.out _ _ ?_;clear hR R;refine LV.seq (LV.cond rfl (LV.exit rfl (LV.seq (LV.reg rfl λR hR=>?_))));replace hR:=z37 hR;go_wp2_with fail;refine hR.out _ _ (LV.ret rfl ?_);refine LV.left rfl rfl rfl rfl Tq.func233 (results_tmp rfl _ _ _) ⟨?_,rfl⟩;rw [hF.out,List.drop_length];rfl
end De
namespace De
open Tx Sp Wg Rd Bk Wi Se Rx Mp Lv Qu
theorem BC {l:B} (h:yN l=true):l.length=8:=by unfold yN at h;simp only [Bool.and_eq_true,decide_eq_true_eq] at h;exact h.2.1
theorem AB:∀(l:List B) (last:B) (r:List B),entries last l=some r->∀x∈r,x.length=8
 |[],_,r,h=>by unfold entries at h;obtain rfl:=Option.some.inj h;simp
 |e::l,last,r,h=>by
  unfold entries at h;split at h
  ·rename_i hc;rw [Option.map_eq_some_iff] at h;obtain ⟨r',h1,rfl⟩:=h;simp only [Bool.and_eq_true] at hc;intro x hx;rcases List.mem_cons.1 hx with rfl|hx
   ·exact BC hc.1.2
   ·exact AB l _ r' h1 x hx
  ·cases h
theorem UN {t:B} {o:Tx.Obj} (h:Tx.parse t=some o):∀x∈o.ids,x.length=8:=by
 unfold Tx.parse at h;simp only at h;split at h
 ·split at h
  ·split at h
   ·obtain rfl:=Option.some.inj h;simp
   ·cases h
  ·split at h
   ·rw [Option.map_eq_some_iff] at h;obtain ⟨l,hl,rfl⟩:=h;unfold tree at hl;split at hl
    ·obtain rfl:=Option.some.inj hl;simp
    ·exact AB _ _ _ hl
   ·split at h
    ·rw [Option.map_eq_some_iff] at h;obtain ⟨l,hl,rfl⟩:=h;unfold ji at hl;simp only at hl;split at hl
     ·rename_i hc;simp only [Bool.and_eq_true] at hc;split at hl
      ·obtain rfl:=Option.some.inj hl;intro x hx;obtain rfl:=List.mem_singleton.1 hx;exact BC hc.1.2
      ·split at hl
       ·rename_i hc2;obtain rfl:=Option.some.inj hl;simp only [Bool.and_eq_true] at hc2;intro x hx;rcases List.mem_cons.1 hx with rfl|hx
        ·exact BC hc.1.2
        ·exact BC (List.all_eq_true.1 hc2.2 x hx)
       ·cases hl
     ·cases hl
    ·cases h
 ·cases h
def AP (S:St) (p:M B):Prop:=(∀x∈S.ah,x.2.length<=204/\(Tx.parse x.2).isSome=true)/\(∀x∈p,x.2.length<=204/\(Tx.parse x.2).isSome=true)/\Sp.fuel S p<=1000000
theorem Z5 {S:St} {p:M B} {k t:B} (h:Sp.find S p k=some t):(∃x∈p,x.2=t)\/∃x∈S.ah,x.2=t:=by
 unfold Sp.find at h;split at h
 ·rename_i u hu;obtain rfl:=Option.some.inj h;exact .inl ⟨(k,_),M.get_some hu,rfl⟩
 ·exact .inr ⟨(k,t),M.get_some h,rfl⟩
theorem vG {S:St} {p:M B} (h:AP S p) {k t:B} (hf:Sp.find S p k=some t):t.length<=204/\(Tx.parse t).isSome=true:=by
 rcases Z5 hf with ⟨x,hx,rfl⟩|⟨x,hx,rfl⟩
 ·exact h.2.1 x hx
 ·exact h.1 x hx
theorem zz {t:B} (h:t.length<=204):(bE t).length<=207/\∀x∈bE t,x.length=8:=by
 unfold bE;cases hp:Tx.parse t with
 |none=>simp
 |some o=>have:=BB hp;exact ⟨by simp only;omega,UN hp⟩
theorem Li {S:St} {p:M B} (h:AP S p) (k:B):(Sp.names S p k).length<=1000000/\∀x∈Sp.names S p k,x.length<=maxLen:=by
 unfold Sp.names;split
 ·rename_i t ht;have:=zz (vG h ht).1;exact ⟨by omega,λx hx=>by have:=this.2 x hx;unfold maxLen;omega⟩
 ·simp
theorem Wm (id:ByteArray) (g:Nat) (lb:Array Value) (w:World):Calls Tq.prog 86 #[.string id,.func (.func g) #[] lb] w λe w'=>e=.returned (.func (.func 132) #[] #[.pointer (some ⟨w.heap.size,0,none⟩),.pointer (some ⟨w.heap.size+1,0,none⟩)])/\w'=(w.alloc (.cells #[.string id] 9)).alloc (.cells #[.func (.func g) #[] lb] 103):=by go_enter Tq.func86,Tryz.ntmps86;go_wp2_with fail;go_ret;exact ⟨rfl,rfl⟩
theorem kT {fn:Func} {p:Tmp} (h:fn.results=#[.cell p 9]) (tmps:Array Value) (w:World) (a:Addr) (s:ByteArray) (hp:tmps.getD p undef=.pointer (some a)) (hc:w.cell? a=some (.string s)):(results fn tmps).run Tq.prog w=.ok (.string s) w:=by
 simp only [results,h];have hp':tmps[p]?.getD undef=.pointer (some a):=by simpa using hp
 simp [Sem.run_bind,Result.andThen,hp',hc,loadVar,asAddr,Tryz.isAgg9]
def ig (S:St) (p:M B) (k:B):Bool:=match Sp.find S p k with|some t=>Sp.fits S p t|none=>true
def wF (b6 b7 l D:Nat) (k:Nat):Prop:=k=b6\/k=b7\/k=l\/k=D
structure WJ (W0:World) (S:St) (p:M B) (b6 b7 l D:Nat) (rc:Loop) (pre:List B) (F:Nat->Prop) (W:World):Prop where
 Qo:F=wF b6 b7 l D
 aA:aj (wF b6 b7 l D) W0 W
 loop:W.heap[l]? =some (.loop rc)
 defs:W.heap[D]? =some (.deferred (some []))
 bad:aM W b7 #[.bool (!(pre.all (ig S p)))] 4 (0,0)
 res:aM W b6 #[.string ⟨#[]⟩] 9 (0,0)
 found:∀k∈pre,(Sp.find S p k).isSome=true
structure WX (W0:World) (S:St) (p:M B) (b6 b7 l D:Nat) (rc:Loop) (pre:List B) (W:World):Prop where
 aA:aj (wF b6 b7 l D) W0 W
 loop:W.heap[l]? =some (.loop {rc with state:=.done,pending:=some .ret})
 defs:W.heap[D]? =some (.deferred (some []))
 res:aM W b6 #[.string ⟨#[109,105,115,115,105,110,103]⟩] 9 (0,0)
 lost:∃k∈pre,(Sp.find S p k).isNone=true
theorem cK {T:Nat->Prop} {a b:World} (h:aj T a b) {l:Nat} (hl:T l\/a.heap.size<=l) (o:Obj):aj T a (b.putObj l o):=
 ⟨h.os,h.tape,h.output,by rw [World.putObj_size];exact h.size,λi hi hn=>(World.putObj_heap_other (λe=>by subst e;rcases hl with hl|hl;exact hn hl;omega)).trans (h.block i hi hn)⟩
theorem Sq (w:World) (st mo mr pb mw:Nat) (μ:Int) (S:St) (cv:Value) (p:M B) (cl:Bool) (id:ByteArray) (hS:qZ w st mo mr μ S) (hP:kK w pb mw cv p cl) (hid:id.size<=maxLen) (fT:AP S p):
 Calls Tq.prog 196 #[aG st,aG pb,.string id] w λe w'=>e=.returned (av (Sp.whole S p id.data.toList))/\Below w.heap.size w w':=by
 refine nA λcs=>?_;unfold aG;refine LV.enter Tq.func196 rfl ?_;simp only [Tryz.ntmps196,List.size_toArray,List.length_cons,List.length_nil,Nat.reduceAdd,Nat.reduceSub,Array.replicate_succ,Array.replicate_zero,List.push_toArray,List.append_toArray,List.nil_append,List.cons_append];have X:=z37 (p37 hS (p37 hP (p37 hid fT)));clear hS hP hid fT;refine LV.seq (LV.reg rfl λR hR=>?_);replace hR:=z37 hR;go_wp2_with fail;refine hR.out _ _ ?_;clear hR R;refine LV.seq (LV.reg rfl λR hR=>?_);replace hR:=z37 hR;go_wp2_with fail;refine hR.out _ _ ?_;clear hR R;have Wk:=z37 (λg lb W=>Wm id g lb W);refine LV.seq (LV.seq (LV.reg rfl λR hR=>?_));replace hR:=z37 hR;go_wp2_with fail;refine (Wk.out _ _ _).mono ?_;rintro e W1 ⟨rfl,rfl⟩;go_wp2_with fail;refine hR.out _ _ ?_;clear hR R Wk;refine LV.block ?_;refine LV.X7 rfl rfl (λargs w=>Tq.call132 args w) ?_;intro W0 rc r1 r2 r3 r4 r5 r6 r7 Aw;have RC:=z37 (p37 r1 (p37 r2 (p37 r3 (p37 r4 (p37 r5 (p37 r6 r7))))));clear r1 r2 r3 r4 r5 r6 r7;obtain ⟨n,hn⟩:∃n,n=w.heap.size:=⟨_,rfl⟩
 simp only [World.size_alloc,<-hn,Nat.add_assoc,Nat.reduceAdd] at Aw ⊢;have g3:aM W0 n #[.pointer (some ⟨st,0,none⟩)] 54 (0,0):=by unfold aM;rw [Aw];simp only [aO,World.size_alloc];repeat (first|rw [if_neg (by omega)]|rw [if_pos (by omega),hn]|rw [if_pos (by omega)])
 have g4:aM W0 (n+1) #[.pointer (some ⟨pb,0,none⟩)] 153 (0,0):=by unfold aM;rw [Aw];simp only [aO,World.size_alloc];repeat (first|rw [if_neg (by omega)]|rw [if_pos (by omega),hn]|rw [if_pos (by omega)])
 have g6:aM W0 (n+2) #[.string ⟨#[]⟩] 9 (0,0):=by unfold aM;rw [Aw];simp only [aO,World.size_alloc];repeat (first|rw [if_neg (by omega)]|rw [if_pos (by omega),hn]|rw [if_pos (by omega)])
 have g7:aM W0 (n+3) #[.bool false] 4 (0,0):=by unfold aM;rw [Aw];simp only [aO,World.size_alloc];repeat (first|rw [if_neg (by omega)]|rw [if_pos (by omega),hn]|rw [if_pos (by omega)])
 have g8:aM W0 (n+4) #[.string id] 9 (0,0):=by unfold aM;rw [Aw];simp only [aO,World.size_alloc];repeat (first|rw [if_neg (by omega)]|rw [if_pos (by omega),hn]|rw [if_pos (by omega)])
 have g9:aM W0 (n+5) #[.func (.func 232) #[] #[.pointer (some ⟨n,0,none⟩),.pointer (some ⟨n+1,0,none⟩)]] 103 (0,0):=by unfold aM;rw [Aw];simp only [aO,World.size_alloc];repeat (first|rw [if_neg (by omega)]|rw [if_pos (by omega),hn]|rw [if_pos (by omega)])
 have gD:W0.heap[n+6]? =some (.deferred (some [])):=by rw [Aw];simp only [aO,World.size_alloc];repeat (first|rw [if_neg (by omega)]|rw [if_pos (by omega)])
 have gl:W0.heap[n+7]? =some (.loop rc):=by rw [Aw];simp only [aO,World.size_alloc];repeat (first|rw [if_neg (by omega)]|rw [if_pos (by omega)])
 have gs:W0.heap.size=n+8:=by rw [Aw];simp only [World.size_alloc];omega
 have gB:Below n w W0:=by rw [Aw,hn];exact (((((((Below.refl _ w).alloc (Nat.le_refl _) _).alloc (by simp) _).alloc (by simp;omega) _).alloc (by simp;omega) _).alloc (by simp;omega) _).alloc (by simp;omega) _).alloc (by simp;omega) _ |>.alloc (by simp;omega) _
 clear Aw;obtain ⟨hS,hP,hid,fT⟩:=X.out;have fJ:∀{W:World},aj (wF (n+2) (n+3) (n+7) (n+6)) W0 W->Below n w W:=λh=>gB.trans (h.below (by omega) (λk hk=>by rcases hk with rfl|rfl|rfl|rfl<;>omega));have dN:∀{W:World},Below n w W->qZ W st mo mr μ S/\kK W pb mw cv p cl:=λh=>by
  have hc:aj (λ_=>False) w _:=aj.nK (hn▸h);exact ⟨hS.aA hc (Rx.Safe.none w) (λe=>e) (λe=>e) (λe=>e),hP.aA hc (Rx.Safe.none w) (λe=>e) (λe=>e)⟩
 simp only [List.append_toArray,List.cons_append,List.nil_append];have h0:WJ W0 S p (n+2) (n+3) (n+7) (n+6) rc [] (wF (n+2) (n+3) (n+7) (n+6)) W0:=⟨rfl,aj.refl _ _,gl,gD,g7,g6,λk hk=>by cases hk⟩
 refine Kc (l:=n+7) (g:=232) (lb:=#[.pointer (some ⟨n,0,none⟩),.pointer (some ⟨n+1,0,none⟩)]) (b1:=n+4) (b2:=n+5) (B0:=W0.heap.size) (N:=Sp.fuel S p) (id:=id.data.toList) (beh:=Sp.names S p)
  (J:=WJ W0 S p (n+2) (n+3) (n+7) (n+6) rc) (Jx:=λpre _ W=>WX W0 S p (n+2) (n+3) (n+7) (n+6) rc pre W) (F:=wF (n+2) (n+3) (n+7) (n+6)) ?who hid rfl h0 (λk hk=>by rw [gs];rcases hk with rfl|rfl|rfl|rfl<;>omega) (Ef S p id.data.toList) ?done ?stop
 case who=>
  refine ⟨?_,?_,λargs w=>Tq.call232 args w,?_,Li fT,?_,fT.2.2⟩
  ·intro pre F W W' T hJ hc hT;have hF:∀k,wF (n+2) (n+3) (n+7) (n+6) k->k<W.heap.size->¬T k:=λk hk aI e=>(hT k e aI).2 (by rw [hJ.Qo];exact hk);have aI:∀k,wF (n+2) (n+3) (n+7) (n+6) k->k<W.heap.size:=λk hk=>by have:=hJ.aA.size;rw [gs] at this;rcases hk with rfl|rfl|rfl|rfl<;>omega
   refine ⟨hJ.Qo,hJ.aA.trans' hc (λi hi e=>?_),?_,?_,hJ.bad.aA hc ?_,hJ.res.aA hc ?_,hJ.found⟩
   ·have:=(hT i e (by have:=hJ.aA.size;omega)).1;omega
   ·exact (hc.block _ (aI _ (.inr (.inr (.inl rfl)))) (hF _ (.inr (.inr (.inl rfl))) (aI _ (.inr (.inr (.inl rfl)))))).trans hJ.loop
   ·exact (hc.block _ (aI _ (.inr (.inr (.inr rfl)))) (hF _ (.inr (.inr (.inr rfl))) (aI _ (.inr (.inr (.inr rfl)))))).trans hJ.defs
   ·exact hF _ (.inr (.inl rfl)) (aI _ (.inr (.inl rfl)))
   ·exact hF _ (.inl rfl) (aI _ (.inl rfl))
  ·intro pre F W hJ;have n4:¬wF (n+2) (n+3) (n+7) (n+6) (n+4):=by rintro (e|e|e|e)<;>omega
   have n5:¬wF (n+2) (n+3) (n+7) (n+6) (n+5):=by rintro (e|e|e|e)<;>omega
   exact ⟨(g8.aA hJ.aA n4).at rfl,(g9.aA hJ.aA n5).at rfl,hJ.aA.size⟩
  ·intro pre F W k hJ hk;have n3:¬wF (n+2) (n+3) (n+7) (n+6) n:=by rintro (e|e|e|e)<;>omega
   have n4:¬wF (n+2) (n+3) (n+7) (n+6) (n+1):=by rintro (e|e|e|e)<;>omega
   obtain ⟨q1,q2⟩:=dN (fJ hJ.aA);exact (YB W n (n+1) st mo mr pb mw μ S cv p cl k q1 q2 hk ((g3.aA hJ.aA n3).at rfl) ((g4.aA hJ.aA n4).at rfl)).mono λe w' ⟨v,h1,h2,h3⟩=>⟨v,h1,Qm.of h2,h3⟩
  ·intro pre x F W fi hJ hp Mj go stop;obtain ⟨r1,r2,r3,r4,r5,r6,r7⟩:=RC.out;refine ⟨_,_,_,_,FJ hJ.loop r5,?_⟩;rw [r3,r4,r6,r7,round_eq];simp only [List.setIfInBounds_toArray,List.set_cons_succ,List.set_cons_zero,<-hn,Nat.add_assoc,Nat.reduceAdd];have hFe:=hJ.Qo;subst hFe;have aI:∀k,wF (n+2) (n+3) (n+7) (n+6) k->k<W.heap.size:=λk hk=>by have:=hJ.aA.size;rw [gs] at this;rcases hk with rfl|rfl|rfl|rfl<;>omega
   have Ep:aj (wF (n+2) (n+3) (n+7) (n+6)) W (W.putObj (n+7) (.loop {rc with state:=.busy})):=cK (aj.refl _ _) (.inl (.inr (.inr (.inl rfl)))) _;have zQ:=hJ.aA.trans Ep;have bl:(W.putObj (n+7) (.loop {rc with state:=.busy})).heap[n+7]? =some (.loop {rc with state:=.busy}):=by rw [aJ,if_pos ⟨rfl,aI _ (.inr (.inr (.inl rfl)))⟩]
   have bD:(W.putObj (n+7) (.loop {rc with state:=.busy})).heap[n+6]? =some (.deferred (some [])):=by rw [aJ,if_neg (by omega)];exact hJ.defs
   have bb:aM (W.putObj (n+7) (.loop {rc with state:=.busy})) (n+3) #[.bool (!(pre.all (ig S p)))] 4 (0,0):=by unfold aM;rw [aJ,if_neg (by omega)];exact hJ.bad
   have br:aM (W.putObj (n+7) (.loop {rc with state:=.busy})) (n+2) #[.string ⟨#[]⟩] 9 (0,0):=by unfold aM;rw [aJ,if_neg (by omega)];exact hJ.res
   have Au:=hJ.loop;refine LV.reg rfl λR hR=>?_;replace hR:=z37 hR;have Y:=z37 (p37 hJ (p37 go (p37 stop hp)));have Z:=z37 (p37 Ep (p37 zQ (p37 bl (p37 bD (p37 bb br)))));have V:=z37 (p37 r1 (p37 Au r2));have U:=z37 (p37 hS (p37 hP (p37 hid fT)));have T:=z37 (p37 (@fJ) (@dN));have Gx:=z37 (p37 g3 g4);clear hJ go stop hp Ep zQ bl bD bb br r1 r2 r3 r4 r5 r6 r7 Au h0 hS hP hid fT fJ dN g3 g4 g6 g7 g8 g9 gD gl aI gB X RC;replace hn:=z37 hn;go_wp2_with fail;refine hR.out _ _ ?_;clear hR R;refine LV.begin V.out.2.1 V.out.1 ?_;obtain ⟨Ep,zQ,bl,bD,bb,br⟩:=Z.out;generalize W.putObj (n+7) (.loop {rc with state:=.busy})=Wb at Ep zQ bl bD bb br ⊢;have n3:¬wF (n+2) (n+3) (n+7) (n+6) n:=by rintro (e|e|e|e)<;>omega
   have n4:¬wF (n+2) (n+3) (n+7) (n+6) (n+1):=by rintro (e|e|e|e)<;>omega
   have k3:Wb.cell? ⟨n,0,none⟩=some (.pointer (some ⟨st,0,none⟩)):=(Gx.out.1.aA zQ n3).at rfl;have k4:Wb.cell? ⟨n+1,0,none⟩=some (.pointer (some ⟨pb,0,none⟩)):=(Gx.out.2.aA zQ n4).at rfl;have DV:=T.out.2 (T.out.1 zQ);have Fi:=sP Wb st mo mr pb mw μ S cv p cl ⟨x.toArray⟩ DV.1 DV.2 Mj;replace Fi:=z37 Fi;clear Z n3 n4 DV;have Z:=z37 (p37 Ep (p37 zQ (p37 bl (p37 bD (p37 bb br)))));clear Ep zQ bl bD bb br;refine LV.block (LV.seq (LV.reg rfl λR hR=>?_));replace hR:=z37 hR;unfold aG at Fi;go_wp2_with fail;refine Fi.out.mono ?_;rintro e W2 ⟨⟨v,rfl,hv⟩,rfl⟩;go_wp2_with fail;refine hR.out _ _ ?_;clear hR R;cases hfx:Sp.find S p x with
   |none=>
    rw [hfx] at hv;obtain rfl:v=.nilIface:=hv;obtain ⟨Ep,zQ,bl,bD,bb,br⟩:=Z.out;have f6:=br.frozen (i:=0) (.inr (Nat.le_refl _));have k6:W2.cell? ⟨n+2,0,none⟩=some (.string ⟨#[]⟩):=br.at rfl;have hWX:∀W',W'=W2.setCell ⟨n+2,0,none⟩ (.string ⟨#[109,105,115,115,105,110,103]⟩)->WX W0 S p (n+2) (n+3) (n+7) (n+6) rc (pre++[x]) (W'.putObj (n+7) (.loop {rc with state:=.done,pending:=some .ret}))/\W'.heap[n+7]? =some (.loop {rc with state:=.busy}):=by
     rintro W' rfl;have NQ:aj (wF (n+2) (n+3) (n+7) (n+6)) W0 (W2.setCell ⟨n+2,0,none⟩ (.string ⟨#[109,105,115,115,105,110,103]⟩)):=zQ.setCell (p:=⟨n+2,0,none⟩) (.inl (.inl rfl)) _;have l2:(W2.setCell ⟨n+2,0,none⟩ (.string ⟨#[109,105,115,115,105,110,103]⟩)).heap[n+7]? =some (.loop {rc with state:=.busy}):=(Below.heap_setCell _ ⟨n+2,0,none⟩ _ _ (by simp)).trans bl;have U2:n+7<(W2.setCell ⟨n+2,0,none⟩ (.string ⟨#[109,105,115,115,105,110,103]⟩)).heap.size:=lt_of_block l2;refine ⟨⟨cK NQ (.inl (.inr (.inr (.inl rfl)))) _,by rw [aJ,if_pos ⟨rfl,U2⟩],?_,?_,x,by simp,by rw [hfx];rfl⟩,l2⟩
     ·rw [aJ,if_neg (by omega)];exact (Below.heap_setCell _ ⟨n+2,0,none⟩ _ _ (by simp)).trans bD
     ·unfold aM;rw [aJ,if_neg (by omega)];exact aM.set br 0 _
    have hWX:=z37 hWX;clear Ep zQ bl bD bb br hfx Fi;refine LV.seq (LV.seq (LV.reg rfl λR hR=>?_));replace hR:=z37 hR;go_wp2_with fail;refine hR.out _ _ ?_;clear hR R;refine LV.cond rfl (LV.seq (LV.reg rfl λR hR=>?_));replace hR:=z37 hR;go_wp2_with fail;refine hR.out _ _ ?_;obtain ⟨z1,z2⟩:=hWX.out _ rfl;exact LV.KY z2 (Y.out.2.2.1 (λ_=>False) _ z1)
   |some t=>
    rw [hfx] at hv;have hts:=vG U.out.2.2.2 hfx;have aKO:=zz hts.1;have NJ:=hv;obtain ⟨o,ob,nn,h1,rfl,h3,h4,h5⟩:=hv;have N:=z37 (λ(Wx:World) (hx:nE Wx ob (blT o.kind) (av t) nn) (hr:Wx.ownsRow 0 9 1 nn o.ids.length (o.ids.map av))=>zm Wx t o ob nn h1 hx hr (by have:=BB h1;omega));have N1:=z37 (N.out W2 h3 h4);have O:=z37 (p37 h1 (p37 NJ (p37 hfx (p37 hts aKO))));have mN:=YI;clear h1 h3 h4 h5 NJ hfx hts aKO N Fi;refine LV.seq (LV.seq (LV.reg rfl λR hR=>?_));replace hR:=z37 hR;unfold aG;go_wp2_with fail;refine hR.out _ _ ?_;clear hR R;refine LV.cond rfl (LV.skip (LV.seq (LV.reg rfl λR hR=>?_)));replace hR:=z37 hR;go_wp2_with fail;refine hR.out _ _ ?_;clear hR R;refine LV.seq (LV.seq (LV.reg rfl λR hR=>?_));replace hR:=z37 hR;go_wp2_with fail;refine N1.out.mono ?_;rintro e W3 ⟨v',rfl,ay,jE⟩;obtain ⟨pv,qE,rfl,-⟩:=Lo.fZ ay;have R3:=z37 (p37 ay jE);clear ay jE;go_wp2_with fail;refine hR.out _ _ ?_;clear hR R N1 mN;obtain ⟨ay,jE⟩:=R3.out;refine LV.block ?_;refine LV.while (m:=(bE t).length) (λm w' a=>∃(i:Nat) (nv:Value) (vs:List Value) (x5 x8 x11 x12 x13 x14 x15 x16 x17 x18 x19 x20 x21 x22 x23 x24 x25 x29 x30 x31 x32 x33 x34 x35 x36 x37 x38 x39 x40 x41 x42 x43 x44 x45 x46 x47 x48 x49 x50 x51 x52 x53 x54 x55 x56 x57 x58 x59:Value),a={tmps:=#[.pointer (some ⟨st,0,none⟩),.pointer (some ⟨pb,0,none⟩),.string id,.pointer (some ⟨n,0,none⟩),.pointer (some ⟨n+1,0,none⟩),x5,.pointer (some ⟨n+2,0,none⟩),.pointer (some ⟨n+3,0,none⟩),x8,.iface (ED o.kind) (.pointer (some ⟨ob,0,none⟩)),nv,x11,x12,x13,x14,x15,x16,x17,x18,x19,x20,x21,x22,x23,x24,x25,.slice pv (bE t).length qE,.int .i64 ((bE t).length:Nat),.int .i64 (i:Nat),x29,x30,x31,x32,x33,x34,x35,x36,x37,x38,x39,x40,x41,x42,x43,x44,x45,x46,x47,x48,x49,x50,x51,x52,x53,x54,x55,x56,x57,x58,x59],defers:=[]}/\m=(bE t).length - i/\i<=(bE t).length/\Below W2.heap.size W2 w'/\(∃B1,w'.ownsRow B1 9 1 (.slice pv (bE t).length qE) (bE t).length ((bE t).map av))/\w'.ownsRow W2.heap.size 106 1 nv i vs/\wN (OV w') (((bE t).take i).map (Sp.find S p)) vs)
     ⟨0,.slice none 0 0,[],_,_,_,_,_,_,_,_,_,_,_,_,_,_,_,_,_,_,_,_,_,_,_,_,_,_,_,_,_,_,_,_,_,_,_,_,_,_,_,_,_,_,_,_,_,_,_,_,rfl,rfl,Nat.zero_le _,jE,⟨_,ay⟩,World.ownsRow_nil _ _ _ _,.nil⟩ ?_
    clear ay jE R3;rintro m w' a ⟨i,nv,vs,x5,x8,x11,x12,x13,x14,x15,x16,x17,x18,x19,x20,x21,x22,x23,x24,x25,x29,x30,x31,x32,x33,x34,x35,x36,x37,x38,x39,x40,x41,x42,x43,x44,x45,x46,x47,x48,x49,x50,x51,x52,x53,x54,x55,x56,x57,x58,x59,rfl,rfl,hle,G6,⟨B1,ay⟩,hnv,EE⟩ IH;replace IH:=z37 IH;by_cases aI:i<(bE t).length
    ·obtain ⟨q,hq⟩:∃q,(bE t)[i]? =some q:=⟨_,List.getElem?_eq_getElem aI⟩
     obtain ⟨pa,aQp,e,cz⟩:=IK ay hq;injection e with e1 e2 e3;subst e1 e3;replace cz:w'.cell? (pa.add i)=some (.string ⟨q.toArray⟩):=cz;have hq8:=O.out.2.2.2.2.2 q (List.mem_of_getElem? hq);have aCU:n+8<=W2.heap.size:=by have:=Z.out.2.1.size;omega
     have k3':=(aj.nK G6).bB k3 (λe=>e);have k4':=(aj.nK G6).bB k4 (λe=>e);have cw:aj (wF (n+2) (n+3) (n+7) (n+6)) W0 w':=Z.out.2.1.trans ((aj.nK G6).mono (λ_ _ e=>e.elim));have DV:=T.out.2 (T.out.1 cw);have Fi:=sP w' st mo mr pb mw μ S cv p cl ⟨q.toArray⟩ DV.1 DV.2 (by show q.length<=maxLen;rw [hq8];decide);replace Fi:=z37 Fi;have i6:i<300:=by have:=O.out.2.2.2.2.1;omega
     have uI:((bE t).take (i+1)).map (Sp.find S p)=((bE t).take i).map (Sp.find S p)++[Sp.find S p q]:=by rw [List.take_add_one,hq,List.map_append];rfl
     obtain ⟨i1,VQ,uw,wQ,wP⟩:=info_parts aDN;have E:=z37 (p37 G6 (p37 (⟨B1,ay⟩:∃B1,w'.ownsRow B1 9 1 (.slice (some pa) (bE t).length qE) (bE t).length ((bE t).map av)) (p37 EE (p37 uI aCU))));have qw:((i:Int)<((bE t).length:Int))=True:=eq_true (by omega);have MB:=z37 hnv;clear G6 ay EE cw DV k3 k4 hq uI aCU hq8 hnv;refine LV.seq (LV.reg rfl λR hR=>?_);replace hR:=z37 hR;go_wp2_with fail;refine hR.out _ _ ?_;clear hR R;refine LV.seq (LV.cond rfl (LV.skip (LV.seq (LV.block (LV.seq (LV.reg rfl λR hR=>?_))))));replace hR:=z37 hR;go_wp2_with fail;refine hR.out _ _ ?_;clear hR R;refine LV.reg rfl λR hR=>?_;replace hR:=z37 hR;unfold aG at Fi;go_wp2_with fail;refine Fi.out.mono ?_;rintro e W4 ⟨⟨fv,rfl,hfv⟩,rfl⟩;have aKS:(∃k a,fv=.iface k (.pointer a))\/fv=.nilIface:=by
      rcases pE hfv with ⟨h,_⟩|⟨_,b,k,h,_⟩
      ·exact .inr h
      ·exact .inl ⟨_,_,h⟩
     have MK:=z37 hfv;clear hfv;rcases aKS with ⟨tk,ta,rfl⟩|rfl
     ·have hz':=E.out.1.size;go_wp2_with (at_builtin;refine wpList_append_own _ rfl (.tmp 32) (.tmp 37) 95 rfl W2.heap.size 106 i1 .nilIface 1 16 ((Tq.underlying 95).trans Tryz.underlying95) VQ uw wQ wP rfl (by decide) nv i vs rfl (MB.out.alloc _) ⟨W4.heap.size,0,none⟩ 1 1 [.iface tk (.pointer ta)] rfl rfl (cell_one_new _ _ _) (by intro u hu;obtain rfl:=List.mem_singleton.1 hu;rfl) (by unfold maxLen;omega) (by omega) (by rw [World.size_alloc];omega) ?_;intro nv' w5 pK aX sH;have F5:=z37 (p37 pK aX);clear pK aX sH);refine hR.out _ _ ?_;clear hR R;refine LV.inBlock (LV.reg rfl λR hR=>?_);replace hR:=z37 hR;go_wp2_with fail;refine hR.out _ _ ?_;obtain ⟨G6,⟨B1,ay⟩,EE,uI,aCU⟩:=E.out;obtain ⟨pK,aX⟩:=F5.out;have hl:∀k,nv.ownBlock=some k->W2.heap.size<=k:=λk hk=>(MB.out.lt k hk).1;have U9:Below W2.heap.size W2 w5:=(G6.alloc hz' _).grown aX (by rw [World.size_alloc];omega) (λk hk=>hl k hk);have c45:aj (λk=>nv.ownBlock=some k) W4 w5:=((aj.refl (λk=>nv.ownBlock=some k) W4).alloc _).grown aX (λk hk=>.inl hk);refine IH.out ((bE t).length - (i+1)) _ _ (by omega) ⟨i+1,nv',vs++[.iface tk (.pointer ta)],_,_,_,_,_,_,_,_,_,_,_,_,_,_,_,_,_,_,_,_,_,_,_,_,_,_,_,_,_,_,_,_,_,_,_,_,_,_,_,_,_,_,_,_,_,_,_,_,rfl,rfl,by omega,U9,⟨B1,c45.ownsRow ay (λk hk e=>?_)⟩,pK,?_⟩
      ·obtain ⟨c1,d1⟩:=bq ay hk;obtain ⟨c2,d2⟩:=bq MB.out e;rw [d1] at d2;cases d2
      ·rw [uI];have ru:Rx.Safe W4 (λk=>nv.ownBlock=some k):=λk cur T fz hk hb=>by
        obtain ⟨c2,d2⟩:=bq MB.out hk;rw [d2] at hb;injection hb with hb;injection hb with _ hb _;subst hb;decide
       exact (EE.mono λa b _ hab=>OV.aA hab c45 ru).snoc (OV.aA MK.out c45 ru)
     ·have hz':=E.out.1.size;go_wp2_with (at_builtin;refine wpList_append_own _ rfl (.tmp 32) (.tmp 37) 95 rfl W2.heap.size 106 i1 .nilIface 1 16 ((Tq.underlying 95).trans Tryz.underlying95) VQ uw wQ wP rfl (by decide) nv i vs rfl (MB.out.alloc _) ⟨W4.heap.size,0,none⟩ 1 1 [.nilIface] rfl rfl (cell_one_new _ _ _) (by intro u hu;obtain rfl:=List.mem_singleton.1 hu;rfl) (by unfold maxLen;omega) (by omega) (by rw [World.size_alloc];omega) ?_;intro nv' w5 pK aX sH;have F5:=z37 (p37 pK aX);clear pK aX sH);refine hR.out _ _ ?_;clear hR R;refine LV.inBlock (LV.reg rfl λR hR=>?_);replace hR:=z37 hR;go_wp2_with fail;refine hR.out _ _ ?_;obtain ⟨G6,⟨B1,ay⟩,EE,uI,aCU⟩:=E.out;obtain ⟨pK,aX⟩:=F5.out;have hl:∀k,nv.ownBlock=some k->W2.heap.size<=k:=λk hk=>(MB.out.lt k hk).1;have U9:Below W2.heap.size W2 w5:=(G6.alloc hz' _).grown aX (by rw [World.size_alloc];omega) (λk hk=>hl k hk);have c45:aj (λk=>nv.ownBlock=some k) W4 w5:=((aj.refl (λk=>nv.ownBlock=some k) W4).alloc _).grown aX (λk hk=>.inl hk);refine IH.out ((bE t).length - (i+1)) _ _ (by omega) ⟨i+1,nv',vs++[.nilIface],_,_,_,_,_,_,_,_,_,_,_,_,_,_,_,_,_,_,_,_,_,_,_,_,_,_,_,_,_,_,_,_,_,_,_,_,_,_,_,_,_,_,_,_,_,_,_,_,rfl,rfl,by omega,U9,⟨B1,c45.ownsRow ay (λk hk e=>?_)⟩,pK,?_⟩
      ·obtain ⟨c1,d1⟩:=bq ay hk;obtain ⟨c2,d2⟩:=bq MB.out e;rw [d1] at d2;cases d2
      ·rw [uI];have ru:Rx.Safe W4 (λk=>nv.ownBlock=some k):=λk cur T fz hk hb=>by
        obtain ⟨c2,d2⟩:=bq MB.out hk;rw [d2] at hb;injection hb with hb;injection hb with _ hb _;subst hb;decide
       exact (EE.mono λa b _ hab=>OV.aA hab c45 ru).snoc (OV.aA MK.out c45 ru)
    ·obtain rfl:i=(bE t).length:=by omega
     have qw:(((bE t).length:Int)<((bE t).length:Int))=False:=eq_false (by omega);have cB:=aj.nK G6;obtain ⟨Ep,zQ,bl,bD,bb,br⟩:=Z.out;have cw0:aj (wF (n+2) (n+3) (n+7) (n+6)) W w':=Ep.trans (cB.mono (λ_ _ e=>e.elim));have cw1:aj (wF (n+2) (n+3) (n+7) (n+6)) W0 w':=zQ.trans (cB.mono (λ_ _ e=>e.elim));have bb':=bb.aA cB (λe=>e);have k7:w'.cell? ⟨n+3,0,none⟩=some (.bool (!(pre.all (ig S p)))):=bb'.at rfl;have f7:=bb'.frozen (i:=0) (.inr (Nat.le_refl _));have Zo:kindOf t=o.kind:=(lS O.out.1).2;have hos:((bE t).map (Sp.find S p)).length=(bE t).length:=List.length_map _;have ht2:(bE t).take (bE t).length=bE t:=List.take_length;rw [ht2] at EE;have Ft:=Z4 w' t o.kind ob nv ((bE t).map (Sp.find S p)) vs W2.heap.size (qj O.out.1) Zo (by rw [hos];exact hnv) EE (by rw [hos];have:=O.out.2.2.2.2.1;omega);replace Ft:=z37 Ft;have fin:∀w5,w5=w'.setCell ⟨n+3,0,none⟩ (.bool (!((pre++[x]).all (ig S p))))->(∃Wz,Wz=w5.putObj (n+7) (.loop {{rc with state:=.busy} with state:=.ready,pending:=none})/\WJ W0 S p (n+2) (n+3) (n+7) (n+6) rc (pre++[x]) (wF (n+2) (n+3) (n+7) (n+6)) Wz/\aj (wF (n+2) (n+3) (n+7) (n+6)) W Wz/\∀k,wF (n+2) (n+3) (n+7) (n+6) k->(wF (n+2) (n+3) (n+7) (n+6) k\/W.heap.size<=k)/\k<Wz.heap.size)/\w5.heap[n+7]? =some (.loop {rc with state:=.busy}):=by
      rintro w5 rfl;have c5:aj (wF (n+2) (n+3) (n+7) (n+6)) W0 (w'.setCell ⟨n+3,0,none⟩ (.bool (!((pre++[x]).all (ig S p))))):=cw1.setCell (p:=⟨n+3,0,none⟩) (.inl (.inr (.inl rfl))) _;have c50:aj (wF (n+2) (n+3) (n+7) (n+6)) W (w'.setCell ⟨n+3,0,none⟩ (.bool (!((pre++[x]).all (ig S p))))):=cw0.setCell (p:=⟨n+3,0,none⟩) (.inl (.inr (.inl rfl))) _;have bl5:(w'.setCell ⟨n+3,0,none⟩ (.bool (!((pre++[x]).all (ig S p))))).heap[n+7]? =some (.loop {rc with state:=.busy}):=(Below.heap_setCell _ ⟨n+3,0,none⟩ _ _ (by simp)).trans ((cB.block _ (lt_of_block bl) (λe=>e)).trans bl);have bD5:(w'.setCell ⟨n+3,0,none⟩ (.bool (!((pre++[x]).all (ig S p))))).heap[n+6]? =some (.deferred (some [])):=(Below.heap_setCell _ ⟨n+3,0,none⟩ _ _ (by simp)).trans ((cB.block _ (lt_of_block bD) (λe=>e)).trans bD);have bb5:aM (w'.setCell ⟨n+3,0,none⟩ (.bool (!((pre++[x]).all (ig S p))))) (n+3) #[.bool (!((pre++[x]).all (ig S p)))] 4 (0,0):=aM.set bb' 0 _;have br5:aM (w'.setCell ⟨n+3,0,none⟩ (.bool (!((pre++[x]).all (ig S p))))) (n+2) #[.string ⟨#[]⟩] 9 (0,0):=aM.other (br.aA cB (λe=>e)) (by simp) _;have hrc:({{rc with state:=.busy} with state:=.ready,pending:=none}:Loop)=rc:=by have h1:=V.out.1;have h2:=V.out.2.2;cases rc;simp only at h1 h2;subst h1 h2;rfl
      have U2:n+7<(w'.setCell ⟨n+3,0,none⟩ (.bool (!((pre++[x]).all (ig S p))))).heap.size:=lt_of_block bl5;refine ⟨⟨_,rfl,⟨rfl,cK c5 (.inl (.inr (.inr (.inl rfl)))) _,by rw [aJ,if_pos ⟨rfl,U2⟩,hrc],?_,?_,?_,λk hk=>?_⟩,cK c50 (.inl (.inr (.inr (.inl rfl)))) _,λk hk=>⟨.inl hk,?_⟩⟩,bl5⟩
      ·rw [aJ,if_neg (by omega)];exact bD5
      ·unfold aM;rw [aJ,if_neg (by omega)];exact bb5
      ·unfold aM;rw [aJ,if_neg (by omega)];exact br5
      ·rcases List.mem_append.1 hk with hk|hk
       ·exact Y.out.1.found k hk
       ·obtain rfl:=List.mem_singleton.1 hk;rw [O.out.2.2.1];rfl
      ·rw [World.putObj_size];have:=c5.size;rw [gs] at this;rcases hk with rfl|rfl|rfl|rfl<;>omega
     replace fin:=z37 fin;have hfx:=O.out.2.2.1;have jb:(pre++[x]).all (ig S p)=(pre.all (ig S p)&&Sp.fits S p t):=by rw [List.all_append];simp [ig,hfx]
     have hft:Sp.fits S p t=vo (kindOf t) 0 ((bE t).map (Sp.find S p)):=rfl;have HA:=z37 (p37 jb hft);clear Ep zQ bl bD bb br cw0 cw1 bb' Zo hos ht2 EE hnv ay G6 cB jb hft hfx IH k3 k4;refine LV.seq (LV.reg rfl λR hR=>?_);replace hR:=z37 hR;go_wp2_with fail;refine hR.out _ _ ?_;clear hR R;refine LV.seq (LV.cond rfl (LV.exit rfl (LV.reg rfl λR hR=>?_)));replace hR:=z37 hR;cases hpa:pre.all (ig S p) with
     |true=>rw [hpa] at k7;replace k7:w'.cell? ⟨n+3,0,none⟩=some (.bool false):=k7;go_wp2_with fail;refine Ft.out.mono ?_;rintro e W6 ⟨rfl,rfl⟩;go_wp2_with fail;refine hR.out _ _ ?_;obtain ⟨⟨_,rfl,z1,z2,z3⟩,q2⟩:=fin.out _ (by rw [HA.out.1,hpa,Bool.true_and,HA.out.2]);exact LV.inBlock (LV.Db q2 (Y.out.2.1 _ _ z1 z2 z3))
     |false=>rw [hpa] at k7;replace k7:w'.cell? ⟨n+3,0,none⟩=some (.bool true):=k7;go_wp2_with fail;refine hR.out _ _ ?_;obtain ⟨⟨_,rfl,z1,z2,z3⟩,q2⟩:=fin.out _ (by rw [HA.out.1,hpa,Bool.false_and]);exact LV.inBlock (LV.Db q2 (Y.out.2.1 _ _ z1 z2 z3))
 case stop=>
  rintro pre F' W' hp ⟨c,l1,d1,r1,k,hk,hkn⟩;refine LV.IP l1 (by simp) ?_;have U2:n+7<W'.heap.size:=lt_of_block l1;refine LV.ret rfl (LV.Ia (D:=n+6) rfl rfl (by rw [aJ,if_neg (by omega)];exact d1) ?_);have rr:aM ((W'.putObj (n+7) (.loop {{rc with state:=.done,pending:=some .ret} with state:=.exhausted})).putObj (n+6) (.deferred none)) (n+2) #[.string ⟨#[109,105,115,115,105,110,103]⟩] 9 (0,0):=by unfold aM;rw [aJ,if_neg (by omega),aJ,if_neg (by omega)];exact r1
  have hw:Sp.whole S p id.data.toList=rA:=by unfold Sp.whole;rw [if_pos];exact List.any_eq_true.2 ⟨k,hp.subset hk,hkn⟩
  refine LV.left (v:=.string ⟨#[109,105,115,115,105,110,103]⟩) rfl rfl rfl rfl Tq.func196 ?_ ⟨by rw [hw];rfl,?_⟩
  ·exact kT rfl _ _ ⟨n+2,0,none⟩ _ rfl (rr.at rfl)
  ·exact fJ (cK (cK c (.inl (.inr (.inr (.inl rfl)))) _) (.inl (.inr (.inr (.inr rfl)))) _)
 case done=>
  rintro F' W' hJ;refine LV.IP hJ.loop (by rw [RC.out.1];simp) ?_;rw [RC.out.2.1];simp only [Option.map_none,Option.toList_none,List.nil_append];refine LV.inBlock ?_;have U2:n+7<W'.heap.size:=lt_of_block hJ.loop;have cd:aj (wF (n+2) (n+3) (n+7) (n+6)) W0 (W'.putObj (n+7) (.loop {rc with state:=.exhausted,pending:=none})):=cK hJ.aA (.inl (.inr (.inr (.inl rfl)))) _;have dD:(W'.putObj (n+7) (.loop {rc with state:=.exhausted,pending:=none})).heap[n+6]? =some (.deferred (some [])):=by rw [aJ,if_neg (by omega)];exact hJ.defs
  have db:aM (W'.putObj (n+7) (.loop {rc with state:=.exhausted,pending:=none})) (n+3) #[.bool (!((Sp.reach S p id.data.toList).all (ig S p)))] 4 (0,0):=by unfold aM;rw [aJ,if_neg (by omega)];exact hJ.bad
  have dr:aM (W'.putObj (n+7) (.loop {rc with state:=.exhausted,pending:=none})) (n+2) #[.string ⟨#[]⟩] 9 (0,0):=by unfold aM;rw [aJ,if_neg (by omega)];exact hJ.res
  have Zw:=hJ.found;generalize W'.putObj (n+7) (.loop {rc with state:=.exhausted,pending:=none})=Wd at cd dD db dr ⊢;have n3:¬wF (n+2) (n+3) (n+7) (n+6) n:=by rintro (e|e|e|e)<;>omega
  have n4:¬wF (n+2) (n+3) (n+7) (n+6) (n+1):=by rintro (e|e|e|e)<;>omega
  have k3:Wd.cell? ⟨n,0,none⟩=some (.pointer (some ⟨st,0,none⟩)):=(g3.aA cd n3).at rfl;have k4:Wd.cell? ⟨n+1,0,none⟩=some (.pointer (some ⟨pb,0,none⟩)):=(g4.aA cd n4).at rfl;have k7:Wd.cell? ⟨n+3,0,none⟩=some (.bool (!((Sp.reach S p id.data.toList).all (ig S p)))):=db.at rfl;have k6:Wd.cell? ⟨n+2,0,none⟩=some (.string ⟨#[]⟩):=dr.at rfl;have f6:=dr.frozen (i:=0) (.inr (Nat.le_refl _));have hbd:=fJ cd;have DV:=dN hbd;have Fi:=sP Wd st mo mr pb mw μ S cv p cl id DV.1 DV.2 hid;replace Fi:=z37 Fi;have iw:¬((Sp.reach S p id.data.toList).any λk=>(Sp.find S p k).isNone)=true:=λe=>by
   obtain ⟨k,hk,hkn⟩:=List.any_eq_true.1 e;have:=Zw k hk;cases hh:Sp.find S p k with
   |none=>rw [hh] at this;cases this
   |some _=>rw [hh] at hkn;cases hkn
  have hw:Sp.whole S p id.data.toList=if (Sp.reach S p id.data.toList).all (ig S p)&&cB (Sp.find S p id.data.toList) then [] else FL:=by unfold Sp.whole;rw [if_neg iw];rfl
  have fin:∀(s:B) (W5:World) (tm:Array Value) (td:List Item),(W5=Wd.setCell ⟨n+2,0,none⟩ (.string ⟨s.toArray⟩))->tm.getD 6 undef=.pointer (some ⟨n+2,0,none⟩)->Sp.whole S p id.data.toList=s->
   LV Tq.prog (Lv.Left Tq.prog 196 cs λe w'=>e=Ending.returned (av (whole S p id.data.toList))/\Below n w w') W5 {(fb 196).atR {tmps:=tm,defers:=[{target:=.collected (n+6),args:=#[]}]} td with mode:=.returning} cs:=by
   rintro s W5 tm td rfl htm hws;have hD6:(Wd.setCell ⟨n+2,0,none⟩ (.string ⟨s.toArray⟩)).heap[n+6]? =some (.deferred (some [])):=(Below.heap_setCell _ ⟨n+2,0,none⟩ _ _ (by simp)).trans dD;refine LV.Ia (D:=n+6) rfl rfl hD6 ?_;have rr:aM ((Wd.setCell ⟨n+2,0,none⟩ (.string ⟨s.toArray⟩)).putObj (n+6) (.deferred none)) (n+2) #[.string ⟨s.toArray⟩] 9 (0,0):=by unfold aM;rw [aJ,if_neg (by omega)];exact aM.set dr 0 _
   refine LV.left (v:=.string ⟨s.toArray⟩) rfl rfl rfl rfl Tq.func196 ?_ ⟨by rw [hws];rfl,?_⟩
   ·exact kT rfl _ _ ⟨n+2,0,none⟩ _ htm (rr.at rfl)
   ·exact fJ (cK (cd.setCell (p:=⟨n+2,0,none⟩) (.inl (.inl rfl)) _) (.inl (.inr (.inr (.inr rfl)))) _)
  replace fin:=z37 fin;have HW:=z37 hw;replace hn:=z37 hn;clear iw Zw cd dD db dr hJ hbd DV n3 n4 fJ dN hS hP hid fT h0 g3 g4 g6 g7 g8 g9 gD gl gs gB X RC U2 hw;unfold aG at Fi;refine LV.seq (LV.seq (LV.reg rfl λR hR=>?_));replace hR:=z37 hR;go_wp2_with fail;refine Fi.out.mono ?_;rintro e W6 ⟨⟨v,rfl,GV⟩,rfl⟩;have aC:=(OV.ji GV W6).choose_spec;generalize (OV.ji GV W6).choose=qC at aC;clear GV Fi;go_wp2_with fail;refine hR.out _ _ ?_;clear hR R;refine LV.seq (LV.reg rfl λR hR=>?_);replace hR:=z37 hR;cases hba:(Sp.reach S p id.data.toList).all (ig S p)<;>cases MR:cB (Sp.find S p id.data.toList)
  all_goals
   rw [hba] at k7;have hw:=HW.out;rw [hba,MR] at hw;have hw:=z37 hw;simp only [Bool.not_true,Bool.not_false] at k7;go_wp2_with fail;refine hR.out _ _ ?_
   first
    |(refine LV.cond (t:=true) rfl (LV.seq (LV.reg rfl λR hR=>?_))
      replace hR:=z37 hR;go_wp2_with fail;refine hR.out _ _ (LV.ret rfl ?_);exact fin.out FL _ _ _ rfl rfl (by rw [hw.out];rfl))
    |(refine LV.cond (t:=false) rfl (LV.skip (LV.seq (LV.reg rfl λR hR=>?_)))
      replace hR:=z37 hR;go_wp2_with fail;refine hR.out _ _ (LV.ret rfl ?_);exact fin.out [] _ _ _ rfl rfl (by rw [hw.out];rfl))
end De
namespace De
open Tx Sp Wg Rd Bk Wi Se Rx Mp Lv Qu
theorem Xh {w:World} {B1 n g cap:Nat} {x:B} {l:List B} (h:w.ownsRow B1 9 1 (.slice (some ⟨g,0,none⟩) n cap) (x::l).length ((x::l).map av)):n=l.length+1/\1<=cap/\Qm w B1 (.slice (if cap - 1=0 then some ⟨g,0,none⟩ else some ⟨g,1,none⟩) l.length (cap - 1)) l:=by
 obtain ⟨hl,hc⟩:=h;rcases hc with ⟨e,_⟩|⟨g',fM,cur,e,h1,h2,h3,h4,h5,h6⟩
 ·cases e
 ·injection e with e1 e2 e3;injection e1 with e1;injection e1 with e1 _;subst e1 e2 e3;simp only [List.length_cons] at h3 h6;refine ⟨rfl,by omega,?_⟩;have iX:∀i y,l[i]? =some y->cur[1+i]? =some (av y):=λi y hy=>by
   have hi:((x::l).map av)[i+1]? =some (av y):=by rw [List.map_cons,List.getElem?_cons_succ,List.getElem?_map,hy];rfl
   rw [<-h6,Nat.mul_one,List.getElem?_take] at hi;split at hi
   ·rw [Nat.add_comm,<-Array.getElem?_toList];exact hi
   ·cases hi
  by_cases h0:cap - 1=0
  ·rw [if_pos h0];have hn:l=[]:=List.eq_nil_of_length_eq_zero (by omega);subst hn;exact ⟨_,cap - 1,rfl,λk hk=>by simp only [Value.ownBlock,Option.some.injEq] at hk;subst hk;exact ⟨h1,lt_of_block h2⟩,λi y hy=>by simp at hy⟩
  ·rw [if_neg h0];exact ⟨_,cap - 1,rfl,λk hk=>by simp only [Value.ownBlock,Option.some.injEq] at hk;subst hk;exact ⟨h1,lt_of_block h2⟩,λi y hy=>⟨g,1,cur,rfl,h2,iX i y hy⟩⟩
theorem Lb (w:World) (st mo mr pb mw:Nat) (μ:Int) (S:St) (cv:Value) (p:M B) (cl:Bool) (k:ByteArray) (hS:qZ w st mo mr μ S) (hP:kK w pb mw cv p cl) (hk:k.size<=maxLen):
 Calls Tq.prog 198 #[aG st,aG pb,.string k] w λe w'=>∃v,e=.returned v/\Qm w' w.heap.size v (Sp.parents S p k.data.toList)/\Below w.heap.size w w':=by
 have Fi:=z37 (sP w st mo mr pb mw μ S cv p cl k hS hP hk);have hn:Sp.parents S p k.data.toList=match Sp.find S p k.data.toList with|some t=>if ek t then (bE t).drop 1 else []|none=>[]:=rfl
 rw [hn];generalize Sp.find S p k.data.toList=fo at Fi ⊢;generalize hpo:(match fo with|some t=>if ek t then (bE t).drop 1 else []|none=>[])=po;replace hpo:=z37 hpo;clear hS hP hk hn;unfold aG at Fi ⊢;go_enter Tq.func198,Tryz.ntmps198;go_wp2_with fail;refine Fi.out.mono ?_;rintro e w' ⟨⟨v,rfl,hv⟩,rfl⟩;have sH:Qm w' w'.heap.size (.slice none 0 0) []:=⟨none,0,rfl,λk hk=>by simp [Value.ownBlock] at hk,λi x hx=>by simp at hx⟩
 cases fo with
 |none=>obtain rfl:v=.nilIface:=hv;obtain rfl:[]=po:=hpo.out;have t0:=HV w';have H:=z37 sH;clear sH;go_wp2_with fail;go_ret;exact ⟨_,rfl,H.out,Below.refl _ _⟩
 |some t=>
  have hf:=Ob.Bl hv;obtain ⟨o,b,n,h1,rfl,h3,h4,h5⟩:=hv;rw [(lS h1).1] at hf;have N:=z37 (zm w' t o b n h1 h3 h4 (by omega));have Zo:ek t=(o.kind==99):=by unfold ek;rw [(lS h1).2]
  have hid:=λ(hc:ek t=true)=>P6 hc;clear h3 h4 h5;unfold aG;have tC:=tJ o.kind (qj h1) ⟨b,0,none⟩ w';by_cases h99:o.kind=99
  ·have hc:ek t=true:=by rw [Zo,h99];rfl
   obtain ⟨x,r,hx,_⟩:=hid hc;have UX:=hpo.out;simp only [hc,if_true] at UX;rw [if_pos h99] at tC;rw [h99] at tC;simp only [beq_self_eq_true] at tC;have hD:(bE t).drop 1=r:=by rw [hx];rfl
   rw [hD] at UX;subst UX;have aP0:=z37 h99;have H:=z37 (p37 hx sH);clear hx sH hid Zo hc hD;rw [aP0.out];go_wp2_with fail;refine N.out.mono ?_;rintro e w2 ⟨v',rfl,ay,hb⟩;rw [H.out.1] at ay;obtain ⟨g,cap,rfl⟩:∃g cap,v'=.slice (some ⟨g,0,none⟩) (x::r).length cap:=by
    rcases ay.2 with ⟨_,h0⟩|⟨g,cap,cur,e,_⟩
    ·simp at h0
    ·exact ⟨g,cap,e⟩
   simp only [List.length_cons] at ay ⊢;obtain ⟨e1,e2,hrv⟩:=Xh ay;have R:=z37 (p37 hrv hb);clear ay hb hrv e1;go_wp2_with fail
   all_goals
    go_ret;refine ⟨_,rfl,?_,R.out.2⟩;have h2:=R.out.1
   ·have h0:cap - 1=0:=by omega
    rw [if_pos h0,h0] at h2;exact h2
   ·rw [if_neg (by omega)] at h2;exact h2
  ·have hc:ek t=false:=by rw [Zo];simpa using h99
   have e99:(o.kind==99)=false:=by simpa using h99
   have UX:=hpo.out;simp only [hc,Bool.false_eq_true,if_false] at UX;subst UX;rw [if_neg h99,e99] at tC;have H:=z37 sH;clear sH hid Zo hc e99;go_wp2_with fail;go_ret;exact ⟨_,rfl,H.out,Below.refl _ _⟩
theorem OP (w:World) (bs bp st mo mr pb mw:Nat) (μ:Int) (S:St) (cv:Value) (p:M B) (cl:Bool) (k:ByteArray) (hS:qZ w st mo mr μ S) (hP:kK w pb mw cv p cl) (hk:k.size<=maxLen) (h1:w.cell? ⟨bs,0,none⟩=some (aG st)) (h2:w.cell? ⟨bp,0,none⟩=some (aG pb)):
 Calls Tq.prog 197 #[.string k,.pointer (some ⟨bs,0,none⟩),.pointer (some ⟨bp,0,none⟩)] w λe w'=>∃v,e=.returned v/\Qm w' w.heap.size v (Sp.parents S p k.data.toList)/\Below w.heap.size w w':=by
 have C:=z37 (Lb w st mo mr pb mw μ S cv p cl k hS hP hk);clear hS hP hk;unfold aG at h1 h2 C;go_enter Tq.func197,Tryz.ntmps197;go_wp2_with fail;refine C.out.mono ?_;rintro e w2 ⟨v',rfl,ay,hb⟩;have R:=z37 (p37 ay hb);clear ay hb h1 h2;go_wp2_with fail;go_ret;exact ⟨_,rfl,R.out⟩
end De
namespace De
open Tx Sp Wg Rd Bk Wi Se Rx Mp Lv Qu
theorem E9 {S:St} {p:M B} (h:AP S p) (k:B):(Sp.parents S p k).length<=1000000/\∀x∈Sp.parents S p k,x.length<=maxLen:=by
 unfold Sp.parents;split
 ·rename_i t ht;have:=zz (vG h ht).1;split
  ·exact ⟨by rw [List.length_drop];omega,λx hx=>by have:=this.2 x (List.mem_of_mem_drop hx);unfold maxLen;omega⟩
  ·simp
 ·simp
def Yy (S:St) (r:B):B:=match S.refs.get r with|some v=>if v=[] then di else v|none=>di
def lF (r l D:Nat) (k:Nat):Prop:=k=r\/k=l\/k=D
structure LJ (W0:World) (old:B) (r l D:Nat) (rc:Loop) (pre:List B) (F:Nat->Prop) (W:World):Prop where
 Qo:F=lF r l D
 aA:aj (lF r l D) W0 W
 loop:W.heap[l]? =some (.loop rc)
 defs:W.heap[D]? =some (.deferred (some []))
 res:aM W r #[.string ⟨#[]⟩] 9 (0,0)
 Yz:old∉pre
structure LX (W0:World) (old:B) (r l D:Nat) (rc:Loop) (pre:List B) (W:World):Prop where
 aA:aj (lF r l D) W0 W
 loop:W.heap[l]? =some (.loop {rc with state:=.done,pending:=some .ret})
 defs:W.heap[D]? =some (.deferred (some []))
 res:aM W r #[.string ⟨#[111,107]⟩] 9 (0,0)
 aOj:old∈pre
theorem V9 (w:World) (st mo mr pb mw:Nat) (μ:Int) (S:St) (cv:Value) (p:M B) (cl:Bool) (old new ref:B) (hS:qZ w st mo mr μ S) (hP:kK w pb mw cv p cl) (lu:new.length<=maxLen) (UU:ref.length<=maxLen) (fT:AP S p):
 Calls Tq.prog 175 #[aG st,aG pb,.agg #[.string ⟨old.toArray⟩,.string ⟨new.toArray⟩,.string ⟨ref.toArray⟩]] w λe w'=>e=.returned (av (Sp.word S p ⟨old,new,ref⟩))/\Below w.heap.size w w':=by
 refine nA λcs=>?_;unfold aG;refine LV.enter Tq.func175 rfl ?_;simp only [Tryz.ntmps175,List.size_toArray,List.length_cons,List.length_nil,Nat.reduceAdd,Nat.reduceSub,Array.replicate_succ,Array.replicate_zero,List.push_toArray,List.append_toArray,List.nil_append,List.cons_append];have X:=z37 (p37 hS (p37 hP (p37 lu (p37 UU fT))));clear hS hP lu UU fT;refine LV.seq (LV.reg rfl λR hR=>?_);replace hR:=z37 hR;go_wp2_with fail;refine hR.out _ _ ?_;clear hR R;obtain ⟨n,hn⟩:∃n,n=w.heap.size:=⟨_,rfl⟩
 obtain ⟨w1,sD⟩:∃w1,w1=(((w.alloc (.cells #[.pointer (some ⟨st,0,none⟩)] 54)).alloc (.cells #[.pointer (some ⟨pb,0,none⟩)] 153)).alloc (.cells #[.string ⟨old.toArray⟩,.string ⟨new.toArray⟩,.string ⟨ref.toArray⟩] 142)).alloc (.cells #[.string ⟨#[]⟩] 9):=⟨_,rfl⟩
 rw [<-sD];simp only [World.size_alloc,<-hn,Nat.add_assoc,Nat.reduceAdd];have g3:aM w1 n #[.pointer (some ⟨st,0,none⟩)] 54 (0,0):=by unfold aM;rw [sD];simp only [aO,World.size_alloc];repeat (first|rw [if_neg (by omega)]|rw [if_pos (by omega)])
 have g4:aM w1 (n+1) #[.pointer (some ⟨pb,0,none⟩)] 153 (0,0):=by unfold aM;rw [sD];simp only [aO,World.size_alloc];repeat (first|rw [if_neg (by omega)]|rw [if_pos (by omega)])
 have g5:aM w1 (n+2) #[.string ⟨old.toArray⟩,.string ⟨new.toArray⟩,.string ⟨ref.toArray⟩] 142 (0,0):=by unfold aM;rw [sD];simp only [aO,World.size_alloc];repeat (first|rw [if_neg (by omega)]|rw [if_pos (by omega)])
 have g6:aM w1 (n+3) #[.string ⟨#[]⟩] 9 (0,0):=by unfold aM;rw [sD];simp only [aO,World.size_alloc];repeat (first|rw [if_neg (by omega)]|rw [if_pos (by omega)])
 have gs:w1.heap.size=n+4:=by rw [sD];simp only [World.size_alloc];omega
 have gB:Below n w w1:=by rw [sD,hn];exact ((((Below.refl _ w).alloc (Nat.le_refl _) _).alloc (by simp) _).alloc (by simp;omega) _).alloc (by simp;omega) _
 clear sD;obtain ⟨hS,hP,lu,UU,fT⟩:=X.out;have dN:∀W:World,Below n w W->qZ W st mo mr μ S/\kK W pb mw cv p cl:=λW h=>by
  have hc:aj (λ_=>False) w _:=aj.nK (hn▸h);exact ⟨hS.aA hc (Rx.Safe.none w) (λe=>e) (λe=>e) (λe=>e),hP.aA hc (Rx.Safe.none w) (λe=>e) (λe=>e)⟩
 have s1:=dN _ gB;have k3:w1.cell? ⟨n,0,none⟩=some (.pointer (some ⟨st,0,none⟩)):=g3.at rfl;have k4:w1.cell? ⟨n+1,0,none⟩=some (.pointer (some ⟨pb,0,none⟩)):=g4.at rfl;have c0:w1.cell? ⟨n+2,0,none⟩=some (.string ⟨old.toArray⟩):=g5.at rfl;have c1:w1.cell? ⟨n+2,1,none⟩=some (.string ⟨new.toArray⟩):=g5.at rfl;have c2:w1.cell? ⟨n+2,2,none⟩=some (.string ⟨ref.toArray⟩):=g5.at rfl;have k6:w1.cell? ⟨n+3,0,none⟩=some (.string ⟨#[]⟩):=g6.at rfl;have f6:=g6.frozen (i:=0) (.inr (Nat.le_refl _));have m5:w1.cell? ⟨st,5,none⟩=some (.map (some mr)):=s1.1.blk.at rfl;have m2:w1.cell? ⟨st,2,none⟩=some (.bool S.forward):=s1.1.blk.at rfl;obtain ⟨lv,lps,yn,JZ⟩:=World.ownsMap.lookup (w:=w1.drew) (Mp.SM.block s1.1.refs rfl) L6 (t:=56) (e:=9) ((Tq.underlying 56).trans Tryz.underlying56) (z:=.string ⟨#[]⟩) (by simp [Tryz.zeroValue9]) (zd:=.held (.string ⟨#[]⟩)) (zp:=[]) rfl (DK (s:=⟨ref.toArray⟩) UU);have aGj:∃r0:B,lv=.string ⟨r0.toArray⟩/\Yy S ref=if r0=[] then di else r0:=by
  rw [yC,mU] at JZ;unfold RV at JZ;unfold Yy;cases hh:S.refs.get ref with
  |none=>rw [hh] at JZ;simp at JZ;exact ⟨[],JZ.1,rfl⟩
  |some u=>rw [hh] at JZ;simp at JZ;exact ⟨u,JZ.1,rfl⟩
 obtain ⟨r0,rfl,U0⟩:=aGj;generalize iw:Yy S ref=now at U0;have X:=z37 (p37 hS (p37 hP (p37 lu (p37 UU (p37 fT iw)))));clear hS hP lu UU fT iw JZ;have Y:=z37 (p37 hn (p37 g3 (p37 g4 (p37 g5 (p37 g6 (p37 gs (p37 gB s1)))))));clear hn g3 g4 g5 g6 gs gB s1;replace dN:=z37 dN;refine LV.seq (LV.tq rfl λR hR=>?_);replace hR:=z37 hR
 go_still (by kernel_rfl)
 refine hR.out _ _ ?_;clear hR R yn;have gBd:Below n w w1.drew:=(Y.out.1▸qnz (Y.out.1▸Y.out.2.2.2.2.2.2.1) 1)
 replace k3:w1.drew.cell? ⟨n,0,none⟩=some (.pointer (some ⟨st,0,none⟩)):=k3;replace k4:w1.drew.cell? ⟨n+1,0,none⟩=some (.pointer (some ⟨pb,0,none⟩)):=k4;replace c0:w1.drew.cell? ⟨n+2,0,none⟩=some (.string ⟨old.toArray⟩):=c0;replace c1:w1.drew.cell? ⟨n+2,1,none⟩=some (.string ⟨new.toArray⟩):=c1;replace c2:w1.drew.cell? ⟨n+2,2,none⟩=some (.string ⟨ref.toArray⟩):=c2;replace k6:w1.drew.cell? ⟨n+3,0,none⟩=some (.string ⟨#[]⟩):=k6;replace m2:w1.drew.cell? ⟨st,2,none⟩=some (.bool S.forward):=m2;have g3:aM w1.drew n #[.pointer (some ⟨st,0,none⟩)] 54 (0,0):=Y.out.2.1;have g4:aM w1.drew (n+1) #[.pointer (some ⟨pb,0,none⟩)] 153 (0,0):=Y.out.2.2.1;have g5:aM w1.drew (n+2) #[.string ⟨old.toArray⟩,.string ⟨new.toArray⟩,.string ⟨ref.toArray⟩] 142 (0,0):=Y.out.2.2.2.1;have g6:aM w1.drew (n+3) #[.string ⟨#[]⟩] 9 (0,0):=Y.out.2.2.2.2.1;have gs:w1.drew.heap.size=n+4:=Y.out.2.2.2.2.2.1;replace f6:w1.drew.frozen? ⟨n+3,0,none⟩=false:=f6;have hn:=Y.out.1;clear Y m5;change LV Tq.prog _ w1.drew _ cs;generalize w1.drew=wd at *;have Y:=z37 (p37 hn (p37 g3 (p37 g4 (p37 g5 (p37 g6 (p37 gs gBd))))));clear hn g3 g4 g5 g6 gs gBd;refine LV.seq (LV.code rfl (R:=λA W=>W=wd/\∃x0 x1 x2 x8 x9 x10 x11 x12 x13 x14 x15 x16 x17 x18 x19 x20 x21 x22 x23 x24 x25 x26 x27 x28 x29 x30 x31 x32 x33 x34 x35 x36 x37 x38 x39 x40 x41 x42 x43 x44 x45 x46 x47 x48 x49 x50 x51 x52,A={tmps:=#[x0,x1,x2,.pointer (some ⟨n,0,none⟩),.pointer (some ⟨n+1,0,none⟩),.pointer (some ⟨n+2,0,none⟩),.pointer (some ⟨n+3,0,none⟩),.string ⟨now.toArray⟩,x8,x9,x10,x11,x12,x13,x14,x15,x16,x17,x18,x19,x20,x21,x22,x23,x24,x25,x26,x27,x28,x29,x30,x31,x32,x33,x34,x35,x36,x37,x38,x39,x40,x41,x42,x43,x44,x45,x46,x47,x48,x49,x50,x51,x52],defers:=[]}) ?_ ?_)
 ·by_cases h0:r0=[]
  ·subst h0;have h1:=U0;simp only [if_true] at h1;subst h1;clear U0;go_wp2_with fail;exact ⟨rfl,_,_,_,_,_,_,_,_,_,_,_,_,_,_,_,_,_,_,_,_,_,_,_,_,_,_,_,_,_,_,_,_,_,_,_,_,_,_,_,_,_,_,_,_,_,_,_,_,rfl⟩
  ·rw [if_neg h0] at U0;subst U0;have h1:List.isEmpty now=false:=by cases now with|nil=>exact absurd rfl h0|cons _ _=>rfl
   clear h0;go_wp2_with fail;exact ⟨rfl,_,_,_,_,_,_,_,_,_,_,_,_,_,_,_,_,_,_,_,_,_,_,_,_,_,_,_,_,_,_,_,_,_,_,_,_,_,_,_,_,_,_,_,_,_,_,_,_,rfl⟩
 rintro A W ⟨rfl,x0,x1,x2,x8,x9,x10,x11,x12,x13,x14,x15,x16,x17,x18,x19,x20,x21,x22,x23,x24,x25,x26,x27,x28,x29,x30,x31,x32,x33,x34,x35,x36,x37,x38,x39,x40,x41,x42,x43,x44,x45,x46,x47,x48,x49,x50,x51,x52,rfl⟩;dsimp only;obtain ⟨hn,g3,g4,g5,g6,gs,gBd⟩:=Y.out;clear Y;have fJ:∀W',aj (λk=>n+3<=k) W W'->Below n w W':=λW' h=>gBd.trans (h.below (by omega) (λk hk=>by omega));have fin:∀(s:B) (W5:World) (tm:Array Value) (td:List Item),aM W5 (n+3) #[.string ⟨s.toArray⟩] 9 (0,0)->aj (λk=>n+3<=k) W W5->tm.getD 6 undef=.pointer (some ⟨n+3,0,none⟩)->Sp.word S p ⟨old,new,ref⟩=s->
  LV Tq.prog (Lv.Left Tq.prog 175 cs λe w'=>e=Ending.returned (av (Sp.word S p ⟨old,new,ref⟩))/\Below n w w') W5 {(fb 175).atR {tmps:=tm,defers:=[]} td with mode:=.returning} cs:=by
  rintro s W5 tm td hb hc htm hws;refine LV.left (v:=.string ⟨s.toArray⟩) rfl rfl rfl rfl Tq.func175 ?_ ⟨by rw [hws];rfl,fJ _ hc⟩;exact kT rfl _ _ ⟨n+3,0,none⟩ _ htm (hb.at rfl)
 have sQ:∀(s:B) (tm:Array Value) (td:List Item),tm.getD 6 undef=.pointer (some ⟨n+3,0,none⟩)->Sp.word S p ⟨old,new,ref⟩=s->
  LV Tq.prog (Lv.Left Tq.prog 175 cs λe w'=>e=Ending.returned (av (Sp.word S p ⟨old,new,ref⟩))/\Below n w w') (W.setCell ⟨n+3,0,none⟩ (.string ⟨s.toArray⟩)) {(fb 175).atR {tmps:=tm,defers:=[]} td with mode:=.returning} cs:=
  λs tm td h1 h2=>fin s _ tm td (aM.set g6 0 _) (aj.setCell (S:=λk=>n+3<=k) (aj.refl _ W) (p:=⟨n+3,0,none⟩) (.inl (Nat.le_refl _)) _) h1 h2
 replace fin:=z37 fin;replace sQ:=z37 sQ;have iw:=X.out.2.2.2.2.2;have hw:Sp.word S p ⟨old,new,ref⟩=if now≠old then BS else if new=di then jK else if Sp.whole S p new≠[] then Sp.whole S p new else if !S.forward||old=di then jK else if (line S p new).contains old then jK else BU:=by rw [<-iw];rfl
 replace hw:=z37 hw;have Y:=z37 (p37 hn (p37 g3 (p37 g4 (p37 g5 (p37 g6 (p37 gs (p37 gBd fJ)))))));clear hn g3 g4 g5 g6 gs gBd fJ iw U0;refine LV.seq (LV.seq (LV.reg rfl λR hR=>?_));replace hR:=z37 hR;go_wp2_with fail;refine hR.out _ _ ?_;clear hR R;by_cases e1:now=old
 case neg=>
  have hb:(now==old)=false:=beq_false_of_ne e1;rw [hb];refine LV.cond (t:=true) rfl (LV.seq (LV.reg rfl λR hR=>?_));replace hR:=z37 hR;have E:=z37 e1;clear e1 hb;go_wp2_with fail;refine hR.out _ _ (LV.ret rfl ?_);exact sQ.out BS _ _ rfl (by rw [hw.out,if_pos E.out])
 have hb:(now==old)=true:=by simpa using e1
 rw [hb];refine LV.cond (t:=false) rfl (LV.skip ?_);replace hw:=hw.out;rw [if_neg (λh=>h e1)] at hw;replace hw:=z37 hw;clear hb e1;refine LV.seq (LV.seq (LV.reg rfl λR hR=>?_));replace hR:=z37 hR;go_wp2_with fail;refine hR.out _ _ ?_;clear hR R;by_cases e1:new=di
 ·have hb:(new==[48,48,48,48,48,48,48,48])=true:=by rw [e1];rfl
  rw [hb];refine LV.cond (t:=true) rfl (LV.seq (LV.reg rfl λR hR=>?_));replace hR:=z37 hR;have E:=z37 e1;clear e1 hb;go_wp2_with fail;refine hR.out _ _ (LV.ret rfl ?_);exact sQ.out jK _ _ rfl (by rw [hw.out,if_pos E.out])
 have hb:(new==[48,48,48,48,48,48,48,48])=false:=beq_false_of_ne e1;rw [hb];refine LV.cond (t:=false) rfl (LV.skip ?_);replace hw:=hw.out;rw [if_neg e1] at hw;replace hw:=z37 hw;clear hb e1;obtain ⟨hS,hP⟩:=dN.out _ Y.out.2.2.2.2.2.2.1;have Wh:=Sq W st mo mr pb mw μ S cv p cl ⟨new.toArray⟩ hS hP X.out.2.2.1 X.out.2.2.2.2.1;have Ml:Sp.whole S p (⟨new.toArray⟩:ByteArray).data.toList=Sp.whole S p new:=rfl;rw [Ml] at Wh;obtain ⟨wd2,aCs⟩:∃x,x=Sp.whole S p new:=⟨_,rfl⟩
 rw [<-aCs] at Wh;replace hw:=hw.out;rw [<-aCs] at hw;replace hw:=z37 hw;unfold aG av at Wh;replace Wh:=z37 Wh;clear hS hP Ml;replace aCs:=z37 aCs;refine LV.seq (LV.seq (LV.reg rfl λR hR=>?_));replace hR:=z37 hR;go_wp2_with fail;refine Wh.out.mono ?_;rintro e W2 ⟨rfl,Jr⟩;have cW:aj (λ_=>False) W W2:=aj.nK Jr;have g3:=Y.out.2.1.aA cW (λe=>e);have g4:=Y.out.2.2.1.aA cW (λe=>e);have g5:=Y.out.2.2.2.1.aA cW (λe=>e);have g6:=Y.out.2.2.2.2.1.aA cW (λe=>e);have gs2:n+4<=W2.heap.size:=by have:=Jr.size;rw [Y.out.2.2.2.2.2.1] at this;exact this
 have gB2:Below n w W2:=Y.out.2.2.2.2.2.2.2 _ (cW.mono (λ_ _ e=>e.elim));replace fin:Hid (∀(s:B) (W5:World) (tm:Array Value) (td:List Item),aM W5 (n+3) #[.string ⟨s.toArray⟩] 9 (0,0)->aj (λk=>n+3<=k) W2 W5->tm.getD 6 undef=.pointer (some ⟨n+3,0,none⟩)->Sp.word S p ⟨old,new,ref⟩=s->
  LV Tq.prog (Lv.Left Tq.prog 175 cs λe w'=>e=Ending.returned (av (Sp.word S p ⟨old,new,ref⟩))/\Below n w w') W5 {(fb 175).atR {tmps:=tm,defers:=[]} td with mode:=.returning} cs):=
  z37 (λs W5 tm td hb hc htm hws=>fin.out s W5 tm td hb ((cW.mono (λ_ _ e=>e.elim)).trans hc) htm hws)
 have hn:=Y.out.1;have BG:=dN.out _ gB2;replace k3:W2.cell? ⟨n,0,none⟩=some (.pointer (some ⟨st,0,none⟩)):=g3.at rfl;replace k4:W2.cell? ⟨n+1,0,none⟩=some (.pointer (some ⟨pb,0,none⟩)):=g4.at rfl;replace c0:W2.cell? ⟨n+2,0,none⟩=some (.string ⟨old.toArray⟩):=g5.at rfl;replace c1:W2.cell? ⟨n+2,1,none⟩=some (.string ⟨new.toArray⟩):=g5.at rfl;replace k6:W2.cell? ⟨n+3,0,none⟩=some (.string ⟨#[]⟩):=g6.at rfl;replace f6:=g6.frozen (i:=0) (.inr (Nat.le_refl _));replace m2:W2.cell? ⟨st,2,none⟩=some (.bool S.forward):=BG.1.blk.at rfl;have sQ:∀(s:B) (tm:Array Value) (td:List Item),tm.getD 6 undef=.pointer (some ⟨n+3,0,none⟩)->Sp.word S p ⟨old,new,ref⟩=s->
  LV Tq.prog (Lv.Left Tq.prog 175 cs λe w'=>e=Ending.returned (av (Sp.word S p ⟨old,new,ref⟩))/\Below n w w') (W2.setCell ⟨n+3,0,none⟩ (.string ⟨s.toArray⟩)) {(fb 175).atR {tmps:=tm,defers:=[]} td with mode:=.returning} cs:=
  λs tm td h1 h2=>fin.out s _ tm td (aM.set g6 0 _) (aj.setCell (S:=λk=>n+3<=k) (aj.refl _ W2) (p:=⟨n+3,0,none⟩) (.inl (Nat.le_refl _)) _) h1 h2
 replace sQ:=z37 sQ;have Y:=z37 (p37 hn (p37 g3 (p37 g4 (p37 g5 (p37 g6 (p37 gs2 (p37 gB2 BG)))))));clear hn g3 g4 g5 g6 gs2 gB2 cW Jr BG c2 Wh;go_wp2_with fail;refine hR.out _ _ ?_;clear hR R;refine LV.seq (LV.reg rfl λR hR=>?_);replace hR:=z37 hR;go_wp2_with fail;refine hR.out _ _ ?_;clear hR R;by_cases e1:wd2=[]
 case neg=>
  have hb:(!List.isEmpty wd2)=true:=by cases wd2 with|nil=>exact absurd rfl e1|cons _ _=>rfl
  rw [hb];refine LV.cond (t:=true) rfl (LV.seq (LV.reg rfl λR hR=>?_));replace hR:=z37 hR;have E:=z37 e1;clear e1 hb;go_wp2_with fail;refine hR.out _ _ (LV.ret rfl ?_);exact sQ.out wd2 _ _ rfl (by rw [hw.out,if_pos E.out])
 have hb:(!List.isEmpty wd2)=false:=by rw [e1];rfl
 rw [hb];refine LV.cond (t:=false) rfl (LV.skip ?_);replace hw:=hw.out;rw [if_neg (λh=>h e1)] at hw;replace hw:=z37 hw;clear hb e1;obtain ⟨fw,hfw⟩:∃b,b=S.forward:=⟨_,rfl⟩
 rw [<-hfw] at m2;replace hw:=hw.out;rw [<-hfw] at hw;replace hw:=z37 hw;replace hfw:=z37 hfw;refine LV.seq (LV.seq (LV.reg rfl λR hR=>?_));replace hR:=z37 hR;cases fw with
 |false=>go_wp2_with fail;refine hR.out _ _ ?_;clear hR R;refine LV.cond (t:=true) rfl (LV.seq (LV.reg rfl λR hR=>?_));replace hR:=z37 hR;go_wp2_with fail;refine hR.out _ _ (LV.ret rfl ?_);exact sQ.out jK _ _ rfl (by rw [hw.out];rfl)
 |true=>
 by_cases e1:old=di
 ·have hb:(old==[48,48,48,48,48,48,48,48])=true:=by rw [e1];rfl
  have E:=z37 e1;clear e1;go_wp2_with fail;refine hR.out _ _ ?_;clear hR R;refine LV.cond (t:=true) rfl (LV.seq (LV.reg rfl λR hR=>?_));replace hR:=z37 hR;go_wp2_with fail;refine hR.out _ _ (LV.ret rfl ?_);exact sQ.out jK _ _ rfl (by rw [hw.out,E.out];rfl)
 have hb:(old==[48,48,48,48,48,48,48,48])=false:=beq_false_of_ne e1;replace hw:=hw.out;have gQ:(!true||decide (old=di))=false:=by simp [e1]
 simp only [Bool.or_eq_true,Bool.not_true,Bool.false_eq_true,decide_eq_true_eq,e1,or_self,if_false] at hw;replace hw:=z37 hw;clear e1 gQ;go_wp2_with fail;refine hR.out _ _ ?_;clear hR R;refine LV.cond (t:=false) rfl (LV.skip ?_);clear hb m2;have Wk:=z37 (λg lb W=>Wm ⟨new.toArray⟩ g lb W);refine LV.seq (LV.seq (LV.reg rfl λR hR=>?_));replace hR:=z37 hR;go_wp2_with fail;refine (Wk.out _ _ _).mono ?_;rintro e W1 ⟨rfl,rfl⟩;go_wp2_with fail;refine hR.out _ _ ?_;clear hR R Wk;refine LV.block ?_;refine LV.X7 rfl rfl (λargs w=>Tq.call132 args w) ?_;intro W0 rc r1 r2 r3 r4 r5 r6 r7 Aw;have RC:=z37 (p37 r1 (p37 r2 (p37 r3 (p37 r4 (p37 r5 (p37 r6 r7))))));clear r1 r2 r3 r4 r5 r6 r7;obtain ⟨n2,VO⟩:∃n2,n2=W2.heap.size:=⟨_,rfl⟩
 simp only [World.size_alloc,<-VO,Nat.add_assoc,Nat.reduceAdd] at Aw ⊢;obtain ⟨hn,g3,g4,g5,g6,gs2,gB2,BG⟩:=Y.out;have hle:n+4<=n2:=by rw [VO];exact gs2
 have b1:aM W0 (n2) #[.string ⟨new.toArray⟩] 9 (0,0):=by unfold aM;rw [Aw];simp only [aO,World.size_alloc];repeat (first|rw [if_neg (by omega)]|rw [if_pos (by omega),VO]|rw [if_pos (by omega)])
 have b2:aM W0 (n2+1) #[.func (.func 197) #[] #[.pointer (some ⟨n,0,none⟩),.pointer (some ⟨n+1,0,none⟩)]] 103 (0,0):=by unfold aM;rw [Aw];simp only [aO,World.size_alloc];repeat (first|rw [if_neg (by omega)]|rw [if_pos (by omega),VO]|rw [if_pos (by omega)])
 have gD:W0.heap[n2+2]? =some (.deferred (some [])):=by rw [Aw];simp only [aO,World.size_alloc];repeat (first|rw [if_neg (by omega)]|rw [if_pos (by omega)])
 have gl:W0.heap[n2+3]? =some (.loop rc):=by rw [Aw];simp only [aO,World.size_alloc];repeat (first|rw [if_neg (by omega)]|rw [if_pos (by omega)])
 have gs:W0.heap.size=n2+4:=by rw [Aw];simp only [World.size_alloc];omega
 have c0:aj (λ_=>False) W2 W0:=by rw [Aw];exact ((((aj.refl _ W2).alloc _).alloc _).alloc _).alloc _
 have g3:=g3.aA c0 (λe=>e);have g4:=g4.aA c0 (λe=>e);have g5:=g5.aA c0 (λe=>e);have g6:=g6.aA c0 (λe=>e);have gB:Below n w W0:=gB2.trans (c0.below (by omega) (λ_ e=>e.elim));clear Aw;have fJ:∀{W:World},aj (lF (n+3) (n2+3) (n2+2)) W0 W->Below n w W:=λh=>gB.trans (h.below (by omega) (λk hk=>by rcases hk with rfl|rfl|rfl<;>omega));have aI:∀{W:World},aj (lF (n+3) (n2+3) (n2+2)) W0 W->n2+4<=W.heap.size:=λh=>by have:=h.size;omega
 have m0:∀(c:Nat),c<n+3->¬lF (n+3) (n2+3) (n2+2) c:=by rintro c hc (e|e|e)<;>omega
 have m1:∀(c:Nat),n+3<c->c<n2+2->¬lF (n+3) (n2+3) (n2+2) c:=by rintro c hc hc2 (e|e|e)<;>omega
 simp only [List.append_toArray,List.cons_append,List.nil_append];have h0:LJ W0 old (n+3) (n2+3) (n2+2) rc [] (lF (n+3) (n2+3) (n2+2)) W0:=⟨rfl,aj.refl _ _,gl,gD,g6,λh=>by cases h⟩
 have lu:=X.out.2.2.1;have fT:=X.out.2.2.2.2.1;refine Kc (l:=n2+3) (g:=197) (lb:=#[.pointer (some ⟨n,0,none⟩),.pointer (some ⟨n+1,0,none⟩)]) (b1:=n2) (b2:=n2+1) (B0:=W0.heap.size) (N:=Sp.fuel S p) (id:=new) (beh:=Sp.parents S p)
  (J:=LJ W0 old (n+3) (n2+3) (n2+2) rc) (Jx:=λpre _ W=>LX W0 old (n+3) (n2+3) (n2+2) rc pre W) (F:=lF (n+3) (n2+3) (n2+2)) ?who lu rfl h0 (λk hk=>by rw [gs];rcases hk with rfl|rfl|rfl<;>omega) (Jz S p new) ?done ?stop
 case who=>
  refine ⟨?_,?_,λargs w=>Tq.call197 args w,?_,E9 fT,?_,fT.2.2⟩
  ·intro pre F W W' T hJ hc hT;have hl:=aI hJ.aA;have hF:∀k,lF (n+3) (n2+3) (n2+2) k->k<W.heap.size/\¬T k:=λk hk=>by
    have h1:k<W.heap.size:=by rcases hk with rfl|rfl|rfl<;>omega
    exact ⟨h1,λe=>(hT k e h1).2 (by rw [hJ.Qo];exact hk)⟩
   refine ⟨hJ.Qo,hJ.aA.trans' hc (λi hi e=>?_),?_,?_,hJ.res.aA hc (hF _ (.inl rfl)).2,hJ.Yz⟩
   ·have:=(hT i e (by omega)).1;omega
   ·exact (hc.block _ (hF _ (.inr (.inl rfl))).1 (hF _ (.inr (.inl rfl))).2).trans hJ.loop
   ·exact (hc.block _ (hF _ (.inr (.inr rfl))).1 (hF _ (.inr (.inr rfl))).2).trans hJ.defs
  ·intro pre F W hJ;exact ⟨(b1.aA hJ.aA (m1 _ (by omega) (by omega))).at rfl,(b2.aA hJ.aA (m1 _ (by omega) (by omega))).at rfl,hJ.aA.size⟩
  ·intro pre F W k hJ hk;obtain ⟨q1,q2⟩:=dN.out _ (fJ hJ.aA);exact OP W n (n+1) st mo mr pb mw μ S cv p cl k q1 q2 hk ((g3.aA hJ.aA (m0 _ (by omega))).at rfl) ((g4.aA hJ.aA (m0 _ (by omega))).at rfl)
  ·intro pre x F W fi hJ hp Mj go stop;obtain ⟨r1,r2,r3,r4,r5,r6,r7⟩:=RC.out;refine ⟨_,_,_,_,FJ hJ.loop r5,?_⟩;rw [r3,r4,r6,r7,round_eq];simp only [av,List.setIfInBounds_toArray,List.set_cons_succ,List.set_cons_zero,<-hn,<-VO,Nat.add_assoc,Nat.reduceAdd];have hFe:=hJ.Qo;subst hFe;have hl:=aI hJ.aA;have Ep:aj (lF (n+3) (n2+3) (n2+2)) W (W.putObj (n2+3) (.loop {rc with state:=.busy})):=cK (aj.refl _ _) (.inl (.inr (.inl rfl))) _;have zQ:=hJ.aA.trans Ep;have bl:(W.putObj (n2+3) (.loop {rc with state:=.busy})).heap[n2+3]? =some (.loop {rc with state:=.busy}):=by rw [aJ,if_pos ⟨rfl,by omega⟩]
   have bD:(W.putObj (n2+3) (.loop {rc with state:=.busy})).heap[n2+2]? =some (.deferred (some [])):=by rw [aJ,if_neg (by omega)];exact hJ.defs
   have br:aM (W.putObj (n2+3) (.loop {rc with state:=.busy})) (n+3) #[.string ⟨#[]⟩] 9 (0,0):=by unfold aM;rw [aJ,if_neg (by omega)];exact hJ.res
   have ls:(W.putObj (n2+3) (.loop {rc with state:=.busy})).heap.size=W.heap.size:=World.putObj_size ..;have Au:=hJ.loop;have Q:=z37 (p37 hJ (p37 go (p37 stop (p37 hp (p37 r2 (p37 r1 Au))))));have Z:=z37 (p37 Ep (p37 zQ (p37 bl (p37 bD (p37 br (p37 ls hl))))));have G:=z37 (p37 g5 (p37 gs (p37 hle m0)));clear hJ go stop hp Ep zQ bl bD br ls hl r1 r2 r3 r4 r5 r6 r7 Au h0 lu fT fJ aI g3 g4 g5 g6 b1 b2 gD gl gs gB gB2 gs2 BG m0 m1 hle c0 k3 k4 c1 k6 f6 X Y fin sQ dN RC;replace hn:=z37 hn;replace VO:=z37 VO;refine LV.reg rfl λR hR=>?_;replace hR:=z37 hR;go_wp2_with fail;refine hR.out _ _ ?_;clear hR R;refine LV.begin Q.out.2.2.2.2.2.2 Q.out.2.2.2.2.2.1 ?_;obtain ⟨Ep,zQ,bl,bD,br,ls,hl⟩:=Z.out;generalize W.putObj (n2+3) (.loop {rc with state:=.busy})=Wb at Ep zQ bl bD br ls ⊢;have c0:Wb.cell? ⟨n+2,0,none⟩=some (.string ⟨old.toArray⟩):=(G.out.1.aA zQ (G.out.2.2.2 _ (by omega))).at rfl;have k6:Wb.cell? ⟨n+3,0,none⟩=some (.string ⟨#[]⟩):=br.at rfl;have f6:=br.frozen (i:=0) (.inr (Nat.le_refl _));clear Z;have Z:=z37 (p37 Ep (p37 zQ (p37 bl (p37 bD (p37 br (p37 ls hl))))));clear Ep zQ bl bD br ls hl;refine LV.block (LV.seq (LV.reg rfl λR hR=>?_));replace hR:=z37 hR;go_wp2_with fail;refine hR.out _ _ ?_;clear hR R;by_cases e1:x=old
   ·have hb:(x==old)=true:=by simpa using e1
    rw [hb];have E:=z37 e1;clear e1 hb;refine LV.cond (t:=true) rfl (LV.seq (LV.reg rfl λR hR=>?_));replace hR:=z37 hR;go_wp2_with fail;refine hR.out _ _ ?_;obtain ⟨Ep,zQ,bl,bD,br,ls,hl⟩:=Z.out;have c1:aj (lF (n+3) (n2+3) (n2+2)) W0 (Wb.setCell ⟨n+3,0,none⟩ (.string ⟨#[111,107]⟩)):=zQ.setCell (p:=⟨n+3,0,none⟩) (.inl (.inl rfl)) _;have l1:(Wb.setCell ⟨n+3,0,none⟩ (.string ⟨#[111,107]⟩)).heap[n2+3]? =some (.loop {rc with state:=.busy}):=(Below.heap_setCell _ ⟨n+3,0,none⟩ _ _ (by have:=G.out.2.2.1;simp;omega)).trans bl;have d1:(Wb.setCell ⟨n+3,0,none⟩ (.string ⟨#[111,107]⟩)).heap[n2+2]? =some (.deferred (some [])):=(Below.heap_setCell _ ⟨n+3,0,none⟩ _ _ (by have:=G.out.2.2.1;simp;omega)).trans bD;have rr:aM (Wb.setCell ⟨n+3,0,none⟩ (.string ⟨#[111,107]⟩)) (n+3) #[.string ⟨#[111,107]⟩] 9 (0,0):=aM.set br 0 _;have U2:=lt_of_block l1;have hle:=G.out.2.2.1;refine LV.KY l1 (Q.out.2.2.1 (lF (n+3) (n2+3) (n2+2)) _ ⟨cK c1 (.inl (.inr (.inl rfl))) _,by rw [aJ,if_pos ⟨rfl,U2⟩],by rw [aJ,if_neg (by omega)];exact d1,?_,by rw [E.out];simp⟩);unfold aM;rw [aJ,if_neg (by omega)];exact rr
   ·have hb:(x==old)=false:=beq_false_of_ne e1;rw [hb];refine LV.cond (t:=false) rfl (LV.skip (LV.inBlock ?_));obtain ⟨Ep,zQ,bl,bD,br,ls,hl⟩:=Z.out;have U2:=lt_of_block bl;have hle:=G.out.2.2.1;obtain ⟨hJ,go,-,-,r2,r1,-⟩:=Q.out;have hrc:({{rc with state:=LoopState.busy} with state:=LoopState.ready,pending:=none}:Loop)=rc:=by rw [<-r1,<-r2]
    refine LV.Db bl (go (lF (n+3) (n2+3) (n2+2)) _ ⟨rfl,cK zQ (.inl (.inr (.inl rfl))) _,by rw [aJ,if_pos ⟨rfl,U2⟩,hrc],by rw [aJ,if_neg (by omega)];exact bD,?_,λh=>?_⟩ (cK Ep (.inl (.inr (.inl rfl))) _) λk hk=>⟨.inl hk,?_⟩)
    ·unfold aM;rw [aJ,if_neg (by omega)];exact br
    ·rcases List.mem_append.1 h with h|h
     ·exact hJ.Yz h
     ·exact e1 (List.mem_singleton.1 h).symm
    ·rw [World.putObj_size];rcases hk with rfl|rfl|rfl<;>omega
 case stop=>
  rintro pre F' W' hp hX;refine LV.IP hX.loop (by simp) ?_;have U2:=lt_of_block hX.loop;refine LV.ret rfl (LV.Ia (D:=n2+2) rfl rfl (by rw [aJ,if_neg (by omega)];exact hX.defs) ?_);have rr:aM ((W'.putObj (n2+3) (.loop {{rc with state:=.done,pending:=some .ret} with state:=.exhausted})).putObj (n2+2) (.deferred none)) (n+3) #[.string ⟨#[111,107]⟩] 9 (0,0):=by unfold aM;rw [aJ,if_neg (by omega),aJ,if_neg (by omega)];exact hX.res
  have Mk:(line S p new).contains old=true:=by have:=hp.subset hX.aOj;exact List.contains_iff_mem.2 this
  refine LV.left (v:=.string ⟨#[111,107]⟩) rfl rfl rfl rfl Tq.func175 ?_ ⟨by rw [hw.out,if_pos Mk];rfl,?_⟩
  ·exact kT rfl _ _ ⟨n+3,0,none⟩ _ rfl (rr.at rfl)
  ·exact fJ (cK (cK hX.aA (.inl (.inr (.inl rfl))) _) (.inl (.inr (.inr rfl))) _)
 case done=>
  rintro F' W' hJ;refine LV.IP hJ.loop (by rw [RC.out.1];simp) ?_;rw [RC.out.2.1];simp only [Option.map_none,Option.toList_none,List.nil_append];refine LV.inBlock ?_;have U2:=lt_of_block hJ.loop;have Mk:(line S p new).contains old=false:=by
   cases h:(line S p new).contains old with
   |false=>rfl
   |true=>exact absurd (List.contains_iff_mem.1 h) hJ.Yz
  have bY:Sp.word S p ⟨old,new,ref⟩=BU:=by rw [hw.out,Mk];rfl
  have cd:aj (lF (n+3) (n2+3) (n2+2)) W0 (W'.putObj (n2+3) (.loop {rc with state:=.exhausted,pending:=none})):=cK hJ.aA (.inl (.inr (.inl rfl))) _;have dD:(W'.putObj (n2+3) (.loop {rc with state:=.exhausted,pending:=none})).heap[n2+2]? =some (.deferred (some [])):=by rw [aJ,if_neg (by omega)];exact hJ.defs
  have dr:aM (W'.putObj (n2+3) (.loop {rc with state:=.exhausted,pending:=none})) (n+3) #[.string ⟨#[]⟩] 9 (0,0):=by unfold aM;rw [aJ,if_neg (by omega)];exact hJ.res
  generalize W'.putObj (n2+3) (.loop {rc with state:=.exhausted,pending:=none})=Wd at cd dD dr ⊢;have k6:Wd.cell? ⟨n+3,0,none⟩=some (.string ⟨#[]⟩):=dr.at rfl;have f6:=dr.frozen (i:=0) (.inr (Nat.le_refl _));have aGS:∀(tm:Array Value) (td:List Item),tm.getD 6 undef=.pointer (some ⟨n+3,0,none⟩)->
   LV Tq.prog (Lv.Left Tq.prog 175 cs λe w'=>e=Ending.returned (av (Sp.word S p ⟨old,new,ref⟩))/\Below n w w') (Wd.setCell ⟨n+3,0,none⟩ (.string ⟨#[102,111,114,119,97,114,100]⟩)) {(fb 175).atR {tmps:=tm,defers:=[{target:=.collected (n2+2),args:=#[]}]} td with mode:=.returning} cs:=by
   intro tm td htm;have hD6:(Wd.setCell ⟨n+3,0,none⟩ (.string ⟨#[102,111,114,119,97,114,100]⟩)).heap[n2+2]? =some (.deferred (some [])):=(Below.heap_setCell _ ⟨n+3,0,none⟩ _ _ (by simp;omega)).trans dD;refine LV.Ia (D:=n2+2) rfl rfl hD6 ?_;have rr:aM ((Wd.setCell ⟨n+3,0,none⟩ (.string ⟨#[102,111,114,119,97,114,100]⟩)).putObj (n2+2) (.deferred none)) (n+3) #[.string ⟨#[102,111,114,119,97,114,100]⟩] 9 (0,0):=by unfold aM;rw [aJ,if_neg (by omega)];exact aM.set dr 0 _
   refine LV.left (v:=.string ⟨#[102,111,114,119,97,114,100]⟩) rfl rfl rfl rfl Tq.func175 ?_ ⟨by rw [bY];rfl,?_⟩
   ·exact kT rfl _ _ ⟨n+3,0,none⟩ _ htm (rr.at rfl)
   ·exact fJ (cK (cd.setCell (p:=⟨n+3,0,none⟩) (.inl (.inl rfl)) _) (.inl (.inr (.inr rfl))) _)
  replace aGS:=z37 aGS;clear Mk bY cd dD dr hJ fJ aI m0 m1 dN lu fT h0 g3 g4 g5 g6 gD gl gs gB X RC U2 hw b1 b2 c0 gB2 gs2 BG Y fin sQ c1 k3 k4;replace hn:=z37 hn;replace VO:=z37 VO;replace hle:=z37 hle;refine LV.seq (LV.reg rfl λR hR=>?_);replace hR:=z37 hR;go_wp2_with fail;refine hR.out _ _ (LV.ret rfl ?_);exact aGS.out _ _ rfl
end De
namespace De
open Tx Sp Wg Rd Bk Wi Se Rx Mp Lv Qu
theorem U4 (k n:Nat):(Tx.pO k n).length=k:=by
 induction k generalizing n with
 |zero=>rfl
 |succ k ih=>show (Tx.pO k (n / 16)++_).length=_;rw [List.length_append,ih];rfl
theorem Br (w:World) (b T:Nat) (s n:Value) (h:nE w b T s n):Calls Tq.prog 310 #[.pointer (some ⟨b,0,none⟩)] w λe w'=>e=.returned s/\w'=w:=by have k0:w.cell? ⟨b,0,none⟩=some s:=aM.at (i:=0) h rfl;go_enter Tq.func310,Tryz.ntmps310;go_wp2_with fail;go_ret;exact ⟨rfl,rfl⟩
def pR (a:M B×Bool) (t:B):M B×Bool:=match a.1.get (dA t) with
 |some u=>if u≠t then (a.1,true) else (a.1.put (dA t) t,a.2)
 |none=>(a.1.put (dA t) t,a.2)
theorem MZ (l:List B) (t:B):aD (l++[t])=pR (aD l) t:=by unfold aD;rw [List.foldl_append];rfl
theorem Vf (a:M B×Bool) (t:B):(pR a t).1.length<=a.1.length+1:=by
 unfold pR;split
 ·split
  ·exact Nat.le_succ _
  ·exact M.gU _ _ _
 ·exact M.gU _ _ _
theorem PR (l:List B):(aD l).1.length<=l.length:=by
 have key:∀(l:List B) (a:M B×Bool),(l.foldl pR a).1.length<=a.1.length+l.length:=by
  intro l
  induction l with
  |nil=>exact λa=>Nat.le_refl _
  |cons t r ih=>intro a;have h1:=ih (pR a t);have h2:=Vf a t;show (r.foldl pR (pR a t)).1.length<=a.1.length+(r.length+1);omega
 have:=key l ([],false);rw [List.length_nil,Nat.zero_add] at this;exact this
theorem PS (w:World) (qc:Option Addr) (nc cc:Nat) (ov:Value) (os:List B) (vs:List Value) (B1:Nat) (ay:w.ownsRow B1 106 1 ov os.length vs) (EE:wN (Ob w) os vs) (hn:os.length<=1000):
 Calls Tq.prog 126 #[.slice qc nc cc,ov] w λe w'=>e=.returned (aG (w.heap.size+1))/\kK w' (w.heap.size+1) w.heap.size (.slice qc nc cc) (aD os).1 (aD os).2/\Below w.heap.size w w':=by
 refine nA λcs=>?_;obtain ⟨pv,qE,rfl,iX⟩:=Lo.fZ ay;have hmm:=@run_makeMap Tq.prog;have EF:=λk hk=>(ay.lt k hk).2;have X:=z37 (p37 iX (p37 EE (p37 hn EF)));clear iX EE ay hn EF;refine LV.enter Tq.func126 rfl ?_;simp only [Tryz.ntmps126,List.size_toArray,List.length_cons,List.length_nil,Nat.reduceAdd,Nat.reduceSub,Array.replicate_succ,Array.replicate_zero,List.push_toArray,List.append_toArray,List.nil_append,List.cons_append];refine LV.seq (LV.reg rfl λR hR=>?_);replace hR:=z37 hR;go_wp2_with fail;refine hR.out _ _ ?_;clear hR R;obtain ⟨n,hn⟩:∃n,n=w.heap.size:=⟨_,rfl⟩
 refine LV.seq (LV.reg rfl λR hR=>?_);replace hR:=z37 hR;go_wp2_with fail;refine hR.out _ _ ?_;clear hR R;clear hmm;refine LV.seq (LV.seq (LV.reg rfl λR hR=>?_));replace hR:=z37 hR;go_wp2_with fail;refine hR.out _ _ ?_;clear hR R;simp only [World.size_alloc,<-hn];obtain ⟨w1,sD⟩:∃w1,w1=(w.alloc (.map #[] 0)).alloc (.cells #[.slice qc nc cc,.map (some n),.bool false] 155):=⟨_,rfl⟩
 rw [<-sD];refine LV.block ?_;have Jh:w1.heap.size=n+2:=by rw [sD];simp only [World.size_alloc];omega
 have hP0:kK w1 (n+1) n (.slice qc nc cc) [] false:=by
  refine ⟨?_,[],?_,.nil⟩
  ·unfold aM;rw [sD,aO,if_pos (by simp;omega)]
  ·refine (hn▸SM.made w:SM (w.alloc (.map #[] 0)) n []).block ?_;rw [sD,aO,if_neg (by simp;omega)]
 have hB0:Below n w w1:=by rw [sD,hn];exact ((Below.refl _ w).alloc (Nat.le_refl _) _).alloc (by simp) _
 clear sD;refine LV.while (m:=os.length) (λm W a=>∃(i:Nat) (x2 x3 x4 x6 x7 x8 x9 x10 x11 x12 x13 x17 x18 x19 x20 x21 x22 x23 x24 x25 x26 x27 x28 x29 x30 x31 x32 x33 x34 x35 x36 x37 x38 x39 x40 x41 x42 x43 x44 x45 x46 x47 x48:Value),a={tmps:=#[.slice qc nc cc,.slice pv os.length qE,x2,x3,x4,.pointer (some ⟨n+1,0,none⟩),x6,x7,x8,x9,x10,x11,x12,x13,.slice pv os.length qE,.int .i64 (os.length:Nat),.int .i64 (i:Nat),x17,x18,x19,x20,x21,x22,x23,x24,x25,x26,x27,x28,x29,x30,x31,x32,x33,x34,x35,x36,x37,x38,x39,x40,x41,x42,x43,x44,x45,x46,x47,x48],defers:=[]}/\m=os.length - i/\i<=os.length/\kK W (n+1) n (.slice qc nc cc) (aD (os.take i)).1 (aD (os.take i)).2/\Below n w W) ⟨0,_,_,_,_,_,_,_,_,_,_,_,_,_,_,_,_,_,_,_,_,_,_,_,_,_,_,_,_,_,_,_,_,_,_,_,_,_,_,_,_,_,_,_,rfl,rfl,Nat.zero_le _,hP0,hB0⟩ ?_;clear hP0 hB0 Jh;rintro m W a ⟨i,x2,x3,x4,x6,x7,x8,x9,x10,x11,x12,x13,x17,x18,x19,x20,x21,x22,x23,x24,x25,x26,x27,x28,x29,x30,x31,x32,x33,x34,x35,x36,x37,x38,x39,x40,x41,x42,x43,x44,x45,x46,x47,x48,rfl,rfl,hle,hP,hB⟩ IH;replace IH:=z37 IH;dsimp only;by_cases aI:i<os.length
 case neg=>
  have Bf:i=os.length:=by omega
  subst Bf;have qw:((os.length:Int)<(os.length:Int))=False:=eq_false (by omega);rw [List.take_length] at hP;have Y:=z37 (p37 hP (p37 hB hn));clear hP hB hn aI hle;refine LV.seq (LV.reg rfl λR hR=>?_);replace hR:=z37 hR;go_wp2_with fail;refine hR.out _ _ ?_;clear hR R;refine LV.seq (LV.cond (t:=false) rfl (LV.exit rfl ?_));refine LV.seq (LV.reg rfl λR hR=>?_);replace hR:=z37 hR;go_wp2_with fail;refine hR.out _ _ ?_;clear hR R;refine LV.ret rfl (LV.left rfl rfl rfl rfl Tq.func126 (results_tmp rfl _ _ _) ⟨rfl,Y.out.1,Y.out.2.1⟩)
 obtain ⟨t,ht⟩:∃o,os[i]? =some o:=⟨_,List.getElem?_eq_getElem aI⟩
 obtain ⟨v,hv,GV⟩:=X.out.2.1.at_ ht;obtain ⟨p,rfl,hp1,hp2,cz⟩:=X.out.1 i v hv;obtain ⟨o,b,nv,h1,rfl,h3,h4,h5⟩:=GV;have uI:os.take (i+1)=os.take i++[t]:=by rw [List.take_add_one,ht];rfl
 have qw:((i:Int)<(os.length:Int))=True:=eq_true (by omega);have VQ:i<1000000:=by have:=X.out.2.2.1;omega
 have hpl:p.block<n:=by rw [hn];exact X.out.2.2.2 _ hp2
 have hc:W.cell? (p.add i)=some (.iface (ED o.kind) (aG b)):=by rw [<-cz];exact hB.cell (by unfold Addr.add;split<;>exact hpl)
 have Mj:t.length<=maxLen:=by unfold maxLen;omega
 have FH:∀W',Below n w W'->Calls Tq.prog 310 #[.pointer (some ⟨b,0,none⟩)] W' λe w'=>e=.returned (.string ⟨t.toArray⟩)/\w'=W':=λW' h'=>Br W' b _ (av t) nv (aM.aA h3 (aj.nK (hn▸h')) (λe=>e));have mT:=λW'=>Q7 o.kind ⟨b,0,none⟩ W';have aDr:=z37 (FH W hB);have Y:=z37 (p37 hP (p37 hB (p37 hn (p37 hle (p37 aI (p37 FH (p37 h1 (p37 h3 (p37 h4 (p37 h5 (p37 uI Mj)))))))))));clear hP hB hn hle aI FH h1 h3 h4 h5 uI hv ht hp1 hp2 cz Mj hpl;unfold aG at hc;refine LV.seq (LV.reg rfl λR hR=>?_);replace hR:=z37 hR;go_wp2_with fail;refine hR.out _ _ ?_;clear hR R;refine LV.seq (LV.cond (t:=true) rfl (LV.skip (LV.seq (LV.block (LV.seq (LV.reg rfl λR hR=>?_))))));replace hR:=z37 hR;go_wp2_with fail;refine hR.out _ _ ?_;clear hR R;refine LV.seq (LV.reg rfl λR hR=>?_);replace hR:=z37 hR;go_wp2_with fail;refine aDr.out.mono ?_;rintro e W1 ⟨rfl,rfl⟩;have aLD:=z37 (Wb.l7 ⟨t.toArray⟩ W1 Y.out.2.2.2.2.2.2.2.2.2.2.2);go_wp2_with fail;refine aLD.out.mono ?_;rintro e W2 ⟨rfl,gQ⟩;have hid:Tx.dA (⟨t.toArray⟩:ByteArray).data.toList=Tx.dA t:=rfl;simp only [hid];clear hid;go_wp2_with fail;refine hR.out _ _ ?_;clear hR R;clear aLD aDr;obtain ⟨hP,hB,hn,hle,aI,FH,h1,h3,h4,h5,uI,Mj⟩:=Y.out;have c2:aj (λ_=>False) W1 W2:=aj.nK gQ;have Jr:Below n w W2:=hB.trans (c2.below (hn▸hB.size) (λ_ e=>e.elim));have Jq:=hP.aA c2 (Rx.Safe.none W1) (λe=>e) (λe=>e);have Pw:Ob W2 t (.iface (ED o.kind) (.pointer (some ⟨b,0,none⟩))):=by
  have:Ob w t (.iface (ED o.kind) (.pointer (some ⟨b,0,none⟩))):=⟨o,b,nv,h1,rfl,h3,h4,h5⟩
  exact Ob.aA this (aj.nK (hn▸Jr)) (Rx.Safe.none w)
 have aDr:=z37 (FH W2 Jr);have k1:W2.cell? ⟨n+1,1,none⟩=some (.map (some n)):=Jq.blk.at rfl;have k2:W2.cell? ⟨n+1,2,none⟩=some (.bool (aD (os.take i)).2):=Jq.blk.at rfl;have f2:=Jq.blk.frozen (i:=2) (.inr (Nat.zero_le _));have Jn:=PR (os.take i);have Bg:=MZ (os.take i) t;rw [<-uI] at Bg;generalize hG:aD (os.take i)=G at Jq k2 Jn Bg hP;obtain ⟨gm,gc⟩:=G;obtain ⟨mv,ry,ky⟩:=Jq.waits;have hml:gm.length<1000000:=by rw [List.length_take] at Jn;have:=X.out.2.2.1;simp only at Jn;omega
 have MF:(Tx.dA t).length<=maxLen:=by have:=U4 8 (Tx.PU t);unfold Tx.dA maxLen;omega
 have hg:=OM.get (b:=n) ky (Tx.dA t);have Y:=z37 (p37 Jq (p37 Jr (p37 hn (p37 hle (p37 aI (p37 Pw (p37 FH (p37 Bg (p37 hml ky)))))))));clear hP hB hn hle aI FH h1 h3 h4 h5 uI Mj c2 gQ Jq Jr Pw Jn Bg hc hml ky;refine LV.seq (LV.reg rfl λR hR=>?_);replace hR:=z37 hR;go_wp2_with (at_lookup;refine Mp.lookup rfl _ _ 55 rfl 106 ((Tq.underlying 55).trans Tryz.underlying55) (z:=.nilIface) (by simp [Tryz.zeroValue106]) n mv rfl ry ⟨(Tx.dA t).toArray⟩ rfl MF ?_);refine hR.out _ _ ?_;clear hR R;rcases pE hg with ⟨e1,e2⟩|⟨u,b2,kd2,e1,e2⟩
 ·rw [e1];have hmv:mv.length<maxLen:=by have:=Y.out.2.2.2.2.2.2.2.2.2.length;have:=Y.out.2.2.2.2.2.2.2.2.1;unfold maxLen;omega
  have E:=z37 (p37 e1 e2);clear e1 e2 hg;refine LV.seq (LV.seq (LV.reg rfl λR hR=>?_));replace hR:=z37 hR;go_wp2_with fail;refine hR.out _ _ ?_;clear hR R;refine LV.cond (t:=false) rfl (LV.skip ?_);refine LV.reg rfl λR hR=>?_;replace hR:=z37 hR;go_wp2_with (at_mapUpdate;refine Mp.store rfl _ _ _ 55 rfl 106 ((Tq.underlying 55).trans Tryz.underlying55) n mv rfl ry hmv ⟨(Tx.dA t).toArray⟩ (.iface (ED o.kind) (.pointer (some ⟨b,0,none⟩))) rfl rfl MF ?_;intro w4 NL VJ);refine hR.out _ _ ?_;clear hR R;obtain ⟨Jq,Jr,hn,hle,aI,Pw,FH,Bg,hml,ky⟩:=Y.out;have Fx:pR (gm,gc) t=(gm.put (dA t) t,gc):=by unfold pR;rw [show M.get gm (dA t)=none from E.out.2]
  rw [Fx] at Bg;have c4:aj (·=n) W2 w4:=dY VJ;have ru:Rx.Safe W2 (·=n):=λk cur T fz hk hb=>absurd hb (by subst hk;exact OM.eQ ⟨mv,ry,ky⟩ _ _ _);have hn1:n+1≠n:=by omega
  have hP4:kK w4 (n+1) n (.slice qc nc cc) (aD (os.take (i+1))).1 (aD (os.take (i+1))).2:=by
   rw [Bg];refine ⟨?_,_,NL,?_⟩
   ·exact Jq.blk.aA c4 hn1
   ·exact (ky.put _ Pw).mono λk x y _ hr=>Ob.aA hr c4 ru
  have hB4:Below n w w4:=Jr.trans (c4.below (hn▸Jr.size) (λk e=>by rw [e];exact Nat.le_refl _));refine LV.inBlock ?_;refine LV.reg rfl λR hR=>?_;replace hR:=z37 hR;go_wp2_with fail;refine hR.out _ _ ?_;clear hR R;exact IH.out (os.length - (i+1)) _ _ (by omega) ⟨i+1,_,_,_,_,_,_,_,_,_,_,_,_,_,_,_,_,_,_,_,_,_,_,_,_,_,_,_,_,_,_,_,_,_,_,_,_,_,_,_,_,_,_,_,rfl,rfl,by omega,hP4,hB4⟩
 ·rw [e1];have hmv:mv.length<maxLen:=by have:=Y.out.2.2.2.2.2.2.2.2.2.length;have:=Y.out.2.2.2.2.2.2.2.2.1;unfold maxLen;omega
  rw [e1,e2] at hg;obtain ⟨o2,b3,nv2,q1,q2,q3,q4,q5⟩:=hg;injection q2 with q0 q2;injection q2 with q2;injection q2 with q2;injection q2 with q2 q9;subst q2;have C2:Hid (Calls Tq.prog 310 #[.pointer (some ⟨b2,0,none⟩)] W2 λe w'=>e=.returned (.string ⟨u.toArray⟩)/\w'=W2):=z37 (Br W2 b2 _ (av u) nv2 q3);have mT2:=λW'=>Q7 kd2 ⟨b2,0,none⟩ W';have E:=z37 (p37 e1 e2);clear e1 e2 q1 q3 q4 q5 q0;refine LV.seq (LV.seq (LV.reg rfl λR hR=>?_));replace hR:=z37 hR;go_wp2_with fail;refine C2.out.mono ?_;rintro e W3 ⟨rfl,rfl⟩;go_wp2_with fail;refine aDr.out.mono ?_;rintro e W4 ⟨rfl,rfl⟩;go_wp2_with fail;refine hR.out _ _ ?_;clear hR R;by_cases hut:u=t
  case neg=>
   have hb:(u==t)=false:=beq_false_of_ne hut;rw [hb];have U:=z37 hut;clear hut hb;refine LV.cond (t:=true) rfl (LV.seq (LV.reg rfl λR hR=>?_));replace hR:=z37 hR;go_wp2_with fail;refine hR.out _ _ ?_;clear hR R;refine LV.exit rfl ?_;obtain ⟨Jq,Jr,hn,hle,aI,Pw,FH,Bg,hml,ky⟩:=Y.out;have Fx:pR (gm,gc) t=(gm,true):=by unfold pR;rw [show M.get gm (dA t)=some u from E.out.2];exact if_pos U.out
   rw [Fx] at Bg;have hP4:kK (W4.setCell ⟨n+1,2,none⟩ (.bool true)) (n+1) n (.slice qc nc cc) (aD (os.take (i+1))).1 (aD (os.take (i+1))).2:=by
    rw [Bg];have c4:aj (·=n+1) W4 (W4.setCell ⟨n+1,2,none⟩ (.bool true)):=aj.setCell (S:=(·=n+1)) (aj.refl _ W4) (p:=⟨n+1,2,none⟩) (.inl rfl) _;have ru:Rx.Safe W4 (·=n+1):=λk cur T fz hk hb=>by
     subst hk;have:=Jq.blk;unfold aM at this;rw [this] at hb;injection hb with hb;injection hb with _ hb _;subst hb;decide
    exact ⟨aM.set Jq.blk 2 _,Jq.waits.aA c4 ru (by omega)⟩
   have hB4:Below n w (W4.setCell ⟨n+1,2,none⟩ (.bool true)):=Jr.trans ((aj.setCell (S:=(·=n+1)) (aj.refl _ W4) (p:=⟨n+1,2,none⟩) (.inl rfl) _).below (hn▸Jr.size) (λk e=>by rw [e];exact Nat.le_succ _));clear hn;refine LV.reg rfl λR hR=>?_;replace hR:=z37 hR;go_wp2_with fail;refine hR.out _ _ ?_;clear hR R;exact IH.out (os.length - (i+1)) _ _ (by omega) ⟨i+1,_,_,_,_,_,_,_,_,_,_,_,_,_,_,_,_,_,_,_,_,_,_,_,_,_,_,_,_,_,_,_,_,_,_,_,_,_,_,_,_,_,_,_,rfl,rfl,by omega,hP4,hB4⟩
  subst hut;have hb:(u==u)=true:=by simp
  rw [hb];clear hb;refine LV.cond (t:=false) rfl (LV.skip ?_);refine LV.reg rfl λR hR=>?_;replace hR:=z37 hR;go_wp2_with (at_mapUpdate;refine Mp.store rfl _ _ _ 55 rfl 106 ((Tq.underlying 55).trans Tryz.underlying55) n mv rfl ry hmv ⟨(Tx.dA u).toArray⟩ (.iface (ED o.kind) (.pointer (some ⟨b,0,none⟩))) rfl rfl MF ?_;intro w4 NL VJ);refine hR.out _ _ ?_;clear hR R;obtain ⟨Jq,Jr,hn,hle,aI,Pw,FH,Bg,hml,ky⟩:=Y.out;have Fx:pR (gm,gc) u=(gm.put (dA u) u,gc):=by unfold pR;rw [show M.get gm (dA u)=some u from E.out.2];exact if_neg (λh=>h rfl)
  rw [Fx] at Bg;have c4:aj (·=n) W4 w4:=dY VJ;have ru:Rx.Safe W4 (·=n):=λk cur T fz hk hb=>absurd hb (by subst hk;exact OM.eQ ⟨mv,ry,ky⟩ _ _ _);have hn1:n+1≠n:=by omega
  have hP4:kK w4 (n+1) n (.slice qc nc cc) (aD (os.take (i+1))).1 (aD (os.take (i+1))).2:=by
   rw [Bg];refine ⟨?_,_,NL,?_⟩
   ·exact Jq.blk.aA c4 hn1
   ·exact (ky.put _ Pw).mono λk x y _ hr=>Ob.aA hr c4 ru
  have hB4:Below n w w4:=Jr.trans (c4.below (hn▸Jr.size) (λk e=>by rw [e];exact Nat.le_refl _));refine LV.inBlock ?_;refine LV.reg rfl λR hR=>?_;replace hR:=z37 hR;go_wp2_with fail;refine hR.out _ _ ?_;clear hR R;exact IH.out (os.length - (i+1)) _ _ (by omega) ⟨i+1,_,_,_,_,_,_,_,_,_,_,_,_,_,_,_,_,_,_,_,_,_,_,_,_,_,_,_,_,_,_,_,_,_,_,_,_,_,_,_,_,_,_,_,rfl,rfl,by omega,hP4,hB4⟩
end De
namespace De
open Tx Sp Wg Rd Bk Wi Se Rx Mp Lv Qu
def wH (S:St) (x:B×B):Bool:=match S.ah.get x.1 with|some t=>t≠x.2|none=>false
theorem Ni (w:World) (st mo mr pb mw:Nat) (μ:Int) (S:St) (cv:Value) (p:M B) (cl:Bool) (hS:qZ w st mo mr μ S) (hP:kK w pb mw cv p cl) (hn:p.length<=1000) (hk:∀x∈p,x.1.length<=maxLen):
 Calls Tq.prog 176 #[aG st,aG pb] w λe w'=>e=.returned (.bool (Sp.kP S p cl))/\Below w.heap.size w w':=by
 refine nA λcs=>?_;obtain ⟨mv,ry,ky⟩:=hP.waits;have hlen:=ky.length;have K:=z37 (Ks.aCo w mw mv ry (by omega));have UQ:=OM.up hP.waits;have k1:w.cell? ⟨pb,1,none⟩=some (.map (some mw)):=hP.blk.at rfl;have X:=z37 (p37 hS (p37 hP (p37 hn (p37 hk (p37 ky UQ)))));clear hS hP hn hk ky UQ ry;unfold aG;refine LV.enter Tq.func176 rfl ?_;simp only [Tryz.ntmps176,List.size_toArray,List.length_cons,List.length_nil,Nat.reduceAdd,Nat.reduceSub,Array.replicate_succ,Array.replicate_zero,List.push_toArray,List.append_toArray,List.nil_append,List.cons_append];refine LV.seq (LV.reg rfl λR hR=>?_);replace hR:=z37 hR;go_wp2_with fail;refine hR.out _ _ ?_;clear hR R;refine LV.seq (LV.seq (LV.reg rfl λR hR=>?_));replace hR:=z37 hR;go_wp2_with fail;refine K.out.mono ?_;rintro e w1 ⟨v,rfl,ay,Ve⟩;rw [hlen] at ay;obtain ⟨pk,aQq,rfl,iX⟩:=Lo.fZ ay;rw [X.out.2.2.2.2.1.keys] at iX;have Z:=z37 (p37 iX Ve);clear iX Ve ay K hlen k1;go_wp2_with fail;refine hR.out _ _ ?_;clear hR R;refine LV.block ?_;refine LV.while (m:=p.length) (λm W a=>∃(i:Nat) (x2 x3 x4 x5 x6 x7 x8 x9 x10 x11 x15 x16 x17 x18 x19 x20 x21 x22 x23 x24 x25 x26 x27 x28 x29 x30 x31 x32 x33 x34 x35 x36 x37 x38 x39 x40 x41 x42:Value),a={tmps:=#[.pointer (some ⟨st,0,none⟩),.pointer (some ⟨pb,0,none⟩),x2,x3,x4,x5,x6,x7,x8,x9,x10,x11,.slice pk p.length aQq,.int .i64 (p.length:Nat),.int .i64 (i:Nat),x15,x16,x17,x18,x19,x20,x21,x22,x23,x24,x25,x26,x27,x28,x29,x30,x31,x32,x33,x34,x35,x36,x37,x38,x39,x40,x41,x42],defers:=[]}/\m=p.length - i/\i<=p.length/\(p.take i).any (wH S)=false/\aj (λ_=>False) w1 W) ⟨0,_,_,_,_,_,_,_,_,_,_,_,_,_,_,_,_,_,_,_,_,_,_,_,_,_,_,_,_,_,_,_,_,_,_,_,_,_,_,rfl,rfl,Nat.zero_le _,rfl,aj.refl _ _⟩ ?_;rintro m W a ⟨i,x2,x3,x4,x5,x6,x7,x8,x9,x10,x11,x15,x16,x17,x18,x19,x20,x21,x22,x23,x24,x25,x26,x27,x28,x29,x30,x31,x32,x33,x34,x35,x36,x37,x38,x39,x40,x41,x42,rfl,rfl,hle,iw,hW⟩ IH;replace IH:=z37 IH;dsimp only;obtain ⟨iX,Ve⟩:=Z.out;replace Ve:Below w.heap.size w W:=Ve.trans (hW.below Ve.size (λ_ e=>e.elim));obtain ⟨hS,hP,Y6,MF,ky,UQ⟩:=X.out;have c1:aj (λ_=>False) w W:=aj.nK Ve;have D8:=hS.aA c1 (Rx.Safe.none w) (λe=>e) (λe=>e) (λe=>e);have ZQ:=hP.aA c1 (Rx.Safe.none w) (λe=>e) (λe=>e);have k1:W.cell? ⟨pb,1,none⟩=some (.map (some mw)):=ZQ.blk.at rfl;have k2:W.cell? ⟨pb,2,none⟩=some (.bool cl):=ZQ.blk.at rfl;have k4:W.cell? ⟨st,4,none⟩=some (.map (some mo)):=D8.blk.at rfl;by_cases aI:i<p.length
 case neg=>
  have Bf:i=p.length:=by omega
  subst Bf;rw [List.take_length] at iw;have yP:Sp.kP S p cl=cl:=by show (p.any (wH S)||cl)=cl;rw [iw];rfl
  have qw:((p.length:Int)<(p.length:Int))=False:=eq_false (by omega);have Y:=z37 (p37 yP Ve);clear yP Ve hW aI hle iw hS hP Y6 MF ky UQ D8 ZQ c1 iX;refine LV.seq (LV.reg rfl λR hR=>?_);replace hR:=z37 hR;go_wp2_with fail;refine hR.out _ _ ?_;clear hR R;refine LV.seq (LV.cond (t:=false) rfl (LV.exit rfl ?_));refine LV.seq (LV.reg rfl λR hR=>?_);replace hR:=z37 hR;go_wp2_with fail;refine hR.out _ _ ?_;clear hR R;exact LV.ret rfl (LV.left rfl rfl rfl rfl Tq.func176 (results_tmp rfl _ _ _) ⟨by rw [Y.out.1];rfl,Y.out.2⟩)
 obtain ⟨⟨k,t⟩,hx⟩:∃x,p[i]? =some x:=⟨_,List.getElem?_eq_getElem aI⟩
 obtain ⟨a,rfl,-,-,cz⟩:=iX i (av k) (by rw [List.getElem?_map,List.getElem?_map,hx];rfl);replace cz:=hW.bB cz (λe=>e);have uI:p.take (i+1)=p.take i++[(k,t)]:=by rw [List.take_add_one,hx];rfl
 have oI:(k,t)∈p:=List.mem_of_getElem? hx;have hkk:k.length<=maxLen:=MF _ oI;have iP:=M.get_of_mem UQ oI;have qw:((i:Int)<(p.length:Int))=True:=eq_true (by omega);have VQ:i<1000000:=by omega
 obtain ⟨ov,Px,JY⟩:=D8.ah;obtain ⟨pv,hp1,hp2⟩:=ZQ.waits;have hg:=OM.get (b:=mo) JY k;have hgp:=OM.get (b:=mw) hp2 k;rw [iP] at hgp;have Rp:wH S (k,t)=match S.ah.get k with|some u=>u≠t|none=>false:=rfl
 have ZM:(p.take (i+1)).any (wH S)=wH S (k,t):=by rw [uI,List.any_append,iw];simp
 have Y:=z37 (p37 Ve (p37 hW (p37 hle (p37 aI (p37 oI (p37 Rp (p37 ZM iw)))))));clear Ve hW aI hle iw hS hP Y6 MF ky UQ D8 ZQ c1 iX hx uI oI iP JY Rp ZM;unfold av at cz;refine LV.seq (LV.reg rfl λR hR=>?_);replace hR:=z37 hR;go_wp2_with fail;refine hR.out _ _ ?_;clear hR R;refine LV.seq (LV.cond (t:=true) rfl (LV.skip (LV.seq (LV.block (LV.seq (LV.reg rfl λR hR=>?_))))));replace hR:=z37 hR;go_wp2_with fail;refine hR.out _ _ ?_;clear hR R;refine LV.seq (LV.reg rfl λR hR=>?_);replace hR:=z37 hR;go_wp2_with (at_lookup;refine Mp.lookup rfl _ _ 55 rfl 106 ((Tq.underlying 55).trans Tryz.underlying55) (z:=.nilIface) (by simp [Tryz.zeroValue106]) mo ov rfl Px ⟨k.toArray⟩ rfl hkk ?_);refine hR.out _ _ ?_;clear hR R;rcases pE hg with ⟨e1,e2⟩|⟨u,b2,kd2,e1,e2⟩
 ·rw [e1];have E:=z37 e2;clear e1 e2 hg;refine LV.seq (LV.tq rfl λR hR=>?_);replace hR:=z37 hR;go_quiet (fail)
  refine hR.out _ _ ?_;clear hR R;refine LV.cond (t:=false) rfl (LV.skip (LV.inBlock ?_));refine LV.reg rfl λR hR=>?_;replace hR:=z37 hR;go_wp2_with fail;refine hR.out _ _ ?_;clear hR R;exact IH.out (p.length - (i+1)) _ _ (by have:=Y.out.2.2.2.1;omega) ⟨i+1,_,_,_,_,_,_,_,_,_,_,_,_,_,_,_,_,_,_,_,_,_,_,_,_,_,_,_,_,_,_,_,_,_,_,_,_,_,_,rfl,rfl,Y.out.2.2.2.1,by rw [Y.out.2.2.2.2.2.2.1,Y.out.2.2.2.2.2.1,E.out],Y.out.2.1.drewN nq⟩
 rw [e1];rw [e2] at hg;have E:=z37 (p37 e1 e2);rw [e1] at hg;obtain ⟨o2,b3,nv2,q1,q2,q3,q4,q5⟩:=hg;injection q2 with q0 q2;injection q2 with q2;injection q2 with q2;injection q2 with q2 q9;subst q2;have C2:∀k,Calls Tq.prog 310 #[.pointer (some ⟨b2,0,none⟩)] (W.drewN k) λe w'=>e=.returned (.string ⟨u.toArray⟩)/\w'=W.drewN k:=λk=>Br (W.drewN k) b2 _ (av u) nv2 q3;have mT2:=λW'=>Q7 kd2 ⟨b2,0,none⟩ W';clear e1 e2 q1 q3 q4 q5 q0;obtain ⟨fv,hfv⟩:∃x,x=(pv.get k).getD .nilIface:=⟨_,rfl⟩
 rw [<-hfv] at hgp;obtain ⟨o4,b4,nv4,r1,rfl,r3,r4,r5⟩:=hgp;have C4:∀k,Calls Tq.prog 310 #[.pointer (some ⟨b4,0,none⟩)] (W.drewN k) λe w'=>e=.returned (.string ⟨t.toArray⟩)/\w'=W.drewN k:=λk=>Br (W.drewN k) b4 _ (av t) nv4 r3;have mT4:=λW'=>Q7 o4.kind ⟨b4,0,none⟩ W';have yn:∀d,(Instr.lookup 55 (.map (some mw)) (.string ⟨k.toArray⟩) false).run Tq.prog (W.drewN d)=.ok (.iface (ED o4.kind) (.pointer (some ⟨b4,0,none⟩))) (W.drewN d):=by
  intro d;obtain ⟨lv,lps,yn,JZ⟩:=World.ownsMap.lookup (w:=W.drewN d) (Mp.SM.block hp1 rfl) L6 (t:=55) (e:=106) ((Tq.underlying 55).trans Tryz.underlying55) (z:=.nilIface) (by simp [Tryz.zeroValue106]) (zd:=.held .nilIface) (zp:=[]) rfl (DK (s:=⟨k.toArray⟩) hkk);have aGj:lv=.iface (ED o4.kind) (.pointer (some ⟨b4,0,none⟩)):=by
   rw [yC] at JZ;unfold RV at JZ;have MK:Value.iface (ED o4.kind) (aG b4)=(pv.get (⟨k.toArray⟩:ByteArray).data.toList).getD .nilIface:=hfv;cases hh:pv.get (⟨k.toArray⟩:ByteArray).data.toList with
   |none=>rw [hh] at JZ MK;simp at JZ MK
   |some z=>rw [hh] at JZ MK;simp at JZ MK;rw [JZ.1];exact MK.symm
  rw [<-aGj];exact yn
 clear hfv r1 r4 r5;refine LV.seq (LV.tq rfl λR hR=>?_);replace hR:=z37 hR;go_quiet (first|(exact Calls.quiet_of_same (C2 _))|(exact Calls.quiet_of_same (C4 _)))
 refine hR.out _ _ ?_;clear hR R;by_cases hut:u=t
 ·subst hut;have hb:(u==u)=true:=by simp
  rw [hb];clear hb;refine LV.cond (t:=false) rfl (LV.skip (LV.inBlock ?_));refine LV.reg rfl λR hR=>?_;replace hR:=z37 hR;go_wp2_with fail;refine hR.out _ _ ?_;clear hR R;exact IH.out (p.length - (i+1)) _ _ (by have:=Y.out.2.2.2.1;omega) ⟨i+1,_,_,_,_,_,_,_,_,_,_,_,_,_,_,_,_,_,_,_,_,_,_,_,_,_,_,_,_,_,_,_,_,_,_,_,_,_,_,rfl,rfl,Y.out.2.2.2.1,by rw [Y.out.2.2.2.2.2.2.1,Y.out.2.2.2.2.2.1,E.out.2];simp,Y.out.2.1.drewN nq⟩
 have hb:(u==t)=false:=beq_false_of_ne hut;rw [hb];have U:=z37 hut;clear hb hut;refine LV.cond (t:=true) rfl (LV.seq (LV.reg rfl λR hR=>?_));replace hR:=z37 hR;go_wp2_with fail;refine hR.out _ _ ?_;clear hR R;refine LV.ret rfl (LV.left rfl rfl rfl rfl Tq.func176 (results_tmp rfl _ _ _) ⟨?_,?_⟩)
 ·have:Sp.kP S p cl=true:=by
   show (p.any (wH S)||cl)=true;have h1:p.any (wH S)=true:=List.any_eq_true.2 ⟨(k,t),Y.out.2.2.2.2.1,by rw [Y.out.2.2.2.2.2.1,E.out.2];simpa using U.out⟩;rw [h1];rfl
  rw [this];rfl
 ·exact Y.out.1.trans ((aj.drewN (aj.refl (λ_=>False) W) nq).below Y.out.1.size (λ_ e=>e.elim))
end De
end
end Go.Proofs.YtmanpggemmgnnaaGreatDoor
