/- Ends: a part. Conditions: none. -/
import Derived.Test.YtmanpggemmgnnaaGreatDoorA40
set_option linter.all false
set_option maxHeartbeats 8000000
set_option maxRecDepth 1000000
namespace Go.Proofs.YtmanpggemmgnnaaGreatDoor
noncomputable section
open Go Go.RowKit Go.Shelf Ba Fr Tryz
def ğ:=@ByteArray.toList_eq
def xi{p:Prop}(h:p:=by kernel_rfl):p:=h
def vt{p}(h:p):Go.RowKit.Hid p:=Go.Lib.hid h
def AH{a b}(x:a)(y:b):a/\b:=⟨x,y⟩
namespace De
open Tx Sp Wg Rd Bk Wi Se Rx Mp Lv Qu Lo
def aAO(w:World)(s st lk mo mr:Nat)(m:Int)(cb:Value)(rs:List Nat)(S:St)(k:ByteArray)(BF:Sr w s st lk m cb rs)(hS:qZ w st mo mr 0 S)(A:k.size<=maxLen):
 Calls Tq.prog 33 #[aG s,.string k] w λe U=>e=.returned (Tz.aEL (M.get S.ah k.data.toList))/\aj (λ_=>False) w U:=by
 obtain⟨V,J,_⟩:=hS.aGh;refine(Tz.OX w s st lk mo mr m cb rs S k BF hS A V J).mono ?_;rintro e U ⟨rfl,hb,L⟩;exact⟨rfl,still hS.blk hb L⟩
def aEe(w:World)(s st lk mo mr:Nat)(m:Int)(cb:Value)(rs:List Nat)(S:St)(BF:Sr w s st lk m cb rs)(hS:qZ w st mo mr 0 S)(Q:S.refs.length<1099511627776):
 Calls Tq.prog 31 #[aG s] w λe U=>∃v,e=.returned v/\U.ownsRow w.heap.size 51 2 v S.refs.length (S.refs.flatMap Tz.TW)/\aj (λ_=>False) w U:=by
 obtain⟨_,_,h3⟩:=hS.aGh;refine(Tz.Dg w s st lk mo mr 0 m cb rs S.forward S.room S.refs BF hS.blk hS.refs Q h3).mono ?_;rintro e U ⟨v,rfl,tM,hb,L⟩;exact⟨v,rfl,tM,still hS.blk hb L⟩
structure Stl w s st lk mo mr m cb rs S:Prop where
 sr:Sr w s st lk m cb rs
 jC:qZ w st mo mr 0 S
def Stl.aA{w s st lk mo mr m cb rs S U}(h:Stl w s st lk mo mr m cb rs S)(L:aj (λ_=>False) w U):Stl U s st lk mo mr m cb rs S:=
 ⟨h.sr.aA L (λe=>e) (λ_ _ e=>e),h.jC.aA L (Safe.none _) (λe=>e) (λe=>e) (λe=>e)⟩
def aH9{w:World}{B0:Nat}{v:Value}{R:M B}(h:w.ownsRow B0 51 2 v R.length (R.flatMap Tz.TW))(Q:0<R.length):∃g cap,v=.slice (some ⟨g,0,none⟩) R.length cap/\∀(i:Nat) (p:B×B),R[i]? =some p->w.cell? ⟨g,i*2,none⟩=some (av p.1)/\w.cell? ⟨g,i*2+1,none⟩=some (av p.2):=by
 rcases h.2 with⟨_,h0⟩|⟨g,cap,cur,rfl,_⟩
 ·omega
 ·refine⟨g,cap,rfl,λi p hp=>?_⟩;have L:=h.cells (g:=g) rfl;have fl:∀(R:M B) (i:Nat) (p:B×B),R[i]? =some p->(R.flatMap Tz.TW)[i*2]? =some (av p.1)/\(R.flatMap Tz.TW)[i*2+1]? =some (av p.2):=by
   intro R
   induction R with
   |nil=>intro i p hp;simp at hp
   |cons a R ih=>
    intro i p hp;cases i with
    |zero=>simp at hp;subst hp;exact⟨rfl,rfl⟩
    |succ i=>have:=ih i p (by simpa using hp);rw[show(i+1)*2=i*2+2 by omega];exact this
  have e:∀j,(Addr.add ⟨g,0,none⟩ j)=⟨g,j,none⟩:=λj=>by unfold Addr.add;split<;>simp_all
  obtain⟨f1,f2⟩:=fl R i p hp;have c1:=L _ _ f1;have c2:=L _ _ f2;rw[e]at c1 c2;exact⟨c1,c2⟩
def aGm{w:World}{s st lk mo mr:Nat}{m:Int}{cb:Value}{rs:List Nat}{S:St}(h:Stl w s st lk mo mr m cb rs S){k t:B}(A:S.ah.get k=some t)(hl:k.length<=1000000):
 Calls Tq.prog 33 #[.pointer (some ⟨s,0,none⟩),.string ⟨k.toArray⟩] w λe U=>e=.returned (.tuple #[.string ⟨t.toArray⟩,.bool true])/\aj (λ_=>False) w U:=by
 have:=aAO w s st lk mo mr m cb rs S ⟨k.toArray⟩ h.sr h.jC (by rw[<-dx];unfold maxLen;show k.length<=_;omega);have e:M.get S.ah (⟨k.toArray⟩:ByteArray).data.toList=some t:=A;rw[e]at this;exact this
def aEs:∀a b:B,si a b=true->Op.bytesLess a b=true
 |_,[],h=>by unfold si at h;simp at h
 |[],_::_,_=>rfl
 |x::a,y::b,h=>by
  have ih:=aEs a b;unfold si at h ih;simp only[cN,p7]at h ih;unfold Op.bytesLess;rcases h with h|⟨rfl,h⟩
  ·simp[h]
  ·simp[ih h]
def add_zero' g k:(Addr.add ⟨g,0,none⟩ k)=⟨g,k,none⟩:=by unfold Addr.add;split<;>simp_all
def aPX{w:World}{g:Nat}{R:M B}(h:∀(i:Nat) (p:B×B),R[i]? =some p->w.cell? ⟨g,i*2,none⟩=some (av p.1)/\w.cell? ⟨g,i*2+1,none⟩=some (av p.2)){i:Nat}{p:B×B}(hp:R[i]? =some p):w.cell? ⟨g,i*2,none⟩=some (av p.1):=(h i p hp).1
def aBL{w U:World}(h:aj (λ_=>False) w U){a:Addr}{v:Value}(X:w.cell? a=some v):U.cell? a=some v:=h.bB X (λe=>e)
def aDO(w:World)(s st lk mo mr:Nat)(m0:Int)(cb:Value)(rs:List Nat)(S:St)(hs:Stl w s st lk mo mr m0 cb rs S)(aH:Qj S)(fT:AP S [])(CD:S.room<=40)(Zy:S.refs.length<=32):
 Calls Tq.prog 17 #[aG s] w λe U=>e=.returned (.bool true)/\aj (λ_=>False) w U:=by
 refine nA λcs=>?_;unfold aG;refine D.enter Tq.func17 rfl ?_;simp only[ntmps17,eC,bt,dt,Nat.reduceAdd,Nat.reduceSub,dC,dK,eI,cY,cg,cf];refine D.seq (D.rh λR I=>?_);go_wp2_with fail;refine I.out _ _ ?_;clear I R;have Rf:=aEe w s st lk mo mr m0 cb rs S hs.sr hs.jC (by omega);unfold aG at Rf;replace Rf:=vt Rf;have hv:=vt (AH hs (AH aH (AH fT CD)));clear hs aH fT CD;refine D.seq (D.rh λR I=>?_);go_wp2_with fail;refine Rf.out.mono ?_;rintro e w1 ⟨vr,rfl,tM,AD⟩;have F:=vt (AH tM AD);obtain⟨pr,cr,rfl⟩:∃p c,vr=.slice p S.refs.length c:=by
  rcases tM.2 with⟨e,e0⟩|⟨g,cap,cur,e,_⟩
  ·exact⟨none,0,by rw[e,e0]⟩
  ·exact⟨_,_,e⟩
 clear tM AD Rf;go_wp2_with fail;refine I.out _ _ ?_;clear I R;refine D.seq (D.seq (D.rh λR I=>?_));go_wp2_with fail;refine I.out _ _ ?_;clear I R;refine D.block ?_;refine D.while (m:=S.refs.length) (λm U a=>∃(i:Nat),a={tmps:=#[.pointer (some ⟨s,0,none⟩),O a 1,O a 2,.slice pr S.refs.length cr,.int .i64 (i:Nat),O a 5,O a 6,O a 7,O a 8,O a 9,O a 10,O a 11,O a 12,O a 13,O a 14,O a 15,O a 16,O a 17,O a 18,O a 19,O a 20,O a 21,O a 22,O a 23,O a 24,O a 25,O a 26,O a 27,O a 28,O a 29,O a 30,O a 31,O a 32,O a 33,O a 34,O a 35,O a 36,O a 37,O a 38,O a 39,O a 40,O a 41,O a 42,O a 43,O a 44,O a 45,O a 46,O a 47,O a 48,O a 49,O a 50,O a 51,O a 52,O a 53,O a 54,O a 55,O a 56,O a 57,O a 58,O a 59,O a 60,O a 61,O a 62,O a 63,O a 64,O a 65,O a 66,O a 67,O a 68,O a 69,O a 70,O a 71,O a 72,O a 73,O a 74,O a 75,O a 76,O a 77,O a 78,O a 79,O a 80,O a 81,O a 82,O a 83,O a 84,O a 85,O a 86,O a 87,O a 88,O a 89,O a 90,O a 91,O a 92,O a 93,O a 94,O a 95,O a 96,O a 97,O a 98,O a 99,O a 100,O a 101,O a 102,O a 103,O a 104,O a 105,O a 106,O a 107,O a 108,O a 109,O a 110,O a 111,O a 112,O a 113,O a 114,O a 115,O a 116,O a 117,O a 118],defers:=[]}/\i+m=S.refs.length/\aj (λ_=>False) w1 U) ⟨0,rfl,by omega,aj.refl _ _⟩ ?_;rintro m wr a ⟨i,ha,him,B7⟩ again;obtain⟨x,E⟩:∃x,x=O a:=⟨_,rfl⟩
 rw[<-E]at ha;clear E;subst ha;by_cases hiN:i<S.refs.length
 ·obtain⟨p,hp⟩:∃p,S.refs[i]? =some p:=⟨_,bU hiN⟩
  have T:=told hv.out.2.1 (cM hp);obtain⟨g,cap,e,L⟩:=aH9 F.out.1 (by omega);injection e with e1 e2 e3;subst e1 e3;obtain⟨c1,c2⟩:=L i p hp;replace c1:=B7.bB (p:=⟨g,i*2,none⟩) c1 (λe=>e);replace c2:=B7.bB (p:=⟨g,i*2+1,none⟩) c2 (λe=>e);obtain⟨r,ht⟩:=T.text;obtain⟨vs,FY,EE⟩:=T.head;have h8:∀k∈Sp.reach S [] p.2,k.length<=1000000:=λk A=>by
   obtain⟨t,_,_,e⟩:=T.all k A;rw[<-e];unfold dA;rw[MM];decide
  have hp8:p.2.length<=1000000:=h8 p.2 (by rw[FY];exact bj ..);have uw:=hv.out.1.aA (F.out.2.trans B7);have fx:=aGm uw ht hp8;obtain⟨tb,Hp⟩:∃tb:ByteArray,tb=⟨([99,111,109,109,105,116,32]++r).toArray⟩:=⟨_,rfl⟩
  obtain⟨kb,GY⟩:∃kb:ByteArray,kb=⟨p.2.toArray⟩:=⟨_,rfl⟩
  rw[<-Hp,<-GY]at fx;replace fx:=vt fx;have e7:((tb.extract 0 7).toList==[99,111,109,109,105,116,32])=true:=by rw[Tz.aQs,Hp];simp
  have s7:((tb.size:Int)<7)=False:=gO (by rw[Hp,<-dx];simp;omega);have l7:(7:Int)<=(tb.size:Int):=by rw[Hp,<-dx];simp;omega
  unfold av at c1 c2;rw[<-GY]at c2;have qw:((i:Int)<(S.refs.length:Int))=True:=ie (by omega);have P:=vt (AH T (AH hp (AH h8 (AH uw (AH GY (AH FY EE))))));have Hc:=vt L;replace again:=vt again;replace B7:=vt B7;clear T hp h8 uw GY FY EE L ht Hp hp8;refine D.seq (D.seq (D.rh λR I=>?_));go_wp2_with fail;refine I.out _ _ ?_;clear I R;refine D.cond rfl (D.skip (D.seq (D.block (D.seq (D.rh λR I=>?_)))));go_wp2_with fail;refine fx.out.mono ?_;rintro e w2 ⟨rfl,A4⟩;have k1:=A4.bB (p:=⟨g,i*2,none⟩) c1 (λe=>e);have k2:=A4.bB (p:=⟨g,i*2+1,none⟩) c2 (λe=>e);have C2:=vt (B7.out.trans A4);clear A4 c1 c2 B7 fx;go_wp2_with fail;refine I.out _ _ ?_;clear I R;refine D.seq (D.seq (D.tq rfl λR I=>?_));replace I:=vt I;have cont:∀(v16 v17 v18 v19 v20 v21 v22 v23 v24 v25 v26 v27 v28 v29 v30 v31 v32 v33 v34 v35 v36 v37 v38 v39 v40 v41 v42 v43 v44 v45 v46 v47 v48 v49 v50 v51 v52 v53 v54 v55 v56 v57 v58 v59 v60:Value) (n:Nat),R {tmps:=#[.pointer (some ⟨s,0,none⟩),x 1,x 2,.slice (some ⟨g,0,none⟩) S.refs.length cr,.int .i64 (i:Nat),.string tb,.bool true,x 7,x 8,x 9,x 10,x 11,x 12,x 13,x 14,x 15,v16,v17,v18,v19,v20,v21,v22,v23,v24,v25,v26,v27,v28,v29,v30,v31,v32,v33,v34,v35,v36,v37,v38,v39,v40,v41,v42,v43,v44,v45,v46,v47,v48,v49,v50,v51,v52,v53,v54,v55,v56,v57,v58,v59,v60,.bool false,x 62,x 63,x 64,x 65,x 66,x 67,x 68,x 69,x 70,x 71,x 72,x 73,x 74,x 75,x 76,x 77,x 78,x 79,x 80,x 81,x 82,x 83,x 84,x 85,x 86,x 87,x 88,x 89,x 90,x 91,x 92,x 93,x 94,x 95,x 96,x 97,x 98,x 99,x 100,x 101,x 102,x 103,x 104,x 105,x 106,x 107,x 108,x 109,x 110,x 111,x 112,x 113,x 114,x 115,x 116,x 117,x 118],defers:=[]} (w2.drewN n):=by
   intro v16 v17 v18 v19 v20 v21 v22 v23 v24 v25 v26 v27 v28 v29 v30 v31 v32 v33 v34 v35 v36 v37 v38 v39 v40 v41 v42 v43 v44 v45 v46 v47 v48 v49 v50 v51 v52 v53 v54 v55 v56 v57 v58 v59 v60 n;refine I.out _ _ ?_;clear I R;have K2:(w2.drewN n).cell? ⟨g,i*2+1,none⟩=some (.string kb):=k2;have C3:=vt (C2.out.drewN n);clear C2 k1 k2;generalize w2.drewN n=w3 at K2 C3 ⊢;refine D.cond (t:=false) rfl (D.skip ?_);obtain⟨T,hp,h8,uw,GY,FY,EE⟩:=P.out;have B9:=hv.out.1.aA (F.out.2.trans C3.out);have MF:kb.data.toList=p.2:=by rw[GY]
   have Rd:=aDU w3 s st lk mo mr m0 cb rs S kb B9.sr B9.jC (by
    rw[ğ,MF];exact fq T.nz) (by rw[GY,<-dx];exact h8 p.2 (by rw[FY];exact bj ..)) hv.out.2.2.1 (by rw[MF];have:=T.Bl;have:=hv.out.2.2.2;omega)
   rw[MF,FY]at Rd;unfold aG at Rd;replace Rd:=vt Rd;clear T hp h8 uw GY FY EE B9 MF;refine D.seq (D.rh λR I=>?_);go_wp2_with fail;refine Rd.out.mono ?_;rintro e w4 ⟨vi,rfl,tM,MS⟩;obtain⟨nL,hnL⟩:∃nL,nL=(p.2::vs).length:=⟨_,rfl⟩
   rw[<-hnL]at tM;obtain⟨gi,ci,rfl⟩:∃g c,vi=.slice (some ⟨g,0,none⟩) nL c:=by
    rcases tM.2 with⟨_,e0⟩|⟨g,cap,cur,e,_⟩
    ·rw[hnL]at e0;simp at e0
    ·exact⟨g,cap,e⟩
   replace hnL:=vt hnL;have K4:=aBL MS K2;have C4:=vt (C3.out.trans MS);have ci0:∀(k:Nat) (y:B),(p.2::vs)[k]? =some y->w4.cell? ⟨gi,k,none⟩=some (av y):=λk y hy=>by
    have:=tM.cells (g:=gi) rfl k (av y) (by rw[eL,hy];rfl);rw[add_zero']at this;exact this
   have c0:w4.cell? ⟨gi,0,none⟩=some (.string kb):=by rw[P.out.2.2.2.2.1];exact ci0 0 p.2 rfl
   have CI:=vt ci0;clear tM MS C3 K2 ci0 Rd;go_wp2_with fail;refine I.out _ _ ?_;clear I R;have Bh:2<=nL:=by
    have:=P.out.2.2.2.2.2.2;cases vs with
    |nil=>exact absurd rfl this
    |cons=>rw[hnL.out,bt,bt];omega
   have hlen:((nL:Int)<2)=False:=gO (by omega);have aPP:(0:Int)<(nL:Int):=by omega
   have heq:(kb.toList==kb.toList)=true:=by simp
   refine D.seq (D.seq (D.tq rfl λR I=>?_));replace I:=vt I;go_quiet (fail)
   refine I.out _ _ ?_;clear I R;have aWV:nL<=40:=by rw[hnL.out,<-P.out.2.2.2.2.2.1];exact cV P.out.1.Bl hv.out.2.2.2
   refine D.cond (t:=false) rfl (D.skip ?_);have C5:=vt (C4.out.drewN nq);have CI5:Hid (∀(k:Nat) (y:B),(p.2::vs)[k]? =some y->(w4.drewN nq).cell? ⟨gi,k,none⟩=some (av y)):=vt λk y h=>CI.out k y h;clear C4 CI K4 c0 heq hlen aPP s7 l7 e7;generalize w4.drewN nq=w5 at C5 CI5 ⊢;refine D.seq (D.rh λR I=>?_);go_wp2_with fail;refine I.out _ _ ?_;clear I R;refine D.block ?_;refine D.while (m:=nL) (λm U a=>∃(k:Nat),a={tmps:=#[.pointer (some ⟨s,0,none⟩),O a 1,O a 2,.slice (some ⟨g,0,none⟩) S.refs.length cr,.int .i64 (i:Nat),O a 5,O a 6,.slice (some ⟨gi,0,none⟩) nL ci,.int .i64 (k:Nat),O a 9,O a 10,O a 11,O a 12,O a 13,O a 14,O a 15,O a 16,O a 17,O a 18,O a 19,O a 20,O a 21,O a 22,O a 23,O a 24,O a 25,O a 26,O a 27,O a 28,O a 29,O a 30,O a 31,O a 32,O a 33,O a 34,O a 35,O a 36,O a 37,O a 38,O a 39,O a 40,O a 41,O a 42,O a 43,O a 44,O a 45,O a 46,O a 47,O a 48,O a 49,O a 50,O a 51,O a 52,O a 53,O a 54,O a 55,O a 56,O a 57,O a 58,O a 59,O a 60,O a 61,O a 62,O a 63,O a 64,O a 65,O a 66,O a 67,O a 68,O a 69,O a 70,O a 71,O a 72,O a 73,O a 74,O a 75,O a 76,O a 77,O a 78,O a 79,O a 80,O a 81,O a 82,O a 83,O a 84,O a 85,O a 86,O a 87,O a 88,O a 89,O a 90,O a 91,O a 92,O a 93,O a 94,O a 95,O a 96,O a 97,O a 98,O a 99,O a 100,O a 101,O a 102,O a 103,O a 104,O a 105,O a 106,O a 107,O a 108,O a 109,O a 110,O a 111,O a 112,O a 113,O a 114,O a 115,O a 116,O a 117,O a 118],defers:=[]}/\k+m=nL/\aj (λ_=>False) w5 U) ⟨0,rfl,by omega,aj.refl _ _⟩ ?_;rintro m2 wk a ⟨k,ha,hkm,G5⟩ aAI;obtain⟨x,E⟩:∃x,x=O a:=⟨_,rfl⟩
   rw[<-E]at ha;clear E;subst ha;by_cases hkL:k<nL
   ·obtain⟨y,hy⟩:∃y,(p.2::vs)[k]? =some y:=⟨_,bU (by rw[<-hnL.out];exact hkL)⟩
    obtain⟨T,hp,h8,uw,GY,FY,EE⟩:=P.out;have Gb:y∈Sp.reach S [] p.2:=by rw[FY];exact cM hy
    obtain⟨t,ht,G2,hid⟩:=T.all y Gb;have hy8:=h8 y Gb;have LS:t.length<=204:=(hv.out.2.2.1.1 (y,t) (M.get_some ht)).1;have hCk:=C5.out.trans G5;have fx:=aGm (hv.out.1.aA (F.out.2.trans hCk)) ht hy8;obtain⟨o,Ge⟩:=lA.1 G2;have c3:=aBL G5 (CI5.out k y hy);obtain⟨yb,D4⟩:∃yb:ByteArray,yb=⟨y.toArray⟩:=⟨_,rfl⟩
    obtain⟨ub,hub⟩:∃ub:ByteArray,ub=⟨t.toArray⟩:=⟨_,rfl⟩
    have Id:=λW=>Wa.Gc ub W (by rw[hub,<-dx];unfold maxLen;show t.length<=_;omega);have Lk:=λW=>Wm.aEC ub W (by rw[hub,<-dx];show t.length<_;omega);have ei:(⟨(Tx.dA ub.data.toList).toArray⟩:ByteArray)=yb:=by rw[hub,D4,<-hid]
    have el:(Tx.parse ub.data.toList).map (·.ids)=some o.ids:=by rw[hub];show(Tx.parse t).map _=_;rw[Ge];rfl
    rw[ei]at Id;rw[el]at Lk;rw[<-D4,<-hub]at fx;unfold av at c3;rw[<-D4]at c3;replace fx:=vt fx;replace Id:=vt Id;replace Lk:=vt Lk;have aSp:((k:Int)<(nL:Int))=True:=ie (by omega);have heq:(yb.toList==yb.toList)=true:=by simp
    replace G5:=vt G5;replace aAI:=vt aAI;clear T hp h8 uw GY FY EE Gb ht G2 hid hy8 LS hCk Ge D4 hub hy ei el;refine D.seq (D.seq (D.rh λR I=>?_));go_wp2_with fail;refine I.out _ _ ?_;clear I R;refine D.cond rfl (D.skip (D.seq (D.block (D.seq (D.rh λR I=>?_)))));go_wp2_with fail;refine fx.out.mono ?_;rintro e w6 ⟨rfl,hc6⟩;have c6:=aBL hc6 c3;have C6:=vt (G5.out.trans hc6);clear hc6 c3 G5 fx;go_wp2_with fail;refine I.out _ _ ?_;clear I R;refine D.seq (D.rh λR I=>?_);go_wp2_with fail;refine(Id.out _).mono ?_;rintro e w7 ⟨rfl,rfl⟩;go_wp2_with fail;refine I.out _ _ ?_;clear I R Id;refine D.seq (D.rh λR I=>?_);go_wp2_with fail;refine(Lk.out _).mono ?_;rintro e w8 ⟨v8,rfl,_,hb8⟩;have c8:=aBL (aj.nK hb8) c6;have C8:=vt (C6.out.trans (aj.nK hb8));clear hb8 c6 C6 Lk;go_wp2_with fail;refine I.out _ _ ?_;clear I R;refine D.seq (D.rh λR I=>?_);go_wp2_with fail;refine I.out _ _ ?_;clear I R;refine D.cond (t:=false) rfl (D.skip (D.inBlock (D.rh λR I=>?_)));go_wp2_with fail;refine I.out _ _ ?_;clear I R;exact aAI.out (m2 - 1) _ _ (by omega) ⟨k+1,rfl,by omega,C8.out⟩
   ·obtain⟨rfl,rfl⟩:k=nL/\m2=0:=⟨by omega,by omega⟩
    have aSp:((k:Int)<(k:Int))=False:=gO (by omega);replace G5:=vt G5;clear aAI;refine D.seq (D.seq (D.rh λR I=>?_));go_wp2_with fail;refine I.out _ _ ?_;clear I R;refine D.cond (t:=false) rfl (D.exit rfl (D.inBlock (D.rh λR I=>?_)));go_wp2_with fail;refine I.out _ _ ?_;clear I R;exact again.out (m - 1) _ _ (by omega) ⟨i+1,rfl,by omega,C5.out.trans G5.out⟩
  cases i with
  |zero=>
   go_quiet (fail)
   exact cont _ _ _ _ _ _ _ _ _ _ _ _ _ _ _ _ _ _ _ _ _ _ _ _ _ _ _ _ _ _ _ _ _ _ _ _ _ _ _ _ _ _ _ _ _ _
  |succ i=>
   obtain⟨p0,hp0⟩:∃p0,S.refs[i]? =some p0:=⟨_,bU (by omega)⟩
   have q1:=aPX Hc.out hp0;have lt:si p0.1 p.1=true:=List.pairwise_iff_getElem.1 hv.out.2.1.upR i (i+1) (by omega) hiN (by omega) |> λh=>by
    rw[(bA.1 hp0).2,(bA.1 P.out.2.1).2]at h;exact h
   have q2:=(aBL C2.out q1)
   unfold av at q2;have lt2:=aEs _ _ lt;clear lt q1;have ei:(((i+1:Nat):Int) - 1)=(i:Int):=by omega
   go_quiet (fail)
   exact cont _ _ _ _ _ _ _ _ _ _ _ _ _ _ _ _ _ _ _ _ _ _ _ _ _ _ _ _ _ _ _ _ _ _ _ _ _ _ _ _ _ _ _ _ _ _
 ·obtain⟨rfl,rfl⟩:i=S.refs.length/\m=0:=⟨by omega,by omega⟩
  have qw:((S.refs.length:Int)<(S.refs.length:Int))=False:=gO (by omega);have C:=vt (F.out.2.trans B7);clear again B7 F hv;refine D.seq (D.seq (D.rh λR I=>?_));go_wp2_with fail;refine I.out _ _ ?_;clear I R;refine D.cond (t:=false) rfl (D.exit rfl (D.seq (D.rh λR I=>?_)));go_wp2_with fail;refine I.out _ _ ?_;clear I R;refine D.ret rfl ?_;exact D.left (v:=.bool true) rfl rfl rfl rfl Tq.func17 (by rw[results_tmp (t:=2) rfl];rfl) ⟨rfl,C.out⟩
end De
section
open Go.Conc
namespace Re
open Tx Sp Wg Rd Bk Wi Se Rx Mp De Lo Co Ka Kv Ky
section
variable {Post:Value->World->Prop}{K:Cy}{wv w:World}{cs:List Frame}{ν:Old}{q:Bool}{s:Nat}{C:Cp}{m:Int}{S:Sv}{fz:Nat×Nat}{fr:Frame}
def gT.still{U}(h:gT w s C m S fz)(L:Fr.aj (λ_=>False) w U):CR w s C m fz S C U:=
 ⟨rfl,h.aA L (Rx.Safe.none w) (λ_ _ e=>e) (λe=>e) (λe=>e) (λe=>e),λ_ A=>.inl A,L.mono λ_ _ e=>e.elim⟩
def bI.object(h:bI ν q 0 K C S wv)(k:ByteArray)(A:k.size<=maxLen)
 (Q:∀C' U,bI ν q 0 K C' S U->Fm K.s C wv C' U->WV Post K U (fr.finish (Tz.aEL (M.get S.st.ah k.data.toList))) cs):WV Post K wv (Frame.enter prog 33 #[aG K.s,.string k] .normal) (fr::cs):=by
 refine WV.rep h.ok h.wf h.rep h.cns h.bP (f:=33) (func33) (by decide) rfl (qg xi) (λv _ S' _=>v=Tz.aEL (M.get S.st.ah k.data.toList)/\S'=S) (λ_ _ _ _ _ _ e=>e) (λfz w hf _ _ Y=>?_) ?_
 ·refine(aAO w K.s C.st C.lk C.mo C.mr 0 C.cb C.rs S.st k Y.sr Y.jC A).mono ?_;rintro e U ⟨rfl,L⟩;exact⟨_,C,S,rfl,⟨rfl,rfl⟩,Y.still L⟩
 ·rintro v C' S' U ⟨rfl,rfl⟩ Ao Y hf;exact Q C' U (h.iQ Ao Y h.sw h.ES rfl rfl λi x E=>⟨x,E,rfl⟩) hf
def bI.settled(h:bI ν q 0 K C S wv)
 (Q:∀C' U,bI ν q 0 K C' S U->Fm K.s C wv C' U->WV Post K U (fr.finish (.bool true)) cs):WV Post K wv (Frame.enter prog 17 #[aG K.s] .normal) (fr::cs):=by
 refine WV.rep h.ok h.wf h.rep h.cns h.bP (f:=17) (func17) (by decide) rfl (qg xi) (λv _ S' _=>v=.bool true/\S'=S) (λ_ _ _ _ _ _ e=>e) (λfz w hf _ _ Y=>?_) ?_
 ·refine(aDO w K.s C.st C.lk C.mo C.mr 0 C.cb C.rs S.st ⟨Y.sr,Y.jC⟩ h.sw.st (aAW h.sw h.ES (λy hy=>by cases hy) (cQ _)) h.ES.room h.sw.K5).mono ?_;rintro e U ⟨rfl,L⟩;exact⟨_,C,S,rfl,⟨rfl,rfl⟩,Y.still L⟩
 ·rintro v C' S' U ⟨rfl,rfl⟩ Ao Y hf;exact Q C' U (h.iQ Ao Y h.sw h.ES rfl rfl λi x E=>⟨x,E,rfl⟩) hf
end
end Re
end
namespace Rc
open Tx Sp
def aCK:B:=[98,108,111,98,32,104,101,108,108,111]
def aAG:B:=[116,114,101,101,32,97,61]++dA aCK
def firstT:B:=qo++[32]++dA aAG++[32,45,32,102,105,114,115,116]
def aCz:B:=pG++[109,97,105,110]
def z4:B:=[48,48,48,48]
def aEq(h:B)(hc:List B):B:=dU h++z4++(hc.map dU).flatten++z4
def aEm:B:=aEq (di++[32]++dA firstT++[32]++aCz) [firstT,aCK,aAG]
def aAP:Sv:=((Fb true 9).open_.1.feed 0 aEm).1
def aEd:B:=kD++nl++[111,107,32]++aCz++nl
def aEW:(Fb true 9).open_.1.feed 0 aEm=(aAP,true):=xi
def aEM:ran 51 aAP 0=some 9:=xi
def aDV:(ny 51 aAP 0).bR 0=(aEd,true):=xi
def aEl:(ny 51 aAP 0).st.refs=[(aCz,dA firstT)]:=xi
def aEk:M.get (ny 51 aAP 0).st.ah (dA aAG)=some aAG:=xi
end Rc
namespace Tz
open Tx Sp Wg Rd
def aEg(o i r:ByteArray)(g:Nat)(hc:List B)(w:World)(hh:(o++⟨#[32]⟩++i++⟨#[32]⟩++r).size<=300)(Q:hc.length<=4)(hl:∀x∈hc,x.length<=300)(L:∀(k:Nat) x,hc[k]? =some x->w.cell? ⟨g,k,none⟩=some (av x))(hp:∀x:B,x.length<=300->(dU x).length<=400):
 Calls Tq.prog 32 #[.string o,.string i,.string r,.slice (some ⟨g,0,none⟩) hc.length hc.length] w λe U=>e=.returned (av (Rc.aEq (o++⟨#[32]⟩++i++⟨#[32]⟩++r).data.toList hc))/\U=w:=by
 have uG:o.size+1+i.size+1+r.size<=300:=by simp only[iX]at hh;exact hh
 have ho:o.size<=300:=by omega
 have hi:i.size<=300:=by omega
 have Y:r.size<=300:=by omega
 clear uG;obtain⟨H,hH⟩:∃H,H=o++⟨#[32]⟩++i++⟨#[32]⟩++r:=⟨_,rfl⟩
 have mk:∀(l:B) (n:Nat),l.length<=n->∃x:ByteArray,Hid (x.data.toList=l)/\x.size<=n/\∀y:ByteArray,y=⟨l.toArray⟩->y=x:=λl n h=>⟨⟨l.toArray⟩,vt (by simp),by rw[<-dx];exact h,λy e=>e⟩
 rw[<-hH]at hh ⊢;have hHl:H.data.toList.length<=300:=hh;obtain⟨k0,hk0,aW3,aPS⟩:=mk (dU H.data.toList) 400 (hp _ hHl);have P0:=vt λW:World=>(Wa.EX H W (by unfold maxLen;omega)).mono λe U (h:_/\U=W)=>(⟨by rw[h.1,aPS _ rfl],h.2⟩:e=.returned (.string k0)/\U=W)
 have Bh:=vt (AH hl hp);replace L:=vt L;clear mk aPS hl hp hHl;rw[hH]at P0;go_enter Tq.func32,ntmps32;go_wp2_with fail;refine(P0.out _).mono ?_;rintro e U ⟨rfl,rfl⟩;go_wp2_with fail
 go_loop [9,10] (λsv iv=>∃(x:ByteArray) (k:Nat),sv=.string x/\iv=.int .i64 k/\k<=hc.length/\x.size<=404+400*k/\Hid (x.data.toList=dU H.data.toList++Rc.z4++((hc.take k).map dU).flatten)) (λ_ iv=>hc.length - (intOf iv).toNat)
 case atStart=>exact⟨k0++⟨#[48,48,48,48]⟩,0,rfl,rfl,cQ _,by rw[iX];show k0.size+4<=_;omega,vt (by simp[gv,hk0.out,Rc.z4])⟩
 case round=>
  obtain⟨x,k,rfl,rfl,A,hxs,E⟩:=hrel;by_cases tP:k<hc.length
  ·obtain⟨y,hy⟩:∃y,hc[k]? =some y:=⟨_,bU tP⟩
   have hyl:=Bh.out.1 y (cM hy);have cy:=L.out k y hy;obtain⟨yb,D4⟩:∃yb:ByteArray,yb=⟨y.toArray⟩:=⟨_,rfl⟩
   obtain⟨kp,B4⟩:∃kp:ByteArray,kp=⟨(dU y).toArray⟩:=⟨_,rfl⟩
   have aW1:kp.size<=400:=by rw[B4,<-dx];exact Bh.out.2 y hyl
   have P1:=vt λW:World=>(Wa.EX yb W (by rw[D4,<-dx];unfold maxLen;show y.length<=_;omega)).mono λe U (h:_/\U=W)=>(⟨by rw[h.1,D4,B4],h.2⟩:e=.returned (.string kp)/\U=W)
   unfold av at cy;rw[<-D4]at cy;have uI:hc.take (k+1)=hc.take k++[y]:=by rw[fg,hy];rfl
   have yi:Hid ((x++kp).data.toList=dU H.data.toList++Rc.z4++((hc.take (k+1)).map dU).flatten):=vt (by rw[uI,eN,List.flatten_append,<-fN,<-E.out,B4];simp[gv]);have Mo:(x++kp).size<=404+400*(k+1):=by rw[iX];omega
   replace yi:=vt (AH yi Mo);clear hy hyl D4 B4 uI E Mo;go_wp2_with fail;refine(P1.out _).mono ?_;rintro e U ⟨rfl,rfl⟩;go_wp2_with fail;exact⟨⟨x++kp,k+1,rfl,by go_num,by omega,yi.out.2,yi.out.1⟩,by simp[intOf];omega⟩
  ·obtain rfl:k=hc.length:=by omega
   rw[fM]at E;go_wp2_with fail;go_ret;refine⟨?_,rfl⟩;have e:x++⟨#[48,48,48,48]⟩=(⟨(Rc.aEq H.data.toList hc).toArray⟩:ByteArray):=by apply n7;apply Array.ext';simp[gv,E.out,Rc.z4,Rc.aEq]
   show Ending.returned (.string (x++⟨#[48,48,48,48]⟩))=_;have eH:H.data.toList=o.data.toList++32::(i.data.toList++32::r.data.toList):=by rw[hH];simp[gv]
   rw[e,<-eH];rfl
end Tz
section
open Go.Conc
namespace Re
open Tx Sp Wg Rd Bk Wi Se Rx Mp De Lo Co Ka Kv Ky
section
variable {Post:Value->World->Prop}{K:Cy}{wv:World}{cs:List Frame}{ν:Old}{q:Bool}{s:Nat}{C:Cp}{m:Int}{S:Sv}{C0:Frame}{p:Addr}{ev:Value}{W:World}
structure JO ν q wv s K C S w:Prop where
 comp:bI ν q 0 K C S w
 hs:K.s=s
 old:Kp (λ_=>False) wv w
 foot:∀k,jB s C k->wv.heap.size<=k
def JO.next{w K' C' S' U}(h:JO ν q wv s K C S w)(L:bI ν q 0 K' C' S' U)(hs:K'.s=s)(hf:Fm s C w C' U):JO ν q wv s K' C' S' U where
 comp:=L
 hs:=hs
 old:=⟨⟨hf.kp.os.1.trans h.old.os.1,hf.kp.os.2.trans h.old.os.2⟩,cV h.old.size hf.kp.size,λk o A _=>hf.kp.keep k o (h.old.keep k o A (λe=>e)) (λe=>by
  have:=h.foot k e;have:=(a6.1 A).1;omega)⟩
 foot k A:=by
  rcases hf.foot k A with e|e
  ·exact h.foot k e
  ·exact cV h.old.size e
def JO.fresh{w τ d U}(h:JO ν q wv s K C S w)(L:Fr.aj (λ_=>False) (Ka.re w τ d) U):JO ν q wv s K C S U:=by obtain⟨V,f1⟩:=h.comp.re (τ:=τ) (d:=d);obtain⟨J,f2⟩:=V.aA L;exact h.next J h.hs (h.hs▸f1.trans f2)
def JO.kpS{w U}(h:JO ν q wv s K C S w)(A:Kp (jB s C) w U):Kp (λ_=>False) wv U:=
 ⟨⟨A.os.1.trans h.old.os.1,A.os.2.trans h.old.os.2⟩,cV h.old.size A.size,λk o hko _=>A.keep k o (h.old.keep k o hko (λe=>e)) (λe=>by
   have:=h.foot k e;have:=(a6.1 hko).1;omega)⟩
def bI.aEP{w}(h:bI ν true m K C S w):bI ν false m K C S w:={h with sw:=h.sw.aEP}
def IK{v xs}{w:World}{B hx z n:Nat}(h:w.ownsRow B hx z v n xs)(Q:0<n):∃g cap,v=.slice (some ⟨g,0,none⟩) n cap/\∀i x,xs[i]? =some x->w.cell? ⟨g,i,none⟩=some x:=by
 rcases h.2 with⟨_,h0⟩|⟨g,cap,cur,e,V,J,h3,h4,h5,h6⟩
 ·omega
 ·refine⟨g,cap,e,λi x E=>?_⟩;unfold World.cell?;rw[J];rw[<-h6,j7]at E;split at E
  ·simpa using E
  ·cases E
def Kp.cell{w U a v}(h:Kp (λ_=>False) w U)(X:w.cell? a=some v):U.cell? a=some v:=by have hl:=World.block_lt_of_cell? w _ X;have A:=h.keep a.block _ (eE hl) (λe=>e);rw[<-eE hl]at A;unfold World.cell? at X ⊢;rw[A];exact X
def named(l:B)n(h:l.length<=n):∃x:ByteArray,Hid (x=⟨l.toArray⟩)/\x.size<=n:=⟨_,vt rfl,by rw[<-dx];exact h⟩
def Rest.wk{f:FuncId}(h:Rest ν K p ev wv)(A:keep f=true)(hf:∃fn,prog.funcs[f]? =some fn):Wk K f:=⟨h.ok,h.wf,A,hf⟩
def aAb{fn v P fr}(hm:fr.mode=.returning)(hd:fr.defers=[])(A:fr.kind=.normal)(hf:P.funcs[fr.fn]? =some fn)(Y:results fn fr.tmps=pure v)(hi:P.inits.idxOf? fr.fn=none)w:stepG P true (G fr []) w=.ended (.done v) w #[]:=by
 have e:stepG P true (G fr []) w=unwind P true fr [] none w:=by unfold stepG G;simp only[hm]
 rw[e];unfold unwind;simp only[hd,hm,hf,Y];show GStep.after (seen P fr.fn #[]) (doReturn P true fr [] none v w)=_;simp only[doReturn,A,hi];rfl
def Rest.done{f fn v a todo}(h:Rest ν K p ev wv)(hf:prog.funcs[f]? =some fn)(hd:a.defers=[])(Y:results fn a.tmps=pure v)(hi:prog.inits.idxOf? f=none)(hP:∀w,Vw (K.cut 2) wv w->Post v w):WV Post K wv {(fb f).at a todo with mode:=.returning} []:=λw X=>by
 refine WT.ended h.ok h.h0 h.bn rfl h.low λU hA hK=>?_;refine⟨v,#[],0,?_,⟨λe=>e,λs _=>⟨⟨rfl,rfl⟩,⟨rfl,rfl⟩⟩,λc k _ e=>e,λe he=>by simp at he,rfl⟩,hP U (dm X hA)⟩;have hm:(K.h==0)=true:=by rw[h.h0];rfl
 rw[hm];exact aAb (fr:={(fb f).at a todo with mode:=.returning}) rfl hd rfl hf Y hi U
def Kp.trans{w U w''}(h:Kp (λ_=>False) w U)(k:Kp (λ_=>False) U w''):Kp (λ_=>False) w w'':=
 ⟨⟨k.os.1.trans h.os.1,k.os.2.trans h.os.2⟩,cV h.size k.size,λb o hb Q=>k.keep b o (h.keep b o hb Q) Q⟩
def He(o:Obj):Prop:=(∃c t f,o=.cells c t f)\/(∃a l,o=.number a l)\/(rU o=true/\o.isChan=false/\(∀c t,o≠.pending c t)/\∀l,o=.loop l->eU prog l.assign/\eU prog l.body/\∀c,l.pending=some c->eU prog c)
open Classical in
noncomputable def qQ(W:World)(r:Nat):Option Obj:=(W.heap[r]?).bind λo=>if He o then none else some o
open Classical in
noncomputable def qN(W:World):World:={W with heap:=W.heap.mapIdx λr o=>if He o then o else .view ⟨r,0,none⟩ 0}
noncomputable def aFk(W:World):Old:=⟨W.heap.size,qQ W⟩
noncomputable def Z0(W:World):Gh:={bP:=λ_=>False,own:=λ_=>none,nch:=λr=>(qQ W r).isSome=true,cls:=λ_=>False,Dl:=λ_=>False,lq:=qQ W}
noncomputable def K0(W:World):Cy:={Z:=Z0 W,b:=1,s:=0,m:=1,h:=0,n:=1,σ:=λ_=>none,R:=λ_ _=>True}
def XK r:(qN W).heap[r]? =(W.heap[r]?).map λo=>open Classical in if He o then o else .view ⟨r,0,none⟩ 0:=by show(W.heap.mapIdx _)[r]? =_;rw[nj]
def kI r:(W.heap[r]? =none/\(qN W).heap[r]? =none/\qQ W r=none)\/(∃o,W.heap[r]? =some o/\He o/\(qN W).heap[r]? =some o/\qQ W r=none)\/∃o,W.heap[r]? =some o/\¬He o/\(qN W).heap[r]? =some (.view ⟨r,0,none⟩ 0)/\qQ W r=some o:=by
 rw[XK];unfold qQ;cases h:W.heap[r]? with
 |none=>exact .inl ⟨rfl,rfl,rfl⟩
 |some o=>
  by_cases hf:He o
  ·exact .inr (.inl ⟨o,rfl,hf,by simp[hf],by simp[hf]⟩)
  ·exact .inr (.inr ⟨o,rfl,hf,by simp[hf],by simp[hf]⟩)
def ug{a v}(h:W.cell? a=some v):(qN W).cell? a=some v:=by
 unfold World.cell? at h ⊢;rcases kI (W:=W) a.block with⟨e,_,_⟩|⟨o,e,_,e2,_⟩|⟨o,e,hf,_,_⟩
 ·rw[e]at h;cases h
 ·rw[e2,<-e];exact h
 ·rw[e]at h;cases o<;>first|exact absurd (.inl ⟨_,_,_,rfl⟩) hf|cases h
def VX r:¬(Z0 W).rW r:=λ⟨_,_,e,_⟩=>(by cases e)
def aDv r:¬(Z0 W).iq r:=λ⟨_,_,e,_⟩=>(by cases e)
def aEN{N ty} r:((Z0 W).cut N ty 2).lq r=qQ W r:=by simp only[Gh.cut,VX,cz];rfl
def VY r:(Z0 W).ic r↔(qQ W r).isSome=true:=⟨λh=>h.elim id λh=>absurd h (VX r),.inl⟩
def XB:Vw ((K0 W).cut 2) (qN W) W:=by
 refine⟨by unfold qN;simp,⟨rfl,rfl⟩,λr Y=>?_,λr n Y=>?_,λr Y=>?_,λr o ho vx=>?_,λr l hl=>?_⟩
 ·have h3:=(eY.1 Y).2.2;rcases kI (W:=W) r with⟨e,e2,_⟩|⟨o,e,_,e2,_⟩|⟨o,e,hf,_,e3⟩
  ·rw[e,e2]
  ·rw[e,e2]
  ·exact absurd ((VY r).2 (by rw[e3];rfl)) h3
 ·rcases qA Y with⟨h,_⟩|⟨_,h,_⟩
  ·exact h.elim
  ·exact absurd h (aDv r)
 ·have h3:=(VY r).1 (iU.1 Y);rcases kI (W:=W) r with⟨_,_,e⟩|⟨o,_,_,_,e⟩|⟨o,e,hf,e2,e3⟩
  ·rw[e]at h3;cases h3
  ·rw[e]at h3;cases h3
  ·have Mw:((K0 W).cut 2).lq r=some o:=(aEN r).trans e3;refine⟨?_,o,e,?_⟩
   ·unfold vz;rw[Mw];exact e2
   ·unfold wL;rw[Mw];refine⟨rfl,?_⟩;cases o<;>first|rfl|exact absurd (.inl ⟨_,_,_,rfl⟩) hf|exact absurd (.inr (.inl ⟨_,_,rfl⟩)) hf
 ·rcases kI (W:=W) r with⟨_,e2,_⟩|⟨x,e,hf,e2,_⟩|⟨x,e,hf,e2,e3⟩
  ·rw[e2]at ho;cases ho
  ·rw[e2]at ho;obtain rfl:=ay ho;rcases hf with⟨c,t,f,rfl⟩|⟨a,l,rfl⟩|⟨V,J,h3,_⟩
   ·exact⟨rfl,rfl,λ_ _ e=>(by cases e)⟩
   ·exact⟨rfl,rfl,λ_ _ e=>(by cases e)⟩
   ·exact⟨V,J,h3⟩
  ·have:(Z0 W).ic r:=(VY r).2 (by rw[e3];rfl);have J:((K0 W).cut 2).ch r=true:=iU.2 this;rw[J]at vx;cases vx
 ·rcases kI (W:=W) r with⟨_,e2,_⟩|⟨x,e,hf,e2,_⟩|⟨x,e,hf,e2,e3⟩
  ·rw[e2]at hl;cases hl
  ·rw[e2]at hl;obtain rfl:=ay hl;rcases hf with⟨c,t,f,e⟩|⟨a,l,e⟩|⟨_,_,_,h4⟩
   ·cases e
   ·cases e
   ·exact h4 l rfl
  ·rw[e2]at hl;cases hl
def Ol(h:Gl W p ev):Rest (aFk W) (K0 W) p ev (qN W) where
 ok:=⟨λi x _ e=>(by cases e),λi x _ e=>(by cases e),λx e=>(by cases e),qX,qX,aI _,λ_ _ _ _ _ _ _ _=>trivial,.inl rfl,λe=>absurd e (Nat.lt_irrefl 1)⟩
 wf:=⟨λg k e=>(by cases e),λg k e=>(by cases e),λg k g' k' e=>(by cases e)⟩
 h0:=rfl
 b0:=qX
 bn:=rfl
 mn:=rfl
 yS:=λ_ _=>trivial
 low:=λ_ _ _=>rfl
 hi:=λ_ _=>rfl
 Qa:=λc h=>h.elim
 OQ:=λr h=>h.elim
 lo:=⟨λk A=>(by
  rcases A with h|h|h|⟨V,J⟩
  ·exact h.elim
  ·exact absurd h (aDv k)
  ·exact absurd h (VX k)
  ·have V:(qQ W k).isSome=true:=V;have J:qQ W k=none:=J;rw[J]at V;cases V),rfl,λk x e=>(by
  have e:qQ W k=some x:=e;rcases kI (W:=W) k with⟨_,_,e2⟩|⟨o,_,_,_,e2⟩|⟨o,e1,_,_,_⟩
  ·rw[e2]at e;cases e
  ·rw[e2]at e;cases e
  ·exact(a6.1 e1).1)⟩
 los:=by unfold aFk qN;simp
 gl:=⟨ug h.more,ug h.et,ug h.QI,h.oU⟩
def aB9 said:¬Race said #[]:=by rintro⟨i,j,_,⟨a,b,ha,_⟩,_⟩;simp[Trace.act?]at ha
def Oq{g}:Core prog (Z0 W) 1 0 0 1 0 (λ_=>.hold) 0 0 #[] #[g] W (λ_=>0):=by
 have L:cnt (λ_=>aU.hold) 1 1=0:=rfl;refine⟨⟨λg k e=>(by cases e),λg k e=>(by cases e),λg k g' k' e=>(by cases e)⟩,qX,aI _,λi g hi hg=>?_,⟨⟨λi c z ok home e=>(by cases e),λi k e=>(by cases e),λi j c z ok home z' KB ym e=>(by cases e),λi k j c z ok home e=>(by cases e),λi k j k' e=>(by cases e),⟨λg k e=>(by cases e),λs h=>h.elim⟩,λi k _ e=>(by cases e),λi k _ e=>(by cases e),λi V J=>?_,λi st e=>(by cases e)⟩,⟨λh=>h.elim,λh=>h.elim,by rw[L];omega,by omega,λ_=>rfl,λi e=>(by rcases e with e|e<;>cases e),λi e=>(by cases e),λi j e=>(by cases e)⟩⟩,⟨λj _=>rfl,λi g e=>?_,⟨λsaid=>aB9 said,λi a e=>?_,λi a e=>?_,λi a e=>?_⟩,λi g e=>?_,λi V J=>?_,λh=>h.elim,aI _⟩⟩
 ·have:=(a6.1 hg).1;simp at this;omega
 ·have J:i<1:=J;omega
 ·simp[Trace.g?]at e
 ·simp[touchAt,Trace.act?]at e
 ·simp[touchAt,Trace.act?]at e
 ·simp[touchAt,Trace.act?]at e
 ·simp[Trace.g?]at e
 ·have J:i<1:=J;omega
def aIf{f:FuncId}{args:Array Value}(W:World)(aSq:(∀K' p' Jy U w,Rest (aFk W) K' p' Jy U->Kp (λ_=>False) (qN W) U->Vw (K'.cut 2) U w->Post (.bool true) w)->WV Post (K0 W) (qN W) (Frame.enter prog f args .normal) [])
 (hP:∀w,w.os=W.os->w.output=W.output->W.heap.size<=w.heap.size->(∀k,k<W.heap.size->w.heap[k]? =W.heap[k]?)->Post (.bool true) w):iW prog Post (solo (G (Frame.enter prog f args .normal) []) W) #[]:=by
 have hw:=aSq (λK' p' Jy U w I B4 VI=>?_) W XB
 ·rw[solo_eq_crowd];exact hw #[_] #[] (λ_=>0) none (λ_=>.hold) 0 rfl rfl ⟨rfl,λi hi=>⟨λtP=>by have tP:i<1:=tP;have hi:i≠0:=hi;omega,λ_=>rfl⟩⟩ ⟨rfl,rfl,λ_=>rfl⟩ Oq rfl trivial
 ·have uG:(qN W).heap.size=W.heap.size:=by unfold qN;simp
  refine hP w ?_ ?_ ?_ λk A=>?_
  ·exact VI.os.1.symm.trans B4.os.1
  ·exact VI.os.2.symm.trans B4.os.2
  ·rw[<-VI.size,<-uG];exact B4.size
  ·have vy:∀{P:Prop},(K'.Z.bP k\/K'.Z.iq k\/K'.Z.rW k\/(K'.Z.nch k/\K'.Z.lq k=none))->P:=λh=>by
    have:=I.lo.ge k h;have e:(aFk W).n=W.heap.size:=rfl;omega
   rcases kI (W:=W) k with⟨e,_,_⟩|⟨o,e,_,e2,e3⟩|⟨o,e,hf,e2,e3⟩
   ·have:=Array.getElem?_eq_none_iff.1 e;omega
   ·have u6:(K'.cut 2).free k:=eY.2 ⟨λh=>vy (.inl h),λh=>vy (.inr (.inl h)),λh=>by
     rcases h with h|h
     ·exact vy (.inr (.inr (.inr ⟨h,by rw[I.lo.lq];exact e3⟩)))
     ·exact vy (.inr (.inr (.inl h)))⟩
    rw[<-VI.same k u6,B4.keep k o e2 (λe=>e),e]
   ·have CM:=B4.keep k _ e2 (λe=>e);by_cases vx:K'.Z.ic k
    ·obtain⟨_,x,J,h3⟩:=VI.chan k (iU.2 vx);have HM:¬K'.Z.rW k:=λh=>vy (.inr (.inr (.inl h)));have Mw:(K'.cut 2).lq k=some o:=by
      have:K'.Z.lq k=some o:=by rw[I.lo.lq];exact e3
      simp only[Cy.cut,Gh.cut,HM,cz];exact this
     unfold wL at h3;rw[Mw]at h3;rw[J,h3.1,e]
    ·have u6:(K'.cut 2).free k:=eY.2 ⟨λh=>vy (.inl h),λh=>vy (.inr (.inl h)),vx⟩;have G0:=VI.plain k _ CM u6.2;exact absurd G0.1 (by simp[rU])
end
end Re
end
section
open Go.Conc
open Go.ConcN (upd upd_ne upd_same)
namespace Co
open Kv Ka Ky
section
variable (s cap:Nat)(p:Option Addr)(C:Frame)
noncomputable def aCF:Frame:=(bu prog 16 (Ah s) [C] [.val (sl p 8 cap)]).headD default
def aEi:bV (Ky.walk prog 16 (Ah s) [C] [.val (sl p 8 cap)])=true/\aR prog 16 (Ah s) [C] [.val (sl p 8 cap)]=Frame.enter prog 39 #[fK s] .deferred/\bu prog 16 (Ah s) [C] [.val (sl p 8 cap)]=[aCF s cap p C,C]/\thin (bM prog 16 (Ah s) [C] [.val (sl p 8 cap)])=[(23,[.ld .plain ⟨s,4,none⟩ (sl p 8 cap)])]/\(aCF s cap p C).mode=.returning:=
 ⟨xi,xi,xi,xi,xi⟩
def aEK:bV (Ky.walk prog 1 (aCF s cap p C) [C] [])=true/\aR prog 1 (aCF s cap p C) [C] []=C.finish (.int .i64 (-1))/\bu prog 1 (aCF s cap p C) [C] []=[]/\thin (bM prog 1 (aCF s cap p C) [C] [])=[]:=
 ⟨xi,xi,xi,xi⟩
end
end Co
namespace Re
open Tx Sp Wg Rd Bk Wi Se Rx Mp De Lo Co Ka Kv Ky
section
variable {Post:Value->World->Prop}{K:Cy}{wv w:World}{cs:List Frame}{ν:Old}{q:Bool}{C:Cp}{S:Sv}{C0:Frame}
def bI.opens(h:bI ν q 0 K C S wv)(VK:S.over=false)(Q:∀K' C' U v,bI ν q 0 K' C' S.open_.1 U->K'.s=K.s->Fm K.s C wv C' U->WV Post K' U (C0.finish v) cs):WV Post K wv (Frame.enter prog 23 #[aG K.s] .normal) (C0::cs):=by
 have Zy:=h.sw.Bl;by_cases h8:S.ae.length<8
 ·have e:S.open_=({S with ae:=S.ae++[{}]},(S.ae.length:Int)):=by
   unfold Sv.open_;rw[VK,aX (by simp;omega)]
  rw[e]at Q;exact h.open_ h8 VK λK' C' U V J h3=>Q K' C' U _ V J h3
 ·have e8:S.ae.length=8:=by omega
  have e:S.open_=(S,-1):=by unfold Sv.open_;rw[e8,bk (by simp)]
  rw[e]at Q;show WV Post K wv (Gq K.s) (C0::cs);obtain⟨a1,a2,a3,a4,a5⟩:=Ur K.s;refine WV.uM (csl:=[]) h.ok h.wf 10 a1 (wv':=wv) (by rw[a4];exact⟨rfl,rfl⟩) ?_;rw[a2,a3];refine WV.lock h.ok h.wf (by rw[a5];trivial) h.free.1 h.free.2 ?_;obtain⟨V,f1⟩:=h.zi 1;generalize wv.setCell ⟨K.s,0,Option.none⟩ (.int .i32 1)=w1 at V f1 ⊢;obtain⟨b1,b2,b3⟩:=Uq K.s;refine WV.uM (csl:=[]) h.ok h.wf 14 b1 (wv':=w1) (by rw[b3];exact⟨rfl,rfl⟩) ?_;rw[b2];refine V.Yk VK ?_;obtain⟨p,cap,AG,_⟩:=V.rep.sr.len;have hlen:C.rs.length=S.ae.length:=V.rep.len;rw[hlen,e8]at AG;have AG:C.cb=sl p 8 cap:=AG;obtain⟨c1,c2,c3,c4,c5⟩:=aEi K.s cap p C0;refine WV.uM (csl:=[C0]) h.ok h.wf 16 c1 (wv':=w1) (by
   rw[c4];refine iI ⟨?_,cq⟩;have:=V.rep.sr.blk.at (i:=4) rfl;rw[AG]at this;exact this) ?_
  rw[c2,c3];refine WV.unlock V.ok V.wf (by rw[c5];trivial) V.free.1 V.free.2 ?_;obtain⟨h3,f3⟩:=V.zi 0;obtain⟨d1,d2,d3,d4⟩:=aEK K.s cap p C0;refine WV.uM (csl:=[C0]) h3.ok h3.wf 1 d1 (wv':=w1.setCell ⟨K.s,0,Option.none⟩ (.int .i32 0)) (by rw[d4];exact⟨rfl,rfl⟩) ?_;rw[d2,d3];exact Q K C _ _ h3 rfl (f1.trans f3)
variable {w0:World}{s:Nat}
def Ops(w:World)(v:Value)(N:Nat):Prop:=∃a cap,v=.slice a N cap/\N<=cap/\N<1152921504606846976/\∀i:Nat,i<N->∃g off k x b t,a=some ⟨g,off,none⟩/\w.cell? ⟨g,off+i*4,none⟩=some (.int .i64 k)/\w.cell? ⟨g,off+i*4+1,none⟩=some (.int .i64 x)/\w.cell? ⟨g,off+i*4+2,none⟩=some (.int .i64 b)/\w.cell? ⟨g,off+i*4+3,none⟩=some (.string t)/\t.size<=4611686018427387904
def yZ(S:Sv)c:(S.step c).1.over=S.over:=by
 unfold Sv.step;split
 ·rfl
 ·unfold Sv.mark;split
  ·split
   ·unfold Sv.work Sv.set
    repeat' split
    all_goals rfl
   ·unfold Sv.work Sv.set
    repeat' split
    all_goals rfl
  ·unfold Sv.work Sv.set
   repeat' split
   all_goals rfl
def aDw(S:Sv)(c:Int):(S.drop c).1.over=S.over:=by
 unfold Sv.drop;split
 ·rfl
 ·unfold Sv.mark Sv.lI Sv.set
  repeat' split
  all_goals rfl
def aEI(S:Sv):S.open_.1.over=S.over:=by unfold Sv.open_;split<;>rfl
def JO.aMb{quiet:Bool}(h:JO ν q wv s K C S w0)(ho:S.over=false)(hq:q=true->quiet=true)(vL:Value)(N:Nat)(hvL:Ops wv vL N)(hm:jV C0.mode)
 (Q:∀K' C' S' U,JO ν q wv s K' C' S' U->S'.over=false->WV Post K' U (C0.finish (.tuple #[])) cs):WV Post K w0 (Frame.enter prog 16 #[aG s,vL,.bool quiet] .normal) (C0::cs):=by
 obtain⟨aL,aLu,rfl,hNc,aPU,uz⟩:=hvL;obtain⟨b,hb⟩:∃b,b=aG s:=⟨_,rfl⟩
 rw[<-hb];replace hb:=vt hb;have aH:=h.comp.ok;have u0:Wk K 16:=h.comp.wk (by decide) ⟨_,func16⟩;refine WV.enter func16 rfl ?_;simp only[ntmps16,eC,bt,dt,Nat.reduceAdd,Nat.reduceSub,dC,dK,eI,cY,cg,cf];refine WV.seq aH (u0.w9 λR τ d I=>?_);go_wp2_with fail;refine I.out _ _ ?_;clear I R;refine WV.block aH ?_;refine WV.while (hR:=λj K' U a=>∃(i:Nat) (C':Cp) (S':Sv),a={tmps:=#[b,.slice aL N aLu,.bool quiet,O a 3,O a 4,O a 5,.int .i64 (i:Nat),O a 7,O a 8,O a 9,O a 10,O a 11,O a 12,O a 13,O a 14,O a 15,O a 16,O a 17,O a 18,O a 19,O a 20,O a 21,O a 22,O a 23,O a 24,O a 25,O a 26,O a 27,O a 28,O a 29,O a 30,O a 31,O a 32,O a 33,O a 34,O a 35,O a 36,O a 37,O a 38,O a 39,O a 40,O a 41,O a 42,O a 43,O a 44,O a 45,O a 46,O a 47,O a 48,O a 49,O a 50,O a 51,O a 52,O a 53,O a 54,O a 55],defers:=[]}/\i+j=N/\JO ν q wv s K' C' S' U/\S'.over=false) (n:=N) (λj K' U a ⟨i,C',S',_,_,hC,_⟩=>hC.comp.ok) ⟨0,C,S,rfl,by omega,h,ho⟩ ?_;clear h ho u0 aH;rintro j K2 w2 a ⟨i,C2,S2,ha,wV,hX,ho⟩ again;obtain⟨x,E⟩:∃x,x=O a:=⟨_,rfl⟩
 rw[<-E]at ha;clear E;subst ha;have eF:=hX.comp;have u2:Wk K2 16:=eF.wk (by decide) ⟨_,func16⟩;by_cases hiN:i<N
 ·obtain⟨g,off,kd,x1,v,t,rfl,d0,d1,d2,d3,ht⟩:=uz i hiN;have tP:((i:Int)<(N:Int))=True:=ie (by omega);have h60:((i:Int)<1152921504606846976)=True:=ie (by omega);replace d0:=hX.old.cell d0;replace d1:=hX.old.cell d1;replace d2:=hX.old.cell d2;replace d3:=hX.old.cell d3;have G:=vt (AH again (AH hX ho));clear again hX ho uz Q;refine WV.seq eF.ok (WV.seq eF.ok (u2.w9 λR τ d I=>?_));go_wp2_with fail;refine I.out _ _ ?_;clear I R;refine WV.cond eF.ok (t:=true) rfl (WV.skip eF.ok (WV.seq eF.ok (WV.block eF.ok (WV.seq eF.ok (u2.code rfl xi λR I τ d=>?_)))));replace I:=vt I;replace d0:(Ka.re w2 τ d).cell? ⟨g,off+i*4,none⟩=some (.int .i64 kd):=d0;replace d1:(Ka.re w2 τ d).cell? ⟨g,off+i*4+1,none⟩=some (.int .i64 x1):=d1;replace d2:(Ka.re w2 τ d).cell? ⟨g,off+i*4+2,none⟩=some (.int .i64 v):=d2;replace d3:(Ka.re w2 τ d).cell? ⟨g,off+i*4+3,none⟩=some (.string t):=d3;go_wp2_with fail;refine I.out _ _ ?_;clear I R;have hcg:Fr.aj (λ_=>False) (Ka.re w2 τ d) ((Ka.re w2 τ d).alloc (.cells #[.int .i64 kd,.int .i64 x1,.int .i64 v,.string t] 41)):=(Fr.aj.refl _ _).alloc _;have zI:=vt (G.out.2.1.fresh hcg);have wY:aM ((Ka.re w2 τ d).alloc (.cells #[.int .i64 kd,.int .i64 x1,.int .i64 v,.string t] 41)) (Ka.re w2 τ d).heap.size #[.int .i64 kd,.int .i64 x1,.int .i64 v,.string t] 41 (0,0):=aM.new _ _ _;clear hcg d0 d1 d2 d3;generalize(Ka.re w2 τ d).alloc (.cells #[.int .i64 kd,.int .i64 x1,.int .i64 v,.string t] 41)=w3 at zI wY ⊢;generalize(Ka.re w2 τ d).heap.size=nb at wY ⊢;have e0:w3.cell? ⟨nb,0,none⟩=some (.int .i64 kd):=wY.at rfl;have e2:w3.cell? ⟨nb,2,none⟩=some (.int .i64 v):=wY.at rfl;have e3:w3.cell? ⟨nb,3,none⟩=some (.string t):=wY.at rfl;clear wY;refine WV.seq eF.ok (u2.w9 λR τ d I=>?_);have e0':(Ka.re w3 τ d).cell? ⟨nb,0,none⟩=some (.int .i64 kd):=e0;go_wp2_with fail;refine I.out _ _ ?_;clear I R e0';refine WV.block eF.ok ?_;clear e0;by_cases q3:kd=3
  ·subst q3;refine WV.seq eF.ok (u2.w9 λR τ d I=>?_);go_wp2_with fail;refine I.out _ _ ?_;clear I R;refine WV.cond eF.ok (t:=true) rfl (WV.region eF.ok ?_);refine u2.wA 0 1 1 λR τ d I=>?_;show wpList _ _ _ [_] _ _;go_wp2_with fail;refine I.out _ _ ?_;clear I R;refine u2.call 23 #[b] ⟨_,rfl,rfl,λw=>xi⟩ ?_;have uw:=λ{LV:Frame} {ds:List Frame}=>zI.out.comp.opens (Post:=Post) (C0:=LV) (cs:=ds) G.out.2.2;rw[zI.out.hs,<-hb.out]at uw;refine uw ?_;clear uw;intro K4 C4 w4 v4 ZT GP Ei;have VT:=vt (zI.out.next ZT GP Ei);clear Ei;have u4:Wk K4 16:=ZT.wk (by decide) ⟨_,func16⟩;refine WV.called (o:=_) rfl (WV.ib ZT.ok (WV.inBlock ZT.ok (WV.inBlock ZT.ok ?_)));refine(u4.w9 λR τ d I=>?_);go_wp2_with fail;refine I.out _ _ ?_;clear I R;exact G.out.1 (j - 1) K4 _ _ (by omega) ⟨i+1,C4,_,rfl,by omega,VT.out,(aEI _).trans G.out.2.2⟩
  have b3:(kd==3)=false:=fq q3;refine WV.seq eF.ok (u2.w9 λR τ d I=>?_);go_wp2_with fail;refine I.out _ _ ?_;clear I R;refine WV.cond eF.ok (t:=false) rfl ?_;clear b3;by_cases q4:kd=4
  ·subst q4;refine WV.seq eF.ok (u2.w9 λR τ d I=>?_);go_wp2_with fail;refine I.out _ _ ?_;clear I R;refine WV.cond eF.ok (t:=true) rfl (WV.region eF.ok ?_);refine u2.wA 0 5 1 λR τ d I=>?_;have e2':(Ka.re w3 τ d).cell? ⟨nb,2,none⟩=some (.int .i64 v):=e2;have e3':(Ka.re w3 τ d).cell? ⟨nb,3,none⟩=some (.string t):=e3;show wpList _ _ _ [_,_,_,_,_] _ _;go_wp2_with fail;refine I.out _ _ ?_;clear I R e2' e3';refine u2.call 25 #[b,.int .i64 v,.string t] ⟨_,rfl,rfl,λw=>xi⟩ ?_;have uw:=λ{LV:Frame} {ds:List Frame}=>zI.out.comp.feed (Post:=Post) (fr:=LV) (cs:=ds) v t ht;rw[zI.out.hs,<-hb.out]at uw;refine uw ?_;clear uw;intro C4 w4 ZT Ei;have VT:=vt (zI.out.next ZT zI.out.hs Ei);clear Ei;have u4:=u2;refine WV.called (o:=_) rfl (WV.ib ZT.ok (WV.inBlock ZT.ok (WV.inBlock ZT.ok ?_)));refine(u4.w9 λR τ d I=>?_);go_wp2_with fail;refine I.out _ _ ?_;clear I R;exact G.out.1 (j - 1) K2 _ _ (by omega) ⟨i+1,C4,_,rfl,by omega,VT.out,(PW _ _ _).2.1.trans G.out.2.2⟩
  have b4:(kd==4)=false:=fq q4;refine WV.seq eF.ok (u2.w9 λR τ d I=>?_);go_wp2_with fail;refine I.out _ _ ?_;clear I R;refine WV.cond eF.ok (t:=false) rfl ?_;clear b4;by_cases q5:kd=5
  ·subst q5;refine WV.seq eF.ok (u2.w9 λR τ d I=>?_);go_wp2_with fail;refine I.out _ _ ?_;clear I R;refine WV.cond eF.ok (t:=true) rfl (WV.region eF.ok ?_);refine u2.wA 0 3 1 λR τ d I=>?_;have e2':(Ka.re w3 τ d).cell? ⟨nb,2,none⟩=some (.int .i64 v):=e2;show wpList _ _ _ [_,_,_] _ _;go_wp2_with fail;refine I.out _ _ ?_;clear I R e2';refine u2.call 34 #[b,.int .i64 v] ⟨_,rfl,rfl,λw=>xi⟩ ?_;have uw:=λ{LV:Frame} {ds:List Frame}=>zI.out.comp.end_ (Post:=Post) (fr:=LV) (cs:=ds) v;rw[zI.out.hs,<-hb.out]at uw;refine uw ?_;clear uw;intro C4 w4 ZT Ei;have VT:=vt (zI.out.next ZT zI.out.hs Ei);clear Ei;have u4:=u2;refine WV.called (o:=_) rfl (WV.ib ZT.ok (WV.inBlock ZT.ok (WV.inBlock ZT.ok ?_)));refine(u4.w9 λR τ d I=>?_);go_wp2_with fail;refine I.out _ _ ?_;clear I R;exact G.out.1 (j - 1) K2 _ _ (by omega) ⟨i+1,C4,_,rfl,by omega,VT.out,(aCH _ _).2.1.trans G.out.2.2⟩
  have b5:(kd==5)=false:=fq q5;refine WV.seq eF.ok (u2.w9 λR τ d I=>?_);go_wp2_with fail;refine I.out _ _ ?_;clear I R;refine WV.cond eF.ok (t:=false) rfl ?_;clear b5;by_cases q6:kd=6
  ·subst q6;refine WV.seq eF.ok (u2.w9 λR τ d I=>?_);go_wp2_with fail;refine I.out _ _ ?_;clear I R;refine WV.cond eF.ok (t:=true) rfl (WV.region eF.ok ?_);refine u2.wA 0 3 1 λR τ d I=>?_;have e2':(Ka.re w3 τ d).cell? ⟨nb,2,none⟩=some (.int .i64 v):=e2;show wpList _ _ _ [_,_,_] _ _;go_wp2_with fail;refine I.out _ _ ?_;clear I R e2';refine u2.call 26 #[b,.int .i64 v] ⟨_,rfl,rfl,λw=>xi⟩ ?_;have uw:=λ{LV:Frame} {ds:List Frame}=>zI.out.comp.step (Post:=Post) (C0:=LV) (cs:=ds) v;rw[zI.out.hs,<-hb.out]at uw;refine uw ?_;clear uw;intro K4 C4 w4 ZT GP Ei;have VT:=vt (zI.out.next ZT GP Ei);clear Ei;have u4:Wk K4 16:=ZT.wk (by decide) ⟨_,func16⟩;refine WV.called (o:=_) rfl (WV.ib ZT.ok (WV.inBlock ZT.ok (WV.inBlock ZT.ok ?_)));refine(u4.w9 λR τ d I=>?_);go_wp2_with fail;refine I.out _ _ ?_;clear I R;exact G.out.1 (j - 1) K4 _ _ (by omega) ⟨i+1,C4,_,rfl,by omega,VT.out,(yZ _ _).trans G.out.2.2⟩
  have b6:(kd==6)=false:=fq q6;refine WV.seq eF.ok (u2.w9 λR τ d I=>?_);go_wp2_with fail;refine I.out _ _ ?_;clear I R;refine WV.cond eF.ok (t:=false) rfl ?_;clear b6;by_cases q7:kd=7
  ·subst q7;refine WV.seq eF.ok (u2.w9 λR τ d I=>?_);go_wp2_with fail;refine I.out _ _ ?_;clear I R;refine WV.cond eF.ok (t:=true) rfl ?_;refine WV.seq eF.ok (u2.w9 λR τ d I=>?_);go_wp2_with fail;refine I.out _ _ ?_;clear I R;cases quiet with
   |true=>refine WV.cond eF.ok (t:=false) rfl (WV.skip eF.ok (WV.inBlock eF.ok (WV.inBlock eF.ok ?_)));refine(u2.w9 λR τ d I=>?_);go_wp2_with fail;refine I.out _ _ ?_;clear I R;exact G.out.1 (j - 1) K2 _ _ (by omega) ⟨i+1,C2,_,rfl,by omega,zI.out,G.out.2.2⟩
   |false=>
    obtain rfl:q=false:=by cases q with
     |false=>rfl
     |true=>exact absurd (hq rfl) (by decide)
    refine WV.cond eF.ok (t:=true) rfl (WV.region eF.ok ?_);refine u2.wA 0 3 1 λR τ d I=>?_;have e2':(Ka.re w3 τ d).cell? ⟨nb,2,none⟩=some (.int .i64 v):=e2;show wpList _ _ _ [_,_,_] _ _;go_wp2_with fail;refine I.out _ _ ?_;clear I R e2';refine u2.call 35 #[b,.int .i64 v] ⟨_,rfl,rfl,λw=>xi⟩ ?_;have uw:=λ{LV:Frame} {ds:List Frame}=>zI.out.comp.drop (Post:=Post) (C0:=LV) (cs:=ds) v;rw[zI.out.hs,<-hb.out]at uw;refine uw ?_;clear uw;intro K4 C4 w4 ZT GP Ei;have VT:=vt (zI.out.next ZT GP Ei);clear Ei;have u4:Wk K4 16:=ZT.wk (by decide) ⟨_,func16⟩;refine WV.called (o:=_) rfl (WV.ib ZT.ok (WV.inBlock ZT.ok (WV.inBlock ZT.ok ?_)));refine(u4.w9 λR τ d I=>?_);go_wp2_with fail;refine I.out _ _ ?_;clear I R;exact G.out.1 (j - 1) K4 _ _ (by omega) ⟨i+1,C4,_,rfl,by omega,VT.out,(aDw _ _).trans G.out.2.2⟩
  have b7:(kd==7)=false:=fq q7;refine WV.seq eF.ok (u2.w9 λR τ d I=>?_);go_wp2_with fail;refine I.out _ _ ?_;clear I R;refine WV.cond eF.ok (t:=false) rfl (WV.skip eF.ok (WV.inBlock eF.ok (WV.inBlock eF.ok ?_)));refine(u2.w9 λR τ d I=>?_);go_wp2_with fail;refine I.out _ _ ?_;clear I R;exact G.out.1 (j - 1) K2 _ _ (by omega) ⟨i+1,C2,_,rfl,by omega,zI.out,G.out.2.2⟩
 ·obtain⟨rfl,rfl⟩:i=N/\j=0:=⟨by omega,by omega⟩
  have tP:((i:Int)<(i:Int))=False:=gO (by omega);have G:=vt (AH hX ho);replace Q:=vt Q;clear again hX ho uz;refine WV.seq eF.ok (WV.seq eF.ok (u2.w9 λR τ d I=>?_));go_wp2_with fail;refine I.out _ _ ?_;clear I R;refine WV.cond eF.ok (t:=false) rfl (WV.exit eF.ok rfl ?_);exact WV.fin eF.ok (WV.back (v:=.tuple #[]) eF.ok func16 rfl xi hm (Q.out K2 C2 S2 _ G.out.1 G.out.2))
variable {m:Int}{p:Addr}{ev:Value}
def JO.aDM{w v xs U}(h:JO ν q wv s K C S w){B hx z n:Nat}(tM:w.ownsRow B hx z v n xs)(hE:hx=51)(A:Kp (jB s C) w U):U.ownsRow B hx z v n xs:=by refine A.row tM λk A e=>?_;obtain⟨cur,e9⟩:=bq tM A;subst hE;rcases h.comp.rep.types (h.hs▸e) e9 with⟨_,e⟩|⟨_,e⟩|⟨_,e⟩|⟨_,e⟩|⟨_,e⟩|e|e<;>cases e
def aAY(l:B)(w:World)(h:l.length<=1000000):Calls Tq.prog 22 #[.string ⟨l.toArray⟩] w λe U=>e=.returned (.string ⟨(dA l).toArray⟩)/\U=w:=
 Wa.Gc ⟨l.toArray⟩ w (by rw[<-dx];unfold maxLen;show l.length<=_;omega)
def Rest.aO1(h:Rest ν K p ev wv)(hm:jV C0.mode)(Q:∀K' p' Jy U,Rest ν K' p' Jy U->Kp (λ_=>False) wv U->WV Post K' U (C0.finish (.bool true)) cs):WV Post K wv (Frame.enter prog 14 #[] .normal) (C0::cs):=by
 have w0:Wk K 14:=h.wk (by decide) ⟨_,func14⟩;refine WV.enter func14 rfl ?_;simp only[ntmps14,eC,bt,dt,Nat.reduceAdd,Nat.reduceSub,dC,dK,eI,cY,cg,cf];refine WV.seq h.ok (w0.w9 λR τ d I=>?_);go_wp2_with fail;refine I.out _ _ ?_;clear I R;refine WV.seq h.ok (WV.region h.ok ?_);refine w0.call 15 #[.bool true,.int .i64 9] ⟨_,rfl,rfl,λw=>xi⟩ ?_;have uw:=λ{LV:Frame} {ds:List Frame}=>h.new (Post:=Post) (q:=true) (C0:=LV) (cs:=ds) true 9 (by decide);refine uw ?_;clear uw;intro K1 C1 w1 hC B4 FA hp oU;have hX:JO ν true wv K1.s K1 C1 (Fb true 9) w1:=⟨hC,rfl,B4,FA⟩
 obtain⟨s,hs⟩:∃s,s=K1.s:=⟨_,rfl⟩
 rw[<-hs]at hX ⊢;replace Q:=vt Q;replace hm:=vt hm;clear B4 FA hp oU hs h w0;refine WV.called (o:=_) rfl ?_;have u1:Wk K1 14:=hC.wk (by decide) ⟨_,func14⟩;unfold aG;refine u1.wA 1 1 0 λR τ d I=>?_;show wpList _ _ _ [_] _ _;go_wp2_with fail;refine I.out _ _ ?_;clear I R;refine WV.ib hC.ok ?_;refine WV.seq hC.ok (WV.seq hC.ok (u1.w9 λR τ d I=>?_));go_wp2_with fail;refine I.out _ _ ?_;clear I R;refine WV.cond hC.ok (t:=false) rfl (WV.skip hC.ok ?_);refine WV.seq hC.ok (u1.w9 λR τ d I=>?_);go_wp2_with fail;refine I.out _ _ ?_;clear I R;obtain⟨b,hb⟩:∃b,b=aG s:=⟨_,rfl⟩
 have xa:Value.pointer (some ⟨s,0,none⟩)=b:=hb.symm;rw[xa];replace hb:=vt hb;clear xa;obtain⟨bi,PM,aXp⟩:=named (dA Rc.aCK) 8 (by decide);obtain⟨tb,Hp,aWN⟩:=named Rc.aAG 40 (by decide);obtain⟨ti,hti,aWM⟩:=named (dA Rc.aAG) 8 (by decide);obtain⟨cb,AG,aXn⟩:=named Rc.firstT 60 (by decide);obtain⟨ci,hci,aXl⟩:=named (dA Rc.firstT) 8 (by decide);obtain⟨lv,BG,aWX⟩:=named Rc.aEm 600 (by decide);have I0:Hid (∀w,Calls Tq.prog 22 #[.string ⟨#[98,108,111,98,32,104,101,108,108,111]⟩] w λe U=>e=.returned (.string bi)/\U=w):=vt λw=>by rw[PM.out];exact aAY Rc.aCK w (by decide)
 have I1:Hid (∀w,Calls Tq.prog 22 #[.string tb] w λe U=>e=.returned (.string ti)/\U=w):=vt λw=>by rw[hti.out,Hp.out];exact aAY Rc.aAG w (by decide)
 have I2:Hid (∀w,Calls Tq.prog 22 #[.string cb] w λe U=>e=.returned (.string ci)/\U=w):=vt λw=>by rw[hci.out,AG.out];exact aAY Rc.firstT w (by decide)
 refine WV.seq hC.ok (u1.w9 λR τ d I=>?_);go_wp2_with (go_at_call 22;refine(I0.out _).mono ?_;rintro e U ⟨rfl,rfl⟩);refine I.out _ _ ?_;clear I R;refine WV.seq hC.ok (u1.w9 λR τ d I=>?_);go_wp2_with fail;refine I.out _ _ ?_;clear I R;have YZ:(⟨#[116,114,101,101,32,97,61]⟩++bi:ByteArray)=tb:=by rw[PM.out,Hp.out];apply n7;simp[gv,Rc.aAG]
 rw[YZ];clear YZ I0;refine WV.seq hC.ok (u1.w9 λR τ d I=>?_);go_wp2_with (go_at_call 22;refine(I1.out _).mono ?_;rintro e U ⟨rfl,rfl⟩);refine I.out _ _ ?_;clear I R;refine WV.seq hC.ok (u1.w9 λR τ d I=>?_);go_wp2_with fail;refine I.out _ _ ?_;clear I R;have YZ:(⟨#[99,111,109,109,105,116,32]⟩++ti++⟨#[32,45,32,102,105,114,115,116]⟩:ByteArray)=cb:=by rw[hti.out,AG.out];apply n7;simp[gv,Rc.firstT,qo]
 rw[YZ];clear YZ I1;refine WV.seq hC.ok (u1.w9 λR τ d I=>?_);go_wp2_with (go_at_call 22;refine(I2.out _).mono ?_;rintro e U ⟨rfl,rfl⟩);refine I.out _ _ ?_;clear I R I2;replace hX:=vt hX;refine WV.seq hC.ok (WV.region hC.ok ?_);refine u1.wA 0 1 2 λR τ d I=>?_;show wpList _ _ _ [_] _ _;go_wp2_with fail;refine I.out _ _ ?_;clear I R;refine u1.call 23 #[b] ⟨_,rfl,rfl,λw=>xi⟩ ?_;have uw:=λ{LV:Frame} {ds:List Frame}=>hX.out.comp.open_ (Post:=Post) (C0:=LV) (cs:=ds) (by decide) rfl;rw[hX.out.hs,<-hb.out]at uw;refine uw ?_;clear uw;intro K2 C2 w2 eF yB Mz;have hX2:=vt (hX.out.next eF yB Mz);clear Mz hX;have u2:Wk K2 14:=eF.wk (by decide) ⟨_,func14⟩;refine WV.called (o:=_) rfl ?_;refine u2.wA 2 1 0 λR τ d I=>?_;show wpList _ _ _ [_] _ _;go_wp2_with fail;refine I.out _ _ ?_;clear I R;refine WV.ib eF.ok ?_;have P:Hid (∀(W:World) (g:Nat),(∀(k:Nat) x,[Rc.firstT,Rc.aCK,Rc.aAG][k]? =some x->W.cell? ⟨g,k,none⟩=some (av x))->Calls Tq.prog 32 #[.string ⟨#[48,48,48,48,48,48,48,48]⟩,.string ci,.string ⟨#[114,101,102,115,47,109,97,105,110]⟩,.slice (some ⟨g,0,none⟩) 3 3] W λe U=>e=.returned (.string lv)/\U=W):=vt λW g L=>by
  have hd:((⟨#[48,48,48,48,48,48,48,48]⟩:ByteArray)++⟨#[32]⟩++ci++⟨#[32]⟩++⟨#[114,101,102,115,47,109,97,105,110]⟩).data.toList=di++[32]++dA Rc.firstT++[32]++Rc.aCz:=by rw[hci.out];simp[gv,di,Rc.aCz,pG]
  have:=Tz.aEg ⟨#[48,48,48,48,48,48,48,48]⟩ ci ⟨#[114,101,102,115,47,109,97,105,110]⟩ g [Rc.firstT,Rc.aCK,Rc.aAG] W (by simp only[iX];show 8+1+ci.size+1+9<=300;omega) (by decide) (by decide) L (λx E=>by unfold dU;split;exact cQ _;rw[b9,MM];omega);rw[hd]at this;rw[BG.out];exact this
 have aIn:(Fb true 9).open_.1.feed 0 lv.data.toList=(Rc.aAP,true):=by rw[BG.out];exact Rc.aEW
 replace aIn:=vt aIn;have Ay:Hid ((Value.string cb=av Rc.firstT)/\(Value.string tb=av Rc.aAG)):=vt ⟨by rw[AG.out];rfl,by rw[Hp.out];rfl⟩;clear BG AG PM;refine WV.seq eF.ok (u2.code rfl xi λR I τ d=>?_);replace I:=vt I;go_wp2_with fail;refine(P.out _ _ ?uX).mono ?_
 case uX=>
  intro k y hy;have hb9:=aM.new (Ka.re w2 τ d) #[.string cb,.string ⟨#[98,108,111,98,32,104,101,108,108,111]⟩,.string tb] 9
  match k,hy with
  |0,hy=>cases hy;rw[<-Ay.out.1];exact hb9.at rfl
  |1,hy=>cases hy;exact hb9.at rfl
  |2,hy=>cases hy;rw[<-Ay.out.2];exact hb9.at rfl
 rintro e W3 ⟨rfl,rfl⟩;go_wp2_with fail;refine I.out _ _ ?_;clear I R P;have zI:=vt (hX2.out.fresh (τ:=τ) (d:=d) ((Fr.aj.refl _ _).alloc (.cells #[.string cb,.string ⟨#[98,108,111,98,32,104,101,108,108,111]⟩,.string tb] 9)));clear hX2;generalize(Ka.re w2 τ d).alloc (.cells #[.string cb,.string ⟨#[98,108,111,98,32,104,101,108,108,111]⟩,.string tb] 9)=w3 at zI ⊢;generalize(Ka.re w2 τ d).heap.size=n3;refine WV.seq eF.ok (WV.region eF.ok ?_);refine u2.wA 0 3 2 λR τ d I=>?_;show wpList _ _ _ [_,_,_] _ _;go_wp2_with fail;refine I.out _ _ ?_;clear I R;refine u2.call 25 #[b,.int .i64 0,.string lv] ⟨_,rfl,rfl,λw=>xi⟩ ?_;have hfe:∀{LV:Frame} {ds:List Frame},(∀C' U,bI ν true 0 K2 C' Rc.aAP U->Fm s C2 w3 C' U->WV Post K2 U (LV.finish (.bool true)) ds)->WV Post K2 w3 (Frame.enter prog 25 #[b,.int .i64 0,.string lv] .normal) (LV::ds):=by intro LV ds Q;have:=zI.out.comp.feed (Post:=Post) (fr:=LV) (cs:=ds) 0 lv (by omega);have e:Sv.feed {(Fb true 9)with ae:=(Fb true 9).ae++[{}]} 0 lv.data.toList=(Rc.aAP,true):=aIn.out;rw[e,zI.out.hs,<-hb.out]at this;exact this Q
 refine hfe ?_;clear hfe aIn;intro C3 w4 vg D8;have VT:=vt (zI.out.next vg zI.out.hs D8);clear D8 zI;refine WV.called (o:=_) rfl ?_;refine u2.wA 4 1 0 λR τ d I=>?_;show wpList _ _ _ [_] _ _;go_wp2_with fail;refine I.out _ _ ?_;clear I R;refine WV.ib vg.ok ?_;refine WV.seq vg.ok (WV.region vg.ok ?_);refine u2.wA 0 2 6 λR τ d I=>?_;show wpList _ _ _ [_,_] _ _;go_wp2_with fail;refine I.out _ _ ?_;clear I R;refine u2.call 28 #[b,.int .i64 0,.int .i64 50] ⟨_,rfl,rfl,λw=>xi⟩ ?_;have uw:=λ{LV:Frame} {ds:List Frame} (hm:jV LV.mode)=>VT.out.comp.whole (Post:=Post) (C0:=LV) (cs:=ds) 0 hm;rw[VT.out.hs,<-hb.out]at uw;refine uw trivial ?_;clear uw;intro K5 C5 w5 v5 Hs hv5 Fy Lq;obtain rfl:=hv5 9 Rc.aEM;have hX5:=vt (VT.out.next Hs Fy Lq);clear Lq VT hv5;have u5:Wk K5 14:=Hs.wk (by decide) ⟨_,func14⟩;refine WV.called (o:=_) rfl ?_;refine u5.wA 3 5 0 λR τ d I=>?_;show wpList _ _ _ [_,_,_,_,_] _ _;go_wp2_with fail;refine I.out _ _ ?_;clear I R;refine WV.ib Hs.ok ?_;obtain⟨rb,GM,_⟩:=named Rc.aEd 40 (by decide);have Ao:av Rc.aEd=.string rb:=by rw[GM.out];rfl
 have hrq:(rb.toList==[117,110,112,97,99,107,32,111,107,10,111,107,32,114,101,102,115,47,109,97,105,110,10])=true:=by rw[ğ,GM.out];rfl
 replace hrq:=vt hrq;clear GM;refine WV.seq Hs.ok (WV.region Hs.ok ?_);refine u5.wA 0 2 6 λR τ d I=>?_;show wpList _ _ _ [_,_] _ _;go_wp2_with fail;refine I.out _ _ ?_;clear I R;refine u5.call 29 #[b,.int .i64 0] ⟨_,rfl,rfl,λw=>xi⟩ ?_;have uw:=λ{LV:Frame} {ds:List Frame}=>hX5.out.comp.bR (Post:=Post) (fr:=LV) (cs:=ds) 0;rw[hX5.out.hs,<-hb.out,Rc.aDV,Ao]at uw;refine uw ?_;clear uw Ao;intro C6 w6 hC6 hf6;have hX6:=vt (hX5.out.next hC6 hX5.out.hs hf6);clear hf6 hX5;refine WV.called (o:=_) rfl ?_;refine u5.wA 3 5 0 λR τ d I=>?_;show wpList _ _ _ [_,_,_,_,_] _ _;go_wp2_with fail;refine I.out _ _ ?_;clear I R;refine WV.ib hC6.ok ?_;refine WV.seq hC6.ok (WV.region hC6.ok ?_);refine u5.wA 0 1 2 λR τ d I=>?_;show wpList _ _ _ [_] _ _;go_wp2_with fail;refine I.out _ _ ?_;clear I R;refine u5.call 31 #[b] ⟨_,rfl,rfl,λw=>xi⟩ ?_;have uw:=λ{LV:Frame} {ds:List Frame}=>hX6.out.comp.refs (Post:=Post) (fr:=LV) (cs:=ds);rw[hX6.out.hs,<-hb.out,Rc.aEl]at uw;refine uw ?_;clear uw;intro vr C7 w7 hC7 hf7 tM;have hX7:=vt (hX6.out.next hC7 hX6.out.hs hf7);clear hf7 hX6;obtain⟨gr,cr,rfl,_⟩:=IK tM (by decide);replace tM:=vt tM;refine WV.called (o:=_) rfl ?_;refine u5.wA 2 1 0 λR τ d I=>?_;show wpList _ _ _ [_] _ _;go_wp2_with fail;refine I.out _ _ ?_;clear I R;refine WV.ib hC7.ok ?_;have aPE:Tz.aEL (M.get (Rc.ny 51 Rc.aAP 0).st.ah ti.data.toList)=.tuple #[.string tb,.bool true]:=by rw[hti.out];show Tz.aEL (M.get _ (dA Rc.aAG))=_;rw[Rc.aEk,Hp.out];rfl
 refine WV.seq hC7.ok (WV.region hC7.ok ?_);refine u5.wA 0 2 6 λR τ d I=>?_;show wpList _ _ _ [_,_] _ _;go_wp2_with fail;refine I.out _ _ ?_;clear I R;refine u5.call 33 #[b,.string ti] ⟨_,rfl,rfl,λw=>xi⟩ ?_;have uw:=λ{LV:Frame} {ds:List Frame}=>hX7.out.comp.object (Post:=Post) (fr:=LV) (cs:=ds) ti (by unfold maxLen;omega);rw[hX7.out.hs,<-hb.out,aPE]at uw;refine uw ?_;clear uw aPE hti Hp;intro C8 w8 hC8 hf8;have hX8:=vt (hX7.out.next hC8 hX7.out.hs hf8);have aI0:=vt (hX7.out.aDM tM.out rfl hf8.kp);clear hf8 hX7 tM;refine WV.called (o:=_) rfl ?_;refine u5.wA 3 5 0 λR τ d I=>?_;show wpList _ _ _ [_,_,_,_,_] _ _;go_wp2_with fail;refine I.out _ _ ?_;clear I R;refine WV.ib hC8.ok ?_;refine WV.seq hC8.ok (WV.region hC8.ok ?_);refine u5.wA 0 1 1 λR τ d I=>?_;show wpList _ _ _ [_] _ _;go_wp2_with fail;refine I.out _ _ ?_;clear I R;refine u5.call 18 #[b] ⟨_,rfl,rfl,λw=>xi⟩ ?_;have uw:=λ{LV:Frame} {ds:List Frame}=>hX8.out.comp.aEP.stop (Post:=Post) (C0:=LV) (cs:=ds);rw[hX8.out.hs,<-hb.out]at uw;refine uw ?_;clear uw;intro K9 p9 ev9 w9 JY hk9;have B4:=vt (hX8.out.kpS hk9);have aIT:=hX8.out.aDM aI0.out rfl hk9;clear hk9 hX8 aI0;have u9:Wk K9 14:=JY.wk (by decide) ⟨_,func14⟩;refine WV.called (o:=_) rfl (WV.ib JY.ok ?_);refine WV.seq JY.ok (WV.seq JY.ok (u9.w9 λR τ d I=>?_));go_wp2_with fail;refine I.out _ _ ?_;clear I R;refine WV.cond JY.ok (t:=false) rfl (WV.skip JY.ok ?_);obtain⟨g,cap,e,L⟩:=IK aIT (by decide);injection e with e1 e2 e3;injection e1 with e1;injection e1 with e1 _ _;subst e1;obtain⟨mb,L1,_⟩:=named Rc.aCz 9 (by decide);have k0:w9.cell? ⟨gr,0,none⟩=some (.string mb):=(L 0 _ rfl).trans (by rw[L1.out];rfl);have k1:w9.cell? ⟨gr,1,none⟩=some (.string ci):=(L 1 _ rfl).trans (by rw[hci.out];rfl);have q0:(mb.toList==[114,101,102,115,47,109,97,105,110])=true:=by rw[ğ,L1.out];rfl
 have q1:(ci.toList==ci.toList)=true:=by simp
 have q2:(tb.toList==tb.toList)=true:=by simp
 replace hrq:=hrq.out;clear L aIT e2 e3 L1 hci;refine WV.seq JY.ok (u9.w9 λR τ d I=>?_);have k0':(Ka.re w9 τ d).cell? ⟨gr,0,none⟩=some (.string mb):=k0;have k1':(Ka.re w9 τ d).cell? ⟨gr,1,none⟩=some (.string ci):=k1;go_wp2_with fail;refine I.out _ _ ?_;clear I R;exact WV.ret JY.ok (WV.back (v:=.bool true) JY.ok func14 rfl xi hm.out (Q.out K9 p9 ev9 _ JY B4.out))
def aEB(S:Sv)(c:Nat):Prop:=∀(i:Nat) (x:Cn),S.ae[i]? =some x->i<c->x.over=false->x.ended=true
def aEB.next{S:Sv}{c:Nat}(h:aEB S c):aEB (S.end_ (c:Int)).1 (c+1):=by
 intro i x E hi ho;unfold Sv.end_ at E;cases L:S.conn (c:Int)with
 |none=>
  rw[L]at E;by_cases hic:i=c
  ·subst hic;rw[JE rfl E ho]at L;cases L
  ·exact h i x E (by omega) ho
 |some y=>
  obtain⟨j,y⟩:=y;rw[L]at E;obtain⟨e1,e2,e3⟩:=jc L;rcases jR E with⟨_,rfl⟩|⟨Q,E⟩
  ·rfl
  ·exact h i x E (by omega) ho
def aGN(S:Sv)(c:Int):(S.end_ c).1.over=S.over:=by unfold Sv.end_;split<;>rfl
def Rest.ends(h:Rest ν K p ev wv)(fw:Bool)(vL:Value)(N:Nat)(hvL:Ops wv vL N)(hm:jV C0.mode)(Q:∀K' p' Jy U,Rest ν K' p' Jy U->Kp (λ_=>False) wv U->WV Post K' U (C0.finish (.bool true)) cs):WV Post K wv (Frame.enter prog 19 #[vL,.bool fw] .normal) (C0::cs):=by
 have w0:Wk K 19:=h.wk (by decide) ⟨_,func19⟩;replace Q:=vt Q;replace hm:=vt hm;refine WV.enter func19 rfl ?_;simp only[ntmps19,eC,bt,dt,Nat.reduceAdd,Nat.reduceSub,dC,dK,eI,cY,cg,cf];refine WV.seq h.ok (w0.w9 λR τ d I=>?_);go_wp2_with fail;refine I.out _ _ ?_;clear I R;refine WV.seq h.ok (WV.region h.ok ?_);refine w0.wA 0 1 2 λR τ d I=>?_;show wpList _ _ _ [_] _ _;go_wp2_with fail;refine I.out _ _ ?_;clear I R;refine w0.call 15 #[.bool fw,.int .i64 40] ⟨_,rfl,rfl,λw=>xi⟩ ?_;have uw:=λ{LV:Frame} {ds:List Frame}=>h.new (Post:=Post) (q:=true) (C0:=LV) (cs:=ds) fw 40 (aI _);refine uw ?_;clear uw;intro K1 C1 w1 hC B4 FA hp oU;have hX:JO ν true wv K1.s K1 C1 (Fb fw 40) w1:=⟨hC,rfl,B4,FA⟩
 obtain⟨s,hs⟩:∃s,s=K1.s:=⟨_,rfl⟩
 rw[<-hs]at hX ⊢;clear B4 FA hp oU hs h w0;refine WV.called (o:=_) rfl ?_;have u1:Wk K1 19:=hC.wk (by decide) ⟨_,func19⟩;unfold aG;refine u1.wA 2 1 0 λR τ d I=>?_;show wpList _ _ _ [_] _ _;go_wp2_with fail;refine I.out _ _ ?_;clear I R;refine WV.ib hC.ok ?_;refine WV.seq hC.ok (WV.seq hC.ok (u1.w9 λR τ d I=>?_));go_wp2_with fail;refine I.out _ _ ?_;clear I R;refine WV.cond hC.ok (t:=false) rfl (WV.skip hC.ok ?_);obtain⟨b,hb⟩:∃b,b=aG s:=⟨_,rfl⟩
 have xa:Value.pointer (some ⟨s,0,none⟩)=b:=hb.symm;rw[xa];replace hb:=vt hb;clear xa;refine WV.seq hC.ok (WV.region hC.ok ?_);refine u1.wA 0 2 1 λR τ d I=>?_;show wpList _ _ _ [_,_] _ _;go_wp2_with fail;refine I.out _ _ ?_;clear I R;refine u1.call 16 #[b,vL,.bool true] ⟨_,rfl,rfl,λw=>xi⟩ ?_;rw[hb.out];refine hX.aMb (Post:=Post) (quiet:=true) rfl (λ_=>rfl) vL N hvL trivial ?_;clear hX hC u1 K1 C1 w1;intro K1 C1 S1 w1 hX ho;rw[<-hb.out];have hC:=hX.comp;have u1:Wk K1 19:=hC.wk (by decide) ⟨_,func19⟩;refine WV.called (o:=_) rfl (WV.ib hC.ok ?_);refine WV.seq hC.ok (WV.seq hC.ok (u1.w9 λR τ d I=>?_));go_wp2_with fail;refine I.out _ _ ?_;clear I R;refine WV.block hC.ok ?_;refine WV.while (hR:=λj K' U a=>∃(c:Nat) (C':Cp) (S':Sv),a={tmps:=#[vL,.bool fw,O a 2,O a 3,O a 4,b,.int .i64 (c:Nat),O a 7,O a 8,O a 9,O a 10,O a 11,O a 12,O a 13,O a 14,O a 15,O a 16,O a 17,O a 18,O a 19,O a 20,O a 21,O a 22,O a 23,O a 24,O a 25,O a 26,O a 27,O a 28,O a 29,O a 30,O a 31,O a 32,O a 33,O a 34,O a 35,O a 36,O a 37,O a 38,O a 39,O a 40,O a 41,O a 42,O a 43,O a 44,O a 45,O a 46,O a 47,O a 48,O a 49,O a 50,O a 51,O a 52,O a 53,O a 54,O a 55,O a 56,O a 57,O a 58,O a 59,O a 60,O a 61,O a 62,O a 63,O a 64,O a 65,O a 66,O a 67,O a 68,O a 69,O a 70,O a 71,O a 72,O a 73,O a 74,O a 75,O a 76,O a 77,O a 78,O a 79,O a 80,O a 81,O a 82,O a 83,O a 84,O a 85,O a 86,O a 87,O a 88,O a 89,O a 90,O a 91,O a 92,O a 93,O a 94,O a 95,O a 96,O a 97,O a 98,O a 99,O a 100,O a 101,O a 102,O a 103],defers:=[]}/\c+j=8/\JO ν true wv s K' C' S' U/\S'.over=false/\aEB S' c) (n:=8) (λj K' U a ⟨c,C',S',_,_,hX,_⟩=>hX.comp.ok) ⟨0,C1,S1,rfl,rfl,hX,ho,λi x _ h=>absurd h (Nat.not_lt_zero i)⟩ ?_;clear hX hC u1 ho K1 C1 w1 S1;rintro j K2 w2 a ⟨c,C2,S2,ha,hcj,hX,ho,hE⟩ again;obtain⟨x,E⟩:∃x,x=O a:=⟨_,rfl⟩
 rw[<-E]at ha;clear E;subst ha;have eF:=hX.comp;have u2:Wk K2 19:=eF.wk (by decide) ⟨_,func19⟩;by_cases ZI:c<8
 ·have tP:((c:Int)<8)=True:=ie (by omega);have G:=vt (AH again (AH hX (AH ho hE)));clear again hX ho hE;refine WV.seq eF.ok (WV.seq eF.ok (u2.w9 λR τ d I=>?_));go_wp2_with fail;refine I.out _ _ ?_;clear I R;refine WV.cond eF.ok (t:=true) rfl (WV.skip eF.ok (WV.seq eF.ok (WV.block eF.ok (WV.region eF.ok ?_))));refine u2.wA 0 2 1 λR τ d I=>?_;show wpList _ _ _ [_,_] _ _;go_wp2_with fail;refine I.out _ _ ?_;clear I R;refine u2.call 34 #[b,.int .i64 c] ⟨_,rfl,rfl,λw=>xi⟩ ?_;have uw:=λ{LV:Frame} {ds:List Frame}=>G.out.2.1.comp.end_ (Post:=Post) (fr:=LV) (cs:=ds) (c:Int);rw[G.out.2.1.hs,<-hb.out]at uw;refine uw ?_;clear uw;intro C3 w3 vg D8;have zI:=vt (G.out.2.1.next vg G.out.2.1.hs D8);clear D8;refine WV.called (o:=_) rfl (WV.ib vg.ok ?_);refine WV.inBlock vg.ok (u2.w9 λR τ d I=>?_);go_wp2_with fail;refine I.out _ _ ?_;clear I R;exact G.out.1 (j - 1) K2 _ _ (by omega) ⟨c+1,C3,_,rfl,by omega,zI.out,by rw[aGN];exact G.out.2.2.1,G.out.2.2.2.next⟩
 ·obtain⟨rfl,rfl⟩:c=8/\j=0:=⟨by have:=hcj;omega,by omega⟩
  have tP:(((8:Nat):Int)<8)=False:=gO (by omega);have hAE:Pk S2:=λx E hxo=>by
   obtain⟨i,hi⟩:=qP E;have:=(bA.1 hi).1;have:=eF.sw.Bl;exact hE i x hi (by omega) hxo
  obtain⟨Sf,Mt,_,hAO⟩:=aEc eF.sw hAE;have G:=vt (AH hX ho);replace Mt:=vt Mt;clear again hX ho hE hAE;refine WV.seq eF.ok (WV.seq eF.ok (u2.w9 λR τ d I=>?_));go_wp2_with fail;refine I.out _ _ ?_;clear I R;refine WV.cond eF.ok (t:=false) rfl (WV.exit eF.ok rfl ?_);clear tP;refine WV.seq eF.ok (u2.w9 λR τ d I=>?_);go_wp2_with fail;refine I.out _ _ ?_;clear I R;refine WV.seq eF.ok (WV.seq eF.ok (u2.w9 λR τ d I=>?_));go_wp2_with fail;refine I.out _ _ ?_;clear I R;refine WV.block eF.ok ?_;refine WV.while (hR:=λj K' U a=>∃(r:Nat) (C':Cp) (S':Sv),a={tmps:=#[vL,.bool fw,O a 2,O a 3,O a 4,b,O a 6,.bool false,.int .i64 (r:Nat),O a 9,O a 10,O a 11,O a 12,O a 13,O a 14,O a 15,O a 16,O a 17,O a 18,O a 19,O a 20,O a 21,O a 22,O a 23,O a 24,O a 25,O a 26,O a 27,O a 28,O a 29,O a 30,O a 31,O a 32,O a 33,O a 34,O a 35,O a 36,O a 37,O a 38,O a 39,O a 40,O a 41,O a 42,O a 43,O a 44,O a 45,O a 46,O a 47,O a 48,O a 49,O a 50,O a 51,O a 52,O a 53,O a 54,O a 55,O a 56,O a 57,O a 58,O a 59,O a 60,O a 61,O a 62,O a 63,O a 64,O a 65,O a 66,O a 67,O a 68,O a 69,O a 70,O a 71,O a 72,O a 73,O a 74,O a 75,O a 76,O a 77,O a 78,O a 79,O a 80,O a 81,O a 82,O a 83,O a 84,O a 85,O a 86,O a 87,O a 88,O a 89,O a 90,O a 91,O a 92,O a 93,O a 94,O a 95,O a 96,O a 97,O a 98,O a 99,O a 100,O a 101,O a 102,O a 103],defers:=[]}/\r+j=4960/\JO ν true wv s K' C' S' U/\aAL j S'=(Sf,true)) (n:=4960) (λj K' U a ⟨r,C',S',_,_,hX,_⟩=>hX.comp.ok) ⟨0,C2,S2,rfl,rfl,G.out.1,Mt.out⟩ ?_;clear G eF u2 Mt K2 C2 w2 S2;rintro j K2 w2 a ⟨r,C2,S2,ha,hrj,hX,Mt⟩ again;obtain⟨x,E⟩:∃x,x=O a:=⟨_,rfl⟩
  rw[<-E]at ha;clear E;subst ha;have eF:=hX.comp;have u2:Wk K2 19:=eF.wk (by decide) ⟨_,func19⟩;cases j with
  |zero=>cases Mt
  |succ j=>
  have tP:((r:Int)<4960)=True:=ie (by omega);replace again:=vt again;refine WV.seq eF.ok (WV.seq eF.ok (u2.w9 λR τ d I=>?_));go_wp2_with fail;refine I.out _ _ ?_;clear I R;refine WV.cond eF.ok (t:=true) rfl (WV.skip eF.ok (WV.seq eF.ok (WV.block eF.ok ?_)));clear tP;refine WV.seq eF.ok (u2.w9 λR τ d I=>?_);go_wp2_with fail;refine I.out _ _ ?_;clear I R;refine WV.seq eF.ok (u2.w9 λR τ d I=>?_);go_wp2_with fail;refine I.out _ _ ?_;clear I R;refine WV.seq eF.ok (WV.seq eF.ok (u2.w9 λR τ d I=>?_));go_wp2_with fail;refine I.out _ _ ?_;clear I R;refine WV.block eF.ok ?_;refine WV.while (hR:=λi K' U a=>∃(c:Nat) (mv lf:Bool) (C':Cp) (S':Sv),a={tmps:=#[vL,.bool fw,O a 2,O a 3,O a 4,b,O a 6,.bool false,.int .i64 (r:Nat),.bool mv,.bool lf,.int .i64 (c:Nat),O a 12,O a 13,O a 14,O a 15,O a 16,O a 17,O a 18,O a 19,O a 20,O a 21,O a 22,O a 23,O a 24,O a 25,O a 26,O a 27,O a 28,O a 29,O a 30,O a 31,O a 32,O a 33,O a 34,O a 35,O a 36,O a 37,O a 38,O a 39,O a 40,O a 41,O a 42,O a 43,O a 44,O a 45,O a 46,O a 47,O a 48,O a 49,O a 50,O a 51,O a 52,O a 53,O a 54,O a 55,O a 56,O a 57,O a 58,O a 59,O a 60,O a 61,O a 62,O a 63,O a 64,O a 65,O a 66,O a 67,O a 68,O a 69,O a 70,O a 71,O a 72,O a 73,O a 74,O a 75,O a 76,O a 77,O a 78,O a 79,O a 80,O a 81,O a 82,O a 83,O a 84,O a 85,O a 86,O a 87,O a 88,O a 89,O a 90,O a 91,O a 92,O a 93,O a 94,O a 95,O a 96,O a 97,O a 98,O a 99,O a 100,O a 101,O a 102,O a 103],defers:=[]}/\c+i=8/\JO ν true wv s K' C' S' U/\gI (List.range' c i) (S',mv,lf)=gI (List.range 8) (S2,false,false)) (n:=8) (λj K' U a ⟨c,mv,lf,C',S',_,_,hX,_⟩=>hX.comp.ok) ⟨0,false,false,C2,S2,rfl,rfl,hX,rfl⟩ ?_;clear hX eF u2 K2 C2 w2;rintro i K2 w2 a ⟨c,mv,lf,C2,S3,ha,hci,hX,htu⟩ aAI;obtain⟨x,E⟩:∃x,x=O a:=⟨_,rfl⟩
  rw[<-E]at ha;clear E;subst ha;have eF:=hX.comp;have u2:Wk K2 19:=eF.wk (by decide) ⟨_,func19⟩;cases i with
  |succ i=>
   have tP:((c:Int)<8)=True:=ie (by omega);have G:=vt (AH aAI (AH hX htu));clear aAI hX htu Mt;refine WV.seq eF.ok (WV.seq eF.ok (u2.w9 λR τ d I=>?_));go_wp2_with fail;refine I.out _ _ ?_;clear I R;refine WV.cond eF.ok (t:=true) rfl (WV.skip eF.ok (WV.seq eF.ok (WV.block eF.ok (WV.seq eF.ok (WV.region eF.ok ?_)))));refine u2.wA 0 2 2 λR τ d I=>?_;show wpList _ _ _ [_,_] _ _;go_wp2_with fail;refine I.out _ _ ?_;clear I R;refine u2.call 26 #[b,.int .i64 c] ⟨_,rfl,rfl,λw=>xi⟩ ?_;have uw:=λ{LV:Frame} {ds:List Frame}=>G.out.2.1.comp.step (Post:=Post) (C0:=LV) (cs:=ds) (c:Int);rw[G.out.2.1.hs,<-hb.out]at uw;refine uw ?_;clear uw;intro K3 C3 w3 vg B9 D8;have zI:=vt (G.out.2.1.next vg B9 D8);have hnx:gI (List.range' (c+1) i) ((S3.step (c:Int)).1,mv||(S3.step (c:Int)).2==1,lf||(S3.step (c:Int)).2==0)=gI (List.range 8) (S2,false,false):=G.out.2.2;clear D8;generalize(S3.step (c:Int)).2=kk at hnx ⊢;have hnx:=vt hnx;refine WV.called (o:=_) rfl ?_;have u3:Wk K3 19:=vg.wk (by decide) ⟨_,func19⟩;refine u3.wA 3 1 0 λR τ d I=>?_;show wpList _ _ _ [_] _ _;go_wp2_with fail;refine I.out _ _ ?_;clear I R;refine WV.ib vg.ok ?_;cases mv<;>cases lf
   all_goals
    refine WV.seq vg.ok (u3.w9 λR τ d I=>?_);go_wp2_with fail;refine I.out _ _ ?_;clear I R;refine(u3.w9 λR τ d I=>?_);go_wp2_with fail;refine I.out _ _ ?_;clear I R;refine WV.inBlock vg.ok (u3.w9 λR τ d I=>?_);go_wp2_with fail;refine I.out _ _ ?_;clear I R;exact G.out.1 i K3 _ _ (tE _) ⟨c+1,_,_,C3,_,rfl,by omega,zI.out,hnx.out⟩
  |zero=>
   obtain rfl:c=8:=by omega
   have tP:(((8:Nat):Int)<8)=False:=gO (by omega);have htu:(S3,mv,lf)=gI (List.range 8) (S2,false,false):=htu;have Mt:(if(gI (List.range 8) (S2,false,false)).2.1=true then aAL j (gI (List.range 8) (S2,false,false)).1 else((gI (List.range 8) (S2,false,false)).1,!(gI (List.range 8) (S2,false,false)).2.2))=(Sf,true):=Mt;rw[<-htu]at Mt;have G:=vt (AH again.out hX);clear again aAI hX htu;refine WV.seq eF.ok (WV.seq eF.ok (u2.w9 λR τ d I=>?_));go_wp2_with fail;refine I.out _ _ ?_;clear I R;refine WV.cond eF.ok (t:=false) rfl (WV.exit eF.ok rfl ?_);clear tP;cases mv with
   |true=>rw[bk rfl]at Mt;replace Mt:=vt Mt;refine WV.seq eF.ok (u2.w9 λR τ d I=>?_);go_wp2_with fail;refine I.out _ _ ?_;clear I R;refine WV.cond eF.ok (t:=false) rfl (WV.skip eF.ok ?_);refine WV.inBlock eF.ok (u2.w9 λR τ d I=>?_);go_wp2_with fail;refine I.out _ _ ?_;clear I R;exact G.out.1 j K2 _ _ (tE _) ⟨r+1,C2,S3,rfl,by omega,G.out.2,Mt.out⟩
   |false=>
    rw[aX (by decide)]at Mt;obtain⟨e1,e2⟩:=Prod.mk.inj Mt;have e1:S3=Sf:=e1;have e2:(!lf)=true:=e2;obtain rfl:lf=false:=by cases lf;rfl;cases e2
    subst e1;clear Mt e2;refine WV.seq eF.ok (u2.w9 λR τ d I=>?_);go_wp2_with fail;refine I.out _ _ ?_;clear I R;refine WV.cond eF.ok (t:=true) rfl ?_;refine WV.seq eF.ok (u2.w9 λR τ d I=>?_);go_wp2_with fail;refine I.out _ _ ?_;clear I R;refine WV.exit eF.ok rfl ?_;refine WV.seq eF.ok (WV.seq eF.ok (u2.w9 λR τ d I=>?_));go_wp2_with fail;refine I.out _ _ ?_;clear I R;refine WV.block eF.ok ?_;refine WV.while (hR:=λi K' U a=>∃(c:Nat) (C':Cp),a={tmps:=#[vL,.bool fw,O a 2,O a 3,O a 4,b,O a 6,.bool true,O a 8,O a 9,O a 10,O a 11,O a 12,.int .i64 (c:Nat),O a 14,O a 15,O a 16,O a 17,O a 18,O a 19,O a 20,O a 21,O a 22,O a 23,O a 24,O a 25,O a 26,O a 27,O a 28,O a 29,O a 30,O a 31,O a 32,O a 33,O a 34,O a 35,O a 36,O a 37,O a 38,O a 39,O a 40,O a 41,O a 42,O a 43,O a 44,O a 45,O a 46,O a 47,O a 48,O a 49,O a 50,O a 51,O a 52,O a 53,O a 54,O a 55,O a 56,O a 57,O a 58,O a 59,O a 60,O a 61,O a 62,O a 63,O a 64,O a 65,O a 66,O a 67,O a 68,O a 69,O a 70,O a 71,O a 72,O a 73,O a 74,O a 75,O a 76,O a 77,O a 78,O a 79,O a 80,O a 81,O a 82,O a 83,O a 84,O a 85,O a 86,O a 87,O a 88,O a 89,O a 90,O a 91,O a 92,O a 93,O a 94,O a 95,O a 96,O a 97,O a 98,O a 99,O a 100,O a 101,O a 102,O a 103],defers:=[]}/\c+i=8/\JO ν true wv s K' C' S3 U) (n:=8) (λj K' U a ⟨c,C',_,_,hX⟩=>hX.comp.ok) ⟨0,C2,rfl,rfl,G.out.2⟩ ?_;clear G eF u2 K2 C2 w2;rintro i K2 w2 a ⟨c,C2,ha,hci,hX⟩ again;obtain⟨x,E⟩:∃x,x=O a:=⟨_,rfl⟩
    rw[<-E]at ha;clear E;subst ha;have eF:=hX.comp;have u2:Wk K2 19:=eF.wk (by decide) ⟨_,func19⟩;cases i with
    |succ i=>
     have tP:((c:Int)<8)=True:=ie (by omega);have vW:∃(rp:ByteArray) (bb:Bool),av (S3.bR (c:Int)).1=.string rp/\(S3.bR (c:Int)).2=bb/\rp.size<=1000/\((bb=true/\(Rc.kZ rp.data.toList).2=true)\/(bb=false/\rp=⟨#[]⟩)):=by
      rcases aED eF.sw hAO c with⟨V,J⟩|⟨V,J⟩
      ·refine⟨⟨(S3.bR (c:Int)).1.toArray⟩,true,rfl,V,?_,.inl ⟨rfl,J.1⟩⟩;rw[<-dx];exact J.2
      ·exact⟨⟨(S3.bR (c:Int)).1.toArray⟩,false,rfl,V,by rw[J];decide,.inr ⟨rfl,by rw[J]⟩⟩
     obtain⟨rp,bb,Jj,VS,Ao,D7⟩:=vW;have G:=vt (AH again hX);clear again hX;refine WV.seq eF.ok (WV.seq eF.ok (u2.w9 λR τ d I=>?_));go_wp2_with fail;refine I.out _ _ ?_;clear I R;refine WV.cond eF.ok (t:=true) rfl (WV.skip eF.ok (WV.seq eF.ok (WV.block eF.ok (WV.seq eF.ok (WV.region eF.ok ?_)))));refine u2.wA 0 2 6 λR τ d I=>?_;show wpList _ _ _ [_,_] _ _;go_wp2_with fail;refine I.out _ _ ?_;clear I R;refine u2.call 29 #[b,.int .i64 c] ⟨_,rfl,rfl,λw=>xi⟩ ?_;have uw:=λ{LV:Frame} {ds:List Frame}=>G.out.2.comp.bR (Post:=Post) (fr:=LV) (cs:=ds) (c:Int);rw[G.out.2.hs,<-hb.out,Jj,VS]at uw;refine uw ?_;clear uw Jj VS;intro C3 w3 vg D8;have zI:=vt (G.out.2.next vg G.out.2.hs D8);clear D8;refine WV.called (o:=_) rfl ?_;have u3:Wk K2 19:=vg.wk (by decide) ⟨_,func19⟩;refine u3.wA 3 5 0 λR τ d I=>?_;show wpList _ _ _ [_,_,_,_,_] _ _;go_wp2_with fail;refine I.out _ _ ?_;clear I R;refine WV.ib vg.ok ?_;have Ak:=vt (λw=>Tz.aF1 rp w Ao);generalize Rc.kZ rp.data.toList=ak at Ak D7;obtain⟨a1,a2⟩:=ak;have D7:=vt D7;refine WV.seq vg.ok (u3.code rfl xi λR I τ d=>?_);replace I:=vt I;go_wp2_with fail;refine(Ak.out _).mono ?_;rintro e w4 ⟨rfl,xp⟩;have VT:=vt (zI.out.fresh (Fr.aj.nK xp));clear xp;go_wp2_with fail;refine I.out _ _ ?_;clear I R Ak;refine WV.seq vg.ok (WV.region vg.ok ?_);refine u3.wA 0 2 2 λR τ d I=>?_;show wpList _ _ _ [_,_] _ _;go_wp2_with fail;refine I.out _ _ ?_;clear I R;refine u3.call 26 #[b,.int .i64 c] ⟨_,rfl,rfl,λw=>xi⟩ ?_;have uw:=λ{LV:Frame} {ds:List Frame}=>VT.out.comp.step (Post:=Post) (C0:=LV) (cs:=ds) (c:Int);rw[VT.out.hs,<-hb.out,aD6 hAO]at uw;refine uw ?_;clear uw;intro K5 C5 w5 Hs Fy Lq;have hX5:=vt (VT.out.next Hs Fy Lq);clear Lq;refine WV.called (o:=_) rfl ?_;have u5:Wk K5 19:=Hs.wk (by decide) ⟨_,func19⟩;refine u5.wA 3 1 0 λR τ d I=>?_;show wpList _ _ _ [_] _ _;go_wp2_with fail;refine I.out _ _ ?_;clear I R;refine WV.ib Hs.ok ?_;rcases D7.out with⟨rfl,J⟩|⟨rfl,rfl⟩
     ·obtain rfl:a2=true:=J;refine(u5.w9 λR τ d I=>?_);go_wp2_with fail;refine I.out _ _ ?_;clear I R;refine WV.inBlock Hs.ok (u5.w9 λR τ d I=>?_);go_wp2_with fail;refine I.out _ _ ?_;clear I R;exact G.out.1 i K5 _ _ (tE _) ⟨c+1,C5,rfl,by omega,hX5.out⟩
     ·refine(u5.w9 λR τ d I=>?_);go_wp2_with fail;refine I.out _ _ ?_;clear I R;refine WV.inBlock Hs.ok (u5.w9 λR τ d I=>?_);go_wp2_with fail;refine I.out _ _ ?_;clear I R;exact G.out.1 i K5 _ _ (tE _) ⟨c+1,C5,rfl,by omega,hX5.out⟩
    |zero=>
     obtain rfl:c=8:=by omega
     have tP:(((8:Nat):Int)<8)=False:=gO (by omega);clear again;replace hX:=vt hX;refine WV.seq eF.ok (WV.seq eF.ok (u2.w9 λR τ d I=>?_));go_wp2_with fail;refine I.out _ _ ?_;clear I R;refine WV.cond eF.ok (t:=false) rfl (WV.exit eF.ok rfl ?_);clear tP;refine WV.seq eF.ok (WV.region eF.ok ?_);refine u2.wA 0 1 2 λR τ d I=>?_;show wpList _ _ _ [_] _ _;go_wp2_with fail;refine I.out _ _ ?_;clear I R;refine u2.call 17 #[b] ⟨_,rfl,rfl,λw=>xi⟩ ?_;have uw:=λ{LV:Frame} {ds:List Frame}=>hX.out.comp.settled (Post:=Post) (fr:=LV) (cs:=ds);rw[hX.out.hs,<-hb.out]at uw;refine uw ?_;clear uw;intro C3 w3 vg D8;have zI:=vt (hX.out.next vg hX.out.hs D8);clear D8;refine WV.called (o:=_) rfl ?_;refine u2.wA 2 1 0 λR τ d I=>?_;show wpList _ _ _ [_] _ _;go_wp2_with fail;refine I.out _ _ ?_;clear I R;refine WV.ib vg.ok ?_;refine WV.seq vg.ok (WV.region vg.ok ?_);refine u2.wA 0 1 1 λR τ d I=>?_;show wpList _ _ _ [_] _ _;go_wp2_with fail;refine I.out _ _ ?_;clear I R;refine u2.call 18 #[b] ⟨_,rfl,rfl,λw=>xi⟩ ?_;have uw:=λ{LV:Frame} {ds:List Frame}=>zI.out.comp.aEP.stop (Post:=Post) (C0:=LV) (cs:=ds);rw[zI.out.hs,<-hb.out]at uw;refine uw ?_;clear uw;intro K4 p4 ev4 w4 hR4 hk4;have B4:=vt (zI.out.kpS hk4);clear hk4;have u4:Wk K4 19:=hR4.wk (by decide) ⟨_,func19⟩;refine WV.called (o:=_) rfl (WV.ib hR4.ok ?_);refine WV.seq hR4.ok (u4.w9 λR τ d I=>?_);go_wp2_with fail;refine I.out _ _ ?_;clear I R;exact WV.ret hR4.ok (WV.back (v:=.bool true) hR4.ok func19 rfl xi hm.out (Q.out K4 p4 ev4 _ hR4 B4.out))
def Kp.aOR{w U:World}(h:Kp (λ_=>False) w U){v:Value}{N:Nat}(X:Ops w v N):Ops U v N:=by obtain⟨a,cap,rfl,h0,V,J⟩:=X;refine⟨a,cap,rfl,h0,V,λi hi=>?_⟩;obtain⟨g,off,k,x,b,t,e,c0,c1,c2,c3,ht⟩:=J i hi;exact⟨g,off,k,x,b,t,e,h.cell c0,h.cell c1,h.cell c2,h.cell c3,ht⟩
def Rest.aGM(h:Rest ν K p ev wv)(vL:Value)(N:Nat)(hvL:Ops wv vL N)(hP:∀K' p' Jy U w,Rest ν K' p' Jy U->Kp (λ_=>False) wv U->Vw (K'.cut 2) U w->Post (.bool true) w):WV Post K wv (Frame.enter prog 5 #[vL] .normal) []:=by have w0:Wk K 5:=h.wk (by decide) ⟨_,func5⟩;replace hP:=vt hP;replace hvL:=vt hvL;refine WV.enter func5 rfl ?_;simp only[ntmps5,eC,bt,dt,Nat.reduceAdd,Nat.reduceSub,dC,dK,eI,cY,cg,cf];refine WV.seq h.ok (w0.w9 λR τ d I=>?_);go_wp2_with fail;refine I.out _ _ ?_;clear I R;refine WV.seq h.ok (WV.region h.ok ?_);refine w0.call 14 #[] ⟨_,rfl,rfl,λw=>xi⟩ ?_;refine h.aO1 (Post:=Post) trivial ?_;intro K1 p1 ev1 w1 JZ Hn;have u1:Wk K1 5:=JZ.wk (by decide) ⟨_,func5⟩;replace Hn:=vt Hn;clear h w0;refine WV.called (o:=_) rfl ?_;refine u1.wA 1 1 0 λR τ d I=>?_;show wpList _ _ _ [_] _ _;go_wp2_with fail;refine I.out _ _ ?_;clear I R;refine WV.ib JZ.ok ?_;refine WV.seq JZ.ok (WV.seq JZ.ok (u1.w9 λR τ d I=>?_));go_wp2_with fail;refine I.out _ _ ?_;clear I R;refine WV.cond JZ.ok (t:=false) rfl (WV.skip JZ.ok ?_);refine WV.seq JZ.ok (WV.region JZ.ok ?_);refine u1.wA 0 1 2 λR τ d I=>?_;show wpList _ _ _ [_] _ _;go_wp2_with fail;refine I.out _ _ ?_;clear I R;refine u1.call 19 #[vL,.bool false] ⟨_,rfl,rfl,λw=>xi⟩ ?_;refine JZ.ends (Post:=Post) false vL N (Hn.out.aOR hvL.out) trivial ?_;intro K2 p2 ev2 w2 J4 CM;have u2:Wk K2 5:=J4.wk (by decide) ⟨_,func5⟩;replace CM:=vt (Hn.out.trans CM);clear JZ u1 Hn;refine WV.called (o:=_) rfl ?_;refine u2.wA 2 1 0 λR τ d I=>?_;show wpList _ _ _ [_] _ _;go_wp2_with fail;refine I.out _ _ ?_;clear I R;refine WV.ib J4.ok (WV.seq J4.ok (WV.region J4.ok ?_));refine u2.wA 0 1 2 λR τ d I=>?_;show wpList _ _ _ [_] _ _;go_wp2_with fail;refine I.out _ _ ?_;clear I R;refine u2.call 19 #[vL,.bool true] ⟨_,rfl,rfl,λw=>xi⟩ ?_;refine J4.ends (Post:=Post) true vL N (CM.out.aOR hvL.out) trivial ?_;intro K3 p3 ev3 w3 hR3 ID;have u3:Wk K3 5:=hR3.wk (by decide) ⟨_,func5⟩;replace ID:=vt (CM.out.trans ID);clear J4 u2 CM;refine WV.called (o:=_) rfl ?_;refine u3.wA 2 1 0 λR τ d I=>?_;show wpList _ _ _ [_] _ _;go_wp2_with fail;refine I.out _ _ ?_;clear I R;refine WV.ib hR3.ok ?_;refine WV.seq hR3.ok (u3.w9 λR τ d I=>?_);go_wp2_with fail;refine I.out _ _ ?_;clear I R;exact WV.ret hR3.ok (hR3.done func5 rfl xi xi λw X=>hP.out _ _ _ _ w hR3 ID.out X)
end
end Re
end
