/- Ends: a part. Conditions: none. -/
import Derived.Test.YtmanpggemmgnnaaGreatDoorA34
import Derived.Test.YtmanpggemmgnnaaGreatDoorA37
set_option linter.all false
set_option maxHeartbeats 8000000
set_option maxRecDepth 1000000
namespace Go.Proofs.YtmanpggemmgnnaaGreatDoor
noncomputable section
open Go Go.RowKit Go.Shelf Ba Fr Tryz
def Ĳ:=@World.cell?_setCell_other
def ı:=@World.block_lt_of_cell?
def vp{p}(h:p):Go.RowKit.Hid p:=Go.Lib.hid h
def uS{a b}(x:a)(y:b):a/\b:=⟨x,y⟩
namespace De
open Tx Sp Wg Rd Bk Wi Se Rx Mp Lv Qu
def aE0{α}:∀{a b:M α},M.Up a->M.Up b->(∀k,M.get a k=M.get b k)->a=b:=by
 intro a
 induction a with
 |nil=>
  intro b _ _ h;cases b with
  |nil=>rfl
  |cons p r=>
   have:=h p.1;rw[M.get_nil,M.bG,bk rfl]at this;cases this
 |cons p r ih=>
  intro b ha hb h;cases b with
  |nil=>have:=h p.1;rw[M.get_nil,M.bG,bk rfl]at this;cases this
  |cons q s=>
   have yP:=fX.1 ha;have xa:=fX.1 hb;have A:p.1=q.1:=by
    refine fS λtW=>?_;cases hl:si p.1 q.1 with
    |true=>
     have V:=h p.1;rw[M.bG,bk rfl]at V;have hm:=M.get_some V.symm;rcases bm.1 hm with e|e
     ·exact tW (by rw[<-e])
     ·have J:=zq hl (xa.1 _ e);rw[vQ]at J;cases J
    |false=>
     have Bh:=Gv hl tW;have V:=h q.1;rw[M.bG q,bk rfl]at V;have hm:=M.get_some V;rcases bm.1 hm with e|e
     ·exact tW (by rw[<-e])
     ·have J:=zq Bh (yP.1 _ e);rw[vQ]at J;cases J
   have X:p.2=q.2:=by have V:=h p.1;rw[M.bG,bk rfl,M.bG,bk A.symm]at V;exact ay V
   have Y:r=s:=ih yP.2 xa.2 λk=>by
    by_cases e:p.1=k
    ·have n1:M.get r k=none:=by
      cases hh:M.get r k with
      |none=>rfl
      |some v=>exact absurd (vP (yP.1 _ (M.get_some hh))) (λh=>h e)
     have n2:M.get s k=none:=by
      cases hh:M.get s k with
      |none=>rfl
      |some v=>exact absurd (vP (xa.1 _ (M.get_some hh))) (λh=>h (A▸e))
     rw[n1,n2]
    ·have V:=h k;rw[M.bG,aX e,M.bG,aX (λe'=>e (A.trans e'))]at V;exact V
   cases p;cases q;simp only at A X;rw[A,X,Y]
def Hl{B1 q n cap cs k m}{w:World}(h:w.ownsRow B1 142 3 (.slice q n cap) cs.length (kY cs))(hm:cs[k]? =some m):
 n=cs.length/\∃g,q=some ⟨g,0,none⟩/\(∃xs,w.heap[g]? =some (.cells xs 142 (0,0)))/\w.cell? ⟨g,k*3,none⟩=some (.string ⟨m.old.toArray⟩)/\w.cell? ⟨g,k*3+1,none⟩=some (.string ⟨m.new.toArray⟩)/\w.cell? ⟨g,k*3+2,none⟩=some (.string ⟨m.ref.toArray⟩):=by
 obtain⟨m1,m2,m3⟩:=JG hm;have tP:k<cs.length:=(bA.1 hm).1;obtain⟨hl,L⟩:=h;rcases L with⟨e,h0⟩|⟨g,vZ,cur,e,V,J,h3,h4,h5,h6⟩
 ·omega
 injection e with e1 e2 e3;subst e1 e2;have wx:∀j x,(kY cs)[j]? =some x->w.cell? ⟨g,j,none⟩=some x:=λj x hj=>by
  rw[<-h6,j7]at hj;split at hj
  ·exact aM.at (xs:=cur) J (by rw[<-iO];exact hj)
  ·cases hj
 exact⟨rfl,g,rfl,⟨cur,J⟩,wx _ _ m1,wx _ _ m2,wx _ _ m3⟩
def tF(mo mr:Nat)(k:Nat):Prop:=k=mo\/k=mr
def Iu{w st mo mr μ S}(h:qZ w st mo mr μ S):Rx.Safe w (tF mo mr):=λk cur T fz A hb=>by
 rcases A with rfl|rfl
 ·exact absurd hb (h.ah.eQ _ _ _)
 ·obtain⟨es,clock,e,_⟩:=h.refs;rw[e]at hb;cases hb
def SR.aA{w b r m left cnt T U}(h:SR w b r m left cnt)(L:aj T w U)(V:¬T b)(J:¬T r):SR U b r m left cnt:=by have hb:=h.sm.lt;have Y:=World.ranges.lt h;obtain⟨es,clock,since,seen,c0,xa,F,hs,hD,jf,rest⟩:=h;exact⟨es,clock,since,seen,c0,(L.block b hb V).trans xa,F,hs,hD,(L.block r Y J).trans jf,rest⟩
structure TI(w:World)st mo mr pb mw μ(S:St)cv p cl mv left cnt yL fx W:Prop where
 rg:SR W mw w.heap.size mv left cnt
 col:Nv mv left yL
 jC:qZ W st mo mr μ {S with ah:=fx}
 psh:kK W pb mw cv p cl
 get:∀x,M.get fx x=if x∈yL then M.get p x else M.get S.ah x
 Bl:yL.length+cnt<=mv.length
 len:fx.length<=S.ah.length+yL.length
 aA:aj (tF mo mr) w W
def take_one w st mo mr pb mw μ S(cv:Value)p cl qc nc cc B1 cs(hS:qZ w st mo mr μ S)(hP:kK w pb mw (.slice qc nc cc) p cl)(tM:w.ownsRow B1 142 3 (.slice qc nc cc) cs.length (kY cs))
 (Q:p.length<=1000) (ho:S.ah.length<=1000000) (Y:S.refs.length<=1000000) (zE:cs.length<=1000) (hid:∀c∈cs,c.ref.length<=maxLen) (V:mo≠mr) (J:mo≠mw) (h3:mr≠mw):
 Calls Tq.prog 177 #[aG st,aG pb] w λe U=>e=.returned (.tuple #[])/\qZ U st mo mr μ (Sp.take S p cs)/\kK U pb mw (.slice qc nc cc) p cl/\aj (tF mo mr) w U:=by
 refine nA λks=>?_;obtain⟨mv,ry,ky⟩:=hP.waits;have hlen:=ky.length;have k1:w.cell? ⟨pb,1,none⟩=some (.map (some mw)):=hP.blk.at rfl;have hv:=vp (uS hS (uS hP (uS tM (uS Q (uS ho (uS Y (uS zE (uS hid (uS V (uS J (uS h3 (uS ky hlen))))))))))));clear hS hP tM Q ho Y zE hid V J h3 ky hlen;unfold aG;refine D.enter Tq.func177 rfl ?_;simp only[ntmps177,eC,bt,dt,Nat.reduceAdd,Nat.reduceSub,dC,dK,eI,cY,cg,cf];refine D.seq (D.seq (D.rh λR I=>?_));go_wp2_with (at_range;refine Mp.range rfl _ 55 rfl 106 ((Tq.underlying 55).trans underlying55) mw mv rfl ry ?_;intro w0 BH Ej hs0);refine I.out _ _ ?_;clear I R k1;have H0:TI w st mo mr pb mw μ S (.slice qc nc cc) p cl mv (λk=>(mv.get k).isSome) mv.length [] S.ah w0:=by obtain⟨hS,hP,tM,Q,ho,Y,zE,hid,V,J,h3,ky,hlen⟩:=hv.out;have c0:aj (λ_=>False) w w0:=(aj.refl _ w).grown Ej (λk h=>by cases h);exact⟨BH,Nv.start mv,hS.aA c0 (Rx.Safe.none w) (λe=>e) (λe=>e) (λe=>e),hP.aA c0 (Rx.Safe.none w) (λe=>e) (λe=>e),λx=>rfl,by simp,by simp,c0.mono (λ_ _ e=>e.elim)⟩
 clear BH Ej hs0 ry;refine D.block ?_;refine D.while (m:=mv.length) (λm W a=>∃(left:B->Bool) (cnt:Nat) (yL:List B) (fx:M B) (x2 x3 x4 x5 x6 x7 x8 x9 x10 x11 x13 x14 x15 x16 x17 x18 x19 x20 x21 x22 x23 x24 x25 x26 x27 x28 x29 x30 x31 x32 x33 x34 x35 x36 x37 x38 x39 x40 x41 x42 x43 x44 x45 x46 x47 x48 x49 x50:Value),a={tmps:=#[.pointer (some ⟨st,0,none⟩),.pointer (some ⟨pb,0,none⟩),x2,x3,x4,x5,x6,x7,x8,x9,x10,x11,.pointer (some ⟨w.heap.size,0,none⟩),x13,x14,x15,x16,x17,x18,x19,x20,x21,x22,x23,x24,x25,x26,x27,x28,x29,x30,x31,x32,x33,x34,x35,x36,x37,x38,x39,x40,x41,x42,x43,x44,x45,x46,x47,x48,x49,x50],defers:=[]}/\m=cnt/\TI w st mo mr pb mw μ S (.slice qc nc cc) p cl mv left cnt yL fx W) ⟨_,_,_,_,_,_,_,_,_,_,_,_,_,_,_,_,_,_,_,_,_,_,_,_,_,_,_,_,_,_,_,_,_,_,_,_,_,_,_,_,_,_,_,_,_,_,_,_,_,_,_,_,rfl,rfl,H0⟩ ?_;clear H0;rintro m W a ⟨left,cnt,yL,fx,x2,x3,x4,x5,x6,x7,x8,x9,x10,x11,x13,x14,x15,x16,x17,x18,x19,x20,x21,x22,x23,x24,x25,x26,x27,x28,x29,x30,x31,x32,x33,x34,x35,x36,x37,x38,x39,x40,x41,x42,x43,x44,x45,x46,x47,x48,x49,x50,rfl,rfl,hI⟩ IH;replace IH:=vp IH;dsimp only;have Ek:=hI.rg;replace hI:=vp hI;refine D.seq (D.rh λR I=>?_);go_wp2_with (at_next;refine Mp.next rfl _ rfl mw w.heap.size mv left m rfl Ek ?_ ?_)
 ·intro AE hl0;have H:=vp (uS AE hl0);clear Ek AE hl0;go_wp2_with fail;refine I.out _ _ ?_;clear I R;refine D.seq (D.cond (t:=false) rfl (D.exit rfl ?_));have hO:fx=p.foldl (λm x=>m.put x.1 x.2) S.ah:=by
   obtain⟨hS,hP,-⟩:=hv.out;have h:=hI.out;have ky:=hv.out.2.2.2.2.2.2.2.2.2.2.2.1;refine aE0 (OM.up h.jC.ah) (M.H9 p _ (OM.up hS.ah)) λx=>?_;rw[M.MX p _ x (OM.up hP.waits),h.get];have X:x∈yL↔(M.get p x).isSome=true:=by rw[h.col.2 x,H.out.2 x];rcases ky.get x with⟨e1,e2⟩|⟨x',y,e1,e2,r⟩<;>simp[e1,e2]
   cases hh:M.get p x with
   |none=>rw[aX (by rw[X,hh];simp)]
   |some v=>rw[bk (by rw[X,hh];rfl)]
  obtain⟨Hj,hP0,tM,Q,ho,Y,zE,hid,n1,n2,n3,ky,hlen⟩:=hv.out;have h:=hI.out;have aF5:=h.jC;rw[hO]at aF5;have aF9:=h.psh;have lD:=h.aA;have k27:W.cell? ⟨pb,0,none⟩=some (.slice qc nc cc):=aF9.blk.at rfl;have hnc:nc=cs.length/\∀(i:Nat) (c:nN),cs[i]? =some c->∃g,qc=some ⟨g,0,none⟩/\¬tF mo mr g/\w.cell? ⟨g,i*3,none⟩=some (.string ⟨c.old.toArray⟩)/\w.cell? ⟨g,i*3+1,none⟩=some (.string ⟨c.new.toArray⟩)/\w.cell? ⟨g,i*3+2,none⟩=some (.string ⟨c.ref.toArray⟩):=by
   refine⟨?_,λi c L=>?_⟩
   ·rcases tM.2 with⟨e,h0⟩|⟨g,vZ,cur,e,_⟩
    ·injection e with _ e2 _;rw[e2,h0]
    ·injection e
   ·obtain⟨-,g,e1,⟨xs,e2⟩,e3⟩:=Hl tM L;refine⟨g,e1,?_,e3⟩;rintro(rfl|rfl)
    ·exact Hj.ah.eQ _ _ _ e2
    ·obtain⟨es,clock,e,_⟩:=Hj.refs;rw[e]at e2;cases e2
  obtain⟨rfl,uX⟩:=hnc;have H0:qZ W st mo mr μ {S with ah:=p.foldl (λm x=>m.put x.1 x.2) S.ah,refs:=(cs.take 0).foldl (λm c=>if c.new=di then m.del c.ref else m.put c.ref c.new) S.refs}/\kK W pb mw (.slice qc cs.length cc) p cl/\aj (tF mo mr) w W:=⟨aF5,aF9,lD⟩
  have X2:=vp (uS uX (uS Y (uS zE (uS hid (uS n1 (uS n3 Hj))))));clear hO Hj hP0 tM Q ho Y zE hid n1 n2 n3 ky hlen h aF5 aF9 lD uX H hI IH hv;refine D.seq (D.rh λR I=>?_);go_wp2_with fail;refine I.out _ _ ?_;clear I R;clear k27;refine D.block ?_;refine D.while (m:=cs.length) (λm W a=>∃(i:Nat) (x2 x3 x4 x5 x6 x7 x8 x9 x10 x11 x12 x13 x14 x15 x16 x17 x18 x19 x20 x21 x22 x23 x24 x25 x26 x30 x31 x32 x33 x34 x35 x36 x37 x38 x39 x40 x41 x42 x43 x44 x45 x46 x47 x48 x49 x50:Value),a={tmps:=#[.pointer (some ⟨st,0,none⟩),.pointer (some ⟨pb,0,none⟩),x2,x3,x4,x5,x6,x7,x8,x9,x10,x11,x12,x13,x14,x15,x16,x17,x18,x19,x20,x21,x22,x23,x24,x25,x26,.slice qc cs.length cc,.int .i64 (cs.length:Nat),.int .i64 (i:Nat),x30,x31,x32,x33,x34,x35,x36,x37,x38,x39,x40,x41,x42,x43,x44,x45,x46,x47,x48,x49,x50],defers:=[]}/\m=cs.length - i/\i<=cs.length/\qZ W st mo mr μ {S with ah:=p.foldl (λm x=>m.put x.1 x.2) S.ah,refs:=(cs.take i).foldl (λm c=>if c.new=di then m.del c.ref else m.put c.ref c.new) S.refs}/\kK W pb mw (.slice qc cs.length cc) p cl/\aj (tF mo mr) w W) ⟨0,_,_,_,_,_,_,_,_,_,_,_,_,_,_,_,_,_,_,_,_,_,_,_,_,_,_,_,_,_,_,_,_,_,_,_,_,_,_,_,_,_,_,_,_,_,_,rfl,rfl,cQ _,H0⟩ ?_;clear H0;rintro m W a ⟨i,x2,x3,x4,x5,x6,x7,x8,x9,x10,x11,x12,x13,x14,x15,x16,x17,x18,x19,x20,x21,x22,x23,x24,x25,x26,x30,x31,x32,x33,x34,x35,x36,x37,x38,x39,x40,x41,x42,x43,x44,x45,x46,x47,x48,x49,x50,rfl,rfl,hle,hS,hP,hW⟩ IH;replace IH:=vp IH;dsimp only;by_cases tP:i<cs.length
  case neg=>
   have Bf:i=cs.length:=by omega
   subst Bf;rw[fM]at hS;have qw:((cs.length:Int)<(cs.length:Int))=False:=gO (by omega);have hr:=vp (uS hS (uS hP hW));clear hS hP hW tP hle X2;refine D.seq (D.rh λR I=>?_);go_wp2_with fail;refine I.out _ _ ?_;clear I R;refine D.seq (D.cond (t:=false) rfl (D.exit rfl ?_));exact D.fin rfl (D.left rfl rfl rfl rfl Tq.func177 (results_none rfl _ _ _) ⟨rfl,hr.out⟩)
  obtain⟨c,L⟩:∃c,cs[i]? =some c:=⟨_,bU tP⟩
  obtain⟨uX,Y,zE,hid,n1,n3,Hj⟩:=X2.out;obtain⟨g,rfl,hg,d0,d1,d2⟩:=uX i c L;replace d0:=hW.bB d0 hg;replace d1:=hW.bB d1 hg;replace d2:=hW.bB d2 hg;have Jn:g<W.heap.size:=ı W _ d0;have uI:cs.take (i+1)=cs.take i++[c]:=by rw[fg,L];rfl
  have EF:c.ref.length<=maxLen:=hid c (cM L);have qw:((i:Int)<(cs.length:Int))=True:=ie (by omega);have VQ:i<1000000:=by omega
  have hr:=vp (uS hS (uS hP (uS hW (uS tP (uS uI (uS hle n1))))));clear hS hP hW tP uI hle uX Y zE hid n1 n3 hg L Hj;refine D.seq (D.rh λR I=>?_);go_wp2_with fail;refine I.out _ _ ?_;clear I R;refine D.seq (D.cond (t:=true) rfl (D.skip (D.seq (D.block (D.seq (D.rh λR I=>?_))))));go_wp2_with fail;refine I.out _ _ ?_;clear I R;have ca:aj (λ_=>False) W (W.alloc (.cells #[.string ⟨c.old.toArray⟩,.string ⟨c.new.toArray⟩,.string ⟨c.ref.toArray⟩] 142)):=(aj.refl _ W).alloc _;have FB:=hr.out.1.aA ca (Rx.Safe.none W) (λe=>e) (λe=>e) (λe=>e);have Mn:=hr.out.2.1.aA ca (Rx.Safe.none W) (λe=>e) (λe=>e);have q1:(W.alloc (.cells #[.string ⟨c.old.toArray⟩,.string ⟨c.new.toArray⟩,.string ⟨c.ref.toArray⟩] 142)).cell? ⟨W.heap.size,1,none⟩=some (.string ⟨c.new.toArray⟩):=by simp
  have q2:(W.alloc (.cells #[.string ⟨c.old.toArray⟩,.string ⟨c.new.toArray⟩,.string ⟨c.ref.toArray⟩] 142)).cell? ⟨W.heap.size,2,none⟩=some (.string ⟨c.ref.toArray⟩):=by simp
  generalize W.alloc (.cells #[.string ⟨c.old.toArray⟩,.string ⟨c.new.toArray⟩,.string ⟨c.ref.toArray⟩] 142)=wa at ca FB Mn q1 q2 ⊢;generalize W.heap.size=nb at q1 q2 ⊢;have k5:wa.cell? ⟨st,5,none⟩=some (.map (some mr)):=FB.blk.at rfl;obtain⟨rm,NK⟩:∃rm,rm=(cs.take i).foldl (λm c=>if c.new=di then M.del m c.ref else M.put m c.ref c.new) S.refs:=⟨_,rfl⟩
  have Rl:SM wa mr (mapM av rm):=by rw[NK];exact FB.refs
  have hmd:SM wa.drew mr (mapM av rm):=Rl.block rfl;have hml:(mapM av rm).length<maxLen:=by
   obtain⟨uX,Y,zE,hid,n1,n3,Hj⟩:=X2.out;rw[mapM_length,NK];have key:∀(l:List nN) (m:M B),(l.foldl (λm c=>if c.new=di then M.del m c.ref else M.put m c.ref c.new) m).length<=m.length+l.length:=by
    intro l
    induction l with
    |nil=>exact λm=>aI _
    |cons c l ih=>
     intro m;have V:=ih (if c.new=di then M.del m c.ref else M.put m c.ref c.new);have J:(if c.new=di then M.del m c.ref else M.put m c.ref c.new).length<=m.length+1:=by
      split
      ·exact jx (M.uV _ _)
      ·exact M.gU _ _ _
     show(l.foldl _ (if c.new=di then M.del m c.ref else M.put m c.ref c.new)).length<=m.length+(l.length+1);omega
   have:=key (cs.take i) S.refs;have h3:(cs.take i).length<=cs.length:=by rw[jE];omega
   unfold maxLen;omega
  have n3:=X2.out.2.2.2.2.2.1;have Z:=vp (uS FB (uS Mn ca));replace NK:=vp NK;clear FB Mn ca d0 d1 d2 Rl;refine D.seq (D.rh λR I=>?_);go_wp2_with fail;refine I.out _ _ ?_;clear I R;by_cases hz:c.new=di
  ·have hb:(c.new==[48,48,48,48,48,48,48,48])=true:=by rw[hz];rfl
   rw[hb];have w':=vp hz;clear hb hz;refine D.cond (t:=true) rfl ?_;refine D.tq rfl λR I=>?_;replace I:=vp I
   go_still_tail 6,(by kernel_rfl)
   change wpList _ _ _ _ _ wa.drew;go_wp2_with (at_delete;refine Mp.delete rfl _ _ 56 rfl 9 ((Tq.underlying 56).trans underlying56) mr _ rfl hmd ⟨c.ref.toArray⟩ rfl EF ?_;intro w4 NL VJ);refine I.out _ _ ?_;clear I R;obtain⟨hS,hP,hW,tP,uI,hle,n1⟩:=hr.out;obtain⟨FB,Mn,ca⟩:=Z.out;have c4:aj (·=mr) wa.drew w4:=dY VJ;have c5:aj (tF mo mr) w w4:=(hW.trans (ca.mono (λ_ _ e=>e.elim))).trans ((⟨c4.os,c4.tape,c4.output,c4.size,c4.block⟩:aj (·=mr) wa w4).mono (λ_ _ e=>.inr e));have c6:aj (·=mr) wa w4:=⟨c4.os,c4.tape,c4.output,c4.size,c4.block⟩
   have ru:Rx.Safe wa (·=mr):=λk cur T fz A hb=>Iu FB k cur T fz (.inr A) hb;have aOE:=FB.refs.lt;refine D.inBlock ?_;refine D.rh λR I=>?_;go_wp2_with fail;refine I.out _ _ ?_;clear I R;refine IH.out (cs.length - (i+1)) _ _ (by omega) ⟨i+1,_,_,_,_,_,_,_,_,_,_,_,_,_,_,_,_,_,_,_,_,_,_,_,_,_,_,_,_,_,_,_,_,_,_,_,_,_,_,_,_,_,_,_,_,_,_,rfl,rfl,by omega,⟨FB.blk.aA c6 (FB.blk.dV FB.refs),FB.ah.aA c6 ru n1,?_⟩,Mn.aA c6 ru (Mn.blk.dV FB.refs) (dT n3),c5⟩;rw[uI,kz];show SM w4 mr (mapM av (if c.new=di then _ else _));rw[bk w'.out,<-Dx,<-NK.out];exact NL
  ·have hb:(c.new==[48,48,48,48,48,48,48,48])=false:=fq hz;rw[hb];have w':=vp hz;clear hb hz;refine D.cond (t:=false) rfl ?_;refine D.tq rfl λR I=>?_;replace I:=vp I
   go_still_tail 8,(by kernel_rfl)
   change wpList _ _ _ _ _ wa.drew;go_wp2_with (at_mapUpdate;refine Mp.store rfl _ _ _ 56 rfl 9 ((Tq.underlying 56).trans underlying56) mr _ rfl hmd hml ⟨c.ref.toArray⟩ (.string ⟨c.new.toArray⟩) rfl rfl EF ?_;intro w4 NL VJ);refine I.out _ _ ?_;clear I R;obtain⟨hS,hP,hW,tP,uI,hle,n1⟩:=hr.out;obtain⟨FB,Mn,ca⟩:=Z.out;have c4:aj (·=mr) wa.drew w4:=dY VJ;have c5:aj (tF mo mr) w w4:=(hW.trans (ca.mono (λ_ _ e=>e.elim))).trans ((⟨c4.os,c4.tape,c4.output,c4.size,c4.block⟩:aj (·=mr) wa w4).mono (λ_ _ e=>.inr e));have c6:aj (·=mr) wa w4:=⟨c4.os,c4.tape,c4.output,c4.size,c4.block⟩
   have ru:Rx.Safe wa (·=mr):=λk cur T fz A hb=>Iu FB k cur T fz (.inr A) hb;have aOE:=FB.refs.lt;refine D.inBlock ?_;refine D.rh λR I=>?_;go_wp2_with fail;refine I.out _ _ ?_;clear I R;refine IH.out (cs.length - (i+1)) _ _ (by omega) ⟨i+1,_,_,_,_,_,_,_,_,_,_,_,_,_,_,_,_,_,_,_,_,_,_,_,_,_,_,_,_,_,_,_,_,_,_,_,_,_,_,_,_,_,_,_,_,_,_,rfl,rfl,by omega,⟨FB.blk.aA c6 (FB.blk.dV FB.refs),FB.ah.aA c6 ru n1,?_⟩,Mn.aA c6 ru (Mn.blk.dV FB.refs) (dT n3),c5⟩;rw[uI,kz];show SM w4 mr (mapM av (if c.new=di then _ else _));rw[aX w'.out,<-Ls,<-NK.out];exact NL
 ·intro k x w1 cnt1 MF B5 iP BI tP DG hen;obtain⟨hS,hP,tM,Q,ho,Y,zE,hid,n1,n2,n3,ky,hlen⟩:=hv.out;have h:=hI.out;have c1:aj (·=w.heap.size) W w1:=(aj.refl (·=w.heap.size) W).grown DG (λk h=>.inl (by cases h;rfl));have ru:Rx.Safe W (·=w.heap.size):=λk cur T fz A hb=>by
   subst A;obtain⟨es,clock,since,seen,c0,xa,F,hs,hD,jf,rest⟩:=h.rg;rw[jf]at hb;cases hb
  have l0:=World.ranges.lt h.rg;have A6:=h.jC.aA c1 ru (iu hS.blk.lt) (iu hS.ah.lt) (iu hS.refs.lt);have ZQ:=h.psh.aA c1 ru (iu hP.blk.lt) (iu hP.waits.lt);have cw1:aj (tF mo mr) w w1:=h.aA.trans' c1 (λi hi e=>absurd hi (by omega));have k4:w1.cell? ⟨st,4,none⟩=some (.map (some mo)):=A6.blk.at rfl;obtain⟨ov,Bc,Ax⟩:=A6.ah;have GV:ov.length<maxLen:=by have e1:=Ax.length;have e2:=h.len;have e3:=h.Bl;simp only at e1;unfold maxLen;omega
  obtain⟨t,G2,vX⟩:∃t,M.get p k=some t/\Ob w t x:=by
   rcases ky.get k with⟨e1,_⟩|⟨x',y,e1,e2,r⟩
   ·rw[iP]at e1;cases e1
   ·rw[iP]at e1;obtain rfl:=ay e1;exact⟨y,e2,r⟩
  have hr:=vp (uS h (uS A6 (uS ZQ (uS cw1 (uS Ax (uS G2 (uS vX (uS B5 (uS iP (uS BI (uS tP DG)))))))))));clear hS hP tM Q ho Y zE hid n1 n2 n3 ky hlen h c1 ru l0 A6 ZQ cw1 Ax G2 vX B5 iP BI tP DG Ek;go_wp2_with fail;refine I.out _ _ ?_;clear I R;refine D.seq (D.cond (t:=true) rfl (D.skip (D.block (D.seq (D.rh λR I=>?_)))));go_wp2_with fail;refine I.out _ _ ?_;clear I R;refine D.rh λR I=>?_;go_wp2_with (at_mapUpdate;refine Mp.store rfl _ _ _ 55 rfl 106 ((Tq.underlying 55).trans underlying55) mo ov rfl Bc GV ⟨k.toArray⟩ x rfl rfl MF ?_;intro w4 NL VJ);refine I.out _ _ ?_;clear I R;obtain⟨h,A6,ZQ,cw1,Ax,G2,vX,B5,iP,BI,tP,DG⟩:=hr.out;obtain⟨hS,hP,tM,Q,ho,Y,zE,hid,n1,n2,n3,ky,hlen⟩:=hv.out;have c4:aj (·=mo) w1 w4:=dY VJ;have ru:Rx.Safe w1 (·=mo):=λk cur T fz A hb=>absurd hb (by subst A;exact A6.ah.eQ _ _ _);have GQ:=hS.ah.lt;have aO2:Ob w4 t x:=Ob.aA vX (cw1.trans (c4.mono (λ_ _ e=>.inl e))) (Iu hS);refine D.inBlock (IH.out cnt1 _ _ tP ⟨_,cnt1,yL++[k],M.put fx k t,_,_,_,_,_,_,_,_,_,_,_,_,_,_,_,_,_,_,_,_,_,_,_,_,_,_,_,_,_,_,_,_,_,_,_,_,_,_,_,_,_,_,_,_,_,_,_,_,rfl,rfl,SR.aA BI c4 (dT n2) (dT (iu GQ)),h.col.step B5 iP,⟨A6.blk.aA c4 (A6.blk.dV Bc),⟨_,NL,(Ax.mono λk x y _ Y=>Ob.aA Y c4 ru).put k aO2⟩,A6.refs.block (c4.block mr A6.refs.lt (dT n1))⟩,ZQ.aA c4 ru (ZQ.blk.dV Bc) (dT n2),λy=>?_,?_,?_,cw1.trans (c4.mono (λ_ _ e=>.inl e))⟩)
  ·rw[M.get_put,h.get];by_cases hy:y=k
   ·subst hy;rw[bk rfl,bk (by simp),G2]
   ·rw[aX hy];simp[hy]
  ·have:=h.Bl;simp;omega
  ·have:=M.gU fx k t;have:=h.len;simp;omega
end De
section
open Go.Maps
namespace Lv
def D.deferred{d ds P w f args Goal fr cs fv cap}{R:World->Prop}(hm:fr.mode=.returning)(hd:fr.defers=d::ds)(ht:d.target=.fn fv cap)
 (hi:(invoke d.target d.args).run P w=.ok (.enter f args) w) (L:CallsD P f args .returning w λe u' U=>u'=.returning/\(∃v,e=.returned v)/\R U) (n:∀U,R U->D P Goal U {fr with defers:=ds} cs):D P Goal w fr cs:=by
 refine D.step (step_defer (by rw[hm];simp) hd ht hi) ?_;obtain⟨e,u',U,fr',⟨rfl,⟨v,rfl⟩,I⟩,A2,A,hg⟩:=L {fr with defers:=ds} cs hm;refine D.steps A2 (D.step (step_going_returned A hg) ?_);have h:=n U I;have e:({({({fr with defers:=ds}:Frame)with mode:=.returning}:Frame)with mode:=settle .returning}:Frame)={fr with defers:=ds}:=by
  rw[<-hm];have:settle fr.mode=fr.mode:=by rw[hm];rfl
  rw[this]
 rw[e];exact h
def D.cut{P Goal k cs w a c}{b:Frame}(M:World->Act->Prop)(h:(∀w a,M w a->D P Goal w (b.atR a k) cs)->D P Goal w (b.atR a (.code c::k)) cs)(n:∀w a,M w a->D P Goal w (b.atR a k) cs):D P Goal w (b.atR a (.code c::k)) cs:=h n
end Lv
namespace De
open Tx Sp Wg Rd Bk Wi Se Rx Mp Lv Qu
def O(a:Act)(k:Nat):Value:=a.tmps.getD k undef
structure DW w st mo mr(S:St)W:Prop where
 blk:aM W st #[.int .i32 1,.int .u32 0,.bool S.forward,.int .i64 S.room,.map (some mo),.map (some mr)] 65 (0,0)
 aA:aj (·=st) w W
section
variable {w W W':World}{st mo mr pb mw:Nat}{S:St}{cv:Value}{p:M B}{cl:Bool}{μ:Int}
def IB(hS:qZ w st mo mr μ S):Rx.Safe w (·=st):=λk cur T fz A hb=>by
 subst A;have:=hS.blk;unfold aM at this;rw[this]at hb;injection hb with hb;injection hb with _ hb _;subst hb;decide
def DW.jC(h:DW w st mo mr S W)(hS:qZ w st mo mr μ S):qZ W st mo mr 1 S:=
 ⟨h.blk,hS.ah.aA h.aA (IB hS) (λe=>hS.ah.eQ _ _ _ (show w.heap[mo]? =_ by rw[e];exact hS.blk)),hS.refs.block (h.aA.block mr hS.refs.lt (λe=>hS.blk.dV hS.refs e.symm))⟩
def DW.psh(h:DW w st mo mr S W)(hS:qZ w st mo mr μ S)(hP:kK w pb mw cv p cl):kK W pb mw cv p cl:=
 hP.aA h.aA (IB hS) (λe=>hP.blk.ne hS.blk (by decide) e) (λe=>hP.waits.eQ _ _ _ (show w.heap[mw]? =_ by rw[e];exact hS.blk))
def DW.next{T}(h:DW w st mo mr S W)(hS:qZ w st mo mr μ S)(L:aj T W W')(hT:∀k,T k->w.heap.size<=k):DW w st mo mr S W':=
 ⟨h.blk.aA L (λe=>by have:=hT _ e;have:=hS.blk.lt;omega),h.aA.trans' L (λi hi e=>by have:=hT _ e;omega)⟩
end
def rC(one:B)(all:Bool)(w0:B):B:=if one≠[]then one else if w0=jK&&!all then rD else w0
def mP(c:nN)(w:B):B:=if w=jK then jK++[32]++c.ref++nl else[110,103,32]++c.ref++[32]++w++nl
def xP one all c w0:∀l:List (nN×B),dP one all (l++[(c,w0)])=dP one all l++mP c (rC one all w0)
 |[]=>by
  show mP c (rC one all w0)++[]=[]++_;simp
 |(c',U)::l=>by
  show mP c' (rC one all U)++dP one all (l++[(c,w0)])=(mP c' (rC one all U)++dP one all l)++_;rw[xP one all c w0 l,fN]
def qp{c}[Decidable c]{x y:B}(E:x.length<=10)(hy:y.length<=10):(if c then x else y).length<=10:=by
 split
 ·exact E
 ·exact hy
def Sm S p id:(whole S p id).length<=10:=by unfold whole;exact qp (by decide) (qp (by decide) (by decide))
def J8 S p c:(Sp.word S p c).length<=10:=by unfold Sp.word;exact qp (by decide) (qp (by decide) (qp (Sm S p c.new) (qp (by decide) (qp (by decide) (by decide)))))
def Us S p cl all:(oneOf S p cl all).length<=10:=by
 unfold oneOf;split
 ·decide
 ·split<;>decide
def Ke{all}{one w0}(V:one.length<=10)(J:w0.length<=10):(rC one all w0).length<=10:=by
 unfold rC;split
 ·exact V
 ·split
  ·decide
  ·exact J
def Ub{c w}(V:c.ref.length<=1000)(J:w.length<=10):(mP c w).length<=1020:=by
 unfold mP;split
 ·simp[jK,nl];omega
 ·simp[nl];omega
def Ae{all}{one}(V:one.length<=10):∀l:List (nN×B),(∀x∈l,x.1.ref.length<=1000/\x.2.length<=10)->(dP one all l).length<=1020*l.length
 |[],_=>by simp[dP]
 |(c,w)::l,h=>by
  have J:=Ae (all:=all) V l (λx E=>h x (bc _ E));have h3:=h (c,w) (by simp);have h4:(mP c (rC one all w)).length<=1020:=Ub h3.1 (Ke (all:=all) V h3.2);show(mP c (rC one all w)++dP one all l).length<=_;rw[b9,bt];omega
structure FI w st mo mr mw nr S mv v5(wl:List B)n left cnt yL f W:Prop where
 rg:SR W mw nr mv left cnt
 col:Nv mv left yL
 dw:DW w st mo mr S W
 row:W.ownsRow w.heap.size 9 1 v5 n (wl.map encStr)
 num:f=(yL.filter λk=>(S.ah.get k).isNone).length
 Bl:yL.length+cnt<=mv.length
def PZ w st mo mr pb mw S p cl qc nc cc B1 cs(hS:qZ w st mo mr 0 S)(hP:kK w pb mw (.slice qc nc cc) p cl)(tM:w.ownsRow B1 142 3 (.slice qc nc cc) cs.length (kY cs))
 (Q:p.length<=1000) (ho:S.ah.length<=1000000) (Y:S.refs.length<=1000000) (zE:cs.length<=1000) (hid:∀c∈cs,c.ref.length<=1000/\c.new.length<=1000) (A:∀x∈p,x.1.length<=maxLen) (V:mo≠mr) (J:mo≠mw) (h3:mr≠mw) (fT:AP S p):
 Calls Tq.prog 125 #[aG st,aG pb] w λe U=>e=.returned (av (Sp.aW S cs p cl).1)/\qZ U st mo mr 0 (Sp.aW S cs p cl).2/\aj (λk=>k=st\/tF mo mr k) w U:=by
 refine nA λks=>?_;have hnc:nc=cs.length/\∀(i:Nat) (c:nN),cs[i]? =some c->∃g,qc=some ⟨g,0,none⟩/\¬tF mo mr g/\g≠st/\w.cell? ⟨g,i*3,none⟩=some (.string ⟨c.old.toArray⟩)/\w.cell? ⟨g,i*3+1,none⟩=some (.string ⟨c.new.toArray⟩)/\w.cell? ⟨g,i*3+2,none⟩=some (.string ⟨c.ref.toArray⟩):=by
  refine⟨?_,λi c L=>?_⟩
  ·rcases tM.2 with⟨e,h0⟩|⟨g,vZ,cur,e,_⟩
   ·injection e with _ e2 _;rw[e2,h0]
   ·injection e
  ·obtain⟨-,g,e1,⟨xs,e2⟩,e3⟩:=Hl tM L;refine⟨g,e1,?_,λe=>?_,e3⟩
   ·rintro(rfl|rfl)
    ·exact hS.ah.eQ _ _ _ e2
    ·obtain⟨es,clock,e,_⟩:=hS.refs;rw[e]at e2;cases e2
   ·subst e;have:=hS.blk;unfold aM at this;rw[this]at e2;injection e2 with e2;injection e2 with _ e2 _;cases e2
 obtain⟨rfl,uX⟩:=hnc;obtain⟨i0,hi,xr,xU,ya⟩:=Go.info_parts pI;have k0:w.cell? ⟨st,0,none⟩=some (.int .i32 0):=hS.blk.at rfl;have hc:=vp (Bk.iR st 0 w k0 (hS.blk.frozen (.inr (cQ _))));have qW:DW w st mo mr S (w.setCell ⟨st,0,none⟩ (.int .i32 1)):=⟨aM.set hS.blk 0 _,aj.setCell (S:=(·=st)) (aj.refl _ w) (p:=⟨st,0,none⟩) (.inl rfl) _⟩
 have hv:=vp (uS hS (uS hP (uS uX (uS Q (uS ho (uS Y (uS zE (uS hid (uS A (uS V (uS J (uS h3 (uS fT tM)))))))))))));clear hS hP uX Q ho Y zE hid A V J h3 fT k0 tM;unfold aG;refine D.enter Tq.func125 rfl ?_;simp only[ntmps125,eC,bt,dt,Nat.reduceAdd,Nat.reduceSub,dC,dK,eI,cY,cg,cf];refine D.seq (D.rh λR I=>?_);go_wp2_with fail;refine I.out _ _ ?_;clear I R;refine D.seq (D.rh λR I=>?_);go_wp2_with fail;refine hc.out.mono ?_;rintro e w1 ⟨rfl,rfl⟩;go_wp2_with fail;refine I.out _ _ ?_;clear I R;generalize w.setCell ⟨st,0,none⟩ (.int .i32 1)=w1 at qW;clear hc;refine D.seq (D.tq rfl λR I=>?_);replace I:=vp I;go_wp2_with fail;refine I.out _ _ ?_;clear I R;obtain⟨ds,J1⟩:∃ds:List Deferred,ds=[{target:=.fn (.func 39) #[],args:=#[.pointer (some ⟨st,0,none⟩)]}]:=⟨_,rfl⟩
 rw[<-J1];replace J1:=vp J1;refine D.seq (D.rh λR I=>?_);go_wp2_with fail;refine I.out _ _ ?_;clear I R;refine D.seq (D.rh λR I=>?_);go_wp2_with fail;refine I.out _ _ ?_;clear I R;have k27:w1.cell? ⟨pb,0,none⟩=some (.slice qc cs.length cc):=(qW.psh hv.out.1 hv.out.2.1).blk.at rfl;refine D.seq (D.seq (D.rh λR I=>?_));go_wp2_with fail;refine I.out _ _ ?_;clear I R;clear k27;refine D.block ?_;obtain⟨wl,Mk⟩:∃wl,wl=cs.map (word S p):=⟨_,rfl⟩
 replace Mk:=vp Mk;have H0:DW w st mo mr S w1/\w1.ownsRow w.heap.size 9 1 (.slice none 0 0) 0 ((wl.map encStr).take 0):=⟨qW,World.ownsRow_nil _ _ _ _⟩
 refine D.while (m:=cs.length) (λm W a=>∃(i:Nat) (v5:Value) (b6:Bool),a={tmps:=#[.pointer (some ⟨st,0,none⟩),.pointer (some ⟨pb,0,none⟩),O a 2,O a 3,O a 4,v5,.bool b6,O a 7,O a 8,O a 9,O a 10,O a 11,O a 12,O a 13,O a 14,O a 15,O a 16,O a 17,O a 18,O a 19,O a 20,O a 21,O a 22,O a 23,O a 24,O a 25,O a 26,.slice qc cs.length cc,.int .i64 (cs.length:Nat),.int .i64 (i:Nat),O a 30,O a 31,O a 32,O a 33,O a 34,O a 35,O a 36,O a 37,O a 38,O a 39,O a 40,O a 41,O a 42,O a 43,O a 44,O a 45,O a 46,O a 47,O a 48,O a 49,O a 50,O a 51,O a 52,O a 53,O a 54,O a 55,O a 56,O a 57,O a 58,O a 59,O a 60,O a 61,O a 62,O a 63,O a 64,O a 65,O a 66,O a 67,O a 68,O a 69,O a 70,O a 71,O a 72,O a 73,O a 74,O a 75,O a 76,O a 77,O a 78,O a 79,O a 80,O a 81,O a 82,O a 83,O a 84,O a 85,O a 86,O a 87,O a 88,O a 89,O a 90,O a 91,O a 92,O a 93,O a 94,O a 95,O a 96,O a 97,O a 98,O a 99,O a 100,O a 101,O a 102,O a 103,O a 104,O a 105,O a 106,O a 107,O a 108,O a 109,O a 110,O a 111,O a 112,O a 113,O a 114,O a 115,O a 116,O a 117,O a 118,O a 119,O a 120,O a 121,O a 122,O a 123,O a 124,O a 125,O a 126,O a 127,O a 128,O a 129,O a 130,O a 131,O a 132,O a 133,O a 134],defers:=ds}/\m=cs.length - i/\i<=cs.length/\b6=((wl.take i).all (·==jK))/\DW w st mo mr S W/\W.ownsRow w.heap.size 9 1 v5 i ((wl.map encStr).take i)) ⟨0,_,true,rfl,rfl,cQ _,rfl,H0⟩ ?_;clear H0 qW;rintro m W a ⟨i,v5,b6,ha,rfl,hle,hb6,qW,tU⟩ IH;obtain⟨x,E⟩:∃x,x=O a:=⟨_,rfl⟩
 rw[<-E]at ha;clear E;subst ha;replace IH:=vp IH;dsimp only;by_cases tP:i<cs.length
 case neg=>
  have Bf:i=cs.length:=by omega
  subst Bf;have Fh:wl.length=cs.length:=by rw[Mk.out,dN]
  rw[<-Fh,<-dN (f:=encStr),fM,dN,Fh]at tU;rw[<-Fh,fM]at hb6;have qw:((cs.length:Int)<(cs.length:Int))=False:=gO (by omega);obtain⟨mv,ry,ky⟩:=hv.out.2.1.waits;have hpw:=qW.psh hv.out.1 hv.out.2.1;have kp:W.cell? ⟨pb,1,none⟩=some (.map (some mw)):=hpw.blk.at rfl;have aKB:SM W mw mv:=ry.block (qW.aA.block mw ry.lt (λe=>hv.out.2.1.waits.eQ _ _ _ (show w.heap[mw]? =_ by rw[e];exact hv.out.1.blk)));have UQ:=OM.up hv.out.2.1.waits;have sG:=ry.rising;have aD4:=ky.length;have Zh:=ky.keys;have hr:=vp (uS qW (uS tU (uS hb6 (uS sG (uS Zh (uS aD4 ky))))));clear qW tU hb6 tP hle hpw UQ sG aD4 Zh ky ry Fh IH;refine D.seq (D.rh λR I=>?_);go_wp2_with fail;refine I.out _ _ ?_;clear I R;refine D.seq (D.cond (t:=false) rfl (D.exit rfl ?_));refine D.seq (D.rh λR I=>?_);go_wp2_with fail;refine I.out _ _ ?_;clear I R;refine D.seq (D.seq (D.rh λR I=>?_));go_wp2_with (at_range;refine Mp.range rfl _ 55 rfl 106 ((Tq.underlying 55).trans underlying55) mw mv rfl aKB ?_;intro w0 BH Ej hs0);refine I.out _ _ ?_;clear I R kp;obtain⟨nr,VN⟩:∃nr,nr=W.heap.size:=⟨_,rfl⟩
  rw[<-VN]at BH ⊢;have aJV:w.heap.size<=W.heap.size:=hr.out.1.aA.size;have H0:FI w st mo mr mw nr S mv v5 wl cs.length (λk=>(mv.get k).isSome) mv.length [] 0 w0:=by have c0:aj (λ_=>False) W w0:=(aj.refl _ W).grown Ej (λk h=>by cases h);exact⟨BH,Nv.start mv,hr.out.1.next hv.out.1 c0 (λ_ e=>e.elim),c0.ownsRow hr.out.2.1 (λ_ _ e=>e.elim),rfl,by simp⟩
  have aCA:w.heap.size<=nr:=by rw[VN];exact aJV
  have aCB:∀k,v5.ownBlock=some k->k≠nr:=λk A e=>by have:=(hr.out.2.1.lt k A).2;omega
  clear BH Ej hs0 VN aJV aKB;replace aCB:=vp aCB;replace aCA:=vp aCA;refine D.block ?_;refine D.while (m:=mv.length) (λm W a=>∃(left:B->Bool) (cnt:Nat) (yL:List B) (f:Nat),a={tmps:=#[.pointer (some ⟨st,0,none⟩),.pointer (some ⟨pb,0,none⟩),O a 2,O a 3,O a 4,v5,.bool b6,O a 7,O a 8,O a 9,.int .i64 (f:Nat),O a 11,O a 12,O a 13,O a 14,O a 15,O a 16,O a 17,O a 18,O a 19,O a 20,O a 21,O a 22,O a 23,O a 24,O a 25,O a 26,O a 27,O a 28,O a 29,O a 30,O a 31,O a 32,O a 33,O a 34,O a 35,O a 36,O a 37,O a 38,O a 39,O a 40,O a 41,O a 42,O a 43,O a 44,O a 45,O a 46,O a 47,O a 48,O a 49,O a 50,.pointer (some ⟨nr,0,none⟩),O a 52,O a 53,O a 54,O a 55,O a 56,O a 57,O a 58,O a 59,O a 60,O a 61,O a 62,O a 63,O a 64,O a 65,O a 66,O a 67,O a 68,O a 69,O a 70,O a 71,O a 72,O a 73,O a 74,O a 75,O a 76,O a 77,O a 78,O a 79,O a 80,O a 81,O a 82,O a 83,O a 84,O a 85,O a 86,O a 87,O a 88,O a 89,O a 90,O a 91,O a 92,O a 93,O a 94,O a 95,O a 96,O a 97,O a 98,O a 99,O a 100,O a 101,O a 102,O a 103,O a 104,O a 105,O a 106,O a 107,O a 108,O a 109,O a 110,O a 111,O a 112,O a 113,O a 114,O a 115,O a 116,O a 117,O a 118,O a 119,O a 120,O a 121,O a 122,O a 123,O a 124,O a 125,O a 126,O a 127,O a 128,O a 129,O a 130,O a 131,O a 132,O a 133,O a 134],defers:=ds}/\m=cnt/\FI w st mo mr mw nr S mv v5 wl cs.length left cnt yL f W) ⟨_,_,_,0,rfl,rfl,H0⟩ ?_;clear H0;rintro m W2 a ⟨left,cnt,yL,f,ha,rfl,hI⟩ IH;obtain⟨y,hy⟩:∃y,y=O a:=⟨_,rfl⟩
  rw[<-hy]at ha;clear hy;subst ha;replace IH:=vp IH;dsimp only;have Ek:=hI.rg;replace hI:=vp hI;refine D.seq (D.rh λR I=>?_);go_wp2_with (at_next;refine Mp.next rfl _ rfl mw nr mv left m rfl Ek ?_ ?_)
  ·intro AE hl0;have H:=vp (uS AE hl0);clear Ek AE hl0;go_wp2_with fail;refine I.out _ _ ?_;clear I R;refine D.seq (D.cond (t:=false) rfl (D.exit rfl ?_));have hf:f=Sp.fresh S p:=by
    have h:=hI.out;have hp:=h.col.perm hr.out.2.2.2.1 H.out.2;rw[hr.out.2.2.2.2.1]at hp;rw[h.num];have J:=(hp.filter λk=>(S.ah.get k).isNone).length_eq;rw[J];unfold Sp.fresh;rw[pQ,dN];rfl
   have qW:=hI.out.dw;have tU:=hI.out.row;replace hr:=vp (uS qW (uS tU (uS hr.out.2.2.1 hf)));clear hf qW tU hI H IH aCB aCA;have hS2:=hr.out.1.jC hv.out.1;have Jq:=hr.out.1.psh hv.out.1 hv.out.2.1;obtain⟨ov,Bc,Ax⟩:=hS2.ah;have hol:=Ax.length;have k4:W2.cell? ⟨st,4,none⟩=some (.map (some mo)):=hS2.blk.at rfl;have k3:W2.cell? ⟨st,3,none⟩=some (.int .i64 S.room):=hS2.blk.at rfl;have hlen:∀d ty,(Builtin.len_ #[55] ty #[.map (some mo)]).run Tq.prog (W2.drewN d)=.ok (.int .i64 (S.ah.length:Nat)) (W2.drewN d):=λd ty=>by
    rw[World.ownsMap.len (w:=W2.drewN d) (Mp.SM.block (U:=W2.drewN d) Bc rfl) ((Tq.underlying 55).trans underlying55) ty,CY,hol]
   have hf1:f<=1000:=by rw[hr.out.2.2.2];exact cV (gQ ..) hv.out.2.2.2.1
   have Bc:=hv.out.2.2.2.2.1;have Cl:=vp (λd=>Ni (W2.drewN d) st mo mr pb mw 1 S (.slice qc cs.length cc) p cl ⟨hS2.blk,by obtain⟨a,b,c⟩:=hS2.ah;exact⟨a,Mp.SM.block b rfl,c⟩,Mp.SM.block hS2.refs rfl⟩ ⟨Jq.blk,by obtain⟨a,b,c⟩:=Jq.waits;exact⟨a,Mp.SM.block b rfl,c⟩⟩ hv.out.2.2.2.1 hv.out.2.2.2.2.2.2.2.2.1);obtain⟨ol,Y8⟩:∃ol,ol=S.ah.length:=⟨_,rfl⟩
   rw[<-Y8]at hlen Bc;obtain⟨rm,NK⟩:∃rm,rm=S.room:=⟨_,rfl⟩
   rw[<-NK]at k3;replace Y8:=vp Y8;replace NK:=vp NK;clear hS2 Jq Ax hol;refine D.seq (D.rh λR I=>?_);go_wp2_with fail;refine I.out _ _ ?_;clear I R;obtain⟨o1,Fu⟩:∃o1:B,o1=if b6&&decide (rm<ol+f)then Qy else[]:=⟨_,rfl⟩
   refine D.seq (D.cut (M:=λW a=>(∃d,W=W2.drewN d)/\a={tmps:=#[.pointer (some ⟨st,0,none⟩),.pointer (some ⟨pb,0,none⟩),O a 2,O a 3,O a 4,v5,.bool b6,O a 7,O a 8,O a 9,.int .i64 (f:Nat),O a 11,.string ⟨o1.toArray⟩,O a 13,O a 14,O a 15,O a 16,O a 17,O a 18,O a 19,O a 20,O a 21,O a 22,O a 23,O a 24,O a 25,O a 26,O a 27,O a 28,O a 29,O a 30,O a 31,O a 32,O a 33,O a 34,O a 35,O a 36,O a 37,O a 38,O a 39,O a 40,O a 41,O a 42,O a 43,O a 44,O a 45,O a 46,O a 47,O a 48,O a 49,O a 50,O a 51,O a 52,O a 53,O a 54,O a 55,O a 56,O a 57,O a 58,O a 59,O a 60,O a 61,O a 62,O a 63,O a 64,O a 65,O a 66,O a 67,O a 68,O a 69,O a 70,O a 71,O a 72,O a 73,O a 74,O a 75,O a 76,O a 77,O a 78,O a 79,O a 80,O a 81,O a 82,O a 83,O a 84,O a 85,O a 86,O a 87,O a 88,O a 89,O a 90,O a 91,O a 92,O a 93,O a 94,O a 95,O a 96,O a 97,O a 98,O a 99,O a 100,O a 101,O a 102,O a 103,O a 104,O a 105,O a 106,O a 107,O a 108,O a 109,O a 110,O a 111,O a 112,O a 113,O a 114,O a 115,O a 116,O a 117,O a 118,O a 119,O a 120,O a 121,O a 122,O a 123,O a 124,O a 125,O a 126,O a 127,O a 128,O a 129,O a 130,O a 131,O a 132,O a 133,O a 134],defers:=ds}) ?_ ?_)
   ·intro cont;cases b6 with
    |false=>
     refine D.seq (D.tq rfl λR I=>?_);replace I:=vp I;have hoe:o1=[]:=by rw[Fu];rfl
     have hx:=vp hoe;clear Fu hoe;go_quiet (fail)
     refine I.out _ _ (D.cond (t:=false) rfl (D.skip (cont _ _ ⟨⟨nq,rfl⟩,?_⟩)));rw[hx.out];rfl
    |true=>
     by_cases hro:rm<ol+f
     ·have hri:((rm:Int)<(ol:Int)+(f:Int)):=by omega
      have hoe:o1=Qy:=by rw[Fu];simp[hro]
      have hx:=vp hoe;clear Fu hoe hro;refine D.seq (D.tq rfl λR I=>?_);replace I:=vp I;go_quiet (fail)
      refine I.out _ _ ?_;clear I R;refine D.cond (t:=true) rfl (D.rh λR I=>?_);go_wp2_with fail;refine I.out _ _ ?_;clear I R;refine cont _ _ ⟨⟨nq,rfl⟩,?_⟩;rw[hx.out];rfl
     ·have hri:¬((rm:Int)<(ol:Int)+(f:Int)):=by omega
      have hoe:o1=[]:=by rw[Fu];simp[hro]
      have hx:=vp hoe;clear Fu hoe hro;refine D.seq (D.tq rfl λR I=>?_);replace I:=vp I;go_quiet (fail)
      refine I.out _ _ (D.cond (t:=false) rfl (D.skip (cont _ _ ⟨⟨nq,rfl⟩,?_⟩)));rw[hx.out];rfl
   rintro W3 a ⟨⟨d,rfl⟩,ha⟩;obtain⟨z,hz⟩:∃z,z=O a:=⟨_,rfl⟩
   rw[<-hz]at ha;clear hz;subst ha;dsimp only;clear hlen k4 k3;replace Cl:=Cl.out d;have U6:DW w st mo mr S (W2.drewN d):=hr.out.1.next hv.out.1 ((aj.refl (λ_=>False) W2).drewN d) (λ_ e=>e.elim);have GU:(W2.drewN d).ownsRow w.heap.size 9 1 v5 cs.length (wl.map encStr):=((aj.refl (λ_=>False) W2).drewN d).ownsRow hr.out.2.1 (λ_ _ e=>e.elim);replace hr:=vp (uS U6 (uS GU hr.out.2.2));clear U6 GU;generalize W2.drewN d=W3 at *;unfold aG at Cl;replace Cl:=vp Cl;replace Fu:=vp Fu;obtain⟨o2,Mx⟩:∃o2:B,o2=if Sp.kP S p cl then NU else o1:=⟨_,rfl⟩
   refine D.seq (D.cut (M:=λW a=>(DW w st mo mr S W/\W.ownsRow w.heap.size 9 1 v5 cs.length (wl.map encStr))/\a={tmps:=#[.pointer (some ⟨st,0,none⟩),.pointer (some ⟨pb,0,none⟩),O a 2,O a 3,O a 4,v5,.bool b6,O a 7,O a 8,O a 9,O a 10,O a 11,.string ⟨o2.toArray⟩,O a 13,O a 14,O a 15,O a 16,O a 17,O a 18,O a 19,O a 20,O a 21,O a 22,O a 23,O a 24,O a 25,O a 26,O a 27,O a 28,O a 29,O a 30,O a 31,O a 32,O a 33,O a 34,O a 35,O a 36,O a 37,O a 38,O a 39,O a 40,O a 41,O a 42,O a 43,O a 44,O a 45,O a 46,O a 47,O a 48,O a 49,O a 50,O a 51,O a 52,O a 53,O a 54,O a 55,O a 56,O a 57,O a 58,O a 59,O a 60,O a 61,O a 62,O a 63,O a 64,O a 65,O a 66,O a 67,O a 68,O a 69,O a 70,O a 71,O a 72,O a 73,O a 74,O a 75,O a 76,O a 77,O a 78,O a 79,O a 80,O a 81,O a 82,O a 83,O a 84,O a 85,O a 86,O a 87,O a 88,O a 89,O a 90,O a 91,O a 92,O a 93,O a 94,O a 95,O a 96,O a 97,O a 98,O a 99,O a 100,O a 101,O a 102,O a 103,O a 104,O a 105,O a 106,O a 107,O a 108,O a 109,O a 110,O a 111,O a 112,O a 113,O a 114,O a 115,O a 116,O a 117,O a 118,O a 119,O a 120,O a 121,O a 122,O a 123,O a 124,O a 125,O a 126,O a 127,O a 128,O a 129,O a 130,O a 131,O a 132,O a 133,O a 134],defers:=ds}) ?_ ?_)
   ·intro cont;refine D.seq (D.rh λR I=>?_);go_wp2_with fail;refine Cl.out.mono ?_;rintro e W4 ⟨rfl,xp⟩;have MN:DW w st mo mr S W4:=hr.out.1.next hv.out.1 (aj.nK xp) (λ_ e=>e.elim);have Aq:=(aj.nK xp).ownsRow hr.out.2.1 (λ_ _ e=>e.elim);have Z:=vp (uS MN Aq);clear MN Aq xp;cases u7:Sp.kP S p cl with
    |false=>rw[u7]at Mx;have hx:=vp Mx;clear Mx u7;go_wp2_with fail;refine I.out _ _ ?_;clear I R;refine D.cond (t:=false) rfl (D.skip (cont _ _ ⟨Z.out,?_⟩));rw[hx.out];rfl
    |true=>rw[u7]at Mx;have hx:=vp Mx;clear Mx u7;go_wp2_with fail;refine I.out _ _ ?_;clear I R;refine D.cond (t:=true) rfl (D.rh λR I=>?_);go_wp2_with fail;refine I.out _ _ ?_;clear I R;refine cont _ _ ⟨Z.out,?_⟩;rw[hx.out];rfl
   rintro W4 a ⟨⟨MN,Aq⟩,ha⟩;obtain⟨u,hu⟩:∃u,u=O a:=⟨_,rfl⟩
   rw[<-hu]at ha;clear hu;subst ha;dsimp only;have Y7:o2=Sp.oneOf S p cl b6:=by rw[Mx,Fu.out,NK.out,Y8.out,hr.out.2.2.2];rfl
   replace hr:=vp (uS MN (uS Aq (uS hr.out.2.2.1 Y7)));clear MN Aq Mx Fu Y7 Cl NK Y8 hf1 Bc W3;obtain⟨q5,c5,rfl,-⟩:=Lo.fZ hr.out.2.1;have kc:W4.cell? ⟨pb,0,none⟩=some (.slice qc cs.length cc):=(hr.out.1.psh hv.out.1 hv.out.2.1).blk.at rfl;refine D.seq (D.rh λR I=>?_);go_wp2_with fail;refine I.out _ _ ?_;clear I R;refine D.seq (D.seq (D.rh λR I=>?_));go_wp2_with fail;refine I.out _ _ ?_;clear I R;clear kc;refine D.block ?_;refine D.while (m:=cs.length) (λm W a=>∃(i:Nat) (rp:B),a={tmps:=#[.pointer (some ⟨st,0,none⟩),.pointer (some ⟨pb,0,none⟩),O a 2,O a 3,O a 4,.slice q5 cs.length c5,.bool b6,O a 7,O a 8,O a 9,O a 10,O a 11,.string ⟨o2.toArray⟩,.string ⟨rp.toArray⟩,O a 14,O a 15,O a 16,O a 17,O a 18,O a 19,O a 20,O a 21,O a 22,O a 23,O a 24,O a 25,O a 26,O a 27,O a 28,O a 29,O a 30,O a 31,O a 32,O a 33,O a 34,O a 35,O a 36,O a 37,O a 38,O a 39,O a 40,O a 41,O a 42,O a 43,O a 44,O a 45,O a 46,O a 47,O a 48,O a 49,O a 50,O a 51,O a 52,O a 53,O a 54,O a 55,O a 56,O a 57,O a 58,O a 59,O a 60,O a 61,O a 62,O a 63,O a 64,O a 65,O a 66,O a 67,O a 68,O a 69,O a 70,O a 71,O a 72,O a 73,O a 74,O a 75,O a 76,O a 77,O a 78,O a 79,O a 80,O a 81,O a 82,O a 83,O a 84,O a 85,.slice qc cs.length cc,.int .i64 (cs.length:Nat),.int .i64 (i:Nat),O a 89,O a 90,O a 91,O a 92,O a 93,O a 94,O a 95,O a 96,O a 97,O a 98,O a 99,O a 100,O a 101,O a 102,O a 103,O a 104,O a 105,O a 106,O a 107,O a 108,O a 109,O a 110,O a 111,O a 112,O a 113,O a 114,O a 115,O a 116,O a 117,O a 118,O a 119,O a 120,O a 121,O a 122,O a 123,O a 124,O a 125,O a 126,O a 127,O a 128,O a 129,O a 130,O a 131,O a 132,O a 133,O a 134],defers:=ds}/\m=cs.length - i/\i<=cs.length/\rp=dB++jK++nl++dP o2 b6 ((cs.zip wl).take i)/\DW w st mo mr S W/\W.ownsRow w.heap.size 9 1 (.slice q5 cs.length c5) cs.length (wl.map encStr)) ⟨0,dB++jK++nl,rfl,rfl,cQ _,by simp[dP],hr.out.1,hr.out.2.1⟩ ?_;rintro m W5 a ⟨i,rp,ha,rfl,hle,Jj,qW,tU⟩ IH;obtain⟨g,hg⟩:∃g,g=O a:=⟨_,rfl⟩
   rw[<-hg]at ha;clear hg;subst ha;replace IH:=vp IH;dsimp only;by_cases tP:i<cs.length
   case neg=>
    have Bf:i=cs.length:=by omega
    subst Bf;have Fh:wl.length=cs.length:=by rw[Mk.out,dN]
    have hzl:(cs.zip wl).length=cs.length:=by rw[tj,Fh,Nat.min_self]
    rw[<-hzl,fM]at Jj;have qw:((cs.length:Int)<(cs.length:Int))=False:=gO (by omega);have L3:(Sp.aW S cs p cl).1=rp:=by rw[Jj,hr.out.2.2.2,hr.out.2.2.1,Mk.out];rfl
    have uL:(Sp.aW S cs p cl).2=if b6&&o2==[]then Sp.take S p cs else S:=by rw[hr.out.2.2.2,hr.out.2.2.1,Mk.out];rfl
    have hS:=hv.out.1;have fin:∀(W':World) (S':St) (tm:Array Value) (td:List Item),qZ W' st mo mr 1 S'->aj (λk=>k=st\/tF mo mr k) w W'->S'=(Sp.aW S cs p cl).2->tm.getD 4 undef=.string ⟨rp.toArray⟩->
     D Tq.prog (Lv.Left Tq.prog 125 ks λe U=>e=Ending.returned (av (aW S cs p cl).1)/\qZ U st mo mr 0 (aW S cs p cl).2/\aj (λk=>k=st\/tF mo mr k) w U) W' {(fb 125).atR {tmps:=tm,defers:=ds} td with mode:=.returning} ks:=by
     intro W' S' tm td hs L he ht;have k0:W'.cell? ⟨st,0,none⟩=some (.int .i32 1):=hs.blk.at rfl;have w':=Bk.fE st 0 .returning W' k0 (hs.blk.frozen (.inr (cQ _)));refine D.deferred (d:={target:=.fn (.func 39) #[],args:=#[.pointer (some ⟨st,0,none⟩)]}) (ds:=[]) (fv:=.func 39) (cap:=#[]) (f:=39) (args:=#[.pointer (some ⟨st,0,none⟩)]) (R:=λw2=>w2=W'.setCell ⟨st,0,none⟩ (.int .i32 0)) rfl (by rw[J1.out];rfl) rfl (by simp[invoke]) (w'.mono λe u' U ⟨V,J,h3⟩=>⟨V,⟨_,J⟩,h3⟩) ?_;rintro w2 rfl;have c0:aj (·=st) W' (W'.setCell ⟨st,0,none⟩ (.int .i32 0)):=aj.setCell (S:=(·=st)) (aj.refl _ W') (p:=⟨st,0,none⟩) (.inl rfl) _;refine D.left rfl rfl rfl rfl Tq.func125 (results_tmp rfl _ _ _) ⟨?_,⟨?_,?_,?_⟩,L.trans (c0.mono (λ_ _ e=>.inl e))⟩
     ·show Ending.returned (tm.getD 4 undef)=_;rw[ht,L3];rfl
     ·rw[<-he];exact aM.set hs.blk 0 _
     ·rw[<-he];exact hs.ah.aA c0 (IB hs) (λe=>hs.ah.eQ _ _ _ (show W'.heap[mo]? =_ by rw[e];exact hs.blk))
     ·rw[<-he];exact hs.refs.block (c0.block mr hs.refs.lt (λe=>hs.blk.dV hs.refs e.symm))
    have E3:W5.ownsRow B1 142 3 (.slice qc cs.length cc) cs.length (kY cs):=qW.aA.ownsRow hv.out.2.2.2.2.2.2.2.2.2.2.2.2.2 (λk A e=>by
     subst e;rcases hv.out.2.2.2.2.2.2.2.2.2.2.2.2.2.2 with⟨e,h0⟩|⟨g',vZ,cur,e,V,J,_⟩
     ·rw[e]at A;simp[Value.ownBlock]at A
     ·rw[e]at A;simp[Value.ownBlock]at A;subst A;have:=hS.blk;unfold aM at this;rw[this]at J;injection J with J;injection J with _ J _;cases J)
    have Tk:=vp (take_one W5 st mo mr pb mw 1 S (.slice qc cs.length cc) p cl qc cs.length cc B1 cs (qW.jC hS) (qW.psh hS hv.out.2.1) E3 hv.out.2.2.2.1 hv.out.2.2.2.2.1 hv.out.2.2.2.2.2.1 hv.out.2.2.2.2.2.2.1 (λc L=>by have:=(hv.out.2.2.2.2.2.2.2.1 c L).1;unfold maxLen;omega) hv.out.2.2.2.2.2.2.2.2.2.1 hv.out.2.2.2.2.2.2.2.2.2.2.1 hv.out.2.2.2.2.2.2.2.2.2.2.2.1);have Fy:=qW.jC hS;have sQ:=λtm td V J=>fin W5 S tm td Fy (qW.aA.mono (λ_ _ e=>.inl e)) V J;have Z:=vp (uS qW.aA uL);replace fin:=vp fin;replace sQ:=vp sQ;unfold aG at Tk;clear L3 uL hS E3 Fy qW tU Jj Fh hzl tP hle IH;refine D.seq (D.rh λR I=>?_);go_wp2_with fail;refine I.out _ _ ?_;clear I R;refine D.seq (D.cond (t:=false) rfl (D.exit rfl ?_));refine D.seq (D.seq (D.rh λR I=>?_));cases b6 with
    |false=>go_wp2_with fail;refine I.out _ _ (D.cond (t:=false) rfl (D.skip (D.seq (D.rh λR I=>?_))));go_wp2_with fail;refine I.out _ _ ?_;clear I R;exact D.ret rfl (sQ.out _ _ (by rw[Z.out.2];rfl) rfl)
    |true=>
     by_cases e2:o2=[]
     ·subst e2;go_wp2_with fail;refine I.out _ _ (D.cond (t:=true) rfl (D.rh λR I=>?_));go_wp2_with fail;refine Tk.out.mono ?_;rintro e W7 ⟨rfl,t1,t2,t3⟩;have h1:=vp (uS t1 t3);clear t1 t2 t3;go_wp2_with fail;refine I.out _ _ ?_;clear I R;refine D.seq (D.rh λR I=>?_);go_wp2_with fail;refine I.out _ _ ?_;clear I R;exact D.ret rfl (fin.out _ _ _ _ h1.out.1 ((Z.out.1.mono (λ_ _ e=>.inl e)).trans (h1.out.2.mono (λ_ _ e=>.inr e))) (by rw[Z.out.2];rfl) rfl)
     ·have hb:List.isEmpty o2=false:=by cases o2 with|nil=>exact absurd rfl e2|cons _ _=>rfl
      have hx:=vp e2;clear e2;go_wp2_with fail;refine I.out _ _ (D.cond (t:=false) rfl (D.skip (D.seq (D.rh λR I=>?_))));go_wp2_with fail;refine I.out _ _ ?_;clear I R;exact D.ret rfl (sQ.out _ _ (by rw[Z.out.2,aX (by simpa using hx.out)]) rfl)
   obtain⟨c,L⟩:∃c,cs[i]? =some c:=⟨_,bU tP⟩
   have Fh:wl.length=cs.length:=by rw[Mk.out,dN]
   obtain⟨w0,hw0⟩:∃w0,wl[i]? =some w0:=⟨_,bU (by rw[Fh];exact tP)⟩
   obtain⟨hS,hP,uX,Q,ho,Y,zE,hid,A,V,J,h3,fT,tM⟩:=hv.out;obtain⟨gg,rfl,hgt,Bg,d0,d1,d2⟩:=uX i c L;replace d0:=qW.aA.bB d0 Bg;replace d1:=qW.aA.bB d1 Bg;replace d2:=qW.aA.bB d2 Bg;obtain⟨q6,c6,e6,wx⟩:=Lo.fZ tU;obtain⟨a5,rfl,-,-,hw5⟩:=wx i (encStr w0) (by rw[eL,hw0];rfl);injection e6 with e6 _ e7;subst e6;subst e7;have hw5:W5.cell? (a5.add i)=some (.string ⟨w0.toArray⟩):=hw5;have Jn:gg<W5.heap.size:=ı W5 _ d0;have hrefl:c.ref.length<=1000:=(hid c (cM L)).1;have aJZ:w0.length<=10:=by have h3:=cM hw0;rw[Mk.out]at h3;obtain⟨y,_,hy⟩:=ey.1 h3;rw[<-hy];exact J8 S p y
   have uI:(cs.zip wl).take (i+1)=(cs.zip wl).take i++[(c,w0)]:=by rw[fg];congr 1;rw[(List.getElem?_zip_eq_some (z:=(c,w0))).2 ⟨L,hw0⟩];rfl
   have qw:((i:Int)<(cs.length:Int))=True:=ie (by omega);have VQ:i<1000000:=by omega
   have h5l:a5.block<W5.heap.size:=by have:=tU.lt a5.block rfl;exact this.2
   have Z:=vp (uS qW (uS tU (uS tP (uS uI Jj))));clear qW tU tP uI Jj hle hS hP uX Q ho Y zE hid A V J h3 fT tM hgt Bg wx Fh L hw0;refine D.seq (D.rh λR I=>?_);go_wp2_with fail;refine I.out _ _ ?_;clear I R;refine D.seq (D.cond (t:=true) rfl (D.skip (D.seq (D.block (D.seq (D.rh λR I=>?_))))));go_wp2_with fail;refine I.out _ _ ?_;clear I R;have D6:DW w st mo mr S (W5.alloc (.cells #[.string ⟨c.old.toArray⟩,.string ⟨c.new.toArray⟩,.string ⟨c.ref.toArray⟩] 142)):=Z.out.1.next hv.out.1 ((aj.refl (λ_=>False) W5).alloc _) (λ_ e=>e.elim);have q2:(W5.alloc (.cells #[.string ⟨c.old.toArray⟩,.string ⟨c.new.toArray⟩,.string ⟨c.ref.toArray⟩] 142)).cell? ⟨W5.heap.size,2,none⟩=some (.string ⟨c.ref.toArray⟩):=by simp
   have xT:=Z.out.2.1.alloc (.cells #[.string ⟨c.old.toArray⟩,.string ⟨c.new.toArray⟩,.string ⟨c.ref.toArray⟩] 142);have hw6:(W5.alloc (.cells #[.string ⟨c.old.toArray⟩,.string ⟨c.new.toArray⟩,.string ⟨c.ref.toArray⟩] 142)).cell? (a5.add i)=some (.string ⟨w0.toArray⟩):=((aj.refl (λ_=>False) W5).alloc _).bB hw5 (λe=>e);generalize W5.alloc (.cells #[.string ⟨c.old.toArray⟩,.string ⟨c.new.toArray⟩,.string ⟨c.ref.toArray⟩] 142)=wa at D6 q2 xT hw6 ⊢;obtain⟨nb,Zg⟩:∃nb,nb=W5.heap.size:=⟨_,rfl⟩
   rw[<-Zg]at q2 ⊢;replace Z:=vp (uS D6 (uS xT Z.out.2.2));clear D6 xT Zg d0 d1 d2 hw5 Jn h5l;refine D.seq (D.rh λR I=>?_);go_wp2_with fail;refine I.out _ _ ?_;clear I R;refine D.seq (D.cut (M:=λW a=>W=wa/\a={tmps:=#[.pointer (some ⟨st,0,none⟩),.pointer (some ⟨pb,0,none⟩),O a 2,O a 3,O a 4,.slice (some a5) cs.length c5,.bool b6,O a 7,O a 8,O a 9,O a 10,O a 11,.string ⟨o2.toArray⟩,.string ⟨rp.toArray⟩,O a 14,.pointer (some ⟨nb,0,none⟩),.string ⟨(rC o2 b6 w0).toArray⟩,O a 17,O a 18,O a 19,O a 20,O a 21,O a 22,O a 23,O a 24,O a 25,O a 26,O a 27,O a 28,O a 29,O a 30,O a 31,O a 32,O a 33,O a 34,O a 35,O a 36,O a 37,O a 38,O a 39,O a 40,O a 41,O a 42,O a 43,O a 44,O a 45,O a 46,O a 47,O a 48,O a 49,O a 50,O a 51,O a 52,O a 53,O a 54,O a 55,O a 56,O a 57,O a 58,O a 59,O a 60,O a 61,O a 62,O a 63,O a 64,O a 65,O a 66,O a 67,O a 68,O a 69,O a 70,O a 71,O a 72,O a 73,O a 74,O a 75,O a 76,O a 77,O a 78,O a 79,O a 80,O a 81,O a 82,O a 83,O a 84,O a 85,.slice (some ⟨gg,0,none⟩) cs.length cc,.int .i64 (cs.length:Nat),.int .i64 (i:Nat),O a 89,O a 90,O a 91,O a 92,O a 93,O a 94,O a 95,O a 96,O a 97,O a 98,O a 99,O a 100,O a 101,O a 102,O a 103,O a 104,O a 105,O a 106,O a 107,O a 108,O a 109,O a 110,O a 111,O a 112,O a 113,O a 114,O a 115,O a 116,O a 117,O a 118,O a 119,O a 120,O a 121,O a 122,O a 123,O a 124,O a 125,O a 126,O a 127,O a 128,O a 129,O a 130,O a 131,O a 132,O a 133,O a 134],defers:=ds}) ?_ ?_)
   ·intro cont;by_cases e2:o2=[]
    case neg=>
     have hb:(!List.isEmpty o2)=true:=by cases o2 with|nil=>exact absurd rfl e2|cons _ _=>rfl
     have hx:=vp (show rC o2 b6 w0=o2 from bk e2);clear e2;refine D.block (D.seq (D.rh λR I=>?_));go_wp2_with fail;refine I.out _ _ ?_;clear I R;refine D.cond (t:=true) rfl (D.rh λR I=>?_);go_wp2_with fail;refine I.out _ _ ?_;clear I R;refine D.inBlock (cont _ _ ⟨rfl,?_⟩);rw[hx.out];rfl
    subst e2;refine D.block (D.seq (D.rh λR I=>?_));go_wp2_with fail;refine I.out _ _ ?_;clear I R;refine D.cond (t:=false) rfl (D.seq (D.rh λR I=>?_));by_cases ew:w0=jK
    ·have hb:(w0==[111,107])=true:=by rw[ew];rfl
     cases b6 with
     |true=>have hx:=vp (show rC [] true w0=w0 by unfold rC;simp);clear ew;go_wp2_with fail;refine I.out _ _ (D.cond (t:=false) rfl (D.skip (D.inBlock (cont _ _ ⟨rfl,?_⟩))));rw[hx.out];rfl
     |false=>have hx:=vp (show rC [] false w0=rD by unfold rC;simp[ew]);clear ew;go_wp2_with fail;refine I.out _ _ (D.cond (t:=true) rfl (D.rh λR I=>?_));go_wp2_with fail;refine I.out _ _ ?_;clear I R;refine D.inBlock (cont _ _ ⟨rfl,?_⟩);rw[hx.out];rfl
    ·have hb:(w0==[111,107])=false:=fq ew;have hx:=vp (show rC [] b6 w0=w0 by unfold rC;simp[ew]);clear ew;go_wp2_with fail;refine I.out _ _ (D.cond (t:=false) rfl (D.skip (D.inBlock (cont _ _ ⟨rfl,?_⟩))));rw[hx.out];rfl
   rintro W6 a ⟨rfl,ha⟩;obtain⟨gx,Di⟩:∃gx,gx=O a:=⟨_,rfl⟩
   rw[<-Di]at ha;clear Di;subst ha;dsimp only;obtain⟨wf,bY⟩:∃wf,wf=rC o2 b6 w0:=⟨_,rfl⟩
   rw[<-bY];have Y7:=hr.out.2.2.2;have hol:o2.length<=10:=by rw[Y7];exact Us _ _ _ _
   have hzl:∀x∈(cs.zip wl).take i,x.1.ref.length<=1000/\x.2.length<=10:=λx E=>by
    have hm:=List.mem_of_mem_take E;have ky:=s6 (a:=x.1) (b:=x.2) hm;refine⟨(hv.out.2.2.2.2.2.2.2.1 _ ky.1).1,?_⟩;have h3:=ky.2;rw[Mk.out]at h3;obtain⟨y,_,hy⟩:=ey.1 h3;rw[<-hy];exact J8 S p y
   have EF:rp.length<=2000000:=by
    rw[Z.out.2.2.2.2,b9];have V:=Ae (all:=b6) hol _ hzl;have J:((cs.zip wl).take i).length<=1000:=by have:=hv.out.2.2.2.2.2.2.1;simp only[jE,tj];omega
    have h3:(dB++jK++nl).length=10:=rfl;omega
   have aTP:wf.length<=10:=by rw[bY];exact Ke hol aJZ
   clear Y7 hol hzl aJZ;have aKe:rp++mP c wf=dB++jK++nl++dP o2 b6 ((cs.zip wl).take (i+1)):=by obtain⟨-,-,-,uI,Jj⟩:=Z.out;rw[uI,xP,<-fN,<-Jj,bY]
   replace Z:=vp (uS Z.out.1 (uS Z.out.2.1 (uS Z.out.2.2.1 aKe)));clear aKe bY hw6;by_cases ew:wf=jK
   ·have hb:(wf==[111,107])=true:=by rw[ew];rfl
    have hx:=vp (show mP c wf=jK++[32]++c.ref++nl from bk ew);clear ew;refine D.seq (D.rh λR I=>?_);go_wp2_with fail;refine I.out _ _ ?_;clear I R;refine D.cond (t:=true) rfl (D.rh λR I=>?_);go_wp2_with fail;refine I.out _ _ ?_;clear I R;refine D.inBlock ?_;refine D.rh λR I=>?_;go_wp2_with fail;refine I.out _ _ ?_;clear I R;have hs:((⟨rp.toArray⟩:ByteArray)++(⟨#[111,107,32]⟩++⟨c.ref.toArray⟩++⟨#[10]⟩))=⟨(rp++mP c wf).toArray⟩:=by rw[hx.out];apply n7;simp[jK,nl]
    rw[hs];exact IH.out (cs.length - (i+1)) _ _ (by have:=Z.out.2.2.1;omega) ⟨i+1,rp++mP c wf,rfl,rfl,Z.out.2.2.1,Z.out.2.2.2,Z.out.1,Z.out.2.1⟩
   ·have hb:(wf==[111,107])=false:=fq ew;have hx:=vp (show mP c wf=[110,103,32]++c.ref++[32]++wf++nl from aX ew);clear ew;refine D.seq (D.rh λR I=>?_);go_wp2_with fail;refine I.out _ _ ?_;clear I R;refine D.cond (t:=false) rfl (D.rh λR I=>?_);go_wp2_with fail;refine I.out _ _ ?_;clear I R;refine D.inBlock ?_;refine D.rh λR I=>?_;go_wp2_with fail;refine I.out _ _ ?_;clear I R;have hs:((⟨rp.toArray⟩:ByteArray)++(⟨#[110,103,32]⟩++⟨c.ref.toArray⟩++⟨#[32]⟩++⟨wf.toArray⟩++⟨#[10]⟩))=⟨(rp++mP c wf).toArray⟩:=by
     rw[hx.out];apply n7;simp[jK,nl]
    rw[hs];exact IH.out (cs.length - (i+1)) _ _ (by have:=Z.out.2.2.1;omega) ⟨i+1,rp++mP c wf,rfl,rfl,Z.out.2.2.1,Z.out.2.2.2,Z.out.1,Z.out.2.1⟩
  ·intro k kv w1' cnt1 MF B5 iP BI tP DG hen;have h:=hI.out;have c1:aj (·=nr) W2 w1':=(aj.refl (·=nr) W2).grown DG (λk h=>.inl (by cases h;rfl));have aGs:DW w st mo mr S w1':=h.dw.next hv.out.1 c1 (λk e=>by rw[e];exact aCA.out);have kX:=c1.ownsRow h.row (λk A e=>aCB.out k A e);have A6:=aGs.jC hv.out.1;have k4:w1'.cell? ⟨st,4,none⟩=some (.map (some mo)):=A6.blk.at rfl;obtain⟨ov,Bc,Ax⟩:=A6.ah;have hg:=OM.get (b:=mo) Ax k;have hf1:f<1000000:=by
    have e1:=h.num;have e2:=h.Bl;have e3:=hr.out.2.2.2.2.2.1;have e4:=hv.out.2.2.2.1;have e5:=gQ (λk=>(S.ah.get k).isNone) yL;omega
   have Zy:(yL++[k]).length+cnt1<=mv.length:=by have:=h.Bl;simp;omega
   have MQ:((yL++[k]).filter λk=>(S.ah.get k).isNone).length=f+(if(S.ah.get k).isNone then 1 else 0):=by rw[oV,b9,<-h.num];congr 1;by_cases e:(S.ah.get k).isNone<;>simp[e]
   have Z:=vp (uS BI (uS (h.col.step B5 iP) (uS aGs (uS kX (uS MQ (uS Zy (uS tP B5)))))));clear h c1 aGs kX A6 Ax BI B5 iP tP DG Ek Zy MQ hI;go_wp2_with fail;refine I.out _ _ ?_;clear I R;refine D.seq (D.cond (t:=true) rfl (D.skip (D.block (D.seq (D.rh λR I=>?_)))));go_wp2_with fail;refine I.out _ _ ?_;clear I R;rcases pE hg with⟨e1,e2⟩|⟨u,b2,kd2,e1,e2⟩
   ·have hx:=vp e2;clear e2 hg;refine D.seq (D.rh λR I=>?_);go_wp2_with (at_lookup;refine Mp.lookup rfl _ _ 55 rfl 106 ((Tq.underlying 55).trans underlying55) (z:=.nilIface) (by simp[zeroValue106]) mo ov rfl Bc ⟨k.toArray⟩ rfl MF ?_;rw[e1]);refine I.out _ _ ?_;clear I R;refine D.cond (t:=true) rfl (D.rh λR I=>?_);go_wp2_with fail;refine I.out _ _ ?_;clear I R;obtain⟨z1,z2,z3,z4,z5,z6,z7,z8⟩:=Z.out;refine D.inBlock (IH.out cnt1 _ _ z7 ⟨_,cnt1,yL++[k],f+1,rfl,rfl,z1,z2,z3,z4,?_,z6⟩);rw[z5,hx.out];rfl
   ·have hx:=vp e2;clear e2 hg;refine D.seq (D.rh λR I=>?_);go_wp2_with (at_lookup;refine Mp.lookup rfl _ _ 55 rfl 106 ((Tq.underlying 55).trans underlying55) (z:=.nilIface) (by simp[zeroValue106]) mo ov rfl Bc ⟨k.toArray⟩ rfl MF ?_;rw[e1]);refine I.out _ _ ?_;clear I R;refine D.cond (t:=false) rfl (D.skip ?_);obtain⟨z1,z2,z3,z4,z5,z6,z7,z8⟩:=Z.out;refine D.inBlock (IH.out cnt1 _ _ z7 ⟨_,cnt1,yL++[k],f,rfl,rfl,z1,z2,z3,z4,?_,z6⟩);rw[z5,hx.out];rfl
 obtain⟨c,L⟩:∃c,cs[i]? =some c:=⟨_,bU tP⟩
 obtain⟨hS,hP,uX,Q,ho,Y,zE,hid,A,V,J,h3,fT,tM⟩:=hv.out;obtain⟨g,rfl,hg,Bg,d0,d1,d2⟩:=uX i c L;replace d0:=qW.aA.bB d0 Bg;replace d1:=qW.aA.bB d1 Bg;replace d2:=qW.aA.bB d2 Bg;have Jn:g<W.heap.size:=ı W _ d0;have uI:wl.take (i+1)=wl.take i++[word S p c]:=by rw[fg,Mk.out,eL,L];rfl
 have Ay:=hid c (cM L);have qw:((i:Int)<(cs.length:Int))=True:=ie (by omega);have VQ:i<1000000:=by omega
 have hr:=vp (uS qW (uS tP (uS uI (uS hle (uS hb6 (uS Ay tU))))));clear qW tP uI hle hb6 Ay uX Q ho Y zE hid A V J h3 tM hg Bg L tU;refine D.seq (D.rh λR I=>?_);go_wp2_with fail;refine I.out _ _ ?_;clear I R;refine D.seq (D.cond (t:=true) rfl (D.skip (D.seq (D.block (D.seq (D.rh λR I=>?_))))));go_wp2_with fail;refine I.out _ _ ?_;clear I R;have D6:DW w st mo mr S (W.alloc (.cells #[.string ⟨c.old.toArray⟩,.string ⟨c.new.toArray⟩,.string ⟨c.ref.toArray⟩] 142)):=hr.out.1.next hS ((aj.refl (λ_=>False) W).alloc _) (λ_ e=>e.elim);have q0:(W.alloc (.cells #[.string ⟨c.old.toArray⟩,.string ⟨c.new.toArray⟩,.string ⟨c.ref.toArray⟩] 142)).cell? ⟨W.heap.size,0,none⟩=some (.string ⟨c.old.toArray⟩):=by simp
 have q1:(W.alloc (.cells #[.string ⟨c.old.toArray⟩,.string ⟨c.new.toArray⟩,.string ⟨c.ref.toArray⟩] 142)).cell? ⟨W.heap.size,1,none⟩=some (.string ⟨c.new.toArray⟩):=by simp
 have q2:(W.alloc (.cells #[.string ⟨c.old.toArray⟩,.string ⟨c.new.toArray⟩,.string ⟨c.ref.toArray⟩] 142)).cell? ⟨W.heap.size,2,none⟩=some (.string ⟨c.ref.toArray⟩):=by simp
 have xT:=hr.out.2.2.2.2.2.2.alloc (.cells #[.string ⟨c.old.toArray⟩,.string ⟨c.new.toArray⟩,.string ⟨c.ref.toArray⟩] 142);generalize W.alloc (.cells #[.string ⟨c.old.toArray⟩,.string ⟨c.new.toArray⟩,.string ⟨c.ref.toArray⟩] 142)=wa at D6 q0 q1 q2 xT ⊢;generalize W.heap.size=nb at q0 q1 q2 ⊢;have C:=vp (V9 wa st mo mr pb mw 1 S (.slice (some ⟨g,0,none⟩) cs.length cc) p cl c.old c.new c.ref (D6.jC hS) (D6.psh hS hP) (by have:=hr.out.2.2.2.2.2.1.2;unfold maxLen;omega) (by have:=hr.out.2.2.2.2.2.1.1;unfold maxLen;omega) fT);have hS:=vp hS;have hP:=vp hP;have fT:=vp fT;replace D6:=vp D6;clear d0 d1 d2;unfold aG at C;refine D.seq (D.rh λR I=>?_);go_wp2_with fail;refine C.out.mono ?_;rintro e w2 ⟨rfl,wj⟩;unfold av;go_wp2_with fail;refine I.out _ _ ?_;clear I R;obtain⟨wd,CN⟩:∃wd,wd=word S p c:=⟨_,rfl⟩
 have hwe:Sp.word S p {old:=c.old,new:=c.new,ref:=c.ref}=wd:=CN.symm;rw[hwe];have GU:=(aj.nK wj).ownsRow xT (λ_ _ e=>e.elim);have U6:DW w st mo mr S w2:=D6.out.next hS.out (aj.nK wj) (λ_ e=>e.elim);have hws:w.heap.size<=w2.heap.size:=U6.aA.size;have hnc:=(hr.out.2.2.2.1)
 have zE:=hv.out.2.2.2.2.2.2.1;have HW:=vp (uS CN U6);replace hwe:=vp hwe;clear D6 xT wj CN U6 q0 q1 q2 C hS hP fT;refine D.seq (D.rh λR I=>?_);go_wp2_with (at_builtin;refine wpList_append_own_at _ rfl _ _ 34 rfl w.heap.size 9 i0 (.string ByteArray.empty) 1 16 ((Tq.underlying 34).trans underlying34) hi xr xU ya rfl (by decide) _ _ _ rfl (GU.alloc _) ⟨w2.heap.size,0,none⟩ 1 1 [encStr wd] rfl rfl ?c1 ?c2 ?c3 ?c4 ?c5 ?_)
 case c1=>
  intro j u hj
  match j,hj with
  |0,hj=>simp at hj;subst hj;simp[Addr.add,encStr]
 case c2=>intro u hu;simp at hu;subst hu;rfl
 case c3=>unfold maxLen;omega
 case c4=>omega
 case c5=>simp;omega
 intro v' w4 yO tR _ zj;have U1:=λk h=>(GU.lt k h).1;have MN:DW w st mo mr S w4:=HW.out.2.next hv.out.1 (T:=λk=>w.heap.size<=k) (((aj.refl (λk=>w.heap.size<=k) w2).alloc _).grown tR (λk h=>.inl (U1 k h))) (λk e=>e);have Aq:w4.ownsRow w.heap.size 9 1 v' (i+1) ((wl.map encStr).take (i+1)):=by rw[<-List.map_take,hr.out.2.2.1,<-HW.out.1,eN,List.map_take];exact yO
 have Z:=vp (uS MN Aq);clear MN Aq U1 tR zj yO GU;go_wp2_with fail;refine I.out _ _ ?_;clear I R;have hb6:=hr.out.2.2.2.2.1;have hx:=vp hb6;clear hb6;have G6:(wd==[111,107])=(wd==jK):=rfl;replace G6:=vp G6;have nxt:∀b',b'=((wl.take i).all (·==jK)&&(wd==jK))->b'=(wl.take (i+1)).all (·==jK):=by rintro b' rfl;rw[hr.out.2.2.1,<-HW.out.1,ot];simp
 replace nxt:=vp nxt;refine D.rh λR I=>?_;cases b6 with
 |false=>go_wp2_with fail;refine I.out _ _ ?_;clear I R;refine D.inBlock ?_;refine D.rh λR I=>?_;go_wp2_with fail;refine I.out _ _ ?_;clear I R;exact IH.out (cs.length - (i+1)) _ _ (by have:=hr.out.2.1;omega) ⟨i+1,v',false,rfl,rfl,hr.out.2.1,nxt.out _ (by rw[<-hx.out];rfl),Z.out.1,Z.out.2⟩
 |true=>go_wp2_with fail;refine I.out _ _ ?_;clear I R;refine D.inBlock ?_;refine D.rh λR I=>?_;go_wp2_with fail;refine I.out _ _ ?_;clear I R;exact IH.out (cs.length - (i+1)) _ _ (by have:=hr.out.2.1;omega) ⟨i+1,v',(wd==jK),rfl,rfl,hr.out.2.1,nxt.out _ (by rw[<-hx.out];rfl),Z.out.1,Z.out.2⟩
end De
end
namespace Rx
open Tx Sp Wg Rd Bk Wi Se Pa Lo De
def YL w r fz v c l b ls st m cb rs x xs(h:Cx w r fz v c)(hw:WvR w v.wv c.wants)(L:c.wants=x::xs)(hL:Lk w l b ls)(hS:Sr w v.s st l m cb rs)
 (E:x.length<=maxLen) (U8:v.i<1099511627776) (hg:(M.get ls x).getD 0=0) (hz:Fz fz) (Zd:ls.length<1099511627776) (Jg:c.work=some .lock) (A:v.wk=.func (.func 75) #[aG r] #[]):
 Calls Tq.prog 75 #[aG r] w (WP w r fz v l b 1 {c with wants:=xs} (M.put ls x (v.i+1))):=by
 have hW:=vp hw;obtain⟨q,cap,X,hcp,tM⟩:=hw;obtain⟨g,o,cur,rfl,B2,ZE⟩:=tM (by rw[L];exact nB _ _);have h0:w.cell? ⟨g,o,none⟩=some (.string ⟨x.toArray⟩):=by have:=ZE 0 x (by rw[L];rfl);rw[mg]at this;have this:cur[o]? =some (.string ⟨x.toArray⟩):=this;simpa [World.cell?,B2]using this
 rw[L]at X hcp;simp only[bt]at X hcp;have UM:w.cell? ⟨r,15,none⟩=some (.slice (some ⟨g,o,none⟩) (xs.length+1) cap):=by rw[<-X];exact h.cb.at rfl
 have k1:w.cell? ⟨r,1,none⟩=some (.pointer (some ⟨v.s,0,none⟩)):=h.cb.at rfl;have k0:w.cell? ⟨r,0,none⟩=some (.int .i64 v.i):=h.cb.at rfl;have k3:w.cell? ⟨v.s,3,none⟩=some (.pointer (some ⟨l,0,none⟩)):=hS.blk.at rfl;have Fq:=aM.lt h.cb;have BF:=hS.blk.lt;have Jn:=lt_of_block B2;have bx:Below w.heap.size w (w.alloc (.cells #[.pointer (some ⟨r,0,none⟩)] 91)):=(Below.refl _ _).alloc (aI _) _;have kb:(w.alloc (.cells #[.pointer (some ⟨r,0,none⟩)] 91)).cell? ⟨w.heap.size,0,none⟩=some (.pointer (some ⟨r,0,none⟩)):=by simp
 have a0:=aK bx h0 Jn;have a15:=aK bx UM Fq;have a1:=aK bx k1 Fq;have a00:=aK bx k0 Fq;have a3:=aK bx k3 BF;have Vb:=hL.aA (aj.nK bx) (λe=>e) (λe=>e);have T:=λwd (hd:Lk wd l b ls)=>Xg wd l b v.i ls ⟨x.toArray⟩ hd E U8 Zd hg;have T:=vp T;have H:=vp (uS h (uS hL (uS Vb (uS bx (uS X B2)))));have hlen:((xs.length+1:Nat):Int)≠0:=by omega
 clear h hL Vb bx hS ZE B2 tM UM k1 k0 k3 h0;unfold aG;go_enter Tq.func75,ntmps75;go_wp2_with fail;generalize w.alloc (.cells #[.pointer (some ⟨r,0,none⟩)] 91)=wa at kb a0 a15 a1 a00 a3 H ⊢
 go_still_tail 17,(by kernel_rfl)
 change wpList _ _ _ _ _ wa.drew;have hL2:Lk wa.drew l b ls:=⟨H.out.2.2.1.blk,H.out.2.2.1.map.block rfl⟩
 have bd:Hid (Below w.heap.size w wa.drew):=vp (qnz H.out.2.2.2.1 1);have T2:=vp (T.out _ hL2);have kbd:wa.drew.cell? ⟨w.heap.size,0,none⟩=some (.pointer (some ⟨r,0,none⟩)):=kb;have aK0:Hid (Cb wa.drew r fz v c):=vp (aM.aA H.out.1.cb (aj.nK bd.out) (λe=>e));have hll:l<w.heap.size:=H.out.2.1.blk.lt;have VS:b<w.heap.size:=H.out.2.1.map.lt;have EF:r≠l:=aM.ne H.out.1.cb H.out.2.1.blk (by decide);have GM:r≠b:=aM.dV H.out.1.cb H.out.2.1.map;have hkn:¬(w.heap.size=l\/w.heap.size=b):=by omega
 have hrn:¬(r=l\/r=b):=by rintro(e|e);exact EF e;exact GM e
 generalize wa.drew=wd at hL2 bd T2 kbd aK0 ⊢;clear T hL2;go_wp2_with fail;refine T2.out.mono ?_;rintro e w3 ⟨rfl,Zn,c3⟩;have Bi:Cb w3 r fz v c:=aM.aA aK0.out c3 hrn;have kb3:w3.cell? ⟨w.heap.size,0,none⟩=some (.pointer (some ⟨r,0,none⟩)):=c3.bB kbd hkn;have UM:w3.cell? ⟨r,15,none⟩=some (.slice (some ⟨g,o,none⟩) (xs.length+1) cap):=(aM.at Bi rfl).trans (dv some H.out.2.2.2.2.1);have f15:=aM.frozen Bi (i:=15) (hz 15 (by decide) (by decide) (by decide));have F:=vp (uS Zn (uS c3 Bi));clear Zn c3 Bi;go_wp2_with fail;have aU8:((1:Int)<=(xs.length:Int)+1)=True:=ie (by omega)
 go_still_tail 8,(by kernel_rfl)
 all_goals change wpList _ _ _ _ _ w3.drew
 all_goals go_wp2_with fail
 ·
  go_ret;obtain⟨Zn,c3,Bi⟩:=F.out;obtain⟨h,hL,_,_,X,B2⟩:=H.out;have cW:aj (λk=>k=l\/k=b) w w3:=((aj.nK bd.out).mono (λ_ _ e=>e.elim)).trans c3;have nP:∀k,Fp r v k->¬(k=l\/k=b):=by
   rintro k A (rfl|rfl)
   ·exact h.off hL.blk (by decide) (by decide) (by decide) A
   ·exact h.gp hL.map A
  have BW:=h.aA cW (jW hL) nP;have c5:aj (·=r) w3 (w3.setCell ⟨r,15,none⟩ (.slice (some ⟨g,o,none⟩) xs.length 0)).drew:=((aj.refl (·=r) w3).setCell (p:=⟨r,15,none⟩) (.inl rfl) _).drew;have BF:Safe w3 (·=r):=λk cur T jo A hb=>by
   subst A;have:=Bi;unfold Cb aM at this;rw[this]at hb;injection hb with hb;injection hb with _ hb _;subst hb;decide
  refine⟨rfl,{v with wv:=.slice (some ⟨g,o,none⟩) xs.length 0},⟨⟨⟨aM.set Bi 15 (.slice (some ⟨g,o,none⟩) xs.length 0),?_,?_⟩,?_⟩,?_,⟨rfl,rfl,rfl,rfl⟩,λk A=>.inl A,?_⟩⟩
  ·exact c5.ownsRow BW.au (λk A e=>BW.rows.1 k A e)
  ·obtain⟨vs,o1,o2⟩:=BW.ah;exact⟨vs,c5.ownsRow o1 (λk A e=>BW.rows.2.1 k A e),o2.mono λa b _ Y=>Ob.aA Y c5 BF⟩
  ·have hwx:WvR (w3.setCell ⟨r,15,none⟩ (.slice (some ⟨g,o,none⟩) xs.length 0)).drew v.wv c.wants:=(hW.out.aA cW (jW hL)).aA c5 BF;unfold FE;simp only[Jg];refine⟨A,?_⟩;obtain⟨p',vZ,e1,e2,e3⟩:=hwx;rw[X,L]at e1;injection e1 with e1 _ e4;subst e1 e4;obtain⟨g',o',A5,f1,f2,f3⟩:=e3 (by rw[L];exact nB _ _);injection f1 with f1;injection f1 with f1 f4;subst f1 f4;rw[L]at e2 f3;simp only[bt]at e2;refine⟨_,_,rfl,by omega,λtW=>?_⟩;have jZ:=ly.2 tW
   first
    |exact absurd jZ (by omega)
    |exact⟨_,_,A5,rfl,f2,λi y hy=>by have:=f3 (i+1) y hy;rwa[show o+(i+1)=o+1+i by omega]at this⟩
  ·exact Zn.aA c5 (dT EF) (dT GM)
  ·exact(cW.mono (λk _ e=>.inr e)).trans (c5.mono (λk _ e=>.inl (.inl e)))
 ·
  go_ret;obtain⟨Zn,c3,Bi⟩:=F.out;obtain⟨h,hL,_,_,X,B2⟩:=H.out;have cW:aj (λk=>k=l\/k=b) w w3:=((aj.nK bd.out).mono (λ_ _ e=>e.elim)).trans c3;have nP:∀k,Fp r v k->¬(k=l\/k=b):=by
   rintro k A (rfl|rfl)
   ·exact h.off hL.blk (by decide) (by decide) (by decide) A
   ·exact h.gp hL.map A
  have BW:=h.aA cW (jW hL) nP;have c5:aj (·=r) w3 (w3.setCell ⟨r,15,none⟩ (.slice (some ⟨g,o+1,none⟩) xs.length (cap - 1))).drew:=((aj.refl (·=r) w3).setCell (p:=⟨r,15,none⟩) (.inl rfl) _).drew;have BF:Safe w3 (·=r):=λk cur T jo A hb=>by
   subst A;have:=Bi;unfold Cb aM at this;rw[this]at hb;injection hb with hb;injection hb with _ hb _;subst hb;decide
  refine⟨rfl,{v with wv:=.slice (some ⟨g,o+1,none⟩) xs.length (cap - 1)},⟨⟨⟨aM.set Bi 15 (.slice (some ⟨g,o+1,none⟩) xs.length (cap - 1)),?_,?_⟩,?_⟩,?_,⟨rfl,rfl,rfl,rfl⟩,λk A=>.inl A,?_⟩⟩
  ·exact c5.ownsRow BW.au (λk A e=>BW.rows.1 k A e)
  ·obtain⟨vs,o1,o2⟩:=BW.ah;exact⟨vs,c5.ownsRow o1 (λk A e=>BW.rows.2.1 k A e),o2.mono λa b _ Y=>Ob.aA Y c5 BF⟩
  ·have hwx:WvR (w3.setCell ⟨r,15,none⟩ (.slice (some ⟨g,o+1,none⟩) xs.length (cap - 1))).drew v.wv c.wants:=(hW.out.aA cW (jW hL)).aA c5 BF;unfold FE;simp only[Jg];refine⟨A,?_⟩;obtain⟨p',vZ,e1,e2,e3⟩:=hwx;rw[X,L]at e1;injection e1 with e1 _ e4;subst e1 e4;obtain⟨g',o',A5,f1,f2,f3⟩:=e3 (by rw[L];exact nB _ _);injection f1 with f1;injection f1 with f1 f4;subst f1 f4;rw[L]at e2 f3;simp only[bt]at e2;refine⟨_,_,rfl,by omega,λtW=>?_⟩;have jZ:=ly.2 tW
   first
    |exact absurd jZ (by omega)
    |exact⟨_,_,A5,rfl,f2,λi y hy=>by have:=f3 (i+1) y hy;rwa[show o+(i+1)=o+1+i by omega]at this⟩
  ·exact Zn.aA c5 (dT EF) (dT GM)
  ·exact(cW.mono (λk _ e=>.inr e)).trans (c5.mono (λk _ e=>.inl (.inl e)))
def LB w r fz v c l b ls st mo mr m cb rs S(h:Cx w r fz v c)(hw:WvR w v.wv c.wants)(L:c.wants=[])(hL:Lk w l b ls)(hS:Sr w v.s st l m cb rs)(hT:qZ w st mo mr 0 S)(hz:Fz fz)
 (h4:c.au.length<=4) (PO:c.ah.length<=12) (Q:(aD c.ah).1.length<=1000) (vy:S.ah.length<=1000000) (VN:S.refs.length<=1000000) (hid:∀d∈c.au,d.ref.length<=1000/\d.new.length<=1000) (hky:∀x∈(aD c.ah).1,x.1.length<=maxLen)
 (ry:b≠mo) (ky:b≠mr) (hm3:mo≠mr) (fT:De.AP S (aD c.ah).1):
 Calls Tq.prog 75 #[aG r] w λe U=>e=.returned (.int .i64 1)/\∃v',Cw U r fz v' {c with bR:=(aW S c.au (aD c.ah).1 (aD c.ah).2).1,work:=some .fin}/\Lk U l b ls/\qZ U st mo mr 0 (aW S c.au (aD c.ah).1 (aD c.ah).2).2/\
  (v'.i=v.i/\v'.s=v.s/\v'.o=v.o/\v'.a=v.a)/\(∀k,Fp r v' k->Fp r v k\/w.heap.size<=k)/\aj (λk=>k=r\/k=st\/De.tF mo mr k) w U:=by
 obtain⟨q,cap,X,hcp,_⟩:=hw;rw[L]at X hcp;have X:v.wv=.slice q 0 cap:=X;obtain⟨qc,nc,cc,hcv⟩:∃qc nc cc,v.cv=.slice qc nc cc:=by
  rcases h.au.2 with⟨e,_⟩|⟨g,cp,cur,e,_⟩
  ·exact⟨_,_,_,e⟩
  ·exact⟨_,_,_,e⟩
 obtain⟨vs,vX,zv⟩:=h.ah;have B7:w.ownsRow 0 142 3 (.slice qc nc cc) c.au.length (kY c.au):=hcv▸h.au;have UM:w.cell? ⟨r,15,none⟩=some (.slice q 0 cap):=by rw[<-X];exact h.cb.at rfl
 have k1:w.cell? ⟨r,1,none⟩=some (.pointer (some ⟨v.s,0,none⟩)):=h.cb.at rfl;have k7:w.cell? ⟨r,7,none⟩=some (.slice qc nc cc):=by rw[<-hcv];exact h.cb.at rfl
 have k8:w.cell? ⟨r,8,none⟩=some v.ov:=h.cb.at rfl;have k2:w.cell? ⟨v.s,2,none⟩=some (.pointer (some ⟨st,0,none⟩)):=hS.blk.at rfl;have Fq:=aM.lt h.cb;have BF:=hS.blk.lt;have f12:=aM.frozen h.cb (i:=12) (hz 12 (by decide) (by decide) (by decide));have f14:=aM.frozen h.cb (i:=14) (hz 14 (by decide) (by decide) (by decide));have bx:Below w.heap.size w (w.alloc (.cells #[.pointer (some ⟨r,0,none⟩)] 91)):=(Below.refl _ _).alloc (aI _) _;have kb:(w.alloc (.cells #[.pointer (some ⟨r,0,none⟩)] 91)).cell? ⟨w.heap.size,0,none⟩=some (.pointer (some ⟨r,0,none⟩)):=by simp
 have wY:aM (w.alloc (.cells #[.pointer (some ⟨r,0,none⟩)] 91)) w.heap.size #[aG r] 91 (0,0):=aM.new _ _ _;have uG:(w.alloc (.cells #[.pointer (some ⟨r,0,none⟩)] 91)).heap.size=w.heap.size+1:=by simp
 have a15:=aK bx UM Fq;have a1:=aK bx k1 Fq;have a7:=aK bx k7 Fq;have a8:=aK bx k8 Fq;have a2:=aK bx k2 BF;have cx:aj (λ_=>False) w (w.alloc (.cells #[.pointer (some ⟨r,0,none⟩)] 91)):=aj.nK bx;have hxA:=h.aA cx (Safe.none _) (λ_ _ e=>e);have hTA:=hT.aA cx (Safe.none _) (λe=>e) (λe=>e) (λe=>e);have hLA:=hL.aA cx (λe=>e) (λe=>e);have hrA:=cx.ownsRow B7 (λ_ _ e=>e);have hoA:=cx.ownsRow vX (λ_ _ e=>e);have haA:wN (Ob (w.alloc (.cells #[.pointer (some ⟨r,0,none⟩)] 91))) c.ah vs:=zv.mono λa b _ Y=>Ob.aA Y cx (Safe.none _);have H:=vp (uS hxA (uS hTA (uS hLA (uS hrA (uS hoA (uS haA (uS wY (uS uG cx))))))));have H0:=vp (uS h (uS hT hL));have HN:=vp (uS Q (uS vy (uS VN (uS hid (uS hky (uS ry (uS ky (uS hm3 (uS fT (uS h4 PO))))))))));have HS:=vp hS;replace X:=vp X;replace hcv:=vp hcv;clear h hT hL hxA hTA hLA hrA hoA haA wY uG cx bx hS B7 vX zv UM k1 k7 k8 k2 Q vy VN hid hky ry ky hm3 fT h4 PO hcp;unfold aG;go_enter Tq.func75,ntmps75;go_wp2_with fail;generalize w.alloc (.cells #[.pointer (some ⟨r,0,none⟩)] 91)=wa at kb a15 a1 a7 a8 a2 H ⊢;have cd:aj (λ_=>False) wa wa.drew:=(aj.refl _ _).drew;have Gt:=vp (PS wa.drew qc nc cc v.ov c.ah vs 0 (cd.ownsRow H.out.2.2.2.2.1 (λ_ _ e=>e)) (H.out.2.2.2.2.2.1.mono λa b _ Y=>Ob.aA Y cd (Safe.none _)) (by have:=HN.out.2.2.2.2.2.2.2.2.2.2;omega));have aJ5:wa.drew.heap.size=w.heap.size+1:=H.out.2.2.2.2.2.2.2.1;have Hd:=vp (uS (H.out.2.2.2.2.2.2.1.aA cd (λe=>e)) ((H.out.2.2.2.2.2.2.2.2).trans cd));have Hx:=vp (uS (H.out.1.aA cd (Safe.none _) (λ_ _ e=>e)) (uS (H.out.2.1.aA cd (Safe.none _) (λe=>e) (λe=>e) (λe=>e)) (uS (H.out.2.2.1.aA cd (λe=>e) (λe=>e)) (cd.ownsRow H.out.2.2.2.1 (λ_ _ e=>e)))));have hbo:Hid (∀k,(k=w.heap.size\/k=r\/k=v.s)->¬(k=st\/De.tF mo mr k)):=vp (by
  have uw:=H0.out.2.1;rintro k (rfl|rfl|rfl) (e|e|e)
  ·have:=uw.blk.lt;omega
  ·have:=uw.ah.lt;omega
  ·have:=uw.refs.lt;omega
  ·exact aM.ne H0.out.1.cb uw.blk (by decide) e
  ·obtain⟨mv,g1,_⟩:=uw.ah;exact aM.dV H0.out.1.cb g1 e
  ·exact aM.dV H0.out.1.cb uw.refs e
  ·exact aM.ne HS.out.blk uw.blk (by decide) e
  ·obtain⟨mv,g1,_⟩:=uw.ah;exact aM.dV HS.out.blk g1 e
  ·exact aM.dV HS.out.blk uw.refs e)
 replace aJ5:=vp aJ5;have S1:=vp (show wa.drew.cell? ⟨w.heap.size,0,none⟩=some (.pointer (some ⟨r,0,none⟩))/\wa.drew.cell? ⟨r,1,none⟩=some (.pointer (some ⟨v.s,0,none⟩))/\wa.drew.cell? ⟨v.s,2,none⟩=some (.pointer (some ⟨st,0,none⟩))/\wa.drew.cell? ⟨r,7,none⟩=some (.slice qc nc cc)/\wa.drew.cell? ⟨r,8,none⟩=some v.ov from⟨kb,a1,a2,a7,a8⟩);clear H cd kb a15 a1 a7 a8 a2;go_region_held3 (λU=>U.cell? ⟨w.heap.size,0,none⟩=some (.pointer (some ⟨r,0,none⟩))/\U.cell? ⟨r,1,none⟩=some (.pointer (some ⟨v.s,0,none⟩))/\U.cell? ⟨v.s,2,none⟩=some (.pointer (some ⟨st,0,none⟩))/\U.cell? ⟨r,7,none⟩=some (.slice qc nc cc)/\U.cell? ⟨r,8,none⟩=some v.ov)
  (first|exact S4.out|exact S3.out|exact S2.out|exact S1.out)
  (first
    |(go_at_call 126
      refine Gt.out.mono ?_;rintro e w3 ⟨rfl,hP3,xb⟩;have c3:aj (λ_=>False) wa.drew w3:=aj.nK xb;have hpn:wa.drew.heap.size+1<w3.heap.size:=hP3.blk.lt;have hT3:=Hx.out.2.1.aA c3 (Safe.none _) (λe=>e) (λe=>e) (λe=>e);have GQ:mo<wa.drew.heap.size:=Hx.out.2.1.ah.lt;have Rl:mr<wa.drew.heap.size:=Hx.out.2.1.refs.lt;have S2:=vp (show w3.cell? ⟨w.heap.size,0,none⟩=some (.pointer (some ⟨r,0,none⟩))/\w3.cell? ⟨r,1,none⟩=some (.pointer (some ⟨v.s,0,none⟩))/\w3.cell? ⟨v.s,2,none⟩=some (.pointer (some ⟨st,0,none⟩))/\w3.cell? ⟨r,7,none⟩=some (.slice qc nc cc)/\w3.cell? ⟨r,8,none⟩=some v.ov from⟨c3.bB S1.out.1 (λe=>e),c3.bB S1.out.2.1 (λe=>e),c3.bB S1.out.2.2.1 (λe=>e),c3.bB S1.out.2.2.2.1 (λe=>e),c3.bB S1.out.2.2.2.2 (λe=>e)⟩);have Dc:=vp (PZ w3 st mo mr (wa.drew.heap.size+1) wa.drew.heap.size S (aD c.ah).1 (aD c.ah).2 qc nc cc 0 c.au hT3 hP3 (c3.ownsRow Hx.out.2.2.2 (λ_ _ e=>e)) HN.out.1 HN.out.2.1 HN.out.2.2.1 (by have:=HN.out.2.2.2.2.2.2.2.2.2.1;omega) HN.out.2.2.2.1 HN.out.2.2.2.2.1 HN.out.2.2.2.2.2.2.2.1 (by omega) (by omega) HN.out.2.2.2.2.2.2.2.2.1);have h3:=vp (uS c3 (uS hT3 (uS GQ (uS Rl hpn))));clear hP3 xb c3 hT3 GQ Rl hpn)
    |(go_at_call 125
      refine Dc.out.mono ?_;rintro e w4 ⟨he,hT4,c4⟩;unfold av at he;subst he;have S3:=vp (show w4.cell? ⟨w.heap.size,0,none⟩=some (.pointer (some ⟨r,0,none⟩))/\w4.cell? ⟨r,1,none⟩=some (.pointer (some ⟨v.s,0,none⟩))/\w4.cell? ⟨v.s,2,none⟩=some (.pointer (some ⟨st,0,none⟩))/\w4.cell? ⟨r,7,none⟩=some (.slice qc nc cc)/\w4.cell? ⟨r,8,none⟩=some v.ov from⟨c4.bB S2.out.1 (hbo.out _ (.inl rfl)),c4.bB S2.out.2.1 (hbo.out _ (.inr (.inl rfl))),c4.bB S2.out.2.2.1 (hbo.out _ (.inr (.inr rfl))),c4.bB S2.out.2.2.2.1 (hbo.out _ (.inr (.inl rfl))),c4.bB S2.out.2.2.2.2 (hbo.out _ (.inr (.inl rfl)))⟩);have MS:Cb w4 r fz v c:=aM.aA (aM.aA Hx.out.1.cb h3.out.1 (λe=>e)) c4 (hbo.out _ (.inr (.inl rfl)));have g12:w4.frozen? ⟨r,12,none⟩=false:=aM.frozen MS (hz 12 (by decide) (by decide) (by decide));have aP8:w4.cell? ⟨r,12,none⟩=some (.string ⟨c.bR.toArray⟩):=MS.at (i:=12) rfl;have S4:=vp (show(w4.setCell ⟨r,12,none⟩ (.string ⟨(aW S c.au (aD c.ah).1 (aD c.ah).2).1.toArray⟩)).cell? ⟨w.heap.size,0,none⟩=some (.pointer (some ⟨r,0,none⟩))/\(w4.setCell ⟨r,12,none⟩ (.string ⟨(aW S c.au (aD c.ah).1 (aD c.ah).2).1.toArray⟩)).cell? ⟨r,1,none⟩=some (.pointer (some ⟨v.s,0,none⟩))/\(w4.setCell ⟨r,12,none⟩ (.string ⟨(aW S c.au (aD c.ah).1 (aD c.ah).2).1.toArray⟩)).cell? ⟨v.s,2,none⟩=some (.pointer (some ⟨st,0,none⟩))/\(w4.setCell ⟨r,12,none⟩ (.string ⟨(aW S c.au (aD c.ah).1 (aD c.ah).2).1.toArray⟩)).cell? ⟨r,7,none⟩=some (.slice qc nc cc)/\(w4.setCell ⟨r,12,none⟩ (.string ⟨(aW S c.au (aD c.ah).1 (aD c.ah).2).1.toArray⟩)).cell? ⟨r,8,none⟩=some v.ov from⟨(Ĳ _ _ _ _ (by simp)).trans S3.out.1,(Ĳ _ _ _ _ (by simp)).trans S3.out.2.1,(Ĳ _ _ _ _ (by simp)).trans S3.out.2.2.1,(Ĳ _ _ _ _ (by simp)).trans S3.out.2.2.2.1,(Ĳ _ _ _ _ (by simp)).trans S3.out.2.2.2.2⟩);have h5:=vp (show Cb (w4.setCell ⟨r,12,none⟩ (.string ⟨(aW S c.au (aD c.ah).1 (aD c.ah).2).1.toArray⟩)) r fz v {c with bR:=(aW S c.au (aD c.ah).1 (aD c.ah).2).1}from aM.set MS 12 _);have h6:=vp (show aj (·=r) w4 (w4.setCell ⟨r,12,none⟩ (.string ⟨(aW S c.au (aD c.ah).1 (aD c.ah).2).1.toArray⟩))from(aj.refl (·=r) w4).setCell (p:=⟨r,12,none⟩) (.inl rfl) _);have h4:=vp (uS hT4 (uS c4 MS));clear hT4 c4 MS))
 have kb5:=S4.out.1;have NP:=h5.out;have c5:=h6.out;clear S1 S2 S3 S4 h5 h6 g12 aP8 Gt Dc;generalize w4.setCell ⟨r,12,none⟩ (.string ⟨(aW S c.au (aD c.ah).1 (aD c.ah).2).1.toArray⟩)=w5 at kb5 NP c5 ⊢;have k14:w5.cell? ⟨r,14,none⟩=some v.wk:=NP.at (i:=14) rfl;have g14:w5.frozen? ⟨r,14,none⟩=false:=aM.frozen NP (hz 14 (by decide) (by decide) (by decide));have h7:=vp (uS NP c5);clear NP c5;go_wp2_with fail;go_ret;obtain⟨NP,c5⟩:=h7.out;obtain⟨hT4,c4,MS⟩:=h4.out;obtain⟨c3,hT3,GQ,Rl,hpn⟩:=h3.out;obtain⟨hxd,MV,hLd,Mt⟩:=Hx.out;obtain⟨hbd,cwd⟩:=Hd.out;obtain⟨h0,hT0,hL0⟩:=H0.out;have c6:aj (·=r) w5 (w5.setCell ⟨r,14,none⟩ (.func (.func 127) #[] #[.pointer (some ⟨w.heap.size,0,none⟩)])):=(aj.refl (·=r) w5).setCell (p:=⟨r,14,none⟩) (.inl rfl) _;have c46:=c5.trans c6;have cT:aj (λk=>k=r\/k=st\/De.tF mo mr k) wa.drew (w5.setCell ⟨r,14,none⟩ (.func (.func 127) #[] #[.pointer (some ⟨w.heap.size,0,none⟩)])):=
  ((c3.mono λ_ _ e=>e.elim).trans (c4.mono λ_ _ e=>.inr e)).trans (c46.mono λ_ _ e=>.inl e)
 have NK:∀k,k=st\/De.tF mo mr k->k≠r:=λk A e=>hbo.out r (.inr (.inl rfl)) (e▸A);have ru:Safe wa.drew (λk=>k=r\/k=st\/De.tF mo mr k):=λk cur T jo A hb=>by
  rcases A with rfl|A|A|A
  ·exact hxd.safe k cur T jo (.inl rfl) hb
  ·subst A;have:=MV.blk;unfold aM at this;rw[this]at hb;injection hb with hb;injection hb with _ hb _;subst hb;decide
  ·subst A;exact absurd hb (MV.ah.eQ _ _ _)
  ·subst A;obtain⟨es,clock,xa,_⟩:=MV.refs;rw[xa]at hb;cases hb
 have nP:∀k,Fp r v k->k=r\/¬(k=r\/k=st\/De.tF mo mr k):=λk A=>by
  by_cases e:k=r
  ·exact .inl e
  ·refine .inr ?_;rintro(e'|e'|e'|e')
   ·exact e e'
   ·subst e';exact hxd.off MV.blk (by decide) (by decide) (by decide) A
   ·subst e';obtain⟨mv,g1,_⟩:=MV.ah;exact hxd.gp g1 A
   ·subst e';exact hxd.gp MV.refs A
 have hm:=HN.out;refine⟨rfl,{v with wk:=.func (.func 127) #[] #[.pointer (some ⟨w.heap.size,0,none⟩)]},⟨hxd.reb cT ru (aM.set NP 14 _) nP rfl rfl rfl rfl,⟨w.heap.size,rfl,hbd.aA cT ?_⟩⟩,hLd.aA cT ?_ ?_,hT4.aA c46 ?_ ?_ ?_ ?_,⟨rfl,rfl,rfl,rfl⟩,λk A=>.inl A,(cwd.mono λ_ _ e=>e.elim).trans cT⟩
 ·rintro(e|e)
  ·have:=aM.lt h0.cb;omega
  ·exact hbo.out _ (.inl rfl) e
 ·rintro(e|e|e|e)
  ·exact aM.ne hLd.blk hxd.cb (by decide) e
  ·exact aM.ne hLd.blk MV.blk (by decide) e
  ·obtain⟨mv,g1,_⟩:=MV.ah;exact aM.dV hLd.blk g1 e
  ·exact aM.dV hLd.blk MV.refs e
 ·rintro(e|e|e|e)
  ·exact aM.dV hxd.cb hLd.map e.symm
  ·exact aM.dV MV.blk hLd.map e.symm
  ·exact hm.2.2.2.2.2.1 e
  ·exact hm.2.2.2.2.2.2.1 e
 ·intro k cur T jo A hb;subst A;have:=MS;unfold Cb aM at this;rw[this]at hb;injection hb with hb;injection hb with _ hb _;subst hb;decide
 ·exact NK _ (.inl rfl)
 ·exact NK _ (.inr (.inl rfl))
 ·exact NK _ (.inr (.inr rfl))
end Rx
