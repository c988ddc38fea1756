/- Races: a part. Conditions: none. -/
import Derived.Test.YtmanpggemmgnnaaGreatDoorA34
import Derived.Test.YtmanpggemmgnnaaGreatDoorA37
set_option linter.all false
set_option maxHeartbeats 8000000
set_option maxRecDepth 1000000
namespace Go.Proofs.YtmanpggemmgnnaaGreatDoor
noncomputable section
open Go Go.RowKit Go.Shelf Ba Fr
theorem z38 {p:Prop} (h:p):Go.RowKit.Hid p:=Go.Lib.hid h
theorem y38 {a b:Prop} (x:a) (y:b):a/\b:=⟨x,y⟩
namespace De
open Tx Sp Wg Rd Bk Wi Se Rx Mp Lv Qu
theorem aE0 {α:Type}:∀{a b:M α},M.Up a->M.Up b->(∀k,M.get a k=M.get b k)->a=b:=by
 intro a
 induction a with
 |nil=>
  intro b _ _ h;cases b with
  |nil=>rfl
  |cons p r=>
   have:=h p.1;rw [M.get_nil,M.bG,if_pos rfl] at this;cases this
 |cons p r ih=>
  intro b ha hb h;cases b with
  |nil=>have:=h p.1;rw [M.get_nil,M.bG,if_pos rfl] at this;cases this
  |cons q s=>
   have uz:=List.pairwise_cons.1 ha;have kz:=List.pairwise_cons.1 hb;have hk:p.1=q.1:=by
    refine Classical.byContradiction λbA=>?_;cases hl:si p.1 q.1 with
    |true=>
     have h1:=h p.1;rw [M.bG,if_pos rfl] at h1;have hm:=M.get_some h1.symm;rcases List.mem_cons.1 hm with e|e
     ·exact bA (by rw [<-e])
     ·have h2:=zq hl (kz.1 _ e);rw [vQ] at h2;cases h2
    |false=>
     have Rm:=Gv hl bA;have h1:=h q.1;rw [M.bG q,if_pos rfl] at h1;have hm:=M.get_some h1;rcases List.mem_cons.1 hm with e|e
     ·exact bA (by rw [<-e])
     ·have h2:=zq Rm (uz.1 _ e);rw [vQ] at h2;cases h2
   have hv:p.2=q.2:=by have h1:=h p.1;rw [M.bG,if_pos rfl,M.bG,if_pos hk.symm] at h1;exact Option.some.inj h1
   have hr:r=s:=ih uz.2 kz.2 λk=>by
    by_cases e:p.1=k
    ·have n1:M.get r k=none:=by
      cases hh:M.get r k with
      |none=>rfl
      |some v=>exact absurd (vP (uz.1 _ (M.get_some hh))) (λh=>h e)
     have n2:M.get s k=none:=by
      cases hh:M.get s k with
      |none=>rfl
      |some v=>exact absurd (vP (kz.1 _ (M.get_some hh))) (λh=>h (hk▸e))
     rw [n1,n2]
    ·have h1:=h k;rw [M.bG,if_neg e,M.bG,if_neg (λe'=>e (hk.trans e'))] at h1;exact h1
   cases p;cases q;simp only at hk hv;rw [hk,hv,hr]
theorem Hl {w:World} {B1 n cap:Nat} {q:Option Addr} {cs:List nN} (h:w.ownsRow B1 142 3 (.slice q n cap) cs.length (kY cs)) {k:Nat} {m:nN} (hm:cs[k]? =some m):
 n=cs.length/\∃g,q=some ⟨g,0,none⟩/\(∃xs,w.heap[g]? =some (.cells xs 142 (0,0)))/\w.cell? ⟨g,k*3,none⟩=some (.string ⟨m.old.toArray⟩)/\w.cell? ⟨g,k*3+1,none⟩=some (.string ⟨m.new.toArray⟩)/\w.cell? ⟨g,k*3+2,none⟩=some (.string ⟨m.ref.toArray⟩):=by
 obtain ⟨m1,m2,m3⟩:=JG hm;have aI:k<cs.length:=(List.getElem?_eq_some_iff.1 hm).1;obtain ⟨hl,hc⟩:=h;rcases hc with ⟨e,h0⟩|⟨g,fM,cur,e,h1,h2,h3,h4,h5,h6⟩
 ·omega
 injection e with e1 e2 e3;subst e1 e2;have iX:∀j x,(kY cs)[j]? =some x->w.cell? ⟨g,j,none⟩=some x:=λj x hj=>by
  rw [<-h6,List.getElem?_take] at hj;split at hj
  ·exact aM.at (xs:=cur) h2 (by rw [<-Array.getElem?_toList];exact hj)
  ·cases hj
 exact ⟨rfl,g,rfl,⟨cur,h2⟩,iX _ _ m1,iX _ _ m2,iX _ _ m3⟩
def tF (mo mr:Nat) (k:Nat):Prop:=k=mo\/k=mr
theorem Iu {w:World} {mo mr:Nat} {S:St} {st:Nat} {μ:Int} (h:qZ w st mo mr μ S):Rx.Safe w (tF mo mr):=λk cur T fz hk hb=>by
 rcases hk with rfl|rfl
 ·exact absurd hb (h.ah.eQ _ _ _)
 ·obtain ⟨es,clock,e,_⟩:=h.refs;rw [e] at hb;cases hb
theorem SR.aA {T:Nat->Prop} {w w':World} {b r:Nat} {m:M Value} {left:B->Bool} {cnt:Nat} (h:SR w b r m left cnt) (hc:aj T w w') (h1:¬T b) (h2:¬T r):SR w' b r m left cnt:=by have hb:=h.sm.lt;have hr:=World.ranges.lt h;obtain ⟨es,clock,since,seen,c0,kz,F,hs,hD,jf,rest⟩:=h;exact ⟨es,clock,since,seen,c0,(hc.block b hb h1).trans kz,F,hs,hD,(hc.block r hr h2).trans jf,rest⟩
structure TI (w:World) (st mo mr pb mw:Nat) (μ:Int) (S:St) (cv:Value) (p:M B) (cl:Bool) (mv:M Value) (left:B->Bool) (cnt:Nat) (yL:List B) (O:M B) (W:World):Prop where
 rg:SR W mw w.heap.size mv left cnt
 col:Nv mv left yL
 jC:qZ W st mo mr μ {S with ah:=O}
 psh:kK W pb mw cv p cl
 get:∀x,M.get O x=if x∈yL then M.get p x else M.get S.ah x
 Bl:yL.length+cnt<=mv.length
 len:O.length<=S.ah.length+yL.length
 aA:aj (tF mo mr) w W
theorem take_one (w:World) (st mo mr pb mw:Nat) (μ:Int) (S:St) (cv:Value) (p:M B) (cl:Bool) (qc:Option Addr) (nc cc B1:Nat) (cs:List nN) (hS:qZ w st mo mr μ S) (hP:kK w pb mw (.slice qc nc cc) p cl) (ay:w.ownsRow B1 142 3 (.slice qc nc cc) cs.length (kY cs))
 (hn:p.length<=1000) (ho:S.ah.length<=1000000) (hr:S.refs.length<=1000000) (yP:cs.length<=1000) (hid:∀c∈cs,c.ref.length<=maxLen) (h1:mo≠mr) (h2:mo≠mw) (h3:mr≠mw):
 Calls Tq.prog 177 #[aG st,aG pb] w λe w'=>e=.returned (.tuple #[])/\qZ w' st mo mr μ (Sp.take S p cs)/\kK w' pb mw (.slice qc nc cc) p cl/\aj (tF mo mr) w w':=by
 refine nA λks=>?_;obtain ⟨mv,ry,ky⟩:=hP.waits;have hlen:=ky.length;have k1:w.cell? ⟨pb,1,none⟩=some (.map (some mw)):=hP.blk.at rfl;have X:=z38 (y38 hS (y38 hP (y38 ay (y38 hn (y38 ho (y38 hr (y38 yP (y38 hid (y38 h1 (y38 h2 (y38 h3 (y38 ky hlen))))))))))));clear hS hP ay hn ho hr yP hid h1 h2 h3 ky hlen;unfold aG;refine LV.enter Tq.func177 rfl ?_;simp only [Tryz.ntmps177,List.size_toArray,List.length_cons,List.length_nil,Nat.reduceAdd,Nat.reduceSub,Array.replicate_succ,Array.replicate_zero,List.push_toArray,List.append_toArray,List.nil_append,List.cons_append];refine LV.seq (LV.seq (LV.reg rfl λR hR=>?_));replace hR:=z38 hR;go_wp2_with (at_range;refine Mp.range rfl _ 55 rfl 106 ((Tq.underlying 55).trans Tryz.underlying55) mw mv rfl ry ?_;intro w0 Bd MJ hs0);refine hR.out _ _ ?_;clear hR R k1;have H0:TI w st mo mr pb mw μ S (.slice qc nc cc) p cl mv (λk=>(mv.get k).isSome) mv.length [] S.ah w0:=by obtain ⟨hS,hP,ay,hn,ho,hr,yP,hid,h1,h2,h3,ky,hlen⟩:=X.out;have c0:aj (λ_=>False) w w0:=(aj.refl _ w).grown MJ (λk h=>by cases h);exact ⟨Bd,Nv.start mv,hS.aA c0 (Rx.Safe.none w) (λe=>e) (λe=>e) (λe=>e),hP.aA c0 (Rx.Safe.none w) (λe=>e) (λe=>e),λx=>rfl,by simp,by simp,c0.mono (λ_ _ e=>e.elim)⟩
 clear Bd MJ hs0 ry;refine LV.block ?_;refine LV.while (m:=mv.length) (λm W a=>∃(left:B->Bool) (cnt:Nat) (yL:List B) (O:M B) (x2 x3 x4 x5 x6 x7 x8 x9 x10 x11 x13 x14 x15 x16 x17 x18 x19 x20 x21 x22 x23 x24 x25 x26 x27 x28 x29 x30 x31 x32 x33 x34 x35 x36 x37 x38 x39 x40 x41 x42 x43 x44 x45 x46 x47 x48 x49 x50:Value),a={tmps:=#[.pointer (some ⟨st,0,none⟩),.pointer (some ⟨pb,0,none⟩),x2,x3,x4,x5,x6,x7,x8,x9,x10,x11,.pointer (some ⟨w.heap.size,0,none⟩),x13,x14,x15,x16,x17,x18,x19,x20,x21,x22,x23,x24,x25,x26,x27,x28,x29,x30,x31,x32,x33,x34,x35,x36,x37,x38,x39,x40,x41,x42,x43,x44,x45,x46,x47,x48,x49,x50],defers:=[]}/\m=cnt/\TI w st mo mr pb mw μ S (.slice qc nc cc) p cl mv left cnt yL O W) ⟨_,_,_,_,_,_,_,_,_,_,_,_,_,_,_,_,_,_,_,_,_,_,_,_,_,_,_,_,_,_,_,_,_,_,_,_,_,_,_,_,_,_,_,_,_,_,_,_,_,_,_,_,rfl,rfl,H0⟩ ?_;clear H0;rintro m W a ⟨left,cnt,yL,O,x2,x3,x4,x5,x6,x7,x8,x9,x10,x11,x13,x14,x15,x16,x17,x18,x19,x20,x21,x22,x23,x24,x25,x26,x27,x28,x29,x30,x31,x32,x33,x34,x35,x36,x37,x38,x39,x40,x41,x42,x43,x44,x45,x46,x47,x48,x49,x50,rfl,rfl,hI⟩ IH;replace IH:=z38 IH;dsimp only;have BH:=hI.rg;replace hI:=z38 hI;refine LV.seq (LV.reg rfl λR hR=>?_);replace hR:=z38 hR;go_wp2_with (at_next;refine Mp.next rfl _ rfl mw w.heap.size mv left m rfl BH ?_ ?_)
 ·intro yt PD;have H:=z38 (y38 yt PD);clear BH yt PD;go_wp2_with fail;refine hR.out _ _ ?_;clear hR R;refine LV.seq (LV.cond (t:=false) rfl (LV.exit rfl ?_));have hO:O=p.foldl (λm x=>m.put x.1 x.2) S.ah:=by
   obtain ⟨hS,hP,-⟩:=X.out;have h:=hI.out;have ky:=X.out.2.2.2.2.2.2.2.2.2.2.2.1;refine aE0 (OM.up h.jC.ah) (M.H9 p _ (OM.up hS.ah)) λx=>?_;rw [M.MX p _ x (OM.up hP.waits),h.get];have hv:x∈yL↔(M.get p x).isSome=true:=by rw [h.col.2 x,H.out.2 x];rcases ky.get x with ⟨e1,e2⟩|⟨x',y,e1,e2,r⟩<;>simp [e1,e2]
   cases hh:M.get p x with
   |none=>rw [if_neg (by rw [hv,hh];simp)]
   |some v=>rw [if_pos (by rw [hv,hh];rfl)]
  obtain ⟨hS0,hP0,ay,hn,ho,hr,yP,hid,n1,n2,n3,ky,hlen⟩:=X.out;have h:=hI.out;have aF5:=h.jC;rw [hO] at aF5;have aF9:=h.psh;have lD:=h.aA;have k27:W.cell? ⟨pb,0,none⟩=some (.slice qc nc cc):=aF9.blk.at rfl;have hnc:nc=cs.length/\∀(i:Nat) (c:nN),cs[i]? =some c->∃g,qc=some ⟨g,0,none⟩/\¬tF mo mr g/\w.cell? ⟨g,i*3,none⟩=some (.string ⟨c.old.toArray⟩)/\w.cell? ⟨g,i*3+1,none⟩=some (.string ⟨c.new.toArray⟩)/\w.cell? ⟨g,i*3+2,none⟩=some (.string ⟨c.ref.toArray⟩):=by
   refine ⟨?_,λi c hc=>?_⟩
   ·rcases ay.2 with ⟨e,h0⟩|⟨g,fM,cur,e,_⟩
    ·injection e with _ e2 _;rw [e2,h0]
    ·injection e
   ·obtain ⟨-,g,e1,⟨xs,e2⟩,e3⟩:=Hl ay hc;refine ⟨g,e1,?_,e3⟩;rintro (rfl|rfl)
    ·exact hS0.ah.eQ _ _ _ e2
    ·obtain ⟨es,clock,e,_⟩:=hS0.refs;rw [e] at e2;cases e2
  obtain ⟨rfl,dK⟩:=hnc;have H0:qZ W st mo mr μ {S with ah:=p.foldl (λm x=>m.put x.1 x.2) S.ah,refs:=(cs.take 0).foldl (λm c=>if c.new=di then m.del c.ref else m.put c.ref c.new) S.refs}/\kK W pb mw (.slice qc cs.length cc) p cl/\aj (tF mo mr) w W:=⟨aF5,aF9,lD⟩
  have X2:=z38 (y38 dK (y38 hr (y38 yP (y38 hid (y38 n1 (y38 n3 hS0))))));clear hO hS0 hP0 ay hn ho hr yP hid n1 n2 n3 ky hlen h aF5 aF9 lD dK H hI IH X;refine LV.seq (LV.reg rfl λR hR=>?_);replace hR:=z38 hR;go_wp2_with fail;refine hR.out _ _ ?_;clear hR R;clear k27;refine LV.block ?_;refine LV.while (m:=cs.length) (λm W a=>∃(i:Nat) (x2 x3 x4 x5 x6 x7 x8 x9 x10 x11 x12 x13 x14 x15 x16 x17 x18 x19 x20 x21 x22 x23 x24 x25 x26 x30 x31 x32 x33 x34 x35 x36 x37 x38 x39 x40 x41 x42 x43 x44 x45 x46 x47 x48 x49 x50:Value),a={tmps:=#[.pointer (some ⟨st,0,none⟩),.pointer (some ⟨pb,0,none⟩),x2,x3,x4,x5,x6,x7,x8,x9,x10,x11,x12,x13,x14,x15,x16,x17,x18,x19,x20,x21,x22,x23,x24,x25,x26,.slice qc cs.length cc,.int .i64 (cs.length:Nat),.int .i64 (i:Nat),x30,x31,x32,x33,x34,x35,x36,x37,x38,x39,x40,x41,x42,x43,x44,x45,x46,x47,x48,x49,x50],defers:=[]}/\m=cs.length - i/\i<=cs.length/\qZ W st mo mr μ {S with ah:=p.foldl (λm x=>m.put x.1 x.2) S.ah,refs:=(cs.take i).foldl (λm c=>if c.new=di then m.del c.ref else m.put c.ref c.new) S.refs}/\kK W pb mw (.slice qc cs.length cc) p cl/\aj (tF mo mr) w W) ⟨0,_,_,_,_,_,_,_,_,_,_,_,_,_,_,_,_,_,_,_,_,_,_,_,_,_,_,_,_,_,_,_,_,_,_,_,_,_,_,_,_,_,_,_,_,_,_,rfl,rfl,Nat.zero_le _,H0⟩ ?_;clear H0;rintro m W a ⟨i,x2,x3,x4,x5,x6,x7,x8,x9,x10,x11,x12,x13,x14,x15,x16,x17,x18,x19,x20,x21,x22,x23,x24,x25,x26,x30,x31,x32,x33,x34,x35,x36,x37,x38,x39,x40,x41,x42,x43,x44,x45,x46,x47,x48,x49,x50,rfl,rfl,hle,hS,hP,hW⟩ IH;replace IH:=z38 IH;dsimp only;by_cases aI:i<cs.length
  case neg=>
   have Bf:i=cs.length:=by omega
   subst Bf;rw [List.take_length] at hS;have qw:((cs.length:Int)<(cs.length:Int))=False:=eq_false (by omega);have Y:=z38 (y38 hS (y38 hP hW));clear hS hP hW aI hle X2;refine LV.seq (LV.reg rfl λR hR=>?_);replace hR:=z38 hR;go_wp2_with fail;refine hR.out _ _ ?_;clear hR R;refine LV.seq (LV.cond (t:=false) rfl (LV.exit rfl ?_));exact LV.fin rfl (LV.left rfl rfl rfl rfl Tq.func177 (results_none rfl _ _ _) ⟨rfl,Y.out⟩)
  obtain ⟨c,hc⟩:∃c,cs[i]? =some c:=⟨_,List.getElem?_eq_getElem aI⟩
  obtain ⟨dK,hr,yP,hid,n1,n3,hS0⟩:=X2.out;obtain ⟨g,rfl,hg,d0,d1,d2⟩:=dK i c hc;replace d0:=hW.bB d0 hg;replace d1:=hW.bB d1 hg;replace d2:=hW.bB d2 hg;have Jn:g<W.heap.size:=World.block_lt_of_cell? W _ d0;have uI:cs.take (i+1)=cs.take i++[c]:=by rw [List.take_add_one,hc];rfl
  have EF:c.ref.length<=maxLen:=hid c (List.mem_of_getElem? hc);have qw:((i:Int)<(cs.length:Int))=True:=eq_true (by omega);have VQ:i<1000000:=by omega
  have Y:=z38 (y38 hS (y38 hP (y38 hW (y38 aI (y38 uI (y38 hle n1))))));clear hS hP hW aI uI hle dK hr yP hid n1 n3 hg hc hS0;refine LV.seq (LV.reg rfl λR hR=>?_);replace hR:=z38 hR;go_wp2_with fail;refine hR.out _ _ ?_;clear hR R;refine LV.seq (LV.cond (t:=true) rfl (LV.skip (LV.seq (LV.block (LV.seq (LV.reg rfl λR hR=>?_))))));replace hR:=z38 hR;go_wp2_with fail;refine hR.out _ _ ?_;clear hR R;have ca:aj (λ_=>False) W (W.alloc (.cells #[.string ⟨c.old.toArray⟩,.string ⟨c.new.toArray⟩,.string ⟨c.ref.toArray⟩] 142)):=(aj.refl _ W).alloc _;have FB:=Y.out.1.aA ca (Rx.Safe.none W) (λe=>e) (λe=>e) (λe=>e);have hPa:=Y.out.2.1.aA ca (Rx.Safe.none W) (λe=>e) (λe=>e);have q1:(W.alloc (.cells #[.string ⟨c.old.toArray⟩,.string ⟨c.new.toArray⟩,.string ⟨c.ref.toArray⟩] 142)).cell? ⟨W.heap.size,1,none⟩=some (.string ⟨c.new.toArray⟩):=by simp
  have q2:(W.alloc (.cells #[.string ⟨c.old.toArray⟩,.string ⟨c.new.toArray⟩,.string ⟨c.ref.toArray⟩] 142)).cell? ⟨W.heap.size,2,none⟩=some (.string ⟨c.ref.toArray⟩):=by simp
  generalize W.alloc (.cells #[.string ⟨c.old.toArray⟩,.string ⟨c.new.toArray⟩,.string ⟨c.ref.toArray⟩] 142)=wa at ca FB hPa q1 q2 ⊢;generalize W.heap.size=nb at q1 q2 ⊢;have k5:wa.cell? ⟨st,5,none⟩=some (.map (some mr)):=FB.blk.at rfl;obtain ⟨rm,NK⟩:∃rm,rm=(cs.take i).foldl (λm c=>if c.new=di then M.del m c.ref else M.put m c.ref c.new) S.refs:=⟨_,rfl⟩
  have Rl:SM wa mr (mapM av rm):=by rw [NK];exact FB.refs
  have hmd:SM wa.drew mr (mapM av rm):=Rl.block rfl;have hml:(mapM av rm).length<maxLen:=by
   obtain ⟨dK,hr,yP,hid,n1,n3,hS0⟩:=X2.out;rw [mapM_length,NK];have key:∀(l:List nN) (m:M B),(l.foldl (λm c=>if c.new=di then M.del m c.ref else M.put m c.ref c.new) m).length<=m.length+l.length:=by
    intro l
    induction l with
    |nil=>exact λm=>Nat.le_refl _
    |cons c l ih=>
     intro m;have h1:=ih (if c.new=di then M.del m c.ref else M.put m c.ref c.new);have h2:(if c.new=di then M.del m c.ref else M.put m c.ref c.new).length<=m.length+1:=by
      split
      ·exact Nat.le_succ_of_le (M.uV _ _)
      ·exact M.gU _ _ _
     show (l.foldl _ (if c.new=di then M.del m c.ref else M.put m c.ref c.new)).length<=m.length+(l.length+1);omega
   have:=key (cs.take i) S.refs;have h3:(cs.take i).length<=cs.length:=by rw [List.length_take];omega
   unfold maxLen;omega
  have n3:=X2.out.2.2.2.2.2.1;have Z:=z38 (y38 FB (y38 hPa ca));replace NK:=z38 NK;clear FB hPa ca d0 d1 d2 Rl;refine LV.seq (LV.reg rfl λR hR=>?_);replace hR:=z38 hR;go_wp2_with fail;refine hR.out _ _ ?_;clear hR R;by_cases hz:c.new=di
  ·have hb:(c.new==[48,48,48,48,48,48,48,48])=true:=by rw [hz];rfl
   rw [hb];have U:=z38 hz;clear hb hz;refine LV.cond (t:=true) rfl ?_;refine LV.tq rfl λR hR=>?_;replace hR:=z38 hR
   go_still_tail 6,(by kernel_rfl)
   change wpList _ _ _ _ _ wa.drew;go_wp2_with (at_delete;refine Mp.delete rfl _ _ 56 rfl 9 ((Tq.underlying 56).trans Tryz.underlying56) mr _ rfl hmd ⟨c.ref.toArray⟩ rfl EF ?_;intro w4 NL VJ);refine hR.out _ _ ?_;clear hR R;obtain ⟨hS,hP,hW,aI,uI,hle,n1⟩:=Y.out;obtain ⟨FB,hPa,ca⟩:=Z.out;have c4:aj (·=mr) wa.drew w4:=dY VJ;have c5:aj (tF mo mr) w w4:=(hW.trans (ca.mono (λ_ _ e=>e.elim))).trans ((⟨c4.os,c4.tape,c4.output,c4.size,c4.block⟩:aj (·=mr) wa w4).mono (λ_ _ e=>.inr e));have c6:aj (·=mr) wa w4:=⟨c4.os,c4.tape,c4.output,c4.size,c4.block⟩
   have ru:Rx.Safe wa (·=mr):=λk cur T fz hk hb=>Iu FB k cur T fz (.inr hk) hb;have aOE:=FB.refs.lt;refine LV.inBlock ?_;refine LV.reg rfl λR hR=>?_;replace hR:=z38 hR;go_wp2_with fail;refine hR.out _ _ ?_;clear hR R;refine IH.out (cs.length - (i+1)) _ _ (by omega) ⟨i+1,_,_,_,_,_,_,_,_,_,_,_,_,_,_,_,_,_,_,_,_,_,_,_,_,_,_,_,_,_,_,_,_,_,_,_,_,_,_,_,_,_,_,_,_,_,_,rfl,rfl,by omega,⟨FB.blk.aA c6 (FB.blk.dV FB.refs),FB.ah.aA c6 ru n1,?_⟩,hPa.aA c6 ru (hPa.blk.dV FB.refs) (Ne.symm n3),c5⟩;rw [uI,List.foldl_append];show SM w4 mr (mapM av (if c.new=di then _ else _));rw [if_pos U.out,<-Dx,<-NK.out];exact NL
  ·have hb:(c.new==[48,48,48,48,48,48,48,48])=false:=beq_false_of_ne hz;rw [hb];have U:=z38 hz;clear hb hz;refine LV.cond (t:=false) rfl ?_;refine LV.tq rfl λR hR=>?_;replace hR:=z38 hR
   go_still_tail 8,(by kernel_rfl)
   change wpList _ _ _ _ _ wa.drew;go_wp2_with (at_mapUpdate;refine Mp.store rfl _ _ _ 56 rfl 9 ((Tq.underlying 56).trans Tryz.underlying56) mr _ rfl hmd hml ⟨c.ref.toArray⟩ (.string ⟨c.new.toArray⟩) rfl rfl EF ?_;intro w4 NL VJ);refine hR.out _ _ ?_;clear hR R;obtain ⟨hS,hP,hW,aI,uI,hle,n1⟩:=Y.out;obtain ⟨FB,hPa,ca⟩:=Z.out;have c4:aj (·=mr) wa.drew w4:=dY VJ;have c5:aj (tF mo mr) w w4:=(hW.trans (ca.mono (λ_ _ e=>e.elim))).trans ((⟨c4.os,c4.tape,c4.output,c4.size,c4.block⟩:aj (·=mr) wa w4).mono (λ_ _ e=>.inr e));have c6:aj (·=mr) wa w4:=⟨c4.os,c4.tape,c4.output,c4.size,c4.block⟩
   have ru:Rx.Safe wa (·=mr):=λk cur T fz hk hb=>Iu FB k cur T fz (.inr hk) hb;have aOE:=FB.refs.lt;refine LV.inBlock ?_;refine LV.reg rfl λR hR=>?_;replace hR:=z38 hR;go_wp2_with fail;refine hR.out _ _ ?_;clear hR R;refine IH.out (cs.length - (i+1)) _ _ (by omega) ⟨i+1,_,_,_,_,_,_,_,_,_,_,_,_,_,_,_,_,_,_,_,_,_,_,_,_,_,_,_,_,_,_,_,_,_,_,_,_,_,_,_,_,_,_,_,_,_,_,rfl,rfl,by omega,⟨FB.blk.aA c6 (FB.blk.dV FB.refs),FB.ah.aA c6 ru n1,?_⟩,hPa.aA c6 ru (hPa.blk.dV FB.refs) (Ne.symm n3),c5⟩;rw [uI,List.foldl_append];show SM w4 mr (mapM av (if c.new=di then _ else _));rw [if_neg U.out,<-Ls,<-NK.out];exact NL
 ·intro k x w1 pX MF yn iP uJ aI zD hen;obtain ⟨hS,hP,ay,hn,ho,hr,yP,hid,n1,n2,n3,ky,hlen⟩:=X.out;have h:=hI.out;have c1:aj (·=w.heap.size) W w1:=(aj.refl (·=w.heap.size) W).grown zD (λk h=>.inl (by cases h;rfl));have ru:Rx.Safe W (·=w.heap.size):=λk cur T fz hk hb=>by
   subst hk;obtain ⟨es,clock,since,seen,c0,kz,F,hs,hD,jf,rest⟩:=h.rg;rw [jf] at hb;cases hb
  have l0:=World.ranges.lt h.rg;have D8:=h.jC.aA c1 ru (Nat.ne_of_lt hS.blk.lt) (Nat.ne_of_lt hS.ah.lt) (Nat.ne_of_lt hS.refs.lt);have ZQ:=h.psh.aA c1 ru (Nat.ne_of_lt hP.blk.lt) (Nat.ne_of_lt hP.waits.lt);have cw1:aj (tF mo mr) w w1:=h.aA.trans' c1 (λi hi e=>absurd hi (by omega));have k4:w1.cell? ⟨st,4,none⟩=some (.map (some mo)):=D8.blk.at rfl;obtain ⟨ov,Px,JY⟩:=D8.ah;have GV:ov.length<maxLen:=by have e1:=JY.length;have e2:=h.len;have e3:=h.Bl;simp only at e1;unfold maxLen;omega
  obtain ⟨t,hpt,vX⟩:∃t,M.get p k=some t/\Ob w t x:=by
   rcases ky.get k with ⟨e1,_⟩|⟨x',y,e1,e2,r⟩
   ·rw [iP] at e1;cases e1
   ·rw [iP] at e1;obtain rfl:=Option.some.inj e1;exact ⟨y,e2,r⟩
  have Y:=z38 (y38 h (y38 D8 (y38 ZQ (y38 cw1 (y38 JY (y38 hpt (y38 vX (y38 yn (y38 iP (y38 uJ (y38 aI zD)))))))))));clear hS hP ay hn ho hr yP hid n1 n2 n3 ky hlen h c1 ru l0 D8 ZQ cw1 JY hpt vX yn iP uJ aI zD BH;go_wp2_with fail;refine hR.out _ _ ?_;clear hR R;refine LV.seq (LV.cond (t:=true) rfl (LV.skip (LV.block (LV.seq (LV.reg rfl λR hR=>?_)))));replace hR:=z38 hR;go_wp2_with fail;refine hR.out _ _ ?_;clear hR R;refine LV.reg rfl λR hR=>?_;replace hR:=z38 hR;go_wp2_with (at_mapUpdate;refine Mp.store rfl _ _ _ 55 rfl 106 ((Tq.underlying 55).trans Tryz.underlying55) mo ov rfl Px GV ⟨k.toArray⟩ x rfl rfl MF ?_;intro w4 NL VJ);refine hR.out _ _ ?_;clear hR R;obtain ⟨h,D8,ZQ,cw1,JY,hpt,vX,yn,iP,uJ,aI,zD⟩:=Y.out;obtain ⟨hS,hP,ay,hn,ho,hr,yP,hid,n1,n2,n3,ky,hlen⟩:=X.out;have c4:aj (·=mo) w1 w4:=dY VJ;have ru:Rx.Safe w1 (·=mo):=λk cur T fz hk hb=>absurd hb (by subst hk;exact D8.ah.eQ _ _ _);have hmo:=hS.ah.lt;have aO2:Ob w4 t x:=Ob.aA vX (cw1.trans (c4.mono (λ_ _ e=>.inl e))) (Iu hS);refine LV.inBlock (IH.out pX _ _ aI ⟨_,pX,yL++[k],M.put O k t,_,_,_,_,_,_,_,_,_,_,_,_,_,_,_,_,_,_,_,_,_,_,_,_,_,_,_,_,_,_,_,_,_,_,_,_,_,_,_,_,_,_,_,_,_,_,_,_,rfl,rfl,SR.aA uJ c4 (Ne.symm n2) (Ne.symm (Nat.ne_of_lt hmo)),h.col.step yn iP,⟨D8.blk.aA c4 (D8.blk.dV Px),⟨_,NL,(JY.mono λk x y _ hr=>Ob.aA hr c4 ru).put k aO2⟩,D8.refs.block (c4.block mr D8.refs.lt (Ne.symm n1))⟩,ZQ.aA c4 ru (ZQ.blk.dV Px) (Ne.symm n2),λy=>?_,?_,?_,cw1.trans (c4.mono (λ_ _ e=>.inl e))⟩)
  ·rw [M.get_put,h.get];by_cases hy:y=k
   ·subst hy;rw [if_pos rfl,if_pos (by simp),hpt]
   ·rw [if_neg hy];simp [hy]
  ·have:=h.Bl;simp;omega
  ·have:=M.gU O k t;have:=h.len;simp;omega
end De
section
open Go.Maps
namespace Lv
theorem LV.deferred {P:Program} {Goal:Machine->Prop} {w:World} {cs:List Frame} {fr:Frame} {d:Deferred} {ds:List Deferred} {fv:Fn} {cap:Array Value} {f:FuncId} {args:Array Value} {R:World->Prop} (hm:fr.mode=.returning) (hd:fr.defers=d::ds) (ht:d.target=.fn fv cap)
 (hi:(invoke d.target d.args).run P w=.ok (.enter f args) w) (hc:CallsD P f args .returning w λe u' w'=>u'=.returning/\(∃v,e=.returned v)/\R w') (n:∀w',R w'->LV P Goal w' {fr with defers:=ds} cs):LV P Goal w fr cs:=by
 refine LV.step (step_defer (by rw [hm];simp) hd ht hi) ?_;obtain ⟨e,u',w',fr',⟨rfl,⟨v,rfl⟩,hR⟩,BI,hk,hg⟩:=hc {fr with defers:=ds} cs hm;refine LV.steps BI (LV.step (step_going_returned hk hg) ?_);have h:=n w' hR;have e:({({({fr with defers:=ds}:Frame) with mode:=.returning}:Frame) with mode:=settle .returning}:Frame)={fr with defers:=ds}:=by
  rw [<-hm];have:settle fr.mode=fr.mode:=by rw [hm];rfl
  rw [this]
 rw [e];exact h
theorem LV.cut {P:Program} {Goal:Machine->Prop} {w:World} {cs:List Frame} {b:Frame} {a:Act} {k:List Item} {c:Code} (M:World->Act->Prop) (h:(∀w a,M w a->LV P Goal w (b.atR a k) cs)->LV P Goal w (b.atR a (.code c::k)) cs) (n:∀w a,M w a->LV P Goal w (b.atR a k) cs):LV P Goal w (b.atR a (.code c::k)) cs:=h n
end Lv
namespace De
open Tx Sp Wg Rd Bk Wi Se Rx Mp Lv Qu
def fx (a:Act) (k:Nat):Value:=a.tmps.getD k undef
structure DW (w:World) (st mo mr:Nat) (S:St) (W:World):Prop where
 blk:aM W st #[.int .i32 1,.int .u32 0,.bool S.forward,.int .i64 S.room,.map (some mo),.map (some mr)] 65 (0,0)
 aA:aj (·=st) w W
section
variable {w W W':World} {st mo mr pb mw:Nat} {S:St} {cv:Value} {p:M B} {cl:Bool} {μ:Int}
theorem IB (hS:qZ w st mo mr μ S):Rx.Safe w (·=st):=λk cur T fz hk hb=>by
 subst hk;have:=hS.blk;unfold aM at this;rw [this] at hb;injection hb with hb;injection hb with _ hb _;subst hb;decide
theorem DW.jC (h:DW w st mo mr S W) (hS:qZ w st mo mr μ S):qZ W st mo mr 1 S:=
 ⟨h.blk,hS.ah.aA h.aA (IB hS) (λe=>hS.ah.eQ _ _ _ (show w.heap[mo]? =_ by rw [e];exact hS.blk)),hS.refs.block (h.aA.block mr hS.refs.lt (λe=>hS.blk.dV hS.refs e.symm))⟩
theorem DW.psh (h:DW w st mo mr S W) (hS:qZ w st mo mr μ S) (hP:kK w pb mw cv p cl):kK W pb mw cv p cl:=
 hP.aA h.aA (IB hS) (λe=>hP.blk.ne hS.blk (by decide) e) (λe=>hP.waits.eQ _ _ _ (show w.heap[mw]? =_ by rw [e];exact hS.blk))
theorem DW.next {T:Nat->Prop} (h:DW w st mo mr S W) (hS:qZ w st mo mr μ S) (hc:aj T W W') (hT:∀k,T k->w.heap.size<=k):DW w st mo mr S W':=
 ⟨h.blk.aA hc (λe=>by have:=hT _ e;have:=hS.blk.lt;omega),h.aA.trans' hc (λi hi e=>by have:=hT _ e;omega)⟩
end
def rC (one:B) (all:Bool) (w0:B):B:=if one≠[] then one else if w0=jK&&!all then rD else w0
def mP (c:nN) (w:B):B:=if w=jK then jK++[32]++c.ref++nl else [110,103,32]++c.ref++[32]++w++nl
theorem xP (one:B) (all:Bool) (c:nN) (w0:B):∀l:List (nN×B),dP one all (l++[(c,w0)])=dP one all l++mP c (rC one all w0)
 |[]=>by
  show mP c (rC one all w0)++[]=[]++_;simp
 |(c',w')::l=>by
  show mP c' (rC one all w')++dP one all (l++[(c,w0)])=(mP c' (rC one all w')++dP one all l)++_;rw [xP one all c w0 l,List.append_assoc]
theorem qp {c:Prop} [Decidable c] {x y:B} (hx:x.length<=10) (hy:y.length<=10):(if c then x else y).length<=10:=by
 split
 ·exact hx
 ·exact hy
theorem Sm (S:St) (p:M B) (id:B):(whole S p id).length<=10:=by unfold whole;exact qp (by decide) (qp (by decide) (by decide))
theorem J8 (S:St) (p:M B) (c:nN):(Sp.word S p c).length<=10:=by unfold Sp.word;exact qp (by decide) (qp (by decide) (qp (Sm S p c.new) (qp (by decide) (qp (by decide) (by decide)))))
theorem Us (S:St) (p:M B) (cl all:Bool):(oneOf S p cl all).length<=10:=by
 unfold oneOf;split
 ·decide
 ·split<;>decide
theorem Ke {one w0:B} {all:Bool} (h1:one.length<=10) (h2:w0.length<=10):(rC one all w0).length<=10:=by
 unfold rC;split
 ·exact h1
 ·split
  ·decide
  ·exact h2
theorem Ub {c:nN} {w:B} (h1:c.ref.length<=1000) (h2:w.length<=10):(mP c w).length<=1020:=by
 unfold mP;split
 ·simp [jK,nl];omega
 ·simp [nl];omega
theorem Ae {one:B} {all:Bool} (h1:one.length<=10):∀l:List (nN×B),(∀x∈l,x.1.ref.length<=1000/\x.2.length<=10)->(dP one all l).length<=1020*l.length
 |[],_=>by simp [dP]
 |(c,w)::l,h=>by
  have h2:=Ae (all:=all) h1 l (λx hx=>h x (List.mem_cons_of_mem _ hx));have h3:=h (c,w) (by simp);have h4:(mP c (rC one all w)).length<=1020:=Ub h3.1 (Ke (all:=all) h1 h3.2);show (mP c (rC one all w)++dP one all l).length<=_;rw [List.length_append,List.length_cons];omega
structure FI (w:World) (st mo mr mw nr:Nat) (S:St) (mv:M Value) (v5:Value) (wl:List B) (n:Nat) (left:B->Bool) (cnt:Nat) (yL:List B) (f:Nat) (W:World):Prop where
 rg:SR W mw nr mv left cnt
 col:Nv mv left yL
 dw:DW w st mo mr S W
 row:W.ownsRow w.heap.size 9 1 v5 n (wl.map encStr)
 num:f=(yL.filter λk=>(S.ah.get k).isNone).length
 Bl:yL.length+cnt<=mv.length
theorem PZ (w:World) (st mo mr pb mw:Nat) (S:St) (p:M B) (cl:Bool) (qc:Option Addr) (nc cc B1:Nat) (cs:List nN) (hS:qZ w st mo mr 0 S) (hP:kK w pb mw (.slice qc nc cc) p cl) (ay:w.ownsRow B1 142 3 (.slice qc nc cc) cs.length (kY cs))
 (hn:p.length<=1000) (ho:S.ah.length<=1000000) (hr:S.refs.length<=1000000) (yP:cs.length<=1000) (hid:∀c∈cs,c.ref.length<=1000/\c.new.length<=1000) (hk:∀x∈p,x.1.length<=maxLen) (h1:mo≠mr) (h2:mo≠mw) (h3:mr≠mw) (fT:AP S p):
 Calls Tq.prog 125 #[aG st,aG pb] w λe w'=>e=.returned (av (Sp.aW S cs p cl).1)/\qZ w' st mo mr 0 (Sp.aW S cs p cl).2/\aj (λk=>k=st\/tF mo mr k) w w':=by
 refine nA λks=>?_;have hnc:nc=cs.length/\∀(i:Nat) (c:nN),cs[i]? =some c->∃g,qc=some ⟨g,0,none⟩/\¬tF mo mr g/\g≠st/\w.cell? ⟨g,i*3,none⟩=some (.string ⟨c.old.toArray⟩)/\w.cell? ⟨g,i*3+1,none⟩=some (.string ⟨c.new.toArray⟩)/\w.cell? ⟨g,i*3+2,none⟩=some (.string ⟨c.ref.toArray⟩):=by
  refine ⟨?_,λi c hc=>?_⟩
  ·rcases ay.2 with ⟨e,h0⟩|⟨g,fM,cur,e,_⟩
   ·injection e with _ e2 _;rw [e2,h0]
   ·injection e
  ·obtain ⟨-,g,e1,⟨xs,e2⟩,e3⟩:=Hl ay hc;refine ⟨g,e1,?_,λe=>?_,e3⟩
   ·rintro (rfl|rfl)
    ·exact hS.ah.eQ _ _ _ e2
    ·obtain ⟨es,clock,e,_⟩:=hS.refs;rw [e] at e2;cases e2
   ·subst e;have:=hS.blk;unfold aM at this;rw [this] at e2;injection e2 with e2;injection e2 with _ e2 _;cases e2
 obtain ⟨rfl,dK⟩:=hnc;obtain ⟨i0,hi,uw,wQ,wP⟩:=Go.info_parts Tryz.pI;have k0:w.cell? ⟨st,0,none⟩=some (.int .i32 0):=hS.blk.at rfl;have L:=z38 (Bk.iR st 0 w k0 (hS.blk.frozen (.inr (Nat.zero_le _))));have qW:DW w st mo mr S (w.setCell ⟨st,0,none⟩ (.int .i32 1)):=⟨aM.set hS.blk 0 _,aj.setCell (S:=(·=st)) (aj.refl _ w) (p:=⟨st,0,none⟩) (.inl rfl) _⟩
 have X:=z38 (y38 hS (y38 hP (y38 dK (y38 hn (y38 ho (y38 hr (y38 yP (y38 hid (y38 hk (y38 h1 (y38 h2 (y38 h3 (y38 fT ay)))))))))))));clear hS hP dK hn ho hr yP hid hk h1 h2 h3 fT k0 ay;unfold aG;refine LV.enter Tq.func125 rfl ?_;simp only [Tryz.ntmps125,List.size_toArray,List.length_cons,List.length_nil,Nat.reduceAdd,Nat.reduceSub,Array.replicate_succ,Array.replicate_zero,List.push_toArray,List.append_toArray,List.nil_append,List.cons_append];refine LV.seq (LV.reg rfl λR hR=>?_);replace hR:=z38 hR;go_wp2_with fail;refine hR.out _ _ ?_;clear hR R;refine LV.seq (LV.reg rfl λR hR=>?_);replace hR:=z38 hR;go_wp2_with fail;refine L.out.mono ?_;rintro e w1 ⟨rfl,rfl⟩;go_wp2_with fail;refine hR.out _ _ ?_;clear hR R;generalize w.setCell ⟨st,0,none⟩ (.int .i32 1)=w1 at qW;clear L;refine LV.seq (LV.tq rfl λR hR=>?_);replace hR:=z38 hR;go_wp2_with fail;refine hR.out _ _ ?_;clear hR R;obtain ⟨ds,hds⟩:∃ds:List Deferred,ds=[{target:=.fn (.func 39) #[],args:=#[.pointer (some ⟨st,0,none⟩)]}]:=⟨_,rfl⟩
 rw [<-hds];replace hds:=z38 hds;refine LV.seq (LV.reg rfl λR hR=>?_);replace hR:=z38 hR;go_wp2_with fail;refine hR.out _ _ ?_;clear hR R;refine LV.seq (LV.reg rfl λR hR=>?_);replace hR:=z38 hR;go_wp2_with fail;refine hR.out _ _ ?_;clear hR R;have k27:w1.cell? ⟨pb,0,none⟩=some (.slice qc cs.length cc):=(qW.psh X.out.1 X.out.2.1).blk.at rfl;refine LV.seq (LV.seq (LV.reg rfl λR hR=>?_));replace hR:=z38 hR;go_wp2_with fail;refine hR.out _ _ ?_;clear hR R;clear k27;refine LV.block ?_;obtain ⟨wl,Mk⟩:∃wl,wl=cs.map (word S p):=⟨_,rfl⟩
 replace Mk:=z38 Mk;have H0:DW w st mo mr S w1/\w1.ownsRow w.heap.size 9 1 (.slice none 0 0) 0 ((wl.map encStr).take 0):=⟨qW,World.ownsRow_nil _ _ _ _⟩
 refine LV.while (m:=cs.length) (λm W a=>∃(i:Nat) (v5:Value) (b6:Bool),a={tmps:=#[.pointer (some ⟨st,0,none⟩),.pointer (some ⟨pb,0,none⟩),fx a 2,fx a 3,fx a 4,v5,.bool b6,fx a 7,fx a 8,fx a 9,fx a 10,fx a 11,fx a 12,fx a 13,fx a 14,fx a 15,fx a 16,fx a 17,fx a 18,fx a 19,fx a 20,fx a 21,fx a 22,fx a 23,fx a 24,fx a 25,fx a 26,.slice qc cs.length cc,.int .i64 (cs.length:Nat),.int .i64 (i:Nat),fx a 30,fx a 31,fx a 32,fx a 33,fx a 34,fx a 35,fx a 36,fx a 37,fx a 38,fx a 39,fx a 40,fx a 41,fx a 42,fx a 43,fx a 44,fx a 45,fx a 46,fx a 47,fx a 48,fx a 49,fx a 50,fx a 51,fx a 52,fx a 53,fx a 54,fx a 55,fx a 56,fx a 57,fx a 58,fx a 59,fx a 60,fx a 61,fx a 62,fx a 63,fx a 64,fx a 65,fx a 66,fx a 67,fx a 68,fx a 69,fx a 70,fx a 71,fx a 72,fx a 73,fx a 74,fx a 75,fx a 76,fx a 77,fx a 78,fx a 79,fx a 80,fx a 81,fx a 82,fx a 83,fx a 84,fx a 85,fx a 86,fx a 87,fx a 88,fx a 89,fx a 90,fx a 91,fx a 92,fx a 93,fx a 94,fx a 95,fx a 96,fx a 97,fx a 98,fx a 99,fx a 100,fx a 101,fx a 102,fx a 103,fx a 104,fx a 105,fx a 106,fx a 107,fx a 108,fx a 109,fx a 110,fx a 111,fx a 112,fx a 113,fx a 114,fx a 115,fx a 116,fx a 117,fx a 118,fx a 119,fx a 120,fx a 121,fx a 122,fx a 123,fx a 124,fx a 125,fx a 126,fx a 127,fx a 128,fx a 129,fx a 130,fx a 131,fx a 132,fx a 133,fx a 134],defers:=ds}/\m=cs.length - i/\i<=cs.length/\b6=((wl.take i).all (·==jK))/\DW w st mo mr S W/\W.ownsRow w.heap.size 9 1 v5 i ((wl.map encStr).take i)) ⟨0,_,true,rfl,rfl,Nat.zero_le _,rfl,H0⟩ ?_;clear H0 qW;rintro m W a ⟨i,v5,b6,ha,rfl,hle,hb6,qW,bU⟩ IH;obtain ⟨x,hx⟩:∃x,x=fx a:=⟨_,rfl⟩
 rw [<-hx] at ha;clear hx;subst ha;replace IH:=z38 IH;dsimp only;by_cases aI:i<cs.length
 case neg=>
  have Bf:i=cs.length:=by omega
  subst Bf;have Fh:wl.length=cs.length:=by rw [Mk.out,List.length_map]
  rw [<-Fh,<-List.length_map (f:=encStr),List.take_length,List.length_map,Fh] at bU;rw [<-Fh,List.take_length] at hb6;have qw:((cs.length:Int)<(cs.length:Int))=False:=eq_false (by omega);obtain ⟨mv,ry,ky⟩:=X.out.2.1.waits;have hpw:=qW.psh X.out.1 X.out.2.1;have kp:W.cell? ⟨pb,1,none⟩=some (.map (some mw)):=hpw.blk.at rfl;have aKB:SM W mw mv:=ry.block (qW.aA.block mw ry.lt (λe=>X.out.2.1.waits.eQ _ _ _ (show w.heap[mw]? =_ by rw [e];exact X.out.1.blk)));have UQ:=OM.up X.out.2.1.waits;have sG:=ry.rising;have aD4:=ky.length;have Zh:=ky.keys;have Y:=z38 (y38 qW (y38 bU (y38 hb6 (y38 sG (y38 Zh (y38 aD4 ky))))));clear qW bU hb6 aI hle hpw UQ sG aD4 Zh ky ry Fh IH;refine LV.seq (LV.reg rfl λR hR=>?_);replace hR:=z38 hR;go_wp2_with fail;refine hR.out _ _ ?_;clear hR R;refine LV.seq (LV.cond (t:=false) rfl (LV.exit rfl ?_));refine LV.seq (LV.reg rfl λR hR=>?_);replace hR:=z38 hR;go_wp2_with fail;refine hR.out _ _ ?_;clear hR R;refine LV.seq (LV.seq (LV.reg rfl λR hR=>?_));replace hR:=z38 hR;go_wp2_with (at_range;refine Mp.range rfl _ 55 rfl 106 ((Tq.underlying 55).trans Tryz.underlying55) mw mv rfl aKB ?_;intro w0 Bd MJ hs0);refine hR.out _ _ ?_;clear hR R kp;obtain ⟨nr,VN⟩:∃nr,nr=W.heap.size:=⟨_,rfl⟩
  rw [<-VN] at Bd ⊢;have aJV:w.heap.size<=W.heap.size:=Y.out.1.aA.size;have H0:FI w st mo mr mw nr S mv v5 wl cs.length (λk=>(mv.get k).isSome) mv.length [] 0 w0:=by have c0:aj (λ_=>False) W w0:=(aj.refl _ W).grown MJ (λk h=>by cases h);exact ⟨Bd,Nv.start mv,Y.out.1.next X.out.1 c0 (λ_ e=>e.elim),c0.ownsRow Y.out.2.1 (λ_ _ e=>e.elim),rfl,by simp⟩
  have aCA:w.heap.size<=nr:=by rw [VN];exact aJV
  have aCB:∀k,v5.ownBlock=some k->k≠nr:=λk hk e=>by have:=(Y.out.2.1.lt k hk).2;omega
  clear Bd MJ hs0 VN aJV aKB;replace aCB:=z38 aCB;replace aCA:=z38 aCA;refine LV.block ?_;refine LV.while (m:=mv.length) (λm W a=>∃(left:B->Bool) (cnt:Nat) (yL:List B) (f:Nat),a={tmps:=#[.pointer (some ⟨st,0,none⟩),.pointer (some ⟨pb,0,none⟩),fx a 2,fx a 3,fx a 4,v5,.bool b6,fx a 7,fx a 8,fx a 9,.int .i64 (f:Nat),fx a 11,fx a 12,fx a 13,fx a 14,fx a 15,fx a 16,fx a 17,fx a 18,fx a 19,fx a 20,fx a 21,fx a 22,fx a 23,fx a 24,fx a 25,fx a 26,fx a 27,fx a 28,fx a 29,fx a 30,fx a 31,fx a 32,fx a 33,fx a 34,fx a 35,fx a 36,fx a 37,fx a 38,fx a 39,fx a 40,fx a 41,fx a 42,fx a 43,fx a 44,fx a 45,fx a 46,fx a 47,fx a 48,fx a 49,fx a 50,.pointer (some ⟨nr,0,none⟩),fx a 52,fx a 53,fx a 54,fx a 55,fx a 56,fx a 57,fx a 58,fx a 59,fx a 60,fx a 61,fx a 62,fx a 63,fx a 64,fx a 65,fx a 66,fx a 67,fx a 68,fx a 69,fx a 70,fx a 71,fx a 72,fx a 73,fx a 74,fx a 75,fx a 76,fx a 77,fx a 78,fx a 79,fx a 80,fx a 81,fx a 82,fx a 83,fx a 84,fx a 85,fx a 86,fx a 87,fx a 88,fx a 89,fx a 90,fx a 91,fx a 92,fx a 93,fx a 94,fx a 95,fx a 96,fx a 97,fx a 98,fx a 99,fx a 100,fx a 101,fx a 102,fx a 103,fx a 104,fx a 105,fx a 106,fx a 107,fx a 108,fx a 109,fx a 110,fx a 111,fx a 112,fx a 113,fx a 114,fx a 115,fx a 116,fx a 117,fx a 118,fx a 119,fx a 120,fx a 121,fx a 122,fx a 123,fx a 124,fx a 125,fx a 126,fx a 127,fx a 128,fx a 129,fx a 130,fx a 131,fx a 132,fx a 133,fx a 134],defers:=ds}/\m=cnt/\FI w st mo mr mw nr S mv v5 wl cs.length left cnt yL f W) ⟨_,_,_,0,rfl,rfl,H0⟩ ?_;clear H0;rintro m W2 a ⟨left,cnt,yL,f,ha,rfl,hI⟩ IH;obtain ⟨y,hy⟩:∃y,y=fx a:=⟨_,rfl⟩
  rw [<-hy] at ha;clear hy;subst ha;replace IH:=z38 IH;dsimp only;have BH:=hI.rg;replace hI:=z38 hI;refine LV.seq (LV.reg rfl λR hR=>?_);replace hR:=z38 hR;go_wp2_with (at_next;refine Mp.next rfl _ rfl mw nr mv left m rfl BH ?_ ?_)
  ·intro yt PD;have H:=z38 (y38 yt PD);clear BH yt PD;go_wp2_with fail;refine hR.out _ _ ?_;clear hR R;refine LV.seq (LV.cond (t:=false) rfl (LV.exit rfl ?_));have hf:f=Sp.fresh S p:=by
    have h:=hI.out;have hp:=h.col.perm Y.out.2.2.2.1 H.out.2;rw [Y.out.2.2.2.2.1] at hp;rw [h.num];have h2:=(hp.filter λk=>(S.ah.get k).isNone).length_eq;rw [h2];unfold Sp.fresh;rw [List.filter_map,List.length_map];rfl
   have qW:=hI.out.dw;have bU:=hI.out.row;replace Y:=z38 (y38 qW (y38 bU (y38 Y.out.2.2.1 hf)));clear hf qW bU hI H IH aCB aCA;have hS2:=Y.out.1.jC X.out.1;have Jq:=Y.out.1.psh X.out.1 X.out.2.1;obtain ⟨ov,Px,JY⟩:=hS2.ah;have hol:=JY.length;have k4:W2.cell? ⟨st,4,none⟩=some (.map (some mo)):=hS2.blk.at rfl;have k3:W2.cell? ⟨st,3,none⟩=some (.int .i64 S.room):=hS2.blk.at rfl;have hlen:∀d ty,(Builtin.len_ #[55] ty #[.map (some mo)]).run Tq.prog (W2.drewN d)=.ok (.int .i64 (S.ah.length:Nat)) (W2.drewN d):=λd ty=>by
    rw [World.ownsMap.len (w:=W2.drewN d) (Mp.SM.block (w':=W2.drewN d) Px rfl) ((Tq.underlying 55).trans Tryz.underlying55) ty,CY,hol]
   have hf1:f<=1000:=by rw [Y.out.2.2.2];exact Nat.le_trans (List.length_filter_le ..) X.out.2.2.2.1
   have Px:=X.out.2.2.2.2.1;have Cl:=z38 (λd=>Ni (W2.drewN d) st mo mr pb mw 1 S (.slice qc cs.length cc) p cl ⟨hS2.blk,by obtain ⟨a,b,c⟩:=hS2.ah;exact ⟨a,Mp.SM.block b rfl,c⟩,Mp.SM.block hS2.refs rfl⟩ ⟨Jq.blk,by obtain ⟨a,b,c⟩:=Jq.waits;exact ⟨a,Mp.SM.block b rfl,c⟩⟩ X.out.2.2.2.1 X.out.2.2.2.2.2.2.2.2.1);obtain ⟨ol,Y8⟩:∃ol,ol=S.ah.length:=⟨_,rfl⟩
   rw [<-Y8] at hlen Px;obtain ⟨rm,NK⟩:∃rm,rm=S.room:=⟨_,rfl⟩
   rw [<-NK] at k3;replace Y8:=z38 Y8;replace NK:=z38 NK;clear hS2 Jq JY hol;refine LV.seq (LV.reg rfl λR hR=>?_);replace hR:=z38 hR;go_wp2_with fail;refine hR.out _ _ ?_;clear hR R;obtain ⟨o1,Fu⟩:∃o1:B,o1=if b6&&decide (rm<ol+f) then Qy else []:=⟨_,rfl⟩
   refine LV.seq (LV.cut (M:=λW a=>(∃d,W=W2.drewN d)/\a={tmps:=#[.pointer (some ⟨st,0,none⟩),.pointer (some ⟨pb,0,none⟩),fx a 2,fx a 3,fx a 4,v5,.bool b6,fx a 7,fx a 8,fx a 9,.int .i64 (f:Nat),fx a 11,.string ⟨o1.toArray⟩,fx a 13,fx a 14,fx a 15,fx a 16,fx a 17,fx a 18,fx a 19,fx a 20,fx a 21,fx a 22,fx a 23,fx a 24,fx a 25,fx a 26,fx a 27,fx a 28,fx a 29,fx a 30,fx a 31,fx a 32,fx a 33,fx a 34,fx a 35,fx a 36,fx a 37,fx a 38,fx a 39,fx a 40,fx a 41,fx a 42,fx a 43,fx a 44,fx a 45,fx a 46,fx a 47,fx a 48,fx a 49,fx a 50,fx a 51,fx a 52,fx a 53,fx a 54,fx a 55,fx a 56,fx a 57,fx a 58,fx a 59,fx a 60,fx a 61,fx a 62,fx a 63,fx a 64,fx a 65,fx a 66,fx a 67,fx a 68,fx a 69,fx a 70,fx a 71,fx a 72,fx a 73,fx a 74,fx a 75,fx a 76,fx a 77,fx a 78,fx a 79,fx a 80,fx a 81,fx a 82,fx a 83,fx a 84,fx a 85,fx a 86,fx a 87,fx a 88,fx a 89,fx a 90,fx a 91,fx a 92,fx a 93,fx a 94,fx a 95,fx a 96,fx a 97,fx a 98,fx a 99,fx a 100,fx a 101,fx a 102,fx a 103,fx a 104,fx a 105,fx a 106,fx a 107,fx a 108,fx a 109,fx a 110,fx a 111,fx a 112,fx a 113,fx a 114,fx a 115,fx a 116,fx a 117,fx a 118,fx a 119,fx a 120,fx a 121,fx a 122,fx a 123,fx a 124,fx a 125,fx a 126,fx a 127,fx a 128,fx a 129,fx a 130,fx a 131,fx a 132,fx a 133,fx a 134],defers:=ds}) ?_ ?_)
   ·intro cont;cases b6 with
    |false=>
     refine LV.seq (LV.tq rfl λR hR=>?_);replace hR:=z38 hR;have hoe:o1=[]:=by rw [Fu];rfl
     have E:=z38 hoe;clear Fu hoe;go_quiet (fail)
     refine hR.out _ _ (LV.cond (t:=false) rfl (LV.skip (cont _ _ ⟨⟨nq,rfl⟩,?_⟩)));rw [E.out];rfl
    |true=>
     by_cases hro:rm<ol+f
     ·have hri:((rm:Int)<(ol:Int)+(f:Int)):=by omega
      have hoe:o1=Qy:=by rw [Fu];simp [hro]
      have E:=z38 hoe;clear Fu hoe hro;refine LV.seq (LV.tq rfl λR hR=>?_);replace hR:=z38 hR;go_quiet (fail)
      refine hR.out _ _ ?_;clear hR R;refine LV.cond (t:=true) rfl (LV.reg rfl λR hR=>?_);replace hR:=z38 hR;go_wp2_with fail;refine hR.out _ _ ?_;clear hR R;refine cont _ _ ⟨⟨nq,rfl⟩,?_⟩;rw [E.out];rfl
     ·have hri:¬((rm:Int)<(ol:Int)+(f:Int)):=by omega
      have hoe:o1=[]:=by rw [Fu];simp [hro]
      have E:=z38 hoe;clear Fu hoe hro;refine LV.seq (LV.tq rfl λR hR=>?_);replace hR:=z38 hR;go_quiet (fail)
      refine hR.out _ _ (LV.cond (t:=false) rfl (LV.skip (cont _ _ ⟨⟨nq,rfl⟩,?_⟩)));rw [E.out];rfl
   rintro W3 a ⟨⟨d,rfl⟩,ha⟩;obtain ⟨z,hz⟩:∃z,z=fx a:=⟨_,rfl⟩
   rw [<-hz] at ha;clear hz;subst ha;dsimp only;clear hlen k4 k3;replace Cl:=Cl.out d;have U6:DW w st mo mr S (W2.drewN d):=Y.out.1.next X.out.1 ((aj.refl (λ_=>False) W2).drewN d) (λ_ e=>e.elim);have GU:(W2.drewN d).ownsRow w.heap.size 9 1 v5 cs.length (wl.map encStr):=((aj.refl (λ_=>False) W2).drewN d).ownsRow Y.out.2.1 (λ_ _ e=>e.elim);replace Y:=z38 (y38 U6 (y38 GU Y.out.2.2));clear U6 GU;generalize W2.drewN d=W3 at *;unfold aG at Cl;replace Cl:=z38 Cl;replace Fu:=z38 Fu;obtain ⟨o2,Mx⟩:∃o2:B,o2=if Sp.kP S p cl then NU else o1:=⟨_,rfl⟩
   refine LV.seq (LV.cut (M:=λW a=>(DW w st mo mr S W/\W.ownsRow w.heap.size 9 1 v5 cs.length (wl.map encStr))/\a={tmps:=#[.pointer (some ⟨st,0,none⟩),.pointer (some ⟨pb,0,none⟩),fx a 2,fx a 3,fx a 4,v5,.bool b6,fx a 7,fx a 8,fx a 9,fx a 10,fx a 11,.string ⟨o2.toArray⟩,fx a 13,fx a 14,fx a 15,fx a 16,fx a 17,fx a 18,fx a 19,fx a 20,fx a 21,fx a 22,fx a 23,fx a 24,fx a 25,fx a 26,fx a 27,fx a 28,fx a 29,fx a 30,fx a 31,fx a 32,fx a 33,fx a 34,fx a 35,fx a 36,fx a 37,fx a 38,fx a 39,fx a 40,fx a 41,fx a 42,fx a 43,fx a 44,fx a 45,fx a 46,fx a 47,fx a 48,fx a 49,fx a 50,fx a 51,fx a 52,fx a 53,fx a 54,fx a 55,fx a 56,fx a 57,fx a 58,fx a 59,fx a 60,fx a 61,fx a 62,fx a 63,fx a 64,fx a 65,fx a 66,fx a 67,fx a 68,fx a 69,fx a 70,fx a 71,fx a 72,fx a 73,fx a 74,fx a 75,fx a 76,fx a 77,fx a 78,fx a 79,fx a 80,fx a 81,fx a 82,fx a 83,fx a 84,fx a 85,fx a 86,fx a 87,fx a 88,fx a 89,fx a 90,fx a 91,fx a 92,fx a 93,fx a 94,fx a 95,fx a 96,fx a 97,fx a 98,fx a 99,fx a 100,fx a 101,fx a 102,fx a 103,fx a 104,fx a 105,fx a 106,fx a 107,fx a 108,fx a 109,fx a 110,fx a 111,fx a 112,fx a 113,fx a 114,fx a 115,fx a 116,fx a 117,fx a 118,fx a 119,fx a 120,fx a 121,fx a 122,fx a 123,fx a 124,fx a 125,fx a 126,fx a 127,fx a 128,fx a 129,fx a 130,fx a 131,fx a 132,fx a 133,fx a 134],defers:=ds}) ?_ ?_)
   ·intro cont;refine LV.seq (LV.reg rfl λR hR=>?_);replace hR:=z38 hR;go_wp2_with fail;refine Cl.out.mono ?_;rintro e W4 ⟨rfl,oV⟩;have MN:DW w st mo mr S W4:=Y.out.1.next X.out.1 (aj.nK oV) (λ_ e=>e.elim);have Aq:=(aj.nK oV).ownsRow Y.out.2.1 (λ_ _ e=>e.elim);have Z:=z38 (y38 MN Aq);clear MN Aq oV;cases u7:Sp.kP S p cl with
    |false=>rw [u7] at Mx;have E:=z38 Mx;clear Mx u7;go_wp2_with fail;refine hR.out _ _ ?_;clear hR R;refine LV.cond (t:=false) rfl (LV.skip (cont _ _ ⟨Z.out,?_⟩));rw [E.out];rfl
    |true=>rw [u7] at Mx;have E:=z38 Mx;clear Mx u7;go_wp2_with fail;refine hR.out _ _ ?_;clear hR R;refine LV.cond (t:=true) rfl (LV.reg rfl λR hR=>?_);replace hR:=z38 hR;go_wp2_with fail;refine hR.out _ _ ?_;clear hR R;refine cont _ _ ⟨Z.out,?_⟩;rw [E.out];rfl
   rintro W4 a ⟨⟨MN,Aq⟩,ha⟩;obtain ⟨u,hu⟩:∃u,u=fx a:=⟨_,rfl⟩
   rw [<-hu] at ha;clear hu;subst ha;dsimp only;have Y7:o2=Sp.oneOf S p cl b6:=by rw [Mx,Fu.out,NK.out,Y8.out,Y.out.2.2.2];rfl
   replace Y:=z38 (y38 MN (y38 Aq (y38 Y.out.2.2.1 Y7)));clear MN Aq Mx Fu Y7 Cl NK Y8 hf1 Px W3;obtain ⟨q5,c5,rfl,-⟩:=Lo.fZ Y.out.2.1;have kc:W4.cell? ⟨pb,0,none⟩=some (.slice qc cs.length cc):=(Y.out.1.psh X.out.1 X.out.2.1).blk.at rfl;refine LV.seq (LV.reg rfl λR hR=>?_);replace hR:=z38 hR;go_wp2_with fail;refine hR.out _ _ ?_;clear hR R;refine LV.seq (LV.seq (LV.reg rfl λR hR=>?_));replace hR:=z38 hR;go_wp2_with fail;refine hR.out _ _ ?_;clear hR R;clear kc;refine LV.block ?_;refine LV.while (m:=cs.length) (λm W a=>∃(i:Nat) (rp:B),a={tmps:=#[.pointer (some ⟨st,0,none⟩),.pointer (some ⟨pb,0,none⟩),fx a 2,fx a 3,fx a 4,.slice q5 cs.length c5,.bool b6,fx a 7,fx a 8,fx a 9,fx a 10,fx a 11,.string ⟨o2.toArray⟩,.string ⟨rp.toArray⟩,fx a 14,fx a 15,fx a 16,fx a 17,fx a 18,fx a 19,fx a 20,fx a 21,fx a 22,fx a 23,fx a 24,fx a 25,fx a 26,fx a 27,fx a 28,fx a 29,fx a 30,fx a 31,fx a 32,fx a 33,fx a 34,fx a 35,fx a 36,fx a 37,fx a 38,fx a 39,fx a 40,fx a 41,fx a 42,fx a 43,fx a 44,fx a 45,fx a 46,fx a 47,fx a 48,fx a 49,fx a 50,fx a 51,fx a 52,fx a 53,fx a 54,fx a 55,fx a 56,fx a 57,fx a 58,fx a 59,fx a 60,fx a 61,fx a 62,fx a 63,fx a 64,fx a 65,fx a 66,fx a 67,fx a 68,fx a 69,fx a 70,fx a 71,fx a 72,fx a 73,fx a 74,fx a 75,fx a 76,fx a 77,fx a 78,fx a 79,fx a 80,fx a 81,fx a 82,fx a 83,fx a 84,fx a 85,.slice qc cs.length cc,.int .i64 (cs.length:Nat),.int .i64 (i:Nat),fx a 89,fx a 90,fx a 91,fx a 92,fx a 93,fx a 94,fx a 95,fx a 96,fx a 97,fx a 98,fx a 99,fx a 100,fx a 101,fx a 102,fx a 103,fx a 104,fx a 105,fx a 106,fx a 107,fx a 108,fx a 109,fx a 110,fx a 111,fx a 112,fx a 113,fx a 114,fx a 115,fx a 116,fx a 117,fx a 118,fx a 119,fx a 120,fx a 121,fx a 122,fx a 123,fx a 124,fx a 125,fx a 126,fx a 127,fx a 128,fx a 129,fx a 130,fx a 131,fx a 132,fx a 133,fx a 134],defers:=ds}/\m=cs.length - i/\i<=cs.length/\rp=dB++jK++nl++dP o2 b6 ((cs.zip wl).take i)/\DW w st mo mr S W/\W.ownsRow w.heap.size 9 1 (.slice q5 cs.length c5) cs.length (wl.map encStr)) ⟨0,dB++jK++nl,rfl,rfl,Nat.zero_le _,by simp [dP],Y.out.1,Y.out.2.1⟩ ?_;rintro m W5 a ⟨i,rp,ha,rfl,hle,Jj,qW,bU⟩ IH;obtain ⟨g,hg⟩:∃g,g=fx a:=⟨_,rfl⟩
   rw [<-hg] at ha;clear hg;subst ha;replace IH:=z38 IH;dsimp only;by_cases aI:i<cs.length
   case neg=>
    have Bf:i=cs.length:=by omega
    subst Bf;have Fh:wl.length=cs.length:=by rw [Mk.out,List.length_map]
    have hzl:(cs.zip wl).length=cs.length:=by rw [List.length_zip,Fh,Nat.min_self]
    rw [<-hzl,List.take_length] at Jj;have qw:((cs.length:Int)<(cs.length:Int))=False:=eq_false (by omega);have hd1:(Sp.aW S cs p cl).1=rp:=by rw [Jj,Y.out.2.2.2,Y.out.2.2.1,Mk.out];rfl
    have uL:(Sp.aW S cs p cl).2=if b6&&o2==[] then Sp.take S p cs else S:=by rw [Y.out.2.2.2,Y.out.2.2.1,Mk.out];rfl
    have hS:=X.out.1;have fin:∀(W':World) (S':St) (tm:Array Value) (td:List Item),qZ W' st mo mr 1 S'->aj (λk=>k=st\/tF mo mr k) w W'->S'=(Sp.aW S cs p cl).2->tm.getD 4 undef=.string ⟨rp.toArray⟩->
     LV Tq.prog (Lv.Left Tq.prog 125 ks λe w'=>e=Ending.returned (av (aW S cs p cl).1)/\qZ w' st mo mr 0 (aW S cs p cl).2/\aj (λk=>k=st\/tF mo mr k) w w') W' {(fb 125).atR {tmps:=tm,defers:=ds} td with mode:=.returning} ks:=by
     intro W' S' tm td hs hc he ht;have k0:W'.cell? ⟨st,0,none⟩=some (.int .i32 1):=hs.blk.at rfl;have U:=Bk.fE st 0 .returning W' k0 (hs.blk.frozen (.inr (Nat.zero_le _)));refine LV.deferred (d:={target:=.fn (.func 39) #[],args:=#[.pointer (some ⟨st,0,none⟩)]}) (ds:=[]) (fv:=.func 39) (cap:=#[]) (f:=39) (args:=#[.pointer (some ⟨st,0,none⟩)]) (R:=λw2=>w2=W'.setCell ⟨st,0,none⟩ (.int .i32 0)) rfl (by rw [hds.out];rfl) rfl (by simp [invoke]) (U.mono λe u' w' ⟨h1,h2,h3⟩=>⟨h1,⟨_,h2⟩,h3⟩) ?_;rintro w2 rfl;have c0:aj (·=st) W' (W'.setCell ⟨st,0,none⟩ (.int .i32 0)):=aj.setCell (S:=(·=st)) (aj.refl _ W') (p:=⟨st,0,none⟩) (.inl rfl) _;refine LV.left rfl rfl rfl rfl Tq.func125 (results_tmp rfl _ _ _) ⟨?_,⟨?_,?_,?_⟩,hc.trans (c0.mono (λ_ _ e=>.inl e))⟩
     ·show Ending.returned (tm.getD 4 undef)=_;rw [ht,hd1];rfl
     ·rw [<-he];exact aM.set hs.blk 0 _
     ·rw [<-he];exact hs.ah.aA c0 (IB hs) (λe=>hs.ah.eQ _ _ _ (show W'.heap[mo]? =_ by rw [e];exact hs.blk))
     ·rw [<-he];exact hs.refs.block (c0.block mr hs.refs.lt (λe=>hs.blk.dV hs.refs e.symm))
    have Ri:W5.ownsRow B1 142 3 (.slice qc cs.length cc) cs.length (kY cs):=qW.aA.ownsRow X.out.2.2.2.2.2.2.2.2.2.2.2.2.2 (λk hk e=>by
     subst e;rcases X.out.2.2.2.2.2.2.2.2.2.2.2.2.2.2 with ⟨e,h0⟩|⟨g',fM,cur,e,h1,h2,_⟩
     ·rw [e] at hk;simp [Value.ownBlock] at hk
     ·rw [e] at hk;simp [Value.ownBlock] at hk;subst hk;have:=hS.blk;unfold aM at this;rw [this] at h2;injection h2 with h2;injection h2 with _ h2 _;cases h2)
    have Tk:=z38 (take_one W5 st mo mr pb mw 1 S (.slice qc cs.length cc) p cl qc cs.length cc B1 cs (qW.jC hS) (qW.psh hS X.out.2.1) Ri X.out.2.2.2.1 X.out.2.2.2.2.1 X.out.2.2.2.2.2.1 X.out.2.2.2.2.2.2.1 (λc hc=>by have:=(X.out.2.2.2.2.2.2.2.1 c hc).1;unfold maxLen;omega) X.out.2.2.2.2.2.2.2.2.2.1 X.out.2.2.2.2.2.2.2.2.2.2.1 X.out.2.2.2.2.2.2.2.2.2.2.2.1);have hs5:=qW.jC hS;have sQ:=λtm td h1 h2=>fin W5 S tm td hs5 (qW.aA.mono (λ_ _ e=>.inl e)) h1 h2;have Z:=z38 (y38 qW.aA uL);replace fin:=z38 fin;replace sQ:=z38 sQ;unfold aG at Tk;clear hd1 uL hS Ri hs5 qW bU Jj Fh hzl aI hle IH;refine LV.seq (LV.reg rfl λR hR=>?_);replace hR:=z38 hR;go_wp2_with fail;refine hR.out _ _ ?_;clear hR R;refine LV.seq (LV.cond (t:=false) rfl (LV.exit rfl ?_));refine LV.seq (LV.seq (LV.reg rfl λR hR=>?_));replace hR:=z38 hR;cases b6 with
    |false=>go_wp2_with fail;refine hR.out _ _ (LV.cond (t:=false) rfl (LV.skip (LV.seq (LV.reg rfl λR hR=>?_))));replace hR:=z38 hR;go_wp2_with fail;refine hR.out _ _ ?_;clear hR R;exact LV.ret rfl (sQ.out _ _ (by rw [Z.out.2];rfl) rfl)
    |true=>
     by_cases e2:o2=[]
     ·subst e2;go_wp2_with fail;refine hR.out _ _ (LV.cond (t:=true) rfl (LV.reg rfl λR hR=>?_));replace hR:=z38 hR;go_wp2_with fail;refine Tk.out.mono ?_;rintro e W7 ⟨rfl,t1,t2,t3⟩;have V:=z38 (y38 t1 t3);clear t1 t2 t3;go_wp2_with fail;refine hR.out _ _ ?_;clear hR R;refine LV.seq (LV.reg rfl λR hR=>?_);replace hR:=z38 hR;go_wp2_with fail;refine hR.out _ _ ?_;clear hR R;exact LV.ret rfl (fin.out _ _ _ _ V.out.1 ((Z.out.1.mono (λ_ _ e=>.inl e)).trans (V.out.2.mono (λ_ _ e=>.inr e))) (by rw [Z.out.2];rfl) rfl)
     ·have hb:List.isEmpty o2=false:=by cases o2 with|nil=>exact absurd rfl e2|cons _ _=>rfl
      have E:=z38 e2;clear e2;go_wp2_with fail;refine hR.out _ _ (LV.cond (t:=false) rfl (LV.skip (LV.seq (LV.reg rfl λR hR=>?_))));replace hR:=z38 hR;go_wp2_with fail;refine hR.out _ _ ?_;clear hR R;exact LV.ret rfl (sQ.out _ _ (by rw [Z.out.2,if_neg (by simpa using E.out)]) rfl)
   obtain ⟨c,hc⟩:∃c,cs[i]? =some c:=⟨_,List.getElem?_eq_getElem aI⟩
   have Fh:wl.length=cs.length:=by rw [Mk.out,List.length_map]
   obtain ⟨w0,hw0⟩:∃w0,wl[i]? =some w0:=⟨_,List.getElem?_eq_getElem (by rw [Fh];exact aI)⟩
   obtain ⟨hS,hP,dK,hn,ho,hr,yP,hid,hk,h1,h2,h3,fT,ay⟩:=X.out;obtain ⟨gg,rfl,hgt,Bg,d0,d1,d2⟩:=dK i c hc;replace d0:=qW.aA.bB d0 Bg;replace d1:=qW.aA.bB d1 Bg;replace d2:=qW.aA.bB d2 Bg;obtain ⟨q6,c6,e6,iX⟩:=Lo.fZ bU;obtain ⟨a5,rfl,-,-,hw5⟩:=iX i (encStr w0) (by rw [List.getElem?_map,hw0];rfl);injection e6 with e6 _ e7;subst e6;subst e7;have hw5:W5.cell? (a5.add i)=some (.string ⟨w0.toArray⟩):=hw5;have Jn:gg<W5.heap.size:=World.block_lt_of_cell? W5 _ d0;have hrefl:c.ref.length<=1000:=(hid c (List.mem_of_getElem? hc)).1;have aJZ:w0.length<=10:=by have h3:=List.mem_of_getElem? hw0;rw [Mk.out] at h3;obtain ⟨y,_,hy⟩:=List.mem_map.1 h3;rw [<-hy];exact J8 S p y
   have uI:(cs.zip wl).take (i+1)=(cs.zip wl).take i++[(c,w0)]:=by rw [List.take_add_one];congr 1;rw [(List.getElem?_zip_eq_some (z:=(c,w0))).2 ⟨hc,hw0⟩];rfl
   have qw:((i:Int)<(cs.length:Int))=True:=eq_true (by omega);have VQ:i<1000000:=by omega
   have h5l:a5.block<W5.heap.size:=by have:=bU.lt a5.block rfl;exact this.2
   have Z:=z38 (y38 qW (y38 bU (y38 aI (y38 uI Jj))));clear qW bU aI uI Jj hle hS hP dK hn ho hr yP hid hk h1 h2 h3 fT ay hgt Bg iX Fh hc hw0;refine LV.seq (LV.reg rfl λR hR=>?_);replace hR:=z38 hR;go_wp2_with fail;refine hR.out _ _ ?_;clear hR R;refine LV.seq (LV.cond (t:=true) rfl (LV.skip (LV.seq (LV.block (LV.seq (LV.reg rfl λR hR=>?_))))));replace hR:=z38 hR;go_wp2_with fail;refine hR.out _ _ ?_;clear hR R;have D6:DW w st mo mr S (W5.alloc (.cells #[.string ⟨c.old.toArray⟩,.string ⟨c.new.toArray⟩,.string ⟨c.ref.toArray⟩] 142)):=Z.out.1.next X.out.1 ((aj.refl (λ_=>False) W5).alloc _) (λ_ e=>e.elim);have q2:(W5.alloc (.cells #[.string ⟨c.old.toArray⟩,.string ⟨c.new.toArray⟩,.string ⟨c.ref.toArray⟩] 142)).cell? ⟨W5.heap.size,2,none⟩=some (.string ⟨c.ref.toArray⟩):=by simp
   have pM:=Z.out.2.1.alloc (.cells #[.string ⟨c.old.toArray⟩,.string ⟨c.new.toArray⟩,.string ⟨c.ref.toArray⟩] 142);have hw6:(W5.alloc (.cells #[.string ⟨c.old.toArray⟩,.string ⟨c.new.toArray⟩,.string ⟨c.ref.toArray⟩] 142)).cell? (a5.add i)=some (.string ⟨w0.toArray⟩):=((aj.refl (λ_=>False) W5).alloc _).bB hw5 (λe=>e);generalize W5.alloc (.cells #[.string ⟨c.old.toArray⟩,.string ⟨c.new.toArray⟩,.string ⟨c.ref.toArray⟩] 142)=wa at D6 q2 pM hw6 ⊢;obtain ⟨nb,Zg⟩:∃nb,nb=W5.heap.size:=⟨_,rfl⟩
   rw [<-Zg] at q2 ⊢;replace Z:=z38 (y38 D6 (y38 pM Z.out.2.2));clear D6 pM Zg d0 d1 d2 hw5 Jn h5l;refine LV.seq (LV.reg rfl λR hR=>?_);replace hR:=z38 hR;go_wp2_with fail;refine hR.out _ _ ?_;clear hR R;refine LV.seq (LV.cut (M:=λW a=>W=wa/\a={tmps:=#[.pointer (some ⟨st,0,none⟩),.pointer (some ⟨pb,0,none⟩),fx a 2,fx a 3,fx a 4,.slice (some a5) cs.length c5,.bool b6,fx a 7,fx a 8,fx a 9,fx a 10,fx a 11,.string ⟨o2.toArray⟩,.string ⟨rp.toArray⟩,fx a 14,.pointer (some ⟨nb,0,none⟩),.string ⟨(rC o2 b6 w0).toArray⟩,fx a 17,fx a 18,fx a 19,fx a 20,fx a 21,fx a 22,fx a 23,fx a 24,fx a 25,fx a 26,fx a 27,fx a 28,fx a 29,fx a 30,fx a 31,fx a 32,fx a 33,fx a 34,fx a 35,fx a 36,fx a 37,fx a 38,fx a 39,fx a 40,fx a 41,fx a 42,fx a 43,fx a 44,fx a 45,fx a 46,fx a 47,fx a 48,fx a 49,fx a 50,fx a 51,fx a 52,fx a 53,fx a 54,fx a 55,fx a 56,fx a 57,fx a 58,fx a 59,fx a 60,fx a 61,fx a 62,fx a 63,fx a 64,fx a 65,fx a 66,fx a 67,fx a 68,fx a 69,fx a 70,fx a 71,fx a 72,fx a 73,fx a 74,fx a 75,fx a 76,fx a 77,fx a 78,fx a 79,fx a 80,fx a 81,fx a 82,fx a 83,fx a 84,fx a 85,.slice (some ⟨gg,0,none⟩) cs.length cc,.int .i64 (cs.length:Nat),.int .i64 (i:Nat),fx a 89,fx a 90,fx a 91,fx a 92,fx a 93,fx a 94,fx a 95,fx a 96,fx a 97,fx a 98,fx a 99,fx a 100,fx a 101,fx a 102,fx a 103,fx a 104,fx a 105,fx a 106,fx a 107,fx a 108,fx a 109,fx a 110,fx a 111,fx a 112,fx a 113,fx a 114,fx a 115,fx a 116,fx a 117,fx a 118,fx a 119,fx a 120,fx a 121,fx a 122,fx a 123,fx a 124,fx a 125,fx a 126,fx a 127,fx a 128,fx a 129,fx a 130,fx a 131,fx a 132,fx a 133,fx a 134],defers:=ds}) ?_ ?_)
   ·intro cont;by_cases e2:o2=[]
    case neg=>
     have hb:(!List.isEmpty o2)=true:=by cases o2 with|nil=>exact absurd rfl e2|cons _ _=>rfl
     have E:=z38 (show rC o2 b6 w0=o2 from if_pos e2);clear e2;refine LV.block (LV.seq (LV.reg rfl λR hR=>?_));replace hR:=z38 hR;go_wp2_with fail;refine hR.out _ _ ?_;clear hR R;refine LV.cond (t:=true) rfl (LV.reg rfl λR hR=>?_);replace hR:=z38 hR;go_wp2_with fail;refine hR.out _ _ ?_;clear hR R;refine LV.inBlock (cont _ _ ⟨rfl,?_⟩);rw [E.out];rfl
    subst e2;refine LV.block (LV.seq (LV.reg rfl λR hR=>?_));replace hR:=z38 hR;go_wp2_with fail;refine hR.out _ _ ?_;clear hR R;refine LV.cond (t:=false) rfl (LV.seq (LV.reg rfl λR hR=>?_));replace hR:=z38 hR;by_cases ew:w0=jK
    ·have hb:(w0==[111,107])=true:=by rw [ew];rfl
     cases b6 with
     |true=>have E:=z38 (show rC [] true w0=w0 by unfold rC;simp);clear ew;go_wp2_with fail;refine hR.out _ _ (LV.cond (t:=false) rfl (LV.skip (LV.inBlock (cont _ _ ⟨rfl,?_⟩))));rw [E.out];rfl
     |false=>have E:=z38 (show rC [] false w0=rD by unfold rC;simp [ew]);clear ew;go_wp2_with fail;refine hR.out _ _ (LV.cond (t:=true) rfl (LV.reg rfl λR hR=>?_));replace hR:=z38 hR;go_wp2_with fail;refine hR.out _ _ ?_;clear hR R;refine LV.inBlock (cont _ _ ⟨rfl,?_⟩);rw [E.out];rfl
    ·have hb:(w0==[111,107])=false:=beq_false_of_ne ew;have E:=z38 (show rC [] b6 w0=w0 by unfold rC;simp [ew]);clear ew;go_wp2_with fail;refine hR.out _ _ (LV.cond (t:=false) rfl (LV.skip (LV.inBlock (cont _ _ ⟨rfl,?_⟩))));rw [E.out];rfl
   rintro W6 a ⟨rfl,ha⟩;obtain ⟨gx,MI⟩:∃gx,gx=fx a:=⟨_,rfl⟩
   rw [<-MI] at ha;clear MI;subst ha;dsimp only;obtain ⟨wf,bY⟩:∃wf,wf=rC o2 b6 w0:=⟨_,rfl⟩
   rw [<-bY];have Y7:=Y.out.2.2.2;have hol:o2.length<=10:=by rw [Y7];exact Us _ _ _ _
   have hzl:∀x∈(cs.zip wl).take i,x.1.ref.length<=1000/\x.2.length<=10:=λx hx=>by
    have hm:=List.mem_of_mem_take hx;have ky:=List.of_mem_zip (a:=x.1) (b:=x.2) hm;refine ⟨(X.out.2.2.2.2.2.2.2.1 _ ky.1).1,?_⟩;have h3:=ky.2;rw [Mk.out] at h3;obtain ⟨y,_,hy⟩:=List.mem_map.1 h3;rw [<-hy];exact J8 S p y
   have EF:rp.length<=2000000:=by
    rw [Z.out.2.2.2.2,List.length_append];have h1:=Ae (all:=b6) hol _ hzl;have h2:((cs.zip wl).take i).length<=1000:=by have:=X.out.2.2.2.2.2.2.1;simp only [List.length_take,List.length_zip];omega
    have h3:(dB++jK++nl).length=10:=rfl;omega
   have aTP:wf.length<=10:=by rw [bY];exact Ke hol aJZ
   clear Y7 hol hzl aJZ;have aKe:rp++mP c wf=dB++jK++nl++dP o2 b6 ((cs.zip wl).take (i+1)):=by obtain ⟨-,-,-,uI,Jj⟩:=Z.out;rw [uI,xP,<-List.append_assoc,<-Jj,bY]
   replace Z:=z38 (y38 Z.out.1 (y38 Z.out.2.1 (y38 Z.out.2.2.1 aKe)));clear aKe bY hw6;by_cases ew:wf=jK
   ·have hb:(wf==[111,107])=true:=by rw [ew];rfl
    have E:=z38 (show mP c wf=jK++[32]++c.ref++nl from if_pos ew);clear ew;refine LV.seq (LV.reg rfl λR hR=>?_);replace hR:=z38 hR;go_wp2_with fail;refine hR.out _ _ ?_;clear hR R;refine LV.cond (t:=true) rfl (LV.reg rfl λR hR=>?_);replace hR:=z38 hR;go_wp2_with fail;refine hR.out _ _ ?_;clear hR R;refine LV.inBlock ?_;refine LV.reg rfl λR hR=>?_;replace hR:=z38 hR;go_wp2_with fail;refine hR.out _ _ ?_;clear hR R;have hs:((⟨rp.toArray⟩:ByteArray)++(⟨#[111,107,32]⟩++⟨c.ref.toArray⟩++⟨#[10]⟩))=⟨(rp++mP c wf).toArray⟩:=by rw [E.out];apply ByteArray.ext;simp [jK,nl]
    rw [hs];exact IH.out (cs.length - (i+1)) _ _ (by have:=Z.out.2.2.1;omega) ⟨i+1,rp++mP c wf,rfl,rfl,Z.out.2.2.1,Z.out.2.2.2,Z.out.1,Z.out.2.1⟩
   ·have hb:(wf==[111,107])=false:=beq_false_of_ne ew;have E:=z38 (show mP c wf=[110,103,32]++c.ref++[32]++wf++nl from if_neg ew);clear ew;refine LV.seq (LV.reg rfl λR hR=>?_);replace hR:=z38 hR;go_wp2_with fail;refine hR.out _ _ ?_;clear hR R;refine LV.cond (t:=false) rfl (LV.reg rfl λR hR=>?_);replace hR:=z38 hR;go_wp2_with fail;refine hR.out _ _ ?_;clear hR R;refine LV.inBlock ?_;refine LV.reg rfl λR hR=>?_;replace hR:=z38 hR;go_wp2_with fail;refine hR.out _ _ ?_;clear hR R;have hs:((⟨rp.toArray⟩:ByteArray)++(⟨#[110,103,32]⟩++⟨c.ref.toArray⟩++⟨#[32]⟩++⟨wf.toArray⟩++⟨#[10]⟩))=⟨(rp++mP c wf).toArray⟩:=by
     rw [E.out];apply ByteArray.ext;simp [jK,nl]
    rw [hs];exact IH.out (cs.length - (i+1)) _ _ (by have:=Z.out.2.2.1;omega) ⟨i+1,rp++mP c wf,rfl,rfl,Z.out.2.2.1,Z.out.2.2.2,Z.out.1,Z.out.2.1⟩
  ·intro k kv w1' pX MF yn iP uJ aI zD hen;have h:=hI.out;have c1:aj (·=nr) W2 w1':=(aj.refl (·=nr) W2).grown zD (λk h=>.inl (by cases h;rfl));have aGs:DW w st mo mr S w1':=h.dw.next X.out.1 c1 (λk e=>by rw [e];exact aCA.out);have kX:=c1.ownsRow h.row (λk hk e=>aCB.out k hk e);have D8:=aGs.jC X.out.1;have k4:w1'.cell? ⟨st,4,none⟩=some (.map (some mo)):=D8.blk.at rfl;obtain ⟨ov,Px,JY⟩:=D8.ah;have hg:=OM.get (b:=mo) JY k;have hf1:f<1000000:=by
    have e1:=h.num;have e2:=h.Bl;have e3:=Y.out.2.2.2.2.2.1;have e4:=X.out.2.2.2.1;have e5:=List.length_filter_le (λk=>(S.ah.get k).isNone) yL;omega
   have Zy:(yL++[k]).length+pX<=mv.length:=by have:=h.Bl;simp;omega
   have MQ:((yL++[k]).filter λk=>(S.ah.get k).isNone).length=f+(if (S.ah.get k).isNone then 1 else 0):=by rw [List.filter_append,List.length_append,<-h.num];congr 1;by_cases e:(S.ah.get k).isNone<;>simp [e]
   have Z:=z38 (y38 uJ (y38 (h.col.step yn iP) (y38 aGs (y38 kX (y38 MQ (y38 Zy (y38 aI yn)))))));clear h c1 aGs kX D8 JY uJ yn iP aI zD BH Zy MQ hI;go_wp2_with fail;refine hR.out _ _ ?_;clear hR R;refine LV.seq (LV.cond (t:=true) rfl (LV.skip (LV.block (LV.seq (LV.reg rfl λR hR=>?_)))));replace hR:=z38 hR;go_wp2_with fail;refine hR.out _ _ ?_;clear hR R;rcases pE hg with ⟨e1,e2⟩|⟨u,b2,kd2,e1,e2⟩
   ·have E:=z38 e2;clear e2 hg;refine LV.seq (LV.reg rfl λR hR=>?_);replace hR:=z38 hR;go_wp2_with (at_lookup;refine Mp.lookup rfl _ _ 55 rfl 106 ((Tq.underlying 55).trans Tryz.underlying55) (z:=.nilIface) (by simp [Tryz.zeroValue106]) mo ov rfl Px ⟨k.toArray⟩ rfl MF ?_;rw [e1]);refine hR.out _ _ ?_;clear hR R;refine LV.cond (t:=true) rfl (LV.reg rfl λR hR=>?_);replace hR:=z38 hR;go_wp2_with fail;refine hR.out _ _ ?_;clear hR R;obtain ⟨z1,z2,z3,z4,z5,z6,z7,z8⟩:=Z.out;refine LV.inBlock (IH.out pX _ _ z7 ⟨_,pX,yL++[k],f+1,rfl,rfl,z1,z2,z3,z4,?_,z6⟩);rw [z5,E.out];rfl
   ·have E:=z38 e2;clear e2 hg;refine LV.seq (LV.reg rfl λR hR=>?_);replace hR:=z38 hR;go_wp2_with (at_lookup;refine Mp.lookup rfl _ _ 55 rfl 106 ((Tq.underlying 55).trans Tryz.underlying55) (z:=.nilIface) (by simp [Tryz.zeroValue106]) mo ov rfl Px ⟨k.toArray⟩ rfl MF ?_;rw [e1]);refine hR.out _ _ ?_;clear hR R;refine LV.cond (t:=false) rfl (LV.skip ?_);obtain ⟨z1,z2,z3,z4,z5,z6,z7,z8⟩:=Z.out;refine LV.inBlock (IH.out pX _ _ z7 ⟨_,pX,yL++[k],f,rfl,rfl,z1,z2,z3,z4,?_,z6⟩);rw [z5,E.out];rfl
 obtain ⟨c,hc⟩:∃c,cs[i]? =some c:=⟨_,List.getElem?_eq_getElem aI⟩
 obtain ⟨hS,hP,dK,hn,ho,hr,yP,hid,hk,h1,h2,h3,fT,ay⟩:=X.out;obtain ⟨g,rfl,hg,Bg,d0,d1,d2⟩:=dK i c hc;replace d0:=qW.aA.bB d0 Bg;replace d1:=qW.aA.bB d1 Bg;replace d2:=qW.aA.bB d2 Bg;have Jn:g<W.heap.size:=World.block_lt_of_cell? W _ d0;have uI:wl.take (i+1)=wl.take i++[word S p c]:=by rw [List.take_add_one,Mk.out,List.getElem?_map,hc];rfl
 have Av:=hid c (List.mem_of_getElem? hc);have qw:((i:Int)<(cs.length:Int))=True:=eq_true (by omega);have VQ:i<1000000:=by omega
 have Y:=z38 (y38 qW (y38 aI (y38 uI (y38 hle (y38 hb6 (y38 Av bU))))));clear qW aI uI hle hb6 Av dK hn ho hr yP hid hk h1 h2 h3 ay hg Bg hc bU;refine LV.seq (LV.reg rfl λR hR=>?_);replace hR:=z38 hR;go_wp2_with fail;refine hR.out _ _ ?_;clear hR R;refine LV.seq (LV.cond (t:=true) rfl (LV.skip (LV.seq (LV.block (LV.seq (LV.reg rfl λR hR=>?_))))));replace hR:=z38 hR;go_wp2_with fail;refine hR.out _ _ ?_;clear hR R;have D6:DW w st mo mr S (W.alloc (.cells #[.string ⟨c.old.toArray⟩,.string ⟨c.new.toArray⟩,.string ⟨c.ref.toArray⟩] 142)):=Y.out.1.next hS ((aj.refl (λ_=>False) W).alloc _) (λ_ e=>e.elim);have q0:(W.alloc (.cells #[.string ⟨c.old.toArray⟩,.string ⟨c.new.toArray⟩,.string ⟨c.ref.toArray⟩] 142)).cell? ⟨W.heap.size,0,none⟩=some (.string ⟨c.old.toArray⟩):=by simp
 have q1:(W.alloc (.cells #[.string ⟨c.old.toArray⟩,.string ⟨c.new.toArray⟩,.string ⟨c.ref.toArray⟩] 142)).cell? ⟨W.heap.size,1,none⟩=some (.string ⟨c.new.toArray⟩):=by simp
 have q2:(W.alloc (.cells #[.string ⟨c.old.toArray⟩,.string ⟨c.new.toArray⟩,.string ⟨c.ref.toArray⟩] 142)).cell? ⟨W.heap.size,2,none⟩=some (.string ⟨c.ref.toArray⟩):=by simp
 have pM:=Y.out.2.2.2.2.2.2.alloc (.cells #[.string ⟨c.old.toArray⟩,.string ⟨c.new.toArray⟩,.string ⟨c.ref.toArray⟩] 142);generalize W.alloc (.cells #[.string ⟨c.old.toArray⟩,.string ⟨c.new.toArray⟩,.string ⟨c.ref.toArray⟩] 142)=wa at D6 q0 q1 q2 pM ⊢;generalize W.heap.size=nb at q0 q1 q2 ⊢;have C:=z38 (V9 wa st mo mr pb mw 1 S (.slice (some ⟨g,0,none⟩) cs.length cc) p cl c.old c.new c.ref (D6.jC hS) (D6.psh hS hP) (by have:=Y.out.2.2.2.2.2.1.2;unfold maxLen;omega) (by have:=Y.out.2.2.2.2.2.1.1;unfold maxLen;omega) fT);have hS:=z38 hS;have hP:=z38 hP;have fT:=z38 fT;replace D6:=z38 D6;clear d0 d1 d2;unfold aG at C;refine LV.seq (LV.reg rfl λR hR=>?_);replace hR:=z38 hR;go_wp2_with fail;refine C.out.mono ?_;rintro e w2 ⟨rfl,gQ⟩;unfold av;go_wp2_with fail;refine hR.out _ _ ?_;clear hR R;obtain ⟨wd,Ml⟩:∃wd,wd=word S p c:=⟨_,rfl⟩
 have hwe:Sp.word S p {old:=c.old,new:=c.new,ref:=c.ref}=wd:=Ml.symm;rw [hwe];have GU:=(aj.nK gQ).ownsRow pM (λ_ _ e=>e.elim);have U6:DW w st mo mr S w2:=D6.out.next hS.out (aj.nK gQ) (λ_ e=>e.elim);have hws:w.heap.size<=w2.heap.size:=U6.aA.size;have hnc:=(Y.out.2.2.2.1)
 have yP:=X.out.2.2.2.2.2.2.1;have HW:=z38 (y38 Ml U6);replace hwe:=z38 hwe;clear D6 pM gQ Ml U6 q0 q1 q2 C hS hP fT;refine LV.seq (LV.reg rfl λR hR=>?_);replace hR:=z38 hR;go_wp2_with (at_builtin;refine wpList_append_own_at _ rfl _ _ 34 rfl w.heap.size 9 i0 (.string ByteArray.empty) 1 16 ((Tq.underlying 34).trans Tryz.underlying34) hi uw wQ wP rfl (by decide) _ _ _ rfl (GU.alloc _) ⟨w2.heap.size,0,none⟩ 1 1 [encStr wd] rfl rfl ?c1 ?c2 ?c3 ?c4 ?c5 ?_)
 case c1=>
  intro j u hj
  match j,hj with
  |0,hj=>simp at hj;subst hj;simp [Addr.add,encStr]
 case c2=>intro u hu;simp at hu;subst hu;rfl
 case c3=>unfold maxLen;omega
 case c4=>omega
 case c5=>simp;omega
 intro v' w4 jD aX _ oL;have U1:=λk h=>(GU.lt k h).1;have MN:DW w st mo mr S w4:=HW.out.2.next X.out.1 (T:=λk=>w.heap.size<=k) (((aj.refl (λk=>w.heap.size<=k) w2).alloc _).grown aX (λk h=>.inl (U1 k h))) (λk e=>e);have Aq:w4.ownsRow w.heap.size 9 1 v' (i+1) ((wl.map encStr).take (i+1)):=by rw [<-List.map_take,Y.out.2.2.1,<-HW.out.1,List.map_append,List.map_take];exact jD
 have Z:=z38 (y38 MN Aq);clear MN Aq U1 aX oL jD GU;go_wp2_with fail;refine hR.out _ _ ?_;clear hR R;have hb6:=Y.out.2.2.2.2.1;have E:=z38 hb6;clear hb6;have G6:(wd==[111,107])=(wd==jK):=rfl;replace G6:=z38 G6;have nxt:∀b',b'=((wl.take i).all (·==jK)&&(wd==jK))->b'=(wl.take (i+1)).all (·==jK):=by rintro b' rfl;rw [Y.out.2.2.1,<-HW.out.1,List.all_append];simp
 replace nxt:=z38 nxt;refine LV.reg rfl λR hR=>?_;replace hR:=z38 hR;cases b6 with
 |false=>go_wp2_with fail;refine hR.out _ _ ?_;clear hR R;refine LV.inBlock ?_;refine LV.reg rfl λR hR=>?_;replace hR:=z38 hR;go_wp2_with fail;refine hR.out _ _ ?_;clear hR R;exact IH.out (cs.length - (i+1)) _ _ (by have:=Y.out.2.1;omega) ⟨i+1,v',false,rfl,rfl,Y.out.2.1,nxt.out _ (by rw [<-E.out];rfl),Z.out.1,Z.out.2⟩
 |true=>go_wp2_with fail;refine hR.out _ _ ?_;clear hR R;refine LV.inBlock ?_;refine LV.reg rfl λR hR=>?_;replace hR:=z38 hR;go_wp2_with fail;refine hR.out _ _ ?_;clear hR R;exact IH.out (cs.length - (i+1)) _ _ (by have:=Y.out.2.1;omega) ⟨i+1,v',(wd==jK),rfl,rfl,Y.out.2.1,nxt.out _ (by rw [<-E.out];rfl),Z.out.1,Z.out.2⟩
end De
end
namespace Rx
open Tx Sp Wg Rd Bk Wi Se Pa Lo De
theorem YL (w:World) (r:Nat) (fz:Nat×Nat) (v:Cv) (c:Cn) (l b:Nat) (ls:M Nat) (st:Nat) (m:Int) (cb:Value) (rs:List Nat) (x:B) (xs:List B) (h:Cx w r fz v c) (hw:WvR w v.wv c.aY) (hc:c.aY=x::xs) (hL:Lk w l b ls) (hS:Sr w v.s st l m cb rs)
 (hx:x.length<=maxLen) (U8:v.i<1099511627776) (hg:(M.get ls x).getD 0=0) (hz:Fz fz) (Zd:ls.length<1099511627776) (Jg:c.work=some .lock) (hk:v.wk=.func (.func 75) #[aG r] #[]):
 Calls Tq.prog 75 #[aG r] w (WP w r fz v l b 1 {c with aY:=xs} (M.put ls x (v.i+1))):=by
 have hW:=z38 hw;obtain ⟨q,cap,hv,hcp,ay⟩:=hw;obtain ⟨g,o,cur,rfl,GY,ZE⟩:=ay (by rw [hc];exact List.cons_ne_nil _ _);have h0:w.cell? ⟨g,o,none⟩=some (.string ⟨x.toArray⟩):=by have:=ZE 0 x (by rw [hc];rfl);rw [Nat.add_zero] at this;have this:cur[o]? =some (.string ⟨x.toArray⟩):=this;simpa [World.cell?,GY] using this
 rw [hc] at hv hcp;simp only [List.length_cons] at hv hcp;have UM:w.cell? ⟨r,15,none⟩=some (.slice (some ⟨g,o,none⟩) (xs.length+1) cap):=by rw [<-hv];exact h.cb.at rfl
 have k1:w.cell? ⟨r,1,none⟩=some (.pointer (some ⟨v.s,0,none⟩)):=h.cb.at rfl;have k0:w.cell? ⟨r,0,none⟩=some (.int .i64 v.i):=h.cb.at rfl;have k3:w.cell? ⟨v.s,3,none⟩=some (.pointer (some ⟨l,0,none⟩)):=hS.blk.at rfl;have Fq:=aM.lt h.cb;have BF:=hS.blk.lt;have Jn:=lt_of_block GY;have bx:Below w.heap.size w (w.alloc (.cells #[.pointer (some ⟨r,0,none⟩)] 91)):=(Below.refl _ _).alloc (Nat.le_refl _) _;have kb:(w.alloc (.cells #[.pointer (some ⟨r,0,none⟩)] 91)).cell? ⟨w.heap.size,0,none⟩=some (.pointer (some ⟨r,0,none⟩)):=by simp
 have a0:=aK bx h0 Jn;have a15:=aK bx UM Fq;have a1:=aK bx k1 Fq;have a00:=aK bx k0 Fq;have a3:=aK bx k3 BF;have Vb:=hL.aA (aj.nK bx) (λe=>e) (λe=>e);have T:=λwd (hd:Lk wd l b ls)=>Xg wd l b v.i ls ⟨x.toArray⟩ hd hx U8 Zd hg;have T:=z38 T;have H:=z38 (y38 h (y38 hL (y38 Vb (y38 bx (y38 hv GY)))));have hlen:((xs.length+1:Nat):Int)≠0:=by omega
 clear h hL Vb bx hS ZE GY ay UM k1 k0 k3 h0;unfold aG;go_enter Tq.func75,Tryz.ntmps75;go_wp2_with fail;generalize w.alloc (.cells #[.pointer (some ⟨r,0,none⟩)] 91)=wa at kb a0 a15 a1 a00 a3 H ⊢
 go_still_tail 17,(by kernel_rfl)
 change wpList _ _ _ _ _ wa.drew;have hL2:Lk wa.drew l b ls:=⟨H.out.2.2.1.blk,H.out.2.2.1.map.block rfl⟩
 have bd:Hid (Below w.heap.size w wa.drew):=z38 (qnz H.out.2.2.2.1 1);have T2:=z38 (T.out _ hL2);have kbd:wa.drew.cell? ⟨w.heap.size,0,none⟩=some (.pointer (some ⟨r,0,none⟩)):=kb;have aK0:Hid (Cb wa.drew r fz v c):=z38 (aM.aA H.out.1.cb (aj.nK bd.out) (λe=>e));have hll:l<w.heap.size:=H.out.2.1.blk.lt;have VS:b<w.heap.size:=H.out.2.1.map.lt;have EF:r≠l:=aM.ne H.out.1.cb H.out.2.1.blk (by decide);have hrb:r≠b:=aM.dV H.out.1.cb H.out.2.1.map;have hkn:¬(w.heap.size=l\/w.heap.size=b):=by omega
 have hrn:¬(r=l\/r=b):=by rintro (e|e);exact EF e;exact hrb e
 generalize wa.drew=wd at hL2 bd T2 kbd aK0 ⊢;clear T hL2;go_wp2_with fail;refine T2.out.mono ?_;rintro e w3 ⟨rfl,Zn,c3⟩;have Bi:Cb w3 r fz v c:=aM.aA aK0.out c3 hrn;have kb3:w3.cell? ⟨w.heap.size,0,none⟩=some (.pointer (some ⟨r,0,none⟩)):=c3.bB kbd hkn;have UM:w3.cell? ⟨r,15,none⟩=some (.slice (some ⟨g,o,none⟩) (xs.length+1) cap):=(aM.at Bi rfl).trans (congrArg some H.out.2.2.2.2.1);have f15:=aM.frozen Bi (i:=15) (hz 15 (by decide) (by decide) (by decide));have F:=z38 (y38 Zn (y38 c3 Bi));clear Zn c3 Bi;go_wp2_with fail;have aU8:((1:Int)<=(xs.length:Int)+1)=True:=eq_true (by omega)
 go_still_tail 8,(by kernel_rfl)
 all_goals change wpList _ _ _ _ _ w3.drew
 all_goals go_wp2_with fail
 ·
  go_ret;obtain ⟨Zn,c3,Bi⟩:=F.out;obtain ⟨h,hL,_,_,hv,GY⟩:=H.out;have cW:aj (λk=>k=l\/k=b) w w3:=((aj.nK bd.out).mono (λ_ _ e=>e.elim)).trans c3;have nP:∀k,Fp r v k->¬(k=l\/k=b):=by
   rintro k hk (rfl|rfl)
   ·exact h.off hL.blk (by decide) (by decide) (by decide) hk
   ·exact h.gp hL.map hk
  have Jf:=h.aA cW (jW hL) nP;have c5:aj (·=r) w3 (w3.setCell ⟨r,15,none⟩ (.slice (some ⟨g,o,none⟩) xs.length 0)).drew:=((aj.refl (·=r) w3).setCell (p:=⟨r,15,none⟩) (.inl rfl) _).drew;have BF:Safe w3 (·=r):=λk cur T jo hk hb=>by
   subst hk;have:=Bi;unfold Cb aM at this;rw [this] at hb;injection hb with hb;injection hb with _ hb _;subst hb;decide
  refine ⟨rfl,{v with wv:=.slice (some ⟨g,o,none⟩) xs.length 0},⟨⟨⟨aM.set Bi 15 (.slice (some ⟨g,o,none⟩) xs.length 0),?_,?_⟩,?_⟩,?_,⟨rfl,rfl,rfl,rfl⟩,λk hk=>.inl hk,?_⟩⟩
  ·exact c5.ownsRow Jf.au (λk hk e=>Jf.rows.1 k hk e)
  ·obtain ⟨vs,o1,o2⟩:=Jf.ah;exact ⟨vs,c5.ownsRow o1 (λk hk e=>Jf.rows.2.1 k hk e),o2.mono λa b _ hr=>Ob.aA hr c5 BF⟩
  ·have hwx:WvR (w3.setCell ⟨r,15,none⟩ (.slice (some ⟨g,o,none⟩) xs.length 0)).drew v.wv c.aY:=(hW.out.aA cW (jW hL)).aA c5 BF;unfold FE;simp only [Jg];refine ⟨hk,?_⟩;obtain ⟨p',fM,e1,e2,e3⟩:=hwx;rw [hv,hc] at e1;injection e1 with e1 _ e4;subst e1 e4;obtain ⟨g',o',Ej,f1,f2,f3⟩:=e3 (by rw [hc];exact List.cons_ne_nil _ _);injection f1 with f1;injection f1 with f1 f4;subst f1 f4;rw [hc] at e2 f3;simp only [List.length_cons] at e2;refine ⟨_,_,rfl,by omega,λbA=>?_⟩;have jZ:=List.length_pos_iff.2 bA
   first
    |exact absurd jZ (by omega)
    |exact ⟨_,_,Ej,rfl,f2,λi y hy=>by have:=f3 (i+1) y hy;rwa [show o+(i+1)=o+1+i by omega] at this⟩
  ·exact Zn.aA c5 (Ne.symm EF) (Ne.symm hrb)
  ·exact (cW.mono (λk _ e=>.inr e)).trans (c5.mono (λk _ e=>.inl (.inl e)))
 ·
  go_ret;obtain ⟨Zn,c3,Bi⟩:=F.out;obtain ⟨h,hL,_,_,hv,GY⟩:=H.out;have cW:aj (λk=>k=l\/k=b) w w3:=((aj.nK bd.out).mono (λ_ _ e=>e.elim)).trans c3;have nP:∀k,Fp r v k->¬(k=l\/k=b):=by
   rintro k hk (rfl|rfl)
   ·exact h.off hL.blk (by decide) (by decide) (by decide) hk
   ·exact h.gp hL.map hk
  have Jf:=h.aA cW (jW hL) nP;have c5:aj (·=r) w3 (w3.setCell ⟨r,15,none⟩ (.slice (some ⟨g,o+1,none⟩) xs.length (cap - 1))).drew:=((aj.refl (·=r) w3).setCell (p:=⟨r,15,none⟩) (.inl rfl) _).drew;have BF:Safe w3 (·=r):=λk cur T jo hk hb=>by
   subst hk;have:=Bi;unfold Cb aM at this;rw [this] at hb;injection hb with hb;injection hb with _ hb _;subst hb;decide
  refine ⟨rfl,{v with wv:=.slice (some ⟨g,o+1,none⟩) xs.length (cap - 1)},⟨⟨⟨aM.set Bi 15 (.slice (some ⟨g,o+1,none⟩) xs.length (cap - 1)),?_,?_⟩,?_⟩,?_,⟨rfl,rfl,rfl,rfl⟩,λk hk=>.inl hk,?_⟩⟩
  ·exact c5.ownsRow Jf.au (λk hk e=>Jf.rows.1 k hk e)
  ·obtain ⟨vs,o1,o2⟩:=Jf.ah;exact ⟨vs,c5.ownsRow o1 (λk hk e=>Jf.rows.2.1 k hk e),o2.mono λa b _ hr=>Ob.aA hr c5 BF⟩
  ·have hwx:WvR (w3.setCell ⟨r,15,none⟩ (.slice (some ⟨g,o+1,none⟩) xs.length (cap - 1))).drew v.wv c.aY:=(hW.out.aA cW (jW hL)).aA c5 BF;unfold FE;simp only [Jg];refine ⟨hk,?_⟩;obtain ⟨p',fM,e1,e2,e3⟩:=hwx;rw [hv,hc] at e1;injection e1 with e1 _ e4;subst e1 e4;obtain ⟨g',o',Ej,f1,f2,f3⟩:=e3 (by rw [hc];exact List.cons_ne_nil _ _);injection f1 with f1;injection f1 with f1 f4;subst f1 f4;rw [hc] at e2 f3;simp only [List.length_cons] at e2;refine ⟨_,_,rfl,by omega,λbA=>?_⟩;have jZ:=List.length_pos_iff.2 bA
   first
    |exact absurd jZ (by omega)
    |exact ⟨_,_,Ej,rfl,f2,λi y hy=>by have:=f3 (i+1) y hy;rwa [show o+(i+1)=o+1+i by omega] at this⟩
  ·exact Zn.aA c5 (Ne.symm EF) (Ne.symm hrb)
  ·exact (cW.mono (λk _ e=>.inr e)).trans (c5.mono (λk _ e=>.inl (.inl e)))
theorem LB (w:World) (r:Nat) (fz:Nat×Nat) (v:Cv) (c:Cn) (l b:Nat) (ls:M Nat) (st mo mr:Nat) (m:Int) (cb:Value) (rs:List Nat) (S:St) (h:Cx w r fz v c) (hw:WvR w v.wv c.aY) (hc:c.aY=[]) (hL:Lk w l b ls) (hS:Sr w v.s st l m cb rs) (hT:qZ w st mo mr 0 S) (hz:Fz fz)
 (h4:c.au.length<=4) (PO:c.ah.length<=12) (hn:(aD c.ah).1.length<=1000) (iw:S.ah.length<=1000000) (VN:S.refs.length<=1000000) (hid:∀d∈c.au,d.ref.length<=1000/\d.new.length<=1000) (hky:∀x∈(aD c.ah).1,x.1.length<=maxLen)
 (ry:b≠mo) (ky:b≠mr) (hm3:mo≠mr) (fT:De.AP S (aD c.ah).1):
 Calls Tq.prog 75 #[aG r] w λe w'=>e=.returned (.int .i64 1)/\∃v',Cw w' r fz v' {c with bR:=(aW S c.au (aD c.ah).1 (aD c.ah).2).1,work:=some .fin}/\Lk w' l b ls/\qZ w' st mo mr 0 (aW S c.au (aD c.ah).1 (aD c.ah).2).2/\
  (v'.i=v.i/\v'.s=v.s/\v'.o=v.o/\v'.a=v.a)/\(∀k,Fp r v' k->Fp r v k\/w.heap.size<=k)/\aj (λk=>k=r\/k=st\/De.tF mo mr k) w w':=by
 obtain ⟨q,cap,hv,hcp,_⟩:=hw;rw [hc] at hv hcp;have hv:v.wv=.slice q 0 cap:=hv;obtain ⟨qc,nc,cc,U7⟩:∃qc nc cc,v.cv=.slice qc nc cc:=by
  rcases h.au.2 with ⟨e,_⟩|⟨g,cp,cur,e,_⟩
  ·exact ⟨_,_,_,e⟩
  ·exact ⟨_,_,_,e⟩
 obtain ⟨vs,vX,vZ⟩:=h.ah;have hcr:w.ownsRow 0 142 3 (.slice qc nc cc) c.au.length (kY c.au):=U7▸h.au;have UM:w.cell? ⟨r,15,none⟩=some (.slice q 0 cap):=by rw [<-hv];exact h.cb.at rfl
 have k1:w.cell? ⟨r,1,none⟩=some (.pointer (some ⟨v.s,0,none⟩)):=h.cb.at rfl;have k7:w.cell? ⟨r,7,none⟩=some (.slice qc nc cc):=by rw [<-U7];exact h.cb.at rfl
 have k8:w.cell? ⟨r,8,none⟩=some v.ov:=h.cb.at rfl;have k2:w.cell? ⟨v.s,2,none⟩=some (.pointer (some ⟨st,0,none⟩)):=hS.blk.at rfl;have Fq:=aM.lt h.cb;have BF:=hS.blk.lt;have f12:=aM.frozen h.cb (i:=12) (hz 12 (by decide) (by decide) (by decide));have f14:=aM.frozen h.cb (i:=14) (hz 14 (by decide) (by decide) (by decide));have bx:Below w.heap.size w (w.alloc (.cells #[.pointer (some ⟨r,0,none⟩)] 91)):=(Below.refl _ _).alloc (Nat.le_refl _) _;have kb:(w.alloc (.cells #[.pointer (some ⟨r,0,none⟩)] 91)).cell? ⟨w.heap.size,0,none⟩=some (.pointer (some ⟨r,0,none⟩)):=by simp
 have wY:aM (w.alloc (.cells #[.pointer (some ⟨r,0,none⟩)] 91)) w.heap.size #[aG r] 91 (0,0):=aM.new _ _ _;have bW:(w.alloc (.cells #[.pointer (some ⟨r,0,none⟩)] 91)).heap.size=w.heap.size+1:=by simp
 have a15:=aK bx UM Fq;have a1:=aK bx k1 Fq;have a7:=aK bx k7 Fq;have a8:=aK bx k8 Fq;have a2:=aK bx k2 BF;have cx:aj (λ_=>False) w (w.alloc (.cells #[.pointer (some ⟨r,0,none⟩)] 91)):=aj.nK bx;have hxA:=h.aA cx (Safe.none _) (λ_ _ e=>e);have hTA:=hT.aA cx (Safe.none _) (λe=>e) (λe=>e) (λe=>e);have hLA:=hL.aA cx (λe=>e) (λe=>e);have hrA:=cx.ownsRow hcr (λ_ _ e=>e);have hoA:=cx.ownsRow vX (λ_ _ e=>e);have haA:wN (Ob (w.alloc (.cells #[.pointer (some ⟨r,0,none⟩)] 91))) c.ah vs:=vZ.mono λa b _ hr=>Ob.aA hr cx (Safe.none _);have H:=z38 (y38 hxA (y38 hTA (y38 hLA (y38 hrA (y38 hoA (y38 haA (y38 wY (y38 bW cx))))))));have H0:=z38 (y38 h (y38 hT hL));have HN:=z38 (y38 hn (y38 iw (y38 VN (y38 hid (y38 hky (y38 ry (y38 ky (y38 hm3 (y38 fT (y38 h4 PO))))))))));have HS:=z38 hS;replace hv:=z38 hv;replace U7:=z38 U7;clear h hT hL hxA hTA hLA hrA hoA haA wY bW cx bx hS hcr vX vZ UM k1 k7 k8 k2 hn iw VN hid hky ry ky hm3 fT h4 PO hcp;unfold aG;go_enter Tq.func75,Tryz.ntmps75;go_wp2_with fail;generalize w.alloc (.cells #[.pointer (some ⟨r,0,none⟩)] 91)=wa at kb a15 a1 a7 a8 a2 H ⊢;have cd:aj (λ_=>False) wa wa.drew:=(aj.refl _ _).drew;have Gt:=z38 (PS wa.drew qc nc cc v.ov c.ah vs 0 (cd.ownsRow H.out.2.2.2.2.1 (λ_ _ e=>e)) (H.out.2.2.2.2.2.1.mono λa b _ hr=>Ob.aA hr cd (Safe.none _)) (by have:=HN.out.2.2.2.2.2.2.2.2.2.2;omega));have aJ5:wa.drew.heap.size=w.heap.size+1:=H.out.2.2.2.2.2.2.2.1;have Hd:=z38 (y38 (H.out.2.2.2.2.2.2.1.aA cd (λe=>e)) ((H.out.2.2.2.2.2.2.2.2).trans cd));have Hx:=z38 (y38 (H.out.1.aA cd (Safe.none _) (λ_ _ e=>e)) (y38 (H.out.2.1.aA cd (Safe.none _) (λe=>e) (λe=>e) (λe=>e)) (y38 (H.out.2.2.1.aA cd (λe=>e) (λe=>e)) (cd.ownsRow H.out.2.2.2.1 (λ_ _ e=>e)))));have hbo:Hid (∀k,(k=w.heap.size\/k=r\/k=v.s)->¬(k=st\/De.tF mo mr k)):=z38 (by
  have dN:=H0.out.2.1;rintro k (rfl|rfl|rfl) (e|e|e)
  ·have:=dN.blk.lt;omega
  ·have:=dN.ah.lt;omega
  ·have:=dN.refs.lt;omega
  ·exact aM.ne H0.out.1.cb dN.blk (by decide) e
  ·obtain ⟨mv,g1,_⟩:=dN.ah;exact aM.dV H0.out.1.cb g1 e
  ·exact aM.dV H0.out.1.cb dN.refs e
  ·exact aM.ne HS.out.blk dN.blk (by decide) e
  ·obtain ⟨mv,g1,_⟩:=dN.ah;exact aM.dV HS.out.blk g1 e
  ·exact aM.dV HS.out.blk dN.refs e)
 replace aJ5:=z38 aJ5;have S1:=z38 (show wa.drew.cell? ⟨w.heap.size,0,none⟩=some (.pointer (some ⟨r,0,none⟩))/\wa.drew.cell? ⟨r,1,none⟩=some (.pointer (some ⟨v.s,0,none⟩))/\wa.drew.cell? ⟨v.s,2,none⟩=some (.pointer (some ⟨st,0,none⟩))/\wa.drew.cell? ⟨r,7,none⟩=some (.slice qc nc cc)/\wa.drew.cell? ⟨r,8,none⟩=some v.ov from ⟨kb,a1,a2,a7,a8⟩);clear H cd kb a15 a1 a7 a8 a2;go_region_held3 (λw'=>w'.cell? ⟨w.heap.size,0,none⟩=some (.pointer (some ⟨r,0,none⟩))/\w'.cell? ⟨r,1,none⟩=some (.pointer (some ⟨v.s,0,none⟩))/\w'.cell? ⟨v.s,2,none⟩=some (.pointer (some ⟨st,0,none⟩))/\w'.cell? ⟨r,7,none⟩=some (.slice qc nc cc)/\w'.cell? ⟨r,8,none⟩=some v.ov)
  (first|exact S4.out|exact S3.out|exact S2.out|exact S1.out)
  (first
    |(go_at_call 126
      refine Gt.out.mono ?_;rintro e w3 ⟨rfl,hP3,jE⟩;have c3:aj (λ_=>False) wa.drew w3:=aj.nK jE;have hpn:wa.drew.heap.size+1<w3.heap.size:=hP3.blk.lt;have hT3:=Hx.out.2.1.aA c3 (Safe.none _) (λe=>e) (λe=>e) (λe=>e);have hmo:mo<wa.drew.heap.size:=Hx.out.2.1.ah.lt;have Rl:mr<wa.drew.heap.size:=Hx.out.2.1.refs.lt;have S2:=z38 (show w3.cell? ⟨w.heap.size,0,none⟩=some (.pointer (some ⟨r,0,none⟩))/\w3.cell? ⟨r,1,none⟩=some (.pointer (some ⟨v.s,0,none⟩))/\w3.cell? ⟨v.s,2,none⟩=some (.pointer (some ⟨st,0,none⟩))/\w3.cell? ⟨r,7,none⟩=some (.slice qc nc cc)/\w3.cell? ⟨r,8,none⟩=some v.ov from ⟨c3.bB S1.out.1 (λe=>e),c3.bB S1.out.2.1 (λe=>e),c3.bB S1.out.2.2.1 (λe=>e),c3.bB S1.out.2.2.2.1 (λe=>e),c3.bB S1.out.2.2.2.2 (λe=>e)⟩);have Dc:=z38 (PZ w3 st mo mr (wa.drew.heap.size+1) wa.drew.heap.size S (aD c.ah).1 (aD c.ah).2 qc nc cc 0 c.au hT3 hP3 (c3.ownsRow Hx.out.2.2.2 (λ_ _ e=>e)) HN.out.1 HN.out.2.1 HN.out.2.2.1 (by have:=HN.out.2.2.2.2.2.2.2.2.2.1;omega) HN.out.2.2.2.1 HN.out.2.2.2.2.1 HN.out.2.2.2.2.2.2.2.1 (by omega) (by omega) HN.out.2.2.2.2.2.2.2.2.1);have h3:=z38 (y38 c3 (y38 hT3 (y38 hmo (y38 Rl hpn))));clear hP3 jE c3 hT3 hmo Rl hpn)
    |(go_at_call 125
      refine Dc.out.mono ?_;rintro e w4 ⟨he,hT4,c4⟩;unfold av at he;subst he;have S3:=z38 (show w4.cell? ⟨w.heap.size,0,none⟩=some (.pointer (some ⟨r,0,none⟩))/\w4.cell? ⟨r,1,none⟩=some (.pointer (some ⟨v.s,0,none⟩))/\w4.cell? ⟨v.s,2,none⟩=some (.pointer (some ⟨st,0,none⟩))/\w4.cell? ⟨r,7,none⟩=some (.slice qc nc cc)/\w4.cell? ⟨r,8,none⟩=some v.ov from ⟨c4.bB S2.out.1 (hbo.out _ (.inl rfl)),c4.bB S2.out.2.1 (hbo.out _ (.inr (.inl rfl))),c4.bB S2.out.2.2.1 (hbo.out _ (.inr (.inr rfl))),c4.bB S2.out.2.2.2.1 (hbo.out _ (.inr (.inl rfl))),c4.bB S2.out.2.2.2.2 (hbo.out _ (.inr (.inl rfl)))⟩);have MS:Cb w4 r fz v c:=aM.aA (aM.aA Hx.out.1.cb h3.out.1 (λe=>e)) c4 (hbo.out _ (.inr (.inl rfl)));have g12:w4.frozen? ⟨r,12,none⟩=false:=aM.frozen MS (hz 12 (by decide) (by decide) (by decide));have aP8:w4.cell? ⟨r,12,none⟩=some (.string ⟨c.bR.toArray⟩):=MS.at (i:=12) rfl;have S4:=z38 (show (w4.setCell ⟨r,12,none⟩ (.string ⟨(aW S c.au (aD c.ah).1 (aD c.ah).2).1.toArray⟩)).cell? ⟨w.heap.size,0,none⟩=some (.pointer (some ⟨r,0,none⟩))/\(w4.setCell ⟨r,12,none⟩ (.string ⟨(aW S c.au (aD c.ah).1 (aD c.ah).2).1.toArray⟩)).cell? ⟨r,1,none⟩=some (.pointer (some ⟨v.s,0,none⟩))/\(w4.setCell ⟨r,12,none⟩ (.string ⟨(aW S c.au (aD c.ah).1 (aD c.ah).2).1.toArray⟩)).cell? ⟨v.s,2,none⟩=some (.pointer (some ⟨st,0,none⟩))/\(w4.setCell ⟨r,12,none⟩ (.string ⟨(aW S c.au (aD c.ah).1 (aD c.ah).2).1.toArray⟩)).cell? ⟨r,7,none⟩=some (.slice qc nc cc)/\(w4.setCell ⟨r,12,none⟩ (.string ⟨(aW S c.au (aD c.ah).1 (aD c.ah).2).1.toArray⟩)).cell? ⟨r,8,none⟩=some v.ov from ⟨(World.cell?_setCell_other _ _ _ _ (by simp)).trans S3.out.1,(World.cell?_setCell_other _ _ _ _ (by simp)).trans S3.out.2.1,(World.cell?_setCell_other _ _ _ _ (by simp)).trans S3.out.2.2.1,(World.cell?_setCell_other _ _ _ _ (by simp)).trans S3.out.2.2.2.1,(World.cell?_setCell_other _ _ _ _ (by simp)).trans S3.out.2.2.2.2⟩);have h5:=z38 (show Cb (w4.setCell ⟨r,12,none⟩ (.string ⟨(aW S c.au (aD c.ah).1 (aD c.ah).2).1.toArray⟩)) r fz v {c with bR:=(aW S c.au (aD c.ah).1 (aD c.ah).2).1} from aM.set MS 12 _);have h6:=z38 (show aj (·=r) w4 (w4.setCell ⟨r,12,none⟩ (.string ⟨(aW S c.au (aD c.ah).1 (aD c.ah).2).1.toArray⟩)) from (aj.refl (·=r) w4).setCell (p:=⟨r,12,none⟩) (.inl rfl) _);have h4:=z38 (y38 hT4 (y38 c4 MS));clear hT4 c4 MS))
 have kb5:=S4.out.1;have NP:=h5.out;have c5:=h6.out;clear S1 S2 S3 S4 h5 h6 g12 aP8 Gt Dc;generalize w4.setCell ⟨r,12,none⟩ (.string ⟨(aW S c.au (aD c.ah).1 (aD c.ah).2).1.toArray⟩)=w5 at kb5 NP c5 ⊢;have k14:w5.cell? ⟨r,14,none⟩=some v.wk:=NP.at (i:=14) rfl;have g14:w5.frozen? ⟨r,14,none⟩=false:=aM.frozen NP (hz 14 (by decide) (by decide) (by decide));have h7:=z38 (y38 NP c5);clear NP c5;go_wp2_with fail;go_ret;obtain ⟨NP,c5⟩:=h7.out;obtain ⟨hT4,c4,MS⟩:=h4.out;obtain ⟨c3,hT3,hmo,Rl,hpn⟩:=h3.out;obtain ⟨hxd,MV,hLd,Mt⟩:=Hx.out;obtain ⟨hbd,cwd⟩:=Hd.out;obtain ⟨h0,hT0,hL0⟩:=H0.out;have c6:aj (·=r) w5 (w5.setCell ⟨r,14,none⟩ (.func (.func 127) #[] #[.pointer (some ⟨w.heap.size,0,none⟩)])):=(aj.refl (·=r) w5).setCell (p:=⟨r,14,none⟩) (.inl rfl) _;have c46:=c5.trans c6;have cT:aj (λk=>k=r\/k=st\/De.tF mo mr k) wa.drew (w5.setCell ⟨r,14,none⟩ (.func (.func 127) #[] #[.pointer (some ⟨w.heap.size,0,none⟩)])):=
  ((c3.mono λ_ _ e=>e.elim).trans (c4.mono λ_ _ e=>.inr e)).trans (c46.mono λ_ _ e=>.inl e)
 have NK:∀k,k=st\/De.tF mo mr k->k≠r:=λk hk e=>hbo.out r (.inr (.inl rfl)) (e▸hk);have ru:Safe wa.drew (λk=>k=r\/k=st\/De.tF mo mr k):=λk cur T jo hk hb=>by
  rcases hk with rfl|hk|hk|hk
  ·exact hxd.safe k cur T jo (.inl rfl) hb
  ·subst hk;have:=MV.blk;unfold aM at this;rw [this] at hb;injection hb with hb;injection hb with _ hb _;subst hb;decide
  ·subst hk;exact absurd hb (MV.ah.eQ _ _ _)
  ·subst hk;obtain ⟨es,clock,kz,_⟩:=MV.refs;rw [kz] at hb;cases hb
 have nP:∀k,Fp r v k->k=r\/¬(k=r\/k=st\/De.tF mo mr k):=λk hk=>by
  by_cases e:k=r
  ·exact .inl e
  ·refine .inr ?_;rintro (e'|e'|e'|e')
   ·exact e e'
   ·subst e';exact hxd.off MV.blk (by decide) (by decide) (by decide) hk
   ·subst e';obtain ⟨mv,g1,_⟩:=MV.ah;exact hxd.gp g1 hk
   ·subst e';exact hxd.gp MV.refs hk
 have hm:=HN.out;refine ⟨rfl,{v with wk:=.func (.func 127) #[] #[.pointer (some ⟨w.heap.size,0,none⟩)]},⟨hxd.reb cT ru (aM.set NP 14 _) nP rfl rfl rfl rfl,⟨w.heap.size,rfl,hbd.aA cT ?_⟩⟩,hLd.aA cT ?_ ?_,hT4.aA c46 ?_ ?_ ?_ ?_,⟨rfl,rfl,rfl,rfl⟩,λk hk=>.inl hk,(cwd.mono λ_ _ e=>e.elim).trans cT⟩
 ·rintro (e|e)
  ·have:=aM.lt h0.cb;omega
  ·exact hbo.out _ (.inl rfl) e
 ·rintro (e|e|e|e)
  ·exact aM.ne hLd.blk hxd.cb (by decide) e
  ·exact aM.ne hLd.blk MV.blk (by decide) e
  ·obtain ⟨mv,g1,_⟩:=MV.ah;exact aM.dV hLd.blk g1 e
  ·exact aM.dV hLd.blk MV.refs e
 ·rintro (e|e|e|e)
  ·exact aM.dV hxd.cb hLd.map e.symm
  ·exact aM.dV MV.blk hLd.map e.symm
  ·exact hm.2.2.2.2.2.1 e
  ·exact hm.2.2.2.2.2.2.1 e
 ·intro k cur T jo hk hb;subst hk;have:=MS;unfold Cb aM at this;rw [this] at hb;injection hb with hb;injection hb with _ hb _;subst hb;decide
 ·exact NK _ (.inl rfl)
 ·exact NK _ (.inr (.inl rfl))
 ·exact NK _ (.inr (.inr rfl))
end Rx
