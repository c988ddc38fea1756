/- Races: a part. Conditions: none. -/
import Derived.Test.YtmanpggemmgnnaaGreatDoorA20
import Derived.Test.YtmanpggemmgnnaaGreatDoorA38
import Derived.Test.YtmanpggemmgnnaaGreatDoorA39
set_option linter.all false
set_option maxHeartbeats 8000000
set_option maxRecDepth 1000000
namespace Go.Proofs.YtmanpggemmgnnaaGreatDoor
noncomputable section
open Go Go.RowKit Go.Shelf Ba Fr
theorem d40 {p:Prop} (h:p:=by decide):p:=h
theorem k40 {p:Prop} (h:p:=by kernel_rfl):p:=h
theorem z40 {p:Prop} (h:p):Go.RowKit.Hid p:=Go.Lib.hid h
theorem y40 {a b:Prop} (x:a) (y:b):a/\b:=⟨x,y⟩
namespace Sp
open Tx
theorem MM:∀(k n:Nat),(pO k n).length=k
 |0,_=>rfl
 |k+1,n=>by simp [pO,MM k]
theorem YT (t:B):(dA t).length<=maxLen:=by unfold dA;rw [MM];decide
theorem XH {q:Bool} {s:Sv} {i:Nat} {x:Cn} (h:oW q s) (hz:yE s) (hx:s.ae[i]? =some x):De.AP s.st (aD x.ah).1:=by
 have hg:=sM (l:=x.ah);have hw:=sJ (h.cn i x hx).obj;have h1:∀y∈s.st.ah,y.2.length<=204/\(Tx.parse y.2).isSome=true:=λy hy=>⟨hz.st y hy,(h.st.own y hy).1⟩
 have h2:∀y∈(aD x.ah).1,y.2.length<=204/\(Tx.parse y.2).isSome=true:=λy hy=>⟨hz.cn i x hx _ (hg.1 y hy),(hw.own y hy).1⟩
 refine ⟨h1,h2,?_⟩;have Bl:∀t:B,t.length<=204/\(Tx.parse t).isSome=true->(bE t).length<=207:=by intro t ht;obtain ⟨o,ho⟩:=Option.isSome_iff_exists.1 ht.2;have:=De.BB ho;rw [(De.lS ho).1];omega
 have s1:((aD x.ah).1.map λy=>(bE y.2).length).sum<=207*(aD x.ah).1.length:=by
  have:=Iw (k:=207) ((aD x.ah).1.map λy=>(bE y.2).length) λn hn=>by
   obtain ⟨y,hy,rfl⟩:=List.mem_map.1 hn;exact Bl _ (h2 y hy)
  rwa [List.length_map] at this
 have s2:(s.st.ah.map λy=>(bE y.2).length).sum<=207*s.st.ah.length:=by
  have:=Iw (k:=207) (s.st.ah.map λy=>(bE y.2).length) λn hn=>by
   obtain ⟨y,hy,rfl⟩:=List.mem_map.1 hn;exact Bl _ (h1 y hy)
  rwa [List.length_map] at this
 have:=h.st.room;have:=hz.room;have:=(h.cn i x hx).I5;have:=hg.2;unfold fuel;omega
end Sp
namespace Re
open Tx Sp Wg Rd Bk Wi Se Rx Mp De Lo
structure WR (w:World) (s:Nat) (C:Cp) (m:Int) (fz:Nat×Nat) (i r:Nat) (v:Cv) (S':Sv) (v':Cv) (w':World):Prop where
 rep:gT w' s (C.iQ i v') m S' fz
 same:v'.i=v.i/\v'.s=v.s/\v'.o=v.o/\v'.a=v.a
 fp:∀k,Fp r v' k->Fp r v k\/w.heap.size<=k
 aA:aj (Tf r v C) w w'
section
variable {q:Bool} {w w':World} {s i r:Nat} {C:Cp} {m:Int} {S:Sv} {fz:Nat×Nat} {v v':Cv} {x c':Cn} {VG:M Nat}
theorem gT.zX (h:gT w s C m S fz) (hr:C.rs[i]? =some r) (hv:C.vs[i]? =some v) (hx:S.ae[i]? =some x) (P:aAB w r fz v C.lk C.lb c' VG v' w'):WR w s C m fz i r v {S with aP:=VG,ae:=S.ae.set i c'} v' w':=by
 have hc:aj (Tf r v C) w w':=P.aA.mono λk _ e=>by
  rcases e with e|e|e
  ·exact .inl e
  ·exact .inr (.inl e)
  ·exact .inr (.inr (.inl e))
 have wX:=(h.cn i r v x hr hv hx).1.cx;have ru:Rx.Safe w (λk=>Fp r v k\/k=C.lk\/k=C.lb):=λk cur T jo hk hb=>by
  rcases hk with hk|hk
  ·exact wX.safe k cur T jo hk hb
  ·exact jW h.nO k cur T jo hk hb
 have dN:qZ w' C.st C.mo C.mr 0 S.st:=by
  refine h.jC.aA P.aA ru ?_ ?_ ?_
  ·rintro (e|e|e)
   ·exact wX.off h.jC.blk d40 d40 d40 e
   ·exact aM.ne h.jC.blk h.nO.blk d40 e
   ·exact aM.dV h.jC.blk h.nO.map e
  ·obtain ⟨mv,h1,_⟩:=h.jC.ah;rintro (e|e|e)
   ·exact wX.gp h1 e
   ·exact aM.dV h.nO.blk h1 e.symm
   ·exact h.maps.1 e.symm
  ·rintro (e|e|e)
   ·exact wX.gp h.jC.refs e
   ·exact aM.dV h.nO.blk h.jC.refs e.symm
   ·exact h.maps.2.1 e.symm
 exact ⟨h.iQ hr hv hx P.cw P.lk dN P.same P.fp hc,P.same,P.fp,hc⟩
theorem V7 (h:gT w s C m S fz) (hI:oW q S) (hZ:yE S) (hz:Fz fz) (hr:C.rs[i]? =some r) (hv:C.vs[i]? =some v) (hx:S.ae[i]? =some x) (ho:x.over=false) (k:Co.dR) (hk:k.r=r):
 ∃W:Co.jm,v.wk=W.val k/\Calls Tq.prog W.fn (W.args k) w λe w'=>∃v',e=.returned (.int .i64 (S.work i x).2)/\WR w s C m fz i r v (S.work i x).1 v' w':=by
 subst hk;obtain ⟨qX,hvi,EE⟩:=h.cn i _ v x hr hv hx;have nk:=hI.cn i x hx;have aI:i<S.ae.length:=(List.getElem?_eq_some_iff.1 hx).1;have Zy:=hI.Bl;have hlf:=hI.Gy;have oJ:=h.low i _ v hr hv;have hS:Sr w v.s C.st C.lk m C.cb C.rs:=EE▸h.sr;have EF:x.rest.length<=600:=Nat.le_trans nk.rest nk.nL;have wk:=qX.wk;unfold FE at wk;cases hw:x.work with
 |none=>rw [(nk.over hw).1] at ho;cases ho
 |some y=>
  rw [hw] at wk;cases y with
  |read=>
   refine ⟨.read,wk.1,?_⟩;have Mt:=KU nk hw;cases he:x.aV.1 with
   |more=>
    have e:S.work i x=(Sv.set {S with aP:=S.aP} i x.aV.2,0):=by
     unfold Sv.work;rw [hw];dsimp only;split
     ·rename_i d e;rw [e] at he;cases he
     ·rename_i d e;rw [e]
     ·rename_i d e;rw [e] at he;cases he
    rw [e];refine (TY C.p C.ev w k.r fz v x C.lk C.lb S.aP qX h.nO hz h.gl oJ EF nk.Dw nk.I5 he).mono ?_;rintro e w' ⟨rfl,v',P⟩;exact ⟨v',rfl,h.zX hr hv hx P⟩
   |refused wd=>
    have e:S.work i x=(Sv.set {S with aP:=give S.aP i} i {x.aV.2 with bR:=dB++wd++nl,bK:=true,work:=none},1):=by
     unfold Sv.work;rw [hw];dsimp only;split
     ·rename_i d e;rw [e] at he ⊢;cases he;rfl
     ·rename_i d e;rw [e] at he;cases he
     ·rename_i d e;rw [e] at he;cases he
    rw [e];refine (IM C.p C.ev w k.r fz v x C.lk C.lb S.aP C.st m C.cb C.rs wd qX h.nO hS hz h.gl oJ EF nk.Dw nk.I5 (by omega) (by omega) he).mono ?_;rintro e w' ⟨rfl,v',P⟩;rw [hvi] at P;exact ⟨v',rfl,h.zX hr hv hx P⟩
   |ok=>
    have e:S.work i x=(Sv.set {S with aP:=S.aP} i (if x.aV.2.done then {x.aV.2 with aY:=(x.aV.2.aY++x.aV.2.au.map (·.ref)).mergeSort uH,work:=some .lock} else x.aV.2),1):=by
     unfold Sv.work;rw [hw];dsimp only;split
     ·rename_i d e;rw [e] at he;cases he
     ·rename_i d e;rw [e] at he;cases he
     ·rename_i d e;rw [e]
    rw [e];cases hd:x.aV.2.done with
    |false=>refine (aBX C.p C.ev w k.r fz v x C.lk C.lb S.aP qX h.nO hz h.gl oJ EF nk.Dw nk.I5 he hd).mono ?_;rintro e w' ⟨rfl,v',P⟩;exact ⟨v',rfl,h.zX hr hv hx P⟩
    |true=>
     refine (TZ C.p C.ev w k.r fz v x C.lk C.lb S.aP qX h.nO hz h.gl oJ EF nk.Dw nk.I5 he hd Mt.ok.Dw hw).mono ?_;rintro e w' ⟨rfl,v',P⟩;exact ⟨v',rfl,h.zX hr hv hx P⟩
  |lock=>
   refine ⟨.lock,wk.1,?_⟩;cases BD:x.aY with
   |nil=>
    have e:S.work i x=(Sv.set {S with st:=(aW S.st x.au (aD x.ah).1 (aD x.ah).2).2,aP:=S.aP} i {x with bR:=(aW S.st x.au (aD x.ah).1 (aD x.ah).2).1,work:=some .fin},1):=by unfold Sv.work;rw [hw];dsimp only;rw [BD]
    rw [e];have hg:=sM (l:=x.ah);have hgw:=sJ nk.obj;refine (LB w k.r fz v x C.lk C.lb S.aP C.st C.mo C.mr m C.cb C.rs S.st qX.cx wk.2 BD h.nO hS h.jC hz nk.Dw nk.I5 (by have:=hg.2;have:=nk.I5;omega) (by have:=hI.st.room;have:=hZ.room;omega) (by have:=hI.K5;omega)
     (λc hc=>by have:=QS (nk.cmd c hc).2.2;have h2:=(nk.cmd c hc).2.1;unfold oH at h2;simp only [Bool.and_eq_true,decide_eq_true_eq] at h2;exact ⟨by omega,by omega⟩)
     (λy hy=>by rw [<-(hgw.own y hy).2];exact YT _) h.maps.1 h.maps.2.1 h.maps.2.2 (XH hI hZ hx)).mono ?_
    rintro e w' ⟨rfl,v',p1,p2,p3,p4,p5,p6⟩;have hc:aj (Tf k.r v C) w w':=p6.mono λj _ e=>by
     rcases e with e|e|e|e
     ·exact .inl (.inl e)
     ·exact .inr (.inr (.inr (.inl e)))
     ·exact .inr (.inr (.inr (.inr (.inl e))))
     ·exact .inr (.inr (.inr (.inr (.inr e))))
    exact ⟨v',rfl,h.iQ hr hv hx p1 p2 p3 p4 p5 hc,p4,p5,hc⟩
   |cons y ys=>
    have hyl:y.length<=maxLen:=by have h1:=(nk.lock hw).2.1 y (by rw [BD];exact List.mem_cons_self ..);obtain ⟨c,hc,rfl⟩:=List.mem_map.1 h1;have:=QS (nk.cmd c hc).2.2;exact Nat.le_trans this d40
    by_cases hg:(S.aP.get y).getD 0=0
    ·have e:S.work i x=(Sv.set {S with aP:=S.aP.put y (i+1)} i {x with aY:=ys},1):=by
      unfold Sv.work;rw [hw];dsimp only;rw [BD];dsimp only;rw [if_pos hg]
     rw [e];refine (YL w k.r fz v x C.lk C.lb S.aP C.st m C.cb C.rs y ys qX.cx wk.2 BD h.nO hS hyl (by omega) hg hz (by omega) hw wk.1).mono ?_;rintro e w' ⟨rfl,v',P⟩;rw [hvi] at P;exact ⟨v',rfl,h.zX hr hv hx P⟩
    ·have e:S.work i x=(S,0):=by
      unfold Sv.work;rw [hw];dsimp only;rw [BD];dsimp only;rw [if_neg hg]
     rw [e];refine (aCf w k.r fz v x C.lk C.lb S.aP C.st m C.cb C.rs y ys qX.cx wk.2 BD h.nO hS hyl (by omega) hg hw wk.1).mono ?_;rintro e w' ⟨rfl,v',P⟩;have:=h.zX hr hv hx P;rw [xK hx] at this;exact ⟨v',rfl,this⟩
  |fin=>
   obtain ⟨bx,h1,h2⟩:=wk;refine ⟨.fin bx,h1,?_⟩;have e:S.work i x=(Sv.set {S with aP:=give S.aP i} i {x with bK:=true,work:=none},1):=by unfold Sv.work;rw [hw]
   rw [e];refine (aC3 w k.r bx fz v x C.lk C.lb S.aP C.st m C.cb C.rs qX.cx h2 h.nO hS hz (by omega) (by omega)).mono ?_;rintro e w' ⟨rfl,v',P⟩;rw [hvi] at P;exact ⟨v',rfl,h.zX hr hv hx P⟩
theorem UK (h:gT w s C m S fz) (hI:oW q S) (hz:Fz fz) (hr:C.rs[i]? =some r) (hv:C.vs[i]? =some v) (hx:S.ae[i]? =some x):
 Calls Tq.prog 72 #[aG r] w λe w'=>∃v',e=.returned (.tuple #[])/\WR w s C m fz i r v (S.lI i x) v' w':=by
 obtain ⟨qX,hvi,EE⟩:=h.cn i _ v x hr hv hx;have aI:i<S.ae.length:=(List.getElem?_eq_some_iff.1 hx).1;have Zy:=hI.Bl;have hlf:=hI.Gy;have hS:Sr w v.s C.st C.lk m C.cb C.rs:=EE▸h.sr;refine (zu w C.lk C.lb r S.aP fz v x C.st m C.cb C.rs h.nO qX.cx.cb hS hz (by omega) (by omega)).mono ?_;rintro e w' ⟨rfl,hl,hb,hc⟩;rw [hvi] at hl;have hx4:Cx w' r fz {v with wk:=.nilFunc} {x with work:=none}:=qX.cx.reb hc (Gz qX.cx h.nO) hb (LA qX.cx h.nO) rfl rfl rfl rfl;have P:aAB w r fz v C.lk C.lb {x with work:=none} (give S.aP i) {v with wk:=.nilFunc} w':=⟨⟨hx4,rfl⟩,hl,⟨rfl,rfl,rfl,rfl⟩,λk hk=>.inl hk,hc.mono λk _ e=>by
  rcases e with e|e|e
  ·exact .inr (.inl e)
  ·exact .inr (.inr e)
  ·exact .inl (.inl e)⟩
 exact ⟨_,rfl,h.zX hr hv hx P⟩
end
end Re
namespace Re
open Tx Sp Wg Rd Bk Wi Se Rx Mp De Lo
def aBD (st lk:Nat):Array Value:=#[.int .i32 0,.int .u32 0,aG st,aG lk,.slice none 0 0,.int .u64 0,.int .u32 0,.bool false]
theorem aCc (w:World) (fw:Bool) (room:Nat):Calls Tq.prog 15 #[.bool fw,.int .i64 room] w λe w'=>e=.returned (aG (w.heap.size+5))/\w'.heap[w.heap.size+5]? =some (.cells (aBD (w.heap.size+2) (w.heap.size+4)) 79 (0,0))/\
 aM w' (w.heap.size+2) #[.int .i32 0,.int .u32 0,.bool fw,.int .i64 room,.map (some w.heap.size),.map (some (w.heap.size+1))] 65 (0,0)/\aM w' (w.heap.size+4) #[.int .i32 0,.int .u32 0,.map (some (w.heap.size+3))] 69 (0,0)/\
 SM w' w.heap.size []/\SM w' (w.heap.size+1) []/\SM w' (w.heap.size+3) []/\Below w.heap.size w w':=by
 have hm:(if (room:Int)<0 then (0:Int) else room)=room:=if_neg (by omega);have hmm:=@run_makeMap Tq.prog;unfold aG;go_enter Tq.func15,Tryz.ntmps15;go_wp2_with fail;go_ret;refine ⟨rfl,?_,?_,?_,?_,?_,?_,?_⟩
 ·rw [Lv.aO,if_pos (by simp only [World.size_alloc])];rfl
 ·unfold aM;rw [Lv.aO,if_neg (by simp only [World.size_alloc]<;>omega),Lv.aO,if_neg (by simp only [World.size_alloc]<;>omega),Lv.aO,if_neg (by simp only [World.size_alloc]<;>omega),Lv.aO,if_pos (by simp only [World.size_alloc])]
 ·unfold aM;rw [Lv.aO,if_neg (by simp only [World.size_alloc]<;>omega),Lv.aO,if_pos (by simp only [World.size_alloc])]
 ·exact (SM.made w).block (by rw [Lv.aO,if_neg (by simp only [World.size_alloc]<;>omega),Lv.aO,if_neg (by simp only [World.size_alloc]<;>omega),Lv.aO,if_neg (by simp only [World.size_alloc]<;>omega),Lv.aO,if_neg (by simp only [World.size_alloc]<;>omega),Lv.aO,if_neg (by simp only [World.size_alloc]<;>omega)])
 ·have:=SM.made (w.alloc (.map #[] 0));rw [World.size_alloc] at this;exact this.block (by rw [Lv.aO,if_neg (by simp only [World.size_alloc]<;>omega),Lv.aO,if_neg (by simp only [World.size_alloc]<;>omega),Lv.aO,if_neg (by simp only [World.size_alloc]<;>omega),Lv.aO,if_neg (by simp only [World.size_alloc]<;>omega)])
 ·have:=SM.made (((w.alloc (.map #[] 0)).alloc (.map #[] 0)).alloc (.cells #[.int .i32 0,.int .u32 0,.bool fw,.int .i64 room,.map (some w.heap.size),.map (some (w.heap.size+1))] 65));rw [World.size_alloc,World.size_alloc,World.size_alloc] at this;exact this.block (by rw [Lv.aO,if_neg (by simp only [World.size_alloc]<;>omega),Lv.aO,if_neg (by simp only [World.size_alloc]<;>omega)])
 ·exact ((((((Below.refl _ _).alloc (Nat.le_refl _) _).alloc (by simp) _).alloc (by simp;omega) _).alloc (by simp;omega) _).alloc (by simp;omega) _).alloc (by simp;omega) _
end Re
section
open Go.Conc
namespace Re
open Tx Sp Wg Rd Bk Wi Se Rx Mp De Lo Co Ka
def aJN:ResultVar->Bool
 | .tmp _=>true
 |_=>false
theorem qg {l:Array ResultVar} (h:l.all aJN=true):∀r∈l,∃t,r=.tmp t:=λr hr=>by
 rw [Array.all_eq_true_iff_forall_mem] at h;have:=h r hr;cases r<;>first|exact ⟨_,rfl⟩|cases this
structure Kp (T:Nat->Prop) (w w':World):Prop where
 os:w'.os=w.os/\w'.output=w.output
 size:w.heap.size<=w'.heap.size
 keep:∀(k:Nat) (o:Obj),w.heap[k]? =some o->¬T k->w'.heap[k]? =some o
structure Fm (s:Nat) (C:Cp) (w:World) (C':Cp) (w':World):Prop where
 kp:Kp (jB s C) w w'
 wo:∀k,jB s C' k->jB s C k\/w.heap.size<=k
theorem Fm.refl (s:Nat) (C:Cp) (w:World):Fm s C w C w:=⟨⟨⟨rfl,rfl⟩,Nat.le_refl _,λ_ _ h _=>h⟩,λ_ h=>.inl h⟩
theorem Fm.trans {s:Nat} {C C' C'':Cp} {w w' w'':World} (h:Fm s C w C' w') (k:Fm s C' w' C'' w''):Fm s C w C'' w'' where
 kp:=⟨⟨k.kp.os.1.trans h.kp.os.1,k.kp.os.2.trans h.kp.os.2⟩,Nat.le_trans h.kp.size k.kp.size,λb o hb hn=>k.kp.keep b o (h.kp.keep b o hb hn) (λe=>by
  have:=(Array.getElem?_eq_some_iff.1 hb).1;rcases h.wo b e with e|e
  ·exact hn e
  ·omega)⟩
 wo b hb:=by
  rcases k.wo b hb with e|e
  ·exact h.wo b e
  ·exact .inr (Nat.le_trans h.kp.size e)
theorem Kp.row {T:Nat->Prop} {w w':World} (h:Kp T w w') {B E z n:Nat} {v:Value} {xs:List Value} (hv:w.ownsRow B E z v n xs) (hn:∀k,v.ownBlock=some k->¬T k):w'.ownsRow B E z v n xs:=by
 obtain ⟨hl,hc⟩:=hv;refine ⟨hl,?_⟩;rcases hc with hc|⟨g,cap,cur,rfl,h1,h2,h3⟩
 ·exact .inl hc
 ·exact .inr ⟨g,cap,cur,rfl,h1,h.keep g _ h2 (hn g rfl),h3⟩
structure Old where
 n:Nat
 lq:Nat->Option Obj
structure Gh.Lo (Z:Gh) (ν:Old):Prop where
 ge:∀k,Z.bP k\/Z.iq k\/Z.rW k\/(Z.nch k/\Z.lq k=none)->ν.n<=k
 lq:Z.lq=ν.lq
 lt:∀k x,ν.lq k=some x->k<ν.n
theorem Gh.Lo.none {Z:Gh} {ν:Old} (h:Gh.Lo Z ν) {k:Nat} (hk:ν.n<=k):Z.lq k=Option.none:=by
 rw [h.lq];cases e:ν.lq k with
 |none=>rfl
 |some x=>have:=h.lt k x e;omega
section
variable {Post:Value->World->Prop} {K:Cy} {wv:World} {cs:List Frame} {ν:Old} {q:Bool} {s:Nat} {C:Cp} {m:Int} {S:Sv}
theorem aAn {w:World} {Z:Gh} {fz:Nat×Nat} (h:gT w s C m S fz) (hs:Z.bP s) {r:Nat} (hr:¬Z.bP r) {c:Array Value} {t:TypeId} {jo:Nat×Nat} (hb:w.heap[r]? =some (.cells c t jo)) (ht:tyC t) (hn:r∉C.rs):¬jB s C r:=λhk=>by
 rcases h.types hk hb with ⟨rfl,_⟩|⟨_,rfl⟩|⟨_,rfl⟩|⟨_,rfl⟩|⟨e,_⟩|rfl|rfl
 ·exact hr hs
 ·rcases ht with e|e<;>cases e
 ·rcases ht with e|e<;>cases e
 ·rcases ht with e|e<;>cases e
 ·exact hn e
 ·rcases ht with e|e<;>cases e
 ·rcases ht with e|e<;>cases e
theorem WV.rep (aH:K.Ok) (bY:K.Z.Wf) (vW:gT wv s C m S (1,11)) (nk:∀r∈C.rs,K.Z.iq r/\¬K.Z.bP r) (hs:K.Z.bP s) {f:FuncId} {args:Array Value} {fr:Frame} {fn:Func} {c:Code}
 (hf:Tryz.prog.funcs[f]? =some fn) (hk:keep f=true) (hb:fn.body=some c) (iO:∀r∈fn.results,∃t,r=.tmp t)
 (R:Value->Cp->Sv->World->Prop) (hR:∀v C' S' w w',Alike w w'->R v C' S' w->R v C' S' w')
 (ve:∀fz w,(fz=(1,2)\/fz=(9,11))->Alike wv w->w.heap.size=wv.heap.size->gT w s C m S fz->Calls Tq.prog f args w λe w'=>∃v C' S',e=.returned v/\R v C' S' w'/\CR w s C m fz S' C' w')
 (hn:∀v C' S' w',R v C' S' w'->C'.rs=C.rs->gT w' s C' m S' (1,11)->Fm s C wv C' w'->WV Post K w' (fr.finish v) cs):WV Post K wv (Frame.enter Tryz.prog f args .normal) (fr::cs):=λw hv=>by
 have hz:Frz K.Z wv (1,11):=aGQ hv bY;have uw:∀ψ,Frz K.Z (K.Z.rc ψ wv) (Vg ψ):=λψ r hc yO=>by
  obtain ⟨c,t,e,ht⟩:=hz r hc yO;refine ⟨c,t,?_,ht⟩;rw [oG,e];simp only [Option.map_some];rw [if_pos ⟨hc,yO⟩]
 have aI:∀r,K.Z.iq r->¬K.Z.bP r->r<wv.heap.size:=λr hc yO=>by
  obtain ⟨c,t,e,_⟩:=hz r hc yO;exact (Array.getElem?_eq_some_iff.1 e).1
 have bW:∀ψ,(K.Z.rc ψ wv).heap.size=wv.heap.size:=λψ=>by simp [Gh.rc]
 refine WV.unit aH bY hf hk hb iO (λv w'=>∃C' S',R v C' S' w'/\C'.rs=C.rs/\gT w' s C' m S' (1,2)/\(∀k,jB s C' k->jB s C k\/wv.heap.size<=k)/\wv.heap.size<=w'.heap.size/\(w'.os=wv.os/\w'.output=wv.output)/\∀k,k<wv.heap.size->¬jB s C k->w'.heap[k]? =(K.Z.rc 0 wv).heap[k]?)
  ?_ (λτ d=>?_) (λτ d=>?_) ?_ w hv
 ·rintro v w' τ d ⟨C',S',h1,h2,h3,h4,h5,ho,h6⟩;exact ⟨C',S',hR _ _ _ _ _ Ex.1 h1,h2,h3.QZ,h4,h5,ho,h6⟩
 ·refine (ve (1,2) (re (K.Z.rc 0 wv) τ d) (.inl rfl) (λb o h hp=>xR (ψ:=0) hz d40 b o h hp) (bW 0) (gT.re (vW.rc (ψ:=0) hz d40 nk))).mono ?_;rintro e w' ⟨v,C',S',rfl,h1,h2⟩;refine ⟨v,rfl,C',S',h1,h2.rs,h2.rep,λk hk=>?_,?_,⟨h2.aA.os,h2.aA.output⟩,λk hk hnk=>?_⟩
  ·rcases h2.wo k hk with e|e
   ·exact .inl e
   ·exact .inr ((bW 0)▸e)
  ·exact (bW 0)▸h2.aA.size
  ·exact h2.aA.block k (show k<(K.Z.rc 0 wv).heap.size by rw [bW 0];exact hk) hnk
 ·refine (ve (9,11) (re (K.Z.rc 1 wv) τ d) (.inr rfl) (λb o h hp=>xR (ψ:=1) hz d40 b o h hp) (bW 1) (gT.re (vW.rc (ψ:=1) hz d40 nk))).mono ?_;rintro e w' ⟨v,C',S',rfl,_⟩;exact ⟨v,rfl,trivial⟩
 ·rintro v w' ⟨C',S',h1,h2,h3,h4,h5,ho,h6⟩;have hz':Frz K.Z w' (1,2):=λr hc yO=>by
   by_cases hr:r∈C.rs
   ·rw [<-h2] at hr;obtain ⟨i,hi⟩:=List.mem_iff_getElem?.1 hr;obtain ⟨x,hx⟩:=oO (l:=S'.ae) (i:=i) (by rw [<-h3.len];exact (List.getElem?_eq_some_iff.1 hi).1);obtain ⟨r',v',jf,iM,qX,_⟩:=h3.conn hx;rw [hi] at jf;obtain rfl:=Option.some.inj jf;exact ⟨_,_,qX.cx.cb,.inr rfl⟩
   ·obtain ⟨c,t,e,ht⟩:=uw 0 r hc yO;have hl:=aI r hc yO;obtain ⟨c',t',e',ht'⟩:=hz r hc yO;refine ⟨c,t,?_,ht⟩;rw [h6 r hl (aAn vW hs yO e' ht' hr)];exact e
  have zH:Alike w' (K.Z.rc 2 w'):=xR hz' d40;refine hn v C' S' (K.Z.rc 2 w') (hR _ _ _ _ _ zH h1) h2 (h3.rc (ψ:=2) hz' d40 (by rw [h2];exact nk)) ⟨⟨ho,?_,λk o ho hnk=>?_⟩,h4⟩
  ·have:(K.Z.rc 2 w').heap.size=w'.heap.size:=by simp [Gh.rc]
   rw [this];exact h5
  ·have hl:=(Array.getElem?_eq_some_iff.1 ho).1;rw [oG,h6 k hl hnk,oG,ho];by_cases hc:K.Z.iq k/\¬K.Z.bP k
   ·obtain ⟨c,t,e,_⟩:=hz k hc.1 hc.2;rw [ho] at e;obtain rfl:=Option.some.inj e;simp only [Option.map_some,if_pos hc];rfl
   ·simp only [Option.map_some,if_neg hc]
structure bI (ν:Old) (q:Bool) (m:Int) (K:Cy) (C:Cp) (S:Sv) (w:World):Prop where
 ok:K.Ok
 wf:K.Z.Wf
 h0:K.h=0
 b0:0<K.b
 mn:K.m=K.n
 nn:K.n=K.b+S.ae.length
 bP:K.Z.bP K.s
 Dl:S.over=false->¬K.Z.Dl K.s
 yS:∀ρ μ,K.R ρ μ
 low:∀j,0<j->j<K.b->K.σ j=none
 hi:∀j,K.n<=j->K.Z.own j=none
 Qa:∀c,K.Z.cls c->K.Z.rW c
 OQ:∀r,K.Z.Dl r->K.Z.bP r
 own:∀(i r:Nat) (x:Cn),C.rs[i]? =some r->S.ae[i]? =some x->∃k,K.Z.own (K.b+i)=some k/\k.s=K.s/\k.r=r/\(x.over=false->K.σ (K.b+i)=some (yM k)/\¬K.Z.cls k.o)/\(x.over=true->K.σ (K.b+i)=none)
 lo:Gh.Lo K.Z ν
 rep:gT w K.s C m S (1,11)
 sw:oW q S
 ES:yE S
theorem bI.cns (h:bI ν q m K C S wv):∀r∈C.rs,K.Z.iq r/\¬K.Z.bP r:=λr hr=>by
 obtain ⟨i,hi⟩:=List.mem_iff_getElem?.1 hr;obtain ⟨x,hx⟩:=oO (l:=S.ae) (i:=i) (by rw [<-h.rep.len];exact (List.getElem?_eq_some_iff.1 hi).1);obtain ⟨k,hk,_,rfl,_⟩:=h.own i r x hi hx;exact ⟨⟨_,k,hk,rfl⟩,h.wf.apart _ k hk⟩
theorem bI.iQ (h:bI ν q m K C S wv) {C':Cp} {S':Sv} {w':World} (hr:C'.rs=C.rs) {m':Int} (vW:gT w' K.s C' m' S' (1,11)) (hI:oW q S') (hZ:yE S') (ho:S'.over=S.over) (hl:S'.ae.length=S.ae.length) (hx:∀(i:Nat) (x:Cn),S'.ae[i]? =some x->∃y,S.ae[i]? =some y/\x.over=y.over):bI ν q m' K C' S' w' where
 ok:=h.ok
 wf:=h.wf
 h0:=h.h0
 b0:=h.b0
 mn:=h.mn
 nn:=hl▸h.nn
 bP:=h.bP
 Dl e:=h.Dl (ho▸e)
 yS:=h.yS
 low:=h.low
 hi:=h.hi
 Qa:=h.Qa
 OQ:=h.OQ
 lo:=h.lo
 own i r x hi hxi:=by obtain ⟨y,hy,e⟩:=hx i x hxi;rw [e];exact h.own i r y (hr▸hi) hy
 rep:=vW
 sw:=hI
 ES:=hZ
theorem XI {l:List Cn} {i:Nat} {x d:Cn} (hx:l[i]? =some x) (ho:d.over=x.over):∀(j:Nat) (y:Cn),(l.set i d)[j]? =some y->∃z,l[j]? =some z/\y.over=z.over:=λj y hy=>by
 rcases jR hy with ⟨rfl,rfl⟩|⟨_,hy⟩
 ·exact ⟨x,hx,ho⟩
 ·exact ⟨y,hy,rfl⟩
theorem PW (S:Sv) (c:Int) (t:B):(S.feed c t).1.ae.length=S.ae.length/\(S.feed c t).1.over=S.over/\∀(i:Nat) (x:Cn),(S.feed c t).1.ae[i]? =some x->∃y,S.ae[i]? =some y/\x.over=y.over:=by
 unfold Sv.feed;split
 ·exact ⟨rfl,rfl,λi x hx=>⟨x,hx,rfl⟩⟩
 ·rename_i i x e;split
  ·exact ⟨rfl,rfl,λi x hx=>⟨x,hx,rfl⟩⟩
  ·exact ⟨List.length_set ..,rfl,XI (jc e).2.1 rfl⟩
theorem ZX {fz:Nat×Nat} (h:fz=(1,2)\/fz=(9,11)):Fz fz:=by
 rcases h with rfl|rfl
 ·exact aQa
 ·exact aP9
theorem bI.feed (h:bI ν q 0 K C S wv) {fr:Frame} (c:Int) (t:ByteArray) (ht:t.size<=4611686018427387904)
 (hn:∀C' w',bI ν q 0 K C' (S.feed c t.data.toList).1 w'->Fm K.s C wv C' w'->WV Post K w' (fr.finish (.bool (S.feed c t.data.toList).2)) cs):WV Post K wv (Frame.enter Tryz.prog 25 #[aG K.s,.int .i64 c,.string t] .normal) (fr::cs):=by
 refine WV.rep h.ok h.wf h.rep h.cns h.bP (f:=25) (Tryz.func25) d40 rfl (qg k40) (λv _ S' _=>v=.bool (S.feed c t.data.toList).2/\S'=(S.feed c t.data.toList).1) (λ_ _ _ _ _ _ e=>e) (λfz w hf _ _ hr=>?_) ?_
 ·refine (Z6 hr h.sw (ZX hf) c t ht).mono ?_;rintro e w' ⟨C',rfl,hc⟩;exact ⟨_,C',_,rfl,⟨rfl,rfl⟩,hc⟩
 ·rintro v C' S' w' ⟨rfl,rfl⟩ Ao hr hf;have hc:=PW S c t.data.toList;exact hn C' w' (h.iQ Ao hr (h.sw.feed c _) (h.ES.feed c _) hc.2.1 hc.1 hc.2.2) hf
theorem bI.bR (h:bI ν q 0 K C S wv) {fr:Frame} (c:Int)
 (hn:∀C' w',bI ν q 0 K C' S w'->Fm K.s C wv C' w'->WV Post K w' (fr.finish (.tuple #[av (S.bR c).1,.bool (S.bR c).2])) cs):WV Post K wv (Frame.enter Tryz.prog 29 #[aG K.s,.int .i64 c] .normal) (fr::cs):=by
 refine WV.rep h.ok h.wf h.rep h.cns h.bP (f:=29) (Tryz.func29) d40 rfl (qg k40) (λv _ S' _=>v=.tuple #[av (S.bR c).1,.bool (S.bR c).2]/\S'=S) (λ_ _ _ _ _ _ e=>e) (λfz w hf _ _ hr=>?_) ?_
 ·refine (TT hr h.sw c).mono ?_;rintro e w' ⟨rfl,hc⟩;exact ⟨_,C,_,rfl,⟨rfl,rfl⟩,hc⟩
 ·rintro v C' S' w' ⟨rfl,rfl⟩ Ao hr hf;exact hn C' w' (h.iQ Ao hr h.sw h.ES rfl rfl λi x hx=>⟨x,hx,rfl⟩) hf
end
end Re
end
section
open Go.Conc
open Go.ConcN (upd upd_ne upd_same)
namespace Re
open Tx Sp Wg Rd Bk Wi Se Rx Mp De Lo Co Ka Kv Ky
theorem Kp.ofC {T:Nat->Prop} {w w':World} (h:Fr.aj T w w'):Kp T w w':=⟨⟨h.os,h.output⟩,h.size,λk o hk hn=>(h.block k (Array.getElem?_eq_some_iff.1 hk).1 hn).trans hk⟩
theorem Kg {C:Cut} {w wa:World} {τ:Nat->Question->Nat} {d:Nat} (h:Vw C (re w τ d) wa):Vw C w wa:=⟨h.size,h.os,h.same,h.cut,h.chan,h.plain,h.loops⟩
section
variable {Post:Value->World->Prop} {K:Cy} {wv:World} {cs:List Frame} {ν:Old} {q:Bool} {s:Nat} {C:Cp} {m:Int} {S:Sv} {C0:Frame}
theorem WV.uM (aH:K.Ok) (bY:K.Z.Wf) (n:Nat) {fr:Frame} {csl:List Frame} {an:List An} {wv':World} (h:bV (Ky.walk Tryz.prog n fr csl an)=true) (hb:nC Tryz.prog (K.cut 2) (thin (bM Tryz.prog n fr csl an)) wv wv' 0 0) (hn:WV Post K wv' (aR Tryz.prog n fr csl an) (bu Tryz.prog n fr csl an++cs)):WV Post K wv fr (csl++cs):=
 λ_ hv=>WT.uM aH bY n h hb (λw' iM=>hn w' iM) hv
theorem WV.pure (aH:K.Ok) (bY:K.Z.Wf) {f:FuncId} {args:Array Value} {fr:Frame} {fn:Func} {c:Code} (hf:Tryz.prog.funcs[f]? =some fn) (hk:keep f=true) (hb:fn.body=some c) (iO:∀r∈fn.results,∃t,r=.tmp t) (V:Value)
 (ve:∀τ d,Calls Tq.prog f args (re wv τ d) λe w'=>e=.returned V/\∃τ d,w'=re wv τ d) (hn:WV Post K wv (fr.finish V) cs):WV Post K wv (Frame.enter Tryz.prog f args .normal) (fr::cs):=by
 refine WV.aDx aH bY hf hk hb iO (λv w'=>v=V/\∃τ d,w'=re wv τ d) ?_ (λτ d=>(ve τ d).mono ?_) ?_
 ·rintro v w τ d ⟨rfl,τ',d',e⟩;exact ⟨rfl,w.tape,w.drawn,(show w=re (re w τ d) w.tape w.drawn from rfl).trans (by rw [e];rfl)⟩
 ·rintro e w' ⟨rfl,h⟩;exact ⟨_,rfl,rfl,h⟩
 ·rintro v wv' ⟨rfl,τ,d,rfl⟩;exact λw hv=>hn w (Kg hv)
theorem WV.lock (aH:K.Ok) (bY:K.Z.Wf) {a:Addr} {fr:Frame} (hm:jV fr.mode) (hc:wv.cell? a=some (.int .i32 0)) (hf:wv.frozen? a=false) (hn:WV Post K (wv.setCell a (.int .i32 1)) (fr.finish (.tuple #[])) cs):WV Post K wv (Frame.enter Tryz.prog 38 #[.pointer (some a)] .normal) (fr::cs):=λ_ hv=>WT.lock aH bY hm hc hf (λw' iM=>hn w' iM) hv
theorem WV.unlock (aH:K.Ok) (bY:K.Z.Wf) {a:Addr} {fr:Frame} (hm:jV fr.mode) (hc:wv.cell? a=some (.int .i32 1)) (hf:wv.frozen? a=false) (hn:WV Post K (wv.setCell a (.int .i32 0)) fr cs):WV Post K wv (Frame.enter Tryz.prog 39 #[.pointer (some a)] .deferred) (fr::cs):=λ_ hv=>WT.unlock aH bY hm hc hf (λw' iM=>hn w' iM) hv
theorem bI.look (h:bI ν q m K C S wv) (c oo:Int) (V:Value) (hV:∀w,gT w K.s C m S (1,11)->Calls Tq.prog 47 #[aG K.s,.int .i64 c] w λe w'=>e=.returned V/\w'=w) (hn:WV Post K wv ((rE K.s c oo).finish V) (C0::cs)):WV Post K wv (rG K.s c oo) (C0::cs):=by obtain ⟨h1,h2,h3,h4⟩:=SG K.s c oo;refine WV.uM (csl:=[]) h.ok h.wf 9 h1 (wv':=wv) (by rw [h4];exact ⟨rfl,rfl⟩) ?_;rw [h2,h3];refine WV.pure h.ok h.wf (f:=47) Tryz.func47 d40 rfl (qg k40) V (λτ d=>(hV _ h.rep.re).mono ?_) hn;rintro e w' ⟨rfl,rfl⟩;exact ⟨rfl,_,_,rfl⟩
theorem bI.none (h:bI ν q m K C S wv) (c oo:Int) (hc:S.conn c=Option.none) (hn:WV Post K wv (C0.finish (.int .i64 (-1))) cs):WV Post K wv (rG K.s c oo) (C0::cs):=by refine h.look c oo (.pointer Option.none) (λw hr=>Rv w K.s C.st C.lk m C.cb C.rs c S.ae hr.sr (Jv hr h.sw) hr.cs ((RH S c).symm.trans hc)) ?_;obtain ⟨h1,h2,h3,h4⟩:=Oc K.s c oo C0;refine WV.uM (csl:=[C0]) h.ok h.wf 15 h1 (wv':=wv) (by rw [h4];exact ⟨rfl,rfl⟩) ?_;rw [h2,h3];exact hn
theorem Wl {w:World} {k:dR} {v:Cv} {c:Cn} (h:FE w k.r v c):∃y:Option jm,v.wk=Kh k y/\y.isNone=c.work.isNone:=by
 unfold FE at h;split at h
 ·rename_i e;exact ⟨some .read,h.1,by rw [e];rfl⟩
 ·rename_i e;exact ⟨some .lock,h.1,by rw [e];rfl⟩
 ·rename_i e;obtain ⟨bx,h1,_⟩:=h;exact ⟨some (.fin bx),h1,by rw [e];rfl⟩
 ·rename_i e;exact ⟨Option.none,h,by rw [e];rfl⟩
def unW:Value->jm
 | .func (.func 44) _ _=>.read
 | .func (.func 75) _ _=>.lock
 | .func _ _ c=>.fin (match (c[0]? :Option Value) with
   |some (.pointer (some a))=>a.block
   |_=>0)
 |_=>.read
theorem Qz (W:jm) (k:dR):unW (W.val k)=W:=by cases W<;>rfl
theorem val_inj {W W':jm} {k:dR} (h:W.val k=W'.val k):W=W':=(Qz W k).symm.trans ((congrArg unW h).trans (Qz W' k))
theorem aBa (W:jm):∃fn c,Tryz.prog.funcs[W.fn]? =some fn/\keep W.fn=true/\fn.body=some c/\∀r∈fn.results,∃t,r=.tmp t:=by
 cases W
 ·exact ⟨_,_,Tryz.func44,by decide,rfl,qg k40⟩
 ·exact ⟨_,_,Tryz.func75,by decide,rfl,qg k40⟩
 ·exact ⟨_,_,Tryz.func127,(by show keep 127=true;decide),rfl,qg k40⟩
theorem NR {i:Nat} {x:Cn} (hx:S.ae[i]? =some x):∃d,(S.work i x).1.ae=S.ae.set i d/\(S.work i x).1.over=S.over/\d.over=x.over:=by
 have hs:=qf x;unfold Sv.work;split
 ·split
  ·rename_i e;rw [e] at hs;exact ⟨_,rfl,rfl,hs.2.2.1⟩
  ·rename_i e;rw [e] at hs;exact ⟨_,rfl,rfl,hs.2.2.1⟩
  ·rename_i e;rw [e] at hs;refine ⟨_,rfl,rfl,?_⟩;split<;>exact hs.2.2.1
 ·split
  ·exact ⟨_,rfl,rfl,rfl⟩
  ·split
   ·exact ⟨_,rfl,rfl,rfl⟩
   ·exact ⟨x,(xK hx).symm,rfl,rfl⟩
 ·exact ⟨_,rfl,rfl,rfl⟩
 ·exact ⟨x,(xK hx).symm,rfl,rfl⟩
theorem Xc {w:World} (n:Int) (dn:Bool):Fr.aj (λ_=>False) w (fe n dn w):=by refine ⟨rfl,rfl,rfl,?_,λk hk _=>(iB n dn w).2 k (by omega)⟩;have:=(Array.getElem?_eq_some_iff.1 (iB n dn w).1).1;omega
theorem Kl {w:World} {i:Nat} {k:dR} {d:Cn} {C1:Cp} {S1:Sv} (h:gT w s C1 m S1 (1,11)) (hr:C1.rs[i]? =some k.r) (hd:S1.ae[i]? =some d) (n:Int):
 ∃C2,C2.rs=C1.rs/\gT (qJ k n d.work.isNone w) s C2 m (S1.mark i) (1,11)/\Fm s C1 w C2 (qJ k n d.work.isNone w):=by
 have yt:=Xc (w:=w) n d.work.isNone;have h0:gT (fe n d.work.isNone w) s C1 m S1 (1,11):=h.aA yt (Rx.Safe.none w) (λ_ _ e=>e) (λe=>e) (λe=>e) (λe=>e);have f0:Fm s C1 w C1 (fe n d.work.isNone w):=⟨.ofC (yt.mono λ_ _ e=>e.elim),λ_ e=>.inl e⟩
 have hmk:S1.mark i=if d.work.isNone then S1.set i {d with over:=true} else S1:=by unfold Sv.mark;rw [hd]
 unfold qJ;rw [hmk];cases e:d.work.isNone with
 |false=>rw [e] at h0 f0;exact ⟨C1,rfl,h0,f0⟩
 |true=>rw [e] at h0 f0;obtain ⟨r,v,jf,hv,qX,_⟩:=h0.conn hd;rw [hr] at jf;obtain rfl:=Option.some.inj jf;have hb:Cb ((fe n true w).setCell ⟨k.r,11,Option.none⟩ (.bool true)) k.r (1,11) v {d with over:=true}:=aM.set qX.cx.cb 11 (.bool true);have bA:k.r≠s:=Sr.um h0.sr qX.cx.cb;have hc:Fr.aj (λj=>j=s\/j=k.r) (fe n true w) ((fe n true w).setCell ⟨k.r,11,Option.none⟩ (.bool true)):=(Fr.aj.refl _ _).setCell (p:=⟨k.r,11,Option.none⟩) (.inl (.inr rfl)) _;have Rp:Fr.aj (λj=>j=k.r) (fe n true w) ((fe n true w).setCell ⟨k.r,11,Option.none⟩ (.bool true)):=(Fr.aj.refl (λj=>j=k.r) _).setCell (p:=⟨k.r,11,Option.none⟩) (.inl rfl) _;have hs:Sr ((fe n true w).setCell ⟨k.r,11,Option.none⟩ (.bool true)) s C1.st C1.lk m C1.cb C1.rs:=h0.sr.aA Rp (λe=>bA e.symm) (λj hj e=>Sr.Ad h0.sr qX.cx.cb j hj e);have:=h0.one hr hv hd hc hs hb rfl rfl rfl rfl;exact ⟨_,this.rs,this.rep,f0.trans ⟨.ofC this.aA,this.wo⟩⟩
theorem bI.heard (h:bI ν q m K C S wv) {i:Nat} {x d:Cn} {k:dR} {C2:Cp} {S1:Sv} {w2:World} (hx:S.ae[i]? =some x) (hr:C.rs[i]? =some k.r) (hk:K.Z.own (K.b+i)=some k) (wR:k.s=K.s) (u7:¬K.Z.cls k.o) (hc:S1.ae=S.ae.set i d) (ho:S1.over=S.over) (hdo:d.over=false)
 (Ao:C2.rs=C.rs) {m':Int} (vW:gT w2 K.s C2 m' (S1.mark i) (1,11)) (hI:oW q (S1.mark i)) (hZ:yE (S1.mark i)):bI ν q m' (K.told (K.b+i) k d.work.isNone) C2 (S1.mark i) w2:=by
 have aI:i<S.ae.length:=(List.getElem?_eq_some_iff.1 hx).1;have hd:S1.ae[i]? =some d:=by rw [hc,List.getElem?_set,if_pos rfl,if_pos aI]
 have hmk:(S1.mark i).ae=S.ae.set i (if d.work.isNone then {d with over:=true} else d)/\(S1.mark i).over=S.over:=by
  unfold Sv.mark;rw [hd];dsimp only;split
  ·refine ⟨?_,ho⟩;show S1.ae.set i _=_;rw [hc,List.set_set]
  ·exact ⟨hc,ho⟩
 have Rt:(K.told (K.b+i) k d.work.isNone).Z.own=K.Z.own/\(K.told (K.b+i) k d.work.isNone).Z.bP=K.Z.bP/\(K.told (K.b+i) k d.work.isNone).Z.Dl=K.Z.Dl:=by unfold Cy.told;cases d.work.isNone<;>exact ⟨rfl,rfl,rfl⟩
 have aCQ:∀o,(K.told (K.b+i) k d.work.isNone).Z.cls o->K.Z.cls o\/(d.work.isNone=true/\o=k.o):=by
  unfold Cy.told;intro o ho;cases e:d.work.isNone with
  |false=>rw [e] at ho;exact .inl ho
  |true=>rw [e] at ho;exact ho.imp id λe=>⟨rfl,e⟩
 have ZK:=h.b0;refine {ok:=aBk h.ok h.h0 (by omega) (by omega) hk,wf:=?_,h0:=h.h0,b0:=h.b0,mn:=h.mn,nn:=?_,bP:=?_,Dl:=?_,yS:=λ_ _=>trivial,low:=?_,hi:=?_,Qa:=λo Jl=>?_,OQ:=λr' jf=>by rw [Rt.2.1];rw [Rt.2.2] at jf;exact h.OQ r' jf,lo:=(by unfold Cy.told;cases d.work.isNone<;>exact ⟨h.lo.ge,h.lo.lq,h.lo.lt⟩),own:=?_,rep:=vW,sw:=hI,ES:=hZ}
 ·refine ⟨λg k' e=>?_,λg k' e=>?_,λg k' g' k'' e e'=>?_⟩
  ·rw [Rt.2.1];exact h.wf.bP g k' (Rt.1▸e)
  ·rw [Rt.2.1];exact h.wf.apart g k' (Rt.1▸e)
  ·exact h.wf.Eo g k' g' k'' (Rt.1▸e) (Rt.1▸e')
 ·rw [hmk.1,List.length_set];exact h.nn
 ·rw [Rt.2.1];exact h.bP
 ·rw [hmk.2,Rt.2.2];exact h.Dl
 ·intro j h1 h2;show (if j=K.b+i then _ else K.σ j)=_;have h2:j<K.b:=h2;rw [if_neg (by omega)];exact h.low j h1 h2
 ·intro j h1;rw [Rt.1];exact h.hi j h1
 ·rcases aCQ o Jl with e|⟨_,e⟩
  ·obtain ⟨g,k',hg,hh⟩:=h.Qa o e;exact ⟨g,k',by rw [Rt.1];exact hg,hh⟩
  ·exact ⟨_,k,by rw [Rt.1];exact hk,.inl e⟩
 ·intro i' r' x' jf fI;rw [hmk.1] at fI;rw [Rt.1];show ∃k',K.Z.own (K.b+i')=some k'/\k'.s=K.s/\k'.r=r'/\(x'.over=false->(if K.b+i'=K.b+i then (if d.work.isNone then Option.none else some (yM k)) else K.σ (K.b+i'))=some (yM k')/\¬(K.told (K.b+i) k d.work.isNone).Z.cls k'.o)/\(x'.over=true->(if K.b+i'=K.b+i then (if d.work.isNone then Option.none else some (yM k)) else K.σ (K.b+i'))=Option.none);rw [Ao] at jf;rcases jR fI with ⟨rfl,rfl⟩|⟨bA,fI⟩
  ·rw [hr] at jf;refine ⟨k,hk,wR,Option.some.inj jf,?_,?_⟩
   ·intro hf;rw [if_pos rfl];cases e:d.work.isNone with
    |true=>rw [e] at hf;cases hf
    |false=>
     refine ⟨rfl,λaGt=>?_⟩;rw [e] at aCQ;rcases aCQ _ aGt with e'|⟨e',_⟩
     ·exact u7 e'
     ·cases e'
   ·intro hf;rw [if_pos rfl];cases e:d.work.isNone with
    |true=>rfl
    |false=>rw [e] at hf;rw [show d.over=true from hf] at hdo;cases hdo
  ·obtain ⟨k',lh,yO,aON,h1,h2⟩:=h.own i' r' x' jf fI;rw [if_neg (by omega)];refine ⟨k',lh,yO,aON,λhf=>⟨(h1 hf).1,λaGt=>?_⟩,h2⟩;rcases aCQ _ aGt with e|⟨_,e⟩
   ·exact (h1 hf).2 e
   ·have:=(h.wf.Eo _ _ _ _ lh hk).2.1 e;omega
theorem Du (Z:Gh) (N:Code->Prop) (ty:TypeId->Prop):iK (Z.cut N ty 2) (.cells #[.int .i64 0,.bool false] 116 (0,0)):=⟨⟨rfl,rfl,nofun⟩,nofun⟩
theorem bI.tell (h:bI ν q 1 K C S wv) (c:Int) (hn:∀K' C' w',bI ν q 1 K' C' (S.step c).1 w'->K'.s=K.s->Fm K.s C wv C' w'->WV Post K' w' (C0.finish (.int .i64 (S.step c).2)) cs):WV Post K wv (rG K.s c 0) (C0::cs):=by
 cases hc:S.conn c with
 |none=>
  have e:S.step c=(S,-1):=by unfold Sv.step;rw [hc]
  rw [e] at hn;exact h.none c 0 hc (hn K C wv h rfl (Fm.refl _ _ _))
 |some p=>
  obtain ⟨i,x⟩:=p;have hse:S.step c=((S.work i x).1.mark i,(S.work i x).2):=by unfold Sv.step;rw [hc]
  obtain ⟨rfl,hx,ho⟩:=jc hc;have hI':oW q ((S.work i x).1.mark i):=by have:=h.sw.step (i:Int);rw [hse] at this;exact this
  have hZ':yE ((S.work i x).1.mark i):=(h.ES.work (q:=q) hx).mark i;rw [hse] at hn;obtain ⟨r,v,hr,hv,qX,hvi,EE⟩:=h.rep.conn hx;obtain ⟨k,hk,wR,rfl,GV,_⟩:=h.own i r x hr hx;obtain ⟨hσ,u7⟩:=GV ho;have aI:i<S.ae.length:=(List.getElem?_eq_some_iff.1 hx).1;have ZK:=h.b0;have hnn:=h.nn;have wU:K.b+i≠0:=by omega
  have uZ:K.b+i<K.n:=by omega
  have J2:K.b<=K.b+i:=by omega
  refine h.look i 0 (aG k.r) (λw Jj=>?_) ?_
  ·obtain ⟨r',v',jf,iM,MP,_⟩:=Jj.conn hx;rw [hr] at jf;obtain rfl:=Option.some.inj jf;exact yw w K.s C.st C.lk 1 C.cb C.rs i k.r (1,11) v' x Jj.sr (Jv Jj h.sw) hr MP.cx.cb ho
  obtain ⟨d,hdc,hdv,hdo⟩:=NR hx;have hd:(S.work i x).1.ae[i]? =some d:=by rw [hdc,List.getElem?_set,if_pos rfl,if_pos aI]
  obtain ⟨W,hW⟩:∃W:jm,v.wk=W.val k:=by
   obtain ⟨y,hy,hyn⟩:=Wl qX.wk;cases y with
   |some W=>exact ⟨W,hy⟩
   |none=>
    have hn:x.work=Option.none:=by
     cases e:x.work with
     |none=>rfl
     |some _=>rw [e] at hyn;cases hyn
    have:=((h.sw.cn i x hx).over hn).1;rw [ho] at this;cases this
  obtain ⟨fn,cd,hf1,hf2,Fy,hf4⟩:=aBa W;have Zb:=Dk (K:=K) h.ok h.h0 wU uZ J2 hk (x:=sdM K.s i 0 k (C0::cs)) rfl;refine λw VI=>xg h.ok h.wf h.h0 wU uZ J2 hk hσ u7 (Du _ _ _) (Qw:=λn dn w1=>∃C1,n=(S.work i x).2/\dn=d.work.isNone/\C1.rs=C.rs/\gT w1 K.s C1 1 (S.work i x).1 (1,11)/\Fm K.s C wv C1 w1) ?_ ?_ VI
  ·intro f w1 Fj cont;refine J6 (K:=K.pass (K.b+i) (some (sdM K.s i 0 k (C0::cs)))) Zb h.wf rfl wU hk (by show upd K.σ K.h _ 0=_;rw [h.h0,upd_same]) rfl (rV h.ok h.h0 wU J2 hk (λz hz=>by cases hz;rfl)) (rV h.ok h.h0 wU J2 hk (λz hz=>by cases hz)) (x:=W)
    ((aM.at qX.cx.cb (i:=14) rfl).trans (congrArg some hW)) (Q:=λn y w1=>∃C1,n=(S.work i x).2/\y.isNone=d.work.isNone/\C1.rs=C.rs/\gT w1 K.s C1 1 (S.work i x).1 (1,11)/\Fm K.s C wv C1 w1/\w1.cell? ⟨k.r,14,Option.none⟩=some (Kh k y)) (λn y w1 ⟨_,_,_,_,_,_,e⟩=>e) ?_ ?_ Fj
   ·intro w' iM aAk;refine WV.rep (K:=K.pass (K.b+i) (some (sdM K.s i 0 k (C0::cs)))) Zb h.wf h.rep h.cns h.bP hf1 hf2 Fy hf4 (λu _ S' _=>u=.int .i64 (S.work i x).2/\S'=(S.work i x).1) (λ_ _ _ _ _ _ e=>e) (λfz w2 PE _ _ VL=>?_) ?_ w' iM
    ·obtain ⟨v2,NH⟩:∃v2,C.vs[i]? =some v2:=⟨v,hv⟩
     obtain ⟨W2,hW2,hC⟩:=V7 VL h.sw h.ES (ZX PE) hr hv hx ho k rfl;have:W2=W:=val_inj (hW2.symm.trans hW);subst this;refine hC.mono ?_;rintro e w3 ⟨v',rfl,hw⟩;exact ⟨_,C.iQ i v',_,rfl,⟨rfl,rfl⟩,rfl,hw.rep,λj hj=>yR hr hv hw.fp hj,hw.aA.mono λj _ e=>Bq hr hv e⟩
    ·rintro u C1 S1 w2 ⟨rfl,rfl⟩ Ao Ap hfm;intro w3 UO;obtain ⟨r',v',jf,iM,MP,_⟩:=Ap.conn hd;rw [Ao,hr] at jf;obtain rfl:=Option.some.inj jf;obtain ⟨y,hy,hyn⟩:=Wl MP.wk;exact aAk _ y w2 w3 ⟨C1,rfl,hyn,Ao,Ap,hfm,(aM.at MP.cx.cb (i:=14) rfl).trans (congrArg some hy)⟩ UO
   ·rintro n y w1 w' gM ⟨C1,e1,e2,e3,e4,e5,_⟩ iM hg;have hg:gM=G (kC K.s i 0 k) (C0::cs):=hg;rw [hg,Co.served_G];have hu:(if y.isNone then (Option.none:Option Sd) else some (yM k))=if d.work.isNone then Option.none else some (yM k):=by rw [e2]
    rw [hu,e2];exact cont n d.work.isNone w1 w' ⟨C1,e1,rfl,e3,e4,e5⟩ iM
  ·rintro n dn w1 w2 ⟨C1,rfl,rfl,Ao,Y3,hfm⟩ NH;obtain ⟨C2,aF7,Ap,aGq⟩:=Kl (k:=k) Y3 (Ao▸hr) hd (S.work i x).2;exact hn _ C2 _ (h.heard hx hr hk wR u7 hdc hdv (hdo.trans ho) (aF7.trans Ao) Ap hI' hZ') rfl (hfm.trans aGq) w2 NH
theorem bI.zY (h:bI ν false 1 K C S wv) (c:Int) (hn:∀K' C' w',bI ν false 1 K' C' (S.drop c).1 w'->K'.s=K.s->Fm K.s C wv C' w'->WV Post K' w' (C0.finish (.int .i64 (if (S.drop c).2 then 1 else -1))) cs):WV Post K wv (rG K.s c 1) (C0::cs):=by
 cases hc:S.conn c with
 |none=>
  have e:S.drop c=(S,false):=by unfold Sv.drop;rw [hc]
  rw [e] at hn;exact h.none c 1 hc (hn K C wv h rfl (Fm.refl _ _ _))
 |some p=>
  obtain ⟨i,x⟩:=p;have hse:S.drop c=((S.lI i x).mark i,true):=by unfold Sv.drop;rw [hc]
  obtain ⟨rfl,hx,ho⟩:=jc hc;have hI':oW false ((S.lI i x).mark i):=by have:=h.sw.drop (i:Int);rw [hse] at this;exact this
  have hZ':yE ((S.lI i x).mark i):=by have:=h.ES.drop (i:Int);rw [hse] at this;exact this
  rw [hse] at hn;obtain ⟨r,v,hr,hv,qX,hvi,EE⟩:=h.rep.conn hx;obtain ⟨k,hk,wR,rfl,GV,_⟩:=h.own i r x hr hx;obtain ⟨hσ,u7⟩:=GV ho;have aI:i<S.ae.length:=(List.getElem?_eq_some_iff.1 hx).1;have ZK:=h.b0;have hnn:=h.nn;have wU:K.b+i≠0:=by omega
  have uZ:K.b+i<K.n:=by omega
  have J2:K.b<=K.b+i:=by omega
  refine h.look i 1 (aG k.r) (λw Jj=>?_) ?_
  ·obtain ⟨r',v',jf,iM,MP,_⟩:=Jj.conn hx;rw [hr] at jf;obtain rfl:=Option.some.inj jf;exact yw w K.s C.st C.lk 1 C.cb C.rs i k.r (1,11) v' x Jj.sr (Jv Jj h.sw) hr MP.cx.cb ho
  have hd:(S.lI i x).ae[i]? =some {x with work:=Option.none}:=by show (S.ae.set i _)[i]? =_;rw [List.getElem?_set,if_pos rfl,if_pos aI]
  have Zb:=Dk (K:=K) h.ok h.h0 wU uZ J2 hk (x:=sdM K.s i 1 k (C0::cs)) rfl;refine λw VI=>xg h.ok h.wf h.h0 wU uZ J2 hk hσ u7 (Du _ _ _) (Qw:=λn dn w1=>∃C1,n=1/\dn=true/\C1.rs=C.rs/\gT w1 K.s C1 1 (S.lI i x) (1,11)/\Fm K.s C wv C1 w1) ?_ ?_ VI
  ·intro f w1 Fj cont;refine J7 (K:=K.pass (K.b+i) (some (sdM K.s i 1 k (C0::cs)))) Zb h.wf rfl wU hk (by show upd K.σ K.h _ 0=_;rw [h.h0,upd_same]) rfl (rV h.ok h.h0 wU J2 hk (λz hz=>by cases hz;rfl)) (rV h.ok h.h0 wU J2 hk (λz hz=>by cases hz))
    (Q:=λw1=>∃C1,C1.rs=C.rs/\gT w1 K.s C1 1 (S.lI i x) (1,11)/\Fm K.s C wv C1 w1) ?_ ?_ Fj
   ·intro w' iM aAk;refine WV.rep (K:=K.pass (K.b+i) (some (sdM K.s i 1 k (C0::cs)))) Zb h.wf h.rep h.cns h.bP (f:=72) Tryz.func72 d40 rfl (qg k40) (λu _ S' _=>u=.tuple #[]/\S'=S.lI i x) (λ_ _ _ _ _ _ e=>e) (λfz w2 PE _ _ VL=>?_) ?_ w' iM
    ·refine (UK VL h.sw (ZX PE) hr hv hx).mono ?_;rintro e w3 ⟨v',rfl,hw⟩;exact ⟨_,C.iQ i v',_,rfl,⟨rfl,rfl⟩,rfl,hw.rep,λj hj=>yR hr hv hw.fp hj,hw.aA.mono λj _ e=>Bq hr hv e⟩
    ·rintro u C1 S1 w2 ⟨rfl,rfl⟩ Ao Ap hfm;intro w3 UO;exact aAk w2 w3 ⟨C1,Ao,Ap,hfm⟩ UO
   ·rintro w1 w' gM ⟨C1,e3,e4,e5⟩ iM hg;have hg:gM=G (kC K.s i 1 k) (C0::cs):=hg;rw [hg,Co.served_G];exact cont 1 true w1 w' ⟨C1,rfl,rfl,e3,e4,e5⟩ iM
  ·rintro n dn w1 w2 ⟨C1,rfl,rfl,Ao,Y3,hfm⟩ NH;obtain ⟨C2,aF7,Ap,aGq⟩:=Kl (k:=k) Y3 (Ao▸hr) hd 1;exact hn _ C2 _ (h.heard (d:={x with work:=Option.none}) (S1:=S.lI i x) hx hr hk wR u7 rfl rfl ho (aF7.trans Ao) Ap hI' hZ') rfl (hfm.trans aGq) w2 NH
theorem bI.zi (h:bI ν q m K C S wv) (m':Int):bI ν q m' K C S (wv.setCell ⟨K.s,0,Option.none⟩ (.int .i32 m'))/\Fm K.s C wv C (wv.setCell ⟨K.s,0,Option.none⟩ (.int .i32 m')):=by have hc:Fr.aj (·=K.s) wv (wv.setCell ⟨K.s,0,Option.none⟩ (.int .i32 m')):=(Fr.aj.refl (·=K.s) _).setCell (p:=⟨K.s,0,Option.none⟩) (.inl rfl) _;exact ⟨h.iQ rfl (h.rep.lock m') h.sw h.ES rfl rfl (λi x hx=>⟨x,hx,rfl⟩),⟨.ofC (hc.mono λ_ _ e=>.inl e),λ_ e=>.inl e⟩⟩
theorem bI.free (h:bI ν q m K C S wv):wv.cell? ⟨K.s,0,Option.none⟩=some (.int .i32 m)/\wv.frozen? ⟨K.s,0,Option.none⟩=false:=⟨h.rep.sr.blk.at rfl,aM.frozen h.rep.sr.blk (.inr (Nat.zero_le _))⟩
theorem bI.step (h:bI ν q 0 K C S wv) (c:Int) (hn:∀K' C' w',bI ν q 0 K' C' (S.step c).1 w'->K'.s=K.s->Fm K.s C wv C' w'->WV Post K' w' (C0.finish (.int .i64 (S.step c).2)) cs):WV Post K wv (Frame.enter Tryz.prog 26 #[aG K.s,.int .i64 c] .normal) (C0::cs):=by show WV Post K wv (step0 K.s c) (C0::cs);obtain ⟨a1,a2,a3,a4,a5⟩:=TB K.s c;refine WV.uM (csl:=[]) h.ok h.wf 10 a1 (wv':=wv) (by rw [a4];exact ⟨rfl,rfl⟩) ?_;rw [a2,a3];refine WV.lock h.ok h.wf (by rw [a5];trivial) h.free.1 h.free.2 ?_;obtain ⟨h1,f1⟩:=h.zi 1;obtain ⟨b1,b2,b3,b4⟩:=TA K.s c;refine WV.uM (csl:=[]) h.ok h.wf 13 b1 (wv':=wv.setCell ⟨K.s,0,Option.none⟩ (.int .i32 1)) (by rw [b4];exact ⟨rfl,rfl⟩) ?_;rw [b2,b3];refine h1.tell c λK' C' w' h2 BG f2=>?_;obtain ⟨c1,c2,c3,c4,c5⟩:=Ty K.s c (S.step c).2 C0;refine WV.uM (csl:=[C0]) h2.ok h2.wf 4 c1 (wv':=w') (by rw [c4];exact ⟨rfl,rfl⟩) ?_;rw [c2,c3,<-BG];refine WV.unlock h2.ok h2.wf (by rw [BG,c5];trivial) h2.free.1 h2.free.2 ?_;obtain ⟨h3,f3⟩:=h2.zi 0;obtain ⟨d1,d2,d3,d4⟩:=Tw K.s c (S.step c).2 C0;rw [BG] at h3 f3 ⊢;refine WV.uM (csl:=[C0]) h3.ok h3.wf 1 d1 (wv':=w'.setCell ⟨K.s,0,Option.none⟩ (.int .i32 0)) (by rw [d4];exact ⟨rfl,rfl⟩) ?_;rw [d2,d3];exact hn K' C' _ h3 BG ((f1.trans f2).trans f3)
end
end Re
end
section
open Go.Conc
namespace Re
open Tx Sp Wg Rd Bk Wi Se Rx Mp De Lo Co Ka Kv Ky
section
variable {Post:Value->World->Prop} {K:Cy} {wv w:World} {cs:List Frame} {ν:Old} {q:Bool} {s:Nat} {C:Cp} {m:Int} {S:Sv} {a:Act} {f:FuncId} {k:List Item}
theorem aJf {C:Cut} {w wa:World} {τ:Nat->Question->Nat} {d:Nat} (h:Vw C w wa):Vw C (Ka.re w τ d) wa:=⟨h.size,h.os,h.same,h.cut,h.chan,h.plain,h.loops⟩
theorem WV.QZ {fr:Frame} {τ:Nat->Question->Nat} {d:Nat} (h:WV Post K (Ka.re wv τ d) fr cs):WV Post K wv fr cs:=λw hv=>h w (aJf hv)
theorem WV.bf {fr:Frame} {τ:Nat->Question->Nat} {d:Nat} (h:WV Post K wv fr cs):WV Post K (Ka.re wv τ d) fr cs:=λw hv=>h w (Kg hv)
theorem WV.while {c:Code} (I:Nat->Cy->World->Act->Prop) (aH:∀n K w a,I n K w a->K.Ok) {n:Nat} (h0:I n K wv a)
 (hs:∀n K w a,I n K w a->(∀n' K' w' a',n'<n->I n' K' w' a'->WV Post K' w' ((fb f).at a' (.inLoop c::k)) cs)->WV Post K w ((fb f).at a (.code c::.inLoop c::k)) cs):WV Post K wv ((fb f).at a (.code (.loop c)::k)) cs:=by
 refine WV.loop (aH _ _ _ _ h0) ?_;have key:∀n K w a,I n K w a->WV Post K w ((fb f).at a (.code c::.inLoop c::k)) cs:=by
  intro n
  induction n using Nat.strongRecOn with
  |_ n ih=>exact λK w a h=>hs n K w a h λn' K' w' a' aI h'=>WV.inLoop (aH _ _ _ _ h') (ih n' aI K' w' a' h')
 exact key _ _ _ _ h0
theorem WV.XJ (aH:K.Ok) (bY:K.Z.Wf) {ops:Array Oper} (l:List Oper) (i n:Nat) (lh:keep f=true) (hf:∃fn,Tryz.prog.funcs[f]? =some fn) (hd:gJ a.defers) (hl:∀j,j<l.length->ops[i+j]? =l[j]?) (hk:jN (.inRegion ops []::k)=true)
 (hw:∀R:Act->World->Prop,(∀a' w',WV Post K w' ((fb f).at a' (.inRegion ops (List.range' (i+l.length) n)::k)) cs->R a' w')->∀τ d,wpList Tq.prog ops (Qn R) l a (Ka.re wv τ d)):
 WV Post K wv ((fb f).at a (.inRegion ops (List.range' i (l.length+n))::k)) cs:=by
 obtain ⟨fn,hf⟩:=hf;exact WV.seg aH bY l i n (kept hf lh) hd hl hk (λa' w'=>WV Post K w' ((fb f).at a' (.inRegion ops (List.range' (i+l.length) n)::k)) cs) (λ_ _ _ _ h=>WV.QZ h) (hw _ λ_ _ h=>h) (λ_ _ h=>h)
theorem WV.tq (aH:K.Ok) (bY:K.Z.Wf) {c:Code} (lh:keep f=true) (hf:∃fn,Tryz.prog.funcs[f]? =some fn) (hd:gJ a.defers) (hk:jN (.code c::k)=true)
 (hw:∀R:Act->World->Prop,(∀a' w',WV Post K w' ((fb f).at a' k) cs->R a' w')->∀τ d,c.wp Tq.prog (Qn R) a (Ka.re wv τ d)):WV Post K wv ((fb f).at a (.code c::k)) cs:=by
 obtain ⟨fn,hf⟩:=hf;refine WV.code aH bY (Qn λa' w'=>WV Post K w' ((fb f).at a' k) cs) (kept hf lh) hd hk ?_ (hw _ λ_ _ h=>h) (λ_ _ h=>h) (λ_ _ _ h=>h) (λ_ _ _ h=>h) (λ_ _ h=>h) (λ_ _ _ h=>h.elim) (λ_ _ _ h=>h.elim);intro e a w τ d h;cases e<;>first|exact WV.QZ h|exact h
theorem bI.re {τ:Nat->Question->Nat} {d:Nat} (h:bI ν q m K C S wv):bI ν q m K C S (Ka.re wv τ d)/\Fm K.s C wv C (Ka.re wv τ d):=
 ⟨h.iQ rfl h.rep.re h.sw h.ES rfl rfl (λi x hx=>⟨x,hx,rfl⟩),⟨⟨⟨rfl,rfl⟩,Nat.le_refl _,λ_ _ e _=>e⟩,λ_ e=>.inl e⟩⟩
theorem bI.aA {w':World} (h:bI ν q m K C S wv) (hc:Fr.aj (λ_=>False) wv w'):bI ν q m K C S w'/\Fm K.s C wv C w':=
 ⟨h.iQ rfl (h.rep.aA hc (Rx.Safe.none _) (λ_ _ e=>e) (λe=>e) (λe=>e) (λe=>e)) h.sw h.ES rfl rfl (λi x hx=>⟨x,hx,rfl⟩),⟨.ofC (hc.mono λ_ _ e=>e.elim),λ_ e=>.inl e⟩⟩
theorem bI.los (h:bI ν q m K C S wv):ν.n<=wv.heap.size:=Nat.le_of_lt (Nat.lt_of_le_of_lt (h.lo.ge _ (.inl h.bP)) (h.rep.lt (.inl rfl)))
structure Rest (ν:Old) (K:Cy) (p:Addr) (ev:Value) (w:World):Prop where
 ok:K.Ok
 wf:K.Z.Wf
 h0:K.h=0
 b0:0<K.b
 bn:K.b=K.n
 mn:K.m=K.n
 yS:∀ρ μ,K.R ρ μ
 low:∀j,0<j->j<K.n->K.σ j=none
 hi:∀j,K.n<=j->K.Z.own j=none
 Qa:∀c,K.Z.cls c->K.Z.rW c
 OQ:∀r,K.Z.Dl r->K.Z.bP r
 lo:Gh.Lo K.Z ν
 los:ν.n<=w.heap.size
 gl:Gl w p ev
end
end Re
end
section
open Go.Conc
open Go.ConcN (upd upd_ne upd_same)
namespace Co
open Ka Kv Ky
section
variable {Post:Value->World->Prop} {K:Cy} {wv:World} {cs:List Frame} {F:List Nat}
theorem WO.walk (aH:K.Ok) (bY:K.Z.Wf):∀(n:Nat) {fr fr':Frame} {csl csl':List Frame} {an nM:List An} {jX:List (FuncId×List Io)} {wv wv':World} {d d':Nat},Ky.walk Tryz.prog n fr csl an=some (fr',csl',nM,jX)->nC Tryz.prog (K.cut 2) jX wv wv' d d'->
 (∀w',Vw (K.cut 2) wv' w'->Fo F K w'->WT Tryz.prog Post K d' (G fr' (csl'++cs)) w')->∀w,Vw (K.cut 2) wv w->Fo F K w->WT Tryz.prog Post K d (G fr (csl++cs)) w
 |0,fr,fr',csl,csl',an,nM,jX,wv,wv',d,d',h,hb,hn=>by
  simp only [Ky.walk,Option.some.injEq,Prod.mk.injEq] at h;obtain ⟨rfl,rfl,rfl,rfl⟩:=h;obtain ⟨rfl,rfl⟩:=hb;exact hn
 |n+1,fr,fr',csl,csl',an,nM,jX,wv,wv',d,d',h,hb,hn=>by
  simp only [Ky.walk] at h;split at h
  ·cases h
  ·rename_i Bj NQ VV io lT;split at h
   ·cases h
   ·rename_i fr2 cs2 as2 Mf hw;cases h;obtain ⟨w1,ll,gQ⟩:=hb;intro w hv hf;refine WT.step aH rfl λw' ha _=>?_;have iM:=dm hv ha;obtain ⟨bO,h1,h2,h3,h4⟩:=NW io ll iM;exact ⟨_,bO,_,_,gK lT (K.h==0) cs w' bO h1,Rk bY iM ⟨h2,h3,λe he=>h4 e (by simpa using mem_seen he),rfl⟩,WO.walk aH bY n hw gQ hn bO h2 ((hf.aside ha).hid h3)⟩
theorem WO.aIP (aH:K.Ok) (bY:K.Z.Wf) (n:Nat) {fr:Frame} {csl:List Frame} {an:List An} {wv':World} (h:bV (Ky.walk Tryz.prog n fr csl an)=true) (hb:nC Tryz.prog (K.cut 2) (thin (bM Tryz.prog n fr csl an)) wv wv' 0 0) (hn:WO F Post K wv' (aR Tryz.prog n fr csl an) (bu Tryz.prog n fr csl an++cs)):WO F Post K wv fr (csl++cs):=
 λw hv hf=>WO.walk aH bY n (l9 h) (ma hb) hn w hv hf
theorem FC:Tryz.prog.follows .mixedOrders=true:=k40
theorem WO.drawn (aH:K.Ok) {f:FuncId} {a:Act} {id:Nat} {ops:Array Oper} {k:List Item} {N:Nat} (hN:ops.size=N) (X:List Nat->Prop) (hX:∀l,X l->WO F Post K wv ((fb f).at a (.inRegion ops l::k)) cs) (h:∀t,X (Region.linearise.go .any ops N t (Array.replicate N false) [])):WO F Post K wv ((fb f).at a (.code (.region id ops true)::k)) cs:=λw hv hf=>by
 refine WT.step aH rfl λw' ha hK=>?_;have iM:=dm hv ha;have NM:=hf.aside ha;have hs:∀t,Region.schedule (Tryz.prog.follows .mixedOrders) ops t=Region.linearise.go .any ops N t (Array.replicate N false) []:=λt=>by
  subst hN;simp only [Region.schedule,FC,Bool.true_or,if_true];rfl
 refine ⟨G ((fb f).at a (.inRegion ops (Region.schedule (Tryz.prog.follows .mixedOrders) ops (w'.tape w'.drawn (.order f id)))::k)) cs,{w' with drawn:=w'.drawn+1},#[],0,?_,?_,?_⟩
 ·simp only [G,stepG,stepG.exec,Frame.at,fb];rfl
 ·exact ⟨λe=>e,λs _=>⟨⟨rfl,rfl⟩,⟨rfl,rfl⟩⟩,λc k _ e=>e,λe he=>by simp at he,rfl⟩
 ·rw [hs];exact hX _ (h _) _ ⟨iM.size,iM.os,iM.same,iM.cut,iM.chan,iM.plain,iM.loops⟩ NM
end
end Co
namespace Re
open Tx Sp Wg Rd Bk Wi Se Rx Mp De Lo Co Ka Kv Ky
section
variable {Post:Value->World->Prop} {K:Cy} {wv w:World} {cs:List Frame} {ν:Old} {q:Bool} {s:Nat} {C:Cp} {m:Int} {S:Sv}
theorem aBV {w':World} {T:Nat->Prop} (h:bI ν q m K C S wv) (hc:Fr.aj T wv w') (hs:Rx.Safe wv T) (hn:∀k,jB K.s C k->¬T k) (h2:∀k,T k->2<k):bI ν q m K C S w':=
 h.iQ rfl (h.rep.aA hc hs hn (λe=>by have:=h2 _ e;omega) (λe=>by have:=h2 _ e;omega) (λe=>by have:=h2 _ e;omega)) h.sw h.ES rfl rfl (λi x hx=>⟨x,hx,rfl⟩)
theorem bI.gL (h:bI ν q m K C S wv) (c:Nat) (hcν:ν.n<=c):bI ν q m {K with Z:=K.Z.gL c} C S {wv with heap:=wv.heap.push gone}/\Fm K.s C wv C {wv with heap:=wv.heap.push gone}:=by
 have hc:Fr.aj (λ_=>False) wv {wv with heap:=wv.heap.push gone}:=⟨rfl,rfl,rfl,by simp,λk hk _=>xS hk⟩
 obtain ⟨h1,f1⟩:=h.aA hc;have aH:({K with Z:=K.Z.gL c}:Cy).Ok:=⟨h.ok.low,h.ok.wk,h.ok.mn,h.ok.pos,h.ok.lt,h.ok.bn,h.ok.cl,h.ok.hb,h.ok.bP⟩
 exact ⟨⟨aH,⟨h1.wf.bP,h1.wf.apart,h1.wf.Eo⟩,h1.h0,h1.b0,h1.mn,h1.nn,h1.bP,h1.Dl,h1.yS,h1.low,h1.hi,h1.Qa,h1.OQ,h1.own,⟨λk hk=>(by
  rcases hk with hk|hk|hk|⟨hk|rfl,ho⟩
  ·exact h1.lo.ge k (.inl hk)
  ·exact h1.lo.ge k (.inr (.inl hk))
  ·exact h1.lo.ge k (.inr (.inr (.inl hk)))
  ·exact h1.lo.ge k (.inr (.inr (.inr ⟨hk,ho⟩)))
  ·exact hcν),h1.lo.lq,h1.lo.lt⟩,h1.rep,h1.sw,h1.ES⟩,f1⟩
def aAd:Nat->Nat
 |0=>23|1=>24|2=>25|3=>26|4=>27|5=>28|6=>29|7=>30|8=>31|9=>32|_=>3
def BV (s n:Nat) (cb:Value) (o a r:Nat):Nat->Value
 |0|1|5=>fK s
 |2=>f4V s
 |3=>cb
 |4=>.int .i64 n
 |6=>.chan (some o)
 |7=>.chan (some a)
 |8=>.agg (cnC s n o a)
 |_=>fK r
def Chn (K:Cy) (F:List Nat) (o:Nat):Prop:=o∈F/\K.Z.nch o/\¬K.Z.rW o/\K.Z.lq o=none
structure OS (ν:Old) (q:Bool) (C:Cp) (S:Sv) (s b:Nat) (w0:World) (p:Option Addr) (n cap:Nat) (l:Array Bool) (F:List Nat) (K:Cy) (w:World) (f:Nat->Value) (o a r:Nat):Prop where
 comp:bI ν q 1 K C S w
 ks:K.s=s
 kb:K.b=b
 fm:Fm s C w0 C w
 H8:∀j,j<11->l.getD j true=true->f (aAd j)=BV s n (sl p n cap) o a r j
 d8:l.getD 8 true=true->l.getD 6 true=true/\l.getD 7 true=true
 d9:l.getD 9 true=true->l.getD 8 true=true
 d10:l.getD 10 true=true->l.getD 9 true=true
 c6:l.getD 6 true=true->Chn K F o
 c7:l.getD 7 true=true->Chn K F a
 c67:l.getD 6 true=true->l.getD 7 true=true->o≠a
 bl:l.getD 9 true=true->w.heap[r]? =some (.cells (cnC s n o a) 99 (0,0))/\w0.heap.size<=r/\¬K.Z.iq r/\¬K.Z.bP r/\¬K.Z.ic r
def On (l:Array Bool) (j:Nat):Prop:=l.getD j true=true
theorem bN {l:Array Bool} (hs:l.size=11) {i:Nat} (hi:i<11) {j:Nat}:On (l.setIfInBounds i true) j↔i=j\/On l j:=by
 unfold On;rw [D9 hs hi];split
 ·exact ⟨λ_=>.inl (by assumption),λ_=>rfl⟩
 ·exact ⟨.inr,λe=>e.resolve_left (by assumption)⟩
theorem Yo {l:Array Bool} (hs:l.size=11) {j:Nat} (hj:j<11) (h:l.getD j false=true):On l j:=by unfold On;simp only [Array.getD,hs,hj,dif_pos] at h ⊢;exact h
theorem BL:∀i,i<11->∀j,j<11->aAd i=aAd j->i=j:=by decide
variable {b n cap:Nat} {w0:World} {p:Option Addr} {l:Array Bool} {F:List Nat} {f:Nat->Value} {o a r:Nat}
theorem OS.next (h:OS ν q C S s b w0 p n cap l F K w f o a r) (hs:l.size=11) {i:Nat} (hi:i<11) (h67:i≠6/\i≠7/\i≠9) (h8:i=8->On l 6/\On l 7) (Ay:i=10->On l 9):
 OS ν q C S s b w0 p n cap (l.setIfInBounds i true) F K w (bQ f (aAd i) (BV s n (sl p n cap) o a r i)) o a r where
 comp:=h.comp
 ks:=h.ks
 kb:=h.kb
 fm:=h.fm
 H8 j hj e:=by
  rcases (bN hs hi).1 e with rfl|e
  ·exact xJ
  ·by_cases wV:i=j
   ·subst wV;exact xJ
   ·rw [Bu (λe'=>wV (BL j hj i hi e').symm)];exact h.H8 j hj e
 d8 e:=by
  rcases (bN hs hi).1 e with rfl|e
  ·exact ⟨(bN hs hi).2 (.inr (h8 rfl).1),(bN hs hi).2 (.inr (h8 rfl).2)⟩
  ·exact ⟨(bN hs hi).2 (.inr (h.d8 e).1),(bN hs hi).2 (.inr (h.d8 e).2)⟩
 d9 e:=(bN hs hi).2 (.inr (h.d9 (((bN hs hi).1 e).resolve_left h67.2.2)))
 d10 e:=by
  rcases (bN hs hi).1 e with rfl|e
  ·exact (bN hs hi).2 (.inr (Ay rfl))
  ·exact (bN hs hi).2 (.inr (h.d10 e))
 c6 e:=h.c6 (((bN hs hi).1 e).resolve_left h67.1)
 c7 e:=h.c7 (((bN hs hi).1 e).resolve_left h67.2.1)
 c67 e e':=h.c67 (((bN hs hi).1 e).resolve_left h67.1) (((bN hs hi).1 e').resolve_left h67.2.1)
 bl e:=h.bl (((bN hs hi).1 e).resolve_left h67.2.2)
theorem aIV (o':Nat):∀j,j≠6->j≠8->BV s n (sl p n cap) o a r j=BV s n (sl p n cap) o' a r j:=λj h1 h2=>by
 unfold BV;split<;>first|rfl|omega
theorem aIW (a':Nat):∀j,j≠7->j≠8->BV s n (sl p n cap) o a r j=BV s n (sl p n cap) o a' r j:=λj h1 h2=>by
 unfold BV;split<;>first|rfl|omega
theorem aIU (r':Nat):∀j,j<9->BV s n (sl p n cap) o a r j=BV s n (sl p n cap) o a r' j
 |0,_|1,_|2,_|3,_|4,_|5,_|6,_|7,_|8,_=>rfl
 |j+9,h=>by omega
theorem Chn.add {c x:Nat} (h:Chn K F x):Chn {K with Z:=K.Z.gL c} (c::F) x:=⟨List.mem_cons_of_mem _ h.1,.inl h.2.1,h.2.2⟩
theorem OS.aLs (h:OS ν q C S s b w0 p n cap l F K w f o a r) (hs:l.size=11) (h6:¬On l 6) {c:Nat} (hc:¬K.Z.ic c) (hcν:ν.n<=c):
 OS ν q C S s b w0 p n cap (l.setIfInBounds 6 true) (c::F) {K with Z:=K.Z.gL c} {w with heap:=w.heap.push gone} (bQ f 29 (.chan (some c))) c a r where
 comp:=(h.comp.gL c hcν).1
 ks:=h.ks
 kb:=h.kb
 fm:=h.fm.trans (by have:=(h.comp.gL c hcν).2;rw [h.ks] at this;exact this)
 H8 j hj e:=by
  by_cases wV:6=j
  ·subst wV;exact xJ
  ·have e:=((bN hs d40).1 e).resolve_left wV;have h8:j≠8:=λe8=>by subst e8;exact h6 (h.d8 e).1
   rw [Bu (d:=29) (λe'=>wV (BL j hj 6 d40 e').symm),h.H8 j hj e];exact aIV c j (Ne.symm wV) h8
 d8 e:=by have e:=((bN hs d40).1 e).resolve_left d40;exact absurd (h.d8 e).1 h6
 d9 e:=by have e:=((bN hs d40).1 e).resolve_left d40;exact absurd (h.d8 (h.d9 e)).1 h6
 d10 e:=by have e:=((bN hs d40).1 e).resolve_left d40;exact absurd (h.d8 (h.d9 (h.d10 e))).1 h6
 c6 _:=⟨List.mem_cons_self ..,.inr rfl,λe=>hc (.inr e),h.comp.lo.none hcν⟩
 c7 e:=(h.c7 (((bN hs d40).1 e).resolve_left d40)).add
 c67 _ e:=λe'=>hc (e'▸.inl (h.c7 (((bN hs d40).1 e).resolve_left d40)).2.1)
 bl e:=by have e:=((bN hs d40).1 e).resolve_left d40;exact absurd (h.d8 (h.d9 e)).1 h6
theorem OS.aLr (h:OS ν q C S s b w0 p n cap l F K w f o a r) (hs:l.size=11) (h7:¬On l 7) {c:Nat} (hc:¬K.Z.ic c) (hcν:ν.n<=c):
 OS ν q C S s b w0 p n cap (l.setIfInBounds 7 true) (c::F) {K with Z:=K.Z.gL c} {w with heap:=w.heap.push gone} (bQ f 30 (.chan (some c))) o c r where
 comp:=(h.comp.gL c hcν).1
 ks:=h.ks
 kb:=h.kb
 fm:=h.fm.trans (by have:=(h.comp.gL c hcν).2;rw [h.ks] at this;exact this)
 H8 j hj e:=by
  by_cases wV:7=j
  ·subst wV;exact xJ
  ·have e:=((bN hs d40).1 e).resolve_left wV;have h8:j≠8:=λe8=>by subst e8;exact h7 (h.d8 e).2
   rw [Bu (d:=30) (λe'=>wV (BL j hj 7 d40 e').symm),h.H8 j hj e];exact aIW c j (Ne.symm wV) h8
 d8 e:=by have e:=((bN hs d40).1 e).resolve_left d40;exact absurd (h.d8 e).2 h7
 d9 e:=by have e:=((bN hs d40).1 e).resolve_left d40;exact absurd (h.d8 (h.d9 e)).2 h7
 d10 e:=by have e:=((bN hs d40).1 e).resolve_left d40;exact absurd (h.d8 (h.d9 (h.d10 e))).2 h7
 c7 _:=⟨List.mem_cons_self ..,.inr rfl,λe=>hc (.inr e),h.comp.lo.none hcν⟩
 c6 e:=(h.c6 (((bN hs d40).1 e).resolve_left d40)).add
 c67 e _:=λe'=>hc (e'▸.inl (h.c6 (((bN hs d40).1 e).resolve_left d40)).2.1)
 bl e:=by have e:=((bN hs d40).1 e).resolve_left d40;exact absurd (h.d8 (h.d9 e)).2 h7
theorem OS.box (h:OS ν q C S s b w0 p n cap l F K w f o a r) (hs:l.size=11) (h9:¬On l 9) (h8:On l 8) (hr:¬K.Z.iq w.heap.size/\¬K.Z.bP w.heap.size/\¬K.Z.ic w.heap.size):
 OS ν q C S s b w0 p n cap (l.setIfInBounds 9 true) F K {w with heap:=w.heap.push (.cells (cnC s n o a) 99 (0,0))} (bQ f 32 (fK w.heap.size)) o a w.heap.size:=by
 have hc:Fr.aj (λ_=>False) w {w with heap:=w.heap.push (.cells (cnC s n o a) 99 (0,0))}:=⟨rfl,rfl,rfl,by simp,λk hk _=>xS hk⟩
 refine ⟨(h.comp.aA hc).1,h.ks,h.kb,h.fm.trans (by have:=(h.comp.aA hc).2;rw [h.ks] at this;exact this),λj hj e=>?_,λe=>?_,λe=>?_,λe=>?_,λe=>?_,λe=>?_,λe e'=>?_,λe=>?_⟩
 ·by_cases wV:9=j
  ·subst wV;exact xJ
  ·have e:=((bN hs d40).1 e).resolve_left wV;have Ay:j≠10:=λe8=>by subst e8;exact h9 (h.d10 e)
   rw [Bu (d:=32) (λe'=>wV (BL j hj 9 d40 e').symm),h.H8 j hj e];exact aIU _ j (by omega)
 ·have e:=((bN hs d40).1 e).resolve_left d40;exact ⟨(bN hs d40).2 (.inr (h.d8 e).1),(bN hs d40).2 (.inr (h.d8 e).2)⟩
 ·exact (bN hs d40).2 (.inr h8)
 ·exact (bN hs d40).2 (.inl rfl)
 ·exact h.c6 (((bN hs d40).1 e).resolve_left d40)
 ·exact h.c7 (((bN hs d40).1 e).resolve_left d40)
 ·exact h.c67 (((bN hs d40).1 e).resolve_left d40) (((bN hs d40).1 e').resolve_left d40)
 ·refine ⟨?_,h.fm.kp.size,hr⟩;show (w.heap.push _)[w.heap.size]? =_;rw [Array.getElem?_push,if_pos rfl]
theorem WO.one (aH:K.Ok) (bY:K.Z.Wf) {i d:Nat} {rest:List Nat} {an:List An} {v:Value} {io:List Io} {wv':World} (h:One s f i rest an d v io) (hb:nD (K.cut 2) io wv wv') (hz:deafBehind 0 (seen Tryz.prog 23 (gV io).toArray)=0)
 (hn:WO F Post K wv' (oR s (bQ f d v) rest) cs):WO F Post K wv (oR s f (i::rest)) cs:=λw hv hf=>
 WO.walk (csl:=[]) (csl':=[]) (cs:=cs) aH bY 1 h (wv':=wv') (d:=0) (d':=0) ⟨wv',hb,rfl,hz.symm⟩ hn w hv hf
theorem One.chan {i d:Nat} {rest:List Nat} (h:∀o,One s f i rest [.adr o] d (.chan (some o)) [.nw (.chan 0 #[] false 0 0 false) o]) (main:Bool) (w:World):
 stepG Tryz.prog main (G (oR s f (i::rest)) cs) w=.go (G (oR s (bQ f d (.chan (some w.heap.size))) rest) cs) {w with heap:=w.heap.push (.chan 0 #[] false 0 0 false)} #[]:=by
 have:=kH (h w.heap.size) main cs w {w with heap:=w.heap.push (.chan 0 #[] false 0 0 false)} ⟨rfl,rfl⟩;exact this
theorem oF {l:Array Bool} (hs:l.size=11) {i j:Nat} (hj:j<11) (h:OB (λj=>l.getD j false) i=true) (hm:(j,true)∈qR i):On l j:=by unfold OB at h;rw [List.all_eq_true] at h;have:=h _ hm;exact Yo hs hj (by simpa using this)
theorem Ld (h:OS ν q C S s b w0 p n cap (Array.replicate 11 false) [] K wv f 0 0 0) (MR:C.cb=sl p n cap)
 (hn:∀F K w f o a r,OS ν q C S s b w0 p n cap (Array.replicate 11 true) F K w f o a r->WO F Post K w (oR s f []) cs):WO [] Post K wv ((fb 23).at (oA s f) (.code (.region 5 Dq true)::oK)) cs:=by
 refine WO.drawn h.comp.ok Gs (λrest=>WO [] Post K wv (oR s f rest) cs) (λ_ e=>e) λt=>Vz (ops:=Dq) (λl=>Qg) (λl i=>(Gd l i).1) (Inv:=λl X=>l.size=11/\∃F K w f o a r,OS ν q C S s b w0 p n cap l F K w f o a r/\X=λrest=>WO F Post K w (oR s f rest) cs) ?_ ?_ 11 t (Array.replicate 11 false) (λrest=>WO [] Post K wv (oR s f rest) cs) (by simp) d40 ⟨by simp,_,_,_,_,_,_,_,h,rfl⟩
 ·rintro l X ⟨hs,F,K,w,f,o,a,r,hO,rfl⟩ jb;have hl:l=Array.replicate 11 true:=by
   apply Array.ext
   ·simp [hs]
   ·intro i h1 h2;have:=jb i (by omega);simp only [Array.getD,h1,dif_pos] at this;simpa using this
  subst hl;exact hn _ _ _ _ _ _ _ hO
 ·rintro l X i hs ⟨_,F,K,w,f,o,a,r,hO,rfl⟩ hi hli Mt rest hX;have nP:¬On l i:=λe=>by unfold On at e;rw [hli] at e;cases e
  have yO:(l.setIfInBounds i true).size=11:=by rw [Array.size_setIfInBounds];exact hs
  have V:=λj hj e=>hO.H8 j hj e;have ok:=hO.comp.ok;have wf:=hO.comp.wf;have lone:∀{an io},One s f i rest an (aAd i) (BV s n (sl p n cap) o a r i) io->nD (K.cut 2) io w w->deafBehind 0 (seen Tryz.prog 23 (gV io).toArray)=0->i≠6/\i≠7/\i≠9->(i=8->On l 6/\On l 7)->(i=10->On l 9)->WO F Post K w (oR s f (i::rest)) cs:=λh1 h2 h3 h4 h5 h6=>
   WO.one ok wf h1 h2 h3 (hX _ ⟨yO,_,_,_,_,_,_,_,hO.next hs hi h4 h5 h6,rfl⟩)
  match i,hi with
  |0,_=>exact lone (aNw s f rest) rfl rfl d40 nofun nofun
  |1,_=>have e:f 23=fK s:=V 0 d40 (oF hs d40 Mt d40);have:=aNv s f rest;rw [dG e] at this;exact lone this rfl rfl d40 nofun nofun
  |2,_=>have e:f 24=fK s:=V 1 d40 (oF hs d40 Mt d40);have:=aNu s f rest;rw [dG e] at this;exact lone this rfl rfl d40 nofun nofun
  |3,_=>
   have e:f 25=f4V s:=V 2 d40 (oF hs d40 Mt d40);have:=aNt s f rest n cap p;rw [dG e] at this;refine lone this ⟨?_,rfl⟩ ?_ d40 nofun nofun
   ·have:=hO.comp.rep.sr.blk.at (i:=4) rfl;rw [hO.ks,MR] at this;exact this
   ·exact deafBehind_still (λe he=>by
     have:=mem_seen he;simp only [gV,List.mem_toArray,List.mem_cons,List.not_mem_nil,or_false] at this;subst this;simp) 0
  |4,_=>have e:f 26=sl p n cap:=V 3 d40 (oF hs d40 Mt d40);have:=aNs s f rest n cap p;rw [dG e] at this;exact lone this rfl rfl d40 nofun nofun
  |5,_=>exact lone (aNr s f rest) rfl rfl d40 nofun nofun
  |6,_=>exact WO.chan (fr':=λc=>oR s (bQ f 29 (.chan (some c))) rest) ok (One.chan (aNq s f rest)) (hO.comp.lo.none hO.comp.los) λhc=>hX _ ⟨yO,_,_,_,_,_,_,_,hO.aLs hs nP hc hO.comp.los,rfl⟩
  |7,_=>exact WO.chan (fr':=λc=>oR s (bQ f 30 (.chan (some c))) rest) ok (One.chan (aNp s f rest)) (hO.comp.lo.none hO.comp.los) λhc=>hX _ ⟨yO,_,_,_,_,_,_,_,hO.aLr hs nP hc hO.comp.los,rfl⟩
  |8,_=>have o6:=oF (j:=6) hs d40 Mt d40;have o7:=oF (j:=7) hs d40 Mt d40;have e4:f 27=.int .i64 n:=V 4 d40 (oF hs d40 Mt d40);have e5:f 28=fK s:=V 5 d40 (oF hs d40 Mt d40);have e6:f 29=.chan (some o):=V 6 d40 o6;have e7:f 30=.chan (some a):=V 7 d40 o7;have:=aNo s f rest n o a;rw [dG e4,dG e5,dG e6,dG e7] at this;exact lone this rfl rfl d40 (λ_=>⟨o6,o7⟩) nofun
  |9,_=>
   have o8:=oF (j:=8) hs d40 Mt d40;have e:f 31=.agg (cnC s n o a):=V 8 d40 o8;intro wt hv hf;have hr:¬K.Z.iq w.heap.size/\¬K.Z.bP w.heap.size/\¬K.Z.ic w.heap.size:=by
    have bW:=hv.size;refine ⟨λe=>?_,λe=>?_,λe=>?_⟩
    ·have:=zW hv (.inr (.inl e));omega
    ·have:=zW hv (.inl e);omega
    ·have:=zW hv (.inr (.inr e));omega
   have:=aNn s f rest n o a w.heap.size;rw [dG e] at this;exact WO.one ok wf this ⟨rfl,⟨⟨rfl,rfl,nofun⟩,nofun⟩,rfl⟩ rfl (hX _ ⟨yO,_,_,_,_,_,_,_,hO.box hs nP o8 hr,rfl⟩) wt hv hf
  |10,_=>have o9:=oF (j:=9) hs d40 Mt d40;have e:f 32=fK r:=V 9 d40 o9;have:=aJr s f rest r;rw [dG e] at this;exact lone this rfl rfl d40 nofun (λ_=>o9)
  |i+11,h=>omega
end
end Re
end
section
open Go.Conc
namespace Re
open Tx Sp Wg Rd Bk Wi Se Rx Mp De Lo
section
variable {w w':World} {T:Nat->Prop}
def Hw (w:World) (T:Nat->Prop):Prop:=∀(k:Nat) (cur:Array Value) (t:TypeId) (fz:Nat×Nat),T k->w.heap[k]? =some (.cells cur t fz)->t≠256/\t≠258/\t≠260/\t≠9
theorem ob4 {t:B} {v:Value} (h:Ob w t v) (hc:Fr.aj T w w') (hs:Hw w T):Ob w' t v:=by
 obtain ⟨o,b,n,h1,h2,h3,h4,h5⟩:=h;refine ⟨o,b,n,h1,h2,h3.aA hc (λe=>?_),hc.ownsRow h4 (λk hk e=>?_),h5⟩
 ·have:=hs b _ _ _ e h3;rcases Ho o.kind with e|e|e<;>simp [e] at this
 ·obtain ⟨cur,hb⟩:=bq h4 hk;exact (hs k _ _ _ e hb).2.2.2 rfl
theorem om4 {b:Nat} {m:M B} (h:OM w b m) (hc:Fr.aj T w w') (hs:Hw w T) (hb:¬T b):OM w' b m:=by obtain ⟨mv,h1,h2⟩:=h;exact ⟨mv,h1.block (hc.block b h1.lt hb),h2.mono λk x y _ hr=>ob4 hr hc hs⟩
theorem aMR {st mo mr:Nat} {μ:Int} {s:St} (h:qZ w st mo mr μ s) (hc:Fr.aj T w w') (hs:Hw w T) (h1:¬T st) (h2:¬T mo) (h3:¬T mr):qZ w' st mo mr μ s:=
 ⟨h.blk.aA hc h1,om4 h.ah hc hs h2,h.refs.block (hc.block mr h.refs.lt h3)⟩
theorem cx4 {r:Nat} {fz:Nat×Nat} {v:Cv} {c:Cn} (h:Cx w r fz v c) (hc:Fr.aj T w w') (hs:Hw w T) (hn:∀k,Fp r v k->¬T k):Cx w' r fz v c:=by obtain ⟨vs,h1,h2⟩:=h.ah;exact ⟨aM.aA h.cb hc (hn r (.inl rfl)),hc.ownsRow h.au (λk hk=>hn k (.inr (.inl hk))),vs,hc.ownsRow h1 (λk hk=>hn k (.inr (.inr hk))),h2.mono λx y _ NG=>ob4 NG hc hs⟩
theorem wk4 {r:Nat} {v:Cv} {c:Cn} (h:FE w r v c) (hc:Fr.aj T w w') (hs:Hw w T) (hf:c.work≠some .fin):FE w' r v c:=by
 unfold FE at h ⊢;split
 ·simp only [*] at h;exact h
 ·simp only [*] at h;refine ⟨h.1,?_⟩;obtain ⟨p,cap,h1,U8,h2⟩:=h.2;refine ⟨p,cap,h1,U8,λhl=>?_⟩;obtain ⟨g,o,cur,e1,e2,e3⟩:=h2 hl;exact ⟨g,o,cur,e1,(hc.block g (lt_of_block e2) (λe=>(hs g _ _ _ e e2).2.2.2 rfl)).trans e2,e3⟩
 ·rename_i e;exact absurd e hf
 ·simp only [*] at h;exact h
end
def xZ (n s o a r:Nat):Cv:={i:=n,s:=s,o:=.chan (some o),a:=.chan (some a),cv:=.slice none 0 0,ov:=.slice none 0 0,wk:=.func (.func 44) #[aG r] #[],wv:=.slice none 0 0}
theorem Ju {n s o a r k:Nat} (h:Fp r (xZ n s o a r) k):k=r:=by
 rcases h with h|h|h
 ·exact h
 ·cases h
 ·cases h
theorem XV {w wE:World} {s r o a g cap:Nat} {C:Cp} {m:Int} {S:Sv} {fz jo:Nat×Nat} (h:gT w s C m S fz) (hnf:∀x∈S.ae,x.work≠some .fin) (hrf:¬jB s C r) (VL:2<r)
 (aOL:∀cur t jo,w.heap[r]? =some (.cells cur t jo)->t=99) (hc:Fr.aj (λk=>k=s\/C.cb.ownBlock=some k\/k=r) w wE)
 (hs:aM wE s #[.int .i32 m,.int .u32 0,aG C.st,aG C.lk,.slice (some ⟨g,0,none⟩) (C.rs.length+1) cap] 79 (0,0)) (ay:wE.ownsRow 0 91 1 (.slice (some ⟨g,0,none⟩) (C.rs.length+1) cap) (C.rs.length+1) ((C.rs++[r]).map aG)) (hg:2<g)
 (hb:aM wE r (cells (xZ S.ae.length s o a r) {}) 99 jo) (hzz:jo=fz):
 gT wE s {C with cb:=.slice (some ⟨g,0,none⟩) (C.rs.length+1) cap,rs:=C.rs++[r],vs:=C.vs++[xZ S.ae.length s o a r]} m {S with ae:=S.ae++[{}]} fz:=by
 subst hzz;have aK1:∀k cur t jo,C.cb.ownBlock=some k->w.heap[k]? =some (.cells cur t jo)->t=91:=λk cur t jo hk e=>zh h.sr.row hk e;have hs4:Hw w (λk=>k=s\/C.cb.ownBlock=some k\/k=r):=λk cur t jo hk e=>by
  rcases hk with rfl|hk|rfl
  ·rw [qG h.sr.blk e];decide
  ·rw [aK1 k cur t jo hk e];decide
  ·rw [aOL cur t jo e];decide
 have off:∀{k:Nat},jB s C k->k≠s->C.cb.ownBlock≠some k->¬(k=s\/C.cb.ownBlock=some k\/k=r):=λhk h1 h2=>by
  rintro (e|e|e)
  ·exact h1 e
  ·exact h2 e
  ·exact hrf (e▸hk)
 have bA:=h.zb;have aLt:∀{k:Nat} {cur:Array Value} {t:TypeId} {jo:Nat×Nat},w.heap[k]? =some (.cells cur t jo)->t≠91->C.cb.ownBlock≠some k:=λe ht e'=>ht (aK1 _ _ _ _ e' e);have aAq:∀{k:Nat},(∀cur t jo,w.heap[k]? ≠some (.cells cur t jo))->C.cb.ownBlock≠some k:=λhm e'=>by
  obtain ⟨cur,e⟩:=bq h.sr.row e';exact hm _ _ _ e
 have ost:=off (.inr (.inl rfl)) (Ne.symm bA.1) (aLt h.jC.blk d40);have olk:=off (.inr (.inr (.inl rfl))) (Ne.symm bA.2.1) (aLt h.nO.blk d40);have olb:=off (.inr (.inr (.inr (.inl rfl)))) (Ne.symm bA.2.2.1) (aAq (xH h.nO.map));have omo:=off (.inr (.inr (.inr (.inr (.inl rfl))))) (Ne.symm bA.2.2.2.1) (aAq h.jC.ah.eQ);have omr:=off (.inr (.inr (.inr (.inr (.inr (.inl rfl)))))) (Ne.symm bA.2.2.2.2.1) (aAq (xH h.jC.refs));have ofp:∀(i r':Nat) (v:Cv) (x:Cn),C.rs[i]? =some r'->C.vs[i]? =some v->S.ae[i]? =some x->∀k,Fp r' v k->¬(k=s\/C.cb.ownBlock=some k\/k=r):=λi r' v x h1 h2 h3 k hk=>by
  have wX:=(h.cn i r' v x h1 h2 h3).1.cx;refine off (.inr (.inr (.inr (.inr (.inr (.inr (.inr ⟨i,r',v,h1,h2,hk⟩))))))) (λe=>?_) (λe=>?_)
  ·subst e;exact wX.off h.sr.blk d40 d40 d40 hk
  ·obtain ⟨cur,e'⟩:=bq h.sr.row e;exact wX.off e' d40 d40 d40 hk
 have two:=h.two;have oJ:∀k,(k=s\/C.cb.ownBlock=some k\/k=r)->2<k:=λk hk=>by
  rcases hk with rfl|hk|rfl
  ·exact h.high (.inl rfl)
  ·exact h.RO k hk
  ·exact VL
 have hlen:C.rs.length=S.ae.length:=h.len;have snoc:∀{α:Type} {l:List α} {x y:α} {i:Nat},(l++[x])[i]? =some y->(l[i]? =some y/\i<l.length)\/(i=l.length/\y=x):=λ{α l x y i} e=>by
  rw [List.getElem?_append] at e;split at e
  ·exact .inl ⟨e,by assumption⟩
  ·rename_i hi;have hm:=List.mem_of_getElem? e;have:=(List.getElem?_eq_some_iff.1 e).1;simp only [List.length_cons,List.length_nil] at this;exact .inr ⟨by omega,List.mem_singleton.1 hm⟩
 refine ⟨⟨hs,?_⟩,aMR h.jC hc hs4 ost omo omr,h.nO.aA hc olk olb,by simp [h.len],by simp [h.mW],?_,?_,?_,h.maps,λk hk=>by cases hk;exact hg,h.gl.aA hc (λe=>by have:=oJ _ e;omega) (λe=>by have:=oJ _ e;omega) (λe=>by have:=oJ _ e;omega)⟩
 ·simpa using ay
 ·intro i r' v x h1 h2 h3;rcases snoc h3 with ⟨h3,hi⟩|⟨rfl,rfl⟩
  ·rcases snoc h1 with ⟨h1,_⟩|⟨e,_⟩
   ·rcases snoc h2 with ⟨h2,_⟩|⟨e,_⟩
    ·obtain ⟨c1,c2⟩:=h.cn i r' v x h1 h2 h3;exact ⟨⟨cx4 c1.cx hc hs4 (ofp i r' v x h1 h2 h3),wk4 c1.wk hc hs4 (hnf x (List.mem_of_getElem? h3))⟩,c2⟩
    ·have:=h.mW;omega
   ·omega
  ·rcases snoc h1 with ⟨_,e⟩|⟨_,rfl⟩
   ·omega
   ·rcases snoc h2 with ⟨_,e⟩|⟨_,rfl⟩
    ·have:=h.mW;omega
    ·exact ⟨⟨⟨hb,⟨rfl,.inl ⟨rfl,rfl⟩⟩,[],⟨rfl,.inl ⟨rfl,rfl⟩⟩,.nil⟩,⟨rfl,rfl,rfl⟩⟩,rfl,rfl⟩
 ·intro i j ri rj vi vj wV h1 h2 h3 h4 k hk lh;have new:∀{i:Nat} {ri:Nat} {vi:Cv},i<C.rs.length->C.rs[i]? =some ri->C.vs[i]? =some vi->Fp ri vi r->False:=λ{i ri vi} hi e1 e2 hk=>by
   obtain ⟨x,hx⟩:=oO (l:=S.ae) (i:=i) (by omega);exact ofp i ri vi x e1 e2 hx r hk (.inr (.inr rfl))
  rcases snoc h1 with ⟨g1,hi⟩|⟨ei,ri'⟩
  ·rcases snoc h3 with ⟨g3,_⟩|⟨e,_⟩
   ·rcases snoc h2 with ⟨g2,hj⟩|⟨ej,rj'⟩
    ·rcases snoc h4 with ⟨g4,_⟩|⟨e,_⟩
     ·exact h.apart i j ri rj vi vj wV g1 g2 g3 g4 k hk lh
     ·have:=h.mW;omega
    ·rcases snoc h4 with ⟨_,e⟩|⟨_,vj'⟩
     ·have:=h.mW;omega
     ·subst vj';subst rj';have:=Ju lh;subst this;exact new hi g1 g3 hk
   ·have:=h.mW;omega
  ·rcases snoc h3 with ⟨_,e⟩|⟨_,vi'⟩
   ·have:=h.mW;omega
   ·rcases snoc h2 with ⟨g2,hj⟩|⟨ej,_⟩
    ·rcases snoc h4 with ⟨g4,_⟩|⟨e,_⟩
     ·subst vi';subst ri';have:=Ju hk;subst this;exact new hj g2 g4 lh
     ·have:=h.mW;omega
    ·omega
 ·intro i r' v h1 h2 k hk;rcases snoc h1 with ⟨h1,hi⟩|⟨ei,ri'⟩
  ·rcases snoc h2 with ⟨h2,_⟩|⟨e,_⟩
   ·exact h.low i r' v h1 h2 k hk
   ·have:=h.mW;omega
  ·rcases snoc h2 with ⟨_,e⟩|⟨_,v'⟩
   ·have:=h.mW;omega
   ·subst v';subst ri';rw [Ju hk];exact VL
end Re
end
section
open Go.Conc
open Go.ConcN (upd upd_ne upd_same)
namespace Re
open Tx Sp Wg Rd Bk Wi Se Rx Mp De Lo Co Ka Kv Ky
def Bw:List Io->Bool
 |[]=>true
 | .ld ..::l| .st ..::l| .nw ..::l=>Bw l
 |_=>false
theorem BJ:∀{io:List Io},Bw io=true->∀e∈gV io,∃a,e.loc=.cell a
 |[],_,e,he=>by cases he
 | .ld m a v::l,h,e,he=>by
   rcases List.mem_cons.1 he with rfl|he
   ·exact ⟨a,rfl⟩
   ·exact BJ (io:=l) h e he
 | .st m a v::l,h,e,he=>by
   rcases List.mem_cons.1 he with rfl|he
   ·exact ⟨a,rfl⟩
   ·exact BJ (io:=l) h e he
 | .nw o r::l,h,e,he=>BJ (io:=l) h e he
 | .mk _::_,h,_,_=>by cases h
 | .sh ..::_,h,_,_=>by cases h
 | .fz ..::_,h,_,_=>by cases h
 | .get ..::_,h,_,_=>by cases h
 | .set ..::_,h,_,_=>by cases h
theorem Af {io:List Io} (h:Bw io=true) (P:Program) (fn:FuncId) (d:Nat):deafBehind d (seen P fn (gV io).toArray)=d:=
 deafBehind_still (λe he=>by
  have:=mem_seen he;obtain ⟨a,ha⟩:=BJ h e (by simpa using this);rw [ha];exact ⟨nofun,nofun⟩) d
theorem Bo {P:Program} {C:Cut} {fn:FuncId} {io:List Io} {l:List (FuncId×List Io)} {w w1 w':World} (hp:Bw io=true) (hb:nD C io w w1) (hl:nC P C l w1 w' 0 0):nC P C ((fn,io)::l) w w' 0 0:=
 ⟨w1,hb,by rw [Af hp];exact hl⟩
section
variable {Post:Value->World->Prop} {K:Cy} {wv w:World} {cs:List Frame} {ν:Old} {q:Bool} {s:Nat} {C:Cp} {m:Int} {S:Sv} {C0:Frame}
theorem bI.Yk (h:bI ν q m K C S wv) (ho:S.over=false) (hn:WV Post K wv (Ah K.s) cs):WV Post K wv (Yn K.s) cs:=λw hv=>by
 refine WT.step h.ok rfl λw' ha hK=>?_;have h7:=(hK.2 K.s h.bP).2 (h.Dl ho);have:=kH (Uo K.s) (K.h==0) cs w' w' ⟨h7,rfl⟩;refine ⟨_,_,_,0,this,⟨λe=>e,λs _=>⟨⟨rfl,rfl⟩,⟨rfl,rfl⟩⟩,λc k _ e=>e,λe he=>?_,Af rfl _ _ _⟩,hn w' (dm hv ha)⟩;have he:=mem_seen he;simp only [gV,List.mem_toArray,List.mem_cons,List.not_mem_nil,or_false] at he;subst he;refine ⟨λx hx=>?_,λs' _=>nofun⟩;have hx:=Option.some.inj hx;subst hx;refine ⟨λfT=>?_,nofun,nofun⟩;rcases fT with ⟨s',_,e|e⟩|⟨g,k,_,e|e⟩
 ·injection e with e;injection e with _ e;cases e
 ·injection e with e;injection e with _ e;cases e
 ·cases e
 ·cases e
structure Og (ν:Old) (q:Bool) (K:Cy) (C:Cp) (S:Sv) (C':Cp) (w0 w6:World) (r o a:Nat) (F:List Nat):Prop where
 comp:∃wz m,bI ν q m K C S wz
 rep:gT (fG r 16 (1,11) w6) K.s C' 1 {S with ae:=S.ae++[{}]} (1,11)
 rs:C'.rs=C.rs++[r]
 blk:∃c,w6.heap[r]? =some (.cells c 99 (0,0))/\c.size=16/\c[0]? =some (.int .i64 S.ae.length)/\c[1]? =some (fK K.s)/\c[9]? =some (.chan (some o))/\c[10]? =some (.chan (some a))
 ro:Chn K F o
 ra:Chn K F a
 oa:o≠a
 rf:¬K.Z.iq r/\¬K.Z.bP r/\¬K.Z.ic r
 fm:Fm K.s C w0 C' (fG r 16 (1,11) w6)
 lor:ν.n<=r
variable {C':Cp} {w0 w6:World} {r o a:Nat} {F:List Nat}
def Kn (K:Cy) (r o a:Nat):Cy:=({K with m:=K.n+1}:Cy).hire ⟨K.s,r,o,a⟩ (yM ⟨K.s,r,o,a⟩)
theorem Og.Q5 (h:Og ν q K C S C' w0 w6 r o a F):BN K.Z K.n K.s ⟨K.s,r,o,a⟩:=by obtain ⟨wz,m,hc⟩:=h.comp;refine ⟨hc.hi _ (Nat.le_refl _),rfl,hc.bP,h.rf.2.1,h.oa,λg k' hg=>⟨λe=>h.ro.2.2.1 ⟨g,k',hg,.inl e.symm⟩,λe=>h.ra.2.2.1 ⟨g,k',hg,.inl e.symm⟩,λe=>h.ro.2.2.1 ⟨g,k',hg,.inr e.symm⟩,λe=>h.ra.2.2.1 ⟨g,k',hg,.inr e.symm⟩⟩⟩
theorem Og.aEz (h:Og ν q K C S C' w0 w6 r o a F) (h8:S.ae.length<8) (VK:S.over=false):bI ν q 1 (Kn K r o a) C' {S with ae:=S.ae++[{}]} (fG r 16 (1,11) w6):=by
 obtain ⟨wz,m,hc⟩:=h.comp;have hk:=h.Q5;have ZK:=hc.b0;have hnn:=hc.nn;have bU:∀g,(Kn K r o a).Z.own g=upd K.Z.own K.n (some ⟨K.s,r,o,a⟩) g:=λ_=>rfl;have hσ:∀g,(Kn K r o a).σ g=upd K.σ K.n (some (yM ⟨K.s,r,o,a⟩)) g:=λ_=>rfl;have aI:=hc.ok.lt;have aH:(Kn K r o a).Ok:=by
  refine ⟨λi x hi hx hih hib=>?_,λi x hi hx hih wW=>?_,λx hx h0=>absurd hc.h0.symm h0,Nat.succ_pos _,Nat.lt_succ_of_lt aI,Nat.le_succ_of_le hc.ok.bn,hc.ok.cl,.inl hc.h0,λ_=>hc.bP⟩
  ·have hib:i<K.b:=hib;rw [hσ,upd_ne _ _ (by omega)] at hx;exact hc.ok.low i x (by omega) hx hih hib
  ·rw [bU];rw [hσ] at hx;by_cases e:i=K.n
   ·subst e;rw [upd_same] at hx ⊢;cases hx;exact ⟨_,rfl,rfl⟩
   ·rw [upd_ne _ _ e] at hx ⊢;have hi:i<K.n+1:=hi;exact hc.ok.wk i x (by omega) hx hih wW
 refine {ok:=aH,wf:=Hu hc.wf hk,h0:=hc.h0,b0:=ZK,mn:=rfl,nn:=?_,bP:=hc.bP,Dl:=hc.Dl,yS:=hc.yS,low:=λj h1 h2=>?_,hi:=λj hj=>?_,Qa:=λc Av=>?_,OQ:=hc.OQ,lo:=⟨λk hk=>?_,hc.lo.lq,hc.lo.lt⟩,own:=λi r' x h1 h2=>?_,rep:=h.rep,sw:=?_,ES:=?_}
 ·show K.n+1=K.b+(S.ae++[({}:Cn)]).length;simp only [List.length_append,List.length_cons,List.length_nil];omega
 ·have h2:j<K.b:=h2;rw [hσ,upd_ne _ _ (by omega)];exact hc.low j h1 h2
 ·have hj:K.n+1<=j:=hj;rw [bU,upd_ne _ _ (by omega)];exact hc.hi j (by omega)
 ·obtain ⟨g,k',hg,hh⟩:=hc.Qa c Av;exact ⟨g,k',(bU g).trans ((upd_ne _ _ (λe=>by subst e;rw [hc.hi _ (Nat.le_refl _)] at hg;cases hg)).trans hg),hh⟩
 ·have h2:(S.ae++[({}:Cn)])[i]? =some x:=h2;rw [h.rs] at h1;have EF:C.rs.length=S.ae.length:=hc.rep.len;show ∃k,upd K.Z.own K.n (some ⟨K.s,r,o,a⟩) (K.b+i)=some k/\k.s=K.s/\k.r=r'/\(x.over=false->upd K.σ K.n (some (yM ⟨K.s,r,o,a⟩)) (K.b+i)=some (yM k)/\¬K.Z.cls k.o)/\(x.over=true->upd K.σ K.n (some (yM ⟨K.s,r,o,a⟩)) (K.b+i)=Option.none);by_cases hi:i<S.ae.length
  ·rw [List.getElem?_append_left hi] at h2;rw [List.getElem?_append_left (by omega)] at h1;rw [upd_ne _ _ (by omega),upd_ne _ _ (by omega)];exact hc.own i r' x h1 h2
  ·have h3:=(List.getElem?_eq_some_iff.1 h2).1;simp only [List.length_append,List.length_cons,List.length_nil] at h3;obtain rfl:i=S.ae.length:=by omega
   rw [List.getElem?_append_right (Nat.le_refl _),Nat.sub_self] at h2;rw [List.getElem?_append_right (by omega),EF,Nat.sub_self] at h1;cases h2;cases h1;rw [<-hnn,upd_same,upd_same];exact ⟨_,rfl,rfl,rfl,λ_=>⟨rfl,λe=>h.ro.2.2.1 (hc.Qa _ e)⟩,nofun⟩
 ·have UQ:∀g k',(Kn K r o a).Z.own g=some k'->K.Z.own g=some k'\/k'=⟨K.s,r,o,a⟩:=λg k' hg=>by
   rw [bU] at hg;by_cases e:g=K.n
   ·subst e;rw [upd_same] at hg;exact .inr (Option.some.inj hg).symm
   ·rw [upd_ne _ _ e] at hg;exact .inl hg
  rcases hk with hk|⟨g,k',hg,rfl⟩|⟨g,k',hg,hk⟩|hk
  ·exact hc.lo.ge k (.inl hk)
  ·rcases UQ g k' hg with e|rfl
   ·exact hc.lo.ge _ (.inr (.inl ⟨g,k',e,rfl⟩))
   ·exact h.lor
  ·rcases UQ g k' hg with e|rfl
   ·exact hc.lo.ge _ (.inr (.inr (.inl ⟨g,k',e,hk⟩)))
   ·rcases hk with rfl|rfl
    ·exact hc.lo.ge _ (.inr (.inr (.inr ⟨h.ro.2.1,h.ro.2.2.2⟩)))
    ·exact hc.lo.ge _ (.inr (.inr (.inr ⟨h.ra.2.1,h.ra.2.2.2⟩)))
  ·exact hc.lo.ge k (.inr (.inr (.inr hk)))
 ·have:=hc.sw.open_;unfold Sv.open_ at this;rw [if_neg (by simp [VK];omega)] at this;exact this
 ·have:=hc.ES.open_;unfold Sv.open_ at this;rw [if_neg (by simp [VK];omega)] at this;exact this
end
end Re
end
section
open Go.Conc
open Go.ConcN (upd upd_ne upd_same)
namespace Re
open Tx Sp Wg Rd Bk Wi Se Rx Mp De Lo Co Ka Kv Ky
section
variable {Post:Value->World->Prop} {K:Cy} {wv w:World} {cs:List Frame} {ν:Old} {q:Bool} {s:Nat} {C C':Cp} {m:Int} {S:Sv} {C0:Frame} {w0 w6:World} {r o a:Nat} {F:List Nat} {f:Nat->Value} {v:Nat×Nat×Nat}
theorem Og.last (h:Og ν q K C S C' w0 w6 r o a F) (h8:S.ae.length<8) (VK:S.over=false)
 (hn:∀K' C' w',bI ν q 0 K' C' {S with ae:=S.ae++[{}]} w'->K'.s=K.s->Fm K.s C w0 C' w'->WV Post K' w' (C0.finish (.int .i64 S.ae.length)) cs):
 WV Post (Kn K r o a) (fG r 16 (1,11) w6) (rX K.s r f v) (C0::cs):=by
 have hcN:=h.aEz h8 VK;obtain ⟨e1,e2,e3,e4,e5⟩:=OU K.s r S.ae.length f v C0;obtain ⟨c,hb,bW,c0,_⟩:=h.blk;have cz:(fG r 16 (1,11) w6).cell? ⟨r,0,Option.none⟩=some (.int .i64 S.ae.length):=by unfold World.cell?;rw [iH hb];show (c.extract 0 16)[0]? =_;rw [Array.getElem?_extract];simpa [bW] using c0
 refine WV.uM (csl:=[C0]) (cs:=cs) hcN.ok hcN.wf 11 e1 (wv':=fG r 16 (1,11) w6) (by rw [e4];exact iI ⟨cz,trivial⟩) ?_;rw [e2,e3];refine WV.unlock (a:=⟨K.s,0,Option.none⟩) hcN.ok hcN.wf (by rw [e5];trivial) hcN.free.1 hcN.free.2 ?_;obtain ⟨h3,f3⟩:=hcN.zi 0;obtain ⟨d1,d2,d3,d4⟩:=OT K.s r S.ae.length f v C0;refine WV.uM (csl:=[C0]) (cs:=cs) h3.ok h3.wf 1 d1 (wv':=(fG r 16 (1,11) w6).setCell ⟨K.s,0,Option.none⟩ (.int .i32 0)) (by rw [d4];exact ⟨rfl,rfl⟩) ?_;rw [d2,d3];exact hn _ C' _ h3 rfl (h.fm.trans f3)
theorem Og.go (h:Og ν q K C S C' w0 w6 r o a F) (h8:S.ae.length<8) (VK:S.over=false)
 (hn:∀K' C' w',bI ν q 0 K' C' {S with ae:=S.ae++[{}]} w'->K'.s=K.s->Fm K.s C w0 C' w'->WV Post K' w' (C0.finish (.int .i64 S.ae.length)) cs):
 WO F Post K w6 (add0 K.s) (kU K.s r f v::C0::cs):=λw hv hf=>by
 obtain ⟨wz,mz,hc⟩:=h.comp;have hcN:=h.aEz h8 VK;have ZK:=hc.b0;have hnn:=hc.nn;have ok2:({K with m:=K.n+1}:Cy).Ok:=⟨hc.ok.low,hc.ok.wk,hc.ok.mn,hc.ok.pos,hc.ok.lt,hc.ok.bn,hc.ok.cl,hc.ok.hb,λ_=>hc.bP⟩
 refine WT.keep λhK _=>?_;have hgo:∀w',aQ K.Z w w'->WT Tryz.prog Post {K with m:=K.n+1} 0 (G ((kU K.s r f v).finish (.tuple #[])) (C0::cs)) w':=λw' hA=>by
  refine WT.sum (K:={K with m:=K.n+1}) (csl:=[]) (cs:=C0::cs) ok2 hc.bP (Um K.s r f v) trivial λw9 h9=>?_;have hA9:aQ K.Z w w9:=hA.trans h9;obtain ⟨c,hb,bW,c0,c1,c9,c10⟩:=h.blk;refine WT.hire (K:={K with m:=K.n+1}) (k:=⟨K.s,r,o,a⟩) (x:=yM ⟨K.s,r,o,a⟩) (a':=G (rX K.s r f v) (C0::cs)) (child:=G (rt0 ⟨K.s,r,0,0⟩) []) (nc:=31) ok2 hc.h0 rfl hcN.ok h.Q5 rfl hc.yS rfl (λw10 Ay=>?_) (λw10=>?_) (JH (K.Z.cO K.n ⟨K.s,r,o,a⟩) (n:=K.n) (k:=⟨K.s,r,o,a⟩) (upd_same ..)) (λw11 h11=>?_)
  ·have aGL:aQ K.Z w w10:=hA9.trans Ay;have NM:=hf.aside aGL;have gz:=(dm hv aGL).same r (eY.2 ⟨h.rf.2.1,h.rf.1,h.rf.2.2⟩);rw [hb] at gz;have cell:∀{i:Nat} {u:Value},c[i]? =some u->w10.cell? ⟨r,i,Option.none⟩=some u:=λ{i u} e=>by
    unfold World.cell?;rw [<-gz];exact e
   exact ⟨(NM o h.ro.1).1,(NM a h.ra.1).1,cell c1,cell c9,cell c10,Nr aGL (hK.2 K.s hc.bP).1⟩
  ·have hm:(K.h==0)=true:=by rw [hc.h0];rfl
   show stepG Tryz.prog (K.h==0) _ _=_;rw [hm];exact Yl K.s r f v w10 (C0::cs)
  ·have aPZ:aQ K.Z w w11:=hA9.trans h11;have iM:=dm hv aPZ;have:=Sw (n:=K.n) (k:=⟨K.s,r,o,a⟩) iM (hc.hi _ (Nat.le_refl _)) h.rf.2.1 h.rf.1 h.rf.2.2 (.inl h.ro.2.1) (.inl h.ra.2.1) h.ro.2.2.2 h.ra.2.2.2 hb bW (.inr rfl);exact h.last h8 VK hn w11 this
 refine WT.sum (csl:=[]) (cs:=kU K.s r f v::C0::cs) hc.ok hc.bP (aIX K.s) ⟨trivial,trivial,trivial⟩ λwa ha=>?_;refine WT.add hc.ok hc.h0 hc.bP hc.mn (by omega) rfl (λc=>G (bF K.s (aa c 0)) (bC K.s (aa c 0)++kU K.s r f v::C0::cs)) (λc w' ZI h5 hf5=>?_) (λc w' ZI uz=>?_)
 ·have:=kH (aEZ K.s c ZI) (K.h==0) (kU K.s r f v::C0::cs) w' (w'.setCell (dE K.s) (.int .u64 (aa (c+1) 0))) ⟨h5,⟨_,h5⟩,hf5,rfl⟩;rw [aBh] at this;exact this
 ·have hAw:aQ K.Z w w':=ha.trans uz;by_cases yt:c=0
  ·subst yt;refine WT.sum (K:={K with m:=K.n+1}) (csl:=bC K.s (aa 0 0)) (cs:=kU K.s r f v::C0::cs) ok2 hc.bP (aBf K.s) ⟨⟨rfl,rfl,rfl,rfl,trivial⟩,trivial⟩ λwb hb=>?_;obtain ⟨g1,g2⟩:=aBi K.s;refine WT.say (K:={K with m:=K.n+1}) ok2 hc.bP hc.wf rfl (es:=#[rZ (.read (iD K.s))]) (d':=1) (a':=G (dF K.s) (kU K.s r f v::C0::cs)) (λe he=>?_) rfl (λw7 _=>?_) (λw7 h7=>?_)
   ·simp at he;subst he;exact .inr (.inr (.inr (.inr (.inr (.inr ⟨hc.h0,.inl rfl⟩)))))
   ·have:=kH g1 (K.h==0) (kU K.s r f v::C0::cs) w7 w7 rfl;rw [g2] at this;exact this
   ·exact WT.sum (K:={K with m:=K.n+1}) (csl:=[kU K.s r f v]) (cs:=C0::cs) ok2 hc.bP (aBg K.s (kU K.s r f v)) ⟨trivial,trivial⟩ λw8 h8=>hgo w8 (((hAw.trans hb).trans h7).trans h8)
  ·have e:bC K.s (aa c 0)++kU K.s r f v::C0::cs=(bC K.s (aa c 0)++[kU K.s r f v])++(C0::cs):=by simp
   rw [e];exact WT.sum (K:={K with m:=K.n+1}) (csl:=bC K.s (aa c 0)++[kU K.s r f v]) (cs:=C0::cs) ok2 hc.bP (aEY K.s c (by omega) ZI (kU K.s r f v)) ⟨trivial,trivial⟩ λw8 h8=>hgo w8 (hAw.trans h8)
end
end Re
end
section
open Go.Conc
open Go.ConcN (upd upd_ne upd_same)
namespace Re
open Tx Sp Wg Rd Bk Wi Se Rx Mp De Lo Co Ka Kv Ky
section
variable {Post:Value->World->Prop} {K:Cy} {wv w:World} {cs:List Frame} {ν:Old} {q:Bool} {s:Nat} {C C':Cp} {m:Int} {S:Sv} {C0:Frame} {w0:World} {r o a:Nat} {F:List Nat} {f:Nat->Value}
theorem Yv (s:Nat) (f:Nat->Value) (v:Value):(oA s f).put (some 45) v=oA s (bQ f 45 v):=k40
theorem Q0 (s:Nat) (f:Nat->Value):(oA s f).eval (.tmp 42)=f 42/\(oA s f).eval (.tmp 44)=f 44:=⟨k40,k40⟩
theorem aFR:(Tq.prog.info? 91).map (λi=>(i.zero,i.size,i.bytes))=some (some (.pointer Option.none),1,8):=k40
theorem Ns (aH:K.Ok) (bY:K.Z.Wf) {v:Value} {n:Nat} {xs:List Value} {c:Nat} {x:Value} (GN:x.oneCell'=true) (ay:wv.ownsRow 0 91 1 v n xs) (cz:wv.cell? ⟨c,0,Option.none⟩=some x) (h42:f 42=v) (h44:f 44=.slice (some ⟨c,0,Option.none⟩) 1 1) (hn8:n<=8)
 (hn:∀g cap w5,w5.ownsRow 0 91 1 (vS (g,n+1,cap)) (n+1) (xs++[x])->(Ka.re wv w5.tape 0).grownBy w5 v.ownBlock->(v.ownBlock=some g\/g=wv.heap.size)->WO F Post K w5 ((fb 23).at (oA s (bQ f 45 (vS (g,n+1,cap)))) (.inRegion Dp [8,9,10]::oK7)) cs):
 WO F Post K wv ((fb 23).at (oA s f) (.inRegion Dp [7,8,9,10]::oK7)) cs:=by
 obtain ⟨e1,e2,e3,e4,e5⟩:=Yw;refine WO.oper aH bY e1 (by unfold Region.wanted;rw [e4]) e5 (λu w5=>∃g cap,u=vS (g,n+1,cap)/\w5.ownsRow 0 91 1 (vS (g,n+1,cap)) (n+1) (xs++[x])/\(Ka.re wv w5.tape 0).grownBy w5 v.ownBlock/\(v.ownBlock=some g\/g=wv.heap.size)) ?_ (λτ d=>?_) ?_
 ·rintro u w5 τ d ⟨g,cap,h1,h2,h3,h4⟩;exact ⟨g,cap,h1,h2,⟨h3.os,rfl,h3.output,h3.size,h3.block⟩,h4⟩
 ·have wW:=aFR;obtain ⟨i0,hi,hz⟩:=Option.map_eq_some_iff.1 wW;simp only [Prod.mk.injEq] at hz;obtain ⟨uw,wQ,wP⟩:=hz;obtain ⟨v',w',hr,h2,h3,h4,h5⟩:=run_append_own_at (P:=Tq.prog) (Ka.re wv τ d) 0 70 o7.type 91 i0 (.pointer Option.none) 1 8 ((Tq.underlying 70).trans Tryz.underlying70) hi uw wQ wP rfl d40 v n xs ay ⟨c,0,Option.none⟩ 1 1 [x] rfl (λj u hj=>by
   cases j with
   |zero=>cases hj;exact cz
   |succ j=>simp at hj) (λu hu=>by obtain rfl:=List.mem_singleton.1 hu;exact GN) (by unfold maxLen;omega) (by omega) (Nat.zero_le _)
  refine ⟨.value v',v',w',?_,.inl rfl,?_⟩
  ·have hs:=(Q0 s f).1;have hx:=(Q0 s f).2;rw [h42] at hs;rw [h44] at hx;unfold execOp;simp only [e2,resolve,invoke,builtin,Sem.run_bind,Sem.run_pure,Result.andThen_ok,List.map_toArray,List.map_cons,List.map_nil,hs,hx,hr]
  ·obtain ⟨hl,hc⟩:=h2;rcases hc with ⟨_,e⟩|⟨g,cap,cur,rfl,g1,g2,g3⟩
   ·omega
   ·refine ⟨g,cap,rfl,⟨hl,.inr ⟨g,cap,cur,rfl,g1,g2,g3⟩⟩,⟨h3.os,rfl,h3.output,h3.size,h3.block⟩,?_⟩;rcases h5 with e|e
    ·exact .inl e.symm
    ·exact .inr (Option.some.inj e)
 ·rintro u w5 ⟨g,cap,rfl,h2,h3,h4⟩;rw [e3,Yv];exact hn g cap w5 h2 h3 h4
theorem XO {w w':World} {B E z n:Nat} {v:Value} {xs:List Value} (h:w.ownsRow B E z v n xs) (hb:∀k,v.ownBlock=some k->w'.heap[k]? =w.heap[k]?):w'.ownsRow B E z v n xs:=by
 obtain ⟨hl,hc⟩:=h;refine ⟨hl,?_⟩;rcases hc with hc|⟨g,cap,cur,rfl,h1,h2,h3⟩
 ·exact .inl hc
 ·exact .inr ⟨g,cap,cur,rfl,h1,(hb g rfl).trans h2,h3⟩
theorem yL:∀j,j<11->(Array.replicate 11 true).getD j true=true:=by decide
theorem Ul {w1:World} {b n cap:Nat} {p:Option Addr} (h1:gT w1 s C 1 S (1,11)) (hO:OS ν q C S s b w1 p n cap (Array.replicate 11 true) F K w f o a r) (MR:C.cb=sl p n cap) (Zd:n=S.ae.length) (h8:S.ae.length<8) (VK:S.over=false) (hnf:∀x∈S.ae,x.work≠some .fin)
 (hn:∀K' C' w',bI ν q 0 K' C' {S with ae:=S.ae++[{}]} w'->K'.s=s->Fm s C w1 C' w'->WV Post K' w' (C0.finish (.int .i64 S.ae.length)) cs):WO F Post K w (oR s f []) (C0::cs):=by
 have wR:=hO.ks;subst wR;subst Zd;have ok:=hO.comp.ok;have wf:=hO.comp.wf;have e3:f 3=fK r:=hO.H8 10 d40 (yL 10 d40);obtain ⟨hb,hrw,hrf⟩:=hO.bl (yL 9 d40);have hft:∀k,jB K.s C k->k<w1.heap.size:=λk hk=>h1.lt hk;have hrF:¬jB K.s C r:=λhk=>by have:=hft r hk;omega
 have two:=h1.two;have aCv:r<w.heap.size:=(Array.getElem?_eq_some_iff.1 hb).1;have c3:Fr.aj (·=r) w (w.setCell ⟨r,14,Option.none⟩ (ZZ r)):=(Fr.aj.refl (·=r) w).setCell (p:=⟨r,14,Option.none⟩) (.inl rfl) _;have ru:Rx.Safe w (·=r):=λk cur t jo hk e=>by
  subst hk;rw [hb] at e;injection e with e;injection e with _ e _;subst e;decide
 have vg:=aBV hO.comp c3 ru (λk hk e=>hrF (e▸hk)) (λk e=>by subst e;omega);have jE:(w.setCell ⟨r,14,Option.none⟩ (ZZ r)).heap[r]? =some (.cells (cells (xZ S.ae.length K.s o a r) {}) 99 (0,0)):=by rw [bT _ _ _ rfl,if_pos rfl,hb];rfl
 have aF4:(w.setCell ⟨r,14,Option.none⟩ (ZZ r)).heap.size=w.heap.size:=by simp
 generalize hw3:w.setCell ⟨r,14,Option.none⟩ (ZZ r)=w3 at c3 vg jE aF4;have c4:Fr.aj (λ_=>False) w3 {w3 with heap:=w3.heap.push (.cells #[fK r] 91 (0,0))}:=⟨rfl,rfl,rfl,by simp,λk hk _=>xS hk⟩
 obtain ⟨ZT,_⟩:=vg.aA c4;have oV:({w3 with heap:=w3.heap.push (.cells #[fK r] 91 (0,0))}:World).heap[r]? =some (.cells (cells (xZ S.ae.length K.s o a r) {}) 99 (0,0)):=Dh jE;have ZH:({w3 with heap:=w3.heap.push (.cells #[fK r] 91 (0,0))}:World).cell? ⟨w3.heap.size,0,Option.none⟩=some (fK r):=by unfold World.cell?;show (match (w3.heap.push _)[w3.heap.size]? with|some (.cells c _ _)=>_|_=>_)=_;rw [Array.getElem?_push,if_pos rfl];rfl
 have DT:({w3 with heap:=w3.heap.push (.cells #[fK r] 91 (0,0))}:World).heap.size=w.heap.size+1:=by show (w3.heap.push _).size=_;rw [Array.size_push,aF4]
 obtain ⟨g1,g2,g3,g4,g5,g6,g7,g8⟩:=aFo K.s r w3.heap.size S.ae.length cap p f;have Ro:w.cell? ⟨r,14,Option.none⟩=some .nilFunc/\w.frozen? ⟨r,14,Option.none⟩=false:=by unfold World.cell? World.frozen?;rw [hb];exact ⟨rfl,rfl⟩
 have Bi:w3.cell? ⟨K.s,4,Option.none⟩=some (sl p S.ae.length cap):=by have:=vg.rep.sr.blk.at (i:=4) rfl;rw [MR] at this;exact this
 generalize hw4:({w3 with heap:=w3.heap.push (.cells #[fK r] 91 (0,0))}:World)=w4 at c4 ZT oV ZH DT;have aHg:oR K.s f []=o6 K.s r f:=by unfold o6;rw [dG e3]
 rw [aHg];refine WO.aIP (csl:=[]) ok wf 19 g1 (wv':=w4) (by
  rw [g4];refine Bo rfl (w1:=w3) ⟨⟨_,Ro.1⟩,Ro.2,hw3.symm⟩ (Bo rfl (w1:=w3) ⟨Bi,rfl⟩ (Bo rfl (w1:=w4) ⟨rfl,⟨⟨rfl,rfl,nofun⟩,nofun⟩,hw4.symm⟩ ⟨rfl,rfl⟩))) ?_
 rw [g2,g3];have gG:=ZT.rep.sr.row;have hlen:C.rs.length=S.ae.length:=ZT.rep.len;refine Ns (x:=fK r) (c:=w3.heap.size) ok wf rfl gG ZH (g7.trans (MR.symm)) g8 (by omega) λgg fM w5 Mr Rn hgg=>?_;rw [hlen] at Mr;have hsb:=ZT.rep.sr.blk;have bA:K.s≠r:=λe=>hrF (.inl e.symm);have Bg:some K.s≠C.cb.ownBlock:=λe=>ZT.rep.sr.IJ e.symm;have aOA:K.s<w4.heap.size:=hsb.lt;have hs5:w5.heap[K.s]? =some (.cells #[.int .i32 1,.int .u32 0,aG C.st,aG C.lk,C.cb] 79 (0,0)):=(Rn.block K.s aOA Bg).trans hsb;have aPz:some r≠C.cb.ownBlock:=λe=>by
  have:=zh gG e.symm oV;cases this
 have aKh:r<w4.heap.size:=by omega
 have hr5:w5.heap[r]? =some (.cells (cells (xZ S.ae.length K.s o a r) {}) 99 (0,0)):=(Rn.block r aKh aPz).trans oV;have aKQ:∀k cur t jo,gg=k->w5.heap[k]? =some (.cells cur t jo)->t=91:=λk cur t jo e e'=>zh Mr (show (vS (gg,S.ae.length+1,fM)).ownBlock=some k by rw [<-e];rfl) e';have aPm:gg≠K.s:=λe=>by have:=aKQ K.s _ _ _ e hs5;cases this
 have aPn:gg≠r:=λe=>by have:=aKQ r _ _ _ e hr5;cases this
 obtain ⟨d1,d2,d3,d4⟩:=aFn K.s r (oF7 K.s r w3.heap.size S.ae.length cap p f) (gg,S.ae.length+1,fM);have e8:(fb 23).at (oA K.s (bQ (oF7 K.s r w3.heap.size S.ae.length cap p f) 45 (vS (gg,S.ae.length+1,fM)))) (.inRegion Dp [8,9,10]::oK7)=o8 K.s r (oF7 K.s r w3.heap.size S.ae.length cap p f) (gg,S.ae.length+1,fM):=by unfold o8;rw [dG g5,dG g6]
 rw [hlen,e8];have aGv:∃x,w5.cell? ⟨K.s,4,Option.none⟩=some x:=by unfold World.cell?;rw [hs5];exact ⟨_,rfl⟩
 have aPq:w5.frozen? ⟨K.s,4,Option.none⟩=false:=by unfold World.frozen?;rw [hs5];rfl
 refine WO.aIP (csl:=[]) ok wf 10 d1 (wv':=w5.setCell ⟨K.s,4,Option.none⟩ (vS (gg,S.ae.length+1,fM))) (by
  rw [d4];exact Bo rfl ⟨aGv,aPq,rfl⟩ ⟨rfl,rfl⟩) ?_
 rw [d2,d3];have h6:∀k,(w5.setCell ⟨K.s,4,Option.none⟩ (vS (gg,S.ae.length+1,fM))).heap[k]? =if K.s=k then (w5.heap[k]?).map (λ| .cells c e fr=>.cells (c.setIfInBounds 4 (vS (gg,S.ae.length+1,fM))) e fr|o=>o) else w5.heap[k]? :=λk=>bT _ _ _ rfl k
 have h6r:(w5.setCell ⟨K.s,4,Option.none⟩ (vS (gg,S.ae.length+1,fM))).heap[r]? =some (.cells (cells (xZ S.ae.length K.s o a r) {}) 99 (0,0)):=by rw [h6,if_neg bA];exact hr5
 have h6t:(w5.setCell ⟨K.s,4,Option.none⟩ (vS (gg,S.ae.length+1,fM))).tape=w5.tape/\(w5.setCell ⟨K.s,4,Option.none⟩ (vS (gg,S.ae.length+1,fM))).os=w5.os/\(w5.setCell ⟨K.s,4,Option.none⟩ (vS (gg,S.ae.length+1,fM))).output=w5.output/\(w5.setCell ⟨K.s,4,Option.none⟩ (vS (gg,S.ae.length+1,fM))).heap.size=w5.heap.size:=⟨rfl,rfl,rfl,by simp⟩
 generalize w5.setCell ⟨K.s,4,Option.none⟩ (vS (gg,S.ae.length+1,fM))=w6 at h6 h6r h6t;have hE:∀k,k≠K.s->k≠r->(fG r 16 (1,11) w6).heap[k]? =w5.heap[k]? :=λk k1 k2=>by rw [df k2,h6,if_neg (Ne.symm k1)]
 have aLb:(fG r 16 (1,11) w6).heap.size=w5.heap.size:=by unfold fG;simp [h6t.2.2.2]
 have hcE:Fr.aj (λk=>k=K.s\/C.cb.ownBlock=some k\/k=r) (Ka.re w4 w5.tape 0) (fG r 16 (1,11) w6):=by
  refine ⟨h6t.2.1.trans Rn.os,h6t.1,h6t.2.2.1.trans Rn.output,?_,λk hk hn=>?_⟩
  ·rw [aLb];exact Rn.size
  ·rw [hE k (λe=>hn (.inl e)) (λe=>hn (.inr (.inr e)))];exact Rn.block k hk (λe=>hn (.inr (.inl e.symm)))
 have hsE:aM (fG r 16 (1,11) w6) K.s #[.int .i32 1,.int .u32 0,aG C.st,aG C.lk,.slice (some ⟨gg,0,Option.none⟩) (C.rs.length+1) fM] 79 (0,0):=by unfold aM;rw [df bA,h6,if_pos rfl,hs5,hlen];rfl
 have aKf:(fG r 16 (1,11) w6).ownsRow 0 91 1 (.slice (some ⟨gg,0,Option.none⟩) (C.rs.length+1) fM) (C.rs.length+1) ((C.rs++[r]).map aG):=by rw [List.map_append,hlen];exact XO Mr (λk hk=>by cases hk;exact hE gg aPm aPn)
 have hbE:aM (fG r 16 (1,11) w6) r (cells (xZ S.ae.length K.s o a r) {}) 99 (1,11):=by unfold aM;rw [iH h6r];rfl
 have hg2:2<gg/\(jB K.s C gg\/w1.heap.size<=gg):=by
  rcases hgg with e|e
  ·exact ⟨ZT.rep.RO gg e,.inl (.inr (.inr (.inr (.inr (.inr (.inr (.inl e)))))))⟩
  ·rw [e,DT];have:=hO.fm.kp.size;exact ⟨by omega,.inr (by omega)⟩
 have aK8:=XV (o:=o) (a:=a) (gT.re (τ:=w5.tape) (d:=0) ZT.rep) hnf hrF (by omega) (λcur t jo e=>by
  have e:w4.heap[r]? =some (.cells cur t jo):=e;rw [oV] at e;injection e with e;injection e with _ e _;exact e.symm) hcE hsE aKf hg2.1 hbE rfl
 have aKT:=hO.fm;refine Og.go (C:=C) (w0:=w1) (r:=r) (o:=o) (a:=a) ⟨⟨w4,1,ZT⟩,aK8,rfl,⟨_,h6r,rfl,rfl,rfl,rfl,rfl⟩,hO.c6 (yL 6 d40),hO.c7 (yL 7 d40),hO.c67 (yL 6 d40) (yL 7 d40),hrf,⟨⟨⟨h6t.2.1.trans (Rn.os.trans (c4.os.trans (c3.os.trans hO.fm.kp.os.1))),h6t.2.2.1.trans (Rn.output.trans (c4.output.trans (c3.output.trans hO.fm.kp.os.2)))⟩,?_,λk ob hk hnk=>?_⟩,λk hk=>?_⟩,Nat.le_trans (Nat.le_of_lt (Nat.lt_of_le_of_lt (hO.comp.lo.ge _ (.inl hO.comp.bP)) (h1.lt (.inl rfl)))) hrw⟩ h8 VK hn
 ·rw [aLb];have:=Rn.size;have hz:(Ka.re w4 w5.tape 0).heap.size=w4.heap.size:=rfl;have:=aKT.kp.size;omega
 ·have hk1:=(Array.getElem?_eq_some_iff.1 hk).1;have hkw:=aKT.kp.keep k ob hk hnk;have aPb:=(Array.getElem?_eq_some_iff.1 hkw).1;have hkr:k≠r:=by omega
  rw [hE k (λe=>hnk (.inl e)) hkr];have VP:w4.heap[k]? =some ob:=(c4.block k (by omega) (λe=>e)).trans ((c3.block k aPb hkr).trans hkw);exact (Rn.block k (Array.getElem?_eq_some_iff.1 VP).1 (λe=>hnk (.inr (.inr (.inr (.inr (.inr (.inr (.inl e.symm))))))))).trans VP
 ·rcases hk with hk|hk|hk|hk|hk|hk|hk|⟨i,r',v,jf,iM,hk⟩
  ·exact .inl (.inl hk)
  ·exact .inl (.inr (.inl hk))
  ·exact .inl (.inr (.inr (.inl hk)))
  ·exact .inl (.inr (.inr (.inr (.inl hk))))
  ·exact .inl (.inr (.inr (.inr (.inr (.inl hk)))))
  ·exact .inl (.inr (.inr (.inr (.inr (.inr (.inl hk))))))
  ·have:gg=k:=by cases hk;rfl
   subst this;exact hg2.2
  ·have h1':(C.rs++[r])[i]? =some r':=jf;have h2':(C.vs++[xZ S.ae.length K.s o a r])[i]? =some v:=iM;have JZ:=ZT.rep.mW;by_cases hi:i<C.rs.length
   ·rw [List.getElem?_append_left hi] at h1';rw [List.getElem?_append_left (by omega)] at h2';exact .inl (.inr (.inr (.inr (.inr (.inr (.inr (.inr ⟨i,r',v,h1',h2',hk⟩)))))))
   ·rw [List.getElem?_append_right (by omega)] at h1' h2';have m1:=List.mem_singleton.1 (List.mem_of_getElem? h1');have m2:=List.mem_singleton.1 (List.mem_of_getElem? h2');subst m1 m2;rw [Ju hk];exact .inr hrw
theorem bI.open_ (h:bI ν q 0 K C S wv) (h8:S.ae.length<8) (VK:S.over=false) (hnf:∀x∈S.ae,x.work≠some .fin)
 (hn:∀K' C' w',bI ν q 0 K' C' {S with ae:=S.ae++[{}]} w'->K'.s=K.s->Fm K.s C wv C' w'->WV Post K' w' (C0.finish (.int .i64 S.ae.length)) cs):WV Post K wv (Frame.enter Tryz.prog 23 #[aG K.s] .normal) (C0::cs):=by
 show WV Post K wv (Gq K.s) (C0::cs);obtain ⟨a1,a2,a3,a4,a5⟩:=Ur K.s;refine WV.uM (csl:=[]) h.ok h.wf 10 a1 (wv':=wv) (by rw [a4];exact ⟨rfl,rfl⟩) ?_;rw [a2,a3];refine WV.lock h.ok h.wf (by rw [a5];trivial) h.free.1 h.free.2 ?_;obtain ⟨h1,f1⟩:=h.zi 1;generalize wv.setCell ⟨K.s,0,Option.none⟩ (.int .i32 1)=w1 at h1 f1 ⊢;obtain ⟨b1,b2,b3⟩:=Uq K.s;refine WV.uM (csl:=[]) h.ok h.wf 14 b1 (wv':=w1) (by rw [b3];exact ⟨rfl,rfl⟩) ?_;rw [b2];refine h1.Yk VK ?_;obtain ⟨p,cap,MR,_⟩:=h1.rep.sr.len;have hlen:C.rs.length=S.ae.length:=h1.rep.len;rw [hlen] at MR;have MR:C.cb=sl p S.ae.length cap:=MR;obtain ⟨c1,c2,c3,c4⟩:=Un K.s p S.ae.length cap h8;refine WV.uM (csl:=[]) h.ok h.wf 12 c1 (wv':=w1) (by
  rw [c4];refine iI ⟨?_,trivial⟩;have:=h1.rep.sr.blk.at (i:=4) rfl;rw [MR] at this;exact this) ?_
 rw [c2,c3];refine WV.ofO (Ld (w0:=w1) (b:=K.b) (p:=p) (n:=S.ae.length) (cap:=cap) ⟨h1,rfl,rfl,Fm.refl _ _ _,?_,?_,?_,?_,?_,?_,?_,?_⟩ MR λF K' w f o a r hO=>?_)
 any_goals (intro e;exact absurd e d40)
 ·intro j hj e;exact absurd e (by revert j;decide)
 ·exact Ul h1.rep hO MR rfl h8 VK hnf λK' C' w' g1 g2 g3=>hn K' C' w' g1 g2 (f1.trans g3)
end
end Re
end
section
open Go.Conc
open Go.ConcN (upd upd_ne upd_same)
namespace Re
open Tx Sp Wg Rd Bk Wi Se Rx Mp De Lo Co Ka Kv Ky
section
variable {Post:Value->World->Prop} {K:Cy} {wv:World} {cs:List Frame} {ν:Old} {q:Bool} {C0:Frame} {p:Addr} {ev:Value}
structure aLB (wv w:World) (fw:Bool) (room:Nat):Prop where
 bP:w.heap[wv.heap.size+5]? =some (.cells (aBD (wv.heap.size+2) (wv.heap.size+4)) 79 (0,0))
 st:aM w (wv.heap.size+2) #[.int .i32 0,.int .u32 0,.bool fw,.int .i64 room,.map (some wv.heap.size),.map (some (wv.heap.size+1))] 65 (0,0)
 lk:aM w (wv.heap.size+4) #[.int .i32 0,.int .u32 0,.map (some (wv.heap.size+3))] 69 (0,0)
 mo:SM w wv.heap.size []
 mr:SM w (wv.heap.size+1) []
 lb:SM w (wv.heap.size+3) []
 old:∀k,k<wv.heap.size->w.heap[k]? =wv.heap[k]?
 os:w.os=wv.os/\w.output=wv.output
def aJw (n:Nat) (p:Addr) (ev:Value):Cp:={st:=n+2,lk:=n+4,lb:=n+3,mo:=n,mr:=n+1,cb:=.slice none 0 0,rs:=[],vs:=[],p:=p,ev:=ev}
def aJv (K:Cy) (s:Nat):Cy:={K with Z:=K.Z.jk s,s:=s,m:=K.n}
theorem Rest.comp (h:Rest ν K p ev wv) {w:World} {fw:Bool} {room:Nat} (hr:room<=40) (hm:aLB wv w fw room) (hs:¬K.Z.bP (wv.heap.size+5)/\¬K.Z.iq (wv.heap.size+5)):bI ν q 0 (aJv K (wv.heap.size+5)) (aJw wv.heap.size p ev) (Fb fw room) (fG (wv.heap.size+5) 5 (0,0) w):=by
 have hc:∀k,k≠wv.heap.size+5->(fG (wv.heap.size+5) 5 (0,0) w).heap[k]? =w.heap[k]? :=λk hk=>df hk;have cz:∀{b:Nat} {u:Value},wv.cell? ⟨b,0,none⟩=some u->(fG (wv.heap.size+5) 5 (0,0) w).cell? ⟨b,0,none⟩=some u:=λ{b u} e=>by
  have hb:=World.block_lt_of_cell? wv _ e;have hb:b<wv.heap.size:=hb;unfold World.cell? at e ⊢;rw [hc b (by omega),hm.old b hb];exact e
 refine {ok:=⟨h.ok.low,h.ok.wk,h.ok.mn,h.ok.pos,h.ok.lt,h.ok.bn,h.ok.cl,h.ok.hb,λe=>?_⟩,wf:=⟨λg k e=>.inl (h.wf.bP g k e),λg k e e'=>?_,h.wf.Eo⟩,h0:=h.h0,b0:=h.b0,mn:=rfl,nn:=?_,bP:=.inr rfl,Dl:=λ_ e=>hs.1 (h.OQ _ e),yS:=h.yS,low:=λj h1 h2=>h.low j h1 (h.bn▸h2),hi:=h.hi,Qa:=h.Qa,OQ:=λr e=>.inl (h.OQ r e),lo:=⟨λk hk=>(by
  have:=h.los;rcases hk with (hk|rfl)|hk|hk|hk
  ·exact h.lo.ge k (.inl hk)
  ·omega
  ·exact h.lo.ge k (.inr (.inl hk))
  ·exact h.lo.ge k (.inr (.inr (.inl hk)))
  ·exact h.lo.ge k (.inr (.inr (.inr hk)))),h.lo.lq,h.lo.lt⟩,own:=λi r x e=>?_,rep:=?_,sw:=oW.new _ _ _,ES:=yE.new _ _ hr}
 ·have e:K.b<K.n:=e;have:=h.bn;omega
 ·rcases e' with e'|e'
  ·exact h.wf.apart g k e e'
  ·exact hs.2 ⟨g,k,e,e'⟩
 ·show K.n=K.b+0;have:=h.bn;omega
 ·cases e
 ·refine {sr:=⟨?_,⟨rfl,.inl ⟨rfl,rfl⟩⟩⟩,jC:=⟨?_,⟨[],hm.mo.block (hc _ (by show wv.heap.size≠_;omega)),.nil⟩,hm.mr.block (hc _ (by show wv.heap.size+1≠_;omega))⟩,nO:=⟨?_,hm.lb.block (hc _ (by show wv.heap.size+3≠_;omega))⟩,len:=rfl,mW:=rfl,cn:=λi r v x e=>(by cases e),apart:=λi j r r' v v' _ e=>(by cases e),low:=λi r v e=>(by cases e),maps:=⟨(by show wv.heap.size+3≠wv.heap.size;omega),(by show wv.heap.size+3≠wv.heap.size+1;omega),(by show wv.heap.size≠wv.heap.size+1;omega)⟩,RO:=λk e=>(by cases e),gl:=⟨cz h.gl.more,cz h.gl.et,cz h.gl.QI,h.gl.oU⟩}
  ·unfold aM;show (fG (wv.heap.size+5) 5 (0,0) w).heap[wv.heap.size+5]? =_;rw [iH hm.bP];rfl
  ·have:=hm.st;unfold aM at this ⊢;show (fG (wv.heap.size+5) 5 (0,0) w).heap[wv.heap.size+2]? =_;rw [hc _ (by omega),this];rfl
  ·have:=hm.lk;unfold aM at this ⊢;show (fG (wv.heap.size+5) 5 (0,0) w).heap[wv.heap.size+4]? =_;rw [hc _ (by omega),this];rfl
theorem Rest.new (h:Rest ν K p ev wv) (fw:Bool) (room:Nat) (hr:room<=40)
 (hn:∀K' C' w',bI ν q 0 K' C' (Fb fw room) w'->Kp (λ_=>False) wv w'->(∀k,jB K'.s C' k->wv.heap.size<=k)->C'.p=p->C'.ev=ev->WV Post K' w' (C0.finish (aG K'.s)) cs):WV Post K wv (Frame.enter Tryz.prog 15 #[.bool fw,.int .i64 room] .normal) (C0::cs):=λw hv=>by
 have bW:wv.heap.size=w.heap.size:=hv.size;have hs:¬K.Z.bP (wv.heap.size+5)/\¬K.Z.iq (wv.heap.size+5)/\¬K.Z.ic (wv.heap.size+5):=by
  refine ⟨λe=>?_,λe=>?_,λe=>?_⟩
  ·have:=zW hv (.inl e);omega
  ·have:=zW hv (.inr (.inl e));omega
  ·have:=zW hv (.inr (.inr e));omega
 refine WV.aDx h.ok h.wf (f:=15) Tryz.func15 d40 rfl (qg k40) (λv w'=>v=aG (wv.heap.size+5)/\aLB wv w' fw room) ?_ (λτ d=>(aCc (Ka.re wv τ d) fw room).mono ?_) ?_ w hv
 ·rintro v w' τ d ⟨h1,h2⟩;exact ⟨h1,h2.bP,h2.st,h2.lk,h2.mo.block rfl,h2.mr.block rfl,h2.lb.block rfl,h2.old,h2.os⟩
 ·rintro e w' ⟨rfl,h1,h2,h3,h4,h5,h6,h7⟩;exact ⟨_,rfl,rfl,h1,h2,h3,h4,h5,h6,λk hk=>h7.block k hk,⟨h7.os,h7.output⟩⟩
 ·rintro v w' ⟨rfl,hm⟩;intro w2 NH;have hw2:w2.heap[wv.heap.size+5]? =some (.cells (aBD (wv.heap.size+2) (wv.heap.size+4)) 79 (0,0)):=by
   rw [<-NH.same _ (eY.2 ⟨hs.1,hs.2.1,hs.2.2⟩)];exact hm.bP
  have cell:∀{i:Nat} {u:Value},(aBD (wv.heap.size+2) (wv.heap.size+4))[i]? =some u->w2.cell? ⟨wv.heap.size+5,i,none⟩=some u:=λ{i u} e=>by
   unfold World.cell?;rw [hw2];exact e
  have frz:∀i,w2.frozen? ⟨wv.heap.size+5,i,none⟩=false:=λi=>by
   unfold World.frozen?;rw [hw2];simp
  refine WT.jk (s':=wv.heap.size+5) h.bn (λg k hk e=>hs.2.1 ⟨g,k,hk,e⟩) ⟨cell rfl,frz 5⟩ ⟨cell rfl,frz 6⟩ ⟨by unfold World.shape?;rw [hw2];rfl,λ_=>cell rfl⟩ ?_;have UO:=Su NH hs.1 hs.2.1 hs.2.2 hm.bP (by show 5<=8;decide) (.inl rfl);have hC:bI ν q 0 (aJv K (wv.heap.size+5)) (aJw wv.heap.size p ev) (Fb fw room) (fG (wv.heap.size+5) 5 (0,0) w'):=h.comp hr hm ⟨hs.1,hs.2.1⟩;refine hn _ _ _ hC ⟨hm.os,?_,λk o hk _=>?_⟩ (λk hk=>?_) rfl rfl w2 UO
  ·have:wv.heap.size+5<w'.heap.size:=(Array.getElem?_eq_some_iff.1 hm.bP).1;have h2:(fG (wv.heap.size+5) 5 (0,0) w').heap.size=w'.heap.size:=by unfold fG;simp
   omega
  ·have hk1:=(Array.getElem?_eq_some_iff.1 hk).1;rw [df (by omega),hm.old k hk1];exact hk
  ·rcases hk with hk|hk|hk|hk|hk|hk|hk|⟨i,r',v,jf,_⟩
   ·have hk:k=wv.heap.size+5:=hk;omega
   ·have hk:k=wv.heap.size+2:=hk;omega
   ·have hk:k=wv.heap.size+4:=hk;omega
   ·have hk:k=wv.heap.size+3:=hk;omega
   ·have hk:k=wv.heap.size:=hk;omega
   ·have hk:k=wv.heap.size+1:=hk;omega
   ·cases hk
   ·cases jf
end
end Re
end
section
open Go.Conc
open Go.ConcN (upd upd_ne upd_same)
namespace Re
open Tx Sp Wg Rd Bk Wi Se Rx Mp De Lo Co Ka Kv Ky
def Gh.JM (Z:Gh) (s:Nat):Gh:={Z with Dl:=λx=>Z.Dl x\/x=s}
def stops (K:Cy):Cy:={K with Z:=Gh.JM K.Z K.s}
section
variable {P:Program} {Z:Gh} {b s p m h n:Nat} {ρ:Nat->aU} {wt sm:Nat} {t:Trace} {gs:Array Goroutine} {w:World} {q:Nat->Nat}
theorem Core.JM (C:Core P Z b s p m h ρ wt sm t gs w q) (r:Nat):Core P (Gh.JM Z r) b s p m h ρ wt sm t gs w q:=
 ⟨⟨C.wf.bP,C.wf.apart,C.wf.Eo⟩,C.pos,C.ge,λi g hi hg=>by
   have:=C.idle i g hi hg;revert this;cases ρ i<;>exact id,⟨⟨C.wd.chans,C.wd.ans,C.wd.uS,C.wd.apart,C.wd.qH,⟨C.wd.keep.1,λx hx=>⟨(C.wd.keep.2 x hx).1,λhn=>(C.wd.keep.2 x hx).2 λe=>hn (.inl e)⟩⟩,C.wd.both,C.wd.Dm,C.wd.own,C.wd.UD⟩,⟨C.wd.sI,C.wd.wh,C.wd.J5,C.wd.NF,C.wd.ND,C.wd.Wj,C.wd.wky,C.wd.NT⟩⟩,⟨C.td.above,C.td.nL,C.td.px,C.td.ho,C.td.rel,C.td.norel,C.td.ple⟩⟩
theorem UZ {fn:FuncId} {v:Value} (bY:Z.Wf) (hs:Z.bP s) (ho:Z.Dl s):JP Z Z.ic h 0 0 w (w.setCell ⟨s,7,none⟩ v) (seen Tryz.prog fn (gV [.st .plain ⟨s,7,none⟩ v]).toArray):=by
 have oU:∀e∈seen Tryz.prog fn (gV [.st .plain ⟨s,7,none⟩ v]).toArray,e=⟨.cell ⟨s,7,none⟩,true,false⟩:=λe he=>by
  have:=mem_seen he;simp only [gV,List.mem_toArray,List.mem_cons,List.not_mem_nil,or_false] at this;exact this
 refine ⟨λhK=>?_,λs' _=>⟨⟨World.cell?_setCell_other _ _ _ _ (λe=>?_),aZ rfl⟩,World.cell?_setCell_other _ _ _ _ (λe=>?_),aZ rfl⟩,λc k _ hk=>ku rfl hk rfl,λe he=>?_,deafBehind_still (λe he=>by rw [oU e he];simp) 0⟩
 ·have fT:∀r,(w.setCell ⟨s,7,none⟩ v).shape? r=w.shape? r:=λr=>by
   unfold World.shape?;rw [bT _ _ _ rfl];by_cases e:s=r
   ·rw [if_pos e];cases w.heap[r]? with
    |none=>rfl
    |some x=>cases x<;>simp
   ·rw [if_neg e]
  refine ⟨λg k hk=>?_,λs' yO=>⟨(fT s').trans (hK.2 s' yO).1,λhn=>?_⟩⟩
  ·have key:∀o',(w.setCell ⟨s,7,none⟩ v).cell? ⟨k.r,o',none⟩=w.cell? ⟨k.r,o',none⟩:=λo'=>by
    refine World.cell?_setCell_other _ _ _ _ ?_;intro e;have:s=k.r:=congrArg Addr.block e;exact bY.apart g k hk (this▸hs)
   simp only [key,fT];exact hK.1 g k hk
  ·refine (World.cell?_setCell_other _ _ _ _ (λe=>?_)).trans ((hK.2 s' yO).2 hn);have:s=s':=congrArg Addr.block e;exact hn (this▸ho)
 ·have:=congrArg Addr.off e;have:(7:Nat)=5:=this;omega
 ·have:=congrArg Addr.off e;have:(7:Nat)=6:=this;omega
 ·rw [oU e he];refine ⟨λx hx=>?_,λs' _=>fD (λm x=>by cases x) _⟩;simp only [MemAct.ofEvent,MemAct.touch?,Option.some.injEq] at hx;subst hx;refine ⟨λfT=>?_,λ_ g hp=>?_,λe=>?_⟩
  ·rcases fT with ⟨s',_,e|e⟩|⟨_,_,_,e|e⟩
   ·have:=congrArg Addr.off (Loc.cell.inj e);have:(7:Nat)=5:=this;omega
   ·have:=congrArg Addr.off (Loc.cell.inj e);have:(7:Nat)=6:=this;omega
   ·cases e
   ·cases e
  ·obtain ⟨g',k,o',hk,_,e,_⟩:=hp;have:s=k.r:=congrArg Addr.block (Loc.cell.inj e);exact bY.apart g' k hk (this▸hs)
  ·cases e
theorem aBe {N:Code->Prop} {ty:TypeId->Prop} {φ:Nat} {wv:World} {v:Value} (bY:Z.Wf) (hs:Z.bP s) (hv:Vw (Z.cut N ty φ) wv w):Vw (Z.cut N ty φ) wv (w.setCell ⟨s,7,none⟩ v):=by
 have hcut:=hv.cut s 5 (iG hs);obtain ⟨cv0,ca0,t0,e10,e20,_⟩:=hcut;have DZ:∀r:Nat,s≠r->(w.setCell ⟨s,7,none⟩ v).heap[r]? =w.heap[r]? :=λr hr=>by
  rw [bT _ _ _ rfl,if_neg hr]
 refine ⟨?_,hv.os,λr hr=>?_,λr n hr=>?_,λr hr=>?_,hv.plain,hv.loops⟩
 ·rw [hv.size];simp [World.setCell]
 ·rw [DZ r (λe=>?_)]
  ·exact hv.same r hr
  ·subst e;have:=hr.1;rw [iG hs] at this;cases this
 ·by_cases e:s=r
  ·subst e;obtain ⟨cv,ca,t,e1,e2,e3,e4,e5,e6⟩:=hv.cut s n hr;have:n=5:=by rw [iG hs] at hr;exact (Option.some.inj hr).symm
   refine ⟨cv,ca.setIfInBounds 7 v,t,e1,?_,e3,by simpa using e4,λi hi=>?_,e6⟩
   ·rw [bT _ _ _ rfl,if_pos rfl,e2];rfl
   ·rw [Array.getElem?_setIfInBounds_ne (by omega)];exact e5 i hi
  ·rw [DZ r e];exact hv.cut r n hr
 ·by_cases e:s=r
  ·subst e;obtain ⟨_,o,ho,hoc⟩:=hv.chan s hr;rw [e20] at ho;obtain rfl:=Option.some.inj ho;cases hoc.off
  ·rw [DZ r e];exact hv.chan r hr
end
section
variable {Post:Value->World->Prop} {K:Cy} {wv:World} {cs:List Frame} {ν:Old} {q:Bool} {s:Nat} {C:Cp} {m:Int} {S:Sv} {C0:Frame}
theorem bI.aBC (h:bI ν q m K C S wv):bI ν q m (stops K) C {S with over:=true} wv:=
 {ok:=⟨h.ok.low,h.ok.wk,h.ok.mn,h.ok.pos,h.ok.lt,h.ok.bn,h.ok.cl,h.ok.hb,h.ok.bP⟩,wf:=⟨h.wf.bP,h.wf.apart,h.wf.Eo⟩,h0:=h.h0,b0:=h.b0,mn:=h.mn,nn:=h.nn,bP:=h.bP,Dl:=λe=>(by cases e),yS:=h.yS,low:=h.low,hi:=h.hi,Qa:=h.Qa,OQ:=λr e=>e.elim (h.OQ r) λe=>e▸h.bP,lo:=⟨h.lo.ge,h.lo.lq,h.lo.lt⟩,own:=h.own,
  rep:=⟨h.rep.sr,h.rep.jC,h.rep.nO,h.rep.len,h.rep.mW,h.rep.cn,h.rep.apart,h.rep.low,h.rep.maps,h.rep.RO,h.rep.gl⟩,sw:=⟨h.sw.Bl,h.sw.cn,h.sw.up,h.sw.held,h.sw.st,h.sw.rf⟩,ES:=⟨h.ES.room,h.ES.cn,h.ES.st⟩}
theorem bI.halt (h:bI ν q m K C S wv) {fr fr':Frame} (hw:Ky.walk Tryz.prog 1 fr [] []=some (fr',[],[],[(18,[.st .plain ⟨K.s,7,Option.none⟩ (.bool true)])])) (bJ:(G fr cs).status=.running) (hn:bI ν q m (stops K) C {S with over:=true} wv->WV Post (stops K) wv fr' cs):WV Post K wv fr cs:=λw hv=>by
 have h':=h.aBC;refine WT.grow (K':=stops K) rfl rfl rfl (λ_ _ h=>h) (λ_ _ _ _ p _ _ C=>⟨p,Core.JM C K.s⟩) ?_;refine WT.step h'.ok bJ λw' ha hK=>?_;have iM:Vw ((stops K).cut 2) wv w':=dm hv ha;obtain ⟨cv,ca,t,e1,e2,e3,e4,e5,e6⟩:=iM.cut K.s 5 (iG h'.bP);have fT:=(hK.2 K.s h'.bP).1;have h8:ca.size=8:=by unfold World.shape? at fT;rw [e2] at fT;exact (Prod.mk.inj (Option.some.inj fT)).2
 have hc:∃x,w'.cell? ⟨K.s,7,Option.none⟩=some x:=by unfold World.cell?;rw [e2];exact ⟨ca[7],by simp [h8]⟩
 have hf:w'.frozen? ⟨K.s,7,Option.none⟩=false:=by unfold World.frozen?;rw [e2];simp
 exact ⟨_,_,_,0,kH hw ((stops K).h==0) cs w' _ ⟨hc,hf,rfl⟩,UZ h'.wf h'.bP (.inr rfl),hn h' _ (aBe h'.wf h'.bP iM)⟩
theorem aAe (S:Sv) (c:Int):(S.drop c).1.ae.length=S.ae.length:=by
 unfold Sv.drop;split
 ·rfl
 ·unfold Sv.mark Sv.lI Sv.set;dsimp only;split
  ·split<;>simp
  ·simp
theorem Vl {S:Sv} {i:Nat} (h:∀(j:Nat) (x:Cn),j<i->S.ae[j]? =some x->x.over=true):∀(j:Nat) (x:Cn),j<i+1->(S.drop (i:Int)).1.ae[j]? =some x->x.over=true:=by
 intro j x hj hx;cases hc:S.ae[i]? with
 |none=>
  have e:S.drop (i:Int)=(S,false):=by unfold Sv.drop Sv.conn;simp [hc]
  rw [e] at hx;by_cases hji:j=i
  ·subst hji;rw [hc] at hx;cases hx
  ·exact h j x (by omega) hx
 |some y=>
  cases ho:y.over with
  |true=>
   have e:S.drop (i:Int)=(S,false):=by unfold Sv.drop Sv.conn;simp [hc,ho]
   rw [e] at hx;by_cases hji:j=i
   ·subst hji;rw [hc] at hx;obtain rfl:=Option.some.inj hx;exact ho
   ·exact h j x (by omega) hx
  |false=>
   rw [drop_eq hc ho] at hx;rcases jR hx with ⟨_,rfl⟩|⟨bA,hx⟩
   ·rfl
   ·exact h j x (by omega) hx
theorem QP {f:Nat->Value} {i n:Nat} (h1:f 17=.int .i64 n) (h2:f 18=.int .i64 i):sN f i n=f:=by unfold sN;rw [dG h1,dG h2]
theorem bI.stop (h:bI ν false 0 K C S wv) (hn:∀K' p ev w',Rest ν K' p ev w'->Kp (jB K.s C) wv w'->WV Post K' w' (C0.finish (.tuple #[])) cs):WV Post K wv (Frame.enter Tryz.prog 18 #[aG K.s] .normal) (C0::cs):=by
 show WV Post K wv (FX K.s) (C0::cs);obtain ⟨a1,a2,a3,a4,a5⟩:=Tu K.s;refine WV.uM (csl:=[]) h.ok h.wf 6 a1 (wv':=wv) (by rw [a4];exact ⟨rfl,rfl⟩) ?_;rw [a2,a3];refine WV.lock h.ok h.wf (by rw [a5];trivial) h.free.1 h.free.2 ?_;obtain ⟨h1,f1⟩:=h.zi 1;generalize wv.setCell ⟨K.s,0,Option.none⟩ (.int .i32 1)=w1 at h1 f1 ⊢;obtain ⟨b1,b2,b3⟩:=Tt K.s;refine WV.uM (csl:=[]) h.ok h.wf 13 b1 (wv':=w1) (by rw [b3];exact ⟨rfl,rfl⟩) ?_;rw [b2];show WV Post K w1 (XA K.s) (C0::cs);refine h1.halt (Tp K.s) rfl λh2=>?_;obtain ⟨h4,ay⟩:w1.cell? ⟨K.s,4,Option.none⟩=some C.cb/\∃(n cap:Nat) (p:Option Addr),C.cb=sl p n cap/\n=S.ae.length/\n<=8:=by obtain ⟨p,cap,e,_⟩:=h1.rep.sr.len;exact ⟨h1.rep.sr.blk.at (i:=4) rfl,C.rs.length,cap,p,e,h1.rep.len,Jv h1.rep h1.sw⟩
 obtain ⟨n,cap,p,MR,Zd,h8⟩:=ay;obtain ⟨c1,c2,c3,c4,c5,c6⟩:=Tn K.s n cap p;refine WV.uM (csl:=[]) h2.ok h2.wf 12 c1 (wv':=w1) (by rw [c4];exact iI ⟨MR▸h4,trivial⟩) ?_;rw [c2,c3,<-QP c5 c6];refine WV.while (I:=λj K' w' a=>∃(i:Nat) (g:Nat->Value) (C':Cp) (S':Sv),a=sA K.s (sN g i n)/\i+j=n/\bI ν false 1 K' C' S' w'/\K'.s=K.s/\S'.ae.length=n/\(∀(j:Nat) (x:Cn),j<i->S'.ae[j]? =some x->x.over=true)/\Fm K.s C wv C' w') (n:=n) (λj K' w' a ⟨i,g,C',S',_,_,hC,_⟩=>hC.ok) ⟨0,_,C,_,rfl,by omega,h2,rfl,Zd.symm,λj x hj=>by omega,f1⟩ ?_;rintro j K' w' a ⟨i,g,C',S',rfl,wV,hC,hs,hl,GV,hf⟩ again;obtain ⟨d1,d2,d3,d4⟩:=TP K.s i n g;show WV Post K' w' ((fb 18).at (sA K.s (sN g i n)) MV) (C0::cs);refine WV.uM (csl:=[]) hC.ok hC.wf 5 d1 (wv':=w') (by rw [d4];exact ⟨rfl,rfl⟩) ?_;rw [d2,d3];refine WV.cond hC.ok (aJc K.s (sN g i n) _) ?_;by_cases hi:i<n
 ·have e:decide ((i:Int)<(n:Int))=true:=decide_eq_true (by omega);rw [e];refine WV.skip hC.ok ?_;generalize hG:bQ (sN g i n) 19 (.bool true)=G1;have g18:G1 18=.int .i64 i:=by subst hG;rfl
  have g17:G1 17=.int .i64 n:=by subst hG;rfl
  obtain ⟨x1,x2,x3,x4⟩:=TQ K.s i G1;rw [dG g18] at x1 x2 x3 x4;refine WV.uM (csl:=[]) hC.ok hC.wf 11 x1 (wv':=w') (by rw [x4];exact ⟨rfl,rfl⟩) ?_;rw [x2,x3,<-hs];refine hC.zY i λK2 C2 w2 eF BG hf2=>?_;obtain ⟨y1,y2,y3,y4,y5,y6⟩:=TN K.s i n G1 (if (S'.drop i).2 then 1 else -1) (by omega);rw [dG g17] at y1 y2 y3 y4;rw [hs];refine WV.uM (csl:=[]) eF.ok eF.wf 6 y1 (wv':=w2) (by rw [y4];exact ⟨rfl,rfl⟩) ?_;rw [y2,y3];refine again (j - 1) K2 w2 _ (by omega) ⟨i+1,_,C2,_,congrArg (sA K.s) (QP y5 y6).symm,by omega,eF,BG.trans hs,(aAe _ _).trans hl,Vl GV,hf.trans (hs▸hf2)⟩
 ·have e:decide ((i:Int)<(n:Int))=false:=decide_eq_false (by omega);rw [e];refine WV.exit hC.ok aJb ?_;generalize bQ (sN g i n) 19 (.bool false)=G1;obtain ⟨x1,x2,x3,x4⟩:=TM K.s G1;refine WV.uM (csl:=[]) hC.ok hC.wf 5 x1 (wv':=w') (by rw [x4];exact ⟨rfl,rfl⟩) ?_;rw [x2,x3];have hσ:∀u,0<u->u<K'.n->K'.σ u=Option.none:=λu h1 h2=>by
   rcases Nat.lt_or_ge u K'.b with hb|hb
   ·exact hC.low u h1 hb
   ·have hnn:=hC.nn;obtain ⟨x,hx⟩:=oO (l:=S'.ae) (i:=u - K'.b) (by omega);obtain ⟨r,v,hr,hv,_⟩:=hC.rep.conn hx;obtain ⟨k,_,_,_,_,h5⟩:=hC.own _ r x hr hx;have:=h5 (GV _ x (by omega) hx)
    rwa [show K'.b+(u - K'.b)=u by omega] at this
  have aJY:∀(_:WV Post {K' with b:=K'.n,R:=λ_ _=>True} w' ((sW K.s G1).finish (.tuple #[])) (C0::cs)),WV Post K' w' (BR K.s) (sW K.s G1::C0::cs):=λhgo w2 NH=>by
   rw [<-hs];rw [<-hs] at hgo;exact H7 hC.ok hC.wf hC.h0 hC.bP hC.mn hσ hC.b0 λw3 ha=>hgo w3 (dm NH ha)
  refine aJY ?_;have aCy:({K' with b:=K'.n,R:=λ_ _=>True}:Cy).Ok:=hC.ok.retired hC.h0 hC.mn hσ (λ_ _ _ _ _ _ _ _=>trivial);obtain ⟨z1,z2,z3,z4,z5⟩:=XL K.s G1 C0;refine WV.uM (csl:=[C0]) aCy hC.wf 3 z1 (wv':=w') (by rw [z4];exact ⟨rfl,rfl⟩) ?_;rw [z2,z3];have u6:=hC.free;rw [hs] at u6;refine WV.unlock aCy hC.wf (by rw [z5];trivial) u6.1 u6.2 ?_;obtain ⟨h5,f5⟩:=hC.zi 0;rw [hs] at h5 f5;obtain ⟨u1,u2,u3,u4⟩:=aFc K.s G1 C0;refine WV.uM (csl:=[C0]) aCy hC.wf 1 u1 (wv':=w'.setCell ⟨K.s,0,Option.none⟩ (.int .i32 0)) (by rw [u4];exact ⟨rfl,rfl⟩) ?_;rw [u2,u3];have jZ:=hC.ok.pos;exact hn _ C'.p C'.ev _ ⟨aCy,hC.wf,hC.h0,jZ,rfl,hC.mn,λ_ _=>trivial,hσ,hC.hi,hC.Qa,hC.OQ,hC.lo,h5.los,h5.rep.gl⟩ (hf.trans f5).kp
end
end Re
end
section
open Go.Conc
namespace Re
open Tx Sp Wg Rd Bk Wi Se Rx Mp De Lo Co Ka Kv Ky
section
variable {Post:Value->World->Prop} {K:Cy} {wv:World} {cs:List Frame} {ν:Old} {q:Bool} {s:Nat} {C:Cp} {m:Int} {S:Sv} {C0:Frame} {f:FuncId} {a:Act} {k:List Item}
structure Wk (K:Cy) (f:FuncId):Prop where
 ok:K.Ok
 wf:K.Z.Wf
 kp:keep f=true
 fn:∃fn,Tryz.prog.funcs[f]? =some fn
theorem RB {l:List Deferred} (h:l=[]):gJ l:=by subst h;intro d hd;cases hd
theorem Wk.code (h:Wk K f) {c:Code} (hd:a.defers=[]) (hk:jN (.code c::k)=true)
 (hw:∀R:Act->World->Prop,(∀a' w',WV Post K w' ((fb f).at a' k) cs->R a' w')->∀τ d,c.wp Tq.prog (Qn R) a (Ka.re wv τ d)):WV Post K wv ((fb f).at a (.code c::k)) cs:=
 WV.tq h.ok h.wf h.kp h.fn (RB hd) hk hw
theorem Wk.seg (h:Wk K f) {ops:Array Oper} (l:List Oper) (i n:Nat) (hd:a.defers=[]) (hl:∀j,j<l.length->ops[i+j]? =l[j]?) (hk:jN (.inRegion ops []::k)=true)
 (hw:∀R:Act->World->Prop,(∀a' w',WV Post K w' ((fb f).at a' (.inRegion ops (List.range' (i+l.length) n)::k)) cs->R a' w')->∀τ d,wpList Tq.prog ops (Qn R) l a (Ka.re wv τ d)):
 WV Post K wv ((fb f).at a (.inRegion ops (List.range' i (l.length+n))::k)) cs:=
 WV.XJ h.ok h.wf l i n h.kp h.fn (RB hd) hl hk hw
theorem Wk.cut (h:Wk K f) {ops:Array Oper} (i m n:Nat) (hd:a.defers=[]) (hk:jN (.inRegion ops []::k)=true) (bW:ops.size=i+m+n)
 (hw:∀R:Act->World->Prop,(∀a' w',WV Post K w' ((fb f).at a' (.inRegion ops (List.range' (i+m) n)::k)) cs->R a' w')->∀τ d,wpList Tq.prog ops (Qn R) ((ops.toList.drop i).take m) a (Ka.re wv τ d)):
 WV Post K wv ((fb f).at a (.inRegion ops (List.range' i (m+n))::k)) cs:=by
 have hl:((ops.toList.drop i).take m).length=m:=by simp;omega
 have:=h.seg (wv:=wv) (Post:=Post) (cs:=cs) ((ops.toList.drop i).take m) i n (a:=a) (k:=k) (ops:=ops) hd (λj hj=>by rw [hl] at hj;simp [hj]) hk;rw [hl] at this;exact this hw
theorem Wk.call (h:Wk K f) {ops:Array Oper} {i n:Nat} (g:FuncId) (args:Array Value) (hx:∃o,ops[i]? =some o/\Region.wanted o (yielded ops a.tmps)=true/\∀w,(execOp a.eval o).runT Tryz.prog w #[]=(.ok (.enter g args) w,#[]))
 (hn:WV Post K wv (Frame.enter Tryz.prog g args .normal) ((fb f).at a (.inRegion ops (List.range' i (n+1))::k)::cs)):WV Post K wv ((fb f).at a (.inRegion ops (List.range' i (n+1))::k)) cs:=by
 obtain ⟨o,h1,h2,h3⟩:=hx;exact WV.call h.ok rfl h1 h2 h3 hn
theorem bI.wk (h:bI ν q m K C S wv) (hk:keep f=true) (hf:∃fn,Tryz.prog.funcs[f]? =some fn):Wk K f:=⟨h.ok,h.wf,hk,hf⟩
theorem bI.whole (h:bI ν q 0 K C S wv) (c:Int) (hm:jV C0.mode) (hn:∀K' C' w' v,bI ν q 0 K' C' (Rc.ny 51 S c) w'->K'.s=K.s->Fm K.s C wv C' w'->WV Post K' w' (C0.finish v) cs):WV Post K wv (Frame.enter Tryz.prog 28 #[aG K.s,.int .i64 c,.int .i64 50] .normal) (C0::cs):=by
 obtain ⟨b,hb⟩:∃b,b=aG K.s:=⟨_,rfl⟩
 rw [<-hb];replace hb:=z40 hb;have w0:Wk K 28:=h.wk d40 ⟨_,Tryz.func28⟩;refine WV.enter Tryz.func28 rfl ?_;simp only [Tryz.ntmps28,List.size_toArray,List.length_cons,List.length_nil,Nat.reduceAdd,Nat.reduceSub,Array.replicate_succ,Array.replicate_zero,List.push_toArray,List.append_toArray,List.nil_append,List.cons_append];refine WV.seq h.ok (w0.code rfl k40 λR hR τ d=>?_);replace hR:=z40 hR;go_wp2_with fail;refine hR.out _ _ (WV.bf ?_);clear hR R;refine WV.seq h.ok (WV.seq h.ok (w0.code rfl k40 λR hR τ d=>?_));replace hR:=z40 hR;go_wp2_with fail;refine hR.out _ _ (WV.bf ?_);clear hR R;refine WV.block h.ok ?_;refine WV.while (I:=λn K' w' a=>∃(i:Nat) (C':Cp) (S':Sv),a={tmps:=#[b,.int .i64 c,.int .i64 50,fx a 3,fx a 4,fx a 5,fx a 6,fx a 7,.int .i64 i,fx a 9,fx a 10,fx a 11,fx a 12,fx a 13,fx a 14,fx a 15,fx a 16,fx a 17,fx a 18,fx a 19,fx a 20,fx a 21],defers:=[]}/\i+n=51/\bI ν q 0 K' C' S' w'/\K'.s=K.s/\Rc.ny n S' c=Rc.ny 51 S c/\Fm K.s C wv C' w') (n:=51) (λn K' w' a ⟨i,C',S',_,_,hC,_⟩=>hC.ok) ⟨0,C,S,rfl,rfl,h,rfl,rfl,Fm.refl _ _ _⟩ ?_;rintro n K' w' a ⟨i,C',S',ha,Bf,hC,hs,NN,hf⟩ again;obtain ⟨x,hx⟩:∃x,x=fx a:=⟨_,rfl⟩
 rw [<-hx] at ha;clear hx;subst ha;have w1:Wk K' 28:=hC.wk d40 ⟨_,Tryz.func28⟩;by_cases hi:i<=50
 ·have h50:((i:Int)<=50)=True:=eq_true (by omega);refine WV.seq hC.ok (WV.seq hC.ok (w1.code rfl k40 λR hR τ d=>?_));replace hR:=z40 hR;go_wp2_with fail;refine hR.out _ _ (WV.bf ?_);clear hR R;refine WV.cond hC.ok (t:=true) rfl (WV.skip hC.ok (WV.seq hC.ok (WV.block hC.ok (WV.seq hC.ok (WV.region hC.ok ?_)))));refine w1.cut 0 2 2 rfl k40 rfl λR hR τ d=>?_;replace hR:=z40 hR;show wpList _ _ _ [_,_] _ _;go_wp2_with fail;refine hR.out _ _ (WV.bf ?_);clear hR R;refine w1.call 26 #[b,.int .i64 c] ⟨_,rfl,rfl,λw=>k40⟩ ?_;have dN:=λ{D:Frame} {ds:List Frame}=>hC.step (Post:=Post) (C0:=D) (cs:=ds) c;rw [hs,<-hb.out] at dN;refine dN ?_;intro K2 C2 w2 h2 BG hf2;refine WV.called (o:=_) rfl ?_;have w2:Wk K2 28:=h2.wk d40 ⟨_,Tryz.func28⟩;obtain ⟨n',rfl⟩:∃n',n=n'+1:=⟨n - 1,by omega⟩
  have hd1:Rc.ny (n'+1) S' c=if (S'.step c).2=1 then Rc.ny n' (S'.step c).1 c else (S'.step c).1:=rfl
  rw [hd1] at NN;have G:=z40 (y40 again (y40 NN (y40 hf hf2)));clear again NN hf hf2 hd1;generalize (S'.step c).2=nn at G;refine w2.cut 3 1 0 rfl k40 rfl λR hR τ d=>?_;replace hR:=z40 hR;show wpList _ _ _ [_] _ _;go_wp2_with fail;refine hR.out _ _ (WV.bf ?_);clear hR R;refine WV.ib h2.ok ?_;by_cases h1:nn=1
  ·subst h1;refine WV.seq h2.ok (w2.code rfl k40 λR hR τ d=>?_);replace hR:=z40 hR;go_wp2_with fail;refine hR.out _ _ (WV.bf ?_);clear hR R;refine WV.cond h2.ok (t:=false) rfl (WV.skip h2.ok (WV.inBlock h2.ok (w2.code rfl k40 λR hR τ d=>?_)));replace hR:=z40 hR;go_wp2_with fail;refine hR.out _ _ (WV.bf ?_);clear hR R;have NN:=G.out.2.1;simp only [if_true] at NN;exact G.out.1 n' K2 _ _ (by omega) ⟨i+1,C2,_,rfl,by omega,h2,BG,NN,G.out.2.2.1.trans G.out.2.2.2⟩
  ·have ll:(nn !=1)=true:=by simpa using h1
   refine WV.seq h2.ok (w2.code rfl k40 λR hR τ d=>?_);replace hR:=z40 hR;go_wp2_with fail;refine hR.out _ _ (WV.bf ?_);clear hR R;refine WV.cond h2.ok (t:=true) rfl ?_;refine WV.seq h2.ok (w2.code rfl k40 λR hR τ d=>?_);replace hR:=z40 hR;go_wp2_with fail;refine hR.out _ _ (WV.bf ?_);clear hR R;have NN:=G.out.2.1;rw [if_neg h1] at NN;refine WV.ret h2.ok (WV.back (v:=.tuple #[.int .i64 i,.bool true]) h2.ok Tryz.func28 rfl k40 hm (hn K2 C2 _ _ (NN▸h2) (BG) (G.out.2.2.1.trans G.out.2.2.2)))
 ·obtain ⟨rfl,rfl⟩:i=51/\n=0:=⟨by omega,by omega⟩
  have h50:(((51:Nat):Int)<=50)=False:=eq_false (by omega);have G:=z40 (y40 again (y40 NN hf));clear again NN hf;refine WV.seq hC.ok (WV.seq hC.ok (w1.code rfl k40 λR hR τ d=>?_));replace hR:=z40 hR;go_wp2_with fail;refine hR.out _ _ (WV.bf ?_);clear hR R;refine WV.cond hC.ok (t:=false) rfl (WV.exit hC.ok rfl (WV.seq hC.ok (w1.code rfl k40 λR hR τ d=>?_)));replace hR:=z40 hR;go_wp2_with fail;refine hR.out _ _ (WV.bf ?_);clear hR R;have NN:=G.out.2.1;have h0:Rc.ny 0 S' c=S':=rfl;rw [h0] at NN;refine WV.ret hC.ok (WV.back (v:=.tuple #[.int .i64 50,.bool false]) hC.ok Tryz.func28 rfl k40 hm (hn K' C' _ _ (NN▸hC) hs G.out.2.2))
end
end Re
end
section
open Go.Conc
namespace Re
open Tx Sp Wg Rd Bk Wi Se Rx Mp De Lo Co Ka Kv Ky
section
variable {Post:Value->World->Prop} {K:Cy} {wv w:World} {cs:List Frame} {ν:Old} {q:Bool} {s:Nat} {C:Cp} {m:Int} {S:Sv} {fz:Nat×Nat}
theorem XX (h:gT w s C m S fz) (hn:S.st.refs.length<1099511627776):
 Calls Tq.prog 31 #[aG s] w λe w'=>∃v,e=.returned v/\w'.ownsRow w.heap.size 51 2 v S.st.refs.length (S.st.refs.flatMap Tz.TW)/\CR w s C m fz S C w':=by
 have bA:C.mr≠C.st:=λe=>by
  have:=h.jC.blk;unfold aM at this;exact xH h.jC.refs _ _ _ ((congrArg (λk:Nat=>w.heap[k]?) e).trans this)
 refine (Tz.Dg w s C.st C.lk C.mo C.mr 0 m C.cb C.rs S.st.forward S.st.room S.st.refs h.sr h.jC.blk h.jC.refs hn bA).mono ?_;rintro e w' ⟨v,rfl,ay,hb,hc⟩;have yt:Fr.aj (λ_=>False) w w':=⟨hc.os,hc.tape,hc.output,hc.size,λk hk _=>by
  by_cases e:k=C.st
  ·subst e;have h1:=h.jC.blk;unfold aM at h1 hb;rw [hb,h1]
  ·exact hc.block k hk e⟩
 exact ⟨v,rfl,ay,rfl,h.aA yt (Rx.Safe.none w) (λ_ _ e=>e) (λe=>e) (λe=>e) (λe=>e),λ_ hk=>.inl hk,yt.mono λ_ _ e=>e.elim⟩
theorem aDp {B E z n:Nat} {v:Value} {xs:List Value} (h:w.ownsRow B E z v n xs) {B':Nat} (e:B'=B):w.ownsRow B' E z v n xs:=e▸h
theorem bI.refs (h:bI ν q 0 K C S wv) {fr:Frame}
 (hn:∀v C' w',bI ν q 0 K C' S w'->Fm K.s C wv C' w'->w'.ownsRow wv.heap.size 51 2 v S.st.refs.length (S.st.refs.flatMap Tz.TW)->WV Post K w' (fr.finish v) cs):WV Post K wv (Frame.enter Tryz.prog 31 #[aG K.s] .normal) (fr::cs):=by
 refine WV.rep h.ok h.wf h.rep h.cns h.bP (f:=31) (Tryz.func31) d40 rfl (qg k40) (λv _ S' w'=>w'.ownsRow wv.heap.size 51 2 v S.st.refs.length (S.st.refs.flatMap Tz.TW)/\S'=S) (λ_ _ _ _ _ ha e=>⟨qI ha e.1,e.2⟩) (λfz w hf _ bW hr=>?_) ?_
 ·refine (XX hr ?_).mono ?_
  ·have:=h.sw.K5;omega
  ·rintro e w' ⟨v,rfl,ay,hc⟩;exact ⟨v,C,S,rfl,⟨aDp ay bW.symm,rfl⟩,hc⟩
 ·rintro v C' S' w' ⟨ay,rfl⟩ Ao hr hf;exact hn v C' w' (h.iQ Ao hr h.sw h.ES rfl rfl λi x hx=>⟨x,hx,rfl⟩) hf ay
end
end Re
end
section
open Go.Conc
namespace Re
open Tx Sp Wg Rd Bk Wi Se Rx Mp De Lo Co Ka Kv Ky
section
variable {K:Cy} {wv w w':World} {ν:Old} {q:Bool} {s:Nat} {C:Cp} {m:Int} {S:Sv} {fz:Nat×Nat}
def aHU (S:Sv):Prop:=S.st.ah=[]/\∀(i:Nat) (x:Cn),S.ae[i]? =some x->x.ah=[]/\x.work=some .read
theorem gT.aHj {T:Nat->Prop} (h:gT w s C m S fz) (hb:aHU S) (hc:Fr.aj T w w') (hn:∀k,jB s C k->¬T k) (h0:¬T 0) (h1:¬T 1) (h2:¬T 2):gT w' s C m S fz where
 sr:=h.sr.aA hc (hn _ (.inl rfl)) (λk hk=>hn k (.inr (.inr (.inr (.inr (.inr (.inr (.inl hk))))))))
 jC:=by refine ⟨h.jC.blk.aA hc (hn _ (.inr (.inl rfl))),?_,h.jC.refs.block (hc.block _ h.jC.refs.lt (hn _ (.inr (.inr (.inr (.inr (.inr (.inl rfl))))))))⟩;obtain ⟨mv,g1,g2⟩:=h.jC.ah;refine ⟨mv,g1.block (hc.block _ g1.lt (hn _ (.inr (.inr (.inr (.inr (.inl rfl))))))),?_⟩;rw [hb.1] at g2 ⊢;cases g2;exact .nil
 nO:=h.nO.aA hc (hn _ (.inr (.inr (.inl rfl)))) (hn _ (.inr (.inr (.inr (.inl rfl)))))
 len:=h.len
 mW:=h.mW
 cn i r v x hr hv hx:=by
  obtain ⟨⟨wX,Jg⟩,hvi⟩:=h.cn i r v x hr hv hx;obtain ⟨ho,hwr⟩:=hb.2 i x hx;have Jm:∀k,Fp r v k->¬T k:=λk hk=>hn k (.inr (.inr (.inr (.inr (.inr (.inr (.inr ⟨i,r,v,hr,hv,hk⟩)))))));obtain ⟨vs,g1,g2⟩:=wX.ah;refine ⟨⟨⟨aM.aA wX.cb hc (Jm r (.inl rfl)),hc.ownsRow wX.au (λk hk=>Jm k (.inr (.inl hk))),vs,hc.ownsRow g1 (λk hk=>Jm k (.inr (.inr hk))),?_⟩,?_⟩,hvi⟩
  ·rw [ho] at g2 ⊢;cases g2;exact .nil
  ·unfold FE at Jg ⊢;rw [hwr] at Jg ⊢;exact Jg
 apart:=h.apart
 low:=h.low
 maps:=h.maps
 RO:=h.RO
 gl:=h.gl.aA hc h0 h1 h2
theorem bI.aHj {T:Nat->Prop} (h:bI ν q m K C S wv) (hb:aHU S) (hc:Fr.aj T wv w') (hn:∀k,jB K.s C k->¬T k) (h0:¬T 0) (h1:¬T 1) (h2:¬T 2):bI ν q m K C S w':=
 h.iQ rfl (h.rep.aHj hb hc hn h0 h1 h2) h.sw h.ES rfl rfl (λi x hx=>⟨x,hx,rfl⟩)
end
end Re
end
section
open Go.Conc
namespace Re
open Tx Sp Wg Rd Bk Wi Se Rx Mp De Lo Co Ka Kv Ky
section
variable {Post:Value->World->Prop} {K:Cy} {wv:World} {cs:List Frame} {ν:Old} {q:Bool} {s:Nat} {C:Cp} {m:Int} {S:Sv} {C0:Frame} {p:Addr} {ev:Value}
structure JO (ν:Old) (wv:World) (s:Nat) (K:Cy) (C:Cp) (S:Sv) (w:World):Prop where
 comp:bI ν true 0 K C S w
 hs:K.s=s
 old:Kp (λ_=>False) wv w
 wo:∀k,jB s C k->wv.heap.size<=k
theorem JO.next {K':Cy} {C':Cp} {S':Sv} {w w':World} (h:JO ν wv s K C S w) (hc:bI ν true 0 K' C' S' w') (hs:K'.s=s) (hf:Fm s C w C' w'):JO ν wv s K' C' S' w' where
 comp:=hc
 hs:=hs
 old:=⟨⟨hf.kp.os.1.trans h.old.os.1,hf.kp.os.2.trans h.old.os.2⟩,Nat.le_trans h.old.size hf.kp.size,λk o hk _=>hf.kp.keep k o (h.old.keep k o hk (λe=>e)) (λe=>by
  have:=h.wo k e;have:=(Array.getElem?_eq_some_iff.1 hk).1;omega)⟩
 wo k hk:=by
  rcases hf.wo k hk with e|e
  ·exact h.wo k e
  ·exact Nat.le_trans h.old.size e
theorem JO.fresh {w w':World} {τ:Nat->Question->Nat} {d:Nat} (h:JO ν wv s K C S w) (hc:Fr.aj (λ_=>False) (Ka.re w τ d) w'):JO ν wv s K C S w':=by obtain ⟨h1,f1⟩:=h.comp.re (τ:=τ) (d:=d);obtain ⟨h2,f2⟩:=h1.aA hc;exact h.next h2 h.hs (h.hs▸f1.trans f2)
theorem JO.row {T:Nat->Prop} {w w':World} {τ:Nat->Question->Nat} {d:Nat} (h:JO ν wv s K C S w) (hb:aHU S) (hc:Fr.aj T (Ka.re w τ d) w') (hT:∀k,T k->wv.heap.size<=k/\∃cur,w.heap[k]? =some (.cells cur 9 (0,0))) (h3:2<wv.heap.size):JO ν wv s K C S w' where
 comp:=h.comp.re.1.aHj hb hc (λk hk e=>by
  obtain ⟨_,cur,e9⟩:=hT k e;rcases h.comp.rep.types hk e9 with ⟨_,e⟩|⟨_,e⟩|⟨_,e⟩|⟨_,e⟩|⟨_,e⟩|e|e<;>cases e) (λe=>by have:=(hT 0 e).1;omega) (λe=>by have:=(hT 1 e).1;omega) (λe=>by have:=(hT 2 e).1;omega)
 hs:=h.hs
 old:=⟨⟨hc.os.trans h.old.os.1,hc.output.trans h.old.os.2⟩,Nat.le_trans h.old.size hc.size,λk o hk _=>by
  have h1:=h.old.keep k o hk (λe=>e);have hl:=(Array.getElem?_eq_some_iff.1 hk).1;have Rm:=(Array.getElem?_eq_some_iff.1 h1).1;exact (hc.block k Rm (λe=>by have:=(hT k e).1;omega)).trans h1⟩
 wo:=h.wo
theorem JO.GM {C':Cp} {w w':World} (h:JO ν wv s K C S w) {B n:Nat} {v:Value} {xs:List Value} (ay:w.ownsRow B 9 1 v n xs) (hf:Fm s C w C' w'):w'.ownsRow B 9 1 v n xs:=by refine hf.kp.row ay λk hk e=>?_;obtain ⟨cur,e9⟩:=bq ay hk;have e:=h.hs▸e;rcases h.comp.rep.types e e9 with ⟨_,e⟩|⟨_,e⟩|⟨_,e⟩|⟨_,e⟩|⟨_,e⟩|e|e<;>cases e
theorem JO.kpS {w w':World} (h:JO ν wv s K C S w) (hk:Kp (jB s C) w w'):Kp (λ_=>False) wv w':=
 ⟨⟨hk.os.1.trans h.old.os.1,hk.os.2.trans h.old.os.2⟩,Nat.le_trans h.old.size hk.size,λk o hko _=>hk.keep k o (h.old.keep k o hko (λe=>e)) (λe=>by
   have:=h.wo k e;have:=(Array.getElem?_eq_some_iff.1 hko).1;omega)⟩
theorem JO.aDM {w w':World} (h:JO ν wv s K C S w) {B E z n:Nat} {v:Value} {xs:List Value} (ay:w.ownsRow B E z v n xs) (hE:E=9\/E=51) (hk:Kp (jB s C) w w'):w'.ownsRow B E z v n xs:=by refine hk.row ay λk hk e=>?_;obtain ⟨cur,e9⟩:=bq ay hk;rcases h.comp.rep.types (h.hs▸e) e9 with ⟨_,e⟩|⟨_,e⟩|⟨_,e⟩|⟨_,e⟩|⟨_,e⟩|e|e<;>rcases hE with rfl|rfl<;>cases e
theorem bI.aEP {w:World} (h:bI ν true m K C S w):bI ν false m K C S w:={h with sw:=h.sw.aEP}
theorem Rest.aA {w w':World} {τ:Nat->Question->Nat} {d:Nat} (h:Rest ν K p ev w) (hc:Fr.aj (λ_=>False) (Ka.re w τ d) w'):Rest ν K p ev w':=
 {h with los:=Nat.le_trans h.los hc.size,gl:=Rx.Gl.aA (w:=Ka.re w τ d) ⟨h.gl.more,h.gl.et,h.gl.QI,h.gl.oU⟩ hc (λe=>e) (λe=>e) (λe=>e)}
theorem Kp.fresh {w0 w w':World} {τ:Nat->Question->Nat} {d:Nat} (h:Kp (λ_=>False) w0 w) (hc:Fr.aj (λ_=>False) (Ka.re w τ d) w'):Kp (λ_=>False) w0 w':=
 ⟨⟨hc.os.trans h.os.1,hc.output.trans h.os.2⟩,Nat.le_trans h.size hc.size,λk o hk hn=>(hc.block k (Nat.lt_of_lt_of_le (Array.getElem?_eq_some_iff.1 hk).1 h.size) (λe=>e)).trans (h.keep k o hk hn)⟩
theorem IK {w:World} {B E z n:Nat} {v:Value} {xs:List Value} (h:w.ownsRow B E z v n xs) (hn:0<n):∃g cap,v=.slice (some ⟨g,0,none⟩) n cap/\∀(i:Nat) (x:Value),xs[i]? =some x->w.cell? ⟨g,i,none⟩=some x:=by
 rcases h.2 with ⟨_,h0⟩|⟨g,cap,cur,e,h1,h2,h3,h4,h5,h6⟩
 ·omega
 ·refine ⟨g,cap,e,λi x hx=>?_⟩;unfold World.cell?;rw [h2];rw [<-h6,List.getElem?_take] at hx;split at hx
  ·simpa using hx
  ·cases hx
def bt (c:Nat):UInt8:=UInt8.ofNat (97+c)
theorem aBZ (c:Nat):(⟨(Rc.jT c).toArray⟩:ByteArray)=⟨#[114,101,102,115,47,111,119,110]⟩++⟨#[bt c]⟩:=by apply ByteArray.ext;simp [ByteArray.data_append,Rc.jT,pG,bt]
theorem zO (w:World) (b c:Nat) (hc:c<100) (hb:w.cell? ⟨b,0,none⟩=some (.int .u8 (97+c))):(convert 35 9 (.slice (some ⟨b,0,none⟩) 1 1)).run Tq.prog w=.ok (.string ⟨#[bt c]⟩) w:=by
 have:=run_convert_bytes_back (P:=Tq.prog) w 35 9 5 ⟨b,0,none⟩ 1 [UInt8.ofNat (97+c)] ((Tq.underlying 35).trans Tryz.underlying35) ((Tq.underlying 5).trans Tryz.underlying5) ((Tq.underlying 9).trans Tryz.underlying9) (λi hi=>by
  obtain rfl:i=0:=by simpa using hi
  have e:(UInt8.ofNat (97+c)).toNat=97+c:=by simp [UInt8.toNat_ofNat];omega
  show w.cell? _=some (.int .u8 ((UInt8.ofNat (97+c)).toNat:Int));rw [e];simpa [Addr.add] using hb)
 exact this
def Scr (w:World) (v:Value):Prop:=∃a N cap,v=.slice a N cap/\N<1152921504606846976/\∀i:Nat,i<N->∃g off k,a=some ⟨g,off,none⟩/\w.cell? ⟨g,off+i*4+2,none⟩=some (.int .i64 k)/\-9223372036854775808<=k/\k<9223372036854775808
theorem Kp.cell {w w':World} (h:Kp (λ_=>False) w w') {a:Addr} {v:Value} (hv:w.cell? a=some v):w'.cell? a=some v:=by have hl:=World.block_lt_of_cell? w _ hv;have hk:=h.keep a.block _ (Array.getElem?_eq_getElem hl) (λe=>e);rw [<-Array.getElem?_eq_getElem hl] at hk;unfold World.cell? at hv ⊢;rw [hk];exact hv
theorem aB5 (l:B) (w:World) (h:l.length<=1000000):Calls Tq.prog 24 #[.string ⟨l.toArray⟩] w λe w'=>e=.returned (.string ⟨(dU l).toArray⟩)/\w'=w:=
 Wa.EX ⟨l.toArray⟩ w (by rw [<-dx];unfold maxLen;show l.length<=_;omega)
theorem named (l:B) (n:Nat) (h:l.length<=n):∃x:ByteArray,Hid (x=⟨l.toArray⟩)/\x.size<=n:=⟨_,z40 rfl,by rw [<-dx];exact h⟩
theorem xU (l:B) (w:World) (h:l.length<=1000000) {k:ByteArray} (hk:k=⟨(dU l).toArray⟩):Calls Tq.prog 24 #[.string ⟨l.toArray⟩] w λe w'=>e=.returned (.string k)/\w'=w:=by rw [hk];exact aB5 l w h
def J9 (w i:Nat):Int:=if w<i then (w:Int) else -1
theorem Yf (a:Act) (v:Value):a.put none v=a:=rfl
theorem Rest.wk {f:FuncId} (h:Rest ν K p ev wv) (hk:keep f=true) (hf:∃fn,Tryz.prog.funcs[f]? =some fn):Wk K f:=⟨h.ok,h.wf,hk,hf⟩
theorem aAx {P:Program} {ops:Array Oper} {Q:Exit->Act->World->Prop} {md:Region.Mode} {S:World->Prop} {fuel:Nat} {l l':Array Bool} {a a':Act} {w:World} (i:Nat) {o:Oper} {v:Value} (hS:S w) (hi:ops[i]? =some o)
 (h:wpAnyH P md ops Q S fuel l' a' w)
 (hs:Region.noSelect ops=true:=by (kernel_rfl)) (hf:Region.free md ops l i=true:=by (kernel_rfl)) (hr:(Region.ready md ops l).contains i=true:=by (kernel_rfl))
 (hw:Region.wanted o (yielded ops a.tmps)=true:=by rfl)
 (hy:∀w,S w->(execOp a.eval o).run P w=.ok (.value v) w:=by (intro w hSw;(try simp only [List.getElem_toArray,List.getElem_cons_succ,List.getElem_cons_zero]);(try dsimp only at hSw);go_simp<;>with_reducible rfl))
 (ha:a.put o.dst v=a':=by (try simp only [List.getElem_toArray,List.getElem_cons_succ,List.getElem_cons_zero,Act.put,List.setIfInBounds_toArray,List.set_cons_zero,List.set_cons_succ])<;>rfl)
 (hl:l.setIfInBounds i true=l':=by (try simp only [List.setIfInBounds_toArray,List.set_cons_zero,List.set_cons_succ])<;>rfl)
 (hQ:∀c a w,Q (.panic c) (a.put o.dst v) w->Q (.panic c) a w:=by exact λ_ _ _ h=>h):wpAnyH P md ops Q S (fuel+1) l a w:=
 wpAnyH_take hi hs hf hr hQ (.inl ⟨hw,hy⟩) hS (by rw [ha,hl];exact h)
theorem Rest.race (h:Rest ν K p ev wv) (n:Nat) (vL:Value) (hvL:Scr wv vL) (hm:jV C0.mode) (h2:2<=n) (h5:n<=5)
 (hn:∀K' p' Jy w',Rest ν K' p' Jy w'->Kp (λ_=>False) wv w'->WV Post K' w' (C0.finish (.bool true)) cs):WV Post K wv (Frame.enter Tryz.prog 13 #[.int .i64 n,vL] .normal) (C0::cs):=by
 obtain ⟨aL,N,aLu,rfl,aPU,cz⟩:=hvL;have aKR:2<wv.heap.size:=World.block_lt_of_cell? wv _ h.gl.QI;have w0:Wk K 13:=h.wk d40 ⟨_,Tryz.func13⟩;refine WV.enter Tryz.func13 rfl ?_;simp only [Tryz.ntmps13,List.size_toArray,List.length_cons,List.length_nil,Nat.reduceAdd,Nat.reduceSub,Array.replicate_succ,Array.replicate_zero,List.push_toArray,List.append_toArray,List.nil_append,List.cons_append];refine WV.seq h.ok (w0.code rfl k40 λR hR τ d=>?_);replace hR:=z40 hR;go_wp2_with fail;refine hR.out _ _ (WV.bf ?_);clear hR R;refine WV.seq h.ok (WV.region h.ok ?_);refine w0.call 15 #[.bool false,.int .i64 40] ⟨_,rfl,rfl,λw=>k40⟩ ?_;have dN:=λ{D:Frame} {ds:List Frame}=>h.new (Post:=Post) (q:=true) (C0:=D) (cs:=ds) false 40 (Nat.le_refl _);refine dN ?_;clear dN;intro K1 C1 w1 hC hkp hft hp oU;refine WV.called (o:=_) rfl ?_;have u1:Wk K1 13:=hC.wk d40 ⟨_,Tryz.func13⟩;refine u1.cut 1 1 0 rfl k40 rfl λR hR τ d=>?_;replace hR:=z40 hR;show wpList _ _ _ [_] _ _;unfold aG;go_wp2_with fail;refine hR.out _ _ (WV.bf ?_);clear hR R;refine WV.ib hC.ok (WV.seq hC.ok (WV.seq hC.ok (u1.code rfl k40 λR hR τ d=>?_)));replace hR:=z40 hR;go_wp2_with fail;refine hR.out _ _ (WV.bf ?_);clear hR R;refine WV.cond hC.ok (t:=false) rfl (WV.skip hC.ok ?_);refine WV.seq hC.ok (u1.code rfl k40 λR hR τ d=>?_);replace hR:=z40 hR;go_wp2_with fail;refine hR.out _ _ (WV.bf ?_);clear hR R;have I0:=z40 (λw=>Wa.Gc ⟨#[116,114,101,101,32]⟩ w d40);refine WV.seq hC.ok (u1.code rfl k40 λR hR τ d=>?_);replace hR:=z40 hR;go_wp2_with (go_at_call 22;refine (I0.out _).mono ?_;rintro e w' ⟨rfl,rfl⟩);refine hR.out _ _ (WV.bf ?_);clear hR R;refine WV.seq hC.ok (u1.code rfl k40 λR hR τ d=>?_);replace hR:=z40 hR;go_wp2_with fail;refine hR.out _ _ (WV.bf ?_);clear hR R;refine WV.seq hC.ok (WV.seq hC.ok (u1.code rfl k40 λR hR τ d=>?_));replace hR:=z40 hR;go_wp2_with fail;refine hR.out _ _ (WV.bf ?_);clear hR R;refine WV.block hC.ok ?_;have hb:aG K1.s=aG K1.s:=rfl;refine WV.while (I:=λj K' w' a=>∃(c:Nat) (C':Cp) (b vI:Value),a={tmps:=#[.int .i64 n,.slice aL N aLu,fx a 2,fx a 3,fx a 4,b,.string ⟨#[116,114,101,101,32]⟩,.string ⟨(dA [116,114,101,101,32]).toArray⟩,vI,.int .i64 c,fx a 10,fx a 11,fx a 12,fx a 13,fx a 14,fx a 15,fx a 16,fx a 17,fx a 18,fx a 19,fx a 20,fx a 21,fx a 22,fx a 23,fx a 24,fx a 25,fx a 26,fx a 27,fx a 28,fx a 29,fx a 30,fx a 31,fx a 32,fx a 33,fx a 34,fx a 35,fx a 36,fx a 37,fx a 38,fx a 39,fx a 40,fx a 41,fx a 42,fx a 43,fx a 44,fx a 45,fx a 46,fx a 47,fx a 48,fx a 49,fx a 50,fx a 51,fx a 52,fx a 53,fx a 54,fx a 55,fx a 56,fx a 57,fx a 58,fx a 59,fx a 60,fx a 61,fx a 62,fx a 63,fx a 64,fx a 65,fx a 66,fx a 67,fx a 68,fx a 69,fx a 70,fx a 71,fx a 72,fx a 73,fx a 74,fx a 75,fx a 76,fx a 77,fx a 78,fx a 79,fx a 80,fx a 81,fx a 82,fx a 83,fx a 84,fx a 85,fx a 86,fx a 87,fx a 88,fx a 89,fx a 90,fx a 91,fx a 92,fx a 93,fx a 94,fx a 95,fx a 96,fx a 97,fx a 98,fx a 99,fx a 100,fx a 101,fx a 102,fx a 103,fx a 104,fx a 105,fx a 106,fx a 107,fx a 108,fx a 109,fx a 110,fx a 111,fx a 112,fx a 113,fx a 114,fx a 115,fx a 116,fx a 117,fx a 118,fx a 119,fx a 120,fx a 121,fx a 122,fx a 123,fx a 124,fx a 125,fx a 126,fx a 127,fx a 128,fx a 129,fx a 130,fx a 131,fx a 132,fx a 133,fx a 134,fx a 135,fx a 136,fx a 137,fx a 138,fx a 139,fx a 140,fx a 141,fx a 142,fx a 143,fx a 144,fx a 145,fx a 146,fx a 147,fx a 148,fx a 149,fx a 150,fx a 151,fx a 152,fx a 153,fx a 154,fx a 155,fx a 156,fx a 157,fx a 158,fx a 159,fx a 160,fx a 161,fx a 162,fx a 163,fx a 164,fx a 165,fx a 166,fx a 167,fx a 168,fx a 169,fx a 170,fx a 171,fx a 172,fx a 173,fx a 174,fx a 175,fx a 176,fx a 177,fx a 178,fx a 179,fx a 180,fx a 181,fx a 182,fx a 183,fx a 184,fx a 185,fx a 186,fx a 187,fx a 188,fx a 189,fx a 190,fx a 191,fx a 192,fx a 193,fx a 194,fx a 195,fx a 196,fx a 197,fx a 198],defers:=[]}/\c+j=n/\b=aG K1.s/\JO ν wv K1.s K' C' (Rc.start c) w'/\w'.ownsRow wv.heap.size 9 1 vI c ((List.range c).map λj=>av (Rc.Hm j))) (n:=n) (λj K' w' a ⟨c,C',b,vI,_,_,_,hC,_⟩=>hC.comp.ok) ⟨0,C1,aG K1.s,.slice none 0 0,rfl,by omega,rfl,⟨hC,rfl,hkp,hft⟩,World.ownsRow_nil _ _ _ _⟩ ?_;rintro j K2 w2 a ⟨c,C2,b,vI,ha,hcj,hbe,hX,ay⟩ again;obtain ⟨x,hx⟩:∃x,x=fx a:=⟨_,rfl⟩
 rw [<-hx] at ha;clear hx;subst ha;have eF:=hX.comp;have u2:Wk K2 13:=eF.wk d40 ⟨_,Tryz.func13⟩;by_cases nk:c<n
 ·have aI:((c:Int)<(n:Int))=True:=eq_true (by omega);have G:=z40 (y40 again (y40 hX (y40 ay hbe)));clear again ay hbe;refine WV.seq eF.ok (WV.seq eF.ok (u2.code rfl k40 λR hR τ d=>?_));replace hR:=z40 hR;go_wp2_with fail;refine hR.out _ _ (WV.bf ?_);clear hR R;refine WV.cond eF.ok (t:=true) rfl (WV.skip eF.ok (WV.seq eF.ok (WV.block eF.ok ?_)));refine WV.seq eF.ok (u2.code rfl k40 λR hR τ d=>?_);replace hR:=z40 hR;have U7:=zO ((Ka.re w2 τ d).alloc (.cells #[.int .u8 (97+c)] 5)) (Ka.re w2 τ d).heap.size c (by omega) (by simp);go_wp2_with fail;refine hR.out _ _ ?_;clear hR R;have hcg:Fr.aj (λ_=>False) (Ka.re w2 τ d) ((Ka.re w2 τ d).alloc (.cells #[.int .u8 (97+c)] 5)):=(Fr.aj.refl _ _).alloc _;have zI:=G.out.2.1.fresh hcg;have GR:=hcg.ownsRow (qI (w':=Ka.re w2 τ d) (λb o h _=>h) G.out.2.2.1) (λ_ _ e=>e);have YZ:(⟨#[99,111,109,109,105,116,32]⟩++⟨(dA [116,114,101,101,32]).toArray⟩++⟨#[32,45,32]⟩++⟨#[bt c]⟩:ByteArray)=⟨(Rc.sZ c).toArray⟩:=by
   apply ByteArray.ext;simp [ByteArray.data_append,Rc.sZ,Rc.tId,Rc.mg,qo,bt]
  rw [YZ];replace zI:=z40 (y40 zI GR);clear hcg GR U7 YZ;generalize (Ka.re w2 τ d).alloc (.cells #[.int .u8 (97+c)] 5)=w3 at zI ⊢;have I1:Hid (∀w,Calls Tq.prog 22 #[.string ⟨(Rc.sZ c).toArray⟩] w λe w'=>e=.returned (.string ⟨(Rc.Hm c).toArray⟩)/\w'=w):=z40 λw=>Wa.Gc ⟨(Rc.sZ c).toArray⟩ w (by have:=(Rc.lens (c:=c) (by omega)).1;rw [<-dx];unfold maxLen;show (Rc.sZ c).length<=_;omega);refine WV.seq eF.ok (u2.code rfl k40 λR hR τ d=>?_);replace hR:=z40 hR;go_wp2_with (go_at_call 22;refine (I1.out _).mono ?_;rintro e w' ⟨rfl,rfl⟩);refine hR.out _ _ (WV.bf ?_);clear hR R;refine WV.seq eF.ok (u2.code rfl k40 λR hR τ d=>?_);replace hR:=z40 hR;obtain ⟨i0,hi,uw,wQ,wP⟩:=Go.info_parts Tryz.pI;have GR:(Ka.re w3 τ d).ownsRow wv.heap.size 9 1 vI c ((List.range c).map λj=>av (Rc.Hm j)):=qI (λb o h _=>h) zI.out.2;have aUf:wv.heap.size<=(Ka.re w3 τ d).heap.size:=zI.out.1.old.size;go_wp2_with (first
   |(at_builtin;refine wpList_append_own_at _ rfl _ _ 34 rfl wv.heap.size 9 i0 (.string ByteArray.empty) 1 16 ((Tq.underlying 34).trans Tryz.underlying34) hi uw wQ wP rfl d40 _ _ _ rfl (GR.alloc _) ⟨(Ka.re w3 τ d).heap.size,0,none⟩ 1 1 [.string ⟨(Rc.Hm c).toArray⟩] rfl rfl ?c1 ?c2 ?c3 ?c4 ?c5 ?_)
   |go_in)
  case c1=>
   intro j u hj
   match j,hj with
   |0,hj=>simp at hj;subst hj;simp [Addr.add]
  case c2=>intro u hu;simp at hu;subst hu;rfl
  case c3=>unfold maxLen;omega
  case c4=>omega
  case c5=>simp;omega
  intro v' w4 jD aX _ oL;have hcT:Fr.aj (λk=>vI.ownBlock=some k) (Ka.re w3 τ d) w4:=Fr.aj.grown ((Fr.aj.refl _ _).alloc _) aX (λk e=>.inl e);have dN:=Rc.rR (c:=c) (by omega);have VT:=zI.out.1.row ⟨dN.1,dN.2.2.2⟩ hcT (λk e=>⟨(GR.lt k e).1,bq zI.out.2 e⟩) aKR;have gG:w4.ownsRow wv.heap.size 9 1 v' (c+1) ((List.range (c+1)).map λj=>av (Rc.Hm j)):=by rw [List.range_succ,List.map_append];exact jD
  replace VT:=z40 (y40 VT gG);clear jD aX oL hcT gG GR zI dN;go_wp2_with fail;refine hR.out _ _ ?_;clear hR R;refine WV.seq eF.ok (WV.region eF.ok ?_);refine u2.cut 0 1 2 rfl k40 rfl λR hR τ d=>?_;replace hR:=z40 hR;show wpList _ _ _ [_] _ _;go_wp2_with fail;refine hR.out _ _ (WV.bf ?_);clear hR R;refine u2.call 23 #[b] ⟨_,rfl,rfl,λw=>k40⟩ ?_;have dN:=Rc.rR (c:=c) (by omega);have dC:=λ{D:Frame} {ds:List Frame}=>VT.out.1.comp.open_ (Post:=Post) (C0:=D) (cs:=ds) (by rw [dN.2.2.1];omega) dN.2.1 (λy hy e=>by
   obtain ⟨i,hi⟩:=List.mem_iff_getElem?.1 hy;rw [(dN.2.2.2 i y hi).2] at e;cases e)
  rw [VT.out.1.hs,<-G.out.2.2.2,dN.2.2.1] at dC;refine dC ?_;clear dC;intro K3 C3 w5 vg Pn Fy;have hX5:=VT.out.1.next vg Pn Fy;have hX5:=z40 (y40 hX5 (VT.out.1.GM VT.out.2 Fy));clear Fy dN;refine WV.called (o:=_) rfl ?_;have u3:Wk K3 13:=vg.wk d40 ⟨_,Tryz.func13⟩;refine u3.cut 2 1 0 rfl k40 rfl λR hR τ d=>?_;replace hR:=z40 hR;show wpList _ _ _ [_] _ _;go_wp2_with fail;refine hR.out _ _ (WV.bf ?_);clear hR R;refine WV.ib vg.ok ?_;obtain ⟨Qb,PH,yP⟩:=named (Rc.Hm c) 100 (Rc.lens (c:=c) (by omega)).2.1;obtain ⟨k1,hk1,aUm⟩:=named (dU (Rc.p1 c)) 300 (Rc.Ra (c:=c) (by omega)).1;obtain ⟨k2,Zp,aUl⟩:=named (dU (Rc.p2 c)) 300 (Rc.Ra (c:=c) (by omega)).2.1;obtain ⟨k3,hk3,aUk⟩:=named (dU Rc.mg) 300 (Rc.Ra (c:=c) (by omega)).2.2.2;obtain ⟨k4,VP,aUj⟩:=named (dU (Rc.sZ c)) 300 (Rc.Ra (c:=c) (by omega)).2.2.1;have P1:=z40 (λw=>xU (Rc.p1 c) w (by have:=(Rc.aDL (c:=c) (by omega)).1;omega) hk1.out);have P2:=z40 (λw=>xU (Rc.p2 c) w (by have:=(Rc.aDL (c:=c) (by omega)).2;omega) Zp.out);have P3:=z40 (λw=>xU Rc.mg w d40 hk3.out);have P4:=z40 (λw=>xU (Rc.sZ c) w (by have:=(Rc.lens (c:=c) (by omega)).1;omega) VP.out);rw [<-PH.out];refine WV.seq vg.ok (WV.region vg.ok ?_);refine u3.cut 0 9 7 rfl k40 rfl λR hR τ d=>?_;replace hR:=z40 hR;have U7:=zO ((Ka.re w5 τ d).alloc (.cells #[.int .u8 (97+c)] 5)) (Ka.re w5 τ d).heap.size c (by omega) (by simp);show wpList _ _ _ [_,_,_,_,_,_,_,_,_] _ _;go_wp2_with fail;refine hR.out _ _ ?_;clear hR R;have hcg:Fr.aj (λ_=>False) (Ka.re w5 τ d) ((Ka.re w5 τ d).alloc (.cells #[.int .u8 (97+c)] 5)):=(Fr.aj.refl _ _).alloc _;have hX6:=z40 (y40 (hX5.out.1.fresh hcg) (hcg.ownsRow (qI (w':=Ka.re w5 τ d) (λb o h _=>h) hX5.out.2) (λ_ _ e=>e)));clear hcg U7;have YZ:(⟨#[48,48,48,48,48,48,48,48,32]⟩++Qb++⟨#[32,114,101,102,115,47,111,119,110]⟩++⟨#[bt c]⟩:ByteArray)=⟨(Rc.p1 c).toArray⟩:=by rw [PH.out];apply ByteArray.ext;simp [ByteArray.data_append,Rc.p1,Rc.jT,di,pG,bt]
  rw [YZ];clear YZ;generalize (Ka.re w5 τ d).alloc (.cells #[.int .u8 (97+c)] 5)=w6 at hX6 ⊢;refine u3.cut 9 4 3 rfl k40 rfl λR hR τ d=>?_;replace hR:=z40 hR;show wpList _ _ _ [_,_,_,_] _ _;go_wp2_with (go_at_call 24;refine (P1.out _).mono ?_;rintro e w' ⟨rfl,rfl⟩);refine hR.out _ _ (WV.bf ?_);clear hR R;have YZ:(⟨#[48,48,48,48,48,48,48,48,32]⟩++Qb++⟨#[32,114,101,102,115,47,109]⟩:ByteArray)=⟨(Rc.p2 c).toArray⟩:=by rw [PH.out];apply ByteArray.ext;simp [ByteArray.data_append,Rc.p2,Rc.rM,di,pG]
  rw [YZ];clear YZ;refine u3.cut 13 3 0 rfl k40 rfl λR hR τ d=>?_;replace hR:=z40 hR;show wpList _ _ _ [_,_,_] _ _;go_wp2_with (go_at_call 24;refine (P2.out _).mono ?_;rintro e w' ⟨rfl,rfl⟩);refine hR.out _ _ (WV.bf ?_);clear hR R;refine WV.ib vg.ok ?_;clear P1 P2;refine WV.seq vg.ok (WV.region vg.ok ?_);refine u3.cut 0 8 5 rfl k40 rfl λR hR τ d=>?_;replace hR:=z40 hR;show wpList _ _ _ [_,_,_,_,_,_,_,_] _ _;go_wp2_with (go_at_call 24;refine (P3.out _).mono ?_;rintro e w' ⟨rfl,rfl⟩);refine hR.out _ _ (WV.bf ?_);clear hR R;refine u3.cut 8 3 2 rfl k40 rfl λR hR τ d=>?_;replace hR:=z40 hR;show wpList _ _ _ [_,_,_] _ _;go_wp2_with (go_at_call 24;refine (P4.out _).mono ?_;rintro e w' ⟨rfl,rfl⟩);refine hR.out _ _ (WV.bf ?_);clear hR R;have YZ:(k1++k2++⟨#[48,48,48,48]⟩++k3++k4++⟨#[48,48,48,48]⟩:ByteArray)=⟨(Rc.lK c).toArray⟩:=by rw [Rc.Yg,hk1.out,Zp.out,hk3.out,VP.out];apply ByteArray.ext;simp [ByteArray.data_append,Rc.flush]
  rw [YZ];clear YZ P3 P4;refine u3.call 25 #[b,.int .i64 c,.string ⟨(Rc.lK c).toArray⟩] ⟨_,rfl,rfl,λw=>k40⟩ ?_;have hfe:∀{D:Frame} {ds:List Frame},(∀C' w',bI ν true 0 K3 C' (Rc.start (c+1)) w'->Fm K1.s C3 w6 C' w'->WV Post K3 w' (D.finish (.bool true)) ds)->WV Post K3 w6 (Frame.enter Tryz.prog 25 #[b,.int .i64 c,.string ⟨(Rc.lK c).toArray⟩] .normal) (D::ds):=by intro D ds hn;have:=hX6.out.1.comp.feed (Post:=Post) (fr:=D) (cs:=ds) (c:Int) ⟨(Rc.lK c).toArray⟩ (by have:=(Rc.lens (c:=c) (by omega)).2.2;rw [<-dx];show (Rc.lK c).length<=_;omega);have e:Sv.feed {Rc.start c with ae:=(Rc.start c).ae++[{}]} (c:Int) (⟨(Rc.lK c).toArray⟩:ByteArray).data.toList=(Rc.start (c+1),true):=Rc.Oo (by omega);rw [e,hX6.out.1.hs,<-G.out.2.2.2] at this;exact this hn
  refine hfe ?_;clear hfe;intro C4 w7 ZT hf4;have hX7:=z40 (y40 (hX6.out.1.next ZT hX6.out.1.hs hf4) (hX6.out.1.GM hX6.out.2 hf4));clear hf4;refine WV.called (o:=_) rfl ?_;refine u3.cut 12 1 0 rfl k40 rfl λR hR τ d=>?_;replace hR:=z40 hR;show wpList _ _ _ [_] _ _;go_wp2_with fail;refine hR.out _ _ (WV.bf ?_);clear hR R;refine WV.ib vg.ok ?_;refine WV.seq vg.ok (u3.code rfl k40 λR hR τ d=>?_);replace hR:=z40 hR;go_wp2_with fail;refine hR.out _ _ (WV.bf ?_);clear hR R;refine WV.cond vg.ok (t:=false) rfl (WV.skip vg.ok (WV.inBlock vg.ok (u3.code rfl k40 λR hR τ d=>?_)));replace hR:=z40 hR;go_wp2_with fail;refine hR.out _ _ (WV.bf ?_);clear hR R;exact G.out.1 (j - 1) K3 _ _ (by omega) ⟨c+1,C4,b,v',rfl,by omega,G.out.2.2.2,hX7.out.1,hX7.out.2⟩
 ·obtain ⟨rfl,rfl⟩:n=c/\j=0:=⟨by omega,by omega⟩
  have aI:((n:Int)<(n:Int))=False:=eq_false (by omega);replace hX:=z40 (y40 hX ay);replace hbe:=z40 hbe;clear again ay;refine WV.seq eF.ok (WV.seq eF.ok (u2.code rfl k40 λR hR τ d=>?_));replace hR:=z40 hR;go_wp2_with fail;refine hR.out _ _ (WV.bf ?_);clear hR R;refine WV.cond eF.ok (t:=false) rfl (WV.exit eF.ok rfl ?_);clear aI;refine WV.seq eF.ok (WV.seq eF.ok (u2.code rfl k40 λR hR τ d=>?_));replace hR:=z40 hR;go_wp2_with fail;refine hR.out _ _ (WV.bf ?_);clear hR R;refine WV.block eF.ok ?_;refine WV.while (I:=λj K' w' a=>∃(i:Nat) (C':Cp) (S':Sv) (l:List Nat),a={tmps:=#[.int .i64 n,.slice aL N aLu,fx a 2,fx a 3,fx a 4,b,fx a 6,fx a 7,vI,fx a 9,fx a 10,fx a 11,fx a 12,fx a 13,fx a 14,.int .i64 i,fx a 16,fx a 17,fx a 18,fx a 19,fx a 20,fx a 21,fx a 22,fx a 23,fx a 24,fx a 25,fx a 26,fx a 27,fx a 28,fx a 29,fx a 30,fx a 31,fx a 32,fx a 33,fx a 34,fx a 35,fx a 36,fx a 37,fx a 38,fx a 39,fx a 40,fx a 41,fx a 42,fx a 43,fx a 44,fx a 45,fx a 46,fx a 47,fx a 48,fx a 49,fx a 50,fx a 51,fx a 52,fx a 53,fx a 54,fx a 55,fx a 56,fx a 57,fx a 58,fx a 59,fx a 60,fx a 61,fx a 62,fx a 63,fx a 64,fx a 65,fx a 66,fx a 67,fx a 68,fx a 69,fx a 70,fx a 71,fx a 72,fx a 73,fx a 74,fx a 75,fx a 76,fx a 77,fx a 78,fx a 79,fx a 80,fx a 81,fx a 82,fx a 83,fx a 84,fx a 85,fx a 86,fx a 87,fx a 88,fx a 89,fx a 90,fx a 91,fx a 92,fx a 93,fx a 94,fx a 95,fx a 96,fx a 97,fx a 98,fx a 99,fx a 100,fx a 101,fx a 102,fx a 103,fx a 104,fx a 105,fx a 106,fx a 107,fx a 108,fx a 109,fx a 110,fx a 111,fx a 112,fx a 113,fx a 114,fx a 115,fx a 116,fx a 117,fx a 118,fx a 119,fx a 120,fx a 121,fx a 122,fx a 123,fx a 124,fx a 125,fx a 126,fx a 127,fx a 128,fx a 129,fx a 130,fx a 131,fx a 132,fx a 133,fx a 134,fx a 135,fx a 136,fx a 137,fx a 138,fx a 139,fx a 140,fx a 141,fx a 142,fx a 143,fx a 144,fx a 145,fx a 146,fx a 147,fx a 148,fx a 149,fx a 150,fx a 151,fx a 152,fx a 153,fx a 154,fx a 155,fx a 156,fx a 157,fx a 158,fx a 159,fx a 160,fx a 161,fx a 162,fx a 163,fx a 164,fx a 165,fx a 166,fx a 167,fx a 168,fx a 169,fx a 170,fx a 171,fx a 172,fx a 173,fx a 174,fx a 175,fx a 176,fx a 177,fx a 178,fx a 179,fx a 180,fx a 181,fx a 182,fx a 183,fx a 184,fx a 185,fx a 186,fx a 187,fx a 188,fx a 189,fx a 190,fx a 191,fx a 192,fx a 193,fx a 194,fx a 195,fx a 196,fx a 197,fx a 198],defers:=[]}/\i+j=N/\JO ν wv K1.s K' C' S' w'/\S'=Rc.xe (Rc.start n) l/\(∀c∈l,c<n)/\w'.ownsRow wv.heap.size 9 1 vI n ((List.range n).map λj=>av (Rc.Hm j))) (n:=N) (λj K' w' a ⟨i,C',S',l,_,_,hC,_⟩=>hC.comp.ok) ⟨0,C2,_,[],rfl,by omega,hX.out.1,rfl,nofun,hX.out.2⟩ ?_;clear hX u2 eF;rintro j K2 w2 a ⟨i,C2,S2,l,ha,wV,hX,hSl,hll,ay⟩ again;obtain ⟨x,hx⟩:∃x,x=fx a:=⟨_,rfl⟩
  rw [<-hx] at ha;clear hx;subst ha;have eF:=hX.comp;have u2:Wk K2 13:=eF.wk d40 ⟨_,Tryz.func13⟩;by_cases hiN:i<N
  ·obtain ⟨g,off,v,rfl,u7,ll,gQ⟩:=cz i hiN;have aI:((i:Int)<(N:Int))=True:=eq_true (by omega);have h60:((i:Int)<1152921504606846976)=True:=eq_true (by omega);have aKY:=hX.old.cell u7;have G:=z40 (y40 again (y40 hX (y40 ay (y40 hSl hll))));obtain ⟨cc,Av,hpk⟩:=Tz.Ug v (n:=n) (by omega);have Pk:=z40 (λw=>Tz.Yh v n w ll gQ (by omega) h5);rw [hpk] at Pk;clear again ay hSl hll hpk;refine WV.seq eF.ok (WV.seq eF.ok (u2.code rfl k40 λR hR τ d=>?_));replace hR:=z40 hR;go_wp2_with fail;refine hR.out _ _ (WV.bf ?_);clear hR R;refine WV.cond eF.ok (t:=true) rfl (WV.skip eF.ok (WV.seq eF.ok (WV.block eF.ok (WV.region eF.ok ?_))));refine u2.cut 0 8 1 rfl k40 rfl λR hR τ d=>?_;replace hR:=z40 hR;have aPy:(Ka.re w2 τ d).cell? ⟨g,off+i*4+2,none⟩=some (.int .i64 v):=aKY;show wpList _ _ _ [_,_,_,_,_,_,_,_] _ _;go_wp2_with (go_at_call 27;refine (Pk.out _).mono ?_;rintro e w' ⟨rfl,rfl⟩);refine hR.out _ _ (WV.bf ?_);clear hR R aPy;refine u2.call 26 #[b,.int .i64 cc] ⟨_,rfl,rfl,λw=>k40⟩ ?_;have dN:=λ{D:Frame} {ds:List Frame}=>hX.comp.step (Post:=Post) (C0:=D) (cs:=ds) (cc:Int);rw [hX.hs,<-hbe.out] at dN;refine dN ?_;clear dN;intro K3 C3 w3 vg Pn Fy;have zI:=z40 (y40 (hX.next vg Pn Fy) (hX.GM G.out.2.2.1 Fy));clear Fy hX;refine WV.called (o:=_) rfl (WV.ib vg.ok (WV.inBlock vg.ok ?_));have u3:Wk K3 13:=vg.wk d40 ⟨_,Tryz.func13⟩;refine (u3.code rfl k40 λR hR τ d=>?_);replace hR:=z40 hR;go_wp2_with fail;refine hR.out _ _ (WV.bf ?_);clear hR R;refine G.out.1 (j - 1) K3 _ _ (by omega) ⟨i+1,C3,_,l++[cc],rfl,by omega,zI.out.1,?_,?_,zI.out.2⟩
   ·rw [G.out.2.2.2.1];unfold Rc.xe;rw [List.foldl_append];rfl
   ·intro c hc;rcases List.mem_append.1 hc with hc|hc
    ·exact G.out.2.2.2.2 c hc
    ·rw [List.mem_singleton.1 hc];exact Av
  ·obtain ⟨rfl,rfl⟩:i=N/\j=0:=⟨by omega,by omega⟩
   have aI:((i:Int)<(i:Int))=False:=eq_false (by omega);replace hX:=z40 (y40 hX ay);have PD:=z40 (y40 hSl hll);clear again ay hSl hll;refine WV.seq eF.ok (WV.seq eF.ok (u2.code rfl k40 λR hR τ d=>?_));replace hR:=z40 hR;go_wp2_with fail;refine hR.out _ _ (WV.bf ?_);clear hR R;refine WV.cond eF.ok (t:=false) rfl (WV.exit eF.ok rfl ?_);clear aI;refine WV.seq eF.ok (WV.seq eF.ok (u2.code rfl k40 λR hR τ d=>?_));replace hR:=z40 hR;go_wp2_with fail;refine hR.out _ _ (WV.bf ?_);clear hR R;refine WV.block eF.ok ?_;refine WV.while (I:=λj K' w' a=>∃(i:Nat) (C':Cp),a={tmps:=#[.int .i64 n,fx a 1,fx a 2,fx a 3,fx a 4,b,fx a 6,fx a 7,vI,fx a 9,fx a 10,fx a 11,fx a 12,fx a 13,fx a 14,fx a 15,.int .i64 i,fx a 17,fx a 18,fx a 19,fx a 20,fx a 21,fx a 22,fx a 23,fx a 24,fx a 25,fx a 26,fx a 27,fx a 28,fx a 29,fx a 30,fx a 31,fx a 32,fx a 33,fx a 34,fx a 35,fx a 36,fx a 37,fx a 38,fx a 39,fx a 40,fx a 41,fx a 42,fx a 43,fx a 44,fx a 45,fx a 46,fx a 47,fx a 48,fx a 49,fx a 50,fx a 51,fx a 52,fx a 53,fx a 54,fx a 55,fx a 56,fx a 57,fx a 58,fx a 59,fx a 60,fx a 61,fx a 62,fx a 63,fx a 64,fx a 65,fx a 66,fx a 67,fx a 68,fx a 69,fx a 70,fx a 71,fx a 72,fx a 73,fx a 74,fx a 75,fx a 76,fx a 77,fx a 78,fx a 79,fx a 80,fx a 81,fx a 82,fx a 83,fx a 84,fx a 85,fx a 86,fx a 87,fx a 88,fx a 89,fx a 90,fx a 91,fx a 92,fx a 93,fx a 94,fx a 95,fx a 96,fx a 97,fx a 98,fx a 99,fx a 100,fx a 101,fx a 102,fx a 103,fx a 104,fx a 105,fx a 106,fx a 107,fx a 108,fx a 109,fx a 110,fx a 111,fx a 112,fx a 113,fx a 114,fx a 115,fx a 116,fx a 117,fx a 118,fx a 119,fx a 120,fx a 121,fx a 122,fx a 123,fx a 124,fx a 125,fx a 126,fx a 127,fx a 128,fx a 129,fx a 130,fx a 131,fx a 132,fx a 133,fx a 134,fx a 135,fx a 136,fx a 137,fx a 138,fx a 139,fx a 140,fx a 141,fx a 142,fx a 143,fx a 144,fx a 145,fx a 146,fx a 147,fx a 148,fx a 149,fx a 150,fx a 151,fx a 152,fx a 153,fx a 154,fx a 155,fx a 156,fx a 157,fx a 158,fx a 159,fx a 160,fx a 161,fx a 162,fx a 163,fx a 164,fx a 165,fx a 166,fx a 167,fx a 168,fx a 169,fx a 170,fx a 171,fx a 172,fx a 173,fx a 174,fx a 175,fx a 176,fx a 177,fx a 178,fx a 179,fx a 180,fx a 181,fx a 182,fx a 183,fx a 184,fx a 185,fx a 186,fx a 187,fx a 188,fx a 189,fx a 190,fx a 191,fx a 192,fx a 193,fx a 194,fx a 195,fx a 196,fx a 197,fx a 198],defers:=[]}/\i+j=20*n/\JO ν wv K1.s K' C' (Rc.gH S2 ((List.range i).map (·%n))) w'/\w'.ownsRow wv.heap.size 9 1 vI n ((List.range n).map λj=>av (Rc.Hm j))) (n:=20*n) (λj K' w' a ⟨i,C',_,_,hC,_⟩=>hC.comp.ok) ⟨0,C2,rfl,by omega,hX.out.1,hX.out.2⟩ ?_;clear hX u2 eF cz;rintro j K2 w2 a ⟨i,C2,ha,wV,hX,ay⟩ again;obtain ⟨x,hx⟩:∃x,x=fx a:=⟨_,rfl⟩
   rw [<-hx] at ha;clear hx;subst ha;have eF:=hX.comp;have u2:Wk K2 13:=eF.wk d40 ⟨_,Tryz.func13⟩;by_cases hi:i<20*n
   ·have aI:((i:Int)<20*(n:Int))=True:=eq_true (by omega);have G:=z40 (y40 again (y40 hX ay));clear again ay;refine WV.seq eF.ok (WV.seq eF.ok (u2.code rfl k40 λR hR τ d=>?_));replace hR:=z40 hR;go_wp2_with fail;refine hR.out _ _ (WV.bf ?_);clear hR R;refine WV.cond eF.ok (t:=true) rfl (WV.skip eF.ok (WV.seq eF.ok (WV.block eF.ok (WV.region eF.ok ?_))));refine u2.cut 0 4 1 rfl k40 rfl λR hR τ d=>?_;replace hR:=z40 hR;show wpList _ _ _ [_,_,_,_] _ _;go_wp2_with fail;refine hR.out _ _ (WV.bf ?_);clear hR R;refine u2.call 28 #[b,.int .i64 ((i%n:Nat):Int),.int .i64 50] ⟨_,rfl,rfl,λw=>k40⟩ ?_;have dN:=λ{D:Frame} {ds:List Frame} (hm:jV D.mode)=>hX.comp.whole (Post:=Post) (C0:=D) (cs:=ds) ((i%n:Nat):Int) hm;rw [hX.hs,<-hbe.out] at dN;refine dN trivial ?_;clear dN;intro K3 C3 w3 v vg Pn Fy;have zI:=z40 (y40 (hX.next vg Pn Fy) (hX.GM G.out.2.2 Fy));clear Fy hX;refine WV.called (o:=_) rfl (WV.ib vg.ok (WV.inBlock vg.ok ?_));have u3:Wk K3 13:=vg.wk d40 ⟨_,Tryz.func13⟩;refine (u3.code rfl k40 λR hR τ d=>?_);replace hR:=z40 hR;go_wp2_with fail;refine hR.out _ _ (WV.bf ?_);clear hR R;refine G.out.1 (j - 1) K3 _ _ (by omega) ⟨i+1,C3,rfl,by omega,?_,zI.out.2⟩;have e:Rc.gH S2 ((List.range (i+1)).map (·%n))=Rc.ny 51 (Rc.gH S2 ((List.range i).map (·%n))) ((i%n:Nat):Int):=by
     rw [List.range_succ,List.map_append,Rc.lG];rfl
    rw [e];exact zI.out.1
   ·obtain ⟨rfl,rfl⟩:i=20*n/\j=0:=⟨by omega,by omega⟩
    have aI:((20*n:Nat):Int)=20*(n:Int):=by omega
    obtain ⟨wn,BD,vW,hrefs⟩:=Rc.races h2 h5 l PD.out.2;rw [<-PD.out.1] at vW hrefs;change ∀c,c<n->(Rc.gH S2 ((List.range (20*n)).map (·%n))).bR (c:Int)=_ at vW;change (Rc.gH S2 ((List.range (20*n)).map (·%n))).st.refs=_ at hrefs;generalize Rc.gH S2 ((List.range (20*n)).map (·%n))=SF at hX vW hrefs;replace vW:=z40 vW;replace hrefs:=z40 hrefs;replace hX:=z40 (y40 hX ay);clear again ay PD;refine WV.seq eF.ok (WV.seq eF.ok (u2.code rfl k40 λR hR τ d=>?_));replace hR:=z40 hR;go_wp2_with fail;refine hR.out _ _ (WV.bf ?_);clear hR R;refine WV.cond eF.ok (t:=false) rfl (WV.exit eF.ok rfl ?_);clear aI;refine WV.seq eF.ok (u2.code rfl k40 λR hR τ d=>?_);replace hR:=z40 hR;go_wp2_with fail;refine hR.out _ _ (WV.bf ?_);clear hR R;refine WV.seq eF.ok (WV.seq eF.ok (u2.code rfl k40 λR hR τ d=>?_));replace hR:=z40 hR;go_wp2_with fail;refine hR.out _ _ (WV.bf ?_);clear hR R;refine WV.block eF.ok ?_;refine WV.while (I:=λj K' w' a=>∃(i:Nat) (C':Cp),a={tmps:=#[.int .i64 n,fx a 1,fx a 2,fx a 3,fx a 4,b,fx a 6,fx a 7,vI,fx a 9,fx a 10,fx a 11,fx a 12,fx a 13,fx a 14,fx a 15,fx a 16,.int .i64 (J9 wn i),.int .i64 i,fx a 19,fx a 20,fx a 21,fx a 22,fx a 23,fx a 24,fx a 25,fx a 26,fx a 27,fx a 28,fx a 29,fx a 30,fx a 31,fx a 32,fx a 33,fx a 34,fx a 35,fx a 36,fx a 37,fx a 38,fx a 39,fx a 40,fx a 41,fx a 42,fx a 43,fx a 44,fx a 45,fx a 46,fx a 47,fx a 48,fx a 49,fx a 50,fx a 51,fx a 52,fx a 53,fx a 54,fx a 55,fx a 56,fx a 57,fx a 58,fx a 59,fx a 60,fx a 61,fx a 62,fx a 63,fx a 64,fx a 65,fx a 66,fx a 67,fx a 68,fx a 69,fx a 70,fx a 71,fx a 72,fx a 73,fx a 74,fx a 75,fx a 76,fx a 77,fx a 78,fx a 79,fx a 80,fx a 81,fx a 82,fx a 83,fx a 84,fx a 85,fx a 86,fx a 87,fx a 88,fx a 89,fx a 90,fx a 91,fx a 92,fx a 93,fx a 94,fx a 95,fx a 96,fx a 97,fx a 98,fx a 99,fx a 100,fx a 101,fx a 102,fx a 103,fx a 104,fx a 105,fx a 106,fx a 107,fx a 108,fx a 109,fx a 110,fx a 111,fx a 112,fx a 113,fx a 114,fx a 115,fx a 116,fx a 117,fx a 118,fx a 119,fx a 120,fx a 121,fx a 122,fx a 123,fx a 124,fx a 125,fx a 126,fx a 127,fx a 128,fx a 129,fx a 130,fx a 131,fx a 132,fx a 133,fx a 134,fx a 135,fx a 136,fx a 137,fx a 138,fx a 139,fx a 140,fx a 141,fx a 142,fx a 143,fx a 144,fx a 145,fx a 146,fx a 147,fx a 148,fx a 149,fx a 150,fx a 151,fx a 152,fx a 153,fx a 154,fx a 155,fx a 156,fx a 157,fx a 158,fx a 159,fx a 160,fx a 161,fx a 162,fx a 163,fx a 164,fx a 165,fx a 166,fx a 167,fx a 168,fx a 169,fx a 170,fx a 171,fx a 172,fx a 173,fx a 174,fx a 175,fx a 176,fx a 177,fx a 178,fx a 179,fx a 180,fx a 181,fx a 182,fx a 183,fx a 184,fx a 185,fx a 186,fx a 187,fx a 188,fx a 189,fx a 190,fx a 191,fx a 192,fx a 193,fx a 194,fx a 195,fx a 196,fx a 197,fx a 198],defers:=[]}/\i+j=n/\JO ν wv K1.s K' C' SF w'/\w'.ownsRow wv.heap.size 9 1 vI n ((List.range n).map λj=>av (Rc.Hm j))) (n:=n) (λj K' w' a ⟨i,C',_,_,hC,_⟩=>hC.comp.ok) ⟨0,C2,rfl,by omega,hX.out.1,hX.out.2⟩ ?_;clear hX u2 eF;rintro j K2 w2 a ⟨i,C2,ha,wV,hX,ay⟩ again;obtain ⟨x,hx⟩:∃x,x=fx a:=⟨_,rfl⟩
    rw [<-hx] at ha;clear hx;subst ha;have eF:=hX.comp;have u2:Wk K2 13:=eF.wk d40 ⟨_,Tryz.func13⟩;by_cases hi:i<n
    ·have aI:((i:Int)<(n:Int))=True:=eq_true (by omega);have G:=z40 (y40 again (y40 hX ay));clear again ay;refine WV.seq eF.ok (WV.seq eF.ok (u2.code rfl k40 λR hR τ d=>?_));replace hR:=z40 hR;go_wp2_with fail;refine hR.out _ _ (WV.bf ?_);clear hR R;refine WV.cond eF.ok (t:=true) rfl (WV.skip eF.ok (WV.seq eF.ok (WV.block eF.ok (WV.seq eF.ok (WV.region eF.ok ?_)))));refine u2.cut 0 2 6 rfl k40 rfl λR hR τ d=>?_;replace hR:=z40 hR;show wpList _ _ _ [_,_] _ _;go_wp2_with fail;refine hR.out _ _ (WV.bf ?_);clear hR R;refine u2.call 29 #[b,.int .i64 i] ⟨_,rfl,rfl,λw=>k40⟩ ?_;have dN:=λ{D:Frame} {ds:List Frame}=>hX.comp.bR (Post:=Post) (fr:=D) (cs:=ds) (i:Int);rw [hX.hs,<-hbe.out,vW.out i hi] at dN;refine dN ?_;clear dN;intro C3 w3 vg Fy;have zI:=z40 (y40 (hX.next vg hX.hs Fy) (hX.GM G.out.2.2 Fy));clear Fy hX;refine WV.called (o:=_) rfl ?_;obtain ⟨bv,hbv⟩:∃bv,bv=(some wn==some i):=⟨_,rfl⟩
     rw [<-hbv];replace hbv:=z40 hbv;obtain ⟨rp,Jj,aT2⟩:=named (Rc.rep i bv) 1000 (Rc.Gb (c:=i) (by omega) bv).choose_spec.choose_spec.2.2.2;have hA:Hid (∀w,Calls Tq.prog 30 #[.string rp] w λe w'=>e=.returned (.tuple #[.bool bv,.bool true])/\Below w.heap.size w w'):=z40 λw=>by
      obtain ⟨h,t,e1,e2,e3,e4⟩:=Rc.Gb (c:=i) (by omega) bv;have:=Tz.VC rp w (by omega) h t (by rw [Jj.out];exact e1) e2 (by omega);have ea:Rc.kZ rp.data.toList=(bv,true):=by rw [Jj.out];exact Rc.TV (by omega) bv
      rw [ea] at this;exact this
     unfold av;rw [<-Jj.out];refine u2.cut 3 5 0 rfl k40 rfl λR hR τ d=>?_;replace hR:=z40 hR;show wpList _ _ _ [_,_,_,_,_] _ _;go_wp2_with fail;refine hR.out _ _ (WV.bf ?_);clear hR R;refine WV.ib eF.ok (WV.seq eF.ok (u2.code rfl k40 λR hR τ d=>?_));replace hR:=z40 hR;go_wp2_with (go_at_call 30;refine (hA.out _).mono ?_;rintro e w4 ⟨rfl,PL⟩);have VT:=z40 (y40 (zI.out.1.fresh (Fr.aj.nK PL)) ((Fr.aj.nK PL).ownsRow (qI (w':=Ka.re w3 τ d) (λb o h _=>h) zI.out.2) (λ_ _ e=>e)));clear PL hA;go_wp2_with fail;refine hR.out _ _ ?_;clear hR R;by_cases e:wn=i
     ·obtain rfl:bv=true:=by rw [hbv.out];simp [e]
      have hwo:J9 wn i=-1:=if_neg (by omega);have Pg:J9 wn (i+1)=(i:Int):=by unfold J9;rw [if_pos (by omega),e]
      rw [hwo];replace Pg:=z40 Pg;clear hwo;refine WV.seq eF.ok (WV.seq eF.ok (u2.code rfl k40 λR hR τ d=>?_));replace hR:=z40 hR;go_wp2_with fail;refine hR.out _ _ (WV.bf ?_);clear hR R;refine WV.cond eF.ok (t:=false) rfl (WV.skip eF.ok ?_);refine WV.seq eF.ok (u2.code rfl k40 λR hR τ d=>?_);replace hR:=z40 hR;go_wp2_with fail;refine hR.out _ _ (WV.bf ?_);clear hR R;refine WV.cond eF.ok (t:=true) rfl ?_;refine (u2.code rfl k40 λR hR τ d=>?_);replace hR:=z40 hR;go_wp2_with fail;refine hR.out _ _ (WV.bf ?_);clear hR R;refine WV.inBlock eF.ok ?_;refine (u2.code rfl k40 λR hR τ d=>?_);replace hR:=z40 hR;go_wp2_with fail;refine hR.out _ _ (WV.bf ?_);clear hR R;exact G.out.1 (j - 1) K2 _ _ (by omega) ⟨i+1,C3,by rw [Pg.out];rfl,by omega,VT.out.1,VT.out.2⟩
     ·obtain rfl:bv=false:=by rw [hbv.out];simpa using e
      have Pg:J9 wn (i+1)=J9 wn i:=by unfold J9;by_cases e2:wn<i<;>simp [e2]<;>omega
      replace Pg:=z40 Pg;refine WV.seq eF.ok (WV.seq eF.ok (u2.code rfl k40 λR hR τ d=>?_));replace hR:=z40 hR;go_wp2_with fail;refine hR.out _ _ (WV.bf ?_);clear hR R;refine WV.cond eF.ok (t:=false) rfl (WV.skip eF.ok ?_);refine WV.seq eF.ok (u2.code rfl k40 λR hR τ d=>?_);replace hR:=z40 hR;go_wp2_with fail;refine hR.out _ _ (WV.bf ?_);clear hR R;refine WV.cond eF.ok (t:=false) rfl (WV.skip eF.ok (WV.inBlock eF.ok ?_));refine (u2.code rfl k40 λR hR τ d=>?_);replace hR:=z40 hR;go_wp2_with fail;refine hR.out _ _ (WV.bf ?_);clear hR R;exact G.out.1 (j - 1) K2 _ _ (by omega) ⟨i+1,C3,by rw [Pg.out];rfl,by omega,VT.out.1,VT.out.2⟩
    ·obtain ⟨rfl,rfl⟩:i=n/\j=0:=⟨by omega,by omega⟩
     have aI:((i:Int)<(i:Int))=False:=eq_false (by omega);have hwo:J9 wn i=(wn:Int):=if_pos BD;rw [hwo];clear hwo;replace hX:=z40 (y40 hX ay);clear again ay;refine WV.seq eF.ok (WV.seq eF.ok (u2.code rfl k40 λR hR τ d=>?_));replace hR:=z40 hR;go_wp2_with fail;refine hR.out _ _ (WV.bf ?_);clear hR R;refine WV.cond eF.ok (t:=false) rfl (WV.exit eF.ok rfl (WV.seq eF.ok (WV.region eF.ok ?_)));clear aI;refine u2.cut 0 1 2 rfl k40 rfl λR hR τ d=>?_;replace hR:=z40 hR;show wpList _ _ _ [_] _ _;go_wp2_with fail;refine hR.out _ _ (WV.bf ?_);clear hR R;refine u2.call 31 #[b] ⟨_,rfl,rfl,λw=>k40⟩ ?_;have dN:=λ{D:Frame} {ds:List Frame}=>hX.out.1.comp.refs (Post:=Post) (fr:=D) (cs:=ds);rw [hX.out.1.hs,<-hbe.out,hrefs.out] at dN;refine dN ?_;clear dN;intro vR C3 w3 vg Fy hrR;have zI:=z40 (y40 (hX.out.1.next vg hX.out.1.hs Fy) (y40 (hX.out.1.GM hX.out.2 Fy) hrR));have aOr:=hX.out.1.old.size;clear Fy hX hrR;refine WV.called (o:=_) rfl ?_;refine u2.cut 2 1 0 rfl k40 rfl λR hR τ d=>?_;replace hR:=z40 hR;show wpList _ _ _ [_] _ _;go_wp2_with fail;refine hR.out _ _ (WV.bf ?_);clear hR R;refine WV.ib eF.ok (WV.seq eF.ok (WV.region eF.ok ?_));refine u2.cut 0 1 1 rfl k40 rfl λR hR τ d=>?_;replace hR:=z40 hR;show wpList _ _ _ [_] _ _;go_wp2_with fail;refine hR.out _ _ (WV.bf ?_);clear hR R;refine u2.call 18 #[b] ⟨_,rfl,rfl,λw=>k40⟩ ?_;have dN:=λ{D:Frame} {ds:List Frame}=>zI.out.1.comp.aEP.stop (Post:=Post) (C0:=D) (cs:=ds);rw [zI.out.1.hs,<-hbe.out] at dN;refine dN ?_;clear dN;intro K4 p4 ev4 w4 hR4 VP;have hk9:=zI.out.1.aDM zI.out.2.1 (.inl rfl) VP;have aKL:=zI.out.1.aDM zI.out.2.2 (.inr rfl) VP;have hKp:=zI.out.1.kpS VP;have aOq:=zI.out.1.old.size;clear VP zI;have u4:Wk K4 13:=hR4.wk d40 ⟨_,Tryz.func13⟩;refine WV.called (o:=_) rfl (WV.ib hR4.ok ?_);simp only [Nat.zero_add,List.getElem_toArray,List.getElem_cons_succ,List.getElem_cons_zero,Yf];obtain ⟨gR,aVt,rfl,hcR⟩:=IK (n:=2) aKL d40;obtain ⟨gI,aVu,rfl,hcI⟩:=IK hk9 (by omega);obtain ⟨Qb,PH,yP⟩:=named (Rc.Hm wn) 100 (Rc.lens (c:=wn) (by omega)).2.1;have c0:w4.cell? ⟨gR,0,none⟩=some (.string ⟨#[114,101,102,115,47,109]⟩):=hcR 0 _ rfl;have c1:w4.cell? ⟨gR,1,none⟩=some (.string Qb):=by rw [PH.out];exact hcR 1 _ rfl
     have c2:w4.cell? ⟨gR,2,none⟩=some (.string (⟨#[114,101,102,115,47,111,119,110]⟩++⟨#[bt wn]⟩)):=hcR 2 _ (by
      show some (av _)=_;unfold av;rw [aBZ])
     have c3:w4.cell? ⟨gR,3,none⟩=some (.string Qb):=by rw [PH.out];exact hcR 3 _ rfl
     have c4:w4.cell? ⟨gI,wn,none⟩=some (.string Qb):=by rw [PH.out];exact hcI wn _ (by simp [BD];rfl)
     replace hKp:=z40 hKp;have aTO:((wn:Int)<(i:Int)):=by omega
     clear hcR hcI aKL hk9;refine WV.seq hR4.ok (u4.code rfl k40 λR hR τ d=>?_);replace hR:=z40 hR;obtain ⟨W,hW⟩:∃W,W=Ka.re w4 τ d:=⟨_,rfl⟩
     have S1:W.cell? ⟨gR,0,none⟩=some (.string ⟨#[114,101,102,115,47,109]⟩)/\W.cell? ⟨gR,1,none⟩=some (.string Qb)/\W.cell? ⟨gR,2,none⟩=some (.string (⟨#[114,101,102,115,47,111,119,110]⟩++⟨#[bt wn]⟩))/\W.cell? ⟨gR,3,none⟩=some (.string Qb)/\W.cell? ⟨gI,wn,none⟩=some (.string Qb):=by rw [hW];exact ⟨c0,c1,c2,c3,c4⟩
     rw [<-hW];replace hW:=z40 hW;clear c0 c1 c2 c3 c4;have hwr:IntKind.u8.wrap (IntKind.i64.wrap (97+(wn:Int)))=97+wn:=by unfold IntKind.wrap;simp [IntKind.bits,IntKind.signed];omega
     have U7:=zO ((W.alloc (.cells #[.int .u8 (IntKind.u8.wrap (IntKind.i64.wrap (97+(wn:Int))))] 5)).drew) W.heap.size wn (by omega) (by rw [hwr];simp);replace hwr:=z40 hwr;have S2:Hid (∀o,(W.alloc o).drew.cell? ⟨gR,0,none⟩=some (.string ⟨#[114,101,102,115,47,109]⟩)/\(W.alloc o).drew.cell? ⟨gR,1,none⟩=some (.string Qb)/\(W.alloc o).drew.cell? ⟨gR,2,none⟩=some (.string (⟨#[114,101,102,115,47,111,119,110]⟩++⟨#[bt wn]⟩))/\(W.alloc o).drew.cell? ⟨gR,3,none⟩=some (.string Qb)/\(W.alloc o).drew.cell? ⟨gI,wn,none⟩=some (.string Qb)):=z40 λo=>by
      have c:=((Fr.aj.refl (λ_=>False) W).alloc o).drew;exact ⟨c.bB S1.1 (λe=>e),c.bB S1.2.1 (λe=>e),c.bB S1.2.2.1 (λe=>e),c.bB S1.2.2.2.1 (λe=>e),c.bB S1.2.2.2.2 (λe=>e)⟩
     replace S1:=z40 S1;have iN:Hid (∀o,Rest ν K4 p4 ev4 (W.alloc o).drew/\Kp (λ_=>False) wv (W.alloc o).drew):=z40 λo=>by
      have c:=((Fr.aj.refl (λ_=>False) (Ka.re w4 τ d)).alloc o).drew;rw [hW.out];exact ⟨hR4.aA c,hKp.out.fresh c⟩
     replace hn:=z40 hn;replace hm:=z40 hm;replace hR4:=z40 hR4;clear h aKR w0 hC hkp hft hp oU u1 u4 I0 hbe hb aPU hiN hrefs eF u2 nk hcj vW hi wV vg aOr aOq hKp hW;refine wp_region_held_drew (S:=λw'=>w'.cell? ⟨gR,0,none⟩=some (.string ⟨#[114,101,102,115,47,109]⟩)/\w'.cell? ⟨gR,1,none⟩=some (.string Qb)/\w'.cell? ⟨gR,2,none⟩=some (.string (⟨#[114,101,102,115,47,111,119,110]⟩++⟨#[bt wn]⟩))/\w'.cell? ⟨gR,3,none⟩=some (.string Qb)/\w'.cell? ⟨gI,wn,none⟩=some (.string Qb)) k40 S1.out (λh0=>?_);refine aAx 0 h0 rfl ?_;refine aAx 1 h0 rfl ?_;refine aAx 2 h0 rfl ?_;refine aAx 3 h0 rfl ?_;refine aAx 4 h0 rfl ?_;refine aAx 5 h0 rfl ?_;refine aAx 6 h0 rfl ?_;refine aAx 7 h0 rfl ?_;refine aAx 8 h0 rfl ?_;refine aAx 9 h0 rfl ?_;refine aAx 10 h0 rfl ?_;refine aAx 11 h0 rfl ?_;refine aAx 12 h0 rfl ?_;refine aAx 13 h0 rfl ?_;refine aAx 14 h0 rfl ?_;refine aAx 15 h0 rfl ?_;refine aAx 16 h0 rfl ?_;refine aAx 17 h0 rfl ?_;refine aAx 18 h0 rfl ?_;refine aAx 19 h0 rfl ?_;refine aAx 20 h0 rfl ?_;refine aAx 21 h0 rfl ?_;refine aAx 22 h0 rfl ?_;refine aAx 23 h0 rfl ?_;refine aAx 24 h0 rfl ?_;refine aAx 25 h0 rfl ?_;refine aAx 26 h0 rfl ?_;refine aAx 27 h0 rfl ?_;refine aAx 28 h0 rfl ?_;refine aAx 29 h0 rfl ?_;refine aAx 30 h0 rfl ?_;refine aAx 31 h0 rfl ?_;refine aAx 32 h0 rfl ?_;refine wpAnyH_ready (rs:=[33]) k40 (by simp) (AllReadyH.cons (o:=_) rfl (λK hK=>?_) AllReadyH.nil);simp only [List.getElem_toArray,List.getElem_cons_succ,List.getElem_cons_zero]
     go_simp
     refine hK.out _ _ (by first|exact S1.out|exact S2.out _) (λh1=>?_);clear hK K
     try simp only [Act.put,List.setIfInBounds_toArray,List.set_cons_zero,List.set_cons_succ]
     refine wpAnyH_ready (rs:=[34]) k40 (by simp) (AllReadyH.cons (o:=_) rfl (λK hK=>?_) AllReadyH.nil);simp only [List.getElem_toArray,List.getElem_cons_succ,List.getElem_cons_zero]
     go_simp
     refine hK.out _ _ (by first|exact S1.out|exact S2.out _) (λh2=>?_);clear hK K
     try simp only [Act.put,List.setIfInBounds_toArray,List.set_cons_zero,List.set_cons_succ]
     refine aAx 35 h2 rfl ?_;refine aAx 36 h2 rfl ?_;refine aAx 37 h2 rfl ?_;refine aAx 38 h2 rfl ?_;refine aAx 39 h2 rfl ?_;refine aAx 40 h2 rfl ?_;refine aAx 41 h2 rfl ?_;refine aAx 42 h2 rfl ?_;refine aAx 43 h2 rfl ?_;refine aAx 44 h2 rfl ?_;refine aAx 45 h2 rfl ?_;refine aAx 46 h2 rfl ?_;refine aAx 47 h2 rfl ?_;refine aAx 48 h2 rfl ?_;refine aAx 49 h2 rfl ?_;refine wpAnyH_done k40 ?_ _
     all_goals
      refine hR.out _ _ ?_;exact WV.ret hR4.out.ok (WV.back (v:=.bool true) hR4.out.ok Tryz.func13 rfl k40 hm.out (hn.out K4 p4 ev4 _ (iN.out _).1 (iN.out _).2))
end
end Re
end
section
open Go.Conc
namespace Re
open Tx Sp Wg Rd Bk Wi Se Rx Mp De Lo Co Ka Kv Ky
section
variable {Post:Value->World->Prop} {K:Cy} {wv:World} {cs:List Frame} {ν:Old} {p:Addr} {ev:Value}
theorem aAb {P:Program} {fr:Frame} {v:Value} {fn:Func} (hm:fr.mode=.returning) (hd:fr.defers=[]) (hk:fr.kind=.normal) (hf:P.funcs[fr.fn]? =some fn) (hr:results fn fr.tmps=pure v) (hi:P.inits.idxOf? fr.fn=none) (w:World):stepG P true (G fr []) w=.ended (.done v) w #[]:=by
 have e:stepG P true (G fr []) w=unwind P true fr [] none w:=by unfold stepG G;simp only [hm]
 rw [e];unfold unwind;simp only [hd,hm,hf,hr];show GStep.after (seen P fr.fn #[]) (doReturn P true fr [] none v w)=_;simp only [doReturn,hk,hi];rfl
theorem Rest.done (h:Rest ν K p ev wv) {f:FuncId} {fn:Func} {a:Act} {todo:List Item} {v:Value} (hf:Tryz.prog.funcs[f]? =some fn) (hd:a.defers=[]) (hr:results fn a.tmps=pure v) (hi:Tryz.prog.inits.idxOf? f=none) (hP:∀w,Vw (K.cut 2) wv w->Post v w):WV Post K wv {(fb f).at a todo with mode:=.returning} []:=λw hv=>by
 refine WT.ended h.ok h.h0 h.bn rfl h.low λw' hA hK=>?_;refine ⟨v,#[],0,?_,⟨λe=>e,λs _=>⟨⟨rfl,rfl⟩,⟨rfl,rfl⟩⟩,λc k _ e=>e,λe he=>by simp at he,rfl⟩,hP w' (dm hv hA)⟩;have hm:(K.h==0)=true:=by rw [h.h0];rfl
 rw [hm];exact aAb (fr:={(fb f).at a todo with mode:=.returning}) rfl hd rfl hf hr hi w'
theorem Kp.trans {w w' w'':World} (h:Kp (λ_=>False) w w') (k:Kp (λ_=>False) w' w''):Kp (λ_=>False) w w'':=
 ⟨⟨k.os.1.trans h.os.1,k.os.2.trans h.os.2⟩,Nat.le_trans h.size k.size,λb o hb hn=>k.keep b o (h.keep b o hb hn) hn⟩
theorem Kp.scr {w w':World} (h:Kp (λ_=>False) w w') {v:Value} (hv:Scr w v):Scr w' v:=by obtain ⟨a,N,cap,rfl,h1,h2⟩:=hv;refine ⟨a,N,cap,rfl,h1,λi hi=>?_⟩;obtain ⟨g,off,k,e,hc,hb⟩:=h2 i hi;exact ⟨g,off,k,e,h.cell hc,hb⟩
theorem Rest.races (h:Rest ν K p ev wv) (vL:Value) (hvL:Scr wv vL) (hP:∀K' p' Jy w' w,Rest ν K' p' Jy w'->Kp (λ_=>False) wv w'->Vw (K'.cut 2) w' w->Post (.bool true) w):WV Post K wv (Frame.enter Tryz.prog 3 #[vL] .normal) []:=by
 have w0:Wk K 3:=h.wk d40 ⟨_,Tryz.func3⟩;refine WV.enter Tryz.func3 rfl ?_;simp only [Tryz.ntmps3,List.size_toArray,List.length_cons,List.length_nil,Nat.reduceAdd,Nat.reduceSub,Array.replicate_succ,Array.replicate_zero,List.push_toArray,List.append_toArray,List.nil_append,List.cons_append];refine WV.seq h.ok (w0.code rfl k40 λR hR τ d=>?_);replace hR:=z40 hR;go_wp2_with fail;refine hR.out _ _ (WV.bf ?_);clear hR R;refine WV.seq h.ok (WV.seq h.ok (w0.code rfl k40 λR hR τ d=>?_));replace hR:=z40 hR;go_wp2_with fail;refine hR.out _ _ (WV.bf ?_);clear hR R;refine WV.block h.ok ?_;refine WV.while (I:=λj K' w' a=>∃(m:Nat) (p':Addr) (Jy:Value),a={tmps:=#[vL,fx a 1,fx a 2,.int .i64 m,fx a 4,fx a 5,fx a 6,fx a 7,fx a 8,fx a 9,fx a 10,fx a 11,fx a 12,fx a 13],defers:=[]}/\m+j=6/\2<=m/\Rest ν K' p' Jy w'/\Kp (λ_=>False) wv w') (n:=4) (λj K' w' a ⟨m,p',Jy,_,_,_,hR,_⟩=>hR.ok) ⟨2,p,ev,rfl,by omega,by omega,h,⟨⟨rfl,rfl⟩,Nat.le_refl _,λ_ _ h _=>h⟩⟩ ?_;rintro j K2 w2 a ⟨m,p2,ev2,ha,hmj,ky,J4,hk⟩ again;obtain ⟨x,hx⟩:∃x,x=fx a:=⟨_,rfl⟩
 rw [<-hx] at ha;clear hx;subst ha;have u2:Wk K2 3:=J4.wk d40 ⟨_,Tryz.func3⟩;by_cases hm5:m<=5
 ·have aI:((m:Int)<=5)=True:=eq_true (by omega);have hsc:=z40 (hk.scr hvL);have G:=z40 (y40 again hk);clear again hk hvL;refine WV.seq J4.ok (WV.seq J4.ok (u2.code rfl k40 λR hR τ d=>?_));replace hR:=z40 hR;go_wp2_with fail;refine hR.out _ _ (WV.bf ?_);clear hR R;refine WV.cond J4.ok (t:=true) rfl (WV.skip J4.ok (WV.seq J4.ok (WV.block J4.ok (WV.seq J4.ok (WV.region J4.ok ?_)))));refine u2.cut 0 2 2 rfl k40 rfl λR hR τ d=>?_;replace hR:=z40 hR;show wpList _ _ _ [_,_] _ _;go_wp2_with fail;refine hR.out _ _ (WV.bf ?_);clear hR R;refine u2.call 13 #[.int .i64 m,vL] ⟨_,rfl,rfl,λw=>k40⟩ ?_;refine J4.race (Post:=Post) m vL hsc.out trivial ky hm5 ?_;intro K3 p3 ev3 w3 hR3 hk3;have VP:=z40 (G.out.2.trans hk3);clear hk3;have u3:Wk K3 3:=hR3.wk d40 ⟨_,Tryz.func3⟩;refine WV.called (o:=_) rfl ?_;refine u3.cut 3 1 0 rfl k40 rfl λR hR τ d=>?_;replace hR:=z40 hR;show wpList _ _ _ [_] _ _;go_wp2_with fail;refine hR.out _ _ (WV.bf ?_);clear hR R;refine WV.ib hR3.ok (WV.seq hR3.ok (u3.code rfl k40 λR hR τ d=>?_));replace hR:=z40 hR;go_wp2_with fail;refine hR.out _ _ (WV.bf ?_);clear hR R;refine WV.cond hR3.ok (t:=false) rfl (WV.skip hR3.ok (WV.inBlock hR3.ok (u3.code rfl k40 λR hR τ d=>?_)));replace hR:=z40 hR;go_wp2_with fail;refine hR.out _ _ (WV.bf ?_);clear hR R;exact G.out.1 (j - 1) K3 _ _ (by omega) ⟨m+1,p3,ev3,rfl,by omega,by omega,hR3,VP.out⟩
 ·obtain ⟨rfl,rfl⟩:m=6/\j=0:=⟨by omega,by omega⟩
  have aI:(((6:Nat):Int)<=5)=False:=eq_false (by omega);replace hk:=z40 hk;replace hP:=z40 hP;clear again hvL;refine WV.seq J4.ok (WV.seq J4.ok (u2.code rfl k40 λR hR τ d=>?_));replace hR:=z40 hR;go_wp2_with fail;refine hR.out _ _ (WV.bf ?_);clear hR R;refine WV.cond J4.ok (t:=false) rfl (WV.exit J4.ok rfl (WV.seq J4.ok (u2.code rfl k40 λR hR τ d=>?_)));replace hR:=z40 hR;go_wp2_with fail;refine hR.out _ _ (WV.bf ?_);clear hR R;exact WV.ret J4.ok (J4.done Tryz.func3 rfl k40 k40 λw hv=>hP.out _ _ _ _ w J4 hk.out hv)
def He (o:Obj):Prop:=(∃c t f,o=.cells c t f)\/(∃a l,o=.number a l)\/(rU o=true/\o.isChan=false/\(∀c t,o≠.pending c t)/\∀l,o=.loop l->eU Tryz.prog l.assign/\eU Tryz.prog l.body/\∀c,l.pending=some c->eU Tryz.prog c)
open Classical in
noncomputable def qQ (W:World) (r:Nat):Option Obj:=(W.heap[r]?).bind λo=>if He o then none else some o
open Classical in
noncomputable def qN (W:World):World:={W with heap:=W.heap.mapIdx λr o=>if He o then o else .view ⟨r,0,none⟩ 0}
noncomputable def aFk (W:World):Old:=⟨W.heap.size,qQ W⟩
noncomputable def Z0 (W:World):Gh:={bP:=λ_=>False,own:=λ_=>none,nch:=λr=>(qQ W r).isSome=true,cls:=λ_=>False,Dl:=λ_=>False,lq:=qQ W}
noncomputable def K0 (W:World):Cy:={Z:=Z0 W,b:=1,s:=0,m:=1,h:=0,n:=1,σ:=λ_=>none,R:=λ_ _=>True}
variable {W:World}
theorem XK (r:Nat):(qN W).heap[r]? =(W.heap[r]?).map λo=>open Classical in if He o then o else .view ⟨r,0,none⟩ 0:=by show (W.heap.mapIdx _)[r]? =_;rw [Array.getElem?_mapIdx]
theorem kI (r:Nat):(W.heap[r]? =none/\(qN W).heap[r]? =none/\qQ W r=none)\/(∃o,W.heap[r]? =some o/\He o/\(qN W).heap[r]? =some o/\qQ W r=none)\/∃o,W.heap[r]? =some o/\¬He o/\(qN W).heap[r]? =some (.view ⟨r,0,none⟩ 0)/\qQ W r=some o:=by
 rw [XK];unfold qQ;cases h:W.heap[r]? with
 |none=>exact .inl ⟨rfl,rfl,rfl⟩
 |some o=>
  by_cases hf:He o
  ·exact .inr (.inl ⟨o,rfl,hf,by simp [hf],by simp [hf]⟩)
  ·exact .inr (.inr ⟨o,rfl,hf,by simp [hf],by simp [hf]⟩)
theorem ug {a:Addr} {v:Value} (h:W.cell? a=some v):(qN W).cell? a=some v:=by
 unfold World.cell? at h ⊢;rcases kI (W:=W) a.block with ⟨e,_,_⟩|⟨o,e,_,e2,_⟩|⟨o,e,hf,_,_⟩
 ·rw [e] at h;cases h
 ·rw [e2,<-e];exact h
 ·rw [e] at h;cases o<;>first|exact absurd (.inl ⟨_,_,_,rfl⟩) hf|cases h
theorem VX (r:Nat):¬(Z0 W).rW r:=λ⟨_,_,e,_⟩=>(by cases e)
theorem aDv (r:Nat):¬(Z0 W).iq r:=λ⟨_,_,e,_⟩=>(by cases e)
theorem aEN {N:Code->Prop} {ty:TypeId->Prop} (r:Nat):((Z0 W).cut N ty 2).lq r=qQ W r:=by simp only [Gh.cut,VX,if_false];rfl
theorem VY (r:Nat):(Z0 W).ic r↔(qQ W r).isSome=true:=⟨λh=>h.elim id λh=>absurd h (VX r),.inl⟩
theorem XB:Vw ((K0 W).cut 2) (qN W) W:=by
 refine ⟨by unfold qN;simp,⟨rfl,rfl⟩,λr hr=>?_,λr n hr=>?_,λr hr=>?_,λr o ho gN=>?_,λr l hl=>?_⟩
 ·have h3:=(eY.1 hr).2.2;rcases kI (W:=W) r with ⟨e,e2,_⟩|⟨o,e,_,e2,_⟩|⟨o,e,hf,_,e3⟩
  ·rw [e,e2]
  ·rw [e,e2]
  ·exact absurd ((VY r).2 (by rw [e3];rfl)) h3
 ·rcases qA hr with ⟨h,_⟩|⟨_,h,_⟩
  ·exact h.elim
  ·exact absurd h (aDv r)
 ·have h3:=(VY r).1 (iU.1 hr);rcases kI (W:=W) r with ⟨_,_,e⟩|⟨o,_,_,_,e⟩|⟨o,e,hf,e2,e3⟩
  ·rw [e] at h3;cases h3
  ·rw [e] at h3;cases h3
  ·have Mw:((K0 W).cut 2).lq r=some o:=(aEN r).trans e3;refine ⟨?_,o,e,?_⟩
   ·unfold vz;rw [Mw];exact e2
   ·unfold wL;rw [Mw];refine ⟨rfl,?_⟩;cases o<;>first|rfl|exact absurd (.inl ⟨_,_,_,rfl⟩) hf|exact absurd (.inr (.inl ⟨_,_,rfl⟩)) hf
 ·rcases kI (W:=W) r with ⟨_,e2,_⟩|⟨x,e,hf,e2,_⟩|⟨x,e,hf,e2,e3⟩
  ·rw [e2] at ho;cases ho
  ·rw [e2] at ho;obtain rfl:=Option.some.inj ho;rcases hf with ⟨c,t,f,rfl⟩|⟨a,l,rfl⟩|⟨h1,h2,h3,_⟩
   ·exact ⟨rfl,rfl,λ_ _ e=>(by cases e)⟩
   ·exact ⟨rfl,rfl,λ_ _ e=>(by cases e)⟩
   ·exact ⟨h1,h2,h3⟩
  ·have:(Z0 W).ic r:=(VY r).2 (by rw [e3];rfl);have h2:((K0 W).cut 2).ch r=true:=iU.2 this;rw [h2] at gN;cases gN
 ·rcases kI (W:=W) r with ⟨_,e2,_⟩|⟨x,e,hf,e2,_⟩|⟨x,e,hf,e2,e3⟩
  ·rw [e2] at hl;cases hl
  ·rw [e2] at hl;obtain rfl:=Option.some.inj hl;rcases hf with ⟨c,t,f,e⟩|⟨a,l,e⟩|⟨_,_,_,h4⟩
   ·cases e
   ·cases e
   ·exact h4 l rfl
  ·rw [e2] at hl;cases hl
theorem Ol (h:Gl W p ev):Rest (aFk W) (K0 W) p ev (qN W) where
 ok:=⟨λi x _ e=>(by cases e),λi x _ e=>(by cases e),λx e=>(by cases e),Nat.one_pos,Nat.one_pos,Nat.le_refl _,λ_ _ _ _ _ _ _ _=>trivial,.inl rfl,λe=>absurd e (Nat.lt_irrefl 1)⟩
 wf:=⟨λg k e=>(by cases e),λg k e=>(by cases e),λg k g' k' e=>(by cases e)⟩
 h0:=rfl
 b0:=Nat.one_pos
 bn:=rfl
 mn:=rfl
 yS:=λ_ _=>trivial
 low:=λ_ _ _=>rfl
 hi:=λ_ _=>rfl
 Qa:=λc h=>h.elim
 OQ:=λr h=>h.elim
 lo:=⟨λk hk=>(by
  rcases hk with h|h|h|⟨h1,h2⟩
  ·exact h.elim
  ·exact absurd h (aDv k)
  ·exact absurd h (VX k)
  ·have h1:(qQ W k).isSome=true:=h1;have h2:qQ W k=none:=h2;rw [h2] at h1;cases h1),rfl,λk x e=>(by
  have e:qQ W k=some x:=e;rcases kI (W:=W) k with ⟨_,_,e2⟩|⟨o,_,_,_,e2⟩|⟨o,e1,_,_,_⟩
  ·rw [e2] at e;cases e
  ·rw [e2] at e;cases e
  ·exact (Array.getElem?_eq_some_iff.1 e1).1)⟩
 los:=by unfold aFk qN;simp
 gl:=⟨ug h.more,ug h.et,ug h.QI,h.oU⟩
theorem aB9 (said:Bool):¬Race said #[]:=by rintro ⟨i,j,_,⟨a,b,ha,_⟩,_⟩;simp [Trace.act?] at ha
theorem Oq {g:Goroutine}:Core Tryz.prog (Z0 W) 1 0 0 1 0 (λ_=>.hold) 0 0 #[] #[g] W (λ_=>0):=by
 have hc:cnt (λ_=>aU.hold) 1 1=0:=rfl;refine ⟨⟨λg k e=>(by cases e),λg k e=>(by cases e),λg k g' k' e=>(by cases e)⟩,Nat.one_pos,Nat.le_refl _,λi g hi hg=>?_,⟨⟨λi c z ok home e=>(by cases e),λi k e=>(by cases e),λi j c z ok home z' ok' ym e=>(by cases e),λi k j c z ok home e=>(by cases e),λi k j k' e=>(by cases e),⟨λg k e=>(by cases e),λs h=>h.elim⟩,λi k _ e=>(by cases e),λi k _ e=>(by cases e),λi h1 h2=>?_,λi st e=>(by cases e)⟩,⟨λh=>h.elim,λh=>h.elim,by rw [hc];omega,by omega,λ_=>rfl,λi e=>(by rcases e with e|e<;>cases e),λi e=>(by cases e),λi j e=>(by cases e)⟩⟩,⟨λj _=>rfl,λi g e=>?_,⟨λsaid=>aB9 said,λi a e=>?_,λi a e=>?_,λi a e=>?_⟩,λi g e=>?_,λi h1 h2=>?_,λh=>h.elim,Nat.le_refl _⟩⟩
 ·have:=(Array.getElem?_eq_some_iff.1 hg).1;simp at this;omega
 ·have h2:i<1:=h2;omega
 ·simp [Trace.g?] at e
 ·simp [touchAt,Trace.act?] at e
 ·simp [touchAt,Trace.act?] at e
 ·simp [touchAt,Trace.act?] at e
 ·simp [Trace.g?] at e
 ·have h2:i<1:=h2;omega
theorem Ua (W:World) (p:Addr) (ev:Value) (Jn:Gl W p ev) (vL:Value) (hv:Scr W vL) (hP:∀w,w.os=W.os->w.output=W.output->W.heap.size<=w.heap.size->(∀k,k<W.heap.size->w.heap[k]? =W.heap[k]?)->Post (.bool true) w):
 iW Tryz.prog Post (solo (G (Frame.enter Tryz.prog 3 #[vL] .normal) []) W) #[]:=by
 have hs:Scr (qN W) vL:=by obtain ⟨a,N,cap,rfl,h1,h2⟩:=hv;refine ⟨a,N,cap,rfl,h1,λi hi=>?_⟩;obtain ⟨g,off,k,e,hc,hb⟩:=h2 i hi;exact ⟨g,off,k,e,ug hc,hb⟩
 have hw:=(Ol Jn).races (Post:=Post) vL hs (λK' p' Jy w' w hR hkp VI=>?_) W XB
 ·rw [solo_eq_crowd];exact hw #[_] #[] (λ_=>0) none (λ_=>.hold) 0 rfl rfl ⟨rfl,λi hi=>⟨λaI=>by have aI:i<1:=aI;have hi:i≠0:=hi;omega,λ_=>rfl⟩⟩ ⟨rfl,rfl,λ_=>rfl⟩ Oq rfl trivial
 ·have bW:(qN W).heap.size=W.heap.size:=by unfold qN;simp
  refine hP w ?_ ?_ ?_ λk hk=>?_
  ·exact VI.os.1.symm.trans hkp.os.1
  ·exact VI.os.2.symm.trans hkp.os.2
  ·rw [<-VI.size,<-bW];exact hkp.size
  ·have iw:∀{P:Prop},(K'.Z.bP k\/K'.Z.iq k\/K'.Z.rW k\/(K'.Z.nch k/\K'.Z.lq k=none))->P:=λh=>by
    have:=hR.lo.ge k h;have e:(aFk W).n=W.heap.size:=rfl;omega
   rcases kI (W:=W) k with ⟨e,_,_⟩|⟨o,e,_,e2,e3⟩|⟨o,e,hf,e2,e3⟩
   ·have:=Array.getElem?_eq_none_iff.1 e;omega
   ·have u6:(K'.cut 2).free k:=eY.2 ⟨λh=>iw (.inl h),λh=>iw (.inr (.inl h)),λh=>by
     rcases h with h|h
     ·exact iw (.inr (.inr (.inr ⟨h,by rw [hR.lo.lq];exact e3⟩)))
     ·exact iw (.inr (.inr (.inl h)))⟩
    rw [<-VI.same k u6,hkp.keep k o e2 (λe=>e),e]
   ·have Zp:=hkp.keep k _ e2 (λe=>e);by_cases gN:K'.Z.ic k
    ·obtain ⟨_,x,h2,h3⟩:=VI.chan k (iU.2 gN);have how:¬K'.Z.rW k:=λh=>iw (.inr (.inr (.inl h)));have Mw:(K'.cut 2).lq k=some o:=by
      have:K'.Z.lq k=some o:=by rw [hR.lo.lq];exact e3
      simp only [Cy.cut,Gh.cut,how,if_false];exact this
     unfold wL at h3;rw [Mw] at h3;rw [h2,h3.1,e]
    ·have u6:(K'.cut 2).free k:=eY.2 ⟨λh=>iw (.inl h),λh=>iw (.inr (.inl h)),gN⟩;have hpl:=VI.plain k _ Zp u6.2;exact absurd hpl.1 (by simp [rU])
end
end Re
end
