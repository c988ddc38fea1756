/- Ends: a part. Conditions: none. -/
import Derived.Test.YtmanpggemmgnnaaGreatDoorA20
import Derived.Test.YtmanpggemmgnnaaGreatDoorA38
import Derived.Test.YtmanpggemmgnnaaGreatDoorA39
set_option linter.all false
set_option maxHeartbeats 8000000
set_option maxRecDepth 1000000
namespace Go.Proofs.YtmanpggemmgnnaaGreatDoor
noncomputable section
open Go Go.RowKit Go.Shelf Ba Fr Tryz
def į:=@World.cell?_setCell_other
def Į:=@World.block_lt_of_cell?
def ĭ:=@World.frozen?_of_block
def Ĭ:=@World.news_of_block
def ī:=@World.putObj_size
def Ī:=@World.size_alloc
def ĩ:=@Go.Conc.deafBehind_still
def Ĩ:=@heap_alloc_new
def ħ:=@heap_alloc_old
def Ħ:=@AllReadyH.cons
def ĥ:=@wp_append_lies
def Ĥ:=@AllReadyH.nil
def ģ:=@Loc.cell.inj
def Ģ:=@wpAnyH_ready
def ġ:=@wpAnyH_done
def Ġ:=@Go.Conc.mem_seen
def d40{p:Prop}(h:p:=by decide):p:=h
def xj{p:Prop}(h:p:=by kernel_rfl):p:=h
def z40{p}(h:p):Go.RowKit.Hid p:=Go.Lib.hid h
def vA{a b}(x:a)(y:b):a/\b:=⟨x,y⟩
namespace Sp
open Tx
def MM:∀k n,(pO k n).length=k
 |0,_=>rfl
 |k+1,n=>by simp[pO,MM k]
def YT t:(dA t).length<=maxLen:=by unfold dA;rw[MM];decide
def aAW{q:Bool}{s:Sv}(h:oW q s)(hz:yE s){p:M B}(J:∀y∈p,y.2.length<=204/\(Tx.parse y.2).isSome=true)(Q:p.length<=12):De.AP s.st p:=by
 have V:∀y∈s.st.ah,y.2.length<=204/\(Tx.parse y.2).isSome=true:=λy hy=>⟨hz.st y hy,(h.st.own y hy).1⟩
 refine⟨V,J,?_⟩;have Bl:∀l:M B,(∀y∈l,y.2.length<=204/\(Tx.parse y.2).isSome=true)->(l.map λy=>(bE y.2).length).sum<=207*l.length:=by
  intro l hl;have:=Iw (k:=207) (l.map λy=>(bE y.2).length) λn Q=>by
   obtain⟨y,hy,rfl⟩:=ey.1 Q;obtain⟨o,ho⟩:=lA.1 (hl y hy).2;have:=De.BB ho;have:=(hl y hy).1;rw[(De.lS ho).1];omega
  rwa[dN]at this
 have s1:=Bl p J;have s2:=Bl s.st.ah V;have:=h.st.room;have:=hz.room;unfold fuel;omega
def XH{q s x}{i:Nat}(h:oW q s)(hz:yE s)(E:s.ae[i]? =some x):De.AP s.st (aD x.ah).1:=by have hg:=sM (l:=x.ah);exact aAW h hz (λy hy=>⟨hz.cn i x E _ (hg.1 y hy),((sJ (h.cn i x E).obj).own y hy).1⟩) (cV hg.2 (h.cn i x E).I5)
end Sp
namespace Re
open Tx Sp Wg Rd Bk Wi Se Rx Mp De Lo
structure WR(w:World)s(C:Cp)m fz i r(v:Cv)S' v' U:Prop where
 rep:gT U s (C.iQ i v') m S' fz
 same:v'.i=v.i/\v'.s=v.s/\v'.o=v.o/\v'.a=v.a
 fp:∀k,Fp r v' k->Fp r v k\/w.heap.size<=k
 aA:aj (Tf r v C) w U
section
variable {q:Bool}{w U:World}{s i r:Nat}{C:Cp}{m:Int}{S:Sv}{fz:Nat×Nat}{v v':Cv}{x c':Cn}{VG:M Nat}
def gT.zX(h:gT w s C m S fz)(Y:C.rs[i]? =some r)(X:C.vs[i]? =some v)(E:S.ae[i]? =some x)(P:aAB w r fz v C.lk C.lb c' VG v' U):WR w s C m fz i r v {S with aP:=VG,ae:=S.ae.set i c'} v' U:=by
 have L:aj (Tf r v C) w U:=P.aA.mono λk _ e=>by
  rcases e with e|e|e
  ·exact .inl e
  ·exact .inr (.inl e)
  ·exact .inr (.inr (.inl e))
 have wX:=(h.cn i r v x Y X E).1.cx;have ru:Rx.Safe w (λk=>Fp r v k\/k=C.lk\/k=C.lb):=λk cur T jo A hb=>by
  rcases A with A|A
  ·exact wX.safe k cur T jo A hb
  ·exact jW h.nO k cur T jo A hb
 have uw:qZ U C.st C.mo C.mr 0 S.st:=by
  refine h.jC.aA P.aA ru ?_ ?_ ?_
  ·rintro(e|e|e)
   ·exact wX.off h.jC.blk d40 d40 d40 e
   ·exact aM.ne h.jC.blk h.nO.blk d40 e
   ·exact aM.dV h.jC.blk h.nO.map e
  ·obtain⟨mv,V,_⟩:=h.jC.ah;rintro(e|e|e)
   ·exact wX.gp V e
   ·exact aM.dV h.nO.blk V e.symm
   ·exact h.maps.1 e.symm
  ·rintro(e|e|e)
   ·exact wX.gp h.jC.refs e
   ·exact aM.dV h.nO.blk h.jC.refs e.symm
   ·exact h.maps.2.1 e.symm
 exact⟨h.iQ Y X E P.cw P.lk uw P.same P.fp L,P.same,P.fp,L⟩
def V7(h:gT w s C m S fz)(hI:oW q S)(hZ:yE S)(hz:Fz fz)(Y:C.rs[i]? =some r)(X:C.vs[i]? =some v)(E:S.ae[i]? =some x)(ho:x.over=false)k(A:k.r=r):
 ∃W:Co.jm,v.wk=W.val k/\Calls Tq.prog W.fn (W.args k) w λe U=>∃v',e=.returned (.int .i64 (S.work i x).2)/\WR w s C m fz i r v (S.work i x).1 v' U:=by
 subst A;obtain⟨ye,hvi,EE⟩:=h.cn i _ v x Y X E;have nk:=hI.cn i x E;have tP:i<S.ae.length:=(bA.1 E).1;have Zy:=hI.Bl;have hlf:=hI.Gy;have oJ:=h.low i _ v Y X;have hS:Sr w v.s C.st C.lk m C.cb C.rs:=EE▸h.sr;have EF:x.rest.length<=600:=cV nk.rest nk.nL;have wk:=ye.wk;unfold FE at wk;cases hw:x.work with
 |none=>rw[(nk.over hw).1]at ho;cases ho
 |some y=>
  rw[hw]at wk;cases y with
  |read=>
   refine⟨.read,wk.1,?_⟩;have Mt:=KU nk hw;cases he:x.aV.1 with
   |more=>
    have e:S.work i x=(Sv.set {S with aP:=S.aP} i x.aV.2,0):=by
     unfold Sv.work;rw[hw];dsimp only;split
     ·rename_i d e;rw[e]at he;cases he
     ·rename_i d e;rw[e]
     ·rename_i d e;rw[e]at he;cases he
    rw[e];refine(TY C.p C.ev w k.r fz v x C.lk C.lb S.aP ye h.nO hz h.gl oJ EF nk.Dw nk.I5 he).mono ?_;rintro e U ⟨rfl,v',P⟩;exact⟨v',rfl,h.zX Y X E P⟩
   |refused wd=>
    have e:S.work i x=(Sv.set {S with aP:=give S.aP i} i {x.aV.2 with bR:=dB++wd++nl,bK:=true,work:=none},1):=by
     unfold Sv.work;rw[hw];dsimp only;split
     ·rename_i d e;rw[e]at he ⊢;cases he;rfl
     ·rename_i d e;rw[e]at he;cases he
     ·rename_i d e;rw[e]at he;cases he
    rw[e];refine(IM C.p C.ev w k.r fz v x C.lk C.lb S.aP C.st m C.cb C.rs wd ye h.nO hS hz h.gl oJ EF nk.Dw nk.I5 (by omega) (by omega) he).mono ?_;rintro e U ⟨rfl,v',P⟩;rw[hvi]at P;exact⟨v',rfl,h.zX Y X E P⟩
   |ok=>
    have e:S.work i x=(Sv.set {S with aP:=S.aP} i (if x.aV.2.done then {x.aV.2 with wants:=(x.aV.2.wants++x.aV.2.au.map (·.ref)).mergeSort uH,work:=some .lock}else x.aV.2),1):=by
     unfold Sv.work;rw[hw];dsimp only;split
     ·rename_i d e;rw[e]at he;cases he
     ·rename_i d e;rw[e]at he;cases he
     ·rename_i d e;rw[e]
    rw[e];cases hd:x.aV.2.done with
    |false=>refine(aBX C.p C.ev w k.r fz v x C.lk C.lb S.aP ye h.nO hz h.gl oJ EF nk.Dw nk.I5 he hd).mono ?_;rintro e U ⟨rfl,v',P⟩;exact⟨v',rfl,h.zX Y X E P⟩
    |true=>
     refine(TZ C.p C.ev w k.r fz v x C.lk C.lb S.aP ye h.nO hz h.gl oJ EF nk.Dw nk.I5 he hd Mt.ok.Dw hw).mono ?_;rintro e U ⟨rfl,v',P⟩;exact⟨v',rfl,h.zX Y X E P⟩
  |lock=>
   refine⟨.lock,wk.1,?_⟩;cases BD:x.wants with
   |nil=>
    have e:S.work i x=(Sv.set {S with st:=(aW S.st x.au (aD x.ah).1 (aD x.ah).2).2,aP:=S.aP} i {x with bR:=(aW S.st x.au (aD x.ah).1 (aD x.ah).2).1,work:=some .fin},1):=by unfold Sv.work;rw[hw];dsimp only;rw[BD]
    rw[e];have hg:=sM (l:=x.ah);have hgw:=sJ nk.obj;refine(LB w k.r fz v x C.lk C.lb S.aP C.st C.mo C.mr m C.cb C.rs S.st ye.cx wk.2 BD h.nO hS h.jC hz nk.Dw nk.I5 (by have:=hg.2;have:=nk.I5;omega) (by have:=hI.st.room;have:=hZ.room;omega) (by have:=hI.K5;omega)
     (λc L=>by have:=QS (nk.cmd c L).2.2;have J:=(nk.cmd c L).2.1;unfold oH at J;simp only[bw,cN]at J;exact⟨by omega,by omega⟩)
     (λy hy=>by rw[<-(hgw.own y hy).2];exact YT _) h.maps.1 h.maps.2.1 h.maps.2.2 (XH hI hZ E)).mono ?_
    rintro e U ⟨rfl,v',p1,p2,p3,p4,p5,p6⟩;have L:aj (Tf k.r v C) w U:=p6.mono λj _ e=>by
     rcases e with e|e|e|e
     ·exact .inl (.inl e)
     ·exact .inr (.inr (.inr (.inl e)))
     ·exact .inr (.inr (.inr (.inr (.inl e))))
     ·exact .inr (.inr (.inr (.inr (.inr e))))
    exact⟨v',rfl,h.iQ Y X E p1 p2 p3 p4 p5 L,p4,p5,L⟩
   |cons y ys=>
    have hyl:y.length<=maxLen:=by have V:=(nk.lock hw).2.1 y (by rw[BD];exact bj ..);obtain⟨c,L,rfl⟩:=ey.1 V;have:=QS (nk.cmd c L).2.2;exact cV this d40
    by_cases hg:(S.aP.get y).getD 0=0
    ·have e:S.work i x=(Sv.set {S with aP:=S.aP.put y (i+1)} i {x with wants:=ys},1):=by
      unfold Sv.work;rw[hw];dsimp only;rw[BD];dsimp only;rw[bk hg]
     rw[e];refine(YL w k.r fz v x C.lk C.lb S.aP C.st m C.cb C.rs y ys ye.cx wk.2 BD h.nO hS hyl (by omega) hg hz (by omega) hw wk.1).mono ?_;rintro e U ⟨rfl,v',P⟩;rw[hvi]at P;exact⟨v',rfl,h.zX Y X E P⟩
    ·have e:S.work i x=(S,0):=by
      unfold Sv.work;rw[hw];dsimp only;rw[BD];dsimp only;rw[aX hg]
     rw[e];refine(aCf w k.r fz v x C.lk C.lb S.aP C.st m C.cb C.rs y ys ye.cx wk.2 BD h.nO hS hyl (by omega) hg hw wk.1).mono ?_;rintro e U ⟨rfl,v',P⟩;have:=h.zX Y X E P;rw[xK E]at this;exact⟨v',rfl,this⟩
  |fin=>
   obtain⟨bx,V,J⟩:=wk;refine⟨.fin bx,V,?_⟩;have e:S.work i x=(Sv.set {S with aP:=give S.aP i} i {x with bK:=true,work:=none},1):=by unfold Sv.work;rw[hw]
   rw[e];refine(aC3 w k.r bx fz v x C.lk C.lb S.aP C.st m C.cb C.rs ye.cx J h.nO hS hz (by omega) (by omega)).mono ?_;rintro e U ⟨rfl,v',P⟩;rw[hvi]at P;exact⟨v',rfl,h.zX Y X E P⟩
def UK(h:gT w s C m S fz)(hI:oW q S)(hz:Fz fz)(Y:C.rs[i]? =some r)(X:C.vs[i]? =some v)(E:S.ae[i]? =some x):
 Calls Tq.prog 72 #[aG r] w λe U=>∃v',e=.returned (.tuple #[])/\WR w s C m fz i r v (S.lI i x) v' U:=by
 obtain⟨ye,hvi,EE⟩:=h.cn i _ v x Y X E;have tP:i<S.ae.length:=(bA.1 E).1;have Zy:=hI.Bl;have hlf:=hI.Gy;have hS:Sr w v.s C.st C.lk m C.cb C.rs:=EE▸h.sr;refine(zu w C.lk C.lb r S.aP fz v x C.st m C.cb C.rs h.nO ye.cx.cb hS hz (by omega) (by omega)).mono ?_;rintro e U ⟨rfl,hl,hb,L⟩;rw[hvi]at hl;have hx4:Cx U r fz {v with wk:=.nilFunc} {x with work:=none}:=ye.cx.reb L (Gz ye.cx h.nO) hb (LA ye.cx h.nO) rfl rfl rfl rfl;have P:aAB w r fz v C.lk C.lb {x with work:=none} (give S.aP i) {v with wk:=.nilFunc} U:=⟨⟨hx4,rfl⟩,hl,⟨rfl,rfl,rfl,rfl⟩,λk A=>.inl A,L.mono λk _ e=>by
  rcases e with e|e|e
  ·exact .inr (.inl e)
  ·exact .inr (.inr e)
  ·exact .inl (.inl e)⟩
 exact⟨_,rfl,h.zX Y X E P⟩
end
def aBD(st lk:Nat):Array Value:=#[.int .i32 0,.int .u32 0,aG st,aG lk,.slice none 0 0,.int .u64 0,.int .u32 0,.bool false]
def aCc w fw(room:Nat):Calls Tq.prog 15 #[.bool fw,.int .i64 room] w λe U=>e=.returned (aG (w.heap.size+5))/\U.heap[w.heap.size+5]? =some (.cells (aBD (w.heap.size+2) (w.heap.size+4)) 79 (0,0))/\
 aM U (w.heap.size+2) #[.int .i32 0,.int .u32 0,.bool fw,.int .i64 room,.map (some w.heap.size),.map (some (w.heap.size+1))] 65 (0,0)/\aM U (w.heap.size+4) #[.int .i32 0,.int .u32 0,.map (some (w.heap.size+3))] 69 (0,0)/\
 SM U w.heap.size []/\SM U (w.heap.size+1) []/\SM U (w.heap.size+3) []/\Below w.heap.size w U:=by
 have hm:(if(room:Int)<0 then(0:Int)else room)=room:=aX (by omega);have hmm:=@run_makeMap Tq.prog;unfold aG;go_enter Tq.func15,ntmps15;go_wp2_with fail;go_ret;refine⟨rfl,?_,?_,?_,?_,?_,?_,?_⟩
 ·rw[Lv.aO,bk (by simp only[Ī])];rfl
 ·unfold aM;rw[Lv.aO,aX (by simp only[Ī]<;>omega),Lv.aO,aX (by simp only[Ī]<;>omega),Lv.aO,aX (by simp only[Ī]<;>omega),Lv.aO,bk (by simp only[Ī])]
 ·unfold aM;rw[Lv.aO,aX (by simp only[Ī]<;>omega),Lv.aO,bk (by simp only[Ī])]
 ·exact(SM.made w).block (by rw[Lv.aO,aX (by simp only[Ī]<;>omega),Lv.aO,aX (by simp only[Ī]<;>omega),Lv.aO,aX (by simp only[Ī]<;>omega),Lv.aO,aX (by simp only[Ī]<;>omega),Lv.aO,aX (by simp only[Ī]<;>omega)])
 ·have:=SM.made (w.alloc (.map #[] 0));rw[Ī]at this;exact this.block (by rw[Lv.aO,aX (by simp only[Ī]<;>omega),Lv.aO,aX (by simp only[Ī]<;>omega),Lv.aO,aX (by simp only[Ī]<;>omega),Lv.aO,aX (by simp only[Ī]<;>omega)])
 ·have:=SM.made (((w.alloc (.map #[] 0)).alloc (.map #[] 0)).alloc (.cells #[.int .i32 0,.int .u32 0,.bool fw,.int .i64 room,.map (some w.heap.size),.map (some (w.heap.size+1))] 65));rw[Ī,Ī,Ī]at this;exact this.block (by rw[Lv.aO,aX (by simp only[Ī]<;>omega),Lv.aO,aX (by simp only[Ī]<;>omega)])
 ·exact((((((Below.refl _ _).alloc (aI _) _).alloc (by simp) _).alloc (by simp;omega) _).alloc (by simp;omega) _).alloc (by simp;omega) _).alloc (by simp;omega) _
end Re
namespace Lv
def D.drawn{ops P Goal k cs a w}{b:Frame}{id}(hm:P.follows .mixedOrders=true)(bz:uC ops=true)
 (h:∀R:Act->World->Prop,(∀a' U,D P Goal U (b.atR a' k) cs->R a' U)->wpAny P .any ops (Qr R) ops.size (Array.replicate ops.size false) a w.drew):D P Goal w (b.atR a (.code (.region id ops true)::k)) cs:=by
 have h:=h _ (λ_ _ h=>h);refine .step stepR_region_draw ?_;have J:=wpAny_sound ops.size (w.tape w.drawn (.order b.fn id)) _ a _ h;obtain⟨a',U,I,hs⟩:=XJ bz _ _ _ J b [] k cs;rw[jb]at hs;simp only[Region.schedule,hm,Bool.true_or,j2];exact .steps hs (.step stepR_region_end I)
end Lv
namespace De
open Tx Sp Wg Rd Bk Wi Se Rx Mp Lv Qu
def aIF(s:ByteArray)(w:World)(hs:s.size<=1000000):Calls Tq.prog 89 #[.string s] w λe U=>e=.returned (.string s)/\aj (λ_=>False) w U:=by have C:=z40 (stringslite_Clone s w (by omega));go_enter Tq.func89,ntmps89;go_wp2_with fail;refine C.out.mono ?_;rintro e U ⟨rfl,h⟩;have h:=z40 h;go_wp2_with fail;go_ret;exact⟨rfl,aj.nK h.out⟩
def look_nil k w:Sem.run Tq.prog (Instr.lookup 55 (.map none) (.string k) false) w=.ok .nilIface w:=xj
def aDX(w:World)(st mo mr pb:Nat)(μ:Int)(S:St)(cv:Value)(cl:Bool)(k:ByteArray)(hS:qZ w st mo mr μ S)(hP:aM w pb #[cv,.map none,.bool cl] 155 (0,0))(A:k.size<=maxLen):
 Calls Tq.prog 133 #[aG st,aG pb,.string k] w λe U=>(∃v,e=.returned v/\OV w (Sp.find S [] k.data.toList) v)/\U=w:=by
 obtain⟨ov,Bc,Ax⟩:=hS.ah;have k1:w.cell? ⟨pb,1,none⟩=some (.map none):=hP.at rfl;have k4:w.cell? ⟨st,4,none⟩=some (.map (some mo)):=hS.blk.at rfl;have G:=z40 (OM.get (b:=mo) Ax k.data.toList);have hc:=look_nil k;unfold aG;clear hP hS Ax;go_enter Tq.func133,ntmps133;go_wp2_with (at_lookup;refine Mp.lookup rfl _ _ 55 rfl 106 ((Tq.underlying 55).trans underlying55) (z:=.nilIface) (by simp[zeroValue106]) mo ov rfl Bc k rfl A ?_);go_ret;exact⟨⟨_,rfl,G.out⟩,rfl⟩
def aIe(w:World)(bs s st mo mr:Nat)(μ:Int)(S:St)(k:ByteArray)(hS:qZ w st mo mr μ S)(A:k.size<=maxLen)(V:w.cell? ⟨bs,0,none⟩=some (.pointer (some ⟨s,0,none⟩)))(J:w.cell? ⟨s,2,none⟩=some (.pointer (some ⟨st,0,none⟩))):
 Calls Tq.prog 87 #[.string k,.pointer (some ⟨bs,0,none⟩)] w λe U=>∃v,e=.returned v/\U.ownsRow w.heap.size 9 1 v (Sp.names S [] k.data.toList).length ((Sp.names S [] k.data.toList).map av)/\Below w.heap.size w U:=by
 have C:=z40 (λW cv cl (hS:qZ W st mo mr μ S) hP=>aBb W st w.heap.size k _ (aDX W st mo mr w.heap.size μ S cv cl k hS hP A));have H:=z40 hS;clear hS A;unfold aG at C;go_enter Tq.func87,ntmps87;go_wp2_with fail;have L:aj (λ_=>False) w (w.alloc (.cells #[.slice none 0 0,.map none,.bool false] 155)):=(aj.refl _ _).alloc _;refine(C.out _ _ _ (H.out.aA L (Safe.none _) (λe=>e) (λe=>e) (λe=>e)) (aM.new w _ _)).mono ?_;rintro e w2 ⟨v',rfl,tM,hb⟩;have R:=z40 (vA tM (vA hb L));clear tM hb V J;go_wp2_with fail;go_ret;exact⟨_,rfl,Wi.lQ R.out.1 (by simp),((Below.refl _ w).alloc (aI _) _).trans (R.out.2.1.mono (by simp))⟩
def aEF{S:St}{id x:B}(fT:AP S [])(h:x∈Sp.reach S [] id):x=id\/x.length=8:=by
 have:=(T9 S [] id x).1 h;cases this with
 |start=>exact .inl rfl
 |next _ Q=>
  refine .inr ?_;unfold Sp.names at Q;split at Q
  ·rename_i t ht;exact(zz (vG fT ht).1).2 x Q
  ·cases Q
def aEA(beh:B->List B):∀(n:Nat) (seen queue:List B),(Ew beh n seen queue).length<=n
 |0,_,_=>aI _
 |n+1,_,[]=>by simp[Ew]
 |n+1,seen,k::q=>by
  unfold Ew;have:=aEA beh n (seen++news seen (beh k)) (q++news seen (beh k));simp only[bt];omega
def aCx(S:St)(fT:AP S [])(id:B):(Sp.reach S [] id).length<=1000000:=cV (aEA ..) fT.2.2
def qZ.aGh{w:World}{st mo mr:Nat}{μ:Int}{S:St}(h:qZ w st mo mr μ S):Rx.Safe w (λk=>k=st)/\mo≠st/\mr≠st:=by
 refine⟨λk cur t fz A e=>?_,λe=>?_,λe=>?_⟩
 ·subst A;have hb:=h.blk;unfold aM at hb;rw[hb]at e;injection e with e;injection e with _ e _;subst e;decide
 ·subst e;exact h.ah.eQ _ _ _ h.blk
 ·subst e;exact Re.xH h.refs _ _ _ h.blk
def still{w st xs U}(hb:aM w st xs 65 (0,0))(xa:aM U st xs 65 (0,0))(L:aj (λk=>k=st) w U):aj (λ_=>False) w U:=
 ⟨L.os,L.tape,L.output,L.size,λk A _=>by
   by_cases e:k=st
   ·subst e;unfold aM at hb xa;rw[xa,hb]
   ·exact L.block k A e⟩
open Lo
def rF(b l LV:Nat)(k:Nat):Prop:=k=b\/k=l\/k=LV
structure RJ(W0:World)b l LV rc(pre:List B)(F:Nat->Prop)W:Prop where
 row:∃v,(F=λk=>rF b l LV k\/v.ownBlock=some k)/\aM W b #[v] 34 (0,0)/\W.ownsRow W0.heap.size 9 1 v pre.length (pre.map av)
 aA:aj (rF b l LV) W0 W
 loop:W.heap[l]? =some (.loop rc)
 defs:W.heap[LV]? =some (.deferred (some []))
def rM{T:Nat->Prop}(W:World){l:Nat}(hl:T l)(o:Obj):aj T W (W.putObj l o):=cK (aj.refl _ _) (.inl hl) o
def RJ.next{b l LV W v W0 rc wX w5 v' pre x}{F:Nat->Prop}(hF:F=λk=>rF b l LV k\/v.ownBlock=some k)(hb:aM W b #[v] 34 (0,0))(tM:W.ownsRow W0.heap.size 9 1 v pre.length (pre.map av))(L:aj (rF b l LV) W0 W)(hl:W.heap[l]? =some (.loop rc))(hD:W.heap[LV]? =some (.deferred (some [])))
 (tW:b≠l/\b≠LV/\l≠LV) (hrc:rc.state=.ready/\rc.pending=none) (tP:∀k,rF b l LV k->k<W0.heap.size) (c1:aj (λ_=>False) (W.putObj l (.loop {rc with state:=.busy})) wX) (own:w5.ownsRow W0.heap.size 9 1 v' (pre.length+1) (pre.map av++[av x])) (gr:wX.grownBy w5 v.ownBlock) (loc:v'.ownBlock=v.ownBlock\/v'.ownBlock=some wX.heap.size):
 (w5.setCell ⟨b,0,none⟩ v').heap[l]? =some (.loop {rc with state:=.busy})/\∃F',RJ W0 b l LV rc (pre++[x]) F' ((w5.setCell ⟨b,0,none⟩ v').putObj l (.loop {{rc with state:=.busy}with state:=.ready,pending:=none}))/\aj F W ((w5.setCell ⟨b,0,none⟩ v').putObj l (.loop {{rc with state:=.busy}with state:=.ready,pending:=none}))/\
   ∀k,F' k->(F k\/W.heap.size<=k)/\k<((w5.setCell ⟨b,0,none⟩ v').putObj l (.loop {{rc with state:=.busy}with state:=.ready,pending:=none})).heap.size:=by
 have Gk:=tP b (.inl rfl);have hl0:=tP l (.inr (.inl rfl));have hD0:=tP LV (.inr (.inr rfl));have uG:=L.size;have aGl:∀k,v.ownBlock=some k->W0.heap.size<=k/\k<W.heap.size:=λk A=>tM.lt k A;have aC0:∀k,v'.ownBlock=some k->W0.heap.size<=k/\k<w5.heap.size:=λk A=>own.lt k A;have nb:∀k,rF b l LV k->some k≠v.ownBlock:=λk A e=>by have:=(aGl k e.symm).1;have:=tP k A;omega
 have sz1:(W.putObj l (.loop {rc with state:=.busy})).heap.size=W.heap.size:=ī ..;have szX:W.heap.size<=wX.heap.size:=sz1▸c1.size;have sz5:=gr.size;have at5:∀k,k<W.heap.size->some k≠v.ownBlock->w5.heap[k]? =(W.putObj l (.loop {rc with state:=.busy})).heap[k]? :=λk A Q=>(gr.block k (by omega) Q).trans (c1.block k (by omega) (λe=>e));have b5:aM w5 b #[v] 34 (0,0):=by unfold aM;rw[at5 b (by omega) (nb b (.inl rfl)),aJ,aX (λe=>tW.1 e.1)];exact hb
 have l5:w5.heap[l]? =some (.loop {rc with state:=.busy}):=by rw[at5 l (by omega) (nb l (.inr (.inl rfl))),aJ,bk ⟨rfl,by omega⟩]
 have D5:w5.heap[LV]? =some (.deferred (some [])):=by rw[at5 LV (by omega) (nb LV (.inr (.inr rfl))),aJ,aX (λe=>tW.2.2 e.1.symm)];exact hD
 have h6:∀k,k≠b->(w5.setCell ⟨b,0,none⟩ v').heap[k]? =w5.heap[k]? :=λk A=>Below.heap_setCell _ ⟨b,0,none⟩ _ _ A;have l6:(w5.setCell ⟨b,0,none⟩ v').heap[l]? =some (.loop {rc with state:=.busy}):=(h6 l (dT tW.1)).trans l5;have sz6:(w5.setCell ⟨b,0,none⟩ v').heap.size=w5.heap.size:=by simp
 have cW:aj (λk=>rF b l LV k\/v.ownBlock=some k) W (w5.setCell ⟨b,0,none⟩ v'):=by have q1:aj (λk=>rF b l LV k\/v.ownBlock=some k) W wX:=(rM W (.inl (.inr (.inl rfl))) _).trans (c1.mono (λ_ _ e=>e.elim));exact(q1.grown gr (λk A=>.inl (.inr A))).setCell (p:=⟨b,0,none⟩) (.inl (.inl (.inl rfl))) _
 have aSf:({{rc with state:=.busy}with state:=.ready,pending:=none}:Loop)=rc:=by obtain⟨V,J⟩:=hrc;cases rc;simp only at V J;subst V J;rfl
 refine⟨l6,λk=>rF b l LV k\/v'.ownBlock=some k,⟨⟨v',rfl,?_,?_⟩,?_,?_,?_⟩,?_,λk A=>?_⟩
 ·unfold aM;rw[aJ,aX (λe=>tW.1 e.1)];exact aM.set b5 0 v'
 ·have:=own;rw[show(pre++[x]).length=pre.length+1 by simp,eN];have o6:(w5.setCell ⟨b,0,none⟩ v').ownsRow W0.heap.size 9 1 v' (pre.length+1) (pre.map av++[av x]):=((aj.refl (λk=>k=b) w5).setCell (p:=⟨b,0,none⟩) (.inl rfl) v').ownsRow own (λk A e=>by have:=(aC0 k A).1;omega);exact(rM (T:=λk=>k=l) _ rfl _).ownsRow o6 (λk A e=>by have:=(aC0 k A).1;omega)
 ·refine cK (L.trans' cW λi hi e=>?_) (.inl (.inr (.inl rfl))) _;rcases e with e|e
  ·exact e
  ·have:=(aGl i e).1;omega
 ·rw[aJ,bk ⟨rfl,by rw[sz6];omega⟩,aSf]
 ·rw[aJ,aX (λe=>tW.2.2 e.1.symm)];exact(h6 LV (dT tW.2.1)).trans D5
 ·rw[hF];exact cK cW (.inl (.inl (.inr (.inl rfl)))) _
 ·rw[hF,ī,sz6];rcases A with A|A
  ·exact⟨.inl (.inl A),by have:=tP k A;omega⟩
  ·refine⟨?_,(aC0 k A).2⟩;rcases loc with e|e
   ·exact .inl (.inr (e▸A))
   ·rw[e]at A;obtain rfl:=ay A;exact .inr szX
def RJ.keep{W0 b l LV rc pre F W B0 T W'}(h:RJ W0 b l LV rc pre F W)(tP:∀k,rF b l LV k->k<W0.heap.size)(hB:W0.heap.size<=B0)(L:aj T W W')(hT:∀k,T k->k<W.heap.size->B0<=k/\¬F k):RJ W0 b l LV rc pre F W':=by
 obtain⟨⟨v,hF,hb,tM⟩,vx,hl,hD⟩:=h;have uG:=vx.size;have no:∀k,F k->k<W.heap.size->¬T k:=λk A lh e=>(hT k e lh).2 A;have old:∀k,rF b l LV k->¬T k/\k<W.heap.size:=λk A=>by
  have:=tP k A;exact⟨no k (hF▸.inl A) (by omega),by omega⟩
 refine⟨⟨v,hF,hb.aA L (old b (.inl rfl)).1,L.ownsRow tM (λk A=>no k (hF▸.inr A) (tM.lt k A).2)⟩,vx.trans' L (λi hi e=>?_),?_,?_⟩
 ·have:=(hT i e (by omega)).1;omega
 ·exact(L.block l (old l (.inr (.inl rfl))).2 (old l (.inr (.inl rfl))).1).trans hl
 ·exact(L.block LV (old LV (.inr (.inr rfl))).2 (old LV (.inr (.inr rfl))).1).trans hD
def aS8(Goal:Machine->Prop)(l:Nat)(all:List B)(cs:List Frame)(h2:List B->(Nat->Prop)->World->Prop):Prop:=
 ∀pre x F W (fi:Frame),h2 pre F W->pre++[x]<+:all->
  (∀F' W',h2 (pre++[x]) F' W'->aj F W W'->(∀k,F' k->(F k\/W.heap.size<=k)/\k<W'.heap.size)->D Tq.prog Goal W' (fi.finish (.bool true)) cs)->
  ∃f tm ag bd,(Instr.yield l #[av x]).run Tq.prog W=.ok (.round l f tm ag bd) W/\D Tq.prog Goal W (Frame.round l f tm ag bd .normal) (fi::cs)
def aLn:Tq.prog.follows .mixedOrders=true:=xj
def aIL:(Tq.prog.info? 9).map (λi=>(i.zero,i.size,i.bytes))=some (some (.string ByteArray.empty),1,16):=xj
def aIa{Goal:Machine->Prop}{l:Nat}{fc:Frame}{cs:List Frame}{h2:List B->(Nat->Prop)->World->Prop}{F:Nat->Prop}(w:World)(s st lk mo mr bi bs:Nat)(m:Int)(cb:Value)(rs:List Nat)(S:St)(id:ByteArray)
 (BF:Sr w s st lk m cb rs) (hS:qZ w st mo mr 0 S) (hi:w.cell? ⟨bi,0,none⟩=some (.string id)) (hb:w.cell? ⟨bs,0,none⟩=some (.pointer (some ⟨s,0,none⟩))) (PM:bi≠st) (hbs:bs≠st)
 (hz:(id.toList==[48,48,48,48,48,48,48,48])=false) (hid:id.size<=1000000) (fT:AP S [])
 (h0:h2 [] F w) (GX:∀pre F W W' T,h2 pre F W->aj T W W'->(∀k,T k->k<W.heap.size->w.heap.size<=k/\¬F k)->h2 pre F W') (hF:∀k,F k->k<w.heap.size) (aAR:aS8 Goal l (Sp.reach S [] id.data.toList) (fc::cs) h2)
 (wo:∀F' W',h2 (Sp.reach S [] id.data.toList) F' W'->D Tq.prog Goal W' (fc.finish (.tuple #[])) cs):
 D Tq.prog Goal w (Frame.enter Tq.prog 85 #[.func (.yield l) #[] #[],.pointer (some ⟨bi,0,none⟩),.pointer (some ⟨bs,0,none⟩)] .normal) (fc::cs):=by
 obtain⟨aAM,GQ,Rl⟩:=hS.aGh;have hv:=z40 (vA BF (vA hS (vA aAM (vA aAR (vA wo (vA h0 (vA GX hF)))))));have hr:=z40 (vA fT (vA hid (vA GQ (vA Rl (vA PM hbs)))));have k2:w.cell? ⟨s,2,none⟩=some (.pointer (some ⟨st,0,none⟩)):=BF.blk.at (i:=2) rfl;have k0:w.cell? ⟨st,0,none⟩=some (.int .i32 0):=hS.blk.at rfl;have f0:=hS.blk.frozen (i:=0) (.inr (aI _));have hss:s≠st:=λe=>by
  have V:=BF.blk;have J:=hS.blk;unfold aM at V J;rw[e,J]at V;cases V
 have uw:st<w.heap.size:=hS.blk.lt;refine D.enter Tq.func85 rfl ?_;simp only[ntmps85,eC,bt,dt,Nat.reduceAdd,Nat.reduceSub,dC,dK,eI,cY,cg,cf];clear BF hS aAM GQ Rl hid fT h0 hF aAR wo GX;refine D.seq (D.seq (D.rh λR I=>?_));go_wp2_with fail;refine I.out _ _ ?_;clear I R;clear hz;refine D.cond (t:=false) rfl (D.skip (D.seq (D.rh λR I=>?_)));go_wp2_with fail;refine I.out _ _ ?_;clear I R;obtain⟨n,Q⟩:∃n,n=w.heap.size:=⟨_,rfl⟩
 have c1:aj (λ_=>False) w (w.alloc (.cells #[.slice none 0 0] 34)):=(aj.refl _ w).alloc _;have q2:=c1.bB k2 (λe=>e);have q0:=c1.bB k0 (λe=>e);have qi:=c1.bB hi (λe=>e);have qb:=c1.bB hb (λe=>e);have g0:(w.alloc (.cells #[.slice none 0 0] 34)).frozen? ⟨st,0,none⟩=false:=(ĭ (w:=w) (c1.block st uw (λe=>e))).trans f0;have gz:aM (w.alloc (.cells #[.slice none 0 0] 34)) n #[.slice none 0 0] 34 (0,0):=Q▸aM.new w _ _;have gs:(w.alloc (.cells #[.slice none 0 0] 34)).heap.size=n+1:=by rw[Ī,Q]
 rw[<-Q];have uw:st<n:=by omega
 replace Q:=z40 Q;clear k2 k0 hi hb f0;replace c1:=z40 c1;generalize w.alloc (.cells #[.slice none 0 0] 34)=w1 at c1 q2 q0 qi qb g0 gz gs ⊢;refine D.seq (D.rh λR I=>?_);go_wp2_with fail;refine(iR st 0 w1 q0 g0).mono ?_;rintro e W1 ⟨rfl,rfl⟩;go_wp2_with fail;refine I.out _ _ ?_;clear I R;have c2:aj (·=st) w (w1.setCell ⟨st,0,none⟩ (.int .i32 1)):=aj.setCell (S:=(·=st)) (c1.out.mono (λ_ _ e=>e.elim)) (p:=⟨st,0,none⟩) (.inl rfl) _;have aEo:=(hv.out.2.1.blk.aA c1.out (λe=>e)).set 0 (.int .i32 1);simp only[bo,cj]at aEo;replace gz:=gz.other (p:=⟨st,0,none⟩) (show n≠st by omega) (.int .i32 1);have qi2:(w1.setCell ⟨st,0,none⟩ (.int .i32 1)).cell? ⟨bi,0,none⟩=some (.string id):=by rw[į _ _ _ _ (λe=>hr.out.2.2.2.2.1 (dv Addr.block e).symm)];exact qi
 have qb2:(w1.setCell ⟨st,0,none⟩ (.int .i32 1)).cell? ⟨bs,0,none⟩=some (.pointer (some ⟨s,0,none⟩)):=by rw[į _ _ _ _ (λe=>hr.out.2.2.2.2.2 (dv Addr.block e).symm)];exact qb
 have qs2:(w1.setCell ⟨st,0,none⟩ (.int .i32 1)).cell? ⟨s,2,none⟩=some (.pointer (some ⟨st,0,none⟩)):=by rw[į _ _ _ _ (λe=>hss (dv Addr.block e).symm)];exact q2
 have gs2:(w1.setCell ⟨st,0,none⟩ (.int .i32 1)).heap.size=n+1:=by simp[gs]
 clear q2 q0 qi qb g0 gs c1;replace c2:=z40 c2;replace aEo:=z40 aEo;replace gz:=z40 gz;generalize w1.setCell ⟨st,0,none⟩ (.int .i32 1)=w2 at c2 aEo gz qi2 qb2 qs2 gs2 ⊢;have Wk:=z40 (λg lb W=>Wm id g lb W);refine D.seq (D.seq (D.rh λR I=>?_));go_wp2_with fail;refine(Wk.out _ _ _).mono ?_;rintro e W1 ⟨rfl,rfl⟩;go_wp2_with fail;refine I.out _ _ ?_;clear I R Wk;refine D.block ?_;refine D.X7 rfl rfl (λargs w=>Tq.call132 args w) ?_;intro W0 rc r1 r2 r3 r4 r5 r6 r7 xo;have RC:=z40 (vA r1 (vA r2 (vA r3 (vA r4 (vA r5 (vA r6 r7))))));clear r1 r2 r3 r4 r5 r6 r7;simp only[Ī,gs2,ft,Nat.reduceAdd]at xo ⊢;have cA:aj (λ_=>False) w2 W0:=by rw[xo];exact(((((aj.refl _ w2).alloc _).alloc _).alloc _).alloc _)
 have g8:aM W0 (n+1) #[.string id] 9 (0,0):=by unfold aM;rw[xo];simp only[aO,Ī,gs2];repeat (first|rw[bk trivial]|rw[aX (by omega)]|rw[bk (by omega)])
 have g9:aM W0 (n+2) #[.func (.func 87) #[] #[.pointer (some ⟨bs,0,none⟩)]] 103 (0,0):=by unfold aM;rw[xo];simp only[aO,Ī,gs2];repeat (first|rw[bk trivial]|rw[aX (by omega)]|rw[bk (by omega)])
 have gD:W0.heap[n+3]? =some (.deferred (some [])):=by rw[xo];simp only[aO,Ī,gs2];repeat (first|rw[bk trivial]|rw[aX (by omega)]|rw[bk (by omega)])
 have gl:W0.heap[n+4]? =some (.loop rc):=by rw[xo];simp only[aO,Ī,gs2];repeat (first|rw[bk trivial]|rw[aX (by omega)]|rw[bk (by omega)])
 have gs:W0.heap.size=n+5:=by rw[xo];simp only[Ī,gs2]
 have gz0:aM W0 n #[.slice none 0 0] 34 (0,0):=gz.out.aA cA (λe=>e);have gst:aM W0 st #[.int .i32 1,.int .u32 0,.bool S.forward,.int .i64 S.room,.map (some mo),.map (some mr)] 65 (0,0):=aEo.out.aA cA (λe=>e);have gB:aj (·=st) w W0:=c2.out.trans (cA.mono (λ_ _ e=>e.elim));have qb0:=cA.bB qb2 (λe=>e);have qs0:=cA.bB qs2 (λe=>e);clear xo cA;obtain⟨BF,hS,aAM,aAR,wo,h0,GX,hF⟩:=hv.out;have Jm:=Q.out;obtain⟨fT,hid,GQ,Rl,PM,hbs⟩:=hr.out;have tP:∀k,rF n (n+4) (n+3) k->k<W0.heap.size:=λk A=>by rw[gs];rcases A with rfl|rfl|rfl<;>omega
 have hcW:∀{W:World},aj (rF n (n+4) (n+3)) W0 W->aj (·=st) w W/\qZ W st mo mr 1 S/\W.cell? ⟨bs,0,none⟩=some (.pointer (some ⟨s,0,none⟩))/\W.cell? ⟨s,2,none⟩=some (.pointer (some ⟨st,0,none⟩)):=λ{W} h=>by
  have no:∀k,k<n->¬rF n (n+4) (n+3) k:=λk A e=>by rcases e with rfl|rfl|rfl<;>omega
  have aSC:bs<n:=by
   have:=Į _ _ qb0;rcases ir bs n with e|e
   ·exact e
   ·exfalso;have hb:=Į _ _ qb2;have hb:bs<w2.heap.size:=hb;have:bs=n:=by omega
    subst this;have:=gz.out.at (i:=0) rfl;rw[this]at qb2;cases qb2
  have zD:s<n:=by have:=BF.blk.lt;omega
  have L:aj (·=st) w W:=gB.trans' h (λi hi e=>by rcases e with e|e|e<;>omega);exact⟨L,⟨gst.aA h (no st (by omega)),hS.ah.aA L aAM GQ,hS.refs.block (L.block mr hS.refs.lt Rl)⟩,h.bB qb0 (no _ aSC),h.bB qs0 (no _ zD)⟩
 clear Jm;simp only[cY,cf,cg];have hJ0:RJ W0 n (n+4) (n+3) rc [] (λk=>rF n (n+4) (n+3) k\/(Value.slice none 0 0).ownBlock=some k) W0:=⟨⟨_,rfl,gz0,World.ownsRow_nil _ _ _ _⟩,aj.refl _ _,gl,gD⟩
 refine Kc (l:=n+4) (g:=87) (lb:=#[.pointer (some ⟨bs,0,none⟩)]) (b1:=n+1) (b2:=n+2) (B0:=W0.heap.size) (N:=Sp.fuel S []) (id:=id.data.toList) (beh:=Sp.names S [])
  (h2:=RJ W0 n (n+4) (n+3) rc) (Jx:=λ_ _ _=>False) (F:=λk=>rF n (n+4) (n+3) k\/(Value.slice none 0 0).ownBlock=some k) ?who (by have:id.data.toList.length=id.size:=rfl;unfold maxLen;omega) rfl hJ0 (λk A=>by rcases A with A|A;exact tP k A;cases A) (Ef S [] id.data.toList) ?done (λ_ _ _ _ e=>e.elim)
 case who=>
  refine⟨λpre F W W' T hJ L hT=>hJ.keep tP (aI _) L hT,λpre F W hJ=>?_,λargs w=>Tq.call87 args w,λpre F W k hJ A=>?_,Li fT,?_,fT.2.2⟩
  ·have n4:¬rF n (n+4) (n+3) (n+1):=by rintro(e|e|e)<;>omega
   have n5:¬rF n (n+4) (n+3) (n+2):=by rintro(e|e|e)<;>omega
   exact⟨(g8.aA hJ.aA n4).at rfl,(g9.aA hJ.aA n5).at rfl,hJ.aA.size⟩
  ·obtain⟨_,q1,q2,q3⟩:=hcW hJ.aA;exact(aIe W bs s st mo mr 1 S k q1 A q2 q3).mono λe U ⟨v,V,J,h3⟩=>⟨v,V,Qm.of J,h3⟩
  ·intro pre x F W fi hJ hp Mj go stop;obtain⟨r1,r2,r3,r4,r5,r6,r7⟩:=RC.out;obtain⟨⟨v,Mu,hb,tM⟩,vx,hl,hD⟩:=hJ;refine⟨_,_,_,_,FJ hl r5,?_⟩;rw[r3,r4,r6,r7,round_eq];simp only[bo,cE,cj];have hx6:x.length<=1000000:=by
    have:x∈Sp.reach S [] id.data.toList:=hp.subset (by simp);rcases aEF fT this with e|e
    ·have:id.data.toList.length=id.size:=rfl;rw[e];omega
    ·omega
   have Nx:=z40 (vA Mu (vA hb (vA tM (vA vx (vA hl (vA hD (vA (vA r1 r2) tP)))))));have cb:aj (rF n (n+4) (n+3)) W0 (W.putObj (n+4) (.loop {rc with state:=.busy})):=cK vx (.inl (.inr (.inl rfl))) _;have bb:aM (W.putObj (n+4) (.loop {rc with state:=.busy})) n #[v] 34 (0,0):=by unfold aM;rw[aJ,aX (by omega)];exact hb
   have rb:(W.putObj (n+4) (.loop {rc with state:=.busy})).ownsRow W0.heap.size 9 1 v pre.length (pre.map av):=(rM (T:=λk=>k=n+4) _ rfl _).ownsRow tM (λk A e=>by have:=(tM.lt k A).1;omega);have G0:pre.length<1000000:=by have V:=hp.length_le;have J:(Ew (Sp.names S []) (Sp.fuel S []) [id.data.toList] [id.data.toList]).length<=1000000:=aCx S fT id.data.toList;simp only[b9,bt,dt]at V;omega
   have hgo:=z40 go;have h1:=z40 (vA r1 hl);have Wsz:W0.heap.size<=W.heap.size:=vx.size;clear go stop hp Mu hb tM vx hl hD r1 r2 r3 r4 r5 r6 r7 BF hS aAM aAR wo h0 hF GX fT hid GQ Rl PM hbs gz0 gst gB qb0 qs0 hcW hJ0 gD gl g8 g9 tP RC Mj qi2 qb2 qs2 c2 aEo gz;refine D.rh λR I=>?_;go_wp2_with fail;refine I.out _ _ ?_;clear I R;refine D.begin h1.out.2 h1.out.1 ?_;have Cl:=z40 (λW=>aIF ⟨x.toArray⟩ W (by rw[<-dx];exact hx6));have szb:(W.putObj (n+4) (.loop {rc with state:=.busy})).heap.size=W.heap.size:=ī ..;have cX:Hid (aj (λ_=>False) (W.putObj (n+4) (.loop {rc with state:=.busy})) (W.putObj (n+4) (.loop {rc with state:=.busy}))):=z40 (aj.refl _ _);obtain⟨Wb,GR⟩:∃Wb,Wb=W.putObj (n+4) (.loop {rc with state:=.busy}):=⟨_,rfl⟩
   rw[<-GR]at cb bb rb szb cX ⊢;have hn:=z40 (vA cb (vA bb rb));replace GR:=z40 GR;have A:Wb.cell? ⟨n,0,none⟩=some v:=bb.at rfl;have Zg:n<Wb.heap.size:=bb.lt;clear cb bb rb;refine D.block (D.drawn aLn rfl λR I=>?_);replace I:=z40 I;obtain⟨i0,wW,xr,xU,ya⟩:=info_parts aIL;refine wpAny_of_held (S:=λ_=>True) _ _ _ _ ?_;refine Ģ (rs:=[0,1]) xj (by simp) (Ħ (o:=_) rfl (λK hK=>?_) (Ħ (o:=_) rfl (λK hK=>?_) Ĥ))
   ·simp only[cR,cJ,cL]
    go_simp
    refine hK.out _ _ trivial (λ_=>?_);clear hK K
    try simp only[Act.put,bo,cj,cE]
    refine Ģ (rs:=[1]) xj (by simp) (Ħ (o:=_) rfl (λK hK=>?_) Ĥ);simp only[cR,cJ,cL]
    go_simp
    refine hK.out _ _ trivial (λ_=>?_);clear hK K
    try simp only[Act.put,bo,cj,cE]
    refine Ģ (rs:=[2]) xj (by simp) (Ħ (o:=_) rfl (λK hK=>?_) Ĥ);simp only[cR,cJ,cL]
    go_simp
    go_at_call 89
    refine(Cl.out _).mono ?_;rintro e W4 ⟨rfl,h4⟩;have H4:=z40 (aj.trans (S:=λ_=>False) (aj.refl _ Wb).drew h4);have s4:Wb.heap.size<=W4.heap.size:=h4.size;clear h4;refine hK.out _ _ trivial (λ_=>?_);clear hK K
    try simp only[Act.put,bo,cj,cE]
    refine Ģ (rs:=[3]) xj (by simp) (Ħ (o:=_) rfl (λK hK=>?_) Ĥ);simp only[cR,cJ,cL]
    go_simp
    refine hK.out _ _ trivial (λ_=>?_);clear hK K
    try simp only[Act.put,bo,cj,cE]
    refine Ģ (rs:=[4]) xj (by simp) (Ħ (o:=_) rfl (λK hK=>?_) Ĥ);simp only[cR,cJ,cL];rw[bk (by rfl)];refine ĥ (P:=Tq.prog) _ (.tmp 21) (.tmp 24) 34 ?Bc W0.heap.size 9 i0 (.string ByteArray.empty) 1 16 ((Tq.underlying 34).trans underlying34) wW xr xU ya rfl d40 v pre.length (pre.map av) ?Aw ((H4.out.ownsRow (hn.out.2.2) (λ_ _ e=>e)).alloc _) ⟨W4.heap.size,0,none⟩ 1 1 [av x] ?Bx rfl (Ĭ (cs:=#[av x]) (t:=9) (fr:=(0,0)) (Ĩ W4 _)) (by simp[Value.oneCell',av]) d40 (by unfold maxLen;omega) (by omega) (by rw[Ī];omega) _ rfl ?aUa
    case Bc=>rfl
    case Aw=>rfl
    case Bx=>rfl
    intro g cap w6 Mv tR wx aO9;refine hK.out _ _ trivial (λ_=>?_);clear hK K
    try simp only[Act.put,bo,cj,cE]
    have h6:w6.heap[n]? =W4.heap[n]? :=(tR.block n (by rw[Ī];omega) (λe=>by have:=(hn.out.2.2.lt n e.symm).1;omega)).trans (ħ W4 _ (by omega));have Hk:w6.heap[n]? =some (.cells #[v] 34 (0,0)):=h6.trans (aM.aA (S:=λ_=>False) hn.out.2.1 H4.out (λe=>e));have c6:w6.cell? ⟨n,0,none⟩=some v:=aM.at (xs:=#[v]) (t:=34) (fz:=(0,0)) Hk rfl;have f6:w6.frozen? ⟨n,0,none⟩=false:=aM.frozen (xs:=#[v]) (t:=34) (fz:=(0,0)) Hk (.inr (aI _));refine Ģ (rs:=[5]) xj (by simp) (Ħ (o:=_) rfl (λK hK=>?_) Ĥ);simp only[cR,cJ,cL]
    go_simp
    refine hK.out _ _ trivial (λ_=>?_);clear hK K
    try simp only[Act.put,bo,cj,cE]
    refine ġ xj ?_ _;refine I.out _ _ ?_;obtain⟨q1,q2,q3,q4,q5,q6,q7,q8⟩:=Nx.out;have cX:aj (λ_=>False) (W.putObj (n+4) (.loop {rc with state:=.busy})) (W4.alloc (.cells #[av x] 9)):=by rw[<-GR.out];exact aj.alloc (H4.out) _
    obtain⟨z1,F',z2,z3,z4⟩:=RJ.next q1 q2 q3 q4 q5 q6 (by omega) q7 q8 cX Mv tR (by rcases wx with e|e;exact .inl e.symm;exact .inr (dv some e));exact D.inBlock (D.Db z1 (hgo.out F' _ z2 z3 z4))
   ·simp only[cR,cJ,cL]
    go_simp
    refine hK.out _ _ trivial (λ_=>?_);clear hK K
    try simp only[Act.put,bo,cj,cE]
    refine Ģ (rs:=[0,2]) xj (by simp) (Ħ (o:=_) rfl (λK hK=>?_) (Ħ (o:=_) rfl (λK hK=>?_) Ĥ))
    ·simp only[cR,cJ,cL]
     go_simp
     refine hK.out _ _ trivial (λ_=>?_);clear hK K
     try simp only[Act.put,bo,cj,cE]
     refine Ģ (rs:=[2]) xj (by simp) (Ħ (o:=_) rfl (λK hK=>?_) Ĥ);simp only[cR,cJ,cL]
     go_simp
     go_at_call 89
     refine(Cl.out _).mono ?_;rintro e W4 ⟨rfl,h4⟩;have H4:=z40 (aj.trans (S:=λ_=>False) (aj.refl _ Wb).drew h4);have s4:Wb.heap.size<=W4.heap.size:=h4.size;clear h4;refine hK.out _ _ trivial (λ_=>?_);clear hK K
     try simp only[Act.put,bo,cj,cE]
     refine Ģ (rs:=[3]) xj (by simp) (Ħ (o:=_) rfl (λK hK=>?_) Ĥ);simp only[cR,cJ,cL]
     go_simp
     refine hK.out _ _ trivial (λ_=>?_);clear hK K
     try simp only[Act.put,bo,cj,cE]
     refine Ģ (rs:=[4]) xj (by simp) (Ħ (o:=_) rfl (λK hK=>?_) Ĥ);simp only[cR,cJ,cL];rw[bk (by rfl)];refine ĥ (P:=Tq.prog) _ (.tmp 21) (.tmp 24) 34 ?Ax W0.heap.size 9 i0 (.string ByteArray.empty) 1 16 ((Tq.underlying 34).trans underlying34) wW xr xU ya rfl d40 v pre.length (pre.map av) ?yB ((H4.out.ownsRow (hn.out.2.2) (λ_ _ e=>e)).alloc _) ⟨W4.heap.size,0,none⟩ 1 1 [av x] ?yi rfl (Ĭ (cs:=#[av x]) (t:=9) (fr:=(0,0)) (Ĩ W4 _)) (by simp[Value.oneCell',av]) d40 (by unfold maxLen;omega) (by omega) (by rw[Ī];omega) _ rfl ?aT9
     case Ax=>rfl
     case yB=>rfl
     case yi=>rfl
     intro g cap w6 Mv tR wx aO9;refine hK.out _ _ trivial (λ_=>?_);clear hK K
     try simp only[Act.put,bo,cj,cE]
     have h6:w6.heap[n]? =W4.heap[n]? :=(tR.block n (by rw[Ī];omega) (λe=>by have:=(hn.out.2.2.lt n e.symm).1;omega)).trans (ħ W4 _ (by omega));have Hk:w6.heap[n]? =some (.cells #[v] 34 (0,0)):=h6.trans (aM.aA (S:=λ_=>False) hn.out.2.1 H4.out (λe=>e));have c6:w6.cell? ⟨n,0,none⟩=some v:=aM.at (xs:=#[v]) (t:=34) (fz:=(0,0)) Hk rfl;have f6:w6.frozen? ⟨n,0,none⟩=false:=aM.frozen (xs:=#[v]) (t:=34) (fz:=(0,0)) Hk (.inr (aI _));refine Ģ (rs:=[5]) xj (by simp) (Ħ (o:=_) rfl (λK hK=>?_) Ĥ);simp only[cR,cJ,cL]
     go_simp
     refine hK.out _ _ trivial (λ_=>?_);clear hK K
     try simp only[Act.put,bo,cj,cE]
     refine ġ xj ?_ _;refine I.out _ _ ?_;obtain⟨q1,q2,q3,q4,q5,q6,q7,q8⟩:=Nx.out;have cX:aj (λ_=>False) (W.putObj (n+4) (.loop {rc with state:=.busy})) (W4.alloc (.cells #[av x] 9)):=by rw[<-GR.out];exact aj.alloc (H4.out) _
     obtain⟨z1,F',z2,z3,z4⟩:=RJ.next q1 q2 q3 q4 q5 q6 (by omega) q7 q8 cX Mv tR (by rcases wx with e|e;exact .inl e.symm;exact .inr (dv some e));exact D.inBlock (D.Db z1 (hgo.out F' _ z2 z3 z4))
    ·simp only[cR,cJ,cL]
     go_simp
     go_at_call 89
     refine(Cl.out _).mono ?_;rintro e W4 ⟨rfl,h4⟩;have H4:=z40 (aj.trans (S:=λ_=>False) (aj.refl _ Wb).drew h4);have s4:Wb.heap.size<=W4.heap.size:=h4.size;have hk4:W4.cell? ⟨n,0,none⟩=some v:=h4.bB (p:=⟨n,0,none⟩) A (λe=>e);have GN:n<W4.heap.size:=Į _ _ hk4;clear h4;refine hK.out _ _ trivial (λ_=>?_);clear hK K
     try simp only[Act.put,bo,cj,cE]
     refine Ģ (rs:=[0,3]) xj (by simp) (Ħ (o:=_) rfl (λK hK=>?_) (Ħ (o:=_) rfl (λK hK=>?_) Ĥ))
     ·simp only[cR,cJ,cL]
      go_simp
      refine hK.out _ _ trivial (λ_=>?_);clear hK K
      try simp only[Act.put,bo,cj,cE]
      refine Ģ (rs:=[3]) xj (by simp) (Ħ (o:=_) rfl (λK hK=>?_) Ĥ);simp only[cR,cJ,cL]
      go_simp
      refine hK.out _ _ trivial (λ_=>?_);clear hK K
      try simp only[Act.put,bo,cj,cE]
      refine Ģ (rs:=[4]) xj (by simp) (Ħ (o:=_) rfl (λK hK=>?_) Ĥ);simp only[cR,cJ,cL];rw[bk (by rfl)];refine ĥ (P:=Tq.prog) _ (.tmp 21) (.tmp 24) 34 ?ho3 W0.heap.size 9 i0 (.string ByteArray.empty) 1 16 ((Tq.underlying 34).trans underlying34) wW xr xU ya rfl d40 v pre.length (pre.map av) ?B9 ((H4.out.ownsRow (hn.out.2.2) (λ_ _ e=>e)).alloc _) ⟨W4.heap.size,0,none⟩ 1 1 [av x] ?BW rfl (Ĭ (cs:=#[av x]) (t:=9) (fr:=(0,0)) (Ĩ W4 _)) (by simp[Value.oneCell',av]) d40 (by unfold maxLen;omega) (by omega) (by rw[Ī];omega) _ rfl ?aT8
      case ho3=>rfl
      case B9=>rfl
      case BW=>rfl
      intro g cap w6 Mv tR wx aO9;refine hK.out _ _ trivial (λ_=>?_);clear hK K
      try simp only[Act.put,bo,cj,cE]
      have h6:w6.heap[n]? =W4.heap[n]? :=(tR.block n (by rw[Ī];omega) (λe=>by have:=(hn.out.2.2.lt n e.symm).1;omega)).trans (ħ W4 _ (by omega));have Hk:w6.heap[n]? =some (.cells #[v] 34 (0,0)):=h6.trans (aM.aA (S:=λ_=>False) hn.out.2.1 H4.out (λe=>e));have c6:w6.cell? ⟨n,0,none⟩=some v:=aM.at (xs:=#[v]) (t:=34) (fz:=(0,0)) Hk rfl;have f6:w6.frozen? ⟨n,0,none⟩=false:=aM.frozen (xs:=#[v]) (t:=34) (fz:=(0,0)) Hk (.inr (aI _));refine Ģ (rs:=[5]) xj (by simp) (Ħ (o:=_) rfl (λK hK=>?_) Ĥ);simp only[cR,cJ,cL]
      go_simp
      refine hK.out _ _ trivial (λ_=>?_);clear hK K
      try simp only[Act.put,bo,cj,cE]
      refine ġ xj ?_ _;refine I.out _ _ ?_;obtain⟨q1,q2,q3,q4,q5,q6,q7,q8⟩:=Nx.out;have cX:aj (λ_=>False) (W.putObj (n+4) (.loop {rc with state:=.busy})) (W4.alloc (.cells #[av x] 9)):=by rw[<-GR.out];exact aj.alloc (H4.out) _
      obtain⟨z1,F',z2,z3,z4⟩:=RJ.next q1 q2 q3 q4 q5 q6 (by omega) q7 q8 cX Mv tR (by rcases wx with e|e;exact .inl e.symm;exact .inr (dv some e));exact D.inBlock (D.Db z1 (hgo.out F' _ z2 z3 z4))
     ·simp only[cR,cJ,cL]
      go_simp
      refine hK.out _ _ trivial (λ_=>?_);clear hK K
      try simp only[Act.put,bo,cj,cE]
      refine Ģ (rs:=[0]) xj (by simp) (Ħ (o:=_) rfl (λK hK=>?_) Ĥ);simp only[cR,cJ,cL]
      go_simp
      refine hK.out _ _ trivial (λ_=>?_);clear hK K
      try simp only[Act.put,bo,cj,cE]
      refine Ģ (rs:=[4]) xj (by simp) (Ħ (o:=_) rfl (λK hK=>?_) Ĥ);simp only[cR,cJ,cL];rw[bk (by rfl)];refine ĥ (P:=Tq.prog) _ (.tmp 21) (.tmp 24) 34 ?ho4 W0.heap.size 9 i0 (.string ByteArray.empty) 1 16 ((Tq.underlying 34).trans underlying34) wW xr xU ya rfl d40 v pre.length (pre.map av) ?GP ((H4.out.ownsRow (hn.out.2.2) (λ_ _ e=>e)).alloc _) ⟨W4.heap.size,0,none⟩ 1 1 [av x] ?hx4 rfl (Ĭ (cs:=#[av x]) (t:=9) (fr:=(0,0)) (Ĩ W4 _)) (by simp[Value.oneCell',av]) d40 (by unfold maxLen;omega) (by omega) (by rw[Ī];omega) _ rfl ?aT7
      case ho4=>rfl
      case GP=>rfl
      case hx4=>rfl
      intro g cap w6 Mv tR wx aO9;refine hK.out _ _ trivial (λ_=>?_);clear hK K
      try simp only[Act.put,bo,cj,cE]
      have h6:w6.heap[n]? =W4.heap[n]? :=(tR.block n (by rw[Ī];omega) (λe=>by have:=(hn.out.2.2.lt n e.symm).1;omega)).trans (ħ W4 _ (by omega));have Hk:w6.heap[n]? =some (.cells #[v] 34 (0,0)):=h6.trans (aM.aA (S:=λ_=>False) hn.out.2.1 H4.out (λe=>e));have c6:w6.cell? ⟨n,0,none⟩=some v:=aM.at (xs:=#[v]) (t:=34) (fz:=(0,0)) Hk rfl;have f6:w6.frozen? ⟨n,0,none⟩=false:=aM.frozen (xs:=#[v]) (t:=34) (fz:=(0,0)) Hk (.inr (aI _));refine Ģ (rs:=[5]) xj (by simp) (Ħ (o:=_) rfl (λK hK=>?_) Ĥ);simp only[cR,cJ,cL]
      go_simp
      refine hK.out _ _ trivial (λ_=>?_);clear hK K
      try simp only[Act.put,bo,cj,cE]
      refine ġ xj ?_ _;refine I.out _ _ ?_;obtain⟨q1,q2,q3,q4,q5,q6,q7,q8⟩:=Nx.out;have cX:aj (λ_=>False) (W.putObj (n+4) (.loop {rc with state:=.busy})) (W4.alloc (.cells #[av x] 9)):=by rw[<-GR.out];exact aj.alloc (H4.out) _
      obtain⟨z1,F',z2,z3,z4⟩:=RJ.next q1 q2 q3 q4 q5 q6 (by omega) q7 q8 cX Mv tR (by rcases wx with e|e;exact .inl e.symm;exact .inr (dv some e));exact D.inBlock (D.Db z1 (hgo.out F' _ z2 z3 z4))
 case done=>
  intro F' W' hJ;obtain⟨hc,hL⟩:∃hc,hc=Sp.reach S [] id.data.toList:=⟨_,rfl⟩
  replace hJ:RJ W0 n (n+4) (n+3) rc (Sp.reach S [] id.data.toList) F' W':=hJ;rw[<-hL]at hJ aAR wo;have hLf:hc.length<=1000000:=by rw[hL];exact aCx S fT _
  clear hL;obtain⟨⟨v,Mu,hb,tM⟩,vx,hl,hD⟩:=hJ;refine D.IP hl (by rw[RC.out.1];simp) ?_;have cd:aj (rF n (n+4) (n+3)) W0 (W'.putObj (n+4) (.loop {rc with state:=.exhausted})):=cK vx (.inl (.inr (.inl rfl))) _;have bd:aM (W'.putObj (n+4) (.loop {rc with state:=.exhausted})) n #[v] 34 (0,0):=by unfold aM;rw[aJ,aX (by omega)];exact hb
  have Dd:(W'.putObj (n+4) (.loop {rc with state:=.exhausted})).heap[n+3]? =some (.deferred (some [])):=by rw[aJ,aX (by omega)];exact hD
  have rd:(W'.putObj (n+4) (.loop {rc with state:=.exhausted})).ownsRow W0.heap.size 9 1 v hc.length (hc.map av):=(rM (T:=λk=>k=n+4) _ rfl _).ownsRow tM (λk A e=>by have:=(tM.lt k A).1;omega);generalize W'.putObj (n+4) (.loop {rc with state:=.exhausted})=Wd at cd bd Dd rd ⊢;rw[RC.out.2.1];simp only[oy,lB,cg];refine D.inBlock ?_;obtain⟨ye,hSd,qbd,qsd⟩:=hcW cd;have k1:Wd.cell? ⟨st,0,none⟩=some (.int .i32 1):=hSd.blk.at rfl;have f1:=hSd.blk.frozen (i:=0) (.inr (aI _));have c3:aj (λ_=>False) w (Wd.setCell ⟨st,0,none⟩ (.int .i32 0)):=by have xb:=hSd.blk.set 0 (.int .i32 0);simp only[bo,cj]at xb;exact still hS.blk xb (aj.setCell (S:=λk=>k=st) ye (p:=⟨st,0,none⟩) (.inl rfl) _)
  have b3:aM (Wd.setCell ⟨st,0,none⟩ (.int .i32 0)) n #[v] 34 (0,0):=bd.other (p:=⟨st,0,none⟩) (show n≠st by omega) _;have D3:(Wd.setCell ⟨st,0,none⟩ (.int .i32 0)).heap[n+3]? =some (.deferred (some [])):=(Below.heap_setCell _ ⟨st,0,none⟩ _ _ (show n+3≠st by omega)).trans Dd;have r3:(Wd.setCell ⟨st,0,none⟩ (.int .i32 0)).ownsRow W0.heap.size 9 1 v hc.length (hc.map av):=(aj.setCell (S:=λk=>k=st) (aj.refl _ Wd) (p:=⟨st,0,none⟩) (.inl rfl) _).ownsRow rd (λk A e=>by have:=(rd.lt k A).1;omega);have hJ3:=GX _ _ _ _ _ h0 c3 (λk e _=>e.elim);have hF3:∀k,F k->k<n:=λk A=>by have:=hF k A;have:=Q.out;omega
  obtain⟨pv,cv,rfl⟩:∃p c,v=.slice p hc.length c:=by
   rcases r3.2 with⟨e,e0⟩|⟨g,cap,cur,e,_⟩
   ·exact⟨none,0,by rw[e,e0]⟩
   ·exact⟨_,_,e⟩
  have hvn:∀k,(Value.slice pv hc.length cv).ownBlock=some k->n+5<=k:=λk A=>by have:=(r3.lt k A).1;omega
  have Z:=z40 (vA hJ3 (vA hF3 (vA r3 (vA D3 (vA hvn (vA aAR (vA wo (vA GX (vA c3 b3)))))))));clear hJ3 hF3 r3 D3 hvn aAR wo GX c3 b3 bd Dd rd cd ye hSd hb tM vx hl hD BF hS aAM h0 hF fT hid GQ Rl PM hbs gz0 gst gB qb0 qs0 hcW hJ0 gD gl g8 g9 tP qi2 qb2 qs2 gz c2 aEo hv hr RC W' F' Mu;refine D.seq (D.rh λR I=>?_);go_wp2_with fail;refine(aD5 st 0 Wd k1 f1).mono ?_;rintro e W1 ⟨rfl,rfl⟩;go_wp2_with fail;refine I.out _ _ ?_;clear I R k1 f1 qsd qbd;obtain⟨hJ3,hF3,r3,D3,hvn,aAR,wo,GX,c3,b3⟩:=Z.out;generalize Wd.setCell ⟨st,0,none⟩ (.int .i32 0)=W3 at hJ3 r3 D3 c3 b3 ⊢;have k3:W3.cell? ⟨n,0,none⟩=some (.slice pv hc.length cv):=b3.at rfl;have B9:n<W3.heap.size:=b3.lt;have hD3:n+3<W3.heap.size:=lt_of_block D3;have Z:=z40 (vA hJ3 (vA hF3 (vA r3 (vA D3 (vA hvn (vA aAR (vA wo GX)))))));clear hJ3 hF3 r3 D3 hvn aAR wo GX c3 b3;refine D.seq (D.rh λR I=>?_);go_wp2_with fail;refine I.out _ _ ?_;clear I R;clear k3;refine D.block ?_;refine D.while (m:=hc.length) (λm U a=>∃(i:Nat) (F1:Nat->Prop),a={tmps:=#[.func (.yield l) #[] #[],.pointer (some ⟨bi,0,none⟩),.pointer (some ⟨bs,0,none⟩),O a 3,O a 4,O a 5,O a 6,O a 7,O a 8,O a 9,O a 10,O a 11,O a 12,O a 13,O a 14,O a 15,O a 16,O a 17,O a 18,O a 19,O a 20,O a 21,O a 22,O a 23,O a 24,O a 25,O a 26,O a 27,O a 28,O a 29,O a 30,O a 31,O a 32,.slice pv hc.length cv,.int .i64 (hc.length:Nat),.int .i64 (i:Nat),O a 36,O a 37,O a 38,O a 39,O a 40,O a 41,O a 42,O a 43],defers:=[{target:=.collected (n+3),args:=#[]}]}/\i+m=hc.length/\h2 (hc.take i) F1 U/\U.ownsRow W0.heap.size 9 1 (.slice pv hc.length cv) hc.length (hc.map av)/\U.heap[n+3]? =some (.deferred (some []))/\(∀k,F1 k->(Value.slice pv hc.length cv).ownBlock≠some k/\k≠n+3)/\n+3<U.heap.size)
   ⟨0,F,rfl,by omega,Z.out.1,Z.out.2.2.1,Z.out.2.2.2.1,λk A=>⟨λe=>by have:=Z.out.2.1 k A;have:=Z.out.2.2.2.2.1 k e;omega,by have:=Z.out.2.1 k A;omega⟩,hD3⟩ ?_
  rintro m wr a ⟨i,F1,ha,him,hJ1,E4,hD1,My,Aw⟩ again;obtain⟨x,E⟩:∃x,x=O a:=⟨_,rfl⟩
  rw[<-E]at ha;clear E;subst ha;by_cases hiL:i<hc.length
  ·obtain⟨y,hy⟩:∃y,hc[i]? =some y:=⟨_,bU hiL⟩
   obtain⟨pa,ca,e,uz⟩:=IK E4 hy;injection e with e1 e2 e3;subst e1 e3;replace uz:wr.cell? (pa.add i)=some (.string ⟨y.toArray⟩):=uz;have qw:((i:Int)<(hc.length:Int))=True:=ie (by omega);have uI:hc.take (i+1)=hc.take i++[y]:=by rw[fg,hy];rfl
   have hp:hc.take i++[y]<+:hc:=uI▸List.take_prefix _ _;have G:=z40 (vA again (vA hJ1 (vA E4 (vA hD1 (vA My hp)))));clear again hJ1 E4 hD1 My hp hy;refine D.seq (D.rh λR I=>?_);go_wp2_with fail;refine I.out _ _ ?_;clear I R;refine D.seq (D.cond rfl (D.skip (D.seq (D.block (D.seq (D.rh λR I=>?_))))));go_wp2_with fail;refine I.out _ _ ?_;clear I R;clear uz;refine D.seq (D.pre (l:=[_,_]) (r:=[_,_]) rfl λR I=>?_);replace I:=z40 I;go_wp2_with fail;refine I.out _ _ ?_;clear I R;obtain⟨again,hJ1,E4,hD1,My,hp⟩:=G.out;obtain⟨_,_,_,_,hvn,aAR,wo,GX⟩:=Z.out;have Fy:=(E4.lt · ·)
   refine D.aAZ (args:=#[av y]) _ rfl rfl rfl (λr Y=>?E) (aAR _ y F1 wr _ hJ1 hp ?go)
   case E=>
    simp[execOp,resolve,invoke,go_sem];exact Y
   case go=>
    intro F2 W2 hJ2 A4 hF2;have B8:=A4.ownsRow E4 (λk A e=>(My k e).1 A);have hD2:W2.heap[n+3]? =some (.deferred (some [])):=(A4.block _ Aw (λe=>(My _ e).2 rfl)).trans hD1;have hF3:∀k,F2 k->(Value.slice (some pa) hc.length cv).ownBlock≠some k/\k≠n+3:=λk A=>by
     rcases(hF2 k A).1 with e|e
     ·exact My k e
     ·exact⟨λe'=>by have:=(E4.lt k e').2;omega,by omega⟩
    have yB:n+3<W2.heap.size:=eJ Aw A4.size;have hn:=z40 (vA again (vA hJ2 (vA B8 (vA hD2 hF3))));clear again hJ1 E4 hD1 My hp hJ2 A4 hF2 B8 hD2 hF3 hvn aAR wo GX;refine D.called 41 rfl ?_;simp only[bo,cE,cj];refine D.post 3 rfl rfl λR I=>?_;replace I:=z40 I;simp only[cf,cg,lz,oX];go_wp2_with fail;refine I.out _ _ ?_;clear I R;refine D.cond rfl (D.skip (D.inBlock (D.rh λR I=>?_)));go_wp2_with fail;refine I.out _ _ ?_;clear I R;exact hn.out.1 (m - 1) _ _ (by omega) ⟨i+1,F2,rfl,by omega,by rw[uI];exact hn.out.2.1,hn.out.2.2.1,hn.out.2.2.2.1,hn.out.2.2.2.2,yB⟩
  ·obtain⟨rfl,rfl⟩:i=hc.length/\m=0:=⟨by omega,by omega⟩
   have qw:((hc.length:Int)<(hc.length:Int))=False:=gO (by omega);obtain⟨_,_,_,_,_,_,wo,GX⟩:=Z.out;rw[fM]at hJ1;have hD:=z40 (wo _ _ (GX _ _ _ (wr.putObj (n+3) (.deferred none)) (λk=>k=n+3) hJ1 (rM (T:=λk=>k=n+3) _ rfl _) (λk e _=>by subst e;exact⟨by have:=Q.out;omega,λe=>(My _ e).2 rfl⟩)));clear again hJ1 E4 My wo GX Z;refine D.seq (D.rh λR I=>?_);go_wp2_with fail;refine I.out _ _ ?_;clear I R;refine D.seq (D.cond rfl (D.exit rfl (D.fin rfl (D.Ia (LV:=n+3) rfl rfl hD1 ?_))));exact D.back (v:=.tuple #[]) rfl rfl rfl Tq.func85 (results_none rfl _ _ _) hD.out
def aIb(p:Addr)(id:ByteArray)(w:World):Calls Tq.prog 52 #[.pointer (some p),.string id] w λe U=>e=.returned (.func (.func 85) #[] #[.pointer (some ⟨w.heap.size+1,0,none⟩),.pointer (some ⟨w.heap.size,0,none⟩)])/\U=(w.alloc (.cells #[.pointer (some p)] 26)).alloc (.cells #[.string id] 9):=by go_enter Tq.func52,ntmps52;go_wp2_with fail;go_ret;exact⟨rfl,rfl⟩
def aDU(w:World)(s st lk mo mr:Nat)(m:Int)(cb:Value)(rs:List Nat)(S:St)(id:ByteArray)(BF:Sr w s st lk m cb rs)(hS:qZ w st mo mr 0 S)(hz:(id.toList==[48,48,48,48,48,48,48,48])=false)(hid:id.size<=1000000)(fT:AP S [])(Zy:(Sp.reach S [] id.data.toList).length<1000):
 Calls Tq.prog 36 #[aG s,.string id,.int .i64 0] w λe U=>∃v,e=.returned v/\U.ownsRow w.heap.size 9 1 v (Sp.reach S [] id.data.toList).length ((Sp.reach S [] id.data.toList).map av)/\aj (λ_=>False) w U:=by
 refine nA λcs=>?_;unfold aG;refine D.enter Tq.func36 rfl ?_;simp only[ntmps36,eC,bt,dt,Nat.reduceAdd,Nat.reduceSub,dC,dK,eI,cY,cg,cf];have hv:=z40 (vA BF (vA hS (vA hz (vA hid (vA fT Zy)))));clear BF hS hz hid fT Zy;refine D.seq (D.rh λR I=>?_);go_wp2_with fail;refine I.out _ _ ?_;clear I R;refine D.seq (D.rh λR I=>?_);go_wp2_with fail;refine I.out _ _ ?_;clear I R;have Wk:=z40 (λp k W=>aIb p k W);refine D.seq (D.seq (D.rh λR I=>?_));go_wp2_with fail;refine(Wk.out _ _ _).mono ?_;rintro e W1 ⟨rfl,rfl⟩;go_wp2_with fail;refine I.out _ _ ?_;clear I R Wk;refine D.block ?_;refine D.X7 rfl rfl (λargs w=>Tq.call85 args w) ?_;intro W0 rc r1 r2 r3 r4 r5 r6 r7 xo;have RC:=z40 (vA r1 (vA r2 (vA r3 (vA r4 (vA r5 (vA r6 r7))))));clear r1 r2 r3 r4 r5 r6 r7;obtain⟨n,Q⟩:∃n,n=w.heap.size:=⟨_,rfl⟩
 simp only[Ī,<-Q,ft,Nat.reduceAdd]at xo ⊢;have cA:aj (λ_=>False) w W0:=by rw[xo];exact(((((((aj.refl _ w).alloc _).alloc _).alloc _).alloc _).alloc _).alloc _)
 have g0:aM W0 n #[.int .i64 0] 3 (0,0):=by unfold aM;rw[xo];simp only[aO,Ī];repeat (first|rw[bk trivial]|rw[aX (by omega)]|rw[bk (by omega)])
 have g1:aM W0 (n+1) #[.slice none 0 0] 34 (0,0):=by unfold aM;rw[xo];simp only[aO,Ī];repeat (first|rw[bk trivial]|rw[aX (by omega)]|rw[bk (by omega)])
 have g2:aM W0 (n+2) #[.pointer (some ⟨s,0,none⟩)] 26 (0,0):=by unfold aM;rw[xo];simp only[aO,Ī];repeat (first|rw[bk trivial]|rw[aX (by omega)]|rw[bk (by omega)])
 have g3:aM W0 (n+3) #[.string id] 9 (0,0):=by unfold aM;rw[xo];simp only[aO,Ī];repeat (first|rw[bk trivial]|rw[aX (by omega)]|rw[bk (by omega)])
 have gD:W0.heap[n+4]? =some (.deferred (some [])):=by rw[xo];simp only[aO,Ī];repeat (first|rw[bk trivial]|rw[aX (by omega)]|rw[bk (by omega)])
 have gl:W0.heap[n+5]? =some (.loop rc):=by rw[xo];simp only[aO,Ī];repeat (first|rw[bk trivial]|rw[aX (by omega)]|rw[bk (by omega)])
 have gs:W0.heap.size=n+6:=by rw[xo];simp only[Ī];omega
 clear xo;have tP:∀k,rF (n+1) (n+5) (n+4) k->k<W0.heap.size:=λk A=>by rw[gs];rcases A with rfl|rfl|rfl<;>omega
 obtain⟨BF,hS,hz,hid,fT,Zy⟩:=hv.out;have Hj:=hS.aA cA (Safe.none _) (λe=>e) (λe=>e) (λe=>e);have aLM:=BF.aA cA (λe=>e) (λ_ _ e=>e);have aR6:st<n:=by have:=hS.blk.lt;omega
 replace Q:=z40 Q;simp only[cY,cf,cg];refine aIa (l:=n+5) (h2:=RJ W0 (n+1) (n+5) (n+4) rc) (F:=λk=>rF (n+1) (n+5) (n+4) k\/(Value.slice none 0 0).ownBlock=some k) W0 s st lk mo mr (n+3) (n+2) m cb rs S id aLM Hj (g3.at rfl) (g2.at rfl) (by omega) (by omega) hz hid fT ⟨⟨_,rfl,g1,World.ownsRow_nil _ _ _ _⟩,aj.refl _ _,gl,gD⟩ (λpre F W W' T hJ L hT=>hJ.keep tP (aI _) L hT) (λk A=>by rcases A with A|A;exact tP k A;cases A) ?who ?done
 case who=>
  intro pre x F W fi hJ hp go;obtain⟨r1,r2,r3,r4,r5,r6,r7⟩:=RC.out;obtain⟨⟨v,Mu,hb,tM⟩,vx,hl,hD⟩:=hJ;refine⟨_,_,_,_,FJ hl r5,?_⟩;rw[r3,r4,r6,r7,round_eq];simp only[bo,cE,cj,<-Q.out,ft,Nat.reduceAdd];have Nx:=z40 (vA Mu (vA hb (vA tM (vA vx (vA hl (vA hD (vA (vA r1 r2) tP)))))));have cb:aj (rF (n+1) (n+5) (n+4)) W0 (W.putObj (n+5) (.loop {rc with state:=.busy})):=cK vx (.inl (.inr (.inl rfl))) _;have bb:aM (W.putObj (n+5) (.loop {rc with state:=.busy})) (n+1) #[v] 34 (0,0):=by unfold aM;rw[aJ,aX (by omega)];exact hb
  have rb:(W.putObj (n+5) (.loop {rc with state:=.busy})).ownsRow W0.heap.size 9 1 v pre.length (pre.map av):=(rM (T:=λk=>k=n+5) _ rfl _).ownsRow tM (λk A e=>by have:=(tM.lt k A).1;omega);have b0:aM (W.putObj (n+5) (.loop {rc with state:=.busy})) n #[.int .i64 0] 3 (0,0):=g0.aA cb (by rintro(e|e|e)<;>omega);have G0:pre.length+1<1000:=by have V:=hp.length_le;simp at V;omega
  have hgo:=z40 go;have h1:=z40 (vA r1 hl);have Wsz:W0.heap.size<=W.heap.size:=vx.size;have szb:(W.putObj (n+5) (.loop {rc with state:=.busy})).heap.size=W.heap.size:=ī ..;clear go hp Mu hb tM vx hl hD r1 r2 r3 r4 r5 r6 r7 BF hS hid fT hz Zy aLM Hj aR6 g0 g1 g2 g3 gD gl cb RC hv tP cA;refine D.rh λR I=>?_;go_wp2_with fail;refine I.out _ _ ?_;clear I R;refine D.begin h1.out.2 h1.out.1 ?_;have cX:Hid (∀o,aj (λ_=>False) (W.putObj (n+5) (.loop {rc with state:=.busy})) ((W.putObj (n+5) (.loop {rc with state:=.busy})).alloc o)):=z40 λo=>(aj.refl _ _).alloc o;obtain⟨Wb,GR⟩:∃Wb,Wb=W.putObj (n+5) (.loop {rc with state:=.busy}):=⟨_,rfl⟩
  rw[<-GR]at bb rb b0 szb cX ⊢;replace GR:=z40 GR;have A:Wb.cell? ⟨n+1,0,none⟩=some v:=bb.at rfl;have hf:Wb.frozen? ⟨n+1,0,none⟩=false:=bb.frozen (i:=0) (.inr (aI _));have aSn:n<Wb.heap.size/\n+1<Wb.heap.size:=⟨b0.lt,bb.lt⟩
  have aYj:W0.heap.size<=Wb.heap.size:=by rw[szb];exact Wsz
  clear szb Wsz;obtain⟨i0,wW,xr,xU,ya⟩:=info_parts aIL;have Rb:=z40 (vA rb (vA bb b0));have vn:∀k,v.ownBlock=some k->W0.heap.size<=k:=λk A=>(rb.lt k A).1;replace vn:=z40 vn;clear rb bb b0;unfold av;refine D.block (D.seq (D.pre (l:=[_,_,_]) (r:=[_,_]) rfl λR I=>?_));replace I:=z40 I;go_wp2_with fail;refine I.out _ _ ?_;clear I R;refine D.post 3 rfl rfl λR I=>?_;replace I:=z40 I;simp only[cf,cg,lz,oX];refine wpList_append_own_at _ rfl (.tmp 13) (.tmp 15) 34 rfl W0.heap.size 9 i0 (.string ByteArray.empty) 1 16 ((Tq.underlying 34).trans underlying34) wW xr xU ya rfl d40 v pre.length (pre.map av) rfl (Rb.out.1.alloc _) ⟨Wb.heap.size,0,none⟩ 1 1 [av x] rfl rfl (cell_one_new _ _ _) (by intro u hu;obtain rfl:=bW.1 hu;rfl) (by unfold maxLen;omega) (by omega) (by rw[Ī];omega) ?_;intro v' w5 pK tR yn zj;have F5:=z40 (vA pK (vA tR zj));clear yn zj;have c6:w5.cell? ⟨n+1,0,none⟩=some v:=tR.cell (a:=⟨n+1,0,none⟩) (((aj.refl (λ_=>False) Wb).alloc _).bB A (λe=>e)) (λe=>by have:=vn.out (n+1) e.symm;omega);have f6:w5.frozen? ⟨n+1,0,none⟩=false:=(ĭ (tR.block (n+1) (by rw[Ī];omega) (λe=>by have:=vn.out (n+1) e.symm;omega))).trans ((((aj.refl (λ_=>False) Wb).alloc _).frozen (p:=⟨n+1,0,none⟩) aSn.2 (λe=>e)).trans hf);have c0:w5.cell? ⟨n,0,none⟩=some (.int .i64 0):=tR.cell (a:=⟨n,0,none⟩) (((aj.refl (λ_=>False) Wb).alloc _).bB (Rb.out.2.2.at (i:=0) rfl) (λe=>e)) (λe=>by have:=vn.out n e.symm;omega);obtain⟨g5,aIG,rfl⟩:∃g c,v'=.slice (some ⟨g,0,none⟩) (pre.length+1) c:=by
   rcases F5.out.1.2 with⟨_,e0⟩|⟨g,cap,cur,e,_⟩
   ·omega
   ·exact⟨g,cap,e⟩
  clear pK tR;go_wp2_with fail;refine I.out _ _ ?_;clear I R;obtain⟨q1,q2,q3,q4,q5,q6,q7,q8⟩:=Nx.out;have cX2:aj (λ_=>False) (W.putObj (n+5) (.loop {rc with state:=.busy})) (Wb.alloc (.cells #[av x] 9)):=by rw[<-GR.out];exact cX.out _
  obtain⟨z1,F',z2,z3,z4⟩:=RJ.next (x:=x) q1 q2 q3 q4 q5 q6 (by omega) q7 q8 cX2 F5.out.1 F5.out.2.1 F5.out.2.2;have k6:(w5.setCell ⟨n+1,0,none⟩ (.slice (some ⟨g5,0,none⟩) (pre.length+1) aIG)).cell? ⟨n+1,0,none⟩=some (.slice (some ⟨g5,0,none⟩) (pre.length+1) aIG):=World.cell?_setCell_same _ _ _ c6;have k0:(w5.setCell ⟨n+1,0,none⟩ (.slice (some ⟨g5,0,none⟩) (pre.length+1) aIG)).cell? ⟨n,0,none⟩=some (.int .i64 0):=by rw[į _ _ _ _ (λe=>by have:=dv Addr.block e;simp at this)];exact c0
  have hx:=z40 (vA z1 (vA z2 (vA z3 z4)));clear z1 z2 z3 z4 q1 q2 q3 q4 q5 q6 q7 q8 cX2 c6 f6 c0;generalize w5.setCell ⟨n+1,0,none⟩ (.slice (some ⟨g5,0,none⟩) (pre.length+1) aIG)=w6 at hx k6 k0 ⊢;have e0:((pre.length:Int)+1==0)=false:=by simp;omega
  have e1:((pre.length:Int)+1==1000)=false:=by simp;omega
  have e2:(((pre.length+1:Nat):Int)==0)=false:=by simp;omega
  have e3:(((pre.length+1:Nat):Int)==1000)=false:=by simp;omega
  refine D.seq (D.rh λR I=>?_);go_wp2_with fail;refine I.out _ _ ?_;clear I R;exact D.cond (t:=false) rfl (D.skip (D.inBlock (D.Db hx.out.1 (hgo.out F' _ hx.out.2.1 hx.out.2.2.1 hx.out.2.2.2))))
 case done=>
  intro F' W' hJ;obtain⟨⟨v,Mu,hb,tM⟩,vx,hl,hD⟩:=hJ;refine D.IP hl (by rw[RC.out.1];simp) ?_;have cd:aj (λ_=>False) w ((W'.putObj (n+5) (.loop {rc with state:=.exhausted})).putObj (n+4) (.deferred none)):=by have c1:aj (rF (n+1) (n+5) (n+4)) W0 ((W'.putObj (n+5) (.loop {rc with state:=.exhausted})).putObj (n+4) (.deferred none)):=cK (cK vx (.inl (.inr (.inl rfl))) _) (.inl (.inr (.inr rfl))) _;have Jm:=Q.out;exact cA.trans' c1 (λi hi e=>by rcases e with e|e|e<;>omega)
  have bd:aM (W'.putObj (n+5) (.loop {rc with state:=.exhausted})) (n+1) #[v] 34 (0,0):=by unfold aM;rw[aJ,aX (by omega)];exact hb
  have Dd:(W'.putObj (n+5) (.loop {rc with state:=.exhausted})).heap[n+4]? =some (.deferred (some [])):=by rw[aJ,aX (by omega)];exact hD
  have rd:((W'.putObj (n+5) (.loop {rc with state:=.exhausted})).putObj (n+4) (.deferred none)).ownsRow n 9 1 v (Sp.reach S [] id.data.toList).length ((Sp.reach S [] id.data.toList).map av):=by have r1:=(rM (T:=λk=>k=n+5) W' rfl (.loop {rc with state:=.exhausted})).ownsRow tM (λk A e=>by have:=(tM.lt k A).1;omega);have r2:=(rM (T:=λk=>k=n+4) (W'.putObj (n+5) (.loop {rc with state:=.exhausted})) rfl (.deferred none)).ownsRow r1 (λk A e=>by have:=(tM.lt k A).1;omega);exact Wi.lQ r2 (by omega)
  have Z:=z40 (vA cd (vA Dd rd));clear cd Dd rd tM vx hl hD Mu hb;generalize W'.putObj (n+5) (.loop {rc with state:=.exhausted})=Wd at Z bd ⊢;rw[RC.out.2.1];simp only[oy,lB,cg];refine D.inBlock ?_;have kd:Wd.cell? ⟨n+1,0,none⟩=some v:=bd.at rfl;clear RC hv g0 g1 g2 g3 gD gl gs tP BF hS hz hid fT Zy Hj aLM cA bd;refine D.seq (D.rh λR I=>?_);go_wp2_with fail;refine I.out _ _ ?_;clear I R;refine D.ret rfl (D.Ia (LV:=n+4) rfl rfl Z.out.2.1 ?_);exact D.left (v:=v) rfl rfl rfl rfl Tq.func36 (by rw[results_tmp (t:=6) rfl];rfl) ⟨v,rfl,Z.out.2.2,Z.out.1⟩
end De
section
open Go.Conc
namespace Re
open Tx Sp Wg Rd Bk Wi Se Rx Mp De Lo Co Ka
def aJN:ResultVar->Bool
 | .tmp _=>true
 |_=>false
def qg{l:Array ResultVar}(h:l.all aJN=true):∀r∈l,∃t,r=.tmp t:=λr Y=>by
 rw[mS]at h;have:=h r Y;cases r<;>first|exact⟨_,rfl⟩|cases this
structure Kp(T:Nat->Prop)(w U:World):Prop where
 os:U.os=w.os/\U.output=w.output
 size:w.heap.size<=U.heap.size
 keep:∀k o,w.heap[k]? =some o->¬T k->U.heap[k]? =some o
structure Fm s C w C' U:Prop where
 kp:Kp (jB s C) w U
 foot:∀k,jB s C' k->jB s C k\/w.heap.size<=k
def Fm.refl s C w:Fm s C w C w:=⟨⟨⟨rfl,rfl⟩,aI _,λ_ _ h _=>h⟩,λ_ h=>.inl h⟩
def Fm.trans{s C w C' U C'' w''}(h:Fm s C w C' U)(k:Fm s C' U C'' w''):Fm s C w C'' w'' where
 kp:=⟨⟨k.kp.os.1.trans h.kp.os.1,k.kp.os.2.trans h.kp.os.2⟩,cV h.kp.size k.kp.size,λb o hb Q=>k.kp.keep b o (h.kp.keep b o hb Q) (λe=>by
  have:=(a6.1 hb).1;rcases h.foot b e with e|e
  ·exact Q e
  ·omega)⟩
 foot b hb:=by
  rcases k.foot b hb with e|e
  ·exact h.foot b e
  ·exact .inr (cV h.kp.size e)
def Kp.row{w U v xs}{T}(h:Kp T w U){B hx z n:Nat}(X:w.ownsRow B hx z v n xs)(Q:∀k,v.ownBlock=some k->¬T k):U.ownsRow B hx z v n xs:=by
 obtain⟨hl,L⟩:=X;refine⟨hl,?_⟩;rcases L with L|⟨g,cap,cur,rfl,V,J,h3⟩
 ·exact .inl L
 ·exact .inr ⟨g,cap,cur,rfl,V,h.keep g _ J (Q g rfl),h3⟩
structure Old where
 n:Nat
 lq:Nat->Option Obj
structure Gh.Lo(Z:Gh)(ν:Old):Prop where
 ge:∀k,Z.bP k\/Z.iq k\/Z.rW k\/(Z.nch k/\Z.lq k=none)->ν.n<=k
 lq:Z.lq=ν.lq
 lt:∀k x,ν.lq k=some x->k<ν.n
def Gh.Lo.none{Z ν k}(h:Gh.Lo Z ν)(A:ν.n<=k):Z.lq k=Option.none:=by
 rw[h.lq];cases e:ν.lq k with
 |none=>rfl
 |some x=>have:=h.lt k x e;omega
section
variable {Post:Value->World->Prop}{K:Cy}{wv:World}{cs:List Frame}{ν:Old}{q:Bool}{s:Nat}{C:Cp}{m:Int}{S:Sv}
def aAn{w fz r c t jo}{Z:Gh}(h:gT w s C m S fz)(hs:Z.bP s)(Y:¬Z.bP r)(hb:w.heap[r]? =some (.cells c t jo))(ht:tyC t)(Q:r∉C.rs):¬jB s C r:=λA=>by
 rcases h.types A hb with⟨rfl,_⟩|⟨_,rfl⟩|⟨_,rfl⟩|⟨_,rfl⟩|⟨e,_⟩|rfl|rfl
 ·exact Y hs
 ·rcases ht with e|e<;>cases e
 ·rcases ht with e|e<;>cases e
 ·rcases ht with e|e<;>cases e
 ·exact Q e
 ·rcases ht with e|e<;>cases e
 ·rcases ht with e|e<;>cases e
def WV.rep{fn c args fr}(aH:K.Ok)(bY:K.Z.Wf)(vW:gT wv s C m S (1,11))(nk:∀r∈C.rs,K.Z.iq r/\¬K.Z.bP r)(hs:K.Z.bP s){f:FuncId}
 (hf:prog.funcs[f]? =some fn) (A:keep f=true) (hb:fn.body=some c) (vd:∀r∈fn.results,∃t,r=.tmp t)
 (R:Value->Cp->Sv->World->Prop) (I:∀v C' S' w U,Alike w U->R v C' S' w->R v C' S' U)
 (ve:∀fz w,(fz=(1,2)\/fz=(9,11))->Alike wv w->w.heap.size=wv.heap.size->gT w s C m S fz->Calls Tq.prog f args w λe U=>∃v C' S',e=.returned v/\R v C' S' U/\CR w s C m fz S' C' U)
 (Q:∀v C' S' U,R v C' S' U->C'.rs=C.rs->gT U s C' m S' (1,11)->Fm s C wv C' U->WV Post K U (fr.finish v) cs):WV Post K wv (Frame.enter prog f args .normal) (fr::cs):=λw X=>by
 have hz:Frz K.Z wv (1,11):=aGQ X bY;have xr:∀ψ,Frz K.Z (K.Z.rc ψ wv) (Vg ψ):=λψ r L zD=>by
  obtain⟨c,t,e,ht⟩:=hz r L zD;refine⟨c,t,?_,ht⟩;rw[oG,e];simp only[fR];rw[bk ⟨L,zD⟩]
 have tP:∀r,K.Z.iq r->¬K.Z.bP r->r<wv.heap.size:=λr L zD=>by
  obtain⟨c,t,e,_⟩:=hz r L zD;exact(a6.1 e).1
 have uG:∀ψ,(K.Z.rc ψ wv).heap.size=wv.heap.size:=λψ=>by simp[Gh.rc]
 refine WV.unit aH bY hf A hb vd (λv U=>∃C' S',R v C' S' U/\C'.rs=C.rs/\gT U s C' m S' (1,2)/\(∀k,jB s C' k->jB s C k\/wv.heap.size<=k)/\wv.heap.size<=U.heap.size/\(U.os=wv.os/\U.output=wv.output)/\∀k,k<wv.heap.size->¬jB s C k->U.heap[k]? =(K.Z.rc 0 wv).heap[k]?)
  ?_ (λτ d=>?_) (λτ d=>?_) ?_ w X
 ·rintro v U τ d ⟨C',S',V,J,h3,h4,h5,ho,h6⟩;exact⟨C',S',I _ _ _ _ _ Ex.1 V,J,h3.QZ,h4,h5,ho,h6⟩
 ·refine(ve (1,2) (re (K.Z.rc 0 wv) τ d) (.inl rfl) (λb o h hp=>xR (ψ:=0) hz d40 b o h hp) (uG 0) (gT.re (vW.rc (ψ:=0) hz d40 nk))).mono ?_;rintro e U ⟨v,C',S',rfl,V,J⟩;refine⟨v,rfl,C',S',V,J.rs,J.rep,λk A=>?_,?_,⟨J.aA.os,J.aA.output⟩,λk A hnk=>?_⟩
  ·rcases J.foot k A with e|e
   ·exact .inl e
   ·exact .inr ((uG 0)▸e)
  ·exact(uG 0)▸J.aA.size
  ·exact J.aA.block k (show k<(K.Z.rc 0 wv).heap.size by rw[uG 0];exact A) hnk
 ·refine(ve (9,11) (re (K.Z.rc 1 wv) τ d) (.inr rfl) (λb o h hp=>xR (ψ:=1) hz d40 b o h hp) (uG 1) (gT.re (vW.rc (ψ:=1) hz d40 nk))).mono ?_;rintro e U ⟨v,C',S',rfl,_⟩;exact⟨v,rfl,cq⟩
 ·rintro v U ⟨C',S',V,J,h3,h4,h5,ho,h6⟩;have hz':Frz K.Z U (1,2):=λr L zD=>by
   by_cases Y:r∈C.rs
   ·rw[<-J]at Y;obtain⟨i,hi⟩:=np.1 Y;obtain⟨x,E⟩:=oO (l:=S'.ae) (i:=i) (by rw[<-h3.len];exact(bA.1 hi).1);obtain⟨r',v',jf,wP,ye,_⟩:=h3.conn E;rw[hi]at jf;obtain rfl:=ay jf;exact⟨_,_,ye.cx.cb,.inr rfl⟩
   ·obtain⟨c,t,e,ht⟩:=xr 0 r L zD;have hl:=tP r L zD;obtain⟨c',t',e',ht'⟩:=hz r L zD;refine⟨c,t,?_,ht⟩;rw[h6 r hl (aAn vW hs zD e' ht' Y)];exact e
  have zH:Alike U (K.Z.rc 2 U):=xR hz' d40;refine Q v C' S' (K.Z.rc 2 U) (I _ _ _ _ _ zH V) J (h3.rc (ψ:=2) hz' d40 (by rw[J];exact nk)) ⟨⟨ho,?_,λk o ho hnk=>?_⟩,h4⟩
  ·have:(K.Z.rc 2 U).heap.size=U.heap.size:=by simp[Gh.rc]
   rw[this];exact h5
  ·have hl:=(a6.1 ho).1;rw[oG,h6 k hl hnk,oG,ho];by_cases L:K.Z.iq k/\¬K.Z.bP k
   ·obtain⟨c,t,e,_⟩:=hz k L.1 L.2;rw[ho]at e;obtain rfl:=ay e;simp only[fR,bk L];rfl
   ·simp only[fR,aX L]
structure bI ν q m(K:Cy)(C:Cp)(S:Sv)w:Prop where
 ok:K.Ok
 wf:K.Z.Wf
 h0:K.h=0
 b0:0<K.b
 mn:K.m=K.n
 nn:K.n=K.b+S.ae.length
 bP:K.Z.bP K.s
 Dl:S.over=false->¬K.Z.Dl K.s
 yS:∀ρ μ,K.R ρ μ
 low:∀j,0<j->j<K.b->K.σ j=none
 hi:∀j,K.n<=j->K.Z.own j=none
 Qa:∀c,K.Z.cls c->K.Z.rW c
 OQ:∀r,K.Z.Dl r->K.Z.bP r
 own:∀i r x,C.rs[i]? =some r->S.ae[i]? =some x->∃k,K.Z.own (K.b+i)=some k/\k.s=K.s/\k.r=r/\(x.over=false->K.σ (K.b+i)=some (yM k)/\¬K.Z.cls k.o)/\(x.over=true->K.σ (K.b+i)=none)
 lo:Gh.Lo K.Z ν
 rep:gT w K.s C m S (1,11)
 sw:oW q S
 ES:yE S
def bI.cns(h:bI ν q m K C S wv):∀r∈C.rs,K.Z.iq r/\¬K.Z.bP r:=λr Y=>by
 obtain⟨i,hi⟩:=np.1 Y;obtain⟨x,E⟩:=oO (l:=S.ae) (i:=i) (by rw[<-h.rep.len];exact(bA.1 hi).1);obtain⟨k,A,_,rfl,_⟩:=h.own i r x hi E;exact⟨⟨_,k,A,rfl⟩,h.wf.apart _ k A⟩
def bI.iQ{U C' m' S'}(h:bI ν q m K C S wv)(Y:C'.rs=C.rs)(vW:gT U K.s C' m' S' (1,11))(hI:oW q S')(hZ:yE S')(ho:S'.over=S.over)(hl:S'.ae.length=S.ae.length)(E:∀(i:Nat) x,S'.ae[i]? =some x->∃y,S.ae[i]? =some y/\x.over=y.over):bI ν q m' K C' S' U where
 ok:=h.ok
 wf:=h.wf
 h0:=h.h0
 b0:=h.b0
 mn:=h.mn
 nn:=hl▸h.nn
 bP:=h.bP
 Dl e:=h.Dl (ho▸e)
 yS:=h.yS
 low:=h.low
 hi:=h.hi
 Qa:=h.Qa
 OQ:=h.OQ
 lo:=h.lo
 own i r x hi hxi:=by obtain⟨y,hy,e⟩:=E i x hxi;rw[e];exact h.own i r y (Y▸hi) hy
 rep:=vW
 sw:=hI
 ES:=hZ
def XI{i x d}{l:List Cn}(E:l[i]? =some x)(ho:d.over=x.over):∀(j:Nat) y,(l.set i d)[j]? =some y->∃z,l[j]? =some z/\y.over=z.over:=λj y hy=>by
 rcases jR hy with⟨rfl,rfl⟩|⟨_,hy⟩
 ·exact⟨x,E,ho⟩
 ·exact⟨y,hy,rfl⟩
def PW(S:Sv)c t:(S.feed c t).1.ae.length=S.ae.length/\(S.feed c t).1.over=S.over/\∀(i:Nat) x,(S.feed c t).1.ae[i]? =some x->∃y,S.ae[i]? =some y/\x.over=y.over:=by
 unfold Sv.feed;split
 ·exact⟨rfl,rfl,λi x E=>⟨x,E,rfl⟩⟩
 ·rename_i i x e;split
  ·exact⟨rfl,rfl,λi x E=>⟨x,E,rfl⟩⟩
  ·exact⟨j8 ..,rfl,XI (jc e).2.1 rfl⟩
def aCH(S:Sv)(c:Int):(S.end_ c).1.ae.length=S.ae.length/\(S.end_ c).1.over=S.over/\∀(i:Nat) (x:Cn),(S.end_ c).1.ae[i]? =some x->∃y,S.ae[i]? =some y/\x.over=y.over:=by
 unfold Sv.end_;split
 ·exact⟨rfl,rfl,λi x E=>⟨x,E,rfl⟩⟩
 ·rename_i i x e;exact⟨j8 ..,rfl,XI (jc e).2.1 rfl⟩
def ZX{fz}(h:fz=(1,2)\/fz=(9,11)):Fz fz:=by
 rcases h with rfl|rfl
 ·exact aQa
 ·exact aP9
def bI.feed{fr}(h:bI ν q 0 K C S wv)c t(ht:t.size<=4611686018427387904)
 (Q:∀C' U,bI ν q 0 K C' (S.feed c t.data.toList).1 U->Fm K.s C wv C' U->WV Post K U (fr.finish (.bool (S.feed c t.data.toList).2)) cs):WV Post K wv (Frame.enter prog 25 #[aG K.s,.int .i64 c,.string t] .normal) (fr::cs):=by
 refine WV.rep h.ok h.wf h.rep h.cns h.bP (f:=25) (func25) d40 rfl (qg xj) (λv _ S' _=>v=.bool (S.feed c t.data.toList).2/\S'=(S.feed c t.data.toList).1) (λ_ _ _ _ _ _ e=>e) (λfz w hf _ _ Y=>?_) ?_
 ·refine(Z6 Y h.sw (ZX hf) c t ht).mono ?_;rintro e U ⟨C',rfl,L⟩;exact⟨_,C',_,rfl,⟨rfl,rfl⟩,L⟩
 ·rintro v C' S' U ⟨rfl,rfl⟩ Ao Y hf;have L:=PW S c t.data.toList;exact Q C' U (h.iQ Ao Y (h.sw.feed c _) (h.ES.feed c _) L.2.1 L.1 L.2.2) hf
def bI.end_{fr}(h:bI ν q 0 K C S wv)c
 (Q:∀C' U,bI ν q 0 K C' (S.end_ c).1 U->Fm K.s C wv C' U->WV Post K U (fr.finish (.bool (S.end_ c).2)) cs):WV Post K wv (Frame.enter prog 34 #[aG K.s,.int .i64 c] .normal) (fr::cs):=by
 refine WV.rep h.ok h.wf h.rep h.cns h.bP (f:=34) (func34) d40 rfl (qg xj) (λv _ S' _=>v=.bool (S.end_ c).2/\S'=(S.end_ c).1) (λ_ _ _ _ _ _ e=>e) (λfz w hf _ _ Y=>?_) ?_
 ·refine(aIC Y h.sw (ZX hf) c).mono ?_;rintro e U ⟨C',rfl,L⟩;exact⟨_,C',_,rfl,⟨rfl,rfl⟩,L⟩
 ·rintro v C' S' U ⟨rfl,rfl⟩ Ao Y hf;have L:=aCH S c;exact Q C' U (h.iQ Ao Y (h.sw.end_ c) (h.ES.end_ c) L.2.1 L.1 L.2.2) hf
def bI.bR{fr}(h:bI ν q 0 K C S wv)c
 (Q:∀C' U,bI ν q 0 K C' S U->Fm K.s C wv C' U->WV Post K U (fr.finish (.tuple #[av (S.bR c).1,.bool (S.bR c).2])) cs):WV Post K wv (Frame.enter prog 29 #[aG K.s,.int .i64 c] .normal) (fr::cs):=by
 refine WV.rep h.ok h.wf h.rep h.cns h.bP (f:=29) (func29) d40 rfl (qg xj) (λv _ S' _=>v=.tuple #[av (S.bR c).1,.bool (S.bR c).2]/\S'=S) (λ_ _ _ _ _ _ e=>e) (λfz w hf _ _ Y=>?_) ?_
 ·refine(TT Y h.sw c).mono ?_;rintro e U ⟨rfl,L⟩;exact⟨_,C,_,rfl,⟨rfl,rfl⟩,L⟩
 ·rintro v C' S' U ⟨rfl,rfl⟩ Ao Y hf;exact Q C' U (h.iQ Ao Y h.sw h.ES rfl rfl λi x E=>⟨x,E,rfl⟩) hf
end
open Kv Ky
open Go.ConcN (upd upd_ne upd_same)
def Kp.ofC{w U}{T}(h:Fr.aj T w U):Kp T w U:=⟨⟨h.os,h.output⟩,h.size,λk o A Q=>(h.block k (a6.1 A).1 Q).trans A⟩
def Kg{C w τ d wa}(h:Vw C (re w τ d) wa):Vw C w wa:=⟨h.size,h.os,h.same,h.cut,h.chan,h.plain,h.loops⟩
section
variable {Post:Value->World->Prop}{K:Cy}{wv:World}{cs:List Frame}{ν:Old}{q:Bool}{s:Nat}{C:Cp}{m:Int}{S:Sv}{C0:Frame}
def WV.uM{fr csl an wv'}(aH:K.Ok)(bY:K.Z.Wf)n(h:bV (Ky.walk prog n fr csl an)=true)(hb:nC prog (K.cut 2) (thin (bM prog n fr csl an)) wv wv' 0 0)(Q:WV Post K wv' (aR prog n fr csl an) (bu prog n fr csl an++cs)):WV Post K wv fr (csl++cs):=
 λ_ X=>WT.uM aH bY n h hb (λU wP=>Q U wP) X
def WV.pure{fn c args fr}(aH:K.Ok)(bY:K.Z.Wf){f:FuncId}(hf:prog.funcs[f]? =some fn)(A:keep f=true)(hb:fn.body=some c)(vd:∀r∈fn.results,∃t,r=.tmp t)h1
 (ve:∀τ d,Calls Tq.prog f args (re wv τ d) λe U=>e=.returned h1/\∃τ d,U=re wv τ d) (Q:WV Post K wv (fr.finish h1) cs):WV Post K wv (Frame.enter prog f args .normal) (fr::cs):=by
 refine WV.aDx aH bY hf A hb vd (λv U=>v=h1/\∃τ d,U=re wv τ d) ?_ (λτ d=>(ve τ d).mono ?_) ?_
 ·rintro v w τ d ⟨rfl,τ',d',e⟩;exact⟨rfl,w.tape,w.drawn,(show w=re (re w τ d) w.tape w.drawn from rfl).trans (by rw[e];rfl)⟩
 ·rintro e U ⟨rfl,h⟩;exact⟨_,rfl,rfl,h⟩
 ·rintro v wv' ⟨rfl,τ,d,rfl⟩;exact λw X=>Q w (Kg X)
def WV.lock{a fr}(aH:K.Ok)(bY:K.Z.Wf)(hm:jV fr.mode)(L:wv.cell? a=some (.int .i32 0))(hf:wv.frozen? a=false)(Q:WV Post K (wv.setCell a (.int .i32 1)) (fr.finish (.tuple #[])) cs):WV Post K wv (Frame.enter prog 38 #[.pointer (some a)] .normal) (fr::cs):=λ_ X=>WT.lock aH bY hm L hf (λU wP=>Q U wP) X
def WV.unlock{a fr}(aH:K.Ok)(bY:K.Z.Wf)(hm:jV fr.mode)(L:wv.cell? a=some (.int .i32 1))(hf:wv.frozen? a=false)(Q:WV Post K (wv.setCell a (.int .i32 0)) fr cs):WV Post K wv (Frame.enter prog 39 #[.pointer (some a)] .deferred) (fr::cs):=λ_ X=>WT.unlock aH bY hm L hf (λU wP=>Q U wP) X
def bI.look(h:bI ν q m K C S wv)c oo h1(hV:∀w,gT w K.s C m S (1,11)->Calls Tq.prog 47 #[aG K.s,.int .i64 c] w λe U=>e=.returned h1/\U=w)(Q:WV Post K wv ((rE K.s c oo).finish h1) (C0::cs)):WV Post K wv (rG K.s c oo) (C0::cs):=by obtain⟨V,J,h3,h4⟩:=SG K.s c oo;refine WV.uM (csl:=[]) h.ok h.wf 9 V (wv':=wv) (by rw[h4];exact⟨rfl,rfl⟩) ?_;rw[J,h3];refine WV.pure h.ok h.wf (f:=47) func47 d40 rfl (qg xj) h1 (λτ d=>(hV _ h.rep.re).mono ?_) Q;rintro e U ⟨rfl,rfl⟩;exact⟨rfl,_,_,rfl⟩
def bI.none(h:bI ν q m K C S wv)c oo(L:S.conn c=Option.none)(Q:WV Post K wv (C0.finish (.int .i64 (-1))) cs):WV Post K wv (rG K.s c oo) (C0::cs):=by refine h.look c oo (.pointer Option.none) (λw Y=>Rv w K.s C.st C.lk m C.cb C.rs c S.ae Y.sr (Jv Y h.sw) Y.cs ((RH S c).symm.trans L)) ?_;obtain⟨V,J,h3,h4⟩:=Oc K.s c oo C0;refine WV.uM (csl:=[C0]) h.ok h.wf 15 V (wv':=wv) (by rw[h4];exact⟨rfl,rfl⟩) ?_;rw[J,h3];exact Q
def Wl{w v c k}(h:FE w k.r v c):∃y:Option jm,v.wk=Kh k y/\y.isNone=c.work.isNone:=by
 unfold FE at h;split at h
 ·rename_i e;exact⟨some .read,h.1,by rw[e];rfl⟩
 ·rename_i e;exact⟨some .lock,h.1,by rw[e];rfl⟩
 ·rename_i e;obtain⟨bx,V,_⟩:=h;exact⟨some (.fin bx),V,by rw[e];rfl⟩
 ·rename_i e;exact⟨Option.none,h,by rw[e];rfl⟩
def unW:Value->jm
 | .func (.func 44) _ _=>.read
 | .func (.func 75) _ _=>.lock
 | .func _ _ c=>.fin (match(c[0]? :Option Value)with
   |some (.pointer (some a))=>a.block
   |_=>0)
 |_=>.read
def Qz W k:unW (W.val k)=W:=by cases W<;>rfl
def val_inj{k}{W W':jm}(h:W.val k=W'.val k):W=W':=(Qz W k).symm.trans ((dv unW h).trans (Qz W' k))
def aBa(W:jm):∃fn c,prog.funcs[W.fn]? =some fn/\keep W.fn=true/\fn.body=some c/\∀r∈fn.results,∃t,r=.tmp t:=by
 cases W
 ·exact⟨_,_,func44,by decide,rfl,qg xj⟩
 ·exact⟨_,_,func75,by decide,rfl,qg xj⟩
 ·exact⟨_,_,func127,(by show keep 127=true;decide),rfl,qg xj⟩
def NR{i x}(E:S.ae[i]? =some x):∃d,(S.work i x).1.ae=S.ae.set i d/\(S.work i x).1.over=S.over/\d.over=x.over:=by
 have hs:=qf x;unfold Sv.work;split
 ·split
  ·rename_i e;rw[e]at hs;exact⟨_,rfl,rfl,hs.2.2.1⟩
  ·rename_i e;rw[e]at hs;exact⟨_,rfl,rfl,hs.2.2.1⟩
  ·rename_i e;rw[e]at hs;refine⟨_,rfl,rfl,?_⟩;split<;>exact hs.2.2.1
 ·split
  ·exact⟨_,rfl,rfl,rfl⟩
  ·split
   ·exact⟨_,rfl,rfl,rfl⟩
   ·exact⟨x,(xK E).symm,rfl,rfl⟩
 ·exact⟨_,rfl,rfl,rfl⟩
 ·exact⟨x,(xK E).symm,rfl,rfl⟩
def Xc{w} n dn:Fr.aj (λ_=>False) w (fe n dn w):=by refine⟨rfl,rfl,rfl,?_,λk A _=>(iB n dn w).2 k (by omega)⟩;have:=(a6.1 (iB n dn w).1).1;omega
def Kl{w C1 S1 i d k}(h:gT w s C1 m S1 (1,11))(Y:C1.rs[i]? =some k.r)(hd:S1.ae[i]? =some d)n:
 ∃C2,C2.rs=C1.rs/\gT (qJ k n d.work.isNone w) s C2 m (S1.mark i) (1,11)/\Fm s C1 w C2 (qJ k n d.work.isNone w):=by
 have AE:=Xc (w:=w) n d.work.isNone;have h0:gT (fe n d.work.isNone w) s C1 m S1 (1,11):=h.aA AE (Rx.Safe.none w) (λ_ _ e=>e) (λe=>e) (λe=>e) (λe=>e);have f0:Fm s C1 w C1 (fe n d.work.isNone w):=⟨.ofC (AE.mono λ_ _ e=>e.elim),λ_ e=>.inl e⟩
 have hmk:S1.mark i=if d.work.isNone then S1.set i {d with over:=true}else S1:=by unfold Sv.mark;rw[hd]
 unfold qJ;rw[hmk];cases e:d.work.isNone with
 |false=>rw[e]at h0 f0;exact⟨C1,rfl,h0,f0⟩
 |true=>rw[e]at h0 f0;obtain⟨r,v,jf,X,ye,_⟩:=h0.conn hd;rw[Y]at jf;obtain rfl:=ay jf;have hb:Cb ((fe n true w).setCell ⟨k.r,11,Option.none⟩ (.bool true)) k.r (1,11) v {d with over:=true}:=aM.set ye.cx.cb 11 (.bool true);have tW:k.r≠s:=Sr.um h0.sr ye.cx.cb;have L:Fr.aj (λj=>j=s\/j=k.r) (fe n true w) ((fe n true w).setCell ⟨k.r,11,Option.none⟩ (.bool true)):=(Fr.aj.refl _ _).setCell (p:=⟨k.r,11,Option.none⟩) (.inl (.inr rfl)) _;have AD:Fr.aj (λj=>j=k.r) (fe n true w) ((fe n true w).setCell ⟨k.r,11,Option.none⟩ (.bool true)):=(Fr.aj.refl (λj=>j=k.r) _).setCell (p:=⟨k.r,11,Option.none⟩) (.inl rfl) _;have hs:Sr ((fe n true w).setCell ⟨k.r,11,Option.none⟩ (.bool true)) s C1.st C1.lk m C1.cb C1.rs:=h0.sr.aA AD (λe=>tW e.symm) (λj hj e=>Sr.Ad h0.sr ye.cx.cb j hj e);have:=h0.one Y X hd L hs hb rfl rfl rfl rfl;exact⟨_,this.rs,this.rep,f0.trans ⟨.ofC this.aA,this.foot⟩⟩
def bI.heard{i x k d w2 C2 m'}(h:bI ν q m K C S wv){S1:Sv}(E:S.ae[i]? =some x)(Y:C.rs[i]? =some k.r)(A:K.Z.own (K.b+i)=some k)(wR:k.s=K.s)(u7:¬K.Z.cls k.o)(L:S1.ae=S.ae.set i d)(ho:S1.over=S.over)(hdo:d.over=false)
 (Ao:C2.rs=C.rs)  (vW:gT w2 K.s C2 m' (S1.mark i) (1,11)) (hI:oW q (S1.mark i)) (hZ:yE (S1.mark i)):bI ν q m' (K.told (K.b+i) k d.work.isNone) C2 (S1.mark i) w2:=by
 have tP:i<S.ae.length:=(bA.1 E).1;have hd:S1.ae[i]? =some d:=by rw[L,jz,bk rfl,bk tP]
 have hmk:(S1.mark i).ae=S.ae.set i (if d.work.isNone then {d with over:=true}else d)/\(S1.mark i).over=S.over:=by
  unfold Sv.mark;rw[hd];dsimp only;split
  ·refine⟨?_,ho⟩;show S1.ae.set i _=_;rw[L,List.set_set]
  ·exact⟨L,ho⟩
 have Rt:(K.told (K.b+i) k d.work.isNone).Z.own=K.Z.own/\(K.told (K.b+i) k d.work.isNone).Z.bP=K.Z.bP/\(K.told (K.b+i) k d.work.isNone).Z.Dl=K.Z.Dl:=by unfold Cy.told;cases d.work.isNone<;>exact⟨rfl,rfl,rfl⟩
 have aCQ:∀o,(K.told (K.b+i) k d.work.isNone).Z.cls o->K.Z.cls o\/(d.work.isNone=true/\o=k.o):=by
  unfold Cy.told;intro o ho;cases e:d.work.isNone with
  |false=>rw[e]at ho;exact .inl ho
  |true=>rw[e]at ho;exact ho.imp id λe=>⟨rfl,e⟩
 have Gk:=h.b0;refine {ok:=aBk h.ok h.h0 (by omega) (by omega) A,wf:=?_,h0:=h.h0,b0:=h.b0,mn:=h.mn,nn:=?_,bP:=?_,Dl:=?_,yS:=λ_ _=>trivial,low:=?_,hi:=?_,Qa:=λo Jl=>?_,OQ:=λr' jf=>by rw[Rt.2.1];rw[Rt.2.2]at jf;exact h.OQ r' jf,lo:=(by unfold Cy.told;cases d.work.isNone<;>exact⟨h.lo.ge,h.lo.lq,h.lo.lt⟩),own:=?_,rep:=vW,sw:=hI,ES:=hZ}
 ·refine⟨λg k' e=>?_,λg k' e=>?_,λg k' g' k'' e e'=>?_⟩
  ·rw[Rt.2.1];exact h.wf.bP g k' (Rt.1▸e)
  ·rw[Rt.2.1];exact h.wf.apart g k' (Rt.1▸e)
  ·exact h.wf.Eo g k' g' k'' (Rt.1▸e) (Rt.1▸e')
 ·rw[hmk.1,j8];exact h.nn
 ·rw[Rt.2.1];exact h.bP
 ·rw[hmk.2,Rt.2.2];exact h.Dl
 ·intro j V J;show(if j=K.b+i then _ else K.σ j)=_;have J:j<K.b:=J;rw[aX (by omega)];exact h.low j V J
 ·intro j V;rw[Rt.1];exact h.hi j V
 ·rcases aCQ o Jl with e|⟨_,e⟩
  ·obtain⟨g,k',hg,hh⟩:=h.Qa o e;exact⟨g,k',by rw[Rt.1];exact hg,hh⟩
  ·exact⟨_,k,by rw[Rt.1];exact A,.inl e⟩
 ·intro i' r' x' jf fI;rw[hmk.1]at fI;rw[Rt.1];show ∃k',K.Z.own (K.b+i')=some k'/\k'.s=K.s/\k'.r=r'/\(x'.over=false->(if K.b+i'=K.b+i then(if d.work.isNone then Option.none else some (yM k))else K.σ (K.b+i'))=some (yM k')/\¬(K.told (K.b+i) k d.work.isNone).Z.cls k'.o)/\(x'.over=true->(if K.b+i'=K.b+i then(if d.work.isNone then Option.none else some (yM k))else K.σ (K.b+i'))=Option.none);rw[Ao]at jf;rcases jR fI with⟨rfl,rfl⟩|⟨tW,fI⟩
  ·rw[Y]at jf;refine⟨k,A,wR,ay jf,?_,?_⟩
   ·intro hf;rw[bk rfl];cases e:d.work.isNone with
    |true=>rw[e]at hf;cases hf
    |false=>
     refine⟨rfl,λaGt=>?_⟩;rw[e]at aCQ;rcases aCQ _ aGt with e'|⟨e',_⟩
     ·exact u7 e'
     ·cases e'
   ·intro hf;rw[bk rfl];cases e:d.work.isNone with
    |true=>rfl
    |false=>rw[e]at hf;rw[show d.over=true from hf]at hdo;cases hdo
  ·obtain⟨k',lh,zD,aON,V,J⟩:=h.own i' r' x' jf fI;rw[aX (by omega)];refine⟨k',lh,zD,aON,λhf=>⟨(V hf).1,λaGt=>?_⟩,J⟩;rcases aCQ _ aGt with e|⟨_,e⟩
   ·exact(V hf).2 e
   ·have:=(h.wf.Eo _ _ _ _ lh A).2.1 e;omega
def Du(Z:Gh)N ty:iK (Z.cut N ty 2) (.cells #[.int .i64 0,.bool false] 116 (0,0)):=⟨⟨rfl,rfl,nofun⟩,nofun⟩
def bI.tell(h:bI ν q 1 K C S wv)c(Q:∀K' C' U,bI ν q 1 K' C' (S.step c).1 U->K'.s=K.s->Fm K.s C wv C' U->WV Post K' U (C0.finish (.int .i64 (S.step c).2)) cs):WV Post K wv (rG K.s c 0) (C0::cs):=by
 cases L:S.conn c with
 |none=>
  have e:S.step c=(S,-1):=by unfold Sv.step;rw[L]
  rw[e]at Q;exact h.none c 0 L (Q K C wv h rfl (Fm.refl _ _ _))
 |some p=>
  obtain⟨i,x⟩:=p;have hse:S.step c=((S.work i x).1.mark i,(S.work i x).2):=by unfold Sv.step;rw[L]
  obtain⟨rfl,E,ho⟩:=jc L;have hI':oW q ((S.work i x).1.mark i):=by have:=h.sw.step (i:Int);rw[hse]at this;exact this
  have hZ':yE ((S.work i x).1.mark i):=(h.ES.work (q:=q) E).mark i;rw[hse]at Q;obtain⟨r,v,Y,X,ye,hvi,EE⟩:=h.rep.conn E;obtain⟨k,A,wR,rfl,GV,_⟩:=h.own i r x Y E;obtain⟨hσ,u7⟩:=GV ho;have tP:i<S.ae.length:=(bA.1 E).1;have Gk:=h.b0;have hnn:=h.nn;have wU:K.b+i≠0:=by omega
  have uZ:K.b+i<K.n:=by omega
  have CA:K.b<=K.b+i:=by omega
  refine h.look i 0 (aG k.r) (λw Jj=>?_) ?_
  ·obtain⟨r',v',jf,wP,MP,_⟩:=Jj.conn E;rw[Y]at jf;obtain rfl:=ay jf;exact yw w K.s C.st C.lk 1 C.cb C.rs i k.r (1,11) v' x Jj.sr (Jv Jj h.sw) Y MP.cx.cb ho
  obtain⟨d,hdc,hdv,hdo⟩:=NR E;have hd:(S.work i x).1.ae[i]? =some d:=by rw[hdc,jz,bk rfl,bk tP]
  obtain⟨W,hW⟩:∃W:jm,v.wk=W.val k:=by
   obtain⟨y,hy,hyn⟩:=Wl ye.wk;cases y with
   |some W=>exact⟨W,hy⟩
   |none=>
    have Q:x.work=Option.none:=by
     cases e:x.work with
     |none=>rfl
     |some _=>rw[e]at hyn;cases hyn
    have:=((h.sw.cn i x E).over Q).1;rw[ho]at this;cases this
  obtain⟨fn,cd,hf1,Mz,D8,Ei⟩:=aBa W;have Zb:=Dk (K:=K) h.ok h.h0 wU uZ CA A (x:=sdM K.s i 0 k (C0::cs)) rfl;refine λw VI=>xg h.ok h.wf h.h0 wU uZ CA A hσ u7 (Du _ _ _) (Qw:=λn dn w1=>∃C1,n=(S.work i x).2/\dn=d.work.isNone/\C1.rs=C.rs/\gT w1 K.s C1 1 (S.work i x).1 (1,11)/\Fm K.s C wv C1 w1) ?_ ?_ VI
  ·intro f w1 Fj cont;refine J6 (K:=K.pass (K.b+i) (some (sdM K.s i 0 k (C0::cs)))) Zb h.wf rfl wU A (by show upd K.σ K.h _ 0=_;rw[h.h0,upd_same]) rfl (rV h.ok h.h0 wU CA A (λz hz=>by cases hz;rfl)) (rV h.ok h.h0 wU CA A (λz hz=>by cases hz)) (x:=W)
    ((aM.at ye.cx.cb (i:=14) rfl).trans (dv some hW)) (hn:=λn y w1=>∃C1,n=(S.work i x).2/\y.isNone=d.work.isNone/\C1.rs=C.rs/\gT w1 K.s C1 1 (S.work i x).1 (1,11)/\Fm K.s C wv C1 w1/\w1.cell? ⟨k.r,14,Option.none⟩=some (Kh k y)) (λn y w1 ⟨_,_,_,_,_,_,e⟩=>e) ?_ ?_ Fj
   ·intro U wP aAk;refine WV.rep (K:=K.pass (K.b+i) (some (sdM K.s i 0 k (C0::cs)))) Zb h.wf h.rep h.cns h.bP hf1 Mz D8 Ei (λu _ S' _=>u=.int .i64 (S.work i x).2/\S'=(S.work i x).1) (λ_ _ _ _ _ _ e=>e) (λfz w2 PE _ _ B8=>?_) ?_ U wP
    ·obtain⟨v2,D1⟩:∃v2,C.vs[i]? =some v2:=⟨v,X⟩
     obtain⟨W2,hW2,hC⟩:=V7 B8 h.sw h.ES (ZX PE) Y X E ho k rfl;have:W2=W:=val_inj (hW2.symm.trans hW);subst this;refine hC.mono ?_;rintro e w3 ⟨v',rfl,hw⟩;exact⟨_,C.iQ i v',_,rfl,⟨rfl,rfl⟩,rfl,hw.rep,λj hj=>yR Y X hw.fp hj,hw.aA.mono λj _ e=>Bq Y X e⟩
    ·rintro u C1 S1 w2 ⟨rfl,rfl⟩ Ao Ap J9;intro w3 E6;obtain⟨r',v',jf,wP,MP,_⟩:=Ap.conn hd;rw[Ao,Y]at jf;obtain rfl:=ay jf;obtain⟨y,hy,hyn⟩:=Wl MP.wk;exact aAk _ y w2 w3 ⟨C1,rfl,hyn,Ao,Ap,J9,(aM.at MP.cx.cb (i:=14) rfl).trans (dv some hy)⟩ E6
   ·rintro n y w1 U gM ⟨C1,e1,e2,e3,e4,e5,_⟩ wP hg;have hg:gM=G (kC K.s i 0 k) (C0::cs):=hg;rw[hg,Co.served_G];have hu:(if y.isNone then(Option.none:Option Sd)else some (yM k))=if d.work.isNone then Option.none else some (yM k):=by rw[e2]
    rw[hu,e2];exact cont n d.work.isNone w1 U ⟨C1,e1,rfl,e3,e4,e5⟩ wP
  ·rintro n dn w1 w2 ⟨C1,rfl,rfl,Ao,Y3,J9⟩ D1;obtain⟨C2,aF7,Ap,aGq⟩:=Kl (k:=k) Y3 (Ao▸Y) hd (S.work i x).2;exact Q _ C2 _ (h.heard E Y A wR u7 hdc hdv (hdo.trans ho) (aF7.trans Ao) Ap hI' hZ') rfl (J9.trans aGq) w2 D1
def bI.zY(h:bI ν false 1 K C S wv)c(Q:∀K' C' U,bI ν false 1 K' C' (S.drop c).1 U->K'.s=K.s->Fm K.s C wv C' U->WV Post K' U (C0.finish (.int .i64 (if(S.drop c).2 then 1 else -1))) cs):WV Post K wv (rG K.s c 1) (C0::cs):=by
 cases L:S.conn c with
 |none=>
  have e:S.drop c=(S,false):=by unfold Sv.drop;rw[L]
  rw[e]at Q;exact h.none c 1 L (Q K C wv h rfl (Fm.refl _ _ _))
 |some p=>
  obtain⟨i,x⟩:=p;have hse:S.drop c=((S.lI i x).mark i,true):=by unfold Sv.drop;rw[L]
  obtain⟨rfl,E,ho⟩:=jc L;have hI':oW false ((S.lI i x).mark i):=by have:=h.sw.drop (i:Int);rw[hse]at this;exact this
  have hZ':yE ((S.lI i x).mark i):=by have:=h.ES.drop (i:Int);rw[hse]at this;exact this
  rw[hse]at Q;obtain⟨r,v,Y,X,ye,hvi,EE⟩:=h.rep.conn E;obtain⟨k,A,wR,rfl,GV,_⟩:=h.own i r x Y E;obtain⟨hσ,u7⟩:=GV ho;have tP:i<S.ae.length:=(bA.1 E).1;have Gk:=h.b0;have hnn:=h.nn;have wU:K.b+i≠0:=by omega
  have uZ:K.b+i<K.n:=by omega
  have CA:K.b<=K.b+i:=by omega
  refine h.look i 1 (aG k.r) (λw Jj=>?_) ?_
  ·obtain⟨r',v',jf,wP,MP,_⟩:=Jj.conn E;rw[Y]at jf;obtain rfl:=ay jf;exact yw w K.s C.st C.lk 1 C.cb C.rs i k.r (1,11) v' x Jj.sr (Jv Jj h.sw) Y MP.cx.cb ho
  have hd:(S.lI i x).ae[i]? =some {x with work:=Option.none}:=by show(S.ae.set i _)[i]? =_;rw[jz,bk rfl,bk tP]
  have Zb:=Dk (K:=K) h.ok h.h0 wU uZ CA A (x:=sdM K.s i 1 k (C0::cs)) rfl;refine λw VI=>xg h.ok h.wf h.h0 wU uZ CA A hσ u7 (Du _ _ _) (Qw:=λn dn w1=>∃C1,n=1/\dn=true/\C1.rs=C.rs/\gT w1 K.s C1 1 (S.lI i x) (1,11)/\Fm K.s C wv C1 w1) ?_ ?_ VI
  ·intro f w1 Fj cont;refine J7 (K:=K.pass (K.b+i) (some (sdM K.s i 1 k (C0::cs)))) Zb h.wf rfl wU A (by show upd K.σ K.h _ 0=_;rw[h.h0,upd_same]) rfl (rV h.ok h.h0 wU CA A (λz hz=>by cases hz;rfl)) (rV h.ok h.h0 wU CA A (λz hz=>by cases hz))
    (hn:=λw1=>∃C1,C1.rs=C.rs/\gT w1 K.s C1 1 (S.lI i x) (1,11)/\Fm K.s C wv C1 w1) ?_ ?_ Fj
   ·intro U wP aAk;refine WV.rep (K:=K.pass (K.b+i) (some (sdM K.s i 1 k (C0::cs)))) Zb h.wf h.rep h.cns h.bP (f:=72) func72 d40 rfl (qg xj) (λu _ S' _=>u=.tuple #[]/\S'=S.lI i x) (λ_ _ _ _ _ _ e=>e) (λfz w2 PE _ _ B8=>?_) ?_ U wP
    ·refine(UK B8 h.sw (ZX PE) Y X E).mono ?_;rintro e w3 ⟨v',rfl,hw⟩;exact⟨_,C.iQ i v',_,rfl,⟨rfl,rfl⟩,rfl,hw.rep,λj hj=>yR Y X hw.fp hj,hw.aA.mono λj _ e=>Bq Y X e⟩
    ·rintro u C1 S1 w2 ⟨rfl,rfl⟩ Ao Ap J9;intro w3 E6;exact aAk w2 w3 ⟨C1,Ao,Ap,J9⟩ E6
   ·rintro w1 U gM ⟨C1,e3,e4,e5⟩ wP hg;have hg:gM=G (kC K.s i 1 k) (C0::cs):=hg;rw[hg,Co.served_G];exact cont 1 true w1 U ⟨C1,rfl,rfl,e3,e4,e5⟩ wP
  ·rintro n dn w1 w2 ⟨C1,rfl,rfl,Ao,Y3,J9⟩ D1;obtain⟨C2,aF7,Ap,aGq⟩:=Kl (k:=k) Y3 (Ao▸Y) hd 1;exact Q _ C2 _ (h.heard (d:={x with work:=Option.none}) (S1:=S.lI i x) E Y A wR u7 rfl rfl ho (aF7.trans Ao) Ap hI' hZ') rfl (J9.trans aGq) w2 D1
def bI.zi(h:bI ν q m K C S wv)m':bI ν q m' K C S (wv.setCell ⟨K.s,0,Option.none⟩ (.int .i32 m'))/\Fm K.s C wv C (wv.setCell ⟨K.s,0,Option.none⟩ (.int .i32 m')):=by have L:Fr.aj (·=K.s) wv (wv.setCell ⟨K.s,0,Option.none⟩ (.int .i32 m')):=(Fr.aj.refl (·=K.s) _).setCell (p:=⟨K.s,0,Option.none⟩) (.inl rfl) _;exact⟨h.iQ rfl (h.rep.lock m') h.sw h.ES rfl rfl (λi x E=>⟨x,E,rfl⟩),⟨.ofC (L.mono λ_ _ e=>.inl e),λ_ e=>.inl e⟩⟩
def bI.free(h:bI ν q m K C S wv):wv.cell? ⟨K.s,0,Option.none⟩=some (.int .i32 m)/\wv.frozen? ⟨K.s,0,Option.none⟩=false:=⟨h.rep.sr.blk.at rfl,aM.frozen h.rep.sr.blk (.inr (cQ _))⟩
def bI.step(h:bI ν q 0 K C S wv)c(Q:∀K' C' U,bI ν q 0 K' C' (S.step c).1 U->K'.s=K.s->Fm K.s C wv C' U->WV Post K' U (C0.finish (.int .i64 (S.step c).2)) cs):WV Post K wv (Frame.enter prog 26 #[aG K.s,.int .i64 c] .normal) (C0::cs):=by show WV Post K wv (step0 K.s c) (C0::cs);obtain⟨a1,a2,a3,a4,a5⟩:=TB K.s c;refine WV.uM (csl:=[]) h.ok h.wf 10 a1 (wv':=wv) (by rw[a4];exact⟨rfl,rfl⟩) ?_;rw[a2,a3];refine WV.lock h.ok h.wf (by rw[a5];trivial) h.free.1 h.free.2 ?_;obtain⟨V,f1⟩:=h.zi 1;obtain⟨b1,b2,b3,b4⟩:=TA K.s c;refine WV.uM (csl:=[]) h.ok h.wf 13 b1 (wv':=wv.setCell ⟨K.s,0,Option.none⟩ (.int .i32 1)) (by rw[b4];exact⟨rfl,rfl⟩) ?_;rw[b2,b3];refine V.tell c λK' C' U J yB f2=>?_;obtain⟨c1,c2,c3,c4,c5⟩:=Ty K.s c (S.step c).2 C0;refine WV.uM (csl:=[C0]) J.ok J.wf 4 c1 (wv':=U) (by rw[c4];exact⟨rfl,rfl⟩) ?_;rw[c2,c3,<-yB];refine WV.unlock J.ok J.wf (by rw[yB,c5];trivial) J.free.1 J.free.2 ?_;obtain⟨h3,f3⟩:=J.zi 0;obtain⟨d1,d2,d3,d4⟩:=Tw K.s c (S.step c).2 C0;rw[yB]at h3 f3 ⊢;refine WV.uM (csl:=[C0]) h3.ok h3.wf 1 d1 (wv':=U.setCell ⟨K.s,0,Option.none⟩ (.int .i32 0)) (by rw[d4];exact⟨rfl,rfl⟩) ?_;rw[d2,d3];exact Q K' C' _ h3 yB ((f1.trans f2).trans f3)
variable {w:World}{a:Act}{f:FuncId}{k:List Item}
def aJf{wa τ d}{C}(h:Vw C w wa):Vw C (Ka.re w τ d) wa:=⟨h.size,h.os,h.same,h.cut,h.chan,h.plain,h.loops⟩
def WV.QZ{τ d fr}(h:WV Post K (Ka.re wv τ d) fr cs):WV Post K wv fr cs:=λw X=>h w (aJf X)
def WV.bf{fr τ d}(h:WV Post K wv fr cs):WV Post K (Ka.re wv τ d) fr cs:=λw X=>h w (Kg X)
def WV.while{n c}(hR:Nat->Cy->World->Act->Prop)(aH:∀n K w a,hR n K w a->K.Ok)(h0:hR n K wv a)
 (hs:∀n K w a,hR n K w a->(∀n' K' U a',n'<n->hR n' K' U a'->WV Post K' U ((fb f).at a' (.inLoop c::k)) cs)->WV Post K w ((fb f).at a (.code c::.inLoop c::k)) cs):WV Post K wv ((fb f).at a (.code (.loop c)::k)) cs:=by
 refine WV.loop (aH _ _ _ _ h0) ?_;have key:∀n K w a,hR n K w a->WV Post K w ((fb f).at a (.code c::.inLoop c::k)) cs:=by
  intro n
  induction n using Nat.strongRecOn with
  |_ n ih=>exact λK w a h=>hs n K w a h λn' K' U a' tP h'=>WV.inLoop (aH _ _ _ _ h') (ih n' tP K' U a' h')
 exact key _ _ _ _ h0
def WV.XJ{ops}(aH:K.Ok)(bY:K.Z.Wf)l i n(lh:keep f=true)(hf:∃fn,prog.funcs[f]? =some fn)(hd:gJ a.defers)(hl:∀j,j<l.length->ops[i+j]? =l[j]?)(A:jN (.inRegion ops []::k)=true)
 (hw:∀R:Act->World->Prop,(∀a' U,WV Post K U ((fb f).at a' (.inRegion ops (List.range' (i+l.length) n)::k)) cs->R a' U)->∀τ d,wpList Tq.prog ops (Qn R) l a (Ka.re wv τ d)):
 WV Post K wv ((fb f).at a (.inRegion ops (List.range' i (l.length+n))::k)) cs:=by
 obtain⟨fn,hf⟩:=hf;exact WV.seg aH bY l i n (kept hf lh) hd hl A (λa' U=>WV Post K U ((fb f).at a' (.inRegion ops (List.range' (i+l.length) n)::k)) cs) (λ_ _ _ _ h=>WV.QZ h) (hw _ λ_ _ h=>h) (λ_ _ h=>h)
def WV.tq{c}(aH:K.Ok)(bY:K.Z.Wf)(lh:keep f=true)(hf:∃fn,prog.funcs[f]? =some fn)(hd:gJ a.defers)(A:jN (.code c::k)=true)
 (hw:∀R:Act->World->Prop,(∀a' U,WV Post K U ((fb f).at a' k) cs->R a' U)->∀τ d,c.wp Tq.prog (Qn R) a (Ka.re wv τ d)):WV Post K wv ((fb f).at a (.code c::k)) cs:=by
 obtain⟨fn,hf⟩:=hf;refine WV.code aH bY (Qn λa' U=>WV Post K U ((fb f).at a' k) cs) (kept hf lh) hd A ?_ (hw _ λ_ _ h=>h) (λ_ _ h=>h) (λ_ _ _ h=>h) (λ_ _ _ h=>h) (λ_ _ h=>h) (λ_ _ _ h=>h.elim) (λ_ _ _ h=>h.elim);intro e a w τ d h;cases e<;>first|exact WV.QZ h|exact h
def bI.re{τ d}(h:bI ν q m K C S wv):bI ν q m K C S (Ka.re wv τ d)/\Fm K.s C wv C (Ka.re wv τ d):=
 ⟨h.iQ rfl h.rep.re h.sw h.ES rfl rfl (λi x E=>⟨x,E,rfl⟩),⟨⟨⟨rfl,rfl⟩,aI _,λ_ _ e _=>e⟩,λ_ e=>.inl e⟩⟩
def bI.aA{U}(h:bI ν q m K C S wv)(L:Fr.aj (λ_=>False) wv U):bI ν q m K C S U/\Fm K.s C wv C U:=
 ⟨h.iQ rfl (h.rep.aA L (Rx.Safe.none _) (λ_ _ e=>e) (λe=>e) (λe=>e) (λe=>e)) h.sw h.ES rfl rfl (λi x E=>⟨x,E,rfl⟩),⟨.ofC (L.mono λ_ _ e=>e.elim),λ_ e=>.inl e⟩⟩
def bI.los(h:bI ν q m K C S wv):ν.n<=wv.heap.size:=Nat.le_of_lt (gH (h.lo.ge _ (.inl h.bP)) (h.rep.lt (.inl rfl)))
structure Rest ν(K:Cy)p ev(w:World):Prop where
 ok:K.Ok
 wf:K.Z.Wf
 h0:K.h=0
 b0:0<K.b
 bn:K.b=K.n
 mn:K.m=K.n
 yS:∀ρ μ,K.R ρ μ
 low:∀j,0<j->j<K.n->K.σ j=none
 hi:∀j,K.n<=j->K.Z.own j=none
 Qa:∀c,K.Z.cls c->K.Z.rW c
 OQ:∀r,K.Z.Dl r->K.Z.bP r
 lo:Gh.Lo K.Z ν
 los:ν.n<=w.heap.size
 gl:Gl w p ev
end
end Re
end
section
open Go.Conc
open Go.ConcN (upd upd_ne upd_same)
namespace Co
open Ka Kv Ky
section
variable {Post:Value->World->Prop}{K:Cy}{wv:World}{cs:List Frame}{F:List Nat}
def WO.walk(aH:K.Ok)(bY:K.Z.Wf):∀(n:Nat) {fr fr':Frame} {csl csl':List Frame} {an nM:List An} {jX:List (FuncId×List Io)} {wv wv':World} {d d':Nat},Ky.walk prog n fr csl an=some (fr',csl',nM,jX)->nC prog (K.cut 2) jX wv wv' d d'->
 (∀U,Vw (K.cut 2) wv' U->Fo F K U->WT prog Post K d' (G fr' (csl'++cs)) U)->∀w,Vw (K.cut 2) wv w->Fo F K w->WT prog Post K d (G fr (csl++cs)) w
 |0,fr,fr',csl,csl',an,nM,jX,wv,wv',d,d',h,hb,Q=>by
  simp only[Ky.walk,cI,dp]at h;obtain⟨rfl,rfl,rfl,rfl⟩:=h;obtain⟨rfl,rfl⟩:=hb;exact Q
 |n+1,fr,fr',csl,csl',an,nM,jX,wv,wv',d,d',h,hb,Q=>by
  simp only[Ky.walk]at h;split at h
  ·cases h
  ·rename_i Bj cs1 VV io lT;split at h
   ·cases h
   ·rename_i fr2 cs2 as2 Mf hw;cases h;obtain⟨w1,xd,wj⟩:=hb;intro w X hf;refine WT.step aH rfl λU ha _=>?_;have wP:=dm X ha;obtain⟨bO,V,J,h3,h4⟩:=NW io xd wP;exact⟨_,bO,_,_,gK lT (K.h==0) cs U bO V,Rk bY wP ⟨J,h3,λe he=>h4 e (by simpa using Ġ he),rfl⟩,WO.walk aH bY n hw wj Q bO J ((hf.aside ha).hid h3)⟩
def WO.aIP{fr csl an wv'}(aH:K.Ok)(bY:K.Z.Wf)n(h:bV (Ky.walk prog n fr csl an)=true)(hb:nC prog (K.cut 2) (thin (bM prog n fr csl an)) wv wv' 0 0)(Q:WO F Post K wv' (aR prog n fr csl an) (bu prog n fr csl an++cs)):WO F Post K wv fr (csl++cs):=
 λw X hf=>WO.walk aH bY n (l9 h) (ma hb) Q w X hf
def FC:prog.follows .mixedOrders=true:=xj
def WO.drawn{N f a ops k}(aH:K.Ok){id}(hN:ops.size=N)(hv:List Nat->Prop)(hX:∀l,hv l->WO F Post K wv ((fb f).at a (.inRegion ops l::k)) cs)(h:∀t,hv (Region.linearise.go .any ops N t (Array.replicate N false) [])):WO F Post K wv ((fb f).at a (.code (.region id ops true)::k)) cs:=λw X hf=>by
 refine WT.step aH rfl λU ha hK=>?_;have wP:=dm X ha;have DO:=hf.aside ha;have hs:∀t,Region.schedule (prog.follows .mixedOrders) ops t=Region.linearise.go .any ops N t (Array.replicate N false) []:=λt=>by
  subst hN;simp only[Region.schedule,FC,Bool.true_or,j2];rfl
 refine⟨G ((fb f).at a (.inRegion ops (Region.schedule (prog.follows .mixedOrders) ops (U.tape U.drawn (.order f id)))::k)) cs,{U with drawn:=U.drawn+1},#[],0,?_,?_,?_⟩
 ·simp only[G,stepG,stepG.exec,Frame.at,fb];rfl
 ·exact⟨λe=>e,λs _=>⟨⟨rfl,rfl⟩,⟨rfl,rfl⟩⟩,λc k _ e=>e,λe he=>by simp at he,rfl⟩
 ·rw[hs];exact hX _ (h _) _ ⟨wP.size,wP.os,wP.same,wP.cut,wP.chan,wP.plain,wP.loops⟩ DO
end
end Co
namespace Re
open Tx Sp Wg Rd Bk Wi Se Rx Mp De Lo Co Ka Kv Ky
section
variable {Post:Value->World->Prop}{K:Cy}{wv w:World}{cs:List Frame}{ν:Old}{q:Bool}{s:Nat}{C:Cp}{m:Int}{S:Sv}
def aBV{U}{T}(h:bI ν q m K C S wv)(L:Fr.aj T wv U)(hs:Rx.Safe wv T)(Q:∀k,jB K.s C k->¬T k)(J:∀k,T k->2<k):bI ν q m K C S U:=
 h.iQ rfl (h.rep.aA L hs Q (λe=>by have:=J _ e;omega) (λe=>by have:=J _ e;omega) (λe=>by have:=J _ e;omega)) h.sw h.ES rfl rfl (λi x E=>⟨x,E,rfl⟩)
def bI.gL(h:bI ν q m K C S wv)c(hcν:ν.n<=c):bI ν q m {K with Z:=K.Z.gL c} C S {wv with heap:=wv.heap.push gone}/\Fm K.s C wv C {wv with heap:=wv.heap.push gone}:=by
 have L:Fr.aj (λ_=>False) wv {wv with heap:=wv.heap.push gone}:=⟨rfl,rfl,rfl,by simp,λk A _=>xS A⟩
 obtain⟨V,f1⟩:=h.aA L;have aH:({K with Z:=K.Z.gL c}:Cy).Ok:=⟨h.ok.low,h.ok.wk,h.ok.mn,h.ok.pos,h.ok.lt,h.ok.bn,h.ok.cl,h.ok.hb,h.ok.bP⟩
 exact⟨⟨aH,⟨V.wf.bP,V.wf.apart,V.wf.Eo⟩,V.h0,V.b0,V.mn,V.nn,V.bP,V.Dl,V.yS,V.low,V.hi,V.Qa,V.OQ,V.own,⟨λk A=>(by
  rcases A with A|A|A|⟨A|rfl,ho⟩
  ·exact V.lo.ge k (.inl A)
  ·exact V.lo.ge k (.inr (.inl A))
  ·exact V.lo.ge k (.inr (.inr (.inl A)))
  ·exact V.lo.ge k (.inr (.inr (.inr ⟨A,ho⟩)))
  ·exact hcν),V.lo.lq,V.lo.lt⟩,V.rep,V.sw,V.ES⟩,f1⟩
def aAd:Nat->Nat
 |0=>23|1=>24|2=>25|3=>26|4=>27|5=>28|6=>29|7=>30|8=>31|9=>32|_=>3
def BV(s n:Nat)(cb:Value)(o a r:Nat):Nat->Value
 |0|1|5=>fK s
 |2=>f4V s
 |3=>cb
 |4=>.int .i64 n
 |6=>.chan (some o)
 |7=>.chan (some a)
 |8=>.agg (cnC s n o a)
 |_=>fK r
def Chn(K:Cy)(F:List Nat)(o:Nat):Prop:=o∈F/\K.Z.nch o/\¬K.Z.rW o/\K.Z.lq o=none
structure OS ν q C S s b w0 p n cap(l:Array Bool)F K w(f:Nat->Value)o a r:Prop where
 comp:bI ν q 1 K C S w
 ks:K.s=s
 kb:K.b=b
 fm:Fm s C w0 C w
 vals:∀j,j<11->l.getD j true=true->f (aAd j)=BV s n (sl p n cap) o a r j
 d8:l.getD 8 true=true->l.getD 6 true=true/\l.getD 7 true=true
 d9:l.getD 9 true=true->l.getD 8 true=true
 d10:l.getD 10 true=true->l.getD 9 true=true
 c6:l.getD 6 true=true->Chn K F o
 c7:l.getD 7 true=true->Chn K F a
 c67:l.getD 6 true=true->l.getD 7 true=true->o≠a
 bl:l.getD 9 true=true->w.heap[r]? =some (.cells (cnC s n o a) 99 (0,0))/\w0.heap.size<=r/\¬K.Z.iq r/\¬K.Z.bP r/\¬K.Z.ic r
def On(l:Array Bool)(j:Nat):Prop:=l.getD j true=true
def bN{i j l}(hs:l.size=11)(hi:i<11):On (l.setIfInBounds i true) j↔i=j\/On l j:=by
 unfold On;rw[D9 hs hi];split
 ·exact⟨λ_=>.inl (by assumption),λ_=>rfl⟩
 ·exact⟨.inr,λe=>e.resolve_left (by assumption)⟩
def Yo{j l}(hs:l.size=11)(hj:j<11)(h:l.getD j false=true):On l j:=by unfold On;simp only[Array.getD,hs,hj,tA]at h ⊢;exact h
def BL:∀i,i<11->∀j,j<11->aAd i=aAd j->i=j:=by decide
variable {b n cap:Nat}{w0:World}{p:Option Addr}{l:Array Bool}{F:List Nat}{f:Nat->Value}{o a r:Nat}
def OS.next{i}(h:OS ν q C S s b w0 p n cap l F K w f o a r)(hs:l.size=11)(hi:i<11)(h67:i≠6/\i≠7/\i≠9)(h8:i=8->On l 6/\On l 7)(DV:i=10->On l 9):
 OS ν q C S s b w0 p n cap (l.setIfInBounds i true) F K w (bQ f (aAd i) (BV s n (sl p n cap) o a r i)) o a r where
 comp:=h.comp
 ks:=h.ks
 kb:=h.kb
 fm:=h.fm
 vals j hj e:=by
  rcases(bN hs hi).1 e with rfl|e
  ·exact xJ
  ·by_cases wV:i=j
   ·subst wV;exact xJ
   ·rw[Bu (λe'=>wV (BL j hj i hi e').symm)];exact h.vals j hj e
 d8 e:=by
  rcases(bN hs hi).1 e with rfl|e
  ·exact⟨(bN hs hi).2 (.inr (h8 rfl).1),(bN hs hi).2 (.inr (h8 rfl).2)⟩
  ·exact⟨(bN hs hi).2 (.inr (h.d8 e).1),(bN hs hi).2 (.inr (h.d8 e).2)⟩
 d9 e:=(bN hs hi).2 (.inr (h.d9 (((bN hs hi).1 e).resolve_left h67.2.2)))
 d10 e:=by
  rcases(bN hs hi).1 e with rfl|e
  ·exact(bN hs hi).2 (.inr (DV rfl))
  ·exact(bN hs hi).2 (.inr (h.d10 e))
 c6 e:=h.c6 (((bN hs hi).1 e).resolve_left h67.1)
 c7 e:=h.c7 (((bN hs hi).1 e).resolve_left h67.2.1)
 c67 e e':=h.c67 (((bN hs hi).1 e).resolve_left h67.1) (((bN hs hi).1 e').resolve_left h67.2.1)
 bl e:=h.bl (((bN hs hi).1 e).resolve_left h67.2.2)
def aIV o':∀j,j≠6->j≠8->BV s n (sl p n cap) o a r j=BV s n (sl p n cap) o' a r j:=λj V J=>by
 unfold BV;split<;>first|rfl|omega
def aIW a':∀j,j≠7->j≠8->BV s n (sl p n cap) o a r j=BV s n (sl p n cap) o a' r j:=λj V J=>by
 unfold BV;split<;>first|rfl|omega
def aIU r':∀j,j<9->BV s n (sl p n cap) o a r j=BV s n (sl p n cap) o a r' j
 |0,_|1,_|2,_|3,_|4,_|5,_|6,_|7,_|8,_=>rfl
 |j+9,h=>by omega
def Chn.add{x c}(h:Chn K F x):Chn {K with Z:=K.Z.gL c} (c::F) x:=⟨bc _ h.1,.inl h.2.1,h.2.2⟩
def OS.aLs{c}(h:OS ν q C S s b w0 p n cap l F K w f o a r)(hs:l.size=11)(h6:¬On l 6)(L:¬K.Z.ic c)(hcν:ν.n<=c):
 OS ν q C S s b w0 p n cap (l.setIfInBounds 6 true) (c::F) {K with Z:=K.Z.gL c} {w with heap:=w.heap.push gone} (bQ f 29 (.chan (some c))) c a r where
 comp:=(h.comp.gL c hcν).1
 ks:=h.ks
 kb:=h.kb
 fm:=h.fm.trans (by have:=(h.comp.gL c hcν).2;rw[h.ks]at this;exact this)
 vals j hj e:=by
  by_cases wV:6=j
  ·subst wV;exact xJ
  ·have e:=((bN hs d40).1 e).resolve_left wV;have h8:j≠8:=λe8=>by subst e8;exact h6 (h.d8 e).1
   rw[Bu (d:=29) (λe'=>wV (BL j hj 6 d40 e').symm),h.vals j hj e];exact aIV c j (dT wV) h8
 d8 e:=by have e:=((bN hs d40).1 e).resolve_left d40;exact absurd (h.d8 e).1 h6
 d9 e:=by have e:=((bN hs d40).1 e).resolve_left d40;exact absurd (h.d8 (h.d9 e)).1 h6
 d10 e:=by have e:=((bN hs d40).1 e).resolve_left d40;exact absurd (h.d8 (h.d9 (h.d10 e))).1 h6
 c6 _:=⟨bj ..,.inr rfl,λe=>L (.inr e),h.comp.lo.none hcν⟩
 c7 e:=(h.c7 (((bN hs d40).1 e).resolve_left d40)).add
 c67 _ e:=λe'=>L (e'▸.inl (h.c7 (((bN hs d40).1 e).resolve_left d40)).2.1)
 bl e:=by have e:=((bN hs d40).1 e).resolve_left d40;exact absurd (h.d8 (h.d9 e)).1 h6
def OS.aLr{c}(h:OS ν q C S s b w0 p n cap l F K w f o a r)(hs:l.size=11)(h7:¬On l 7)(L:¬K.Z.ic c)(hcν:ν.n<=c):
 OS ν q C S s b w0 p n cap (l.setIfInBounds 7 true) (c::F) {K with Z:=K.Z.gL c} {w with heap:=w.heap.push gone} (bQ f 30 (.chan (some c))) o c r where
 comp:=(h.comp.gL c hcν).1
 ks:=h.ks
 kb:=h.kb
 fm:=h.fm.trans (by have:=(h.comp.gL c hcν).2;rw[h.ks]at this;exact this)
 vals j hj e:=by
  by_cases wV:7=j
  ·subst wV;exact xJ
  ·have e:=((bN hs d40).1 e).resolve_left wV;have h8:j≠8:=λe8=>by subst e8;exact h7 (h.d8 e).2
   rw[Bu (d:=30) (λe'=>wV (BL j hj 7 d40 e').symm),h.vals j hj e];exact aIW c j (dT wV) h8
 d8 e:=by have e:=((bN hs d40).1 e).resolve_left d40;exact absurd (h.d8 e).2 h7
 d9 e:=by have e:=((bN hs d40).1 e).resolve_left d40;exact absurd (h.d8 (h.d9 e)).2 h7
 d10 e:=by have e:=((bN hs d40).1 e).resolve_left d40;exact absurd (h.d8 (h.d9 (h.d10 e))).2 h7
 c7 _:=⟨bj ..,.inr rfl,λe=>L (.inr e),h.comp.lo.none hcν⟩
 c6 e:=(h.c6 (((bN hs d40).1 e).resolve_left d40)).add
 c67 e _:=λe'=>L (e'▸.inl (h.c6 (((bN hs d40).1 e).resolve_left d40)).2.1)
 bl e:=by have e:=((bN hs d40).1 e).resolve_left d40;exact absurd (h.d8 (h.d9 e)).2 h7
def OS.box(h:OS ν q C S s b w0 p n cap l F K w f o a r)(hs:l.size=11)(h9:¬On l 9)(h8:On l 8)(Y:¬K.Z.iq w.heap.size/\¬K.Z.bP w.heap.size/\¬K.Z.ic w.heap.size):
 OS ν q C S s b w0 p n cap (l.setIfInBounds 9 true) F K {w with heap:=w.heap.push (.cells (cnC s n o a) 99 (0,0))} (bQ f 32 (fK w.heap.size)) o a w.heap.size:=by
 have L:Fr.aj (λ_=>False) w {w with heap:=w.heap.push (.cells (cnC s n o a) 99 (0,0))}:=⟨rfl,rfl,rfl,by simp,λk A _=>xS A⟩
 refine⟨(h.comp.aA L).1,h.ks,h.kb,h.fm.trans (by have:=(h.comp.aA L).2;rw[h.ks]at this;exact this),λj hj e=>?_,λe=>?_,λe=>?_,λe=>?_,λe=>?_,λe=>?_,λe e'=>?_,λe=>?_⟩
 ·by_cases wV:9=j
  ·subst wV;exact xJ
  ·have e:=((bN hs d40).1 e).resolve_left wV;have DV:j≠10:=λe8=>by subst e8;exact h9 (h.d10 e)
   rw[Bu (d:=32) (λe'=>wV (BL j hj 9 d40 e').symm),h.vals j hj e];exact aIU _ j (by omega)
 ·have e:=((bN hs d40).1 e).resolve_left d40;exact⟨(bN hs d40).2 (.inr (h.d8 e).1),(bN hs d40).2 (.inr (h.d8 e).2)⟩
 ·exact(bN hs d40).2 (.inr h8)
 ·exact(bN hs d40).2 (.inl rfl)
 ·exact h.c6 (((bN hs d40).1 e).resolve_left d40)
 ·exact h.c7 (((bN hs d40).1 e).resolve_left d40)
 ·exact h.c67 (((bN hs d40).1 e).resolve_left d40) (((bN hs d40).1 e').resolve_left d40)
 ·refine⟨?_,h.fm.kp.size,Y⟩;show(w.heap.push _)[w.heap.size]? =_;rw[cD,bk rfl]
def WO.one{i rest an d v io wv'}(aH:K.Ok)(bY:K.Z.Wf)(h:One s f i rest an d v io)(hb:nD (K.cut 2) io wv wv')(hz:deafBehind 0 (seen prog 23 (gV io).toArray)=0)
 (Q:WO F Post K wv' (oR s (bQ f d v) rest) cs):WO F Post K wv (oR s f (i::rest)) cs:=λw X hf=>
 WO.walk (csl:=[]) (csl':=[]) (cs:=cs) aH bY 1 h (wv':=wv') (d:=0) (d':=0) ⟨wv',hb,rfl,hz.symm⟩ Q w X hf
def One.chan{i rest d}(h:∀o,One s f i rest [.adr o] d (.chan (some o)) [.nw (.chan 0 #[] false 0 0 false) o])main w:
 stepG prog main (G (oR s f (i::rest)) cs) w=.go (G (oR s (bQ f d (.chan (some w.heap.size))) rest) cs) {w with heap:=w.heap.push (.chan 0 #[] false 0 0 false)} #[]:=by
 have:=kH (h w.heap.size) main cs w {w with heap:=w.heap.push (.chan 0 #[] false 0 0 false)} ⟨rfl,rfl⟩;exact this
def oF{j i}(hs:l.size=11)(hj:j<11)(h:OB (λj=>l.getD j false) i=true)(hm:(j,true)∈qR i):On l j:=by unfold OB at h;rw[ep]at h;have:=h _ hm;exact Yo hs hj (by simpa using this)
def Ld(h:OS ν q C S s b w0 p n cap (Array.replicate 11 false) [] K wv f 0 0 0)(AG:C.cb=sl p n cap)
 (Q:∀F K w f o a r,OS ν q C S s b w0 p n cap (Array.replicate 11 true) F K w f o a r->WO F Post K w (oR s f []) cs):WO [] Post K wv ((fb 23).at (oA s f) (.code (.region 5 Dq true)::oK)) cs:=by
 refine WO.drawn h.comp.ok Gs (λrest=>WO [] Post K wv (oR s f rest) cs) (λ_ e=>e) λt=>Vz (ops:=Dq) (λl=>Qg) (λl i=>(Gd l i).1) (Inv:=λl hv=>l.size=11/\∃F K w f o a r,OS ν q C S s b w0 p n cap l F K w f o a r/\hv=λrest=>WO F Post K w (oR s f rest) cs) ?_ ?_ 11 t (Array.replicate 11 false) (λrest=>WO [] Post K wv (oR s f rest) cs) (by simp) d40 ⟨by simp,_,_,_,_,_,_,_,h,rfl⟩
 ·rintro l hv ⟨hs,F,K,w,f,o,a,r,hO,rfl⟩ wA;have hl:l=Array.replicate 11 true:=by
   apply Array.ext
   ·simp[hs]
   ·intro i V J;have:=wA i (by omega);simp only[Array.getD,V,tA]at this;simpa using this
  subst hl;exact Q _ _ _ _ _ _ _ hO
 ·rintro l hv i hs ⟨_,F,K,w,f,o,a,r,hO,rfl⟩ hi hli Mt rest hX;have nP:¬On l i:=λe=>by unfold On at e;rw[hli]at e;cases e
  have zD:(l.setIfInBounds i true).size=11:=by rw[pA];exact hs
  have h1:=λj hj e=>hO.vals j hj e;have ok:=hO.comp.ok;have wf:=hO.comp.wf;have lone:∀{an io},One s f i rest an (aAd i) (BV s n (sl p n cap) o a r i) io->nD (K.cut 2) io w w->deafBehind 0 (seen prog 23 (gV io).toArray)=0->i≠6/\i≠7/\i≠9->(i=8->On l 6/\On l 7)->(i=10->On l 9)->WO F Post K w (oR s f (i::rest)) cs:=λV J h3 h4 h5 h6=>
   WO.one ok wf V J h3 (hX _ ⟨zD,_,_,_,_,_,_,_,hO.next hs hi h4 h5 h6,rfl⟩)
  match i,hi with
  |0,_=>exact lone (aNw s f rest) rfl rfl d40 nofun nofun
  |1,_=>have e:f 23=fK s:=h1 0 d40 (oF hs d40 Mt d40);have:=aNv s f rest;rw[dG e]at this;exact lone this rfl rfl d40 nofun nofun
  |2,_=>have e:f 24=fK s:=h1 1 d40 (oF hs d40 Mt d40);have:=aNu s f rest;rw[dG e]at this;exact lone this rfl rfl d40 nofun nofun
  |3,_=>
   have e:f 25=f4V s:=h1 2 d40 (oF hs d40 Mt d40);have:=aNt s f rest n cap p;rw[dG e]at this;refine lone this ⟨?_,rfl⟩ ?_ d40 nofun nofun
   ·have:=hO.comp.rep.sr.blk.at (i:=4) rfl;rw[hO.ks,AG]at this;exact this
   ·exact ĩ (λe he=>by
     have:=Ġ he;simp only[gV,cH,bm,cU,gb]at this;subst this;simp) 0
  |4,_=>have e:f 26=sl p n cap:=h1 3 d40 (oF hs d40 Mt d40);have:=aNs s f rest n cap p;rw[dG e]at this;exact lone this rfl rfl d40 nofun nofun
  |5,_=>exact lone (aNr s f rest) rfl rfl d40 nofun nofun
  |6,_=>exact WO.chan (fr':=λc=>oR s (bQ f 29 (.chan (some c))) rest) ok (One.chan (aNq s f rest)) (hO.comp.lo.none hO.comp.los) λL=>hX _ ⟨zD,_,_,_,_,_,_,_,hO.aLs hs nP L hO.comp.los,rfl⟩
  |7,_=>exact WO.chan (fr':=λc=>oR s (bQ f 30 (.chan (some c))) rest) ok (One.chan (aNp s f rest)) (hO.comp.lo.none hO.comp.los) λL=>hX _ ⟨zD,_,_,_,_,_,_,_,hO.aLr hs nP L hO.comp.los,rfl⟩
  |8,_=>have o6:=oF (j:=6) hs d40 Mt d40;have o7:=oF (j:=7) hs d40 Mt d40;have e4:f 27=.int .i64 n:=h1 4 d40 (oF hs d40 Mt d40);have e5:f 28=fK s:=h1 5 d40 (oF hs d40 Mt d40);have e6:f 29=.chan (some o):=h1 6 d40 o6;have e7:f 30=.chan (some a):=h1 7 d40 o7;have:=aNo s f rest n o a;rw[dG e4,dG e5,dG e6,dG e7]at this;exact lone this rfl rfl d40 (λ_=>⟨o6,o7⟩) nofun
  |9,_=>
   have o8:=oF (j:=8) hs d40 Mt d40;have e:f 31=.agg (cnC s n o a):=h1 8 d40 o8;intro wt X hf;have Y:¬K.Z.iq w.heap.size/\¬K.Z.bP w.heap.size/\¬K.Z.ic w.heap.size:=by
    have uG:=X.size;refine⟨λe=>?_,λe=>?_,λe=>?_⟩
    ·have:=zW X (.inr (.inl e));omega
    ·have:=zW X (.inl e);omega
    ·have:=zW X (.inr (.inr e));omega
   have:=aNn s f rest n o a w.heap.size;rw[dG e]at this;exact WO.one ok wf this ⟨rfl,⟨⟨rfl,rfl,nofun⟩,nofun⟩,rfl⟩ rfl (hX _ ⟨zD,_,_,_,_,_,_,_,hO.box hs nP o8 Y,rfl⟩) wt X hf
  |10,_=>have o9:=oF (j:=9) hs d40 Mt d40;have e:f 32=fK r:=h1 9 d40 o9;have:=aJr s f rest r;rw[dG e]at this;exact lone this rfl rfl d40 nofun (λ_=>o9)
  |i+11,h=>omega
variable {U:World}{T:Nat->Prop}
def Hw(w:World)(T:Nat->Prop):Prop:=∀k cur t fz,T k->w.heap[k]? =some (.cells cur t fz)->t≠256/\t≠258/\t≠260/\t≠9
def ob4{t v}(h:Ob w t v)(L:Fr.aj T w U)(hs:Hw w T):Ob U t v:=by
 obtain⟨o,b,n,V,J,h3,h4,h5⟩:=h;refine⟨o,b,n,V,J,h3.aA L (λe=>?_),L.ownsRow h4 (λk A e=>?_),h5⟩
 ·have:=hs b _ _ _ e h3;rcases Ho o.kind with e|e|e<;>simp[e]at this
 ·obtain⟨cur,hb⟩:=bq h4 A;exact(hs k _ _ _ e hb).2.2.2 rfl
def om4{b m}(h:OM w b m)(L:Fr.aj T w U)(hs:Hw w T)(hb:¬T b):OM U b m:=by obtain⟨mv,V,J⟩:=h;exact⟨mv,V.block (L.block b V.lt hb),J.mono λk x y _ Y=>ob4 Y L hs⟩
def aMR{st mo mr μ s}(h:qZ w st mo mr μ s)(L:Fr.aj T w U)(hs:Hw w T)(V:¬T st)(J:¬T mo)(h3:¬T mr):qZ U st mo mr μ s:=
 ⟨h.blk.aA L V,om4 h.ah L hs J,h.refs.block (L.block mr h.refs.lt h3)⟩
def cx4{r fz v c}(h:Cx w r fz v c)(L:Fr.aj T w U)(hs:Hw w T)(Q:∀k,Fp r v k->¬T k):Cx U r fz v c:=by obtain⟨vs,V,J⟩:=h.ah;exact⟨aM.aA h.cb L (Q r (.inl rfl)),L.ownsRow h.au (λk A=>Q k (.inr (.inl A))),vs,L.ownsRow V (λk A=>Q k (.inr (.inr A))),J.mono λx y _ NG=>ob4 NG L hs⟩
def wk4{r v c}(h:FE w r v c)(L:Fr.aj T w U)(hs:Hw w T)(hf:∀bx,aM w bx #[aG r] 91 (0,0)->¬T bx):FE U r v c:=by
 unfold FE at h ⊢;split
 ·simp only[*]at h;exact h
 ·simp only[*]at h;refine⟨h.1,?_⟩;obtain⟨p,cap,V,U8,J⟩:=h.2;refine⟨p,cap,V,U8,λhl=>?_⟩;obtain⟨g,o,cur,e1,e2,e3⟩:=J hl;exact⟨g,o,cur,e1,(L.block g (lt_of_block e2) (λe=>(hs g _ _ _ e e2).2.2.2 rfl)).trans e2,e3⟩
 ·simp only[*]at h;obtain⟨bx,V,J⟩:=h;exact⟨bx,V,J.aA L (hf bx J)⟩
 ·simp only[*]at h;exact h
end
def xZ(n s o a r:Nat):Cv:={i:=n,s:=s,o:=.chan (some o),a:=.chan (some a),cv:=.slice none 0 0,ov:=.slice none 0 0,wk:=.func (.func 44) #[aG r] #[],wv:=.slice none 0 0}
def Ju{r n s o a k}(h:Fp r (xZ n s o a r) k):k=r:=by
 rcases h with h|h|h
 ·exact h
 ·cases h
 ·cases h
def XV{w s C m S fz r wE g cap o a jo}{Tc:Nat->Prop}(h:gT w s C m S fz)(htc:∀k,Tc k->C.cb.ownBlock=some k/\∀x t jo,w.heap[k]? =some (.cells #[x] t jo)->C.rs=[])(hrf:¬jB s C r)(B8:2<r)
 (aOL:∀cur t jo,w.heap[r]? =some (.cells cur t jo)->t=99) (L:Fr.aj (λk=>k=s\/Tc k\/k=r) w wE)
 (hs:aM wE s #[.int .i32 m,.int .u32 0,aG C.st,aG C.lk,.slice (some ⟨g,0,none⟩) (C.rs.length+1) cap] 79 (0,0)) (tM:wE.ownsRow 0 91 1 (.slice (some ⟨g,0,none⟩) (C.rs.length+1) cap) (C.rs.length+1) ((C.rs++[r]).map aG)) (hg:2<g)
 (hb:aM wE r (cells (xZ S.ae.length s o a r) {}) 99 jo) (hzz:jo=fz):
 gT wE s {C with cb:=.slice (some ⟨g,0,none⟩) (C.rs.length+1) cap,rs:=C.rs++[r],vs:=C.vs++[xZ S.ae.length s o a r]} m {S with ae:=S.ae++[{}]} fz:=by
 subst hzz;have aK1:∀k cur t jo,C.cb.ownBlock=some k->w.heap[k]? =some (.cells cur t jo)->t=91:=λk cur t jo A e=>zh h.sr.row A e;have GP:Hw w (λk=>k=s\/Tc k\/k=r):=λk cur t jo A e=>by
  rcases A with rfl|A|rfl
  ·rw[qG h.sr.blk e];decide
  ·rw[aK1 k cur t jo (htc k A).1 e];decide
  ·rw[aOL cur t jo e];decide
 have off:∀{k:Nat},jB s C k->k≠s->C.cb.ownBlock≠some k->¬(k=s\/Tc k\/k=r):=λA V J=>by
  rintro(e|e|e)
  ·exact V e
  ·exact J (htc _ e).1
  ·exact hrf (e▸A)
 have tW:=h.zb;have aLt:∀{k:Nat} {cur:Array Value} {t:TypeId} {jo:Nat×Nat},w.heap[k]? =some (.cells cur t jo)->t≠91->C.cb.ownBlock≠some k:=λe ht e'=>ht (aK1 _ _ _ _ e' e);have aAq:∀{k:Nat},(∀cur t jo,w.heap[k]? ≠some (.cells cur t jo))->C.cb.ownBlock≠some k:=λhm e'=>by
  obtain⟨cur,e⟩:=bq h.sr.row e';exact hm _ _ _ e
 have ost:=off (.inr (.inl rfl)) (dT tW.1) (aLt h.jC.blk d40);have olk:=off (.inr (.inr (.inl rfl))) (dT tW.2.1) (aLt h.nO.blk d40);have olb:=off (.inr (.inr (.inr (.inl rfl)))) (dT tW.2.2.1) (aAq (xH h.nO.map));have omo:=off (.inr (.inr (.inr (.inr (.inl rfl))))) (dT tW.2.2.2.1) (aAq h.jC.ah.eQ);have omr:=off (.inr (.inr (.inr (.inr (.inr (.inl rfl)))))) (dT tW.2.2.2.2.1) (aAq (xH h.jC.refs));have ofp:∀(i r':Nat) (v:Cv) (x:Cn),C.rs[i]? =some r'->C.vs[i]? =some v->S.ae[i]? =some x->∀k,Fp r' v k->¬(k=s\/Tc k\/k=r):=λi r' v x V J h3 k A=>by
  have wX:=(h.cn i r' v x V J h3).1.cx;refine off (.inr (.inr (.inr (.inr (.inr (.inr (.inr ⟨i,r',v,V,J,A⟩))))))) (λe=>?_) (λe=>?_)
  ·subst e;exact wX.off h.sr.blk d40 d40 d40 A
  ·obtain⟨cur,e'⟩:=bq h.sr.row e;exact wX.off e' d40 d40 d40 A
 have two:=h.two;have oJ:∀k,(k=s\/Tc k\/k=r)->2<k:=λk A=>by
  rcases A with rfl|A|rfl
  ·exact h.high (.inl rfl)
  ·exact h.RO k (htc k A).1
  ·exact B8
 have hlen:C.rs.length=S.ae.length:=h.len;have snoc:∀{α:Type} {l:List α} {x y:α} {i:Nat},(l++[x])[i]? =some y->(l[i]? =some y/\i<l.length)\/(i=l.length/\y=x):=λ{α l x y i} e=>by
  rw[qV]at e;split at e
  ·exact .inl ⟨e,by assumption⟩
  ·rename_i hi;have hm:=cM e;have:=(bA.1 e).1;simp only[bt,dt]at this;exact .inr ⟨by omega,bW.1 hm⟩
 refine⟨⟨hs,?_⟩,aMR h.jC L GP ost omo omr,h.nO.aA L olk olb,by simp[h.len],by simp[h.mW],?_,?_,?_,h.maps,λk A=>by cases A;exact hg,h.gl.aA L (λe=>by have:=oJ _ e;omega) (λe=>by have:=oJ _ e;omega) (λe=>by have:=oJ _ e;omega)⟩
 ·simpa using tM
 ·intro i r' v x V J h3;rcases snoc h3 with⟨h3,hi⟩|⟨rfl,rfl⟩
  ·rcases snoc V with⟨V,_⟩|⟨e,_⟩
   ·rcases snoc J with⟨J,_⟩|⟨e,_⟩
    ·obtain⟨c1,c2⟩:=h.cn i r' v x V J h3;exact⟨⟨cx4 c1.cx L GP (ofp i r' v x V J h3),wk4 c1.wk L GP (λbx hb=>by
      rintro(e|e|e)
      ·have:=qG h.sr.blk (e▸hb);cases this
      ·rw[(htc bx e).2 _ _ _ hb]at V;cases V
      ·have:=aOL _ _ _ (e▸hb);cases this)⟩,c2⟩
    ·have:=h.mW;omega
   ·omega
  ·rcases snoc V with⟨_,e⟩|⟨_,rfl⟩
   ·omega
   ·rcases snoc J with⟨_,e⟩|⟨_,rfl⟩
    ·have:=h.mW;omega
    ·exact⟨⟨⟨hb,⟨rfl,.inl ⟨rfl,rfl⟩⟩,[],⟨rfl,.inl ⟨rfl,rfl⟩⟩,.nil⟩,⟨rfl,rfl,rfl⟩⟩,rfl,rfl⟩
 ·intro i j ri rj vi vj wV V J h3 h4 k A lh;have new:∀{i:Nat} {ri:Nat} {vi:Cv},i<C.rs.length->C.rs[i]? =some ri->C.vs[i]? =some vi->Fp ri vi r->False:=λ{i ri vi} hi e1 e2 A=>by
   obtain⟨x,E⟩:=oO (l:=S.ae) (i:=i) (by omega);exact ofp i ri vi x e1 e2 E r A (.inr (.inr rfl))
  rcases snoc V with⟨g1,hi⟩|⟨ei,ri'⟩
  ·rcases snoc h3 with⟨g3,_⟩|⟨e,_⟩
   ·rcases snoc J with⟨g2,hj⟩|⟨ej,rj'⟩
    ·rcases snoc h4 with⟨g4,_⟩|⟨e,_⟩
     ·exact h.apart i j ri rj vi vj wV g1 g2 g3 g4 k A lh
     ·have:=h.mW;omega
    ·rcases snoc h4 with⟨_,e⟩|⟨_,vj'⟩
     ·have:=h.mW;omega
     ·subst vj';subst rj';have:=Ju lh;subst this;exact new hi g1 g3 A
   ·have:=h.mW;omega
  ·rcases snoc h3 with⟨_,e⟩|⟨_,vi'⟩
   ·have:=h.mW;omega
   ·rcases snoc J with⟨g2,hj⟩|⟨ej,_⟩
    ·rcases snoc h4 with⟨g4,_⟩|⟨e,_⟩
     ·subst vi';subst ri';have:=Ju A;subst this;exact new hj g2 g4 lh
     ·have:=h.mW;omega
    ·omega
 ·intro i r' v V J k A;rcases snoc V with⟨V,hi⟩|⟨ei,ri'⟩
  ·rcases snoc J with⟨J,_⟩|⟨e,_⟩
   ·exact h.low i r' v V J k A
   ·have:=h.mW;omega
  ·rcases snoc J with⟨_,e⟩|⟨_,v'⟩
   ·have:=h.mW;omega
   ·subst v';subst ri';rw[Ju A];exact B8
def Bw:List Io->Bool
 |[]=>true
 | .ld ..::l| .st ..::l| .nw ..::l=>Bw l
 |_=>false
def BJ:∀{io},Bw io=true->∀e∈gV io,∃a,e.loc=.cell a
 |[],_,e,he=>by cases he
 | .ld m a v::l,h,e,he=>by
   rcases bm.1 he with rfl|he
   ·exact⟨a,rfl⟩
   ·exact BJ (io:=l) h e he
 | .st m a v::l,h,e,he=>by
   rcases bm.1 he with rfl|he
   ·exact⟨a,rfl⟩
   ·exact BJ (io:=l) h e he
 | .nw o r::l,h,e,he=>BJ (io:=l) h e he
 | .mk _::_,h,_,_=>by cases h
 | .sh ..::_,h,_,_=>by cases h
 | .fz ..::_,h,_,_=>by cases h
 | .get ..::_,h,_,_=>by cases h
 | .set ..::_,h,_,_=>by cases h
def Af{io}(h:Bw io=true)P fn d:deafBehind d (seen P fn (gV io).toArray)=d:=
 ĩ (λe he=>by
  have:=Ġ he;obtain⟨a,ha⟩:=BJ h e (by simpa using this);rw[ha];exact⟨nofun,nofun⟩) d
def Bo{io C w w1 P l U fn}(hp:Bw io=true)(hb:nD C io w w1)(hl:nC P C l w1 U 0 0):nC P C ((fn,io)::l) w U 0 0:=
 ⟨w1,hb,by rw[Af hp];exact hl⟩
section
variable {Post:Value->World->Prop}{K:Cy}{wv w:World}{cs:List Frame}{ν:Old}{q:Bool}{s:Nat}{C:Cp}{m:Int}{S:Sv}{C0:Frame}
def bI.Yk(h:bI ν q m K C S wv)(ho:S.over=false)(Q:WV Post K wv (Ah K.s) cs):WV Post K wv (Yn K.s) cs:=λw X=>by
 refine WT.step h.ok rfl λU ha hK=>?_;have h7:=(hK.2 K.s h.bP).2 (h.Dl ho);have:=kH (Uo K.s) (K.h==0) cs U U ⟨h7,rfl⟩;refine⟨_,_,_,0,this,⟨λe=>e,λs _=>⟨⟨rfl,rfl⟩,⟨rfl,rfl⟩⟩,λc k _ e=>e,λe he=>?_,Af rfl _ _ _⟩,Q U (dm X ha)⟩;have he:=Ġ he;simp only[gV,cH,bm,cU,gb]at he;subst he;refine⟨λx E=>?_,λs' _=>nofun⟩;have E:=ay E;subst E;refine⟨λfT=>?_,nofun,nofun⟩;rcases fT with⟨s',_,e|e⟩|⟨g,k,_,e|e⟩
 ·injection e with e;injection e with _ e;cases e
 ·injection e with e;injection e with _ e;cases e
 ·cases e
 ·cases e
structure Og ν q K C S C' w0 w6 r o a F:Prop where
 comp:∃wz m,bI ν q m K C S wz
 rep:gT (fG r 16 (1,11) w6) K.s C' 1 {S with ae:=S.ae++[{}]} (1,11)
 rs:C'.rs=C.rs++[r]
 blk:∃c,w6.heap[r]? =some (.cells c 99 (0,0))/\c.size=16/\c[0]? =some (.int .i64 S.ae.length)/\c[1]? =some (fK K.s)/\c[9]? =some (.chan (some o))/\c[10]? =some (.chan (some a))
 ro:Chn K F o
 ra:Chn K F a
 oa:o≠a
 rf:¬K.Z.iq r/\¬K.Z.bP r/\¬K.Z.ic r
 fm:Fm K.s C w0 C' (fG r 16 (1,11) w6)
 lor:ν.n<=r
variable {C':Cp}{w0 w6:World}{r o a:Nat}{F:List Nat}
def Kn(K:Cy)(r o a:Nat):Cy:=({K with m:=K.n+1}:Cy).hire ⟨K.s,r,o,a⟩ (yM ⟨K.s,r,o,a⟩)
def Og.Q5(h:Og ν q K C S C' w0 w6 r o a F):BN K.Z K.n K.s ⟨K.s,r,o,a⟩:=by obtain⟨wz,m,L⟩:=h.comp;refine⟨L.hi _ (aI _),rfl,L.bP,h.rf.2.1,h.oa,λg k' hg=>⟨λe=>h.ro.2.2.1 ⟨g,k',hg,.inl e.symm⟩,λe=>h.ra.2.2.1 ⟨g,k',hg,.inl e.symm⟩,λe=>h.ro.2.2.1 ⟨g,k',hg,.inr e.symm⟩,λe=>h.ra.2.2.1 ⟨g,k',hg,.inr e.symm⟩⟩⟩
def Og.aEz(h:Og ν q K C S C' w0 w6 r o a F)(h8:S.ae.length<8)(VK:S.over=false):bI ν q 1 (Kn K r o a) C' {S with ae:=S.ae++[{}]} (fG r 16 (1,11) w6):=by
 obtain⟨wz,m,L⟩:=h.comp;have A:=h.Q5;have Gk:=L.b0;have hnn:=L.nn;have tU:∀g,(Kn K r o a).Z.own g=upd K.Z.own K.n (some ⟨K.s,r,o,a⟩) g:=λ_=>rfl;have hσ:∀g,(Kn K r o a).σ g=upd K.σ K.n (some (yM ⟨K.s,r,o,a⟩)) g:=λ_=>rfl;have tP:=L.ok.lt;have aH:(Kn K r o a).Ok:=by
  refine⟨λi x hi E Lz hib=>?_,λi x hi E Lz wW=>?_,λx E h0=>absurd L.h0.symm h0,Nat.succ_pos _,Nat.lt_succ_of_lt tP,jx L.ok.bn,L.ok.cl,.inl L.h0,λ_=>L.bP⟩
  ·have hib:i<K.b:=hib;rw[hσ,upd_ne _ _ (by omega)]at E;exact L.ok.low i x (by omega) E Lz hib
  ·rw[tU];rw[hσ]at E;by_cases e:i=K.n
   ·subst e;rw[upd_same]at E ⊢;cases E;exact⟨_,rfl,rfl⟩
   ·rw[upd_ne _ _ e]at E ⊢;have hi:i<K.n+1:=hi;exact L.ok.wk i x (by omega) E Lz wW
 refine {ok:=aH,wf:=Hu L.wf A,h0:=L.h0,b0:=Gk,mn:=rfl,nn:=?_,bP:=L.bP,Dl:=L.Dl,yS:=L.yS,low:=λj V J=>?_,hi:=λj hj=>?_,Qa:=λc Ay=>?_,OQ:=L.OQ,lo:=⟨λk A=>?_,L.lo.lq,L.lo.lt⟩,own:=λi r' x V J=>?_,rep:=h.rep,sw:=?_,ES:=?_}
 ·show K.n+1=K.b+(S.ae++[({}:Cn)]).length;simp only[b9,bt,dt];omega
 ·have J:j<K.b:=J;rw[hσ,upd_ne _ _ (by omega)];exact L.low j V J
 ·have hj:K.n+1<=j:=hj;rw[tU,upd_ne _ _ (by omega)];exact L.hi j (by omega)
 ·obtain⟨g,k',hg,hh⟩:=L.Qa c Ay;exact⟨g,k',(tU g).trans ((upd_ne _ _ (λe=>by subst e;rw[L.hi _ (aI _)]at hg;cases hg)).trans hg),hh⟩
 ·have J:(S.ae++[({}:Cn)])[i]? =some x:=J;rw[h.rs]at V;have EF:C.rs.length=S.ae.length:=L.rep.len;show ∃k,upd K.Z.own K.n (some ⟨K.s,r,o,a⟩) (K.b+i)=some k/\k.s=K.s/\k.r=r'/\(x.over=false->upd K.σ K.n (some (yM ⟨K.s,r,o,a⟩)) (K.b+i)=some (yM k)/\¬K.Z.cls k.o)/\(x.over=true->upd K.σ K.n (some (yM ⟨K.s,r,o,a⟩)) (K.b+i)=Option.none);by_cases hi:i<S.ae.length
  ·rw[fy hi]at J;rw[fy (by omega)]at V;rw[upd_ne _ _ (by omega),upd_ne _ _ (by omega)];exact L.own i r' x V J
  ·have h3:=(bA.1 J).1;simp only[b9,bt,dt]at h3;obtain rfl:i=S.ae.length:=by omega
   rw[iz (aI _),Nat.sub_self]at J;rw[iz (by omega),EF,Nat.sub_self]at V;cases J;cases V;rw[<-hnn,upd_same,upd_same];exact⟨_,rfl,rfl,rfl,λ_=>⟨rfl,λe=>h.ro.2.2.1 (L.Qa _ e)⟩,nofun⟩
 ·have UQ:∀g k',(Kn K r o a).Z.own g=some k'->K.Z.own g=some k'\/k'=⟨K.s,r,o,a⟩:=λg k' hg=>by
   rw[tU]at hg;by_cases e:g=K.n
   ·subst e;rw[upd_same]at hg;exact .inr (ay hg).symm
   ·rw[upd_ne _ _ e]at hg;exact .inl hg
  rcases A with A|⟨g,k',hg,rfl⟩|⟨g,k',hg,A⟩|A
  ·exact L.lo.ge k (.inl A)
  ·rcases UQ g k' hg with e|rfl
   ·exact L.lo.ge _ (.inr (.inl ⟨g,k',e,rfl⟩))
   ·exact h.lor
  ·rcases UQ g k' hg with e|rfl
   ·exact L.lo.ge _ (.inr (.inr (.inl ⟨g,k',e,A⟩)))
   ·rcases A with rfl|rfl
    ·exact L.lo.ge _ (.inr (.inr (.inr ⟨h.ro.2.1,h.ro.2.2.2⟩)))
    ·exact L.lo.ge _ (.inr (.inr (.inr ⟨h.ra.2.1,h.ra.2.2.2⟩)))
  ·exact L.lo.ge k (.inr (.inr (.inr A)))
 ·have:=L.sw.open_;unfold Sv.open_ at this;rw[aX (by simp[VK];omega)]at this;exact this
 ·have:=L.ES.open_;unfold Sv.open_ at this;rw[aX (by simp[VK];omega)]at this;exact this
variable {f:Nat->Value}{v:Nat×Nat×Nat}
def Og.last(h:Og ν q K C S C' w0 w6 r o a F)(h8:S.ae.length<8)(VK:S.over=false)
 (Q:∀K' C' U,bI ν q 0 K' C' {S with ae:=S.ae++[{}]} U->K'.s=K.s->Fm K.s C w0 C' U->WV Post K' U (C0.finish (.int .i64 S.ae.length)) cs):
 WV Post (Kn K r o a) (fG r 16 (1,11) w6) (rX K.s r f v) (C0::cs):=by
 have MA:=h.aEz h8 VK;obtain⟨e1,e2,e3,e4,e5⟩:=OU K.s r S.ae.length f v C0;obtain⟨c,hb,uG,c0,_⟩:=h.blk;have uz:(fG r 16 (1,11) w6).cell? ⟨r,0,Option.none⟩=some (.int .i64 S.ae.length):=by unfold World.cell?;rw[iH hb];show(c.extract 0 16)[0]? =_;rw[mO];simpa [uG]using c0
 refine WV.uM (csl:=[C0]) (cs:=cs) MA.ok MA.wf 11 e1 (wv':=fG r 16 (1,11) w6) (by rw[e4];exact iI ⟨uz,cq⟩) ?_;rw[e2,e3];refine WV.unlock (a:=⟨K.s,0,Option.none⟩) MA.ok MA.wf (by rw[e5];trivial) MA.free.1 MA.free.2 ?_;obtain⟨h3,f3⟩:=MA.zi 0;obtain⟨d1,d2,d3,d4⟩:=OT K.s r S.ae.length f v C0;refine WV.uM (csl:=[C0]) (cs:=cs) h3.ok h3.wf 1 d1 (wv':=(fG r 16 (1,11) w6).setCell ⟨K.s,0,Option.none⟩ (.int .i32 0)) (by rw[d4];exact⟨rfl,rfl⟩) ?_;rw[d2,d3];exact Q _ C' _ h3 rfl (h.fm.trans f3)
def Og.go(h:Og ν q K C S C' w0 w6 r o a F)(h8:S.ae.length<8)(VK:S.over=false)
 (Q:∀K' C' U,bI ν q 0 K' C' {S with ae:=S.ae++[{}]} U->K'.s=K.s->Fm K.s C w0 C' U->WV Post K' U (C0.finish (.int .i64 S.ae.length)) cs):
 WO F Post K w6 (add0 K.s) (kU K.s r f v::C0::cs):=λw X hf=>by
 obtain⟨wz,mz,L⟩:=h.comp;have MA:=h.aEz h8 VK;have Gk:=L.b0;have hnn:=L.nn;have ok2:({K with m:=K.n+1}:Cy).Ok:=⟨L.ok.low,L.ok.wk,L.ok.mn,L.ok.pos,L.ok.lt,L.ok.bn,L.ok.cl,L.ok.hb,λ_=>L.bP⟩
 refine WT.keep λhK _=>?_;have hgo:∀U,aQ K.Z w U->WT prog Post {K with m:=K.n+1} 0 (G ((kU K.s r f v).finish (.tuple #[])) (C0::cs)) U:=λU hA=>by
  refine WT.sum (K:={K with m:=K.n+1}) (csl:=[]) (cs:=C0::cs) ok2 L.bP (Um K.s r f v) trivial λw9 h9=>?_;have hA9:aQ K.Z w w9:=hA.trans h9;obtain⟨c,hb,uG,c0,c1,c9,c10⟩:=h.blk;refine WT.hire (K:={K with m:=K.n+1}) (k:=⟨K.s,r,o,a⟩) (x:=yM ⟨K.s,r,o,a⟩) (a':=G (rX K.s r f v) (C0::cs)) (child:=G (rt0 ⟨K.s,r,0,0⟩) []) (nc:=31) ok2 L.h0 rfl MA.ok h.Q5 rfl L.yS rfl (λw10 DV=>?_) (λw10=>?_) (JH (K.Z.cO K.n ⟨K.s,r,o,a⟩) (n:=K.n) (k:=⟨K.s,r,o,a⟩) (upd_same ..)) (λw11 h11=>?_)
  ·have aGL:aQ K.Z w w10:=hA9.trans DV;have DO:=hf.aside aGL;have gz:=(dm X aGL).same r (eY.2 ⟨h.rf.2.1,h.rf.1,h.rf.2.2⟩);rw[hb]at gz;have cell:∀{i:Nat} {u:Value},c[i]? =some u->w10.cell? ⟨r,i,Option.none⟩=some u:=λ{i u} e=>by
    unfold World.cell?;rw[<-gz];exact e
   exact⟨(DO o h.ro.1).1,(DO a h.ra.1).1,cell c1,cell c9,cell c10,Nr aGL (hK.2 K.s L.bP).1⟩
  ·have hm:(K.h==0)=true:=by rw[L.h0];rfl
   show stepG prog (K.h==0) _ _=_;rw[hm];exact Yl K.s r f v w10 (C0::cs)
  ·have aPZ:aQ K.Z w w11:=hA9.trans h11;have wP:=dm X aPZ;have:=Sw (n:=K.n) (k:=⟨K.s,r,o,a⟩) wP (L.hi _ (aI _)) h.rf.2.1 h.rf.1 h.rf.2.2 (.inl h.ro.2.1) (.inl h.ra.2.1) h.ro.2.2.2 h.ra.2.2.2 hb uG (.inr rfl);exact h.last h8 VK Q w11 this
 refine WT.sum (csl:=[]) (cs:=kU K.s r f v::C0::cs) L.ok L.bP (aIX K.s) ⟨cq,cq,cq⟩ λwa ha=>?_;refine WT.add L.ok L.h0 L.bP L.mn (by omega) rfl (λc=>G (bF K.s (aa c 0)) (bC K.s (aa c 0)++kU K.s r f v::C0::cs)) (λc U ZI h5 Lq=>?_) (λc U ZI yP=>?_)
 ·have:=kH (aEZ K.s c ZI) (K.h==0) (kU K.s r f v::C0::cs) U (U.setCell (dE K.s) (.int .u64 (aa (c+1) 0))) ⟨h5,⟨_,h5⟩,Lq,rfl⟩;rw[aBh]at this;exact this
 ·have hAw:aQ K.Z w U:=ha.trans yP;by_cases AE:c=0
  ·subst AE;refine WT.sum (K:={K with m:=K.n+1}) (csl:=bC K.s (aa 0 0)) (cs:=kU K.s r f v::C0::cs) ok2 L.bP (aBf K.s) ⟨⟨rfl,rfl,rfl,rfl,cq⟩,cq⟩ λwb hb=>?_;obtain⟨g1,g2⟩:=aBi K.s;refine WT.say (K:={K with m:=K.n+1}) ok2 L.bP L.wf rfl (es:=#[rZ (.read (iD K.s))]) (d':=1) (a':=G (dF K.s) (kU K.s r f v::C0::cs)) (λe he=>?_) rfl (λw7 _=>?_) (λw7 h7=>?_)
   ·simp at he;subst he;exact .inr (.inr (.inr (.inr (.inr (.inr ⟨L.h0,.inl rfl⟩)))))
   ·have:=kH g1 (K.h==0) (kU K.s r f v::C0::cs) w7 w7 rfl;rw[g2]at this;exact this
   ·exact WT.sum (K:={K with m:=K.n+1}) (csl:=[kU K.s r f v]) (cs:=C0::cs) ok2 L.bP (aBg K.s (kU K.s r f v)) ⟨cq,cq⟩ λw8 h8=>hgo w8 (((hAw.trans hb).trans h7).trans h8)
  ·have e:bC K.s (aa c 0)++kU K.s r f v::C0::cs=(bC K.s (aa c 0)++[kU K.s r f v])++(C0::cs):=by simp
   rw[e];exact WT.sum (K:={K with m:=K.n+1}) (csl:=bC K.s (aa c 0)++[kU K.s r f v]) (cs:=C0::cs) ok2 L.bP (aEY K.s c (by omega) ZI (kU K.s r f v)) ⟨cq,cq⟩ λw8 h8=>hgo w8 (hAw.trans h8)
def Yv s f v:(oA s f).put (some 45) v=oA s (bQ f 45 v):=xj
def Q0 s f:(oA s f).eval (.tmp 42)=f 42/\(oA s f).eval (.tmp 44)=f 44:=⟨xj,xj⟩
def aFR:(Tq.prog.info? 91).map (λi=>(i.zero,i.size,i.bytes))=some (some (.pointer Option.none),1,8):=xj
def aF0{P:Program}(w:World)(t ty e:TypeId)(i:TypeInfo)(z:Value)(bytes:Nat)(ht:P.underlying t=some (.slice e))(hi:P.info? e=some i)(hz:i.zero=some z)(Hm:i.size=1)(hby:i.bytes=bytes)(hzs:z.cells.size=1)
 (v:Value) (n:Nat) (xs:List Value) (tU:w.ownsRow 0 e 1 v n xs) (a:Addr) (c:Nat) (x:Value) (E:w.cell? a=some x) (V:x.oneCell'=true) (h63:n+1<=maxLen) (hb:(n+1)*bytes<=140737488355328):
 ∃v' U ow,(Builtin.append_ #[t,t] ty #[v,.slice (some a) 1 c]).run P w=.ok v' U/\U.ownsRow 0 e 1 v' (n+1) (xs++[x])/\w.grownBy U ow/\(v'.ownBlock=v.ownBlock\/v'.ownBlock=some w.heap.size)/\
  ∀k,ow=some k->v.ownBlock=some k/\∀u t' fz,w.heap[k]? =some (.cells #[u] t' fz)->n=0:=by
 have u7:∀j u,[x][j]? =some u->w.cell? (a.add j)=some u:=λj u hj=>by
  cases j with
  |zero=>cases hj;exact E
  |succ j=>simp at hj
 obtain⟨v',U,Y,J,h3,_,h5⟩:=run_append_own_at (P:=P) w 0 t ty e i z 1 bytes ht hi hz Hm hby hzs d40 v n xs tU a 1 c [x] rfl u7 (λu hu=>by obtain rfl:=bW.1 hu;exact V) h63 hb (cQ _);have ho:=tU;obtain⟨hl,L⟩:=tU;rcases L with⟨rfl,_⟩|⟨g,cap,cur,rfl,_,hg,hnc,_,zE,_⟩
 ·exact⟨v',U,_,Y,J,h3,h5,λk e=>by cases e⟩
 ·by_cases CD:n+1<=cap
  ·refine⟨v',U,_,Y,J,h3,h5,λk e=>⟨e,λu t' fz A=>?_⟩⟩;obtain rfl:g=k:=ay e;rw[hg]at A;injection A with A;injection A with A;rw[A]at zE;simp at zE;omega
  ·have B8:=run_append_grow (P:=P) w t ty e i z ht hi hz ⟨g,0,none⟩ n cap xs (by rw[Hm];exact hl) (ho.cells (g:=g) rfl) a 1 c [x] (by rw[Hm];rfl) u7 (by omega) (by unfold maxLen at h63;omega) (growslice_fits (by omega) (by rw[hby];exact hb));rw[Y]at B8;injection B8 with _ e;refine⟨v',U,none,Y,J,?_,h5,λk e=>by cases e⟩;rw[e];exact⟨rfl,rfl,rfl,by simp,λk A _=>ħ w.drew _ A⟩
def Ns{v n xs c x}(aH:K.Ok)(bY:K.Z.Wf)(Bx:x.oneCell'=true)(tM:wv.ownsRow 0 91 1 v n xs)(uz:wv.cell? ⟨c,0,Option.none⟩=some x)(h42:f 42=v)(h44:f 44=.slice (some ⟨c,0,Option.none⟩) 1 1)(hn8:n<=8)
 (Q:∀g cap w5 ow,w5.ownsRow 0 91 1 (vS (g,n+1,cap)) (n+1) (xs++[x])->(Ka.re wv w5.tape 0).grownBy w5 ow->(∀k,ow=some k->v.ownBlock=some k/\∀u t' fz,wv.heap[k]? =some (.cells #[u] t' fz)->n=0)->(v.ownBlock=some g\/g=wv.heap.size)->WO F Post K w5 ((fb 23).at (oA s (bQ f 45 (vS (g,n+1,cap)))) (.inRegion Dp [8,9,10]::oK7)) cs):
 WO F Post K wv ((fb 23).at (oA s f) (.inRegion Dp [7,8,9,10]::oK7)) cs:=by
 obtain⟨e1,e2,e3,e4,e5⟩:=Yw;refine WO.oper aH bY e1 (by unfold Region.wanted;rw[e4]) e5 (λu w5=>∃g cap ow,u=vS (g,n+1,cap)/\w5.ownsRow 0 91 1 (vS (g,n+1,cap)) (n+1) (xs++[x])/\(Ka.re wv w5.tape 0).grownBy w5 ow/\(∀k,ow=some k->v.ownBlock=some k/\∀u t' fz,wv.heap[k]? =some (.cells #[u] t' fz)->n=0)/\(v.ownBlock=some g\/g=wv.heap.size)) ?_ (λτ d=>?_) ?_
 ·rintro u w5 τ d ⟨g,cap,ow,V,J,h3,h4⟩;exact⟨g,cap,ow,V,J,⟨h3.os,rfl,h3.output,h3.size,h3.block⟩,h4⟩
 ·have wW:=aFR;obtain⟨i0,hi,hz⟩:=aY.1 wW;simp only[dp]at hz;obtain⟨xr,xU,ya⟩:=hz;obtain⟨v',U,ow,Y,J,h3,h5,h4⟩:=aF0 (P:=Tq.prog) (Ka.re wv τ d) 70 o7.type 91 i0 (.pointer Option.none) 8 ((Tq.underlying 70).trans underlying70) hi xr xU ya rfl v n xs tM ⟨c,0,Option.none⟩ 1 x uz Bx (by unfold maxLen;omega) (by omega);refine⟨.value v',v',U,?_,.inl rfl,?_⟩
  ·have hs:=(Q0 s f).1;have E:=(Q0 s f).2;rw[h42]at hs;rw[h44]at E;unfold execOp;simp only[e2,resolve,invoke,builtin,Sem.run_bind,Sem.run_pure,Result.andThen_ok,List.map_toArray,gA,List.map_nil,hs,E,Y]
  ·obtain⟨hl,L⟩:=J;rcases L with⟨_,e⟩|⟨g,cap,cur,rfl,g1,g2,g3⟩
   ·omega
   ·refine⟨g,cap,ow,rfl,⟨hl,.inr ⟨g,cap,cur,rfl,g1,g2,g3⟩⟩,⟨h3.os,rfl,h3.output,h3.size,h3.block⟩,h4,?_⟩;rcases h5 with e|e
    ·exact .inl e.symm
    ·exact .inr (ay e)
 ·rintro u w5 ⟨g,cap,ow,rfl,J,h3,h4,h5⟩;rw[e3,Yv];exact Q g cap w5 ow J h3 h4 h5
def XO{v xs}{w U:World}{B hx z n:Nat}(h:w.ownsRow B hx z v n xs)(hb:∀k,v.ownBlock=some k->U.heap[k]? =w.heap[k]?):U.ownsRow B hx z v n xs:=by
 obtain⟨hl,L⟩:=h;refine⟨hl,?_⟩;rcases L with L|⟨g,cap,cur,rfl,V,J,h3⟩
 ·exact .inl L
 ·exact .inr ⟨g,cap,cur,rfl,V,(hb g rfl).trans J,h3⟩
def yL:∀j,j<11->(Array.replicate 11 true).getD j true=true:=by decide
def Ul{w1 b p n cap}(V:gT w1 s C 1 S (1,11))(hO:OS ν q C S s b w1 p n cap (Array.replicate 11 true) F K w f o a r)(AG:C.cb=sl p n cap)(Zd:n=S.ae.length)(h8:S.ae.length<8)(VK:S.over=false)
 (Q:∀K' C' U,bI ν q 0 K' C' {S with ae:=S.ae++[{}]} U->K'.s=s->Fm s C w1 C' U->WV Post K' U (C0.finish (.int .i64 S.ae.length)) cs):WO F Post K w (oR s f []) (C0::cs):=by
 have wR:=hO.ks;subst wR;subst Zd;have ok:=hO.comp.ok;have wf:=hO.comp.wf;have e3:f 3=fK r:=hO.vals 10 d40 (yL 10 d40);obtain⟨hb,hrw,hrf⟩:=hO.bl (yL 9 d40);have FA:∀k,jB K.s C k->k<w1.heap.size:=λk A=>V.lt A;have hrF:¬jB K.s C r:=λA=>by have:=FA r A;omega
 have two:=V.two;have aCv:r<w.heap.size:=(a6.1 hb).1;have c3:Fr.aj (·=r) w (w.setCell ⟨r,14,Option.none⟩ (ZZ r)):=(Fr.aj.refl (·=r) w).setCell (p:=⟨r,14,Option.none⟩) (.inl rfl) _;have ru:Rx.Safe w (·=r):=λk cur t jo A e=>by
  subst A;rw[hb]at e;injection e with e;injection e with _ e _;subst e;decide
 have vg:=aBV hO.comp c3 ru (λk A e=>hrF (e▸A)) (λk e=>by subst e;omega);have xb:(w.setCell ⟨r,14,Option.none⟩ (ZZ r)).heap[r]? =some (.cells (cells (xZ S.ae.length K.s o a r) {}) 99 (0,0)):=by rw[bT _ _ _ rfl,bk rfl,hb];rfl
 have aF4:(w.setCell ⟨r,14,Option.none⟩ (ZZ r)).heap.size=w.heap.size:=by simp
 generalize hw3:w.setCell ⟨r,14,Option.none⟩ (ZZ r)=w3 at c3 vg xb aF4;have c4:Fr.aj (λ_=>False) w3 {w3 with heap:=w3.heap.push (.cells #[fK r] 91 (0,0))}:=⟨rfl,rfl,rfl,by simp,λk A _=>xS A⟩
 obtain⟨ZT,_⟩:=vg.aA c4;have xp:({w3 with heap:=w3.heap.push (.cells #[fK r] 91 (0,0))}:World).heap[r]? =some (.cells (cells (xZ S.ae.length K.s o a r) {}) 99 (0,0)):=Dh xb;have ZH:({w3 with heap:=w3.heap.push (.cells #[fK r] 91 (0,0))}:World).cell? ⟨w3.heap.size,0,Option.none⟩=some (fK r):=by unfold World.cell?;show(match(w3.heap.push _)[w3.heap.size]? with|some (.cells c _ _)=>_|_=>_)=_;rw[cD,bk rfl];rfl
 have DT:({w3 with heap:=w3.heap.push (.cells #[fK r] 91 (0,0))}:World).heap.size=w.heap.size+1:=by show(w3.heap.push _).size=_;rw[Array.size_push,aF4]
 obtain⟨g1,g2,g3,g4,g5,g6,g7,g8⟩:=aFo K.s r w3.heap.size S.ae.length cap p f;have Ro:w.cell? ⟨r,14,Option.none⟩=some .nilFunc/\w.frozen? ⟨r,14,Option.none⟩=false:=by unfold World.cell? World.frozen?;rw[hb];exact⟨rfl,rfl⟩
 have Bi:w3.cell? ⟨K.s,4,Option.none⟩=some (sl p S.ae.length cap):=by have:=vg.rep.sr.blk.at (i:=4) rfl;rw[AG]at this;exact this
 generalize hw4:({w3 with heap:=w3.heap.push (.cells #[fK r] 91 (0,0))}:World)=w4 at c4 ZT xp ZH DT;have aHg:oR K.s f []=o6 K.s r f:=by unfold o6;rw[dG e3]
 rw[aHg];refine WO.aIP (csl:=[]) ok wf 19 g1 (wv':=w4) (by
  rw[g4];refine Bo rfl (w1:=w3) ⟨⟨_,Ro.1⟩,Ro.2,hw3.symm⟩ (Bo rfl (w1:=w3) ⟨Bi,rfl⟩ (Bo rfl (w1:=w4) ⟨rfl,⟨⟨rfl,rfl,nofun⟩,nofun⟩,hw4.symm⟩ ⟨rfl,rfl⟩))) ?_
 rw[g2,g3];have wQ:=ZT.rep.sr.row;have hlen:C.rs.length=S.ae.length:=ZT.rep.len;refine Ns (x:=fK r) (c:=w3.heap.size) ok wf rfl wQ ZH (g7.trans (AG.symm)) g8 (by omega) λgg vZ w5 ow Mr EU HM H3=>?_;rw[hlen]at Mr;have hsb:=ZT.rep.sr.blk;have tW:K.s≠r:=λe=>hrF (.inl e.symm);have Bg:some K.s≠ow:=λe=>ZT.rep.sr.IJ (HM _ e.symm).1;have aOA:K.s<w4.heap.size:=hsb.lt;have Fy:w5.heap[K.s]? =some (.cells #[.int .i32 1,.int .u32 0,aG C.st,aG C.lk,C.cb] 79 (0,0)):=(EU.block K.s aOA Bg).trans hsb;have aPz:some r≠ow:=λe=>by
  have:=zh wQ (HM _ e.symm).1 xp;cases this
 have aKh:r<w4.heap.size:=by omega
 have hr5:w5.heap[r]? =some (.cells (cells (xZ S.ae.length K.s o a r) {}) 99 (0,0)):=(EU.block r aKh aPz).trans xp;have aKQ:∀k cur t jo,gg=k->w5.heap[k]? =some (.cells cur t jo)->t=91:=λk cur t jo e e'=>zh Mr (show(vS (gg,S.ae.length+1,vZ)).ownBlock=some k by rw[<-e];rfl) e';have aPm:gg≠K.s:=λe=>by have:=aKQ K.s _ _ _ e Fy;cases this
 have aPn:gg≠r:=λe=>by have:=aKQ r _ _ _ e hr5;cases this
 obtain⟨d1,d2,d3,d4⟩:=aFn K.s r (oF7 K.s r w3.heap.size S.ae.length cap p f) (gg,S.ae.length+1,vZ);have e8:(fb 23).at (oA K.s (bQ (oF7 K.s r w3.heap.size S.ae.length cap p f) 45 (vS (gg,S.ae.length+1,vZ)))) (.inRegion Dp [8,9,10]::oK7)=o8 K.s r (oF7 K.s r w3.heap.size S.ae.length cap p f) (gg,S.ae.length+1,vZ):=by unfold o8;rw[dG g5,dG g6]
 rw[hlen,e8];have aGv:∃x,w5.cell? ⟨K.s,4,Option.none⟩=some x:=by unfold World.cell?;rw[Fy];exact⟨_,rfl⟩
 have aPq:w5.frozen? ⟨K.s,4,Option.none⟩=false:=by unfold World.frozen?;rw[Fy];rfl
 refine WO.aIP (csl:=[]) ok wf 10 d1 (wv':=w5.setCell ⟨K.s,4,Option.none⟩ (vS (gg,S.ae.length+1,vZ))) (by
  rw[d4];exact Bo rfl ⟨aGv,aPq,rfl⟩ ⟨rfl,rfl⟩) ?_
 rw[d2,d3];have h6:∀k,(w5.setCell ⟨K.s,4,Option.none⟩ (vS (gg,S.ae.length+1,vZ))).heap[k]? =if K.s=k then(w5.heap[k]?).map (λ| .cells c e fr=>.cells (c.setIfInBounds 4 (vS (gg,S.ae.length+1,vZ))) e fr|o=>o)else w5.heap[k]? :=λk=>bT _ _ _ rfl k
 have h6r:(w5.setCell ⟨K.s,4,Option.none⟩ (vS (gg,S.ae.length+1,vZ))).heap[r]? =some (.cells (cells (xZ S.ae.length K.s o a r) {}) 99 (0,0)):=by rw[h6,aX tW];exact hr5
 have h6t:(w5.setCell ⟨K.s,4,Option.none⟩ (vS (gg,S.ae.length+1,vZ))).tape=w5.tape/\(w5.setCell ⟨K.s,4,Option.none⟩ (vS (gg,S.ae.length+1,vZ))).os=w5.os/\(w5.setCell ⟨K.s,4,Option.none⟩ (vS (gg,S.ae.length+1,vZ))).output=w5.output/\(w5.setCell ⟨K.s,4,Option.none⟩ (vS (gg,S.ae.length+1,vZ))).heap.size=w5.heap.size:=⟨rfl,rfl,rfl,by simp⟩
 generalize w5.setCell ⟨K.s,4,Option.none⟩ (vS (gg,S.ae.length+1,vZ))=w6 at h6 h6r h6t;have hE:∀k,k≠K.s->k≠r->(fG r 16 (1,11) w6).heap[k]? =w5.heap[k]? :=λk k1 k2=>by rw[df k2,h6,aX (dT k1)]
 have aLb:(fG r 16 (1,11) w6).heap.size=w5.heap.size:=by unfold fG;simp[h6t.2.2.2]
 have hcE:Fr.aj (λk=>k=K.s\/ow=some k\/k=r) (Ka.re w4 w5.tape 0) (fG r 16 (1,11) w6):=by
  refine⟨h6t.2.1.trans EU.os,h6t.1,h6t.2.2.1.trans EU.output,?_,λk A Q=>?_⟩
  ·rw[aLb];exact EU.size
  ·rw[hE k (λe=>Q (.inl e)) (λe=>Q (.inr (.inr e)))];exact EU.block k A (λe=>Q (.inr (.inl e.symm)))
 have hsE:aM (fG r 16 (1,11) w6) K.s #[.int .i32 1,.int .u32 0,aG C.st,aG C.lk,.slice (some ⟨gg,0,Option.none⟩) (C.rs.length+1) vZ] 79 (0,0):=by unfold aM;rw[df tW,h6,bk rfl,Fy,hlen];rfl
 have aKf:(fG r 16 (1,11) w6).ownsRow 0 91 1 (.slice (some ⟨gg,0,Option.none⟩) (C.rs.length+1) vZ) (C.rs.length+1) ((C.rs++[r]).map aG):=by rw[eN,hlen];exact XO Mr (λk A=>by cases A;exact hE gg aPm aPn)
 have hbE:aM (fG r 16 (1,11) w6) r (cells (xZ S.ae.length K.s o a r) {}) 99 (1,11):=by unfold aM;rw[iH h6r];rfl
 have L5:2<gg/\(jB K.s C gg\/w1.heap.size<=gg):=by
  rcases H3 with e|e
  ·exact⟨ZT.rep.RO gg e,.inl (.inr (.inr (.inr (.inr (.inr (.inr (.inl e)))))))⟩
  ·rw[e,DT];have:=hO.fm.kp.size;exact⟨by omega,.inr (by omega)⟩
 have aK8:=XV (o:=o) (a:=a) (gT.re (τ:=w5.tape) (d:=0) ZT.rep) (Tc:=λk=>ow=some k) (λk e=>⟨(HM k e).1,λx t jo A=>eK ((HM k e).2 x t jo A)⟩) hrF (by omega) (λcur t jo e=>by
  have e:w4.heap[r]? =some (.cells cur t jo):=e;rw[xp]at e;injection e with e;injection e with _ e _;exact e.symm) hcE hsE aKf L5.1 hbE rfl
 have aKT:=hO.fm;refine Og.go (C:=C) (w0:=w1) (r:=r) (o:=o) (a:=a) ⟨⟨w4,1,ZT⟩,aK8,rfl,⟨_,h6r,rfl,rfl,rfl,rfl,rfl⟩,hO.c6 (yL 6 d40),hO.c7 (yL 7 d40),hO.c67 (yL 6 d40) (yL 7 d40),hrf,⟨⟨⟨h6t.2.1.trans (EU.os.trans (c4.os.trans (c3.os.trans hO.fm.kp.os.1))),h6t.2.2.1.trans (EU.output.trans (c4.output.trans (c3.output.trans hO.fm.kp.os.2)))⟩,?_,λk ob A hnk=>?_⟩,λk A=>?_⟩,cV (Nat.le_of_lt (gH (hO.comp.lo.ge _ (.inl hO.comp.bP)) (V.lt (.inl rfl)))) hrw⟩ h8 VK Q
 ·rw[aLb];have:=EU.size;have hz:(Ka.re w4 w5.tape 0).heap.size=w4.heap.size:=rfl;have:=aKT.kp.size;omega
 ·have Hn:=(a6.1 A).1;have hkw:=aKT.kp.keep k ob A hnk;have aPb:=(a6.1 hkw).1;have hkr:k≠r:=by omega
  rw[hE k (λe=>hnk (.inl e)) hkr];have hk4:w4.heap[k]? =some ob:=(c4.block k (by omega) (λe=>e)).trans ((c3.block k aPb hkr).trans hkw);exact(EU.block k (a6.1 hk4).1 (λe=>hnk (.inr (.inr (.inr (.inr (.inr (.inr (.inl (HM k e.symm).1))))))))).trans hk4
 ·rcases A with A|A|A|A|A|A|A|⟨i,r',v,jf,wP,A⟩
  ·exact .inl (.inl A)
  ·exact .inl (.inr (.inl A))
  ·exact .inl (.inr (.inr (.inl A)))
  ·exact .inl (.inr (.inr (.inr (.inl A))))
  ·exact .inl (.inr (.inr (.inr (.inr (.inl A)))))
  ·exact .inl (.inr (.inr (.inr (.inr (.inr (.inl A))))))
  ·have:gg=k:=by cases A;rfl
   subst this;exact L5.2
  ·have h1':(C.rs++[r])[i]? =some r':=jf;have h2':(C.vs++[xZ S.ae.length K.s o a r])[i]? =some v:=wP;have BG:=ZT.rep.mW;by_cases hi:i<C.rs.length
   ·rw[fy hi]at h1';rw[fy (by omega)]at h2';exact .inl (.inr (.inr (.inr (.inr (.inr (.inr (.inr ⟨i,r',v,h1',h2',A⟩)))))))
   ·rw[iz (by omega)]at h1' h2';have m1:=bW.1 (cM h1');have m2:=bW.1 (cM h2');subst m1 m2;rw[Ju A];exact .inr hrw
def bI.open_(h:bI ν q 0 K C S wv)(h8:S.ae.length<8)(VK:S.over=false)
 (Q:∀K' C' U,bI ν q 0 K' C' {S with ae:=S.ae++[{}]} U->K'.s=K.s->Fm K.s C wv C' U->WV Post K' U (C0.finish (.int .i64 S.ae.length)) cs):WV Post K wv (Frame.enter prog 23 #[aG K.s] .normal) (C0::cs):=by
 show WV Post K wv (Gq K.s) (C0::cs);obtain⟨a1,a2,a3,a4,a5⟩:=Ur K.s;refine WV.uM (csl:=[]) h.ok h.wf 10 a1 (wv':=wv) (by rw[a4];exact⟨rfl,rfl⟩) ?_;rw[a2,a3];refine WV.lock h.ok h.wf (by rw[a5];trivial) h.free.1 h.free.2 ?_;obtain⟨V,f1⟩:=h.zi 1;generalize wv.setCell ⟨K.s,0,Option.none⟩ (.int .i32 1)=w1 at V f1 ⊢;obtain⟨b1,b2,b3⟩:=Uq K.s;refine WV.uM (csl:=[]) h.ok h.wf 14 b1 (wv':=w1) (by rw[b3];exact⟨rfl,rfl⟩) ?_;rw[b2];refine V.Yk VK ?_;obtain⟨p,cap,AG,_⟩:=V.rep.sr.len;have hlen:C.rs.length=S.ae.length:=V.rep.len;rw[hlen]at AG;have AG:C.cb=sl p S.ae.length cap:=AG;obtain⟨c1,c2,c3,c4⟩:=Un K.s p S.ae.length cap h8;refine WV.uM (csl:=[]) h.ok h.wf 12 c1 (wv':=w1) (by
  rw[c4];refine iI ⟨?_,cq⟩;have:=V.rep.sr.blk.at (i:=4) rfl;rw[AG]at this;exact this) ?_
 rw[c2,c3];refine WV.ofO (Ld (w0:=w1) (b:=K.b) (p:=p) (n:=S.ae.length) (cap:=cap) ⟨V,rfl,rfl,Fm.refl _ _ _,?_,?_,?_,?_,?_,?_,?_,?_⟩ AG λF K' w f o a r hO=>?_)
 any_goals (intro e;exact absurd e d40)
 ·intro j hj e;exact absurd e (by revert j;decide)
 ·exact Ul V.rep hO AG rfl h8 VK λK' C' U g1 g2 g3=>Q K' C' U g1 g2 (f1.trans g3)
variable {p:Addr}{ev:Value}
structure aLB(wv w:World)fw(room:Nat):Prop where
 bP:w.heap[wv.heap.size+5]? =some (.cells (aBD (wv.heap.size+2) (wv.heap.size+4)) 79 (0,0))
 st:aM w (wv.heap.size+2) #[.int .i32 0,.int .u32 0,.bool fw,.int .i64 room,.map (some wv.heap.size),.map (some (wv.heap.size+1))] 65 (0,0)
 lk:aM w (wv.heap.size+4) #[.int .i32 0,.int .u32 0,.map (some (wv.heap.size+3))] 69 (0,0)
 mo:SM w wv.heap.size []
 mr:SM w (wv.heap.size+1) []
 lb:SM w (wv.heap.size+3) []
 old:∀k,k<wv.heap.size->w.heap[k]? =wv.heap[k]?
 os:w.os=wv.os/\w.output=wv.output
def aJw(n:Nat)(p:Addr)(ev:Value):Cp:={st:=n+2,lk:=n+4,lb:=n+3,mo:=n,mr:=n+1,cb:=.slice none 0 0,rs:=[],vs:=[],p:=p,ev:=ev}
def aJv(K:Cy)(s:Nat):Cy:={K with Z:=K.Z.jk s,s:=s,m:=K.n}
def Rest.comp{room w fw}(h:Rest ν K p ev wv)(Y:room<=40)(hm:aLB wv w fw room)(hs:¬K.Z.bP (wv.heap.size+5)/\¬K.Z.iq (wv.heap.size+5)):bI ν q 0 (aJv K (wv.heap.size+5)) (aJw wv.heap.size p ev) (Fb fw room) (fG (wv.heap.size+5) 5 (0,0) w):=by
 have L:∀k,k≠wv.heap.size+5->(fG (wv.heap.size+5) 5 (0,0) w).heap[k]? =w.heap[k]? :=λk A=>df A;have uz:∀{b:Nat} {u:Value},wv.cell? ⟨b,0,none⟩=some u->(fG (wv.heap.size+5) 5 (0,0) w).cell? ⟨b,0,none⟩=some u:=λ{b u} e=>by
  have hb:=Į wv _ e;have hb:b<wv.heap.size:=hb;unfold World.cell? at e ⊢;rw[L b (by omega),hm.old b hb];exact e
 refine {ok:=⟨h.ok.low,h.ok.wk,h.ok.mn,h.ok.pos,h.ok.lt,h.ok.bn,h.ok.cl,h.ok.hb,λe=>?_⟩,wf:=⟨λg k e=>.inl (h.wf.bP g k e),λg k e e'=>?_,h.wf.Eo⟩,h0:=h.h0,b0:=h.b0,mn:=rfl,nn:=?_,bP:=.inr rfl,Dl:=λ_ e=>hs.1 (h.OQ _ e),yS:=h.yS,low:=λj V J=>h.low j V (h.bn▸J),hi:=h.hi,Qa:=h.Qa,OQ:=λr e=>.inl (h.OQ r e),lo:=⟨λk A=>(by
  have:=h.los;rcases A with(A|rfl)|A|A|A
  ·exact h.lo.ge k (.inl A)
  ·omega
  ·exact h.lo.ge k (.inr (.inl A))
  ·exact h.lo.ge k (.inr (.inr (.inl A)))
  ·exact h.lo.ge k (.inr (.inr (.inr A)))),h.lo.lq,h.lo.lt⟩,own:=λi r x e=>?_,rep:=?_,sw:=oW.new _ _ _,ES:=yE.new _ _ Y}
 ·have e:K.b<K.n:=e;have:=h.bn;omega
 ·rcases e' with e'|e'
  ·exact h.wf.apart g k e e'
  ·exact hs.2 ⟨g,k,e,e'⟩
 ·show K.n=K.b+0;have:=h.bn;omega
 ·cases e
 ·refine {sr:=⟨?_,⟨rfl,.inl ⟨rfl,rfl⟩⟩⟩,jC:=⟨?_,⟨[],hm.mo.block (L _ (by show wv.heap.size≠_;omega)),.nil⟩,hm.mr.block (L _ (by show wv.heap.size+1≠_;omega))⟩,nO:=⟨?_,hm.lb.block (L _ (by show wv.heap.size+3≠_;omega))⟩,len:=rfl,mW:=rfl,cn:=λi r v x e=>(by cases e),apart:=λi j r r' v v' _ e=>(by cases e),low:=λi r v e=>(by cases e),maps:=⟨(by show wv.heap.size+3≠wv.heap.size;omega),(by show wv.heap.size+3≠wv.heap.size+1;omega),(by show wv.heap.size≠wv.heap.size+1;omega)⟩,RO:=λk e=>(by cases e),gl:=⟨uz h.gl.more,uz h.gl.et,uz h.gl.QI,h.gl.oU⟩}
  ·unfold aM;show(fG (wv.heap.size+5) 5 (0,0) w).heap[wv.heap.size+5]? =_;rw[iH hm.bP];rfl
  ·have:=hm.st;unfold aM at this ⊢;show(fG (wv.heap.size+5) 5 (0,0) w).heap[wv.heap.size+2]? =_;rw[L _ (by omega),this];rfl
  ·have:=hm.lk;unfold aM at this ⊢;show(fG (wv.heap.size+5) 5 (0,0) w).heap[wv.heap.size+4]? =_;rw[L _ (by omega),this];rfl
def Rest.new(h:Rest ν K p ev wv)fw(room:Nat)(Y:room<=40)
 (Q:∀K' C' U,bI ν q 0 K' C' (Fb fw room) U->Kp (λ_=>False) wv U->(∀k,jB K'.s C' k->wv.heap.size<=k)->C'.p=p->C'.ev=ev->WV Post K' U (C0.finish (aG K'.s)) cs):WV Post K wv (Frame.enter prog 15 #[.bool fw,.int .i64 room] .normal) (C0::cs):=λw X=>by
 have uG:wv.heap.size=w.heap.size:=X.size;have hs:¬K.Z.bP (wv.heap.size+5)/\¬K.Z.iq (wv.heap.size+5)/\¬K.Z.ic (wv.heap.size+5):=by
  refine⟨λe=>?_,λe=>?_,λe=>?_⟩
  ·have:=zW X (.inl e);omega
  ·have:=zW X (.inr (.inl e));omega
  ·have:=zW X (.inr (.inr e));omega
 refine WV.aDx h.ok h.wf (f:=15) func15 d40 rfl (qg xj) (λv U=>v=aG (wv.heap.size+5)/\aLB wv U fw room) ?_ (λτ d=>(aCc (Ka.re wv τ d) fw room).mono ?_) ?_ w X
 ·rintro v U τ d ⟨V,J⟩;exact⟨V,J.bP,J.st,J.lk,J.mo.block rfl,J.mr.block rfl,J.lb.block rfl,J.old,J.os⟩
 ·rintro e U ⟨rfl,V,J,h3,h4,h5,h6,h7⟩;exact⟨_,rfl,rfl,V,J,h3,h4,h5,h6,λk A=>h7.block k A,⟨h7.os,h7.output⟩⟩
 ·rintro v U ⟨rfl,hm⟩;intro w2 D1;have JD:w2.heap[wv.heap.size+5]? =some (.cells (aBD (wv.heap.size+2) (wv.heap.size+4)) 79 (0,0)):=by
   rw[<-D1.same _ (eY.2 ⟨hs.1,hs.2.1,hs.2.2⟩)];exact hm.bP
  have cell:∀{i:Nat} {u:Value},(aBD (wv.heap.size+2) (wv.heap.size+4))[i]? =some u->w2.cell? ⟨wv.heap.size+5,i,none⟩=some u:=λ{i u} e=>by
   unfold World.cell?;rw[JD];exact e
  have frz:∀i,w2.frozen? ⟨wv.heap.size+5,i,none⟩=false:=λi=>by
   unfold World.frozen?;rw[JD];simp
  refine WT.jk (s':=wv.heap.size+5) h.bn (λg k A e=>hs.2.1 ⟨g,k,A,e⟩) ⟨cell rfl,frz 5⟩ ⟨cell rfl,frz 6⟩ ⟨by unfold World.shape?;rw[JD];rfl,λ_=>cell rfl⟩ ?_;have E6:=Su D1 hs.1 hs.2.1 hs.2.2 hm.bP (by show 5<=8;decide) (.inl rfl);have hC:bI ν q 0 (aJv K (wv.heap.size+5)) (aJw wv.heap.size p ev) (Fb fw room) (fG (wv.heap.size+5) 5 (0,0) U):=h.comp Y hm ⟨hs.1,hs.2.1⟩;refine Q _ _ _ hC ⟨hm.os,?_,λk o A _=>?_⟩ (λk A=>?_) rfl rfl w2 E6
  ·have:wv.heap.size+5<U.heap.size:=(a6.1 hm.bP).1;have J:(fG (wv.heap.size+5) 5 (0,0) U).heap.size=U.heap.size:=by unfold fG;simp
   omega
  ·have Hn:=(a6.1 A).1;rw[df (by omega),hm.old k Hn];exact A
  ·rcases A with A|A|A|A|A|A|A|⟨i,r',v,jf,_⟩
   ·have A:k=wv.heap.size+5:=A;omega
   ·have A:k=wv.heap.size+2:=A;omega
   ·have A:k=wv.heap.size+4:=A;omega
   ·have A:k=wv.heap.size+3:=A;omega
   ·have A:k=wv.heap.size:=A;omega
   ·have A:k=wv.heap.size+1:=A;omega
   ·cases A
   ·cases jf
end
def Gh.JM(Z:Gh)(s:Nat):Gh:={Z with Dl:=λx=>Z.Dl x\/x=s}
def stops(K:Cy):Cy:={K with Z:=Gh.JM K.Z K.s}
section
variable {P:Program}{Z:Gh}{b s p m h n:Nat}{ρ:Nat->aU}{wt sm:Nat}{t:Trace}{gs:Array Goroutine}{w:World}{q:Nat->Nat}
def Core.JM(C:Core P Z b s p m h ρ wt sm t gs w q)r:Core P (Gh.JM Z r) b s p m h ρ wt sm t gs w q:=
 ⟨⟨C.wf.bP,C.wf.apart,C.wf.Eo⟩,C.pos,C.ge,λi g hi hg=>by
   have:=C.idle i g hi hg;revert this;cases ρ i<;>exact id,⟨⟨C.wd.chans,C.wd.ans,C.wd.seats,C.wd.apart,C.wd.qH,⟨C.wd.keep.1,λx E=>⟨(C.wd.keep.2 x E).1,λQ=>(C.wd.keep.2 x E).2 λe=>Q (.inl e)⟩⟩,C.wd.both,C.wd.Dm,C.wd.own,C.wd.UD⟩,⟨C.wd.sI,C.wd.wh,C.wd.J5,C.wd.NF,C.wd.ND,C.wd.Wj,C.wd.wky,C.wd.NT⟩⟩,⟨C.td.above,C.td.nL,C.td.px,C.td.ho,C.td.rel,C.td.norel,C.td.ple⟩⟩
def UZ{v fn}(bY:Z.Wf)(hs:Z.bP s)(ho:Z.Dl s):JP Z Z.ic h 0 0 w (w.setCell ⟨s,7,none⟩ v) (seen prog fn (gV [.st .plain ⟨s,7,none⟩ v]).toArray):=by
 have oU:∀e∈seen prog fn (gV [.st .plain ⟨s,7,none⟩ v]).toArray,e=⟨.cell ⟨s,7,none⟩,true,false⟩:=λe he=>by
  have:=Ġ he;simp only[gV,cH,bm,cU,gb]at this;exact this
 refine⟨λhK=>?_,λs' _=>⟨⟨į _ _ _ _ (λe=>?_),aZ rfl⟩,į _ _ _ _ (λe=>?_),aZ rfl⟩,λc k _ A=>ku rfl A rfl,λe he=>?_,ĩ (λe he=>by rw[oU e he];simp) 0⟩
 ·have fT:∀r,(w.setCell ⟨s,7,none⟩ v).shape? r=w.shape? r:=λr=>by
   unfold World.shape?;rw[bT _ _ _ rfl];by_cases e:s=r
   ·rw[bk e];cases w.heap[r]? with
    |none=>rfl
    |some x=>cases x<;>simp
   ·rw[aX e]
  refine⟨λg k A=>?_,λs' zD=>⟨(fT s').trans (hK.2 s' zD).1,λQ=>?_⟩⟩
  ·have key:∀o',(w.setCell ⟨s,7,none⟩ v).cell? ⟨k.r,o',none⟩=w.cell? ⟨k.r,o',none⟩:=λo'=>by
    refine į _ _ _ _ ?_;intro e;have:s=k.r:=dv Addr.block e;exact bY.apart g k A (this▸hs)
   simp only[key,fT];exact hK.1 g k A
  ·refine(į _ _ _ _ (λe=>?_)).trans ((hK.2 s' zD).2 Q);have:s=s':=dv Addr.block e;exact Q (this▸ho)
 ·have:=dv Addr.off e;have:(7:Nat)=5:=this;omega
 ·have:=dv Addr.off e;have:(7:Nat)=6:=this;omega
 ·rw[oU e he];refine⟨λx E=>?_,λs' _=>fD (λm x=>by cases x) _⟩;simp only[MemAct.ofEvent,MemAct.touch?,cI]at E;subst E;refine⟨λfT=>?_,λ_ g hp=>?_,λe=>?_⟩
  ·rcases fT with⟨s',_,e|e⟩|⟨_,_,_,e|e⟩
   ·have:=dv Addr.off (ģ e);have:(7:Nat)=5:=this;omega
   ·have:=dv Addr.off (ģ e);have:(7:Nat)=6:=this;omega
   ·cases e
   ·cases e
  ·obtain⟨g',k,o',A,_,e,_⟩:=hp;have:s=k.r:=dv Addr.block (ģ e);exact bY.apart g' k A (this▸hs)
  ·cases e
def aBe{N ty φ wv v}(bY:Z.Wf)(hs:Z.bP s)(X:Vw (Z.cut N ty φ) wv w):Vw (Z.cut N ty φ) wv (w.setCell ⟨s,7,none⟩ v):=by
 have hcut:=X.cut s 5 (iG hs);obtain⟨cv0,ca0,t0,e10,e20,_⟩:=hcut;have DZ:∀r:Nat,s≠r->(w.setCell ⟨s,7,none⟩ v).heap[r]? =w.heap[r]? :=λr Y=>by
  rw[bT _ _ _ rfl,aX Y]
 refine⟨?_,X.os,λr Y=>?_,λr n Y=>?_,λr Y=>?_,X.plain,X.loops⟩
 ·rw[X.size];simp[World.setCell]
 ·rw[DZ r (λe=>?_)]
  ·exact X.same r Y
  ·subst e;have:=Y.1;rw[iG hs]at this;cases this
 ·by_cases e:s=r
  ·subst e;obtain⟨cv,ca,t,e1,e2,e3,e4,e5,e6⟩:=X.cut s n Y;have:n=5:=by rw[iG hs]at Y;exact(ay Y).symm
   refine⟨cv,ca.setIfInBounds 7 v,t,e1,?_,e3,by simpa using e4,λi hi=>?_,e6⟩
   ·rw[bT _ _ _ rfl,bk rfl,e2];rfl
   ·rw[bJ (by omega)];exact e5 i hi
  ·rw[DZ r e];exact X.cut r n Y
 ·by_cases e:s=r
  ·subst e;obtain⟨_,o,ho,hoc⟩:=X.chan s Y;rw[e20]at ho;obtain rfl:=ay ho;cases hoc.off
  ·rw[DZ r e];exact X.chan r Y
end
section
variable {Post:Value->World->Prop}{K:Cy}{wv:World}{cs:List Frame}{ν:Old}{q:Bool}{s:Nat}{C:Cp}{m:Int}{S:Sv}{C0:Frame}
def bI.aBC(h:bI ν q m K C S wv):bI ν q m (stops K) C {S with over:=true} wv:=
 {ok:=⟨h.ok.low,h.ok.wk,h.ok.mn,h.ok.pos,h.ok.lt,h.ok.bn,h.ok.cl,h.ok.hb,h.ok.bP⟩,wf:=⟨h.wf.bP,h.wf.apart,h.wf.Eo⟩,h0:=h.h0,b0:=h.b0,mn:=h.mn,nn:=h.nn,bP:=h.bP,Dl:=λe=>(by cases e),yS:=h.yS,low:=h.low,hi:=h.hi,Qa:=h.Qa,OQ:=λr e=>e.elim (h.OQ r) λe=>e▸h.bP,lo:=⟨h.lo.ge,h.lo.lq,h.lo.lt⟩,own:=h.own,
  rep:=⟨h.rep.sr,h.rep.jC,h.rep.nO,h.rep.len,h.rep.mW,h.rep.cn,h.rep.apart,h.rep.low,h.rep.maps,h.rep.RO,h.rep.gl⟩,sw:=⟨h.sw.Bl,h.sw.cn,h.sw.up,h.sw.held,h.sw.st,h.sw.rf⟩,ES:=⟨h.ES.room,h.ES.cn,h.ES.st⟩}
def bI.halt{fr fr'}(h:bI ν q m K C S wv)(hw:Ky.walk prog 1 fr [] []=some (fr',[],[],[(18,[.st .plain ⟨K.s,7,Option.none⟩ (.bool true)])]))(uv:(G fr cs).status=.running)(Q:bI ν q m (stops K) C {S with over:=true} wv->WV Post (stops K) wv fr' cs):WV Post K wv fr cs:=λw X=>by
 have h':=h.aBC;refine WT.grow (K':=stops K) rfl rfl rfl (λ_ _ h=>h) (λ_ _ _ _ p _ _ C=>⟨p,Core.JM C K.s⟩) ?_;refine WT.step h'.ok uv λU ha hK=>?_;have wP:Vw ((stops K).cut 2) wv U:=dm X ha;obtain⟨cv,ca,t,e1,e2,e3,e4,e5,e6⟩:=wP.cut K.s 5 (iG h'.bP);have fT:=(hK.2 K.s h'.bP).1;have h8:ca.size=8:=by unfold World.shape? at fT;rw[e2]at fT;exact(Prod.mk.inj (ay fT)).2
 have L:∃x,U.cell? ⟨K.s,7,Option.none⟩=some x:=by unfold World.cell?;rw[e2];exact⟨ca[7],by simp[h8]⟩
 have hf:U.frozen? ⟨K.s,7,Option.none⟩=false:=by unfold World.frozen?;rw[e2];simp
 exact⟨_,_,_,0,kH hw ((stops K).h==0) cs U _ ⟨L,hf,rfl⟩,UZ h'.wf h'.bP (.inr rfl),Q h' _ (aBe h'.wf h'.bP wP)⟩
def aAe(S:Sv)c:(S.drop c).1.ae.length=S.ae.length:=by
 unfold Sv.drop;split
 ·rfl
 ·unfold Sv.mark Sv.lI Sv.set;dsimp only;split
  ·split<;>simp
  ·simp
def Vl{i:Nat}(h:∀j x,j<i->S.ae[j]? =some x->x.over=true):∀j x,j<i+1->(S.drop (i:Int)).1.ae[j]? =some x->x.over=true:=by
 intro j x hj E;cases L:S.ae[i]? with
 |none=>
  have e:S.drop (i:Int)=(S,false):=by unfold Sv.drop Sv.conn;simp[L]
  rw[e]at E;by_cases hji:j=i
  ·subst hji;rw[L]at E;cases E
  ·exact h j x (by omega) E
 |some y=>
  cases ho:y.over with
  |true=>
   have e:S.drop (i:Int)=(S,false):=by unfold Sv.drop Sv.conn;simp[L,ho]
   rw[e]at E;by_cases hji:j=i
   ·subst hji;rw[L]at E;obtain rfl:=ay E;exact ho
   ·exact h j x (by omega) E
  |false=>
   rw[drop_eq L ho]at E;rcases jR E with⟨_,rfl⟩|⟨tW,E⟩
   ·rfl
   ·exact h j x (by omega) E
def QP{f}{i n:Nat}(V:f 17=.int .i64 n)(J:f 18=.int .i64 i):sN f i n=f:=by unfold sN;rw[dG V,dG J]
def bI.stop(h:bI ν false 0 K C S wv)(Q:∀K' p ev U,Rest ν K' p ev U->Kp (jB K.s C) wv U->WV Post K' U (C0.finish (.tuple #[])) cs):WV Post K wv (Frame.enter prog 18 #[aG K.s] .normal) (C0::cs):=by
 show WV Post K wv (FX K.s) (C0::cs);obtain⟨a1,a2,a3,a4,a5⟩:=Tu K.s;refine WV.uM (csl:=[]) h.ok h.wf 6 a1 (wv':=wv) (by rw[a4];exact⟨rfl,rfl⟩) ?_;rw[a2,a3];refine WV.lock h.ok h.wf (by rw[a5];trivial) h.free.1 h.free.2 ?_;obtain⟨V,f1⟩:=h.zi 1;generalize wv.setCell ⟨K.s,0,Option.none⟩ (.int .i32 1)=w1 at V f1 ⊢;obtain⟨b1,b2,b3⟩:=Tt K.s;refine WV.uM (csl:=[]) h.ok h.wf 13 b1 (wv':=w1) (by rw[b3];exact⟨rfl,rfl⟩) ?_;rw[b2];show WV Post K w1 (XA K.s) (C0::cs);refine V.halt (Tp K.s) rfl λJ=>?_;obtain⟨h4,tM⟩:w1.cell? ⟨K.s,4,Option.none⟩=some C.cb/\∃(n cap:Nat) (p:Option Addr),C.cb=sl p n cap/\n=S.ae.length/\n<=8:=by obtain⟨p,cap,e,_⟩:=V.rep.sr.len;exact⟨V.rep.sr.blk.at (i:=4) rfl,C.rs.length,cap,p,e,V.rep.len,Jv V.rep V.sw⟩
 obtain⟨n,cap,p,AG,Zd,h8⟩:=tM;obtain⟨c1,c2,c3,c4,c5,c6⟩:=Tn K.s n cap p;refine WV.uM (csl:=[]) J.ok J.wf 12 c1 (wv':=w1) (by rw[c4];exact iI ⟨AG▸h4,cq⟩) ?_;rw[c2,c3,<-QP c5 c6];refine WV.while (hR:=λj K' U a=>∃(i:Nat) (g:Nat->Value) (C':Cp) (S':Sv),a=sA K.s (sN g i n)/\i+j=n/\bI ν false 1 K' C' S' U/\K'.s=K.s/\S'.ae.length=n/\(∀(j:Nat) (x:Cn),j<i->S'.ae[j]? =some x->x.over=true)/\Fm K.s C wv C' U) (n:=n) (λj K' U a ⟨i,g,C',S',_,_,hC,_⟩=>hC.ok) ⟨0,_,C,_,rfl,by omega,J,rfl,Zd.symm,λj x hj=>by omega,f1⟩ ?_;rintro j K' U a ⟨i,g,C',S',rfl,wV,hC,hs,hl,GV,hf⟩ again;obtain⟨d1,d2,d3,d4⟩:=TP K.s i n g;show WV Post K' U ((fb 18).at (sA K.s (sN g i n)) MV) (C0::cs);refine WV.uM (csl:=[]) hC.ok hC.wf 5 d1 (wv':=U) (by rw[d4];exact⟨rfl,rfl⟩) ?_;rw[d2,d3];refine WV.cond hC.ok (aJc K.s (sN g i n) _) ?_;by_cases hi:i<n
 ·have e:decide ((i:Int)<(n:Int))=true:=mL (by omega);rw[e];refine WV.skip hC.ok ?_;generalize hG:bQ (sN g i n) 19 (.bool true)=G1;have g18:G1 18=.int .i64 i:=by subst hG;rfl
  have g17:G1 17=.int .i64 n:=by subst hG;rfl
  obtain⟨x1,x2,x3,x4⟩:=TQ K.s i G1;rw[dG g18]at x1 x2 x3 x4;refine WV.uM (csl:=[]) hC.ok hC.wf 11 x1 (wv':=U) (by rw[x4];exact⟨rfl,rfl⟩) ?_;rw[x2,x3,<-hs];refine hC.zY i λK2 C2 w2 eF yB Mz=>?_;obtain⟨y1,y2,y3,y4,y5,y6⟩:=TN K.s i n G1 (if(S'.drop i).2 then 1 else -1) (by omega);rw[dG g17]at y1 y2 y3 y4;rw[hs];refine WV.uM (csl:=[]) eF.ok eF.wf 6 y1 (wv':=w2) (by rw[y4];exact⟨rfl,rfl⟩) ?_;rw[y2,y3];refine again (j - 1) K2 w2 _ (by omega) ⟨i+1,_,C2,_,dv (sA K.s) (QP y5 y6).symm,by omega,eF,yB.trans hs,(aAe _ _).trans hl,Vl GV,hf.trans (hs▸Mz)⟩
 ·have e:decide ((i:Int)<(n:Int))=false:=im (by omega);rw[e];refine WV.exit hC.ok aJb ?_;generalize bQ (sN g i n) 19 (.bool false)=G1;obtain⟨x1,x2,x3,x4⟩:=TM K.s G1;refine WV.uM (csl:=[]) hC.ok hC.wf 5 x1 (wv':=U) (by rw[x4];exact⟨rfl,rfl⟩) ?_;rw[x2,x3];have hσ:∀u,0<u->u<K'.n->K'.σ u=Option.none:=λu V J=>by
   rcases ir u K'.b with hb|hb
   ·exact hC.low u V hb
   ·have hnn:=hC.nn;obtain⟨x,E⟩:=oO (l:=S'.ae) (i:=u - K'.b) (by omega);obtain⟨r,v,Y,X,_⟩:=hC.rep.conn E;obtain⟨k,_,_,_,_,h5⟩:=hC.own _ r x Y E;have:=h5 (GV _ x (by omega) E)
    rwa[show K'.b+(u - K'.b)=u by omega]at this
  have aJY:∀(_:WV Post {K' with b:=K'.n,R:=λ_ _=>True} U ((sW K.s G1).finish (.tuple #[])) (C0::cs)),WV Post K' U (BR K.s) (sW K.s G1::C0::cs):=λhgo w2 D1=>by
   rw[<-hs];rw[<-hs]at hgo;exact H7 hC.ok hC.wf hC.h0 hC.bP hC.mn hσ hC.b0 λw3 ha=>hgo w3 (dm D1 ha)
  refine aJY ?_;have aCy:({K' with b:=K'.n,R:=λ_ _=>True}:Cy).Ok:=hC.ok.retired hC.h0 hC.mn hσ (λ_ _ _ _ _ _ _ _=>trivial);obtain⟨z1,z2,z3,z4,z5⟩:=XL K.s G1 C0;refine WV.uM (csl:=[C0]) aCy hC.wf 3 z1 (wv':=U) (by rw[z4];exact⟨rfl,rfl⟩) ?_;rw[z2,z3];have u6:=hC.free;rw[hs]at u6;refine WV.unlock aCy hC.wf (by rw[z5];trivial) u6.1 u6.2 ?_;obtain⟨h5,f5⟩:=hC.zi 0;rw[hs]at h5 f5;obtain⟨u1,u2,u3,u4⟩:=aFc K.s G1 C0;refine WV.uM (csl:=[C0]) aCy hC.wf 1 u1 (wv':=U.setCell ⟨K.s,0,Option.none⟩ (.int .i32 0)) (by rw[u4];exact⟨rfl,rfl⟩) ?_;rw[u2,u3];have jZ:=hC.ok.pos;exact Q _ C'.p C'.ev _ ⟨aCy,hC.wf,hC.h0,jZ,rfl,hC.mn,λ_ _=>trivial,hσ,hC.hi,hC.Qa,hC.OQ,hC.lo,h5.los,h5.rep.gl⟩ (hf.trans f5).kp
end
end Re
end
section
open Go.Conc
namespace Rc
open Sp
def ran:Nat->Sv->Int->Option Nat
 |0,_,_=>none
 |k+1,s,c=>if(s.step c).2=1 then(ran k (s.step c).1 c).map (·+1)else some 0
end Rc
namespace Re
open Tx Sp Wg Rd Bk Wi Se Rx Mp De Lo Co Ka Kv Ky
section
variable {Post:Value->World->Prop}{K:Cy}{wv:World}{cs:List Frame}{ν:Old}{q:Bool}{s:Nat}{C:Cp}{m:Int}{S:Sv}{C0:Frame}{f:FuncId}{a:Act}{k:List Item}
structure Wk(K:Cy)(f:FuncId):Prop where
 ok:K.Ok
 wf:K.Z.Wf
 kp:keep f=true
 fn:∃fn,prog.funcs[f]? =some fn
def RB{l}(h:l=[]):gJ l:=by subst h;intro d hd;cases hd
def Wk.code{c}(h:Wk K f)(hd:a.defers=[])(A:jN (.code c::k)=true)
 (hw:∀R:Act->World->Prop,(∀a' U,WV Post K U ((fb f).at a' k) cs->R a' U)->∀τ d,c.wp Tq.prog (Qn R) a (Ka.re wv τ d)):WV Post K wv ((fb f).at a (.code c::k)) cs:=
 WV.tq h.ok h.wf h.kp h.fn (RB hd) A hw
def Wk.seg{ops}(h:Wk K f)l i n(hd:a.defers=[])(hl:∀j,j<l.length->ops[i+j]? =l[j]?)(A:jN (.inRegion ops []::k)=true)
 (hw:∀R:Act->World->Prop,(∀a' U,WV Post K U ((fb f).at a' (.inRegion ops (List.range' (i+l.length) n)::k)) cs->R a' U)->∀τ d,wpList Tq.prog ops (Qn R) l a (Ka.re wv τ d)):
 WV Post K wv ((fb f).at a (.inRegion ops (List.range' i (l.length+n))::k)) cs:=
 WV.XJ h.ok h.wf l i n h.kp h.fn (RB hd) hl A hw
def Wk.cut{ops}(h:Wk K f)i m n(hd:a.defers=[])(A:jN (.inRegion ops []::k)=true)(uG:ops.size=i+m+n)
 (hw:∀R:Act->World->Prop,(∀a' U,WV Post K U ((fb f).at a' (.inRegion ops (List.range' (i+m) n)::k)) cs->R a' U)->∀τ d,wpList Tq.prog ops (Qn R) ((ops.toList.drop i).take m) a (Ka.re wv τ d)):
 WV Post K wv ((fb f).at a (.inRegion ops (List.range' i (m+n))::k)) cs:=by
 have hl:((ops.toList.drop i).take m).length=m:=by simp;omega
 have:=h.seg (wv:=wv) (Post:=Post) (cs:=cs) ((ops.toList.drop i).take m) i n (a:=a) (k:=k) (ops:=ops) hd (λj hj=>by rw[hl]at hj;simp[hj]) A;rw[hl]at this;exact this hw
def Wk.w9(h:Wk K f){c:Code}(hw:∀(R:Act->World->Prop) (τ:Nat->Question->Nat) (d:Nat),Hid (∀a' U,WV Post K U ((fb f).at a' k) cs->R a' (Ka.re U τ d))->c.wp Tq.prog (Qn R) a (Ka.re wv τ d))(hd:a.defers=[]:=by exact rfl)(A:jN (.code c::k)=true:=by(kernel_rfl)):WV Post K wv ((fb f).at a (.code c::k)) cs:=Wk.code h hd A λR I τ d=>hw R τ d (z40 λa' U x=>I a' _ (WV.bf x))
def Wk.wA(h:Wk K f){ops:Array Oper}(i m n:Nat)(hw:∀(R:Act->World->Prop) (τ:Nat->Question->Nat) (d:Nat),Hid (∀a' U,WV Post K U ((fb f).at a' (.inRegion ops (List.range' (i+m) n)::k)) cs->R a' (Ka.re U τ d))->wpList Tq.prog ops (Qn R) ((ops.toList.drop i).take m) a (Ka.re wv τ d))(hd:a.defers=[]:=by exact rfl)(A:jN (.inRegion ops []::k)=true:=by(kernel_rfl))(uG:ops.size=i+m+n:=by exact rfl):WV Post K wv ((fb f).at a (.inRegion ops (List.range' i (m+n))::k)) cs:=Wk.cut h i m n hd A uG λR I τ d=>hw R τ d (z40 λa' U x=>I a' _ (WV.bf x))
def Wk.call{ops i n}(h:Wk K f)g args(E:∃o,ops[i]? =some o/\Region.wanted o (yielded ops a.tmps)=true/\∀w,(execOp a.eval o).runT prog w #[]=(.ok (.enter g args) w,#[]))
 (Q:WV Post K wv (Frame.enter prog g args .normal) ((fb f).at a (.inRegion ops (List.range' i (n+1))::k)::cs)):WV Post K wv ((fb f).at a (.inRegion ops (List.range' i (n+1))::k)) cs:=by
 obtain⟨o,V,J,h3⟩:=E;exact WV.call h.ok rfl V J h3 Q
def bI.wk(h:bI ν q m K C S wv)(A:keep f=true)(hf:∃fn,prog.funcs[f]? =some fn):Wk K f:=⟨h.ok,h.wf,A,hf⟩
def bI.whole(h:bI ν q 0 K C S wv)c(hm:jV C0.mode)(Q:∀K' C' U v,bI ν q 0 K' C' (Rc.ny 51 S c) U->(∀i,Rc.ran 51 S c=some i->v=.tuple #[.int .i64 i,.bool true])->K'.s=K.s->Fm K.s C wv C' U->WV Post K' U (C0.finish v) cs):WV Post K wv (Frame.enter prog 28 #[aG K.s,.int .i64 c,.int .i64 50] .normal) (C0::cs):=by
 obtain⟨b,hb⟩:∃b,b=aG K.s:=⟨_,rfl⟩
 rw[<-hb];replace hb:=z40 hb;have w0:Wk K 28:=h.wk d40 ⟨_,func28⟩;refine WV.enter func28 rfl ?_;simp only[ntmps28,eC,bt,dt,Nat.reduceAdd,Nat.reduceSub,dC,dK,eI,cY,cg,cf];refine WV.seq h.ok (w0.w9 λR τ d I=>?_);go_wp2_with fail;refine I.out _ _ ?_;clear I R;refine WV.seq h.ok (WV.seq h.ok (w0.w9 λR τ d I=>?_));go_wp2_with fail;refine I.out _ _ ?_;clear I R;refine WV.block h.ok ?_;refine WV.while (hR:=λn K' U a=>∃(i:Nat) (C':Cp) (S':Sv),a={tmps:=#[b,.int .i64 c,.int .i64 50,O a 3,O a 4,O a 5,O a 6,O a 7,.int .i64 i,O a 9,O a 10,O a 11,O a 12,O a 13,O a 14,O a 15,O a 16,O a 17,O a 18,O a 19,O a 20,O a 21],defers:=[]}/\i+n=51/\bI ν q 0 K' C' S' U/\K'.s=K.s/\(Rc.ny n S' c=Rc.ny 51 S c/\Rc.ran 51 S c=(Rc.ran n S' c).map (·+i))/\Fm K.s C wv C' U) (n:=51) (λn K' U a ⟨i,C',S',_,_,hC,_⟩=>hC.ok) ⟨0,C,S,rfl,rfl,h,rfl,⟨rfl,by cases Rc.ran 51 S c<;>rfl⟩,Fm.refl _ _ _⟩ ?_;rintro n K' U a ⟨i,C',S',ha,Bf,hC,hs,B6,hf⟩ again;obtain⟨x,E⟩:∃x,x=O a:=⟨_,rfl⟩
 rw[<-E]at ha;clear E;subst ha;have w1:Wk K' 28:=hC.wk d40 ⟨_,func28⟩;by_cases hi:i<=50
 ·have h50:((i:Int)<=50)=True:=ie (by omega);refine WV.seq hC.ok (WV.seq hC.ok (w1.w9 λR τ d I=>?_));go_wp2_with fail;refine I.out _ _ ?_;clear I R;refine WV.cond hC.ok (t:=true) rfl (WV.skip hC.ok (WV.seq hC.ok (WV.block hC.ok (WV.seq hC.ok (WV.region hC.ok ?_)))));refine w1.wA 0 2 2 λR τ d I=>?_;show wpList _ _ _ [_,_] _ _;go_wp2_with fail;refine I.out _ _ ?_;clear I R;refine w1.call 26 #[b,.int .i64 c] ⟨_,rfl,rfl,λw=>xj⟩ ?_;have uw:=λ{LV:Frame} {ds:List Frame}=>hC.step (Post:=Post) (C0:=LV) (cs:=ds) c;rw[hs,<-hb.out]at uw;refine uw ?_;intro K2 C2 w2 J yB Mz;refine WV.called (o:=_) rfl ?_;have w2:Wk K2 28:=J.wk d40 ⟨_,func28⟩;obtain⟨n',rfl⟩:∃n',n=n'+1:=⟨n - 1,by omega⟩
  have L3:Rc.ny (n'+1) S' c=if(S'.step c).2=1 then Rc.ny n' (S'.step c).1 c else(S'.step c).1:=rfl
  have uL:Rc.ran (n'+1) S' c=if(S'.step c).2=1 then(Rc.ran n' (S'.step c).1 c).map (·+1)else some 0:=rfl
  rw[L3,uL]at B6;have G:=z40 (vA again (vA B6 (vA hf Mz)));clear again B6 hf Mz L3 uL;generalize(S'.step c).2=nn at G;refine w2.wA 3 1 0 λR τ d I=>?_;show wpList _ _ _ [_] _ _;go_wp2_with fail;refine I.out _ _ ?_;clear I R;refine WV.ib J.ok ?_;by_cases V:nn=1
  ·subst V;refine WV.seq J.ok (w2.w9 λR τ d I=>?_);go_wp2_with fail;refine I.out _ _ ?_;clear I R;refine WV.cond J.ok (t:=false) rfl (WV.skip J.ok (WV.inBlock J.ok (w2.w9 λR τ d I=>?_)));go_wp2_with fail;refine I.out _ _ ?_;clear I R;have B6:=G.out.2.1;simp only[j2]at B6;exact G.out.1 n' K2 _ _ (by omega) ⟨i+1,C2,_,rfl,by omega,J,yB,⟨B6.1,by rw[B6.2,nd];congr 1;funext j;simp;omega⟩,G.out.2.2.1.trans G.out.2.2.2⟩
  ·have xd:(nn !=1)=true:=by simpa using V
   refine WV.seq J.ok (w2.w9 λR τ d I=>?_);go_wp2_with fail;refine I.out _ _ ?_;clear I R;refine WV.cond J.ok (t:=true) rfl ?_;refine WV.seq J.ok (w2.w9 λR τ d I=>?_);go_wp2_with fail;refine I.out _ _ ?_;clear I R;have B6:=G.out.2.1;rw[aX V,aX V]at B6;refine WV.ret J.ok (WV.back (v:=.tuple #[.int .i64 i,.bool true]) J.ok func28 rfl xj hm (Q K2 C2 _ _ (B6.1▸J) (λj e=>by rw[B6.2]at e;cases e;simp) (yB) (G.out.2.2.1.trans G.out.2.2.2)))
 ·obtain⟨rfl,rfl⟩:i=51/\n=0:=⟨by omega,by omega⟩
  have h50:(((51:Nat):Int)<=50)=False:=gO (by omega);have G:=z40 (vA again (vA B6 hf));clear again B6 hf;refine WV.seq hC.ok (WV.seq hC.ok (w1.w9 λR τ d I=>?_));go_wp2_with fail;refine I.out _ _ ?_;clear I R;refine WV.cond hC.ok (t:=false) rfl (WV.exit hC.ok rfl (WV.seq hC.ok (w1.w9 λR τ d I=>?_)));go_wp2_with fail;refine I.out _ _ ?_;clear I R;have B6:=G.out.2.1;have h0:Rc.ny 0 S' c=S':=rfl;rw[h0,show Rc.ran 0 S' c=Option.none from rfl]at B6;refine WV.ret hC.ok (WV.back (v:=.tuple #[.int .i64 50,.bool false]) hC.ok func28 rfl xj hm (Q K' C' _ _ (B6.1▸hC) (λj e=>by rw[B6.2]at e;cases e) hs G.out.2.2))
variable {w:World}{fz:Nat×Nat}
def XX(h:gT w s C m S fz)(Q:S.st.refs.length<1099511627776):
 Calls Tq.prog 31 #[aG s] w λe U=>∃v,e=.returned v/\U.ownsRow w.heap.size 51 2 v S.st.refs.length (S.st.refs.flatMap Tz.TW)/\CR w s C m fz S C U:=by
 have tW:C.mr≠C.st:=λe=>by
  have:=h.jC.blk;unfold aM at this;exact xH h.jC.refs _ _ _ ((dv (λk:Nat=>w.heap[k]?) e).trans this)
 refine(Tz.Dg w s C.st C.lk C.mo C.mr 0 m C.cb C.rs S.st.forward S.st.room S.st.refs h.sr h.jC.blk h.jC.refs Q tW).mono ?_;rintro e U ⟨v,rfl,tM,hb,L⟩;have AE:Fr.aj (λ_=>False) w U:=⟨L.os,L.tape,L.output,L.size,λk A _=>by
  by_cases e:k=C.st
  ·subst e;have V:=h.jC.blk;unfold aM at V hb;rw[hb,V]
  ·exact L.block k A e⟩
 exact⟨v,rfl,tM,rfl,h.aA AE (Rx.Safe.none w) (λ_ _ e=>e) (λe=>e) (λe=>e) (λe=>e),λ_ A=>.inl A,AE.mono λ_ _ e=>e.elim⟩
def aDp{v xs B'}{B hx z n:Nat}(h:w.ownsRow B hx z v n xs)(e:B'=B):w.ownsRow B' hx z v n xs:=e▸h
def bI.refs{fr}(h:bI ν q 0 K C S wv)
 (Q:∀v C' U,bI ν q 0 K C' S U->Fm K.s C wv C' U->U.ownsRow wv.heap.size 51 2 v S.st.refs.length (S.st.refs.flatMap Tz.TW)->WV Post K U (fr.finish v) cs):WV Post K wv (Frame.enter prog 31 #[aG K.s] .normal) (fr::cs):=by
 refine WV.rep h.ok h.wf h.rep h.cns h.bP (f:=31) (func31) d40 rfl (qg xj) (λv _ S' U=>U.ownsRow wv.heap.size 51 2 v S.st.refs.length (S.st.refs.flatMap Tz.TW)/\S'=S) (λ_ _ _ _ _ ha e=>⟨qI ha e.1,e.2⟩) (λfz w hf _ uG Y=>?_) ?_
 ·refine(XX Y ?_).mono ?_
  ·have:=h.sw.K5;omega
  ·rintro e U ⟨v,rfl,tM,L⟩;exact⟨v,C,S,rfl,⟨aDp tM uG.symm,rfl⟩,L⟩
 ·rintro v C' S' U ⟨tM,rfl⟩ Ao Y hf;exact Q v C' U (h.iQ Ao Y h.sw h.ES rfl rfl λi x E=>⟨x,E,rfl⟩) hf tM
end
end Re
end
section
open VW Go.Maps Go.Sort
namespace Tz
open Tx Sp Mp Bk Wg Rd Rx Se Lo De
def aEL(o:Option B):Value:=.tuple #[.string ⟨(o.getD []).toArray⟩,.bool o.isSome]
def OX(w:World)(s st lk mo mr:Nat)(m:Int)(cb:Value)(rs:List Nat)(S:St)(k:ByteArray)(BF:Sr w s st lk m cb rs)(hS:qZ w st mo mr 0 S)(A:k.size<=maxLen)(aAM:Rx.Safe w (λk=>k=st))(tW:mo≠st):
 Calls Tq.prog 33 #[aG s,.string k] w λe U=>e=.returned (aEL (M.get S.ah k.data.toList))/\aM U st #[.int .i32 0,.int .u32 0,.bool S.forward,.int .i64 S.room,.map (some mo),.map (some mr)] 65 (0,0)/\aj (λk=>k=st) w U:=by
 have hb:=hS.blk;have k2:w.cell? ⟨s,2,none⟩=some (.pointer (some ⟨st,0,none⟩)):=BF.blk.at (i:=2) rfl;have k0:w.cell? ⟨st,0,none⟩=some (.int .i32 0):=hb.at rfl;have f0:=hb.frozen (i:=0) (.inr (aI _));have hss:s≠st:=λe=>by
  have V:=BF.blk;unfold aM at V hb;rw[e,hb]at V;cases V
 have xd:aM (w.setCell ⟨st,0,none⟩ (.int .i32 1)) st #[.int .i32 1,.int .u32 0,.bool S.forward,.int .i64 S.room,.map (some mo),.map (some mr)] 65 (0,0):=hb.set 0 _;have ks:(w.setCell ⟨st,0,none⟩ (.int .i32 1)).cell? ⟨s,2,none⟩=some (.pointer (some ⟨st,0,none⟩)):=by rw[į _ _ _ _ (λe=>hss (dv Addr.block e).symm)];exact k2
 have c1:aj (λk=>k=st) w (w.setCell ⟨st,0,none⟩ (.int .i32 1)):=(aj.refl (λk=>k=st) w).setCell (p:=⟨st,0,none⟩) (.inl rfl) _;obtain⟨ov,Bc,Ax⟩:=hS.ah.aA c1 aAM tW;generalize sD:w.setCell ⟨st,0,none⟩ (.int .i32 1)=w1 at xd ks c1 Bc Ax;have k4:w1.cell? ⟨st,4,none⟩=some (.map (some mo)):=xd.at rfl;have k10:w1.cell? ⟨st,0,none⟩=some (.int .i32 1):=xd.at rfl;have f10:=xd.frozen (i:=0) (.inr (aI _));have g2:=OM.get (b:=mo) Ax k.data.toList;have hv:=z40 (vA xd c1);unfold aG;rcases pE g2 with⟨e1,e2⟩|⟨t,b,kd,e1,e2⟩
 ·clear g2 hb xd c1 BF hS Ax aAM
  go_enter_defers Tq.func33,ntmps33
  go_wp2_with (first
   |(go_at_call 38;refine(iR st 0 w k0 f0).mono ?_;rintro e U ⟨rfl,rfl⟩;rw[sD])
   |(at_lookup;refine Mp.lookup rfl _ _ 55 rfl 106 ((Tq.underlying 55).trans underlying55) (z:=.nilIface) (by simp[zeroValue106]) mo ov rfl Bc k rfl A ?_;rw[e1])
   |go_in)
  refine leaves_cons (f:=39) (args:=#[.pointer (some ⟨st,0,none⟩)]) (by simp) (by simp[go_sem]) ?_;refine(fE st 0 .returning w1 k10 f10).mono ?_;rintro e u' w3 ⟨rfl,rfl,rfl⟩;exact⟨_,results_tmp2 rfl _ _ _,by rw[e2];rfl,hv.out.1.set 0 _,hv.out.2.setCell (p:=⟨st,0,none⟩) (.inl rfl) _⟩
 ·rw[e2]at g2;rw[e1]at g2;obtain⟨o,b',nv,V,J,h3,h4,h5⟩:=g2;have FH:=z40 (Br w1 b' _ (av t) nv h3);have mT:=λW'=>Q7 o.kind ⟨b',0,none⟩ W';rw[J]at e1;have E2:=z40 e2;unfold av at FH;clear hb xd c1 BF hS Ax aAM V J h3 h4 h5 e2;unfold aG at e1
  go_enter_defers Tq.func33,ntmps33
  go_wp2_with (first
   |(go_at_call 38;refine(iR st 0 w k0 f0).mono ?_;rintro e U ⟨rfl,rfl⟩;rw[sD])
   |(go_at_call 310;refine FH.out.mono ?_;rintro e U ⟨rfl,rfl⟩)
   |(at_lookup;refine Mp.lookup rfl _ _ 55 rfl 106 ((Tq.underlying 55).trans underlying55) (z:=.nilIface) (by simp[zeroValue106]) mo ov rfl Bc k rfl A ?_;rw[e1])
   |go_in)
  refine leaves_cons (f:=39) (args:=#[.pointer (some ⟨st,0,none⟩)]) (by simp) (by simp[go_sem]) ?_;refine(fE st 0 .returning _ k10 f10).mono ?_;rintro e u' w3 ⟨rfl,rfl,rfl⟩;exact⟨_,results_tmp2 rfl _ _ _,by rw[E2.out];rfl,hv.out.1.set 0 _,hv.out.2.setCell (p:=⟨st,0,none⟩) (.inl rfl) _⟩
end Tz
end
section
open Go.Conc
open Go.ConcN (upd upd_ne upd_same)
namespace Co
open Kv Ka Ky
section
variable (s:Nat)(c:Int)(C:Frame)
def aFO:bV (Ky.walk prog 1 (SF s c 1 C) [C] [])=true/\aR prog 1 (SF s c 1 C) [C] []=C.finish (.bool true)/\bu prog 1 (SF s c 1 C) [C] []=[]/\thin (bM prog 1 (SF s c 1 C) [C] [])=[]:=⟨xj,xj,xj,xj⟩
def aGR:bV (Ky.walk prog 1 (SF s c (-1) C) [C] [])=true/\aR prog 1 (SF s c (-1) C) [C] []=C.finish (.bool false)/\bu prog 1 (SF s c (-1) C) [C] []=[]/\thin (bM prog 1 (SF s c (-1) C) [C] [])=[]:=⟨xj,xj,xj,xj⟩
def aFP(b:Bool):bV (Ky.walk prog 1 (SF s c (if b then 1 else -1) C) [C] [])=true/\aR prog 1 (SF s c (if b then 1 else -1) C) [C] []=C.finish (.bool b)/\bu prog 1 (SF s c (if b then 1 else -1) C) [C] []=[]/\thin (bM prog 1 (SF s c (if b then 1 else -1) C) [C] [])=[]:=by
 cases b
 ·exact aGR s c C
 ·exact aFO s c C
end
end Co
namespace Re
open Tx Sp Wg Rd Bk Wi Se Rx Mp De Lo Co Ka Kv Ky
section
variable {Post:Value->World->Prop}{K:Cy}{wv:World}{cs:List Frame}{C:Cp}{S:Sv}{m:Int}{q:Bool}{ν:Old}{C0:Frame}
def bI.drop(h:bI ν false 0 K C S wv)c(Q:∀K' C' U,bI ν false 0 K' C' (S.drop c).1 U->K'.s=K.s->Fm K.s C wv C' U->WV Post K' U (C0.finish (.bool (S.drop c).2)) cs):WV Post K wv (Frame.enter prog 35 #[aG K.s,.int .i64 c] .normal) (C0::cs):=by show WV Post K wv (aCJ K.s c) (C0::cs);obtain⟨a1,a2,a3,a4,a5⟩:=aFU K.s c;refine WV.uM (csl:=[]) h.ok h.wf 10 a1 (wv':=wv) (by rw[a4];exact⟨rfl,rfl⟩) ?_;rw[a2,a3];refine WV.lock h.ok h.wf (by rw[a5];trivial) h.free.1 h.free.2 ?_;obtain⟨V,f1⟩:=h.zi 1;obtain⟨b1,b2,b3,b4⟩:=aFT K.s c;refine WV.uM (csl:=[]) h.ok h.wf 13 b1 (wv':=wv.setCell ⟨K.s,0,Option.none⟩ (.int .i32 1)) (by rw[b4];exact⟨rfl,rfl⟩) ?_;rw[b2,b3];refine V.zY c λK' C' U J yB f2=>?_;generalize hb:(S.drop c).2=b;rw[hb]at Q;obtain⟨c1,c2,c3,c4,c5⟩:=aFQ K.s c (if b then 1 else -1) C0;refine WV.uM (csl:=[C0]) J.ok J.wf 5 c1 (wv':=U) (by rw[c4];exact⟨rfl,rfl⟩) ?_;rw[c2,c3,<-yB];refine WV.unlock J.ok J.wf (by rw[yB,c5];trivial) J.free.1 J.free.2 ?_;obtain⟨h3,f3⟩:=J.zi 0;obtain⟨d1,d2,d3,d4⟩:=aFP K.s c C0 b;rw[yB]at h3 f3 ⊢;refine WV.uM (csl:=[C0]) h3.ok h3.wf 1 d1 (wv':=U.setCell ⟨K.s,0,Option.none⟩ (.int .i32 0)) (by rw[d4];exact⟨rfl,rfl⟩) ?_;rw[d2,d3];exact Q K' C' _ h3 yB ((f1.trans f2).trans f3)
end
end Re
end
