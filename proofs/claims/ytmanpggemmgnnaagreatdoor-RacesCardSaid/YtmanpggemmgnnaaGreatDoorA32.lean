/- Races: a part. Conditions: none. -/
import Derived.Deep.AppendLies
import Derived.Deep.RegionHeld3
import Derived.Test.YtmanpggemmgnnaaGreatDoorA31
set_option linter.all false
set_option maxHeartbeats 8000000
set_option maxRecDepth 1000000
namespace Go.Proofs.YtmanpggemmgnnaaGreatDoor
noncomputable section
open Go Go.RowKit Go.Shelf Ba Fr
theorem z32 {p:Prop} (h:p):Go.RowKit.Hid p:=Go.Lib.hid h
theorem y32 {a b:Prop} (x:a) (y:b):a/\b:=⟨x,y⟩
namespace Rx
open Tx Sp Wg Rd Bk Wi Se
theorem P9 {c:Cn} {p:B} (hl:c.au.length<4) (h:∀a b d,split 32 p≠[a,b,d]):c.command p false=(.refused fU,c):=by
 unfold Cn.command;rw [if_neg (by simp),if_neg (by omega)];split
 ·rename_i a b d h1 h2;exact absurd h2 (h a b d)
 ·rfl
theorem El {c:Cn} {p a b d:B} (hl:c.au.length<4) (h:split 32 p=[a,b,d]):c.command p false=if oH a&&oH b&&lJ d then
        if c.au.any (λm=>m.ref==d) then (.refused p9,c) else (.ok,{c with au:=c.au++[⟨a,b,d⟩]})
 else (.refused fU,c):=by
 unfold Cn.command;rw [if_neg (by simp),if_neg (by omega),h]
theorem Vq (mv:Value) (w:World) (r:Nat) (fz:Nat×Nat) (v:Cv) (c:Cn) (p:ByteArray) (h:Cx w r fz v c) (hp:p.size<4294967281) (hl:c.au.length<4) (hs:(split 32 p.data.toList).length≠3):
 Calls Tq.prog 115 #[.pointer (some ⟨r,2,none⟩),.string p,.bool false] w (RP mv w r fz v (c.command p.data.toList false)):=by
 have k7:w.cell? ⟨r,7,none⟩=some v.cv:=h.cb.at rfl;obtain ⟨q,cap,hq⟩:=nX h.au;rw [hq] at k7;have C:=z32 (Wf.lZ p 32 w hp);have H:=z32 h;have hli:¬((c.au.length:Int)=4):=by omega
 clear h;rw [P9 hl (λa b d e=>hs (by rw [e];rfl))];generalize Tx.split 32 p.data.toList=es at C hs;have hsi:¬((es.length:Int)=3):=by omega
 go_enter Tq.func115,Tryz.ntmps115;go_wp2_with fail;refine C.out.mono ?_;rintro e w2 ⟨rfl,rfl⟩;go_wp2;go_ret;exact ⟨_,v,rfl,lL.refused H.out ((Below.refl _ _).alloc (Nat.le_refl _) _) fU (by simp)⟩
theorem aK {w w':World} {B b i:Nat} {x:Value} (hb:Below B w w') (h:w.cell? ⟨b,i,none⟩=some x) (hB:b<B):w'.cell? ⟨b,i,none⟩=some x:=(World.cell?_of_block (w:=w) (hb.block b hB)).trans h
theorem Vp (mv:Value) (w:World) (r:Nat) (fz:Nat×Nat) (v:Cv) (c:Cn) (p:ByteArray) (a b d:B) (h:Cx w r fz v c) (hp:p.size<4294967281) (hl:c.au.length<4) (hs:split 32 p.data.toList=[a,b,d])
 (iw:(oH a&&oH b&&lJ d)=false):
 Calls Tq.prog 115 #[.pointer (some ⟨r,2,none⟩),.string p,.bool false] w (RP mv w r fz v (c.command p.data.toList false)):=by
 have k7:w.cell? ⟨r,7,none⟩=some v.cv:=h.cb.at rfl;obtain ⟨q,cap,hq⟩:=nX h.au;rw [hq] at k7;have C:=z32 (Wf.lZ p 32 w hp);have hle:∀e∈[a,b,d],e.length<4294967281:=λe he=>Nat.lt_of_le_of_lt (rT 32 _ e (hs▸he)) hp;have la:=hle a (by simp);have lb:=hle b (by simp);have ld:=hle d (by simp);have H:=z32 h;have hli:¬((c.au.length:Int)=4):=by omega
 have bW:=aM.lt h.cb;clear h hle;rw [El hl hs,if_neg (by rw [iw];decide)];rw [hs] at C;clear hs;have bl:Below (w.heap.size) w (w.alloc (.cells #[av a,av b,av d] 9)):=(Below.refl _ _).alloc (Nat.le_refl _) _;have c0:(w.alloc (.cells #[av a,av b,av d] 9)).cell? ⟨w.heap.size,0,none⟩=some (av a):=by simp
 have c1:(w.alloc (.cells #[av a,av b,av d] 9)).cell? ⟨w.heap.size,1,none⟩=some (av b):=by simp
 have c2:(w.alloc (.cells #[av a,av b,av d] 9)).cell? ⟨w.heap.size,2,none⟩=some (av d):=by simp
 have GQ:(w.alloc (.cells #[av a,av b,av d] 9)).heap.size=w.heap.size+1:=by simp
 change Hid (Calls Tq.prog 158 _ w λe w'=>e=.returned (.slice (some ⟨w.heap.size,0,none⟩) 3 3)/\w'=w.alloc (.cells #[av a,av b,av d] 9)) at C;generalize w.alloc (.cells #[av a,av b,av d] 9)=w1 at C bl c0 c1 c2 GQ;have C0:=z32 (λw=>Pm.Je ⟨a.toArray⟩ w (by show a.length<=_;unfold maxLen;omega));have C1:=z32 (λw=>Pm.Je ⟨b.toArray⟩ w (by show b.length<=_;unfold maxLen;omega));have C2:=z32 (λw=>Pm.QT ⟨d.toArray⟩ w ld);change Hid (∀w,Calls Tq.prog 159 _ w λe w'=>e=.returned (.bool (oH a))/\_) at C0;change Hid (∀w,Calls Tq.prog 159 _ w λe w'=>e=.returned (.bool (oH b))/\_) at C1;change Hid (∀w,Calls Tq.prog 160 _ w λe w'=>e=.returned (.bool (lJ d))/\_) at C2;unfold av at c0 c1 c2;have bl:=z32 bl;cases ha:oH a
 ·rw [ha] at C0;go_enter Tq.func115,Tryz.ntmps115;go_wp2_with fail;refine C.out.mono ?_;rintro e w2 ⟨rfl,rfl⟩;go_wp2_with fail;refine (C0.out _).mono ?_;rintro e w3 ⟨rfl,jE⟩;have hb:=z32 (bl.out.trans (jE.mono (by omega)));clear jE;go_wp2_with fail;go_ret;exact ⟨_,v,rfl,lL.refused H.out hb.out fU rfl⟩
 ·rw [ha] at C0 iw;cases kz:oH b
  ·rw [kz] at C1;go_enter Tq.func115,Tryz.ntmps115;go_wp2_with fail;refine C.out.mono ?_;rintro e w2 ⟨rfl,rfl⟩;go_wp2_with fail;refine (C0.out _).mono ?_;rintro e w3 ⟨rfl,jE⟩;have Vx:=aK jE c1 (by omega);have hb:=bl.out.trans (jE.mono (by omega));clear jE c0 c1 c2;go_wp2_with fail;refine (C1.out _).mono ?_;rintro e w4 ⟨rfl,oV⟩;have hb:=z32 (hb.trans (oV.mono hb.size));clear oV;go_wp2_with fail;go_ret;exact ⟨_,v,rfl,lL.refused H.out hb.out fU rfl⟩
  ·rw [kz] at C1 iw;have hd:lJ d=false:=by simpa using iw
   rw [hd] at C2;go_enter Tq.func115,Tryz.ntmps115;go_wp2_with fail;refine C.out.mono ?_;rintro e w2 ⟨rfl,rfl⟩;go_wp2_with fail;refine (C0.out _).mono ?_;rintro e w3 ⟨rfl,jE⟩;have Vx:=aK jE c1 (by omega);have c23:=aK jE c2 (by omega);have hb:=bl.out.trans (jE.mono (by omega));have Pn:=jE.size;clear jE c0 c1 c2;go_wp2_with fail;refine (C1.out _).mono ?_;rintro e w4 ⟨rfl,oV⟩;have c24:=aK oV c23 (by omega);have hb:=hb.trans (oV.mono hb.size);clear oV Vx c23;go_wp2_with fail;refine (C2.out _).mono ?_;rintro e w5 ⟨rfl,U9⟩;have hb:=z32 (hb.trans (U9.mono hb.size));clear U9;go_wp2_with fail;go_ret;exact ⟨_,v,rfl,lL.refused H.out hb.out fU rfl⟩
theorem aDf {mv:Value} {w w6:World} {r gg cap:Nat} {fz:Nat×Nat} {v:Cv} {c:Cn} {m:nN} (h:Cx w r fz v c) (hz:Fz fz) (c6:aj (λk=>v.cv.ownBlock=some k) w w6)
 (bU:w6.ownsRow 0 142 3 (.slice (some ⟨gg,0,none⟩) (c.au.length+1) cap) (c.au.length+1) (kY c.au++aHh m)) (hg:v.cv.ownBlock=some gg\/w.heap.size<=gg):
 lL mv w r fz v .ok {c with au:=c.au++[m]} .nilIface {v with cv:=.slice (some ⟨gg,0,none⟩) (c.au.length+1) cap} (w6.setCell ⟨r,7,none⟩ (.slice (some ⟨gg,0,none⟩) (c.au.length+1) cap)):=by
 obtain ⟨n1,n2,n3⟩:=h.rows;have aCv:=aM.lt h.cb;have Rn:gg≠r:=λe=>by
  subst e;rcases hg with hg|hg
  ·exact n1 gg hg rfl
  ·omega
 have h6:Cb w6 r fz v c:=aM.aA h.cb c6 (λe=>n1 r e rfl);have c7:aj (λk=>k=r\/v.cv.ownBlock=some k) w (w6.setCell ⟨r,7,none⟩ (.slice (some ⟨gg,0,none⟩) (c.au.length+1) cap)):=
  (c6.mono (S':=λk=>k=r\/v.cv.ownBlock=some k) (λk _ e=>.inr e)).setCell (p:=⟨r,7,none⟩) (.inl (.inl rfl)) _
 have sf:Safe w (λk=>k=r\/v.cv.ownBlock=some k):=λk cur T fz hk wY=>h.safe k cur T fz (hk.elim .inl (λe=>.inr (.inl e))) wY;obtain ⟨vs,o1,o2⟩:=h.ah;refine ⟨rfl,⟨aM.set h6 7 _,?_,vs,?_,?_⟩,rfl,?_,c7.mono (λk _ hk=>hk.elim .inl (λe=>.inr (.inl e)))⟩
 ·have e:kY (c.au++[m])=kY c.au++aHh m:=by unfold kY;simp
  show World.ownsRow _ 0 142 3 _ (c.au++[m]).length (kY (c.au++[m]));rw [e,List.length_append];exact ownsRow_setCell_other bU (a:=⟨r,7,none⟩) (λe=>Rn (Option.some.inj e)) _
 ·exact c7.ownsRow o1 (λk hk e=>e.elim (n2 k hk) (λe=>n3 k e hk))
 ·exact o2.mono λx y _ NG=>NG.aA c7 sf
 ·intro k hk;rcases hk with hk|hk|hk
  ·exact .inl (.inl hk)
  ·obtain rfl:gg=k:=Option.some.inj hk;rcases hg with hg|hg
   ·exact .inl (.inr (.inl hg))
   ·exact .inr hg
  ·exact .inl (.inr (.inr hk))
theorem JG {l:List nN} {k:Nat} {m:nN} (h:l[k]? =some m):(kY l)[k*3]? =some (av m.old)/\(kY l)[k*3+1]? =some (av m.new)/\(kY l)[k*3+2]? =some (av m.ref):=by
 induction l generalizing k with
 |nil=>simp at h
 |cons x l ih=>
  have e:kY (x::l)=av x.old::av x.new::av x.ref::kY l:=rfl;rw [e];cases k with
  |zero=>obtain rfl:=Option.some.inj h;exact ⟨rfl,rfl,rfl⟩
  |succ k=>
   have:=ih h;have e0:(k+1)*3=k*3+1+1+1:=by omega
   rw [e0];exact this
theorem Vo (mv:Value) (w:World) (r:Nat) (fz:Nat×Nat) (v:Cv) (c:Cn) (p:ByteArray) (a b d:B) (h:Cx w r fz v c) (hz:Fz fz) (hp:p.size<4294967281) (hl:c.au.length<4) (hs:split 32 p.data.toList=[a,b,d])
 (ha:oH a=true) (kz:oH b=true) (hd:lJ d=true):
 Calls Tq.prog 115 #[.pointer (some ⟨r,2,none⟩),.string p,.bool false] w (RP mv w r fz v (c.command p.data.toList false)):=by
 have k7:w.cell? ⟨r,7,none⟩=some v.cv:=h.cb.at rfl;obtain ⟨q,cap,hq⟩:=nX h.au;rw [hq] at k7;have C:=z32 (Wf.lZ p 32 w hp);have hle:∀e∈[a,b,d],e.length<4294967281:=λe he=>Nat.lt_of_le_of_lt (rT 32 _ e (hs▸he)) hp;have la:=hle a (by simp);have lb:=hle b (by simp);have ld:=hle d (by simp);have H:=z32 h;have hli:¬((c.au.length:Int)=4):=by omega
 have bW:=aM.lt h.cb;clear h hle;rw [El hl hs,if_pos (by rw [ha,kz,hd];rfl)];obtain ⟨X,hX⟩:∃X,X=(if c.au.any (λm=>m.ref==d) then (Er.refused p9,c) else (Er.ok,{c with au:=c.au++[⟨a,b,d⟩]})):=⟨_,rfl⟩
 rw [<-hX];have hX':=z32 hX;clear hX;rw [hs] at C;clear hs;have bl:Below (w.heap.size) w (w.alloc (.cells #[av a,av b,av d] 9)):=(Below.refl _ _).alloc (Nat.le_refl _) _;have c0:(w.alloc (.cells #[av a,av b,av d] 9)).cell? ⟨w.heap.size,0,none⟩=some (av a):=by simp
 have c1:(w.alloc (.cells #[av a,av b,av d] 9)).cell? ⟨w.heap.size,1,none⟩=some (av b):=by simp
 have c2:(w.alloc (.cells #[av a,av b,av d] 9)).cell? ⟨w.heap.size,2,none⟩=some (av d):=by simp
 have GQ:(w.alloc (.cells #[av a,av b,av d] 9)).heap.size=w.heap.size+1:=by simp
 change Hid (Calls Tq.prog 158 _ w λe w'=>e=.returned (.slice (some ⟨w.heap.size,0,none⟩) 3 3)/\w'=w.alloc (.cells #[av a,av b,av d] 9)) at C;generalize w.alloc (.cells #[av a,av b,av d] 9)=w1 at C bl c0 c1 c2 GQ;have C0:=z32 (λw=>Pm.Je ⟨a.toArray⟩ w (by show a.length<=_;unfold maxLen;omega));have C1:=z32 (λw=>Pm.Je ⟨b.toArray⟩ w (by show b.length<=_;unfold maxLen;omega));have C2:=z32 (λw=>Pm.QT ⟨d.toArray⟩ w ld);change Hid (∀w,Calls Tq.prog 159 _ w λe w'=>e=.returned (.bool (oH a))/\_) at C0;change Hid (∀w,Calls Tq.prog 159 _ w λe w'=>e=.returned (.bool (oH b))/\_) at C1;change Hid (∀w,Calls Tq.prog 160 _ w λe w'=>e=.returned (.bool (lJ d))/\_) at C2;rw [ha] at C0;rw [kz] at C1;rw [hd] at C2;unfold av at c0 c1 c2;go_enter Tq.func115,Tryz.ntmps115;go_wp2_with fail;refine C.out.mono ?_;rintro e w2 ⟨rfl,rfl⟩;go_wp2_with fail;refine (C0.out _).mono ?_;rintro e w3 ⟨rfl,jE⟩;have c03:=aK jE c0 (by omega);have Vx:=aK jE c1 (by omega);have c23:=aK jE c2 (by omega);have hb:=bl.trans (jE.mono (by omega));have Pn:=jE.size;clear jE c0 c1 c2 bl;go_wp2_with fail;refine (C1.out _).mono ?_;rintro e w4 ⟨rfl,oV⟩;have c04:=aK oV c03 (by omega);have c14:=aK oV Vx (by omega);have c24:=aK oV c23 (by omega);have hb:=hb.trans (oV.mono hb.size);have hs4:=oV.size;clear oV c03 Vx c23;go_wp2_with fail;refine (C2.out _).mono ?_;rintro e w5 ⟨rfl,U9⟩;have c05:=aK U9 c04 (by omega);have c15:=aK U9 c14 (by omega);have c25:=aK U9 c24 (by omega);have hb:=hb.trans (U9.mono hb.size);have hs5:=U9.size;have k75:w5.cell? ⟨r,7,none⟩=some (.slice q c.au.length cap):=aK hb k7 bW;clear U9 c04 c14 c24 k7;go_wp2_with fail;have h5:Cx w5 r fz v c:=H.out.aA (aj.nK hb) (Safe.none w) (λk _ e=>e);have K:=z32 (y32 h5 (y32 hb (y32 c05 (y32 c15 c25))));have G6:=z32 hb;clear h5 hb c05 c15 c25 C C0 C1 C2 k75
 go_loopw [68] (λi wr=>∃k:Nat,i=.int .i64 k/\k<=c.au.length/\Hid ((c.au.take k).any (λm=>m.ref==d)=false)/\Hid (Below w5.heap.size w5 wr)) (λi _=>c.au.length - (intOf i).toNat)
 case atStart=>exact ⟨0,rfl,Nat.zero_le _,z32 rfl,z32 (Below.refl _ _)⟩
 case round=>
  rename_i wr;obtain ⟨k,rfl,hk,ZM,VR⟩:=hrel;obtain ⟨h5,hb,c05,c15,c25⟩:=K.out;have hr:=h5.aA (aj.nK VR.out) (Safe.none w5) (λk _ e=>e);have c0r:=aK VR.out c05 (by omega);have c1r:=aK VR.out c15 (by omega);have c2r:=aK VR.out c25 (by omega);by_cases aI:k<c.au.length
  ·have hx:c.au[k]? =some c.au[k]:=List.getElem?_eq_getElem aI;generalize c.au[k]=m at hx;obtain ⟨m1,m2,m3⟩:=JG hx;have ay:=hr.au;rw [hq] at ay;obtain ⟨g,fM,UW⟩:=C9 (n:=c.au.length - 1) (by rw [Nat.sub_add_cancel (by omega)];exact ay);obtain ⟨rfl,rfl⟩:q=some ⟨g,0,none⟩/\cap=fM:=by injection UW with e1 _ e3;exact ⟨e1,e3⟩
   have d0:=ay.cells (g:=g) rfl _ _ m1;have d1:=ay.cells (g:=g) rfl _ _ m2;have d2:=ay.cells (g:=g) rfl _ _ m3;clear ay UW h5 hb c05 c15 m1 m2 m3;unfold av at d0 d1 d2;have e0:wr.cell? ⟨g,k*3,none⟩=some (.string ⟨m.old.toArray⟩):=by
    rcases Nat.eq_zero_or_pos k with rfl|hk0
    ·simpa [Addr.add] using d0
    ·have hk3:¬k*3=0:=by omega
     simpa [Addr.add,hk3] using d0
   have e1:wr.cell? ⟨g,k*3+1,none⟩=some (.string ⟨m.new.toArray⟩):=by simpa [Addr.add] using d1
   have e2:wr.cell? ⟨g,k*3+2,none⟩=some (.string ⟨m.ref.toArray⟩):=by simpa [Addr.add] using d2
   clear d0 d1 d2;have Jn:g<wr.heap.size:=World.block_lt_of_cell? wr _ e0;have qw:(k:Int)<(c.au.length:Int):=by omega
   go_wp2_with fail;have na:(wr.alloc (.cells #[.string ⟨m.old.toArray⟩,.string ⟨m.new.toArray⟩,.string ⟨m.ref.toArray⟩] 142)).cell? ⟨wr.heap.size,2,none⟩=some (.string ⟨m.ref.toArray⟩):=by simp
   have ba:Below w5.heap.size w5 (wr.alloc (.cells #[.string ⟨m.old.toArray⟩,.string ⟨m.new.toArray⟩,.string ⟨m.ref.toArray⟩] 142)):=VR.out.alloc VR.out.size _;have hsa:wr.heap.size+1=(wr.alloc (.cells #[.string ⟨m.old.toArray⟩,.string ⟨m.new.toArray⟩,.string ⟨m.ref.toArray⟩] 142)).heap.size:=by simp
   have c2a:=aK ba c25 (by omega);generalize wr.alloc (.cells #[.string ⟨m.old.toArray⟩,.string ⟨m.new.toArray⟩,.string ⟨m.ref.toArray⟩] 142)=wa at na ba hsa c2a ⊢;clear e0 e1 e2 hr c0r c1r c2r c25;have ba:=z32 ba;by_cases hmd:m.ref=d
   ·have hmb:(m.ref==d)=true:=by rw [hmd];exact beq_self_eq_true _
    go_quiet (fail)
    rename_i nq;go_wp2_with fail;go_ret;have ZL:(c.au.any λm=>m.ref==d)=true:=List.any_eq_true.2 ⟨m,List.mem_of_getElem? hx,hmb⟩;rw [hX'.out,ZL,if_pos rfl];exact ⟨_,v,rfl,lL.refused H.out (qnz (G6.out.trans (ba.out.mono G6.out.size)) nq) p9 rfl⟩
   ·have hmb:(m.ref==d)=false:=beq_eq_false_iff_ne.2 hmd;go_quiet (fail)
    rename_i nq;go_wp2_with fail;refine ⟨⟨k+1,by simp,by omega,z32 ?_,z32 (qnz ba.out nq)⟩,?_⟩
    ·rw [List.take_add_one,hx];simp only [Option.toList_some,List.any_append,ZM.out,List.any_cons,hmb,List.any_nil,Bool.or_false]
    ·show c.au.length - ((k:Int)+1).toNat<c.au.length - (k:Int).toNat;omega
  ·obtain rfl:k=c.au.length:=by omega
   have k7r:wr.cell? ⟨r,7,none⟩=some (.slice q c.au.length cap):=by rw [<-hq];exact hr.cb.at rfl
   have f7r:=aM.frozen hr.cb (i:=7) (hz 7 (by decide) (by decide) (by decide));have ay:=hr.au;rw [hq] at ay;have Y2:(Value.slice q c.au.length cap).ownBlock≠some r:=λe=>hr.rows.1 r (by rw [hq];exact e) rfl;have Fq:=aM.lt hr.cb;have aUE:=VR.out.size;have YW:(Value.slice q c.au.length cap).ownBlock≠some w.heap.size:=λe=>by
    have:=H.out.au;rw [hq] at this;have:=(this.lt _ e).2;omega
   clear h5 hb c05 c15 c25;go_wp2_with fail;obtain ⟨i0,wW,uw,wQ,wP⟩:=info_parts aJQ;have hrw:r≠w.heap.size:=by omega
   have k7a:((wr.alloc (.cells #[.string ⟨a.toArray⟩,.string ⟨b.toArray⟩,.string ⟨d.toArray⟩] 142)).drew).cell? ⟨r,7,none⟩=some (.slice q c.au.length cap):=(World.cell?_of_block (w:=wr) (Below.heap_alloc wr _ r Fq)).trans k7r;have f7a:((wr.alloc (.cells #[.string ⟨a.toArray⟩,.string ⟨b.toArray⟩,.string ⟨d.toArray⟩] 142)).drew).frozen? ⟨r,7,none⟩=false:=(World.frozen?_of_block (w:=wr) (Below.heap_alloc wr _ r Fq)).trans f7r
   go_region_law
    ((refine step_append_lies _ (by rfl) _ _ _ (by rfl) 0 142 i0 _ 3 48 ((Tq.underlying 94).trans Tryz.underlying94) wW uw wQ wP rfl (by omega) _ _ _ (by rfl) ((ay.alloc _).drew)
       ⟨wr.heap.size,0,none⟩ 1 1 [.string ⟨a.toArray⟩,.string ⟨b.toArray⟩,.string ⟨d.toArray⟩] (by rfl) (by rfl) (World.news_of_block (cs:=#[.string ⟨a.toArray⟩,.string ⟨b.toArray⟩,.string ⟨d.toArray⟩]) (t:=142) (fr:=(0,0)) (heap_alloc_new wr _)) (by simp [Value.oneCell'])
       (by omega) (by unfold maxLen;omega) (by omega) (Nat.zero_le _) (wr.heap.size+1) (by simp) ?_;intro gg aAr w6 Mv aX iX aO9;have f76:w6.frozen? ⟨r,7,none⟩=false:=(aX.frozen_far ⟨r,7,none⟩ (by simp;omega) (Ne.symm Y2)).trans (f7a);have k76:w6.cell? ⟨r,7,none⟩=some (.slice q c.au.length cap):=(aX.cell_far ⟨r,7,none⟩ (by simp;omega) (Ne.symm Y2)).trans k7a))
   all_goals
    have c6:aj (λk=>v.cv.ownBlock=some k) w w6:=by
     have q1:aj (λk=>v.cv.ownBlock=some k) w wr:=((aj.nK (G6.out.trans (VR.out.mono G6.out.size))).mono (λ_ _ e=>e.elim))
     have q2:=(q1.alloc (.cells #[.string ⟨a.toArray⟩,.string ⟨b.toArray⟩,.string ⟨d.toArray⟩] 142)).drew;exact q2.grown aX (λk hk=>.inl (by rw [hq];exact hk))
    have iN:=z32 (aDf (mv:=mv) (m:=⟨a,b,d⟩) H.out hz c6 Mv (iX.imp (λe=>by rw [hq];exact e) (λe=>by have:=G6.out.size;omega)));clear c6 Mv aX iX;go_wp2;go_ret;have ZL:(c.au.any λm=>m.ref==d)=false:=by have:=ZM.out;rwa [List.take_length] at this
    rw [hX'.out,ZL,if_neg (by decide)];exact ⟨_,_,rfl,iN.out⟩
theorem Nh (mv:Value) (w:World) (r:Nat) (fz:Nat×Nat) (v:Cv) (c:Cn) (p:ByteArray) (f:Bool) (h:Cx w r fz v c) (hz:Fz fz) (hl:c.au.length<=4) (hp:p.size<4294967281):
 Calls Tq.prog 115 #[.pointer (some ⟨r,2,none⟩),.string p,.bool f] w (RP mv w r fz v (c.command p.data.toList f)):=by
 cases f
 ·by_cases h4:c.au.length=4
  ·exact Vs mv w r fz v c p h h4
  ·by_cases h3:(split 32 p.data.toList).length=3
   ·match hs:split 32 p.data.toList,h3 with
    |[a,b,d],_=>
     cases iw:(oH a&&oH b&&lJ d)
     ·exact Vp mv w r fz v c p a b d h hp (by omega) hs iw
     ·simp only [Bool.and_eq_true] at iw;exact Vo mv w r fz v c p a b d h hz hp (by omega) hs iw.1.1 iw.1.2 iw.2
   ·exact Vq mv w r fz v c p h hp (by omega) h3
 ·by_cases h0:c.au.length=0
  ·exact Vr mv w r fz v c p h hp h0
  ·exact Vt mv w r fz v c p h hz (by omega) hl
end Rx
namespace Rx
open Tx Sp Wg Rd Bk Wi Se Pa
theorem Uw (c:Cn) (h:c.next.1≠.ok):c.next.2.2.2=c.rest:=by
 unfold Cn.next at h ⊢;split
 ·rfl
 ·rename_i h4;rw [if_neg h4] at h;simp only at h ⊢;split
  ·rfl
  ·rename_i h5;rw [if_neg h5] at h;split
   ·rename_i h6;rw [if_pos h6] at h;exact absurd rfl h
   ·rename_i h6;rw [if_neg h6] at h;split
    ·rfl
    ·rename_i h7;rw [if_neg h7] at h;exact absurd rfl h
theorem Dt (c:Cn):c.next.2.1.length<=c.rest.length:=by
 unfold Cn.next;split
 ·exact Nat.zero_le _
 ·simp only;split
  ·exact Nat.zero_le _
  ·split
   ·exact Nat.zero_le _
   ·split
    ·exact Nat.zero_le _
    ·simp only [List.length_drop,List.length_take];omega
theorem F9 {c:Cn} (h:c.next.1≠.ok):c.aV=(c.next.1,c):=by
 unfold Cn.aV;split
 ·rename_i p f r he;rw [he] at h;exact absurd rfl h
 ·rename_i e p f r _ he;rw [he]
theorem KV {c:Cn} (h:c.next.1=.ok):c.aV=if c.second then Cn.object {c with rest:=c.next.2.2.2} c.next.2.1 c.next.2.2.1 else Cn.command {c with rest:=c.next.2.2.2} c.next.2.1 c.next.2.2.1:=by
 unfold Cn.aV;split
 ·rename_i p f r he;rw [he]
 ·rename_i e p f r bA he;rw [he] at h;exact absurd h bA
theorem RP.trans {mv:Value} {w w2:World} {r:Nat} {fz:Nat×Nat} {v:Cv} {x:Er×Cn} {e:Ending} {w':World} (hc:aj (·=r) w w2) (h:RP mv w2 r fz v x e w'):RP mv w r fz v x e w':=by obtain ⟨u,v',rfl,h1,h2,h3,h4,h5⟩:=h;exact ⟨u,v',rfl,ErV.mono h1 hc.size,h2,h3,λk hk=>(h4 k hk).imp id (λe=>Nat.le_trans hc.size e),(hc.mono (λk _ e=>.inl e)).trans h5⟩
theorem RD {w w2:World} {r:Nat} {fz:Nat×Nat} {v:Cv} {c c':Cn} (h:Cx w r fz v c) (hc:aj (·=r) w w2) (hb:Cb w2 r fz v c') (h1:c'.au=c.au) (h2:c'.ah=c.ah):Cx w2 r fz v c':=by
 obtain ⟨vs,o1,o2⟩:=h.ah;obtain ⟨n1,n2,_⟩:=h.rows;refine ⟨hb,?_,vs,?_,?_⟩
 ·rw [h1];exact hc.ownsRow h.au n1
 ·rw [h2];exact hc.ownsRow o1 n2
 ·rw [h2];exact o2.mono λx y _ NG=>NG.aA hc (λk cur T fz hk wY=>h.safe k cur T fz (.inl hk) wY)
theorem xB (mv ev:Value) (w:World) (r:Nat) (fz:Nat×Nat) (v:Cv) (c:Cn) (h:Cx w r fz v c) (hz:Fz fz) (hg:w.cell? ⟨0,0,none⟩=some mv) (hmv:∃t p,mv=.iface t p) (hv:w.cell? ⟨2,0,none⟩=some ev) (oU:ev=.nilIface\/∃te pe,ev=.iface te pe)
 (hl:c.rest.length<=600) (MS:c.au.length<=4) (ho:c.ah.length<=12):Calls Tq.prog 70 #[.pointer (some ⟨r,2,none⟩)] w (RP mv w r fz v c.aV):=by
 have C:=z32 (YA mv ev w r fz v c h.cb hz hg hv oU hl);have hpl:=Dt c;by_cases aH:c.next.1=.ok
 ·rw [KV aH];have aKb:({c with rest:=c.next.2.2.2}:Cn).second=c.second:=rfl;unfold eu at C;rw [aH] at C;generalize BI:({c with rest:=c.next.2.2.2}:Cn)=c' at C aKb ⊢;have e1:c'.au=c.au:=by rw [<-BI]
  have e2:c'.ah=c.ah:=by rw [<-BI]
  generalize c.next.2.1=p at C hpl ⊢;generalize c.next.2.2.1=f at C ⊢;clear aH BI;obtain ⟨X,hX⟩:∃X,X=(if c.second then Cn.object c' p f else Cn.command c' p f):=⟨_,rfl⟩
  rw [<-hX];have hX':=z32 hX;clear hX;have H:=z32 h;clear h;go_enter Tq.func70,Tryz.ntmps70;go_wp2_with fail;refine C.out.mono ?_;rintro e w2 ⟨u,rfl,hu,gQ,c2⟩;obtain rfl:u=.nilIface:=hu;have h2:=RD H.out c2 gQ e1 e2;have k5:w2.cell? ⟨r,5,none⟩=some (.bool c.second):=by rw [<-aKb];exact h2.cb.at rfl
  have O:=z32 (OX mv w2 r fz v c' ⟨p.toArray⟩ f h2 hz (by rw [e2];exact ho) (by show p.length<_;omega));have M:=z32 (Nh mv w2 r fz v c' ⟨p.toArray⟩ f h2 hz (by rw [e1];exact MS) (by show p.length<_;omega));have c2:=z32 c2;clear gQ h2;unfold av;generalize c.second=sc at k5 hX';cases sc
  ·have hX2:Hid (X=Cn.command c' p f):=z32 hX'.out;go_wp2_with fail;refine M.out.mono ?_;intro e w3 h3;have h3:=RP.trans c2.out h3;obtain ⟨u,v',rfl,h4⟩:=h3;have h4:=z32 h4;go_wp2_with fail;go_ret;rw [hX2.out];exact ⟨_,v',rfl,h4.out⟩
  ·have hX2:Hid (X=Cn.object c' p f):=z32 hX'.out;go_wp2_with fail;refine O.out.mono ?_;intro e w3 h3;have h3:=RP.trans c2.out h3;obtain ⟨u,v',rfl,h4⟩:=h3;have h4:=z32 h4;go_wp2_with fail;go_ret;rw [hX2.out];exact ⟨_,v',rfl,h4.out⟩
 ·rw [F9 aH];have hr:=Uw c aH;unfold eu at C;rw [hr] at C;have ce:({c with rest:=c.rest}:Cn)=c:=rfl;rw [ce] at C;have H:=z32 h;clear h hr ce;generalize c.next.1=er at C aH ⊢;generalize c.next.2.1=p at C hpl;generalize c.next.2.2.1=f at C;go_enter Tq.func70,Tryz.ntmps70;go_wp2_with fail;refine C.out.mono ?_;rintro e w2 ⟨u,rfl,hu,gQ,c2⟩;have h2:=RD H.out c2 gQ rfl rfl;have hui:∃t q,u=.iface t q:=by
   cases er with
   |ok=>exact absurd rfl aH
   |more=>obtain ⟨t,q,rfl⟩:=hmv;exact ⟨t,q,hu⟩
   |refused x=>obtain ⟨b,UR,_⟩:=hu;exact ⟨_,_,UR⟩
  have F:=z32 (y32 hu (y32 h2 c2));clear hu h2 c2 gQ;obtain ⟨t,q,rfl⟩:=hui;go_wp2_with fail;go_ret;obtain ⟨hu,h2,c2⟩:=F.out;exact ⟨_,v,rfl,hu,h2,rfl,λk hk=>.inl hk,c2.mono (λk _ e=>.inl e)⟩
end Rx
end
end Go.Proofs.YtmanpggemmgnnaaGreatDoor
