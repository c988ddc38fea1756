/- Races: a part. Conditions: none. -/
import Derived.Laws.EntriesVeiled
import Derived.StillTailTactics
import Derived.Test.YtmanpggemmgnnaaGreatDoorA26
import Derived.Test.YtmanpggemmgnnaaGreatDoorA28
set_option linter.all false
set_option maxHeartbeats 8000000
set_option maxRecDepth 1000000
namespace Go.Proofs.YtmanpggemmgnnaaGreatDoor
noncomputable section
open Go Go.RowKit Ba Fr Go.Maps
theorem z29 {p:Prop} (h:p):Go.RowKit.Hid p:=Go.Lib.hid h
theorem y29 {a b:Prop} (x:a) (y:b):a/\b:=⟨x,y⟩
theorem qaB8 {S:Nat->Prop} {a b:World} (h:aj S a.drew b):aj S a b:=⟨h.os,h.tape,h.output,h.size,h.block⟩
namespace Lo
open Tx Sp Mp Bk Wg Rd Se
theorem fZ {w:World} {B E n:Nat} {v:Value} {xs:List Value} (h:w.ownsRow B E 1 v n xs):
 ∃p cap,v=.slice p n cap/\∀(i:Nat) (x:Value),xs[i]? =some x->∃a,p=some a/\B<=a.block/\v.ownBlock=some a.block/\w.cell? (a.add i)=some x:=by
 rcases h.2 with ⟨rfl,h0⟩|⟨g,cap,cur,rfl,hB,_⟩
 ·refine ⟨none,0,by rw [h0],λi x hx=>?_⟩;have:xs.length=0:=by rw [h.1,h0]
  rw [List.length_eq_zero_iff.1 this] at hx;simp at hx
 ·exact ⟨_,cap,rfl,λi x hx=>⟨_,rfl,hB,rfl,by have:=h.cells (g:=g) rfl i x hx;simpa [Addr.add] using this⟩⟩
theorem aCY {α:Type} {A D:M α} {k:B} {v:α} (h:∀p∈A,p.1≠k):M.get (A++(k,v)::D) k=some v:=by
 unfold M.get;rw [List.find?_append];have:A.find? (λp=>p.1==k)=none:=List.find?_eq_none.2 λp hp=>by simpa using h p hp
 rw [this];simp
theorem aDb {α:Type} {A D:M α} {k:B} {v:α} (h:∀p∈A,p.1≠k) (h':∀p∈D,p.1≠k):M.del (A++(k,v)::D) k=A++D:=by unfold M.del;rw [List.filter_append,List.filter_cons];simp only [beq_self_eq_true,Bool.not_true,Bool.false_eq_true,if_false];rw [List.filter_eq_self.2 (λp hp=>by simpa using h p hp),List.filter_eq_self.2 (λp hp=>by simpa using h' p hp)]
def upto (ls:M Nat) (c k:Nat):M Nat:=give (ls.take k) c++ls.drop k
theorem Wp {ls:M Nat} (hn:(ls.map (·.1)).Nodup) (c k:Nat) {x:B×Nat} (hx:ls[k]? =some x):M.get (upto ls c k) x.1=some x.2/\
 M.del (upto ls c k) x.1=give (ls.take k) c++ls.drop (k+1)/\upto ls c (k+1)=if x.2=c+1 then give (ls.take k) c++ls.drop (k+1) else upto ls c k:=by
 obtain ⟨aI,rfl⟩:=List.getElem?_eq_some_iff.1 hx;have hd:ls.drop k=ls[k]::ls.drop (k+1):=List.drop_eq_getElem_cons aI;have aF6:ls=ls.take k++ls[k]::ls.drop (k+1):=by rw [<-hd,List.take_append_drop]
 have VO:=hn;rw [aF6,List.map_append,List.map_cons,List.nodup_append] at VO;obtain ⟨_,h2,h3⟩:=VO;have hA:∀p∈give (ls.take k) c,p.1≠(ls[k]).1:=λp hp=>by
  have hp':p∈ls.take k:=(List.mem_filter.1 hp).1;exact h3 _ (List.mem_map.2 ⟨p,hp',rfl⟩) _ (List.mem_cons_self ..)
 have hD:∀p∈ls.drop (k+1),p.1≠(ls[k]).1:=λp hp e=>by
  have:=(List.nodup_cons.1 h2).1;exact this (e▸List.mem_map.2 ⟨p,hp,rfl⟩)
 unfold upto;rw [hd];refine ⟨aCY hA,aDb hA hD,?_⟩;have ht:ls.take (k+1)=ls.take k++[ls[k]]:=by rw [List.take_add_one,hx];rfl
 rw [ht];unfold give;rw [List.filter_append];by_cases e:(ls[k]).2=c+1
 ·rw [if_pos e];simp [e]
 ·rw [if_neg e];simp [e]
theorem Wq (ls:M Nat) (c:Nat):upto ls c ls.length=give ls c:=by unfold upto;simp
theorem Oz {ls:M Nat} {w:World} {b:Nat} (h:SM w b (mapM nV ls)):(ls.map (·.1)).Nodup:=by
 have:=nodup_keys h.rising
 rwa [uq] at this
theorem ZV (w:World) (l b c:Nat) (ls:M Nat) (h:Lk w l b ls) (hc:c<1099511627776) (hn:ls.length<1099511627776):
 Calls Tq.prog 120 #[aG l,.int .i64 c] w λe w'=>e=.returned (.tuple #[])/\Lk w' l b (give ls c)/\aj (λk=>k=l\/k=b) w w':=by
 have bA:=h.ne;obtain ⟨hb,hm⟩:=h;have hnd:=Oz hm;have hlb:=hb.lt;have hmb:=hm.lt;have k0:w.cell? ⟨l,0,none⟩=some (.int .i32 0):=hb.at rfl;have f0:=hb.frozen (i:=0) (.inr (Nat.le_refl _));have ll:aM (w.setCell ⟨l,0,none⟩ (.int .i32 1)) l #[.int .i32 1,.int .u32 0,.map (some b)] 69 (0,0):=hb.set 0 _;have ry:SM (w.setCell ⟨l,0,none⟩ (.int .i32 1)) b (mapM nV ls):=hm.block (Below.heap_setCell _ _ _ _ bA.symm);have kk:(w.setCell ⟨l,0,none⟩ (.int .i32 1)).cell? ⟨l,2,none⟩=some (.map (some b)):=ll.at rfl;have c1:aj (λk=>k=l\/k=b) w (w.setCell ⟨l,0,none⟩ (.int .i32 1)):=(aj.refl _ w).setCell (.inl (.inl rfl)) _;have bW:(w.setCell ⟨l,0,none⟩ (.int .i32 1)).heap.size=w.heap.size:=by simp
 generalize sD:w.setCell ⟨l,0,none⟩ (.int .i32 1)=w1 at ll ry kk c1 bW;have C:=z29 (Ks.aCp w1 b (mapM nV ls) ry (by rw [mapM_length];exact hn));rw [mapM_length,uq,bW] at C;have H:=z29 (y29 ll (y29 ry c1));have hnd:=z29 hnd;clear hb hm ll ry c1;unfold aG
 go_enter_defers Tq.func120,Tryz.ntmps120
 go_wp2_with (first
  |(go_at_call 38;refine (iR l 0 w k0 f0).mono ?_;rintro e w' ⟨rfl,rfl⟩;rw [sD])
  |(go_at_call 163;refine C.out.mono ?_;rintro e w2 ⟨v,rfl,ay,fJ⟩;obtain ⟨p,cap,rfl,dK⟩:=fZ ay)
  |go_in)
 have Mo:=fJ.size;have gQ:aM w2 l #[.int .i32 1,.int .u32 0,.map (some b)] 69 (0,0):=(fJ.block l (by omega)).trans H.out.1;have ky:SM w2 b (mapM nV ls):=H.out.2.1.block (fJ.block b (by omega));have c2:aj (λk=>k=l\/k=b) w w2:=H.out.2.2.trans' (aj.jU (S:=λ_=>False) fJ (λk h1 h2=>by omega)) (λ_ _ (e:False)=>e.elim);have L0:=z29 (y29 gQ (y29 ky (y29 ay c2)));clear gQ ky ay c2 fJ dK C H
 go_loopw [19] (λi wr=>∃k:Nat,i=.int .i64 k/\k<=ls.length/\Hid (aM wr l #[.int .i32 1,.int .u32 0,.map (some b)] 69 (0,0)/\SM wr b (mapM nV (upto ls c k))/\
  wr.ownsRow w.heap.size 9 1 (.slice p ls.length cap) ls.length ((ls.map (·.1)).map encStr)/\aj (λk=>k=l\/k=b) w wr)) (λi _=>ls.length - (intOf i).toNat)
 case atStart=>exact ⟨0,rfl,Nat.zero_le _,L0⟩
 case round=>
  rename_i wr;clear L0;obtain ⟨k,rfl,hk,HR⟩:=hrel;by_cases aI:k<ls.length
  ·have hx:ls[k]? =some ls[k]:=List.getElem?_eq_getElem aI;generalize ls[k]=x at hx;obtain ⟨u1,u2,u3⟩:=Wp hnd.out c k hx;obtain ⟨VR,Rl,Fq,hcr⟩:=HR.out;obtain ⟨p',fM,ev,dK⟩:=fZ Fq;obtain ⟨a,rfl,hab,_,kc⟩:=dK k (encStr x.1) (by rw [List.map_map,List.getElem?_map,hx];rfl);obtain ⟨rfl,rfl⟩:p=some a/\cap=fM:=by injection ev with e1 _ e3;exact ⟨e1,e3⟩
   have kc:wr.cell? (a.add k)=some (.string ⟨x.1.toArray⟩):=kc;have kk:wr.cell? ⟨l,2,none⟩=some (.map (some b)):=VR.at rfl;have Mj:x.1.length<=maxLen:=by have oI:(x.1,nV x.2)∈mapM nV (upto ls c k):=get_mem (by rw [mU,u1];rfl);exact Rl.keys _ oI
   have el:((M.get (mapM nV (upto ls c k)) x.1).getD (.int .i64 0))=.int .i64 x.2:=by rw [mU,u1];rfl
   have H:=z29 (y29 VR (y29 Fq hcr));have U:=z29 (y29 u2 u3);have qw:(k:Int)<(ls.length:Int):=by omega
   clear VR Fq hcr HR dK ev u2 u3 u1 hx;by_cases VH:x.2=c+1
   ·have hxi:((x.2:Int)=(c:Int)+1):=by omega
    go_wp2_with (first
     |(at_lookup;refine Mp.lookup rfl _ _ 67 rfl 3 ((Tq.underlying 67).trans Tryz.underlying67) (z:=.int .i64 0) (by simp [Tryz.zeroValue3]) b _ rfl Rl ⟨x.1.toArray⟩ rfl Mj ?_;rw [el])
     |(at_delete;refine Mp.delete rfl _ _ 67 rfl 3 ((Tq.underlying 67).trans Tryz.underlying67) b _ rfl Rl ⟨x.1.toArray⟩ rfl Mj ?_;intro w3 hm3 ht3)
     |go_in)
    go_roundw
    case rel=>
     have hc3:=dY ht3;refine ⟨k+1,by simp,by omega,z29 ⟨H.out.1.aA hc3 bA,?_,hc3.ownsRow H.out.2.1 ?_,H.out.2.2.trans' hc3 (λ_ _ e=>.inr e)⟩⟩
     ·rw [U.out.2,if_pos VH,<-U.out.1,<-Dx];exact hm3
     ·intro g hg e;obtain rfl:a.block=g:=Option.some.inj hg;omega
    case measure=>
     show ls.length - ((k:Int)+1).toNat<ls.length - (k:Int).toNat;omega
   ·have hxi:¬((x.2:Int)=(c:Int)+1):=by omega
    go_wp2_with (first
     |(at_lookup;refine Mp.lookup rfl _ _ 67 rfl 3 ((Tq.underlying 67).trans Tryz.underlying67) (z:=.int .i64 0) (by simp [Tryz.zeroValue3]) b _ rfl Rl ⟨x.1.toArray⟩ rfl Mj ?_;rw [el])
     |go_in)
    refine ⟨⟨k+1,by simp,by omega,z29 ⟨H.out.1,by rw [U.out.2,if_neg VH];exact Rl,H.out.2.1,H.out.2.2⟩⟩,?_⟩;show ls.length - ((k:Int)+1).toNat<ls.length - (k:Int).toNat;omega
  ·obtain rfl:k=ls.length:=by omega
   go_wp2;have jE:=HR.out.1;have k3:wr.cell? ⟨l,0,none⟩=some (.int .i32 1):=jE.at rfl;refine leaves_cons (f:=39) (args:=#[.pointer (some ⟨l,0,none⟩)]) (by simp) (by simp [go_sem]) ?_;refine (fE l 0 .returning wr k3 (jE.frozen (.inr (Nat.le_refl _)))).mono ?_;rintro e u' w3 ⟨rfl,rfl,rfl⟩;refine ⟨_,results_none rfl _ _ _,rfl,⟨jE.set 0 _,?_⟩,HR.out.2.2.2.setCell (.inl (.inl rfl)) _⟩;rw [<-Wq];exact HR.out.2.1.block (Below.heap_setCell _ _ _ _ bA.symm)
theorem zu (w:World) (l b r:Nat) (ls:M Nat) (fz:Nat×Nat) (v:Cv) (x:Cn) (st:Nat) (m:Int) (cb:Value) (rs:List Nat) (h:Lk w l b ls) (hr:Cb w r fz v x) (hs:Sr w v.s st l m cb rs) (hz:Fz fz) (hc:v.i<1099511627776) (hn:ls.length<1099511627776):
 Calls Tq.prog 72 #[aG r] w λe w'=>e=.returned (.tuple #[])/\Lk w' l b (give ls v.i)/\Cb w' r fz {v with wk:=.nilFunc} {x with work:=none}/\aj (λk=>k=l\/k=b\/k=r) w w':=by
 have k1:w.cell? ⟨r,1,none⟩=some (.pointer (some ⟨v.s,0,none⟩)):=hr.at rfl;have k0:w.cell? ⟨r,0,none⟩=some (.int .i64 v.i):=hr.at rfl;have k3:w.cell? ⟨v.s,3,none⟩=some (aG l):=hs.blk.at rfl;have EF:r≠l:=aM.ne hr h.blk (by decide);have hrb:r≠b:=aM.dV hr h.map;have C:=z29 (ZV w.drew l b v.i ls ⟨h.blk,h.map.block rfl⟩ hc hn);unfold aG at k3 C ⊢;have aQb:=hz 14 (by decide) (by decide) (by decide);have jf:Hid (Cb w.drew r fz v x):=z29 hr;go_enter Tq.func72,Tryz.ntmps72;go_wp2
 go_still_tail 11,(by kernel_rfl)
 change wpList _ _ _ _ _ w.drew;generalize Ml:w.drew=wd at C jf ⊢;go_wp2_with (go_at_call 120;refine C.out.mono ?_;rintro e w2 ⟨rfl,Rm,c2⟩;have VL:Cb w2 r fz v x:=aM.aA jf.out c2 (by rintro (e|e);exact EF e;exact hrb e);have k14:w2.cell? ⟨r,14,none⟩=some v.wk:=VL.at rfl;have f14:=aM.frozen VL (i:=14) aQb)
 go_end0
 refine ⟨rfl,⟨aM.other Rm.blk (λe=>EF e.symm) _,Rm.map.block (Below.heap_setCell _ _ _ _ (λe=>hrb e.symm))⟩,aM.set VL 14 _,((qaB8 (Ml▸c2:aj (λk=>k=l\/k=b) w.drew w2)).mono (λk _ e=>?_)).setCell (.inl (.inr (.inr rfl))) _⟩;rcases e with e|e
 ·exact .inl e
 ·exact .inr (.inl e)
end Lo
end
end Go.Proofs.YtmanpggemmgnnaaGreatDoor
