/- Ends: a part. Conditions: none. -/
import Derived.Laws.EntriesVeiled
import Derived.StillTailTactics
import Derived.Test.YtmanpggemmgnnaaGreatDoorA26
import Derived.Test.YtmanpggemmgnnaaGreatDoorA28
set_option linter.all false
set_option maxHeartbeats 8000000
set_option maxRecDepth 1000000
namespace Go.Proofs.YtmanpggemmgnnaaGreatDoor
noncomputable section
open Go Go.RowKit Ba Fr Go.Maps Tryz
def Ix{p}(h:p):Go.RowKit.Hid p:=Go.Lib.hid h
def Hi{a b}(x:a)(y:b):a/\b:=⟨x,y⟩
def qaB8{S b a}(h:aj S a.drew b):aj S a b:=⟨h.os,h.tape,h.output,h.size,h.block⟩
namespace Lo
open Tx Sp Mp Bk Wg Rd Se
def fZ{v xs}{w:World}{B hx n:Nat}(h:w.ownsRow B hx 1 v n xs):
 ∃p cap,v=.slice p n cap/\∀i x,xs[i]? =some x->∃a,p=some a/\B<=a.block/\v.ownBlock=some a.block/\w.cell? (a.add i)=some x:=by
 rcases h.2 with⟨rfl,h0⟩|⟨g,cap,cur,rfl,hB,_⟩
 ·refine⟨none,0,by rw[h0],λi x E=>?_⟩;have:xs.length=0:=by rw[h.1,h0]
  rw[List.length_eq_zero_iff.1 this]at E;simp at E
 ·exact⟨_,cap,rfl,λi x E=>⟨_,rfl,hB,rfl,by have:=h.cells (g:=g) rfl i x E;simpa [Addr.add]using this⟩⟩
def aCY{α k}{hk LV:M α}{v}(h:∀p∈hk,p.1≠k):M.get (hk++(k,v)::LV) k=some v:=by
 unfold M.get;rw[List.find?_append];have:hk.find? (λp=>p.1==k)=none:=List.find?_eq_none.2 λp hp=>by simpa using h p hp
 rw[this];simp
def aDb{α k}{hk LV:M α}{v}(h:∀p∈hk,p.1≠k)(h':∀p∈LV,p.1≠k):M.del (hk++(k,v)::LV) k=hk++LV:=by unfold M.del;rw[oV,sT];simp only[pD,kh,bh,cz];rw[oL.2 (λp hp=>by simpa using h p hp),oL.2 (λp hp=>by simpa using h' p hp)]
def upto(ls:M Nat)(c k:Nat):M Nat:=give (ls.take k) c++ls.drop k
def Wp{ls x}(Q:(ls.map (·.1)).Nodup)c k(E:ls[k]? =some x):M.get (upto ls c k) x.1=some x.2/\
 M.del (upto ls c k) x.1=give (ls.take k) c++ls.drop (k+1)/\upto ls c (k+1)=if x.2=c+1 then give (ls.take k) c++ls.drop (k+1)else upto ls c k:=by
 obtain⟨tP,rfl⟩:=bA.1 E;have hd:ls.drop k=ls[k]::ls.drop (k+1):=lx tP;have aF6:ls=ls.take k++ls[k]::ls.drop (k+1):=by rw[<-hd,List.take_append_drop]
 have VO:=Q;rw[aF6,eN,gA,mG]at VO;obtain⟨_,J,h3⟩:=VO;have hA:∀p∈give (ls.take k) c,p.1≠(ls[k]).1:=λp hp=>by
  have hp':p∈ls.take k:=(ju.1 hp).1;exact h3 _ (ey.2 ⟨p,hp',rfl⟩) _ (bj ..)
 have hD:∀p∈ls.drop (k+1),p.1≠(ls[k]).1:=λp hp e=>by
  have:=(js.1 J).1;exact this (e▸ey.2 ⟨p,hp,rfl⟩)
 unfold upto;rw[hd];refine⟨aCY hA,aDb hA hD,?_⟩;have ht:ls.take (k+1)=ls.take k++[ls[k]]:=by rw[fg,E];rfl
 rw[ht];unfold give;rw[oV];by_cases e:(ls[k]).2=c+1
 ·rw[bk e];simp[e]
 ·rw[aX e];simp[e]
def Wq ls c:upto ls c ls.length=give ls c:=by unfold upto;simp
def Oz{w b ls}(h:SM w b (mapM nV ls)):(ls.map (·.1)).Nodup:=by
 have:=nodup_keys h.rising
 rwa[uq]at this
def ZV w(l b c:Nat)ls(h:Lk w l b ls)(L:c<1099511627776)(Q:ls.length<1099511627776):
 Calls Tq.prog 120 #[aG l,.int .i64 c] w λe U=>e=.returned (.tuple #[])/\Lk U l b (give ls c)/\aj (λk=>k=l\/k=b) w U:=by
 have tW:=h.ne;obtain⟨hb,hm⟩:=h;have HJ:=Oz hm;have G3:=hb.lt;have L1:=hm.lt;have k0:w.cell? ⟨l,0,none⟩=some (.int .i32 0):=hb.at rfl;have f0:=hb.frozen (i:=0) (.inr (aI _));have xd:aM (w.setCell ⟨l,0,none⟩ (.int .i32 1)) l #[.int .i32 1,.int .u32 0,.map (some b)] 69 (0,0):=hb.set 0 _;have ry:SM (w.setCell ⟨l,0,none⟩ (.int .i32 1)) b (mapM nV ls):=hm.block (Below.heap_setCell _ _ _ _ tW.symm);have kk:(w.setCell ⟨l,0,none⟩ (.int .i32 1)).cell? ⟨l,2,none⟩=some (.map (some b)):=xd.at rfl;have c1:aj (λk=>k=l\/k=b) w (w.setCell ⟨l,0,none⟩ (.int .i32 1)):=(aj.refl _ w).setCell (.inl (.inl rfl)) _;have uG:(w.setCell ⟨l,0,none⟩ (.int .i32 1)).heap.size=w.heap.size:=by simp
 generalize sD:w.setCell ⟨l,0,none⟩ (.int .i32 1)=w1 at xd ry kk c1 uG;have C:=Ix (Ks.aCp w1 b (mapM nV ls) ry (by rw[mapM_length];exact Q));rw[mapM_length,uq,uG]at C;have H:=Ix (Hi xd (Hi ry c1));have HJ:=Ix HJ;clear hb hm xd ry c1;unfold aG
 go_enter_defers Tq.func120,ntmps120
 go_wp2_with (first
  |(go_at_call 38;refine(iR l 0 w k0 f0).mono ?_;rintro e U ⟨rfl,rfl⟩;rw[sD])
  |(go_at_call 163;refine C.out.mono ?_;rintro e w2 ⟨v,rfl,tM,fJ⟩;obtain⟨p,cap,rfl,uX⟩:=fZ tM)
  |go_in)
 have Mo:=fJ.size;have wj:aM w2 l #[.int .i32 1,.int .u32 0,.map (some b)] 69 (0,0):=(fJ.block l (by omega)).trans H.out.1;have ky:SM w2 b (mapM nV ls):=H.out.2.1.block (fJ.block b (by omega));have c2:aj (λk=>k=l\/k=b) w w2:=H.out.2.2.trans' (aj.jU (S:=λ_=>False) fJ (λk V J=>by omega)) (λ_ _ (e:False)=>e.elim);have L0:=Ix (Hi wj (Hi ky (Hi tM c2)));clear wj ky tM c2 fJ uX C H
 go_loopw [19] (λi wr=>∃k:Nat,i=.int .i64 k/\k<=ls.length/\Hid (aM wr l #[.int .i32 1,.int .u32 0,.map (some b)] 69 (0,0)/\SM wr b (mapM nV (upto ls c k))/\
  wr.ownsRow w.heap.size 9 1 (.slice p ls.length cap) ls.length ((ls.map (·.1)).map encStr)/\aj (λk=>k=l\/k=b) w wr)) (λi _=>ls.length - (intOf i).toNat)
 case atStart=>exact⟨0,rfl,cQ _,L0⟩
 case round=>
  rename_i wr;clear L0;obtain⟨k,rfl,A,HR⟩:=hrel;by_cases tP:k<ls.length
  ·have E:ls[k]? =some ls[k]:=bU tP;generalize ls[k]=x at E;obtain⟨u1,u2,u3⟩:=Wp HJ.out c k E;obtain⟨GF,Rl,Fq,B7⟩:=HR.out;obtain⟨p',vZ,ev,uX⟩:=fZ Fq;obtain⟨a,rfl,hab,_,kc⟩:=uX k (encStr x.1) (by rw[ll,eL,E];rfl);obtain⟨rfl,rfl⟩:p=some a/\cap=vZ:=by injection ev with e1 _ e3;exact⟨e1,e3⟩
   have kc:wr.cell? (a.add k)=some (.string ⟨x.1.toArray⟩):=kc;have kk:wr.cell? ⟨l,2,none⟩=some (.map (some b)):=GF.at rfl;have Mj:x.1.length<=maxLen:=by have oI:(x.1,nV x.2)∈mapM nV (upto ls c k):=get_mem (by rw[mU,u1];rfl);exact Rl.keys _ oI
   have el:((M.get (mapM nV (upto ls c k)) x.1).getD (.int .i64 0))=.int .i64 x.2:=by rw[mU,u1];rfl
   have H:=Ix (Hi GF (Hi Fq B7));have w':=Ix (Hi u2 u3);have qw:(k:Int)<(ls.length:Int):=by omega
   clear GF Fq B7 HR uX ev u2 u3 u1 E;by_cases VH:x.2=c+1
   ·have hxi:((x.2:Int)=(c:Int)+1):=by omega
    go_wp2_with (first
     |(at_lookup;refine Mp.lookup rfl _ _ 67 rfl 3 ((Tq.underlying 67).trans underlying67) (z:=.int .i64 0) (by simp[zeroValue3]) b _ rfl Rl ⟨x.1.toArray⟩ rfl Mj ?_;rw[el])
     |(at_delete;refine Mp.delete rfl _ _ 67 rfl 3 ((Tq.underlying 67).trans underlying67) b _ rfl Rl ⟨x.1.toArray⟩ rfl Mj ?_;intro w3 hm3 ht3)
     |go_in)
    go_roundw
    case rel=>
     have hc3:=dY ht3;refine⟨k+1,by simp,by omega,Ix ⟨H.out.1.aA hc3 tW,?_,hc3.ownsRow H.out.2.1 ?_,H.out.2.2.trans' hc3 (λ_ _ e=>.inr e)⟩⟩
     ·rw[w'.out.2,bk VH,<-w'.out.1,<-Dx];exact hm3
     ·intro g hg e;obtain rfl:a.block=g:=ay hg;omega
    case measure=>
     show ls.length - ((k:Int)+1).toNat<ls.length - (k:Int).toNat;omega
   ·have hxi:¬((x.2:Int)=(c:Int)+1):=by omega
    go_wp2_with (first
     |(at_lookup;refine Mp.lookup rfl _ _ 67 rfl 3 ((Tq.underlying 67).trans underlying67) (z:=.int .i64 0) (by simp[zeroValue3]) b _ rfl Rl ⟨x.1.toArray⟩ rfl Mj ?_;rw[el])
     |go_in)
    refine⟨⟨k+1,by simp,by omega,Ix ⟨H.out.1,by rw[w'.out.2,aX VH];exact Rl,H.out.2.1,H.out.2.2⟩⟩,?_⟩;show ls.length - ((k:Int)+1).toNat<ls.length - (k:Int).toNat;omega
  ·obtain rfl:k=ls.length:=by omega
   go_wp2;have xb:=HR.out.1;have k3:wr.cell? ⟨l,0,none⟩=some (.int .i32 1):=xb.at rfl;refine leaves_cons (f:=39) (args:=#[.pointer (some ⟨l,0,none⟩)]) (by simp) (by simp[go_sem]) ?_;refine(fE l 0 .returning wr k3 (xb.frozen (.inr (aI _)))).mono ?_;rintro e u' w3 ⟨rfl,rfl,rfl⟩;refine⟨_,results_none rfl _ _ _,rfl,⟨xb.set 0 _,?_⟩,HR.out.2.2.2.setCell (.inl (.inl rfl)) _⟩;rw[<-Wq];exact HR.out.2.1.block (Below.heap_setCell _ _ _ _ tW.symm)
def zu w l b r ls fz v x st m cb rs(h:Lk w l b ls)(Y:Cb w r fz v x)(hs:Sr w v.s st l m cb rs)(hz:Fz fz)(L:v.i<1099511627776)(Q:ls.length<1099511627776):
 Calls Tq.prog 72 #[aG r] w λe U=>e=.returned (.tuple #[])/\Lk U l b (give ls v.i)/\Cb U r fz {v with wk:=.nilFunc} {x with work:=none}/\aj (λk=>k=l\/k=b\/k=r) w U:=by
 have k1:w.cell? ⟨r,1,none⟩=some (.pointer (some ⟨v.s,0,none⟩)):=Y.at rfl;have k0:w.cell? ⟨r,0,none⟩=some (.int .i64 v.i):=Y.at rfl;have k3:w.cell? ⟨v.s,3,none⟩=some (aG l):=hs.blk.at rfl;have EF:r≠l:=aM.ne Y h.blk (by decide);have GM:r≠b:=aM.dV Y h.map;have C:=Ix (ZV w.drew l b v.i ls ⟨h.blk,h.map.block rfl⟩ L Q);unfold aG at k3 C ⊢;have aQb:=hz 14 (by decide) (by decide) (by decide);have jf:Hid (Cb w.drew r fz v x):=Ix Y;go_enter Tq.func72,ntmps72;go_wp2
 go_still_tail 11,(by kernel_rfl)
 change wpList _ _ _ _ _ w.drew;generalize CN:w.drew=wd at C jf ⊢;go_wp2_with (go_at_call 120;refine C.out.mono ?_;rintro e w2 ⟨rfl,Bh,c2⟩;have B8:Cb w2 r fz v x:=aM.aA jf.out c2 (by rintro(e|e);exact EF e;exact GM e);have k14:w2.cell? ⟨r,14,none⟩=some v.wk:=B8.at rfl;have f14:=aM.frozen B8 (i:=14) aQb)
 go_end0
 refine⟨rfl,⟨aM.other Bh.blk (λe=>EF e.symm) _,Bh.map.block (Below.heap_setCell _ _ _ _ (λe=>GM e.symm))⟩,aM.set B8 14 _,((qaB8 (CN▸c2:aj (λk=>k=l\/k=b) w.drew w2)).mono (λk _ e=>?_)).setCell (.inl (.inr (.inr rfl))) _⟩;rcases e with e|e
 ·exact .inl e
 ·exact .inr (.inl e)
end Lo
