/- Ends: a part. Conditions: none. -/
import Derived.Lib.Hide
import Derived.Test.YtmanpggemmgnnaaGreatDoorA21
import Derived.WalkLawsBesides
set_option linter.all false
set_option maxHeartbeats 8000000
set_option maxRecDepth 1000000
namespace Go.Proofs.YtmanpggemmgnnaaGreatDoor
noncomputable section
open Go Go.RowKit Fr Go.Maps Tryz
namespace Lo
open Tx Sp Mp Bk
def nV(n:Nat):Value:=.int .i64 n
structure Lk w l b ls:Prop where
 blk:aM w l #[.int .i32 0,.int .u32 0,.map (some b)] 69 (0,0)
 map:SM w b (mapM nV ls)
def Lk.ne{w l b ls}(h:Lk w l b ls):l≠b:=h.blk.dV h.map
def Lk.aA{w l b ls S U}(h:Lk w l b ls)(L:aj S w U)(V:¬S l)(J:¬S b):Lk U l b ls:=⟨h.blk.aA L V,h.map.block (L.block b h.map.lt J)⟩
def Xg w(l b c:Nat)ls r(h:Lk w l b ls)(Y:r.size<=maxLen)(L:c<1099511627776)(Q:ls.length<1099511627776)(hg:(M.get ls r.data.toList).getD 0=0):
 Calls Tq.prog 128 #[.pointer (some ⟨l,0,none⟩),.string r,.int .i64 c] w λe U=>e=.returned (.bool true)/\Lk U l b (M.put ls r.data.toList (c+1))/\aj (λk=>k=l\/k=b) w U:=by
 have tW:=h.ne;obtain⟨hb,hm⟩:=h;have k0:w.cell? ⟨l,0,none⟩=some (.int .i32 0):=hb.at rfl;have f0:=hb.frozen (i:=0) (.inr (aI _));have xd:aM (w.setCell ⟨l,0,none⟩ (.int .i32 1)) l #[.int .i32 1,.int .u32 0,.map (some b)] 69 (0,0):=hb.set 0 _;have ry:SM (w.setCell ⟨l,0,none⟩ (.int .i32 1)) b (mapM nV ls):=hm.block (Below.heap_setCell _ _ _ _ tW.symm);have kk:(w.setCell ⟨l,0,none⟩ (.int .i32 1)).cell? ⟨l,2,none⟩=some (.map (some b)):=xd.at rfl;have ev:((M.get (mapM nV ls) r.data.toList).getD (.int .i64 0))=.int .i64 0:=by
  rw[mU];cases hh:M.get ls r.data.toList with
  |none=>rfl
  |some n=>rw[hh]at hg;obtain rfl:n=0:=hg;rfl
 have c1:aj (λk=>k=l\/k=b) w (w.setCell ⟨l,0,none⟩ (.int .i32 1)):=(aj.refl _ w).setCell (.inl (.inl rfl)) _;have hL:=Lib.hid (l4 xd c1)
 go_enter_defers Tq.func128,ntmps128
 generalize sD:w.setCell ⟨l,0,none⟩ (.int .i32 1)=w1 at ry kk hL;go_wp2_with (first
  |(go_at_call 38;refine(iR l 0 w k0 f0).mono ?_;rintro e U ⟨rfl,rfl⟩;rw[sD])
  |(at_lookup;refine Mp.lookup rfl _ _ 67 rfl 3 ((Tq.underlying 67).trans underlying67) (z:=.int .i64 0) (by simp[zeroValue3]) b _ rfl ry r rfl Y ?_;rw[ev])
  |(at_mapUpdate;refine Mp.store rfl _ _ _ 67 rfl 3 ((Tq.underlying 67).trans underlying67) b _ rfl ry (by rw[mapM_length];unfold maxLen;omega) r (nV (c+1)) rfl rfl Y ?_;intro w2 ky LS)
  |go_in)
 have c2:=dY LS;have wj:=hL.out.1.aA c2 tW;have k2:w2.cell? ⟨l,0,none⟩=some (.int .i32 1):=wj.at rfl;refine leaves_cons (f:=39) (args:=#[.pointer (some ⟨l,0,none⟩)]) (by simp) (by simp[go_sem]) ?_;refine(fE l 0 .returning w2 k2 (wj.frozen (.inr (aI _)))).mono ?_;rintro e u' w3 ⟨rfl,rfl,rfl⟩;refine⟨_,results_tmp rfl _ _ _,rfl,⟨wj.set 0 _,?_⟩,((hL.out.2.trans' c2 (λi _ e=>.inr e)).setCell (.inl (.inl rfl)) _)⟩;rw[<-Ls];exact ky.block (Below.heap_setCell _ _ _ _ tW.symm)
def aBm w(l b c:Nat)ls r(h:Lk w l b ls)(Y:r.size<=maxLen)(hg:(M.get ls r.data.toList).getD 0≠0):
 Calls Tq.prog 128 #[.pointer (some ⟨l,0,none⟩),.string r,.int .i64 c] w λe U=>e=.returned (.bool false)/\Lk U l b ls/\aj (λk=>k=l\/k=b) w U:=by
 have tW:=h.ne;obtain⟨hb,hm⟩:=h;have k0:w.cell? ⟨l,0,none⟩=some (.int .i32 0):=hb.at rfl;have f0:=hb.frozen (i:=0) (.inr (aI _));have xd:aM (w.setCell ⟨l,0,none⟩ (.int .i32 1)) l #[.int .i32 1,.int .u32 0,.map (some b)] 69 (0,0):=hb.set 0 _;have ry:SM (w.setCell ⟨l,0,none⟩ (.int .i32 1)) b (mapM nV ls):=hm.block (Below.heap_setCell _ _ _ _ tW.symm);have kk:(w.setCell ⟨l,0,none⟩ (.int .i32 1)).cell? ⟨l,2,none⟩=some (.map (some b)):=xd.at rfl;obtain⟨v,ev,DU⟩:∃v:Nat,((M.get (mapM nV ls) r.data.toList).getD (.int .i64 0))=.int .i64 v/\v≠0:=by
  rw[mU];cases hh:M.get ls r.data.toList with
  |none=>rw[hh]at hg;exact absurd rfl hg
  |some n=>rw[hh]at hg;exact⟨n,rfl,hg⟩
 have Fj:¬((v:Int)=0):=by omega
 have c1:aj (λk=>k=l\/k=b) w (w.setCell ⟨l,0,none⟩ (.int .i32 1)):=(aj.refl _ w).setCell (.inl (.inl rfl)) _;have hL:=Lib.hid (l4 xd c1)
 go_enter_defers Tq.func128,ntmps128
 generalize sD:w.setCell ⟨l,0,none⟩ (.int .i32 1)=w1 at ry kk hL;go_wp2_with (first
  |(go_at_call 38;refine(iR l 0 w k0 f0).mono ?_;rintro e U ⟨rfl,rfl⟩;rw[sD])
  |(at_lookup;refine Mp.lookup rfl _ _ 67 rfl 3 ((Tq.underlying 67).trans underlying67) (z:=.int .i64 0) (by simp[zeroValue3]) b _ rfl ry r rfl Y ?_;rw[ev])
  |go_in)
 have wj:=hL.out.1;have k2:w1.cell? ⟨l,0,none⟩=some (.int .i32 1):=wj.at rfl;refine leaves_cons (f:=39) (args:=#[.pointer (some ⟨l,0,none⟩)]) (by simp) (by simp[go_sem]) ?_;refine(fE l 0 .returning w1 k2 (wj.frozen (.inr (aI _)))).mono ?_;rintro e u' w3 ⟨rfl,rfl,rfl⟩;exact⟨_,results_tmp rfl _ _ _,rfl,⟨wj.set 0 _,ry.block (Below.heap_setCell _ _ _ _ tW.symm)⟩,hL.out.2.setCell (.inl (.inl rfl)) _⟩
end Lo
