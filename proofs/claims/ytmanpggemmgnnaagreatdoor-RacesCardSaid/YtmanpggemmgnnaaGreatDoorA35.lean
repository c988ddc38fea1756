/- Races: a part. Conditions: none. -/
import Derived.Test.YtmanpggemmgnnaaGreatDoorA26
import Derived.Test.YtmanpggemmgnnaaGreatDoorA30
set_option linter.all false
set_option maxHeartbeats 8000000
set_option maxRecDepth 1000000
namespace Go.Proofs.YtmanpggemmgnnaaGreatDoor
noncomputable section
open Go Go.RowKit Go.Shelf Ba Fr
namespace De
open Tx Sp Wg Rd Bk Wi Se Rx Mp
def OM (w:World) (b:Nat) (m:M B):Prop:=∃mv:M Value,SM w b mv/\q8 (λv t=>Ob w t v) mv m
structure qZ (w:World) (st mo mr:Nat) (μ:Int) (S:St):Prop where
 blk:aM w st #[.int .i32 μ,.int .u32 0,.bool S.forward,.int .i64 S.room,.map (some mo),.map (some mr)] 65 (0,0)
 ah:OM w mo S.ah
 refs:SM w mr (mapM av S.refs)
structure kK (w:World) (pb mw:Nat) (cv:Value) (p:M B) (cl:Bool):Prop where
 blk:aM w pb #[cv,.map (some mw),.bool cl] 155 (0,0)
 waits:OM w mw p
theorem OM.aA {S:Nat->Prop} {w w':World} {b:Nat} {m:M B} (h:OM w b m) (hc:aj S w w') (hs:Rx.Safe w S) (hb:¬S b):OM w' b m:=by obtain ⟨mv,h1,h2⟩:=h;exact ⟨mv,h1.block (hc.block b h1.lt hb),h2.mono λk x y _ hr=>hr.aA hc hs⟩
theorem OM.lt {w:World} {b:Nat} {m:M B} (h:OM w b m):b<w.heap.size:=by obtain ⟨mv,h1,_⟩:=h;exact h1.lt
theorem OM.up {w:World} {b:Nat} {m:M B} (h:OM w b m):M.Up m:=by obtain ⟨mv,h1,h2⟩:=h;have:=h1.rising;have e:=h2.keys;have h3:(mv.map (·.1)).Pairwise λp q=>si p q=true:=List.pairwise_map.2 this;rw [e] at h3;exact List.pairwise_map.1 h3
theorem OM.eQ {w:World} {b:Nat} {m:M B} (h:OM w b m):∀xs t fz,w.heap[b]? ≠some (.cells xs t fz):=by obtain ⟨mv,⟨es,cl,hb,_⟩,_⟩:=h;intro xs t fz e;rw [hb] at e;cases e
theorem qZ.aA {S:Nat->Prop} {w w':World} {st mo mr:Nat} {μ:Int} {s:St} (h:qZ w st mo mr μ s) (hc:aj S w w') (hs:Rx.Safe w S) (h1:¬S st) (h2:¬S mo) (h3:¬S mr):qZ w' st mo mr μ s:=
 ⟨h.blk.aA hc h1,h.ah.aA hc hs h2,h.refs.block (hc.block mr h.refs.lt h3)⟩
theorem kK.aA {S:Nat->Prop} {w w':World} {pb mw:Nat} {cv:Value} {p:M B} {cl:Bool} (h:kK w pb mw cv p cl) (hc:aj S w w') (hs:Rx.Safe w S) (h1:¬S pb) (h2:¬S mw):kK w' pb mw cv p cl:=
 ⟨h.blk.aA hc h1,h.waits.aA hc hs h2⟩
def OV (w:World) (o:Option B) (v:Value):Prop:=match o with
 |none=>v=.nilIface
 |some t=>Ob w t v
theorem OV.aA {S:Nat->Prop} {w w':World} {o:Option B} {v:Value} (h:OV w o v) (hc:aj S w w') (hs:Rx.Safe w S):OV w' o v:=by
 cases o with
 |none=>exact h
 |some t=>exact Ob.aA h hc hs
theorem OM.get {w:World} {b:Nat} {m:M B} {mv:M Value} (h2:q8 (λv t=>Ob w t v) mv m) (k:B):OV w (M.get m k) ((M.get mv k).getD .nilIface):=by
 rcases h2.get k with ⟨e1,e2⟩|⟨x,y,e1,e2,r⟩
 ·rw [e1,e2];rfl
 ·rw [e1,e2];exact r
theorem pE {o:Option B} {w:World} {v:Value} (h:OV w o v):v=.nilIface/\o=none\/(∃t b k,v=.iface (ED k) (.pointer (some ⟨b,0,none⟩))/\o=some t):=by
 cases o with
 |none=>exact .inl ⟨h,rfl⟩
 |some t=>obtain ⟨o,b,n,_,e,_⟩:=h;exact .inr ⟨t,b,o.kind,e,rfl⟩
theorem sP (w:World) (st mo mr pb mw:Nat) (μ:Int) (S:St) (cv:Value) (p:M B) (cl:Bool) (k:ByteArray) (hS:qZ w st mo mr μ S) (hP:kK w pb mw cv p cl) (hk:k.size<=maxLen):
 Calls Tq.prog 133 #[aG st,aG pb,.string k] w λe w'=>(∃v,e=.returned v/\OV w (Sp.find S p k.data.toList) v)/\w'=w:=by
 obtain ⟨pv,hp1,hp2⟩:=hP.waits;obtain ⟨ov,Px,JY⟩:=hS.ah;have k1:w.cell? ⟨pb,1,none⟩=some (.map (some mw)):=hP.blk.at rfl;have k4:w.cell? ⟨st,4,none⟩=some (.map (some mo)):=hS.blk.at rfl;have g1:=OM.get (b:=mw) hp2 k.data.toList;have g2:=OM.get (b:=mo) JY k.data.toList;have hf:Sp.find S p k.data.toList=match M.get p k.data.toList with|some t=>some t|none=>M.get S.ah k.data.toList:=rfl
 unfold aG;rcases pE g1 with ⟨e1,e2⟩|⟨t,b,kd,e1,e2⟩
 ·rw [e2] at hf;have G:=Lib.hid (And.intro g2 hf);clear g1 g2 hf e2 hP hS hp2 JY;go_enter Tq.func133,Tryz.ntmps133;go_wp2_with (first
   |(at_lookup;refine Mp.lookup rfl _ _ 55 rfl 106 ((Tq.underlying 55).trans Tryz.underlying55) (z:=.nilIface) (by simp [Tryz.zeroValue106]) mw pv rfl hp1 k rfl hk ?_;rw [e1])
   |(at_lookup;refine Mp.lookup rfl _ _ 55 rfl 106 ((Tq.underlying 55).trans Tryz.underlying55) (z:=.nilIface) (by simp [Tryz.zeroValue106]) mo ov rfl Px k rfl hk ?_))
  go_ret;refine ⟨⟨_,rfl,?_⟩,rfl⟩;obtain ⟨g2,hf⟩:=G.out;rw [hf];exact g2
 ·rw [e2] at hf g1;rw [e1] at g1;have G:=Lib.hid (And.intro g1 hf);clear g1 g2 hf e2 hP hS hp2 JY;go_enter Tq.func133,Tryz.ntmps133;go_wp2_with (first
   |(at_lookup;refine Mp.lookup rfl _ _ 55 rfl 106 ((Tq.underlying 55).trans Tryz.underlying55) (z:=.nilIface) (by simp [Tryz.zeroValue106]) mw pv rfl hp1 k rfl hk ?_;rw [e1]))
  go_ret;refine ⟨⟨_,rfl,?_⟩,rfl⟩;obtain ⟨g1,hf⟩:=G.out;rw [hf];exact g1
theorem Q7 (k:UInt8) (a:Addr) (w:World):(method 476 (ED k) (.pointer (some a)) "Text").run Tq.prog w=.ok (310,.pointer (some a)) w:=by
 unfold ED;split
 ·kernel_rfl
 ·split
  ·kernel_rfl
  ·kernel_rfl
theorem YI (k:UInt8) (a:Addr) (w:World):(method 476 (ED k) (.pointer (some a)) "Names").run Tq.prog w=.ok (234,.pointer (some a)) w:=by
 unfold ED;split
 ·kernel_rfl
 ·split
  ·kernel_rfl
  ·kernel_rfl
end De
end
end Go.Proofs.YtmanpggemmgnnaaGreatDoor
