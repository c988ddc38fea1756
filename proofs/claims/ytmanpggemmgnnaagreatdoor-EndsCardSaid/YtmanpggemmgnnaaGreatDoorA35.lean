/- Ends: a part. Conditions: none. -/
import Derived.Test.YtmanpggemmgnnaaGreatDoorA26
import Derived.Test.YtmanpggemmgnnaaGreatDoorA30
set_option linter.all false
set_option maxHeartbeats 8000000
set_option maxRecDepth 1000000
namespace Go.Proofs.YtmanpggemmgnnaaGreatDoor
noncomputable section
open Go Go.RowKit Go.Shelf Ba Fr Tryz
namespace De
open Tx Sp Wg Rd Bk Wi Se Rx Mp
def OM(w:World)(b:Nat)(m:M B):Prop:=∃mv:M Value,SM w b mv/\q8 (λv t=>Ob w t v) mv m
structure qZ w st mo mr μ(S:St):Prop where
 blk:aM w st #[.int .i32 μ,.int .u32 0,.bool S.forward,.int .i64 S.room,.map (some mo),.map (some mr)] 65 (0,0)
 ah:OM w mo S.ah
 refs:SM w mr (mapM av S.refs)
structure kK w pb mw cv p cl:Prop where
 blk:aM w pb #[cv,.map (some mw),.bool cl] 155 (0,0)
 waits:OM w mw p
def OM.aA{w b m S U}(h:OM w b m)(L:aj S w U)(hs:Rx.Safe w S)(hb:¬S b):OM U b m:=by obtain⟨mv,V,J⟩:=h;exact⟨mv,V.block (L.block b V.lt hb),J.mono λk x y _ Y=>Y.aA L hs⟩
def OM.lt{w b m}(h:OM w b m):b<w.heap.size:=by obtain⟨mv,V,_⟩:=h;exact V.lt
def OM.up{w b m}(h:OM w b m):M.Up m:=by obtain⟨mv,V,J⟩:=h;have:=V.rising;have e:=J.keys;have h3:(mv.map (·.1)).Pairwise λp q=>si p q=true:=ia.2 this;rw[e]at h3;exact ia.1 h3
def OM.eQ{w b m}(h:OM w b m):∀xs t fz,w.heap[b]? ≠some (.cells xs t fz):=by obtain⟨mv,⟨es,cl,hb,_⟩,_⟩:=h;intro xs t fz e;rw[hb]at e;cases e
def qZ.aA{w st mo mr μ s S U}(h:qZ w st mo mr μ s)(L:aj S w U)(hs:Rx.Safe w S)(V:¬S st)(J:¬S mo)(h3:¬S mr):qZ U st mo mr μ s:=
 ⟨h.blk.aA L V,h.ah.aA L hs J,h.refs.block (L.block mr h.refs.lt h3)⟩
def kK.aA{w pb mw cv p cl S U}(h:kK w pb mw cv p cl)(L:aj S w U)(hs:Rx.Safe w S)(V:¬S pb)(J:¬S mw):kK U pb mw cv p cl:=
 ⟨h.blk.aA L V,h.waits.aA L hs J⟩
def OV(w:World)(o:Option B)(v:Value):Prop:=match o with
 |none=>v=.nilIface
 |some t=>Ob w t v
def OV.aA{w o v S U}(h:OV w o v)(L:aj S w U)(hs:Rx.Safe w S):OV U o v:=by
 cases o with
 |none=>exact h
 |some t=>exact Ob.aA h L hs
def OM.get{w mv m}{b:Nat}(J:q8 (λv t=>Ob w t v) mv m)k:OV w (M.get m k) ((M.get mv k).getD .nilIface):=by
 rcases J.get k with⟨e1,e2⟩|⟨x,y,e1,e2,r⟩
 ·rw[e1,e2];rfl
 ·rw[e1,e2];exact r
def pE{w o v}(h:OV w o v):v=.nilIface/\o=none\/(∃t b k,v=.iface (ED k) (.pointer (some ⟨b,0,none⟩))/\o=some t):=by
 cases o with
 |none=>exact .inl ⟨h,rfl⟩
 |some t=>obtain⟨o,b,n,_,e,_⟩:=h;exact .inr ⟨t,b,o.kind,e,rfl⟩
def sP w st mo mr pb mw μ S cv p cl k(hS:qZ w st mo mr μ S)(hP:kK w pb mw cv p cl)(A:k.size<=maxLen):
 Calls Tq.prog 133 #[aG st,aG pb,.string k] w λe U=>(∃v,e=.returned v/\OV w (Sp.find S p k.data.toList) v)/\U=w:=by
 obtain⟨pv,hp1,hp2⟩:=hP.waits;obtain⟨ov,Bc,Ax⟩:=hS.ah;have k1:w.cell? ⟨pb,1,none⟩=some (.map (some mw)):=hP.blk.at rfl;have k4:w.cell? ⟨st,4,none⟩=some (.map (some mo)):=hS.blk.at rfl;have g1:=OM.get (b:=mw) hp2 k.data.toList;have g2:=OM.get (b:=mo) Ax k.data.toList;have hf:Sp.find S p k.data.toList=match M.get p k.data.toList with|some t=>some t|none=>M.get S.ah k.data.toList:=rfl
 unfold aG;rcases pE g1 with⟨e1,e2⟩|⟨t,b,kd,e1,e2⟩
 ·rw[e2]at hf;have G:=Lib.hid (l4 g2 hf);clear g1 g2 hf e2 hP hS hp2 Ax;go_enter Tq.func133,ntmps133;go_wp2_with (first
   |(at_lookup;refine Mp.lookup rfl _ _ 55 rfl 106 ((Tq.underlying 55).trans underlying55) (z:=.nilIface) (by simp[zeroValue106]) mw pv rfl hp1 k rfl A ?_;rw[e1])
   |(at_lookup;refine Mp.lookup rfl _ _ 55 rfl 106 ((Tq.underlying 55).trans underlying55) (z:=.nilIface) (by simp[zeroValue106]) mo ov rfl Bc k rfl A ?_))
  go_ret;refine⟨⟨_,rfl,?_⟩,rfl⟩;obtain⟨g2,hf⟩:=G.out;rw[hf];exact g2
 ·rw[e2]at hf g1;rw[e1]at g1;have G:=Lib.hid (l4 g1 hf);clear g1 g2 hf e2 hP hS hp2 Ax;go_enter Tq.func133,ntmps133;go_wp2_with (first
   |(at_lookup;refine Mp.lookup rfl _ _ 55 rfl 106 ((Tq.underlying 55).trans underlying55) (z:=.nilIface) (by simp[zeroValue106]) mw pv rfl hp1 k rfl A ?_;rw[e1]))
  go_ret;refine⟨⟨_,rfl,?_⟩,rfl⟩;obtain⟨g1,hf⟩:=G.out;rw[hf];exact g1
def Q7 k a w:(method 476 (ED k) (.pointer (some a)) "Text").run Tq.prog w=.ok (310,.pointer (some a)) w:=by
 unfold ED;split
 ·kernel_rfl
 ·split
  ·kernel_rfl
  ·kernel_rfl
def YI k a w:(method 476 (ED k) (.pointer (some a)) "Names").run Tq.prog w=.ok (234,.pointer (some a)) w:=by
 unfold ED;split
 ·kernel_rfl
 ·split
  ·kernel_rfl
  ·kernel_rfl
end De
