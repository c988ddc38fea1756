/- Races: a part. Conditions: none. -/
import Derived.Stop.IfaceNil
import Derived.Test.YtmanpggemmgnnaaGreatDoorA33
set_option linter.all false
set_option maxHeartbeats 8000000
set_option maxRecDepth 1000000
namespace Go.Proofs.YtmanpggemmgnnaaGreatDoor
noncomputable section
open Go Go.RowKit Fr
theorem k34 {p:Prop} (h:p:=by kernel_rfl):p:=h
theorem z34 {p:Prop} (h:p):Go.RowKit.Hid p:=Go.Lib.hid h
theorem y34 {a b:Prop} (x:a) (y:b):a/\b:=⟨x,y⟩
section
open Go.Extern.Stop Go.Stop Go.Extern
namespace Ea
theorem Nw (v:Value) (w:World):(ReflectliteType.typeOf #[.iface 337 v]).run Tq.prog w=.ok (.iface 216 (.agg #[.pointer (some ⟨10,337,none⟩)])) w:=k34
theorem JU (w:World):(ReflectliteType.relation "AssignableTo" ReflectliteType.assignableTo #[.agg #[.pointer (some ⟨10,337,none⟩)],.iface 216 (.agg #[.pointer (some ⟨10,135,none⟩)])]).run Tq.prog w=.ok (.bool false) w:=k34
theorem aQy (p:Addr) (w:World):(Instr.typeAssert (.iface 337 (.pointer (some p))) 133 220 true).run Tq.prog w=.ok (.tuple #[.nilIface,.bool false]) w:=run_typeAssert_lacksB ((Tq.underlying 220).trans Tryz.underlying220) k34 k34 _ 133 w
theorem aQx (p:Addr) (w:World):(Instr.typeAssert (.iface 337 (.pointer (some p))) 133 223 true).run Tq.prog w=.ok (.tuple #[.nilIface,.bool false]) w:=run_typeAssert_lacksB ((Tq.underlying 223).trans Tryz.underlying223) k34 k34 _ 133 w
theorem aLE (p:Addr) (w:World):(Instr.typeAssert (.iface 337 (.pointer (some p))) 133 224 true).run Tq.prog w=.ok (.tuple #[.nilIface,.bool false]) w:=run_typeAssert_lacksB ((Tq.underlying 224).trans Tryz.underlying224) k34 k34 _ 133 w
theorem Qf (p t b:Addr) (w:World):
 Calls Tq.prog 119 #[.iface 337 (.pointer (some p)),.iface 137 (.pointer (some t)),.agg #[.pointer (some ⟨10,137,none⟩),.pointer (some b),.int .u64 150],.iface 216 (.agg #[.pointer (some ⟨10,135,none⟩)])] w
  λev w'=>ev=.returned (.bool false)/\Below w.heap.size w w':=by
 have Ay:=@run_callFunc_extern Tq.prog 121 _ ReflectliteType.typeOf Tq.func121 k34 k34 k34 k34;have h35:=@run_callFunc_extern Tq.prog 299 _ (ReflectliteType.relation "AssignableTo" ReflectliteType.assignableTo) Tq.func299 k34 k34 k34 k34;have tO:=Nw;have mA:=lg;have a25:=JU;have u1:=aQy;have u2:=aQx;have u3:=aLE;go_enter Tq.func119,Tryz.ntmps119;go_wp2;refine wp_loop_rounds 1 ?_;rw [rounds_succ];go_wp2;go_ret;exact ⟨rfl,(Below.refl _ _).alloc (Nat.le_refl _) _⟩
theorem aDo (p t:Addr) (w:World) (hg:w.cell? ⟨1,0,none⟩=some (.iface 216 (.agg #[.pointer (some ⟨10,133,none⟩)]))):
 Calls Tq.prog 71 #[.iface 337 (.pointer (some p)),.iface 137 (.pointer (some t))] w λev w'=>ev=.returned (.bool false)/\Below w.heap.size w w':=by
 have h6:=@run_callFunc_extern Tq.prog 116 _ (λargs=>ReflectliteValue.unpack (args.getD 0 (.tuple #[]))) Tq.func116 k34 k34 k34 k34;have h7:=@run_callFunc_extern Tq.prog 117 _ (ReflectliteValue.methodAny (ReflectliteValue.valueError "reflectlite.Value.Type" 0) (λt _ _ _=>ReflectliteType.toType t)) Tq.func117 k34 k34 k34 k34;have h8:=@run_callFunc_extern Tq.prog 118 _ (ReflectliteValue.method (ReflectliteValue.valueError "reflectlite.Value.IsNil" 0) ReflectliteValue.isNil) Tq.func118 k34 k34 k34 k34;have h27:=@run_callFunc_extern Tq.prog 291 _ (ReflectliteType.abiMethod λt=>do pure (.int .u8 (<-Rtype.kind t))) Tq.func291 k34 k34 k34 k34;have h37:=@run_callFunc_extern Tq.prog 301 _ (ReflectliteType.method ReflectliteType.elem) Tq.func301 k34 k34 k34 k34;have h38:=@run_callFunc_extern Tq.prog 302 _ (ReflectliteType.relation "Implements" ReflectliteType.implements_) Tq.func302 k34 k34 k34 k34;have f6:=AQ;have f7:=Nz;have mK:=yJ;have mE:=yK;have mI:=nJ;have k27:=NA;have k25:=NB;have e27:=NC;have i25:=tK;have n8:=HZ ⟨w.heap.size,0,none⟩ t ((w.alloc (.cells #[.pointer (some t)] 137)).alloc (.cells #[.pointer (some ⟨10,137,none⟩),.pointer (some ⟨w.heap.size,0,none⟩),.int .u64 150] 179)) (by simp);have aI:1<w.heap.size:=World.block_lt_of_cell? w ⟨1,0,none⟩ hg;have hg2:((w.alloc (.cells #[.pointer (some t)] 137)).alloc (.cells #[.pointer (some ⟨10,137,none⟩),.pointer (some ⟨w.heap.size,0,none⟩),.int .u64 150] 179)).cell? ⟨1,0,none⟩=some (.iface 216 (.agg #[.pointer (some ⟨10,133,none⟩)])):=by rw [World.cell?_alloc_lt _ _ ⟨1,0,none⟩ (by simp;omega),World.cell?_alloc_lt _ _ ⟨1,0,none⟩ aI];exact hg
 have C:=z34 (λb w=>Qf p t b w);go_enter Tq.func71,Tryz.ntmps71;go_wp2_with fail;refine (C.out _ _).mono ?_;rintro e w2 ⟨rfl,hb⟩;have gQ:Hid (Below w.heap.size w w2):=z34 ((((Below.refl _ w).alloc (Nat.le_refl _) _).alloc (by simp) _).trans (hb.mono (by simp only [World.size_alloc];omega)));clear hb n8 hg2;go_wp2_with fail;go_ret;exact ⟨rfl,gQ.out⟩
theorem aHu (e t:Addr) (old:Value) (w:World) (hg:w.cell? ⟨1,0,none⟩=some (.iface 216 (.agg #[.pointer (some ⟨10,133,none⟩)]))) (ht0:w.cell? t=some old) (hf0:w.frozen? t=false):
 Calls Tq.prog 71 #[.iface 135 (.pointer (some e)),.iface 137 (.pointer (some t))] w λev w'=>ev=.returned (.bool true)/\w'.cell? t=some (.pointer (some e))/\aj (λk=>k=t.block) w w':=by
 have h6:=@run_callFunc_extern Tq.prog 116 _ (λargs=>ReflectliteValue.unpack (args.getD 0 (.tuple #[]))) Tq.func116 k34 k34 k34 k34;have h7:=@run_callFunc_extern Tq.prog 117 _ (ReflectliteValue.methodAny (ReflectliteValue.valueError "reflectlite.Value.Type" 0) (λt _ _ _=>ReflectliteType.toType t)) Tq.func117 k34 k34 k34 k34;have h8:=@run_callFunc_extern Tq.prog 118 _ (ReflectliteValue.method (ReflectliteValue.valueError "reflectlite.Value.IsNil" 0) ReflectliteValue.isNil) Tq.func118 k34 k34 k34 k34;have h27:=@run_callFunc_extern Tq.prog 291 _ (ReflectliteType.abiMethod λt=>do pure (.int .u8 (<-Rtype.kind t))) Tq.func291 k34 k34 k34 k34;have h37:=@run_callFunc_extern Tq.prog 301 _ (ReflectliteType.method ReflectliteType.elem) Tq.func301 k34 k34 k34 k34;have h38:=@run_callFunc_extern Tq.prog 302 _ (ReflectliteType.relation "Implements" ReflectliteType.implements_) Tq.func302 k34 k34 k34 k34;have f6:=AQ;have f7:=Nz;have mK:=yJ;have mE:=yK;have mI:=nJ;have k27:=NA;have k25:=NB;have e27:=NC;have i25:=tK;have n8:=HZ ⟨w.heap.size,0,none⟩ t ((w.alloc (.cells #[.pointer (some t)] 137)).alloc (.cells #[.pointer (some ⟨10,137,none⟩),.pointer (some ⟨w.heap.size,0,none⟩),.int .u64 150] 179)) (by simp);have aI:1<w.heap.size:=World.block_lt_of_cell? w ⟨1,0,none⟩ hg;have htl:t.block<w.heap.size:=World.block_lt_of_cell? w t ht0;have hg2:((w.alloc (.cells #[.pointer (some t)] 137)).alloc (.cells #[.pointer (some ⟨10,137,none⟩),.pointer (some ⟨w.heap.size,0,none⟩),.int .u64 150] 179)).cell? ⟨1,0,none⟩=some (.iface 216 (.agg #[.pointer (some ⟨10,133,none⟩)])):=by rw [World.cell?_alloc_lt _ _ ⟨1,0,none⟩ (by simp;omega),World.cell?_alloc_lt _ _ ⟨1,0,none⟩ aI];exact hg
 have C:=z34 (Vy e t ⟨w.heap.size,0,none⟩ old ((w.alloc (.cells #[.pointer (some t)] 137)).alloc (.cells #[.pointer (some ⟨10,137,none⟩),.pointer (some ⟨w.heap.size,0,none⟩),.int .u64 150] 179)) (by simp)
  (by rw [World.cell?_alloc_lt _ _ t (by simp;omega),World.cell?_alloc_lt _ _ t htl];exact ht0)
  (by rw [World.frozen?_alloc_old _ _ t (by simp;omega),World.frozen?_alloc_old _ _ t (Nat.ne_of_lt htl)];exact hf0))
 go_enter Tq.func71,Tryz.ntmps71;go_wp2_with fail;refine C.out.mono ?_;rintro e' w2 ⟨rfl,hw⟩;have gQ:Hid (w2.cell? t=some (.pointer (some e))/\aj (λk=>k=t.block) w w2):=by rw [hw];refine z34 ⟨World.cell?_setCell_same' _ _ _ ?_,(((((aj.refl (λk=>k=t.block) w).alloc _).alloc _).alloc _).alloc _).setCell (.inl rfl) _⟩;rw [World.cell?_alloc_lt _ _ t (by simp;omega),World.cell?_alloc_lt _ _ t (by simp;omega),World.cell?_alloc_lt _ _ t (by simp;omega),World.cell?_alloc_lt _ _ t htl,ht0];rfl
 clear hw n8 hg2;go_wp2_with fail;go_ret;exact ⟨rfl,gQ.out⟩
theorem aDt (p:Addr) (w:World):(binOp BinOp.eql 133 .nilIface (.iface 337 (.pointer (some p)))).run Tq.prog w=.ok (.bool false) w:=k34
theorem aLF:Tq.prog.isIface 133=true:=k34
theorem aHV:(Tq.prog.info? 337).map (λi=>i.comparable)=some true:=k34
theorem XM {P:Program} {T:TypeId} {i:TypeInfo} (hi:P.info? T=some i) (w:World):Sem.run P (typeInfo T) w=.ok i w:=by show Sem.run P (match P.info? T with|some i=>pure i|none=>stuck "no such type") w=.ok i w;rw [hi];rfl
theorem aLG (p:Addr) (w:World):(binOp BinOp.eql 133 (.iface 337 (.pointer (some p))) (.iface 337 (.pointer (some p)))).run Tq.prog w=.ok (.bool true) w:=by
 have h:=aHV;cases hi:Tq.prog.info? 337 with
 |none=>rw [hi] at h;cases h
 |some i=>rw [hi] at h;have hc:i.comparable=true:=Option.some.inj h;exact Go.run_eql_iface_same w 133 337 339 i 0 aLF (XM hi w) hc ((Tq.underlying 337).trans Tryz.underlying337) ((Tq.sizeOf 339 w).trans (Tryz.sizeOf339 w)) p
theorem YR (p:Addr) (w:World):Calls Tq.prog 73 #[.nilIface,.iface 337 (.pointer (some p))] w λev w'=>ev=.returned (.bool false)/\w'=w:=by have bA:=aDt p;go_enter Tq.func73,Tryz.ntmps73;go_wp2;go_ret;exact ⟨rfl,rfl⟩
theorem wM (h:Value) (w:World):(Go.method 476 216 (.agg #[h]) "Comparable").run Tq.prog w=.ok (300,.agg #[h]) w:=k34
theorem JS (w:World):((ReflectliteType.method λt=>do Rtype.noPackHeld "Comparable" t;Functor.map (λa=>Value.bool a.comparable) (typeInfo t)) #[.agg #[.pointer (some ⟨10,337,none⟩)]]).run Tq.prog w=.ok (.bool true) w:=k34
theorem Pd (p:Addr) (w:World):Calls Tq.prog 122 #[.iface 337 (.pointer (some p)),.iface 337 (.pointer (some p)),.bool true] w λev w'=>ev=.returned (.bool true)/\w'=w:=by have hq:=aLG p;go_enter Tq.func122,Tryz.ntmps122;go_wp2;refine wp_loop_rounds 1 ?_;rw [rounds_succ];go_wp2;go_ret;exact ⟨rfl,rfl⟩
theorem aCq (p:Addr) (w:World):Calls Tq.prog 73 #[.iface 337 (.pointer (some p)),.iface 337 (.pointer (some p))] w λev w'=>ev=.returned (.bool true)/\w'=w:=by have Ay:=@run_callFunc_extern Tq.prog 121 _ ReflectliteType.typeOf Tq.func121 k34 k34 k34 k34;have aU6:=@run_callFunc_extern Tq.prog 300 _ (ReflectliteType.method λt=>do Rtype.noPackHeld "Comparable" t;pure (.bool (<-typeInfo t).comparable)) Tq.func300 k34 k34 k34 k34;have tO:=Nw;have mC:=wM;have cC:=JS;have hq:=aLG p;go_enter Tq.func73,Tryz.ntmps73;go_wp2_with fail;refine (Pd p w).mono ?_;rintro e w2 ⟨rfl,rfl⟩;go_wp2_with fail;go_ret;exact ⟨rfl,rfl⟩
end Ea
end
section
open Go.Shelf Ba
namespace Rx
open Tx Sp Wg Rd Bk Wi Se Pa Lo
structure Gl (w:World) (p:Addr) (ev:Value):Prop where
 more:w.cell? ⟨0,0,none⟩=some (.iface 337 (.pointer (some p)))
 et:w.cell? ⟨1,0,none⟩=some (.iface 216 (.agg #[.pointer (some ⟨10,133,none⟩)]))
 QI:w.cell? ⟨2,0,none⟩=some ev
 oU:ev=.nilIface\/∃te pe,ev=.iface te pe
theorem Gl.aA {S:Nat->Prop} {w w':World} {p:Addr} {ev:Value} (h:Gl w p ev) (hc:aj S w w') (h0:¬S 0) (h1:¬S 1) (h2:¬S 2):Gl w' p ev:=
 ⟨hc.bB h.more h0,hc.bB h.et h1,hc.bB h.QI h2,h.oU⟩
def WvR (w:World) (v:Value) (l:List B):Prop:=∃p cap,v=.slice p l.length cap/\l.length<=cap/\(l≠[]->∃g o cur,p=some ⟨g,o,none⟩/\w.heap[g]? =some (.cells cur 9 (0,0))/\∀i x,l[i]? =some x->cur[o+i]? =some (av x))
theorem WvR.aA {w w':World} {S:Nat->Prop} {v:Value} {l:List B} (h:WvR w v l) (hc:aj S w w') (hs:Safe w S):WvR w' v l:=by obtain ⟨p,cap,h1,U8,h2⟩:=h;refine ⟨p,cap,h1,U8,λhl=>?_⟩;obtain ⟨g,o,cur,e1,e2,e3⟩:=h2 hl;exact ⟨g,o,cur,e1,(hc.block g (lt_of_block e2) (λe=>(hs g _ _ _ e e2).2.2.2.1 rfl)).trans e2,e3⟩
def FE (w:World) (r:Nat) (v:Cv) (c:Cn):Prop:=match c.work with
 |some .read=>v.wk=.func (.func 44) #[aG r] #[]/\v.wv=.slice none 0 0/\c.aY=[]
 |some .lock=>v.wk=.func (.func 75) #[aG r] #[]/\WvR w v.wv c.aY
 |some .fin=>∃bx,v.wk=.func (.func 127) #[] #[aG bx]/\aM w bx #[aG r] 91 (0,0)
 |none=>v.wk=.nilFunc
theorem FE.aA {w w':World} {S:Nat->Prop} {r:Nat} {v:Cv} {c:Cn} (h:FE w r v c) (hc:aj S w w') (hs:Safe w S):FE w' r v c:=by
 unfold FE at h ⊢;split
 ·simp only [*] at h;exact h
 ·simp only [*] at h;exact ⟨h.1,h.2.aA hc hs⟩
 ·simp only [*] at h;obtain ⟨bx,h1,h2⟩:=h;exact ⟨bx,h1,h2.aA hc (λe=>(hs bx _ _ _ e h2).2.2.2.2 rfl)⟩
 ·simp only [*] at h;exact h
structure Cw (w:World) (r:Nat) (fz:Nat×Nat) (v:Cv) (c:Cn):Prop where
 cx:Cx w r fz v c
 wk:FE w r v c
theorem Cw.aA {S:Nat->Prop} {w w':World} {r:Nat} {fz:Nat×Nat} {v:Cv} {c:Cn} (h:Cw w r fz v c) (hc:aj S w w') (hs:Safe w S) (hn:∀k,Fp r v k->¬S k):Cw w' r fz v c:=⟨h.cx.aA hc hs hn,h.wk.aA hc hs⟩
theorem qf (c:Cn):c.aV.2.work=c.work/\c.aV.2.aY=c.aY/\c.aV.2.over=c.over/\c.aV.2.bR=c.bR/\c.aV.2.bK=c.bK:=by
 have hc:∀(d:Cn) (p:B) (f:Bool),(d.command p f).2.work=d.work/\(d.command p f).2.aY=d.aY/\(d.command p f).2.over=d.over/\(d.command p f).2.bR=d.bR/\(d.command p f).2.bK=d.bK:=by
  intro d p f;unfold Cn.command;split
  ·exact ⟨rfl,rfl,rfl,rfl,rfl⟩
  ·split
   ·exact ⟨rfl,rfl,rfl,rfl,rfl⟩
   ·split
    ·split
     ·split<;>exact ⟨rfl,rfl,rfl,rfl,rfl⟩
     ·exact ⟨rfl,rfl,rfl,rfl,rfl⟩
    ·exact ⟨rfl,rfl,rfl,rfl,rfl⟩
 have ho:∀(d:Cn) (p:B) (f:Bool),(d.object p f).2.work=d.work/\(d.object p f).2.aY=d.aY/\(d.object p f).2.over=d.over/\(d.object p f).2.bR=d.bR/\(d.object p f).2.bK=d.bK:=by
  intro d p f;unfold Cn.object;split
  ·exact ⟨rfl,rfl,rfl,rfl,rfl⟩
  ·split
   ·exact ⟨rfl,rfl,rfl,rfl,rfl⟩
   ·split<;>exact ⟨rfl,rfl,rfl,rfl,rfl⟩
 unfold Cn.aV;split
 ·split
  ·exact ho _ _ _
  ·exact hc _ _ _
 ·exact ⟨rfl,rfl,rfl,rfl,rfl⟩
theorem FE.same {w:World} {r:Nat} {v v':Cv} {c c':Cn} (h:FE w r v c) (h1:c'.work=c.work) (h2:c'.aY=c.aY) (h3:v'.wk=v.wk) (h4:v'.wv=v.wv):FE w r v' c':=by unfold FE at h ⊢;rw [h1,h2,h3,h4];exact h
structure aAB (w:World) (r:Nat) (fz:Nat×Nat) (v:Cv) (l b:Nat) (c':Cn) (VG:M Nat) (v':Cv) (w':World):Prop where
 cw:Cw w' r fz v' c'
 lk:Lk w' l b VG
 same:v'.i=v.i/\v'.s=v.s/\v'.o=v.o/\v'.a=v.a
 fp:∀k,Fp r v' k->Fp r v k\/w.heap.size<=k
 aA:aj (λk=>Fp r v k\/k=l\/k=b) w w'
def WP (w:World) (r:Nat) (fz:Nat×Nat) (v:Cv) (l b:Nat) (ret:Int) (c':Cn) (VG:M Nat) (e:Ending) (w':World):Prop:=e=.returned (.int .i64 ret)/\∃v',aAB w r fz v l b c' VG v' w'
theorem Cx.off {w:World} {r:Nat} {fz:Nat×Nat} {v:Cv} {c:Cn} (h:Cx w r fz v c) {g:Nat} {cur:Array Value} {T:TypeId} {jo:Nat×Nat} (hb:w.heap[g]? =some (.cells cur T jo)) (h1:T≠99) (h2:T≠142) (h3:T≠106):¬Fp r v g:=by
 rintro (rfl|hk|hk)
 ·have:=h.cb;unfold Cb aM at this;rw [this] at hb;injection hb with hb;injection hb with _ hb _;exact h1 hb.symm
 ·obtain ⟨Ej,kz⟩:=bq h.au hk;rw [kz] at hb;injection hb with hb;injection hb with _ hb _;exact h2 hb.symm
 ·obtain ⟨vs,o1,_⟩:=h.ah;obtain ⟨Ej,kz⟩:=bq o1 hk;rw [kz] at hb;injection hb with hb;injection hb with _ hb _;exact h3 hb.symm
theorem Cx.gp {w:World} {r:Nat} {fz:Nat×Nat} {v:Cv} {c:Cn} (h:Cx w r fz v c) {g:Nat} {m:M Value} (hm:Mp.SM w g m):¬Fp r v g:=by
 obtain ⟨es,clock,hb,_⟩:=hm;rintro (rfl|hk|hk)
 ·have:=h.cb;unfold Cb aM at this;rw [this] at hb;cases hb
 ·obtain ⟨Ej,kz⟩:=bq h.au hk;rw [kz] at hb;cases hb
 ·obtain ⟨vs,o1,_⟩:=h.ah;obtain ⟨Ej,kz⟩:=bq o1 hk;rw [kz] at hb;cases hb
theorem jW {w:World} {l b:Nat} {ls:M Nat} (h:Lk w l b ls):Safe w (λk=>k=l\/k=b):=by
 intro k cur T fz hk hb;rcases hk with rfl|rfl
 ·have:=h.blk;unfold aM at this;rw [this] at hb;injection hb with hb;injection hb with _ hb _;subst hb;decide
 ·obtain ⟨es,clock,kz,_⟩:=h.map;rw [kz] at hb;cases hb
end Rx
end
section
open Go.Shelf Ba
namespace Rx
open Tx Sp Wg Rd Bk Wi Se Pa Lo
theorem TY (p:Addr) (ev:Value) (w:World) (r:Nat) (fz:Nat×Nat) (v:Cv) (c:Cn) (l b:Nat) (ls:M Nat) (h:Cw w r fz v c) (hL:Lk w l b ls) (hz:Fz fz) (hG:Gl w p ev) (h2:∀k,Fp r v k->2<k)
 (hl:c.rest.length<=600) (MS:c.au.length<=4) (ho:c.ah.length<=12) (hm:c.aV.1=.more):
 Calls Tq.prog 44 #[aG r] w (WP w r fz v l b 0 c.aV.2 ls):=by
 have C:=z34 (xB _ ev w r fz v c h.cx hz hG.more ⟨_,_,rfl⟩ hG.QI hG.oU hl MS ho);have H:=z34 (y34 h (y34 hL hG));clear h hL hG;unfold aG;go_enter Tq.func44,Tryz.ntmps44;go_wp2_with fail;refine C.out.mono ?_;rintro e w1 ⟨u,v1,rfl,hP⟩;have hu:u=.iface 337 (.pointer (some p)):=by have:=hP.er;rw [hm] at this;exact this
 subst hu;obtain ⟨h,hL,hG⟩:=H.out;have ZR:Gl w1 p ev:=hG.aA hP.aA (λe=>by have:=h2 0 e;omega) (λe=>by have:=h2 1 e;omega) (λe=>by have:=h2 2 e;omega);have Vd:Gl (w1.alloc (.cells #[.pointer none] 135)) p ev:=ZR.aA ((aj.refl (λ_=>False) w1).alloc _) (λe=>e) (λe=>e) (λe=>e);have K:=z34 hP;have A:=z34 (Ea.aDo p ⟨w1.heap.size,0,none⟩ _ Vd.et);have Vd:=z34 Vd;clear hP ZR h hL hG;go_wp2_with fail;refine A.out.mono ?_;rintro e w2 ⟨rfl,hb⟩;have hG3:Gl w2 p ev:=Vd.out.aA (aj.nK hb) (λe=>e) (λe=>e) (λe=>e);have km:=hG3.more;have VS:Hid (Below w1.heap.size w1 w2):=z34 (((Below.refl _ w1).alloc (Nat.le_refl _) _).trans (hb.mono (by simp)));have I:=z34 (λw=>Ea.aCq p w);clear hb hG3;go_wp2_with fail;refine (I.out _).mono ?_;rintro e w3 ⟨rfl,rfl⟩;go_wp2_with fail;go_ret;have hP:=K.out;have cB:aj (λ_=>False) w1 w3:=aj.nK VS.out;obtain ⟨h,hL,hG⟩:=H.out;have hs:=qf c;have w3c:aj (Fp r v) w w3:=hP.aA.trans (cB.mono (λ_ _ e=>e.elim));refine ⟨rfl,v1,⟨hP.cx.aA cB (Safe.none w1) (λk _ e=>e),?_⟩,hL.aA w3c (h.cx.off hL.blk (by decide) (by decide) (by decide)) (h.cx.gp hL.map),?_,?_,w3c.mono (λk _ e=>.inl e)⟩
 ·exact (h.wk.aA w3c h.cx.safe).same hs.1 hs.2.1 (by rw [hP.same]) (by rw [hP.same])
 ·rw [hP.same];exact ⟨rfl,rfl,rfl,rfl⟩
 ·exact hP.fp
theorem Cx.reb {w w':World} {S:Nat->Prop} {r:Nat} {fz:Nat×Nat} {v v':Cv} {c c':Cn} (h:Cx w r fz v c) (hc:aj S w w') (hs:Safe w S) (hb:Cb w' r fz v' c') (hn:∀k,Fp r v k->k=r\/¬S k) (h1:c'.au=c.au) (h2:c'.ah=c.ah) (h3:v'.cv=v.cv) (h4:v'.ov=v.ov):Cx w' r fz v' c':=by
 obtain ⟨vs,o1,o2⟩:=h.ah;obtain ⟨n1,n2,_⟩:=h.rows;refine ⟨hb,?_,vs,?_,?_⟩
 ·rw [h1,h3];exact hc.ownsRow h.au (λk hk=>(hn k (.inr (.inl hk))).resolve_left (n1 k hk))
 ·rw [h2,h4];exact hc.ownsRow o1 (λk hk=>(hn k (.inr (.inr hk))).resolve_left (n2 k hk))
 ·rw [h2];exact o2.mono λx y _ NG=>NG.aA hc hs
theorem Sr.off {w w':World} {S:Nat->Prop} {s st lk:Nat} {m:Int} {cb:Value} {rs:List Nat} (h:Sr w s st lk m cb rs) (hc:aj S w w') (hs:∀(k:Nat) (cur:Array Value) (T:TypeId) (fz:Nat×Nat),S k->w.heap[k]? =some (.cells cur T fz)->T≠79/\T≠91):Sr w' s st lk m cb rs:=
 h.aA hc (λe=>(hs s _ _ _ e h.blk).1 rfl) (λk hk e=>by
  obtain ⟨cur,hb⟩:=bq h.row hk;exact (hs k _ _ _ e hb).2 rfl)
theorem Ow {c:Cn} {x:B} (h:c.aV.1=.refused x):x.length<=7:=by
 have hc:∀(d:Cn) (p:B) (f:Bool),(d.command p f).1=.refused x->x.length<=7:=by
  intro d p f h;unfold Cn.command at h;split at h
  ·cases h
  ·split at h
   ·cases h;decide
   ·split at h
    ·split at h
     ·split at h<;>cases h;decide
     ·cases h;decide
    ·cases h;decide
 have ho:∀(d:Cn) (p:B) (f:Bool),(d.object p f).1=.refused x->x.length<=7:=by
  intro d p f h;unfold Cn.object at h;split at h
  ·simp only at h;split at h<;>cases h;decide
  ·split at h
   ·cases h;decide
   ·split at h<;>cases h;decide
 have hn:c.next.1=.refused x->x.length<=7:=by
  intro h;have hl:c.A9=.refused x->x.length<=7:=by intro h;unfold Cn.A9 at h;split at h<;>cases h;decide
  unfold Cn.next at h;split at h
  ·exact hl h
  ·simp only at h;split at h
   ·cases h;decide
   ·split at h
    ·cases h
    ·split at h
     ·exact hl h
     ·cases h
 by_cases hk:c.next.1=.ok
 ·rw [KV hk] at h;split at h
  ·exact ho _ _ _ h
  ·exact hc _ _ _ h
 ·rw [F9 hk] at h;exact hn h
theorem Cx.types {w:World} {r:Nat} {fz:Nat×Nat} {v:Cv} {c:Cn} (h:Cx w r fz v c) (k:Nat) (cur:Array Value) (T:TypeId) (jo:Nat×Nat) (hk:Fp r v k) (hb:w.heap[k]? =some (.cells cur T jo)):T=99\/T=142\/T=106:=by
 by_cases h1:T=99
 ·exact .inl h1
 ·by_cases h2:T=142
  ·exact .inr (.inl h2)
  ·by_cases h3:T=106
   ·exact .inr (.inr h3)
   ·exact absurd hk (h.off hb h1 h2 h3)
theorem IM (p:Addr) (ev:Value) (w:World) (r:Nat) (fz:Nat×Nat) (v:Cv) (c:Cn) (l b:Nat) (ls:M Nat) (st:Nat) (m:Int) (cb:Value) (rs:List Nat) (wd:B) (h:Cw w r fz v c) (hL:Lk w l b ls) (hS:Sr w v.s st l m cb rs) (hz:Fz fz) (hG:Gl w p ev) (h2:∀k,Fp r v k->2<k)
 (hl:c.rest.length<=600) (MS:c.au.length<=4) (ho:c.ah.length<=12) (hi:v.i<1099511627776) (hn:ls.length<1099511627776) (hm:c.aV.1=.refused wd):
 Calls Tq.prog 44 #[aG r] w (WP w r fz v l b 1 {c.aV.2 with bR:=dB++wd++nl,bK:=true,work:=none} (give ls v.i)):=by
 have C:=z34 (xB _ ev w r fz v c h.cx hz hG.more ⟨_,_,rfl⟩ hG.QI hG.oU hl MS ho);have H:=z34 (y34 h (y34 hL (y34 hG hS)));clear h hL hG hS;unfold aG;go_enter Tq.func44,Tryz.ntmps44;go_wp2_with fail;refine C.out.mono ?_;rintro e w1 ⟨u,v1,rfl,hP⟩;have hu:ErV (.iface 337 (.pointer (some p))) w1 w.heap.size (.refused wd) u:=by have:=hP.er;rw [hm] at this;exact this
 obtain ⟨eb,rfl,heb,heB⟩:=hu;obtain ⟨h,hL,hG,hS⟩:=H.out;have ZR:Gl w1 p ev:=hG.aA hP.aA (λe=>by have:=h2 0 e;omega) (λe=>by have:=h2 1 e;omega) (λe=>by have:=h2 2 e;omega);have Vd:Gl (w1.alloc (.cells #[.pointer none] 135)) p ev:=ZR.aA ((aj.refl (λ_=>False) w1).alloc _) (λe=>e) (λe=>e) (λe=>e);have K:=z34 (y34 hP heb);have hel:=heb.lt;have ka:(w1.alloc (.cells #[.pointer none] 135)).cell? ⟨w1.heap.size,0,none⟩=some (.pointer none):=by simp
 have fa:(w1.alloc (.cells #[.pointer none] 135)).frozen? ⟨w1.heap.size,0,none⟩=false:=by simp
 have A:=z34 (Ea.aHu ⟨eb,0,none⟩ ⟨w1.heap.size,0,none⟩ _ _ Vd.et ka fa);clear hP ZR Vd h hL hG hS heb ka fa;go_wp2_with fail;refine A.out.mono ?_;rintro e w2 ⟨rfl,kt,c2⟩;obtain ⟨hP,heb⟩:=K.out;obtain ⟨h,hL,hG,hS⟩:=H.out;have cB:aj (λ_=>False) w1 w2:=((aj.refl (λ_=>False) w1).alloc _).trans' c2 (λk hk e=>by subst e;exact absurd hk (Nat.lt_irrefl _));have uX:=hP.cx.aA cB (Safe.none w1) (λk _ e=>e);have ke:w2.cell? ⟨eb,0,none⟩=some (.string ⟨wd.toArray⟩):=(heb.aA cB (λe=>e)).at rfl;have k12:w2.cell? ⟨r,12,none⟩=some (.string ⟨c.aV.2.bR.toArray⟩):=uX.cb.at rfl;have k13:w2.cell? ⟨r,13,none⟩=some (.bool c.aV.2.bK):=uX.cb.at rfl;have f12:=aM.frozen uX.cb (i:=12) (hz 12 (by decide) (by decide) (by decide));have f13:=aM.frozen uX.cb (i:=13) (hz 13 (by decide) (by decide) (by decide));have K2:=z34 (y34 uX cB);have Mk:(⟨wd.toArray⟩:ByteArray).size=wd.length:=rfl;have hw7:=Ow hm;have hws:((⟨#[117,110,112,97,99,107,32]⟩:ByteArray)++⟨wd.toArray⟩).size<=14:=by rw [ByteArray.size_append,Mk];show 7+wd.length<=14;omega
 have kt':w2.cell? ⟨w1.heap.size,0,none⟩=some (.pointer (some ⟨eb,0,none⟩)):=kt;clear hP heb h hL hG hS kt c2 cB uX;go_wp2_with fail;obtain ⟨uX,cB⟩:=K2.out;obtain ⟨hP,_⟩:=K.out;obtain ⟨h,hL,hG,hS⟩:=H.out;have eX:((⟨#[117,110,112,97,99,107,32]⟩:ByteArray)++⟨wd.toArray⟩++⟨#[10]⟩)=⟨(dB++wd++nl).toArray⟩:=by rw [zR,zR];rfl
 rw [eX];have Jf:Cx ((w2.setCell ⟨r,12,none⟩ (.string ⟨(dB++wd++nl).toArray⟩)).setCell ⟨r,13,none⟩ (.bool true)) r fz v1 {c.aV.2 with bR:=dB++wd++nl,bK:=true}:=
  (uX.set (c':={c.aV.2 with bR:=dB++wd++nl}) 12 _ rfl rfl rfl).set 13 _ rfl rfl rfl
 have Vx:aj (Fp r v) w ((w2.setCell ⟨r,12,none⟩ (.string ⟨(dB++wd++nl).toArray⟩)).setCell ⟨r,13,none⟩ (.bool true)):=
  ((hP.aA.trans (cB.mono (S':=Fp r v) (λ_ _ e=>e.elim))).setCell (p:=⟨r,12,none⟩) (.inl (.inl rfl)) _).setCell (p:=⟨r,13,none⟩) (.inl (.inl rfl)) _
 generalize (w2.setCell ⟨r,12,none⟩ (.string ⟨(dB++wd++nl).toArray⟩)).setCell ⟨r,13,none⟩ (.bool true)=w3 at Jf Vx ⊢;have hL3:Lk w3 l b ls:=hL.aA Vx (h.cx.off hL.blk (by decide) (by decide) (by decide)) (h.cx.gp hL.map);have Fj:v1.s=v.s/\v1.i=v.i:=by rw [hP.same];exact ⟨rfl,rfl⟩
 have hS3:Sr w3 v1.s st l m cb rs:=by rw [Fj.1];exact Sr.off hS Vx (λk cur T jo hk hb=>by rcases h.cx.types k cur T jo hk hb with rfl|rfl|rfl<;>decide)
 have Lv:=z34 (zu w3 l b r ls fz v1 _ st m cb rs hL3 Jf.cb hS3 hz (by rw [Fj.2];exact hi) hn);have K3:=z34 (y34 Jf (y34 Vx (y34 hL3 Fj)));clear Jf Vx hL3 Fj hS3 uX cB hP h hL hG hS eX;unfold aG at Lv;refine Lv.out.mono ?_;rintro e w4 ⟨rfl,Zm,oV,c4⟩;have K4:=z34 (y34 Zm (y34 oV c4));clear Zm oV c4;go_wp2_with fail;go_ret;obtain ⟨Zm,oV,c4⟩:=K4.out;obtain ⟨Jf,Vx,hL3,Fj⟩:=K3.out;obtain ⟨hP,_⟩:=K.out;rw [Fj.2] at Zm;have sf:Safe w3 (λk=>k=l\/k=b\/k=r):=λk cur T jo hk hb=>by
  rcases hk with hk|hk|hk
  ·exact jW hL3 k cur T jo (.inl hk) hb
  ·exact jW hL3 k cur T jo (.inr hk) hb
  ·exact Jf.safe k cur T jo (.inl hk) hb
 have hx4:Cx w4 r fz {v1 with wk:=.nilFunc} {c.aV.2 with bR:=dB++wd++nl,bK:=true,work:=none}:=
  Jf.reb c4 sf oV (λk hk=>by
   by_cases e:k=r
   ·exact .inl e
   ·refine .inr ?_;rintro (rfl|rfl|rfl)
    ·exact Jf.off hL3.blk (by decide) (by decide) (by decide) hk
    ·exact Jf.gp hL3.map hk
    ·exact e rfl) rfl rfl rfl rfl
 refine ⟨rfl,_,⟨hx4,rfl⟩,Zm,?_,?_,?_⟩
 ·rw [hP.same];exact ⟨rfl,rfl,rfl,rfl⟩
 ·exact hP.fp
 ·refine (Vx.mono (S':=λk=>Fp r v k\/k=l\/k=b) (λk _ e=>.inl e)).trans' c4 ?_;rintro k _ (e|e|e)
  ·exact .inr (.inl e)
  ·exact .inr (.inr e)
  ·exact .inl (.inl e)
end Rx
end
section
open Go.Shelf Ba
namespace Rx
open Tx Sp Wg Rd Bk Wi Se Pa Lo
theorem aBX (p:Addr) (ev:Value) (w:World) (r:Nat) (fz:Nat×Nat) (v:Cv) (c:Cn) (l b:Nat) (ls:M Nat) (h:Cw w r fz v c) (hL:Lk w l b ls) (hz:Fz fz) (hG:Gl w p ev) (h2:∀k,Fp r v k->2<k)
 (hl:c.rest.length<=600) (MS:c.au.length<=4) (ho:c.ah.length<=12) (hm:c.aV.1=.ok) (hd:c.aV.2.done=false):
 Calls Tq.prog 44 #[aG r] w (WP w r fz v l b 1 c.aV.2 ls):=by
 have C:=z34 (xB _ ev w r fz v c h.cx hz hG.more ⟨_,_,rfl⟩ hG.QI hG.oU hl MS ho);have H:=z34 (y34 h (y34 hL hG));clear h hL hG;unfold aG;go_enter Tq.func44,Tryz.ntmps44;go_wp2_with fail;refine C.out.mono ?_;rintro e w1 ⟨u,v1,rfl,hP⟩;have hu:u=.nilIface:=by have:=hP.er;rw [hm] at this;exact this
 subst hu;obtain ⟨h,hL,hG⟩:=H.out;have ZR:Gl w1 p ev:=hG.aA hP.aA (λe=>by have:=h2 0 e;omega) (λe=>by have:=h2 1 e;omega) (λe=>by have:=h2 2 e;omega);have Vd:Gl (w1.alloc (.cells #[.pointer none] 135)) p ev:=ZR.aA ((aj.refl (λ_=>False) w1).alloc _) (λe=>e) (λe=>e) (λe=>e);have cB:aj (λ_=>False) w1 (w1.alloc (.cells #[.pointer none] 135)):=(aj.refl _ w1).alloc _;have uX:=hP.cx.aA cB (Safe.none w1) (λk _ e=>e);have km:=Vd.more;have kd:(w1.alloc (.cells #[.pointer none] 135)).cell? ⟨r,6,none⟩=some (.bool false):=by rw [<-hd];exact uX.cb.at rfl
 have K:=z34 (y34 hP (y34 uX cB));have A:=z34 (λt w=>Ea.aAw t w);have I:=z34 (λw=>Ea.YR p w);clear hP ZR Vd h hL hG uX cB;go_wp2_with fail;refine (A.out _ _).mono ?_;rintro e w2 ⟨rfl,rfl⟩;go_wp2_with fail;refine (I.out _).mono ?_;rintro e w3 ⟨rfl,rfl⟩;go_wp2_with fail;go_ret;obtain ⟨hP,uX,cB⟩:=K.out;obtain ⟨h,hL,hG⟩:=H.out;have hs:=qf c;have w3c:=hP.aA.trans (cB.mono (S':=Fp r v) (λ_ _ e=>e.elim));refine ⟨rfl,v1,⟨uX,?_⟩,hL.aA w3c (h.cx.off hL.blk (by decide) (by decide) (by decide)) (h.cx.gp hL.map),?_,?_,w3c.mono (λk _ e=>.inl e)⟩
 ·exact (h.wk.aA w3c h.cx.safe).same hs.1 hs.2.1 (by rw [hP.same]) (by rw [hP.same])
 ·rw [hP.same];exact ⟨rfl,rfl,rfl,rfl⟩
 ·exact hP.fp
theorem Vu {l:List nN} {k:Nat} {m:nN} (h:l[k]? =some m):(l.map (·.ref)).take (k+1)=(l.map (·.ref)).take k++[m.ref]:=by rw [List.take_add_one,List.getElem?_map,h];rfl
theorem TR {w:World} {B0:Nat} {v:Value} {l:List B} (h:w.ownsRow B0 9 1 v l.length (l.map av)):WvR w v l:=by
 have h':=h;rcases h.2 with ⟨rfl,h0⟩|⟨g,cap,cur,rfl,_,hb,h1,h2,h3,h4⟩
 ·exact ⟨none,0,by rw [h0],by omega,λhl=>absurd (List.eq_nil_of_length_eq_zero h0) hl⟩
 ·refine ⟨_,cap,rfl,by omega,λ_=>⟨g,0,cur,rfl,hb,λi x hx=>?_⟩⟩;have hc:=h'.cells (g:=g) rfl i (av x) (by rw [List.getElem?_map,hx];rfl);have ha:w.cell? ⟨g,i,none⟩=some (av x):=by
   rcases Nat.eq_zero_or_pos i with rfl|hi
   ·simpa [Addr.add] using hc
   ·have wW:¬i=0:=by omega
    simpa [Addr.add,wW] using hc
  rw [Nat.zero_add];simpa [World.cell?,hb] using ha
structure DI (w1 wr:World) (r:Nat) (fz:Nat×Nat) (v1:Cv) (d:Cn) (wv:Value) (k:Nat):Prop where
 cb:Cb wr r fz {v1 with wv:=wv} d
 row:wr.ownsRow w1.heap.size 9 1 wv k (((d.au.map (·.ref)).take k).map av)
 aA:aj (·=r) w1 wr
theorem DI.cx {w1 wr:World} {r:Nat} {fz:Nat×Nat} {v1:Cv} {d:Cn} {wv:Value} {k:Nat} (h:DI w1 wr r fz v1 d wv k) (h1:Cx w1 r fz v1 d):Cx wr r fz {v1 with wv:=wv} d:=
 h1.reb h.aA (λj cur T jo hj hb=>h1.safe j cur T jo (.inl hj) hb) h.cb (λj _=>by by_cases e:j=r;exact .inl e;exact .inr e) rfl rfl rfl rfl
theorem DI.next {w1 wr w6:World} {r gg cap:Nat} {fz:Nat×Nat} {v1:Cv} {d:Cn} {wv:Value} {k:Nat} {m:nN} (h:DI w1 wr r fz v1 d wv k) (hx:d.au[k]? =some m) (c6:aj (λj=>wv.ownBlock=some j) wr w6)
 (hr:r<w1.heap.size) (bU:w6.ownsRow w1.heap.size 9 1 (.slice (some ⟨gg,0,none⟩) (k+1) cap) (k+1) (((d.au.map (·.ref)).take k).map av++[av m.ref])):
 DI w1 (w6.setCell ⟨r,15,none⟩ (.slice (some ⟨gg,0,none⟩) (k+1) cap)) r fz v1 d (.slice (some ⟨gg,0,none⟩) (k+1) cap) (k+1):=by
 have hg:gg≠r:=λe=>by have:=(bU.lt gg rfl).1;omega
 have ay:wv.ownBlock≠some r:=λe=>by have:=(h.row.lt r e).1;omega
 have h6:Cb w6 r fz {v1 with wv:=wv} d:=aM.aA h.cb c6 ay;refine ⟨aM.set h6 15 _,?_,?_⟩
 ·rw [Vu hx,List.map_append];exact ownsRow_setCell_other bU (a:=⟨r,15,none⟩) (λe=>hg (Option.some.inj e)) _
 ·refine (h.aA.trans' c6 (λi hi e=>?_)).setCell (p:=⟨r,15,none⟩) (.inl rfl) _;have:=(h.row.lt i e).1;omega
theorem TZ (p:Addr) (ev:Value) (w:World) (r:Nat) (fz:Nat×Nat) (v:Cv) (c:Cn) (l b:Nat) (ls:M Nat) (h:Cw w r fz v c) (hL:Lk w l b ls) (hz:Fz fz) (hG:Gl w p ev) (h2:∀k,Fp r v k->2<k)
 (hl:c.rest.length<=600) (MS:c.au.length<=4) (ho:c.ah.length<=12) (hm:c.aV.1=.ok) (hd:c.aV.2.done=true) (hd4:c.aV.2.au.length<=4) (Jg:c.work=some .read):
 Calls Tq.prog 44 #[aG r] w (WP w r fz v l b 1 {c.aV.2 with aY:=(c.aV.2.aY++c.aV.2.au.map (·.ref)).mergeSort uH,work:=some .lock} ls):=by
 have C:=z34 (xB _ ev w r fz v c h.cx hz hG.more ⟨_,_,rfl⟩ hG.QI hG.oU hl MS ho);have H:=z34 (y34 h (y34 hL hG));have aJW:v.wk=.func (.func 44) #[aG r] #[]/\v.wv=.slice none 0 0/\c.aY=[]:=by have:=h.wk;unfold FE at this;rw [Jg] at this;exact this
 have hs:=qf c;have aFW:c.aV.2.aY=[]:=hs.2.1.trans aJW.2.2;rw [aFW,List.nil_append];clear h hL hG;unfold aG;go_enter Tq.func44,Tryz.ntmps44;go_wp2_with fail;refine C.out.mono ?_;rintro e w1 ⟨u,v1,rfl,hP⟩;have hu:u=.nilIface:=by have:=hP.er;rw [hm] at this;exact this
 subst hu;obtain ⟨h,hL,hG⟩:=H.out;have ZR:Gl w1 p ev:=hG.aA hP.aA (λe=>by have:=h2 0 e;omega) (λe=>by have:=h2 1 e;omega) (λe=>by have:=h2 2 e;omega);have Vd:Gl (w1.alloc (.cells #[.pointer none] 135)) p ev:=ZR.aA ((aj.refl (λ_=>False) w1).alloc _) (λe=>e) (λe=>e) (λe=>e);have cB:aj (λ_=>False) w1 (w1.alloc (.cells #[.pointer none] 135)):=(aj.refl _ w1).alloc _;have uX:=hP.cx.aA cB (Safe.none w1) (λk _ e=>e);have km:=Vd.more;have kd:(w1.alloc (.cells #[.pointer none] 135)).cell? ⟨r,6,none⟩=some (.bool true):=by rw [<-hd];exact uX.cb.at rfl
 have k7:(w1.alloc (.cells #[.pointer none] 135)).cell? ⟨r,7,none⟩=some v1.cv:=uX.cb.at rfl;obtain ⟨q,cap,hq⟩:=nX uX.au;rw [hq] at k7;have Fj:v1.wv=.slice none 0 0:=by rw [hP.same];exact aJW.2.1
 have hve:({v1 with wv:=.slice none 0 0}:Cv)=v1:=by rw [<-Fj]
 have D0:Hid (DI w1 (w1.alloc (.cells #[.pointer none] 135)) r fz v1 c.aV.2 (.slice none 0 0) 0):=z34 ⟨by rw [hve];exact uX.cb,World.ownsRow_nil _ _ _ _,cB.mono (λ_ _ e=>e.elim)⟩;have K:=z34 hP;have A:=z34 (λt w=>Ea.aAw t w);have I:=z34 (λw=>Ea.YR p w);clear hP ZR Vd h hL hG uX cB;go_wp2_with fail;refine (A.out _ _).mono ?_;rintro e w2 ⟨rfl,rfl⟩;go_wp2_with fail;refine (I.out _).mono ?_;rintro e w3 ⟨rfl,rfl⟩;generalize w1.alloc (.cells #[.pointer none] 135)=w3 at km kd k7 D0 ⊢;go_wp2_with fail;have GN:=K.out.cx;have aCv:=aM.lt GN.cb;have GN:=z34 GN;clear k7 km kd
 go_loopw [45] (λi wr=>∃(k:Nat) (wv:Value),i=.int .i64 k/\k<=c.aV.2.au.length/\Hid (DI w1 wr r fz v1 c.aV.2 wv k)) (λi _=>c.aV.2.au.length - (intOf i).toNat)
 case atStart=>exact ⟨0,_,rfl,Nat.zero_le _,D0⟩
 case round=>
  rename_i wr;clear D0;obtain ⟨k,wv,rfl,hk,HD⟩:=hrel;by_cases aI:k<c.aV.2.au.length
  ·have hx:c.aV.2.au[k]? =some c.aV.2.au[k]:=List.getElem?_eq_getElem aI;generalize c.aV.2.au[k]=m at hx;obtain ⟨m1,m2,m3⟩:=JG hx;have wX:=HD.out.cx GN.out;have ay:=wX.au;have hq':v1.cv=.slice q c.aV.2.au.length cap:=hq;change World.ownsRow wr 0 142 3 v1.cv _ _ at ay;rw [hq'] at ay;obtain ⟨g,fM,UW⟩:=C9 (n:=c.aV.2.au.length - 1) (by rw [Nat.sub_add_cancel (by omega)];exact ay);obtain ⟨rfl,rfl⟩:q=some ⟨g,0,none⟩/\cap=fM:=by injection UW with e1 _ e3;exact ⟨e1,e3⟩
   have d0:=ay.cells (g:=g) rfl _ _ m1;have d1:=ay.cells (g:=g) rfl _ _ m2;have d2:=ay.cells (g:=g) rfl _ _ m3;unfold av at d0 d1 d2;have e0:wr.cell? ⟨g,k*3,none⟩=some (.string ⟨m.old.toArray⟩):=by
    rcases Nat.eq_zero_or_pos k with rfl|hk0
    ·simpa [Addr.add] using d0
    ·have hk3:¬k*3=0:=by omega
     simpa [Addr.add,hk3] using d0
   have e1:wr.cell? ⟨g,k*3+1,none⟩=some (.string ⟨m.new.toArray⟩):=by simpa [Addr.add] using d1
   have e2:wr.cell? ⟨g,k*3+2,none⟩=some (.string ⟨m.ref.toArray⟩):=by simpa [Addr.add] using d2
   have qw:(k:Int)<(c.aV.2.au.length:Int):=by omega
   have UM:wr.cell? ⟨r,15,none⟩=some wv:=HD.out.cb.at rfl;have f15:=aM.frozen HD.out.cb (i:=15) (hz 15 (by decide) (by decide) (by decide));have Y0:=HD.out.row;clear ay UW m1 m2 m3 d0 d1 d2 wX;have Fq:=aM.lt HD.out.cb;go_wp2_with fail;have na:(wr.alloc (.cells #[.string ⟨m.old.toArray⟩,.string ⟨m.new.toArray⟩,.string ⟨m.ref.toArray⟩] 142)).cell? ⟨wr.heap.size,2,none⟩=some (.string ⟨m.ref.toArray⟩):=by simp
   have hsa:wr.heap.size<(wr.alloc (.cells #[.string ⟨m.old.toArray⟩,.string ⟨m.new.toArray⟩,.string ⟨m.ref.toArray⟩] 142)).heap.size:=by simp
   have hDa:DI w1 (wr.alloc (.cells #[.string ⟨m.old.toArray⟩,.string ⟨m.new.toArray⟩,.string ⟨m.ref.toArray⟩] 142)) r fz v1 c.aV.2 wv k:=
    ⟨(Below.heap_alloc wr _ r Fq).trans HD.out.cb,HD.out.row.alloc _,HD.out.aA.alloc _⟩
   have aJM:(wr.alloc (.cells #[.string ⟨m.old.toArray⟩,.string ⟨m.new.toArray⟩,.string ⟨m.ref.toArray⟩] 142)).cell? ⟨r,15,none⟩=some wv:=hDa.cb.at rfl;have aLl:=aM.frozen hDa.cb (i:=15) (hz 15 (by decide) (by decide) (by decide));have Y2:wv.ownBlock≠some r:=λe=>by have:=(Y0.lt r e).1;omega
   have YW:wv.ownBlock≠some wr.heap.size:=λe=>by have:=(Y0.lt _ e).2;omega
   have aEj:=HD.out.aA.size;have Y1:=hDa.row;have aF8:=aM.lt hDa.cb;have hDa:=z34 hDa;generalize wr.alloc (.cells #[.string ⟨m.old.toArray⟩,.string ⟨m.new.toArray⟩,.string ⟨m.ref.toArray⟩] 142)=wa at na hsa hDa aJM aLl Y1 aF8 ⊢;clear e0 e1 e2 UM f15 Y0;obtain ⟨q2,aAr,rfl⟩:=nX Y1;obtain ⟨i0,wW,uw,wQ,wP⟩:=info_parts Tryz.pI;have hrw:r≠wr.heap.size:=by omega
   have k7a:((wa.alloc (.cells #[.string ⟨m.ref.toArray⟩] 9)).drew).cell? ⟨r,15,none⟩=some (.slice q2 k aAr):=(World.cell?_of_block (w:=wa) (Below.heap_alloc wa _ r aF8)).trans aJM;have f7a:((wa.alloc (.cells #[.string ⟨m.ref.toArray⟩] 9)).drew).frozen? ⟨r,15,none⟩=false:=(World.frozen?_of_block (w:=wa) (Below.heap_alloc wa _ r aF8)).trans aLl
   go_region_law
    ((refine step_append_lies _ (by rfl) _ _ _ (by rfl) w1.heap.size 9 i0 _ 1 16 ((Tq.underlying 34).trans Tryz.underlying34) wW uw wQ wP rfl (by omega) _ _ _ (by rfl) ((Y1.alloc _).drew)
       ⟨wa.heap.size,0,none⟩ 1 1 [.string ⟨m.ref.toArray⟩] (by rfl) (by rfl) (World.news_of_block (cs:=#[.string ⟨m.ref.toArray⟩]) (t:=9) (fr:=(0,0)) (heap_alloc_new wa _)) (by simp [Value.oneCell'])
       (by omega) (by unfold maxLen;omega) (by omega) (by simp;omega) (wa.heap.size+1) (by simp) ?_;intro gg aVv w6 Mv aX iX aO9;have f76:w6.frozen? ⟨r,15,none⟩=false:=(aX.frozen_far ⟨r,15,none⟩ (by simp;omega) (Ne.symm Y2)).trans (f7a);have k76:w6.cell? ⟨r,15,none⟩=some (.slice q2 k aAr):=(aX.cell_far ⟨r,15,none⟩ (by simp;omega) (Ne.symm Y2)).trans k7a))
   all_goals
    have c6:aj (λj=>(Value.slice q2 k aAr).ownBlock=some j) wa w6:=by have q2':=((aj.refl (λj=>(Value.slice q2 k aAr).ownBlock=some j) wa).alloc (.cells #[.string ⟨m.ref.toArray⟩] 9)).drew;exact q2'.grown aX (λk hk=>.inl hk)
    have iN:=z34 (hDa.out.next hx c6 aCv Mv);clear c6 Mv aX iX;go_wp2_with fail
    go_roundw
    case rel=>exact ⟨k+1,_,by simp,by omega,iN⟩
    case measure=>
     show c.aV.2.au.length - ((k:Int)+1).toNat<c.aV.2.au.length - (k:Int).toNat;omega
  ·obtain rfl:k=c.aV.2.au.length:=by omega
   have ay:=HD.out.row;have e:(c.aV.2.au.map (·.ref)).take c.aV.2.au.length=c.aV.2.au.map (·.ref):=List.take_of_length_le (by simp);rw [e] at ay;have UM:wr.cell? ⟨r,15,none⟩=some wv:=HD.out.cb.at rfl;go_wp2_with fail;have S:=Ks.xG w1.heap.size wv (c.aV.2.au.map (·.ref)) wr (by rw [List.length_map];exact ay) (by rw [List.length_map];omega);have S:=z34 S;refine S.out.mono ?_;rintro e w4 ⟨rfl,gG,aX⟩;have PL:∀j,wv.ownBlock=some j->w1.heap.size<=j:=λj hj=>(ay.lt j hj).1;have c4:aj (λj=>wv.ownBlock=some j) wr w4:=(aj.refl _ wr).grown aX (λj hj=>.inl hj);have c14:aj (·=r) w1 w4:=HD.out.aA.trans' c4 (λi hi e=>by have:=PL i e;omega);have h4:Cb w4 r fz {v1 with wv:=wv} c.aV.2:=aM.aA HD.out.cb c4 (λe=>by have:=PL r e;omega);have k14:w4.cell? ⟨r,14,none⟩=some v1.wk:=h4.at rfl;have f14:=aM.frozen h4 (i:=14) (hz 14 (by decide) (by decide) (by decide));have F:=z34 (y34 gG (y34 c14 h4));clear gG aX c4 c14 h4 ay S UM PL;go_wp2_with fail;go_ret;obtain ⟨gG,c14,h4⟩:=F.out;have hP:=K.out;obtain ⟨h,hL,hG⟩:=H.out;have c5:aj (·=r) w1 (w4.setCell ⟨r,14,none⟩ (.func (.func 75) #[aG r] #[])):=c14.setCell (p:=⟨r,14,none⟩) (.inl rfl) _;have hlen:((c.aV.2.au.map (·.ref)).mergeSort uH).length=c.aV.2.au.length:=by rw [List.length_mergeSort,List.length_map]
   have h5:Cb (w4.setCell ⟨r,14,none⟩ (.func (.func 75) #[aG r] #[])) r fz {v1 with wv:=wv,wk:=.func (.func 75) #[aG r] #[]} {c.aV.2 with aY:=(c.aV.2.au.map (·.ref)).mergeSort uH,work:=some .lock}:=aM.set h4 14 _;have hx5:=hP.cx.reb c5 (λj cur T jo hj hb=>hP.cx.safe j cur T jo (.inl hj) hb) h5 (λj _=>by by_cases e:j=r;exact .inl e;exact .inr e) rfl rfl rfl rfl;have cW:aj (Fp r v) w (w4.setCell ⟨r,14,none⟩ (.func (.func 75) #[aG r] #[])):=hP.aA.trans (c5.mono (λk _ e=>.inl e));refine ⟨rfl,_,⟨hx5,rfl,?_⟩,hL.aA cW (h.cx.off hL.blk (by decide) (by decide) (by decide)) (h.cx.gp hL.map),?_,?_,cW.mono (λk _ e=>.inl e)⟩
   ·refine TR (B0:=w1.heap.size) ?_;have h6:w4.ownsRow w1.heap.size 9 1 wv ((c.aV.2.au.map (·.ref)).mergeSort uH).length (((c.aV.2.au.map (·.ref)).mergeSort uH).map av):=by
     rw [List.length_mergeSort];exact gG
    exact ownsRow_setCell_other h6 (a:=⟨r,14,none⟩) (λe=>by have:=(gG.lt r e).1;omega) _
   ·rw [hP.same];exact ⟨rfl,rfl,rfl,rfl⟩
   ·exact hP.fp
end Rx
end
section
open Go.Shelf Ba
namespace Rx
open Tx Sp Wg Rd Bk Wi Se Pa Lo
theorem Gz {w:World} {r l b:Nat} {fz:Nat×Nat} {v:Cv} {c:Cn} {ls:M Nat} (hx:Cx w r fz v c) (hL:Lk w l b ls):Safe w (λk=>k=l\/k=b\/k=r):=λk cur T jo hk hb=>by
 rcases hk with hk|hk|hk
 ·exact jW hL k cur T jo (.inl hk) hb
 ·exact jW hL k cur T jo (.inr hk) hb
 ·exact hx.safe k cur T jo (.inl hk) hb
theorem LA {w:World} {r l b:Nat} {fz:Nat×Nat} {v:Cv} {c:Cn} {ls:M Nat} (hx:Cx w r fz v c) (hL:Lk w l b ls) (k:Nat) (hk:Fp r v k):k=r\/¬(k=l\/k=b\/k=r):=by
 by_cases e:k=r
 ·exact .inl e
 ·refine .inr ?_;rintro (rfl|rfl|rfl)
  ·exact hx.off hL.blk (by decide) (by decide) (by decide) hk
  ·exact hx.gp hL.map hk
  ·exact e rfl
theorem aC3 (w:World) (r bx:Nat) (fz:Nat×Nat) (v:Cv) (c:Cn) (l b:Nat) (ls:M Nat) (st:Nat) (m:Int) (cb:Value) (rs:List Nat) (h:Cx w r fz v c) (hbx:aM w bx #[aG r] 91 (0,0)) (hL:Lk w l b ls) (hS:Sr w v.s st l m cb rs) (hz:Fz fz)
 (hi:v.i<1099511627776) (hn:ls.length<1099511627776):
 Calls Tq.prog 127 #[aG bx] w (WP w r fz v l b 1 {c with bK:=true,work:=none} (give ls v.i)):=by
 have kb:w.cell? ⟨bx,0,none⟩=some (.pointer (some ⟨r,0,none⟩)):=hbx.at rfl;have k13:w.cell? ⟨r,13,none⟩=some (.bool c.bK):=h.cb.at rfl;have f13:=aM.frozen h.cb (i:=13) (hz 13 (by decide) (by decide) (by decide));have GN:Cx (w.setCell ⟨r,13,none⟩ (.bool true)) r fz v {c with bK:=true}:=h.set 13 _ rfl rfl rfl;have c1:aj (·=r) w (w.setCell ⟨r,13,none⟩ (.bool true)):=(aj.refl (·=r) w).setCell (p:=⟨r,13,none⟩) (.inl rfl) _;have bA:bx≠r:=aM.ne hbx h.cb (by decide);have kb1:(w.setCell ⟨r,13,none⟩ (.bool true)).cell? ⟨bx,0,none⟩=some (.pointer (some ⟨r,0,none⟩)):=(aM.other hbx (by exact bA) _).at rfl;have Vb:Lk (w.setCell ⟨r,13,none⟩ (.bool true)) l b ls:=hL.aA c1 (λe=>h.off hL.blk (by decide) (by decide) (by decide) (.inl e)) (λe=>h.gp hL.map (.inl e));have D8:Sr (w.setCell ⟨r,13,none⟩ (.bool true)) v.s st l m cb rs:=Sr.off hS c1 (λk cur T jo hk hb=>by rcases h.types k cur T jo (.inl hk) hb with rfl|rfl|rfl<;>decide);generalize sD:w.setCell ⟨r,13,none⟩ (.bool true)=w1 at GN c1 kb1 Vb D8;have Lv:=z34 (zu w1 l b r ls fz v _ st m cb rs Vb GN.cb D8 hz hi hn);have K:=z34 (y34 GN (y34 c1 Vb));clear GN c1 Vb D8 hS hL h hbx;unfold aG at Lv ⊢;go_enter Tq.func127,Tryz.ntmps127;go_wp2_with fail;refine Lv.out.mono ?_;rintro e w4 ⟨rfl,Zm,oV,c4⟩;have K4:=z34 (y34 Zm (y34 oV c4));clear Zm oV c4;go_wp2_with fail;go_ret;obtain ⟨Zm,oV,c4⟩:=K4.out;obtain ⟨GN,c1,Vb⟩:=K.out;have hx4:Cx w4 r fz {v with wk:=.nilFunc} {c with bK:=true,work:=none}:=GN.reb c4 (Gz GN Vb) oV (LA GN Vb) rfl rfl rfl rfl;refine ⟨rfl,_,⟨hx4,rfl⟩,Zm,⟨rfl,rfl,rfl,rfl⟩,λk hk=>.inl hk,?_⟩;refine (c1.mono (S':=λk=>Fp r v k\/k=l\/k=b) (λk _ e=>.inl (.inl e))).trans' c4 ?_;rintro k _ (e|e|e)
 ·exact .inr (.inl e)
 ·exact .inr (.inr e)
 ·exact .inl (.inl e)
theorem aCf (w:World) (r:Nat) (fz:Nat×Nat) (v:Cv) (c:Cn) (l b:Nat) (ls:M Nat) (st:Nat) (m:Int) (cb:Value) (rs:List Nat) (x:B) (xs:List B) (h:Cx w r fz v c) (hw:WvR w v.wv c.aY) (hc:c.aY=x::xs) (hL:Lk w l b ls) (hS:Sr w v.s st l m cb rs)
 (hx:x.length<=maxLen) (U8:v.i<1099511627776) (hg:(M.get ls x).getD 0≠0) (Jg:c.work=some .lock) (hk:v.wk=.func (.func 75) #[aG r] #[]):
 Calls Tq.prog 75 #[aG r] w (WP w r fz v l b 0 c ls):=by
 have hW:=z34 hw;obtain ⟨q,cap,hv,hcp,ay⟩:=hw;obtain ⟨g,o,cur,rfl,GY,ZE⟩:=ay (by rw [hc];exact List.cons_ne_nil _ _);have h0:w.cell? ⟨g,o,none⟩=some (.string ⟨x.toArray⟩):=by have:=ZE 0 x (by rw [hc];rfl);rw [Nat.add_zero] at this;have this:cur[o]? =some (.string ⟨x.toArray⟩):=this;simpa [World.cell?,GY] using this
 rw [hc] at hv hcp;simp only [List.length_cons] at hv hcp;have UM:w.cell? ⟨r,15,none⟩=some (.slice (some ⟨g,o,none⟩) (xs.length+1) cap):=by rw [<-hv];exact h.cb.at rfl
 have k1:w.cell? ⟨r,1,none⟩=some (.pointer (some ⟨v.s,0,none⟩)):=h.cb.at rfl;have k0:w.cell? ⟨r,0,none⟩=some (.int .i64 v.i):=h.cb.at rfl;have k3:w.cell? ⟨v.s,3,none⟩=some (.pointer (some ⟨l,0,none⟩)):=hS.blk.at rfl;have Fq:=aM.lt h.cb;have BF:=hS.blk.lt;have Jn:=lt_of_block GY;have bx:Below w.heap.size w (w.alloc (.cells #[.pointer (some ⟨r,0,none⟩)] 91)):=(Below.refl _ _).alloc (Nat.le_refl _) _;have kb:(w.alloc (.cells #[.pointer (some ⟨r,0,none⟩)] 91)).cell? ⟨w.heap.size,0,none⟩=some (.pointer (some ⟨r,0,none⟩)):=by simp
 have a0:=aK bx h0 Jn;have a15:=aK bx UM Fq;have a1:=aK bx k1 Fq;have a00:=aK bx k0 Fq;have a3:=aK bx k3 BF;have Vb:=hL.aA (aj.nK bx) (λe=>e) (λe=>e);have T:=λwd (hd:Lk wd l b ls)=>aBm wd l b v.i ls ⟨x.toArray⟩ hd hx hg;have T:=z34 T;have H:=z34 (y34 h (y34 hL (y34 Vb (y34 bx (y34 hv GY)))));have hlen:((xs.length+1:Nat):Int)≠0:=by omega
 clear h hL Vb bx hS ZE GY ay UM k1 k0 k3 h0;unfold aG;go_enter Tq.func75,Tryz.ntmps75;go_wp2_with fail;generalize w.alloc (.cells #[.pointer (some ⟨r,0,none⟩)] 91)=wa at kb a0 a15 a1 a00 a3 H ⊢
 go_still_tail 17,k34
 change wpList _ _ _ _ _ wa.drew;have hL2:Lk wa.drew l b ls:=⟨H.out.2.2.1.blk,H.out.2.2.1.map.block rfl⟩
 have bd:Hid (Below w.heap.size w wa.drew):=z34 (qnz H.out.2.2.2.1 1);have T2:=z34 (T.out _ hL2);generalize wa.drew=wd at hL2 bd T2 ⊢;clear T hL2;go_wp2_with (go_at_call 128;refine T2.out.mono ?_;rintro e w3 ⟨rfl,Zn,c3⟩;have F:=z34 (y34 Zn c3);clear Zn c3);go_ret;obtain ⟨Zn,c3⟩:=F.out;obtain ⟨h,hL,_,_,hv,GY⟩:=H.out;have cW:aj (λk=>k=l\/k=b) w w3:=((aj.nK bd.out).mono (λ_ _ e=>e.elim)).trans c3;have nP:∀k,Fp r v k->¬(k=l\/k=b):=by
  rintro k hk (rfl|rfl)
  ·exact h.off hL.blk (by decide) (by decide) (by decide) hk
  ·exact h.gp hL.map hk
 refine ⟨rfl,v,⟨h.aA cW (jW hL) nP,?_⟩,Zn,⟨rfl,rfl,rfl,rfl⟩,λk hk=>.inl hk,cW.mono (λk _ e=>.inr e)⟩;unfold FE;rw [Jg];exact ⟨hk,hW.out.aA cW (jW hL)⟩
end Rx
end
