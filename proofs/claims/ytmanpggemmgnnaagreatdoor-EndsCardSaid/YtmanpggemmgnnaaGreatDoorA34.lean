/- Ends: a part. Conditions: none. -/
import Derived.Stop.IfaceNil
import Derived.Test.YtmanpggemmgnnaaGreatDoorA33
set_option linter.all false
set_option maxHeartbeats 8000000
set_option maxRecDepth 1000000
namespace Go.Proofs.YtmanpggemmgnnaaGreatDoor
noncomputable section
open Go Go.RowKit Fr Tryz
def ŀ:=@World.block_lt_of_cell?
def Ŀ:=@World.frozen?_alloc_old
def ľ:=@ownsRow_setCell_other
def Ľ:=@run_typeAssert_lacksB
def ļ:=@World.cell?_alloc_lt
def Ļ:=@run_callFunc_extern
def wy{p:Prop}(h:p:=by kernel_rfl):p:=h
def xt{p}(h:p):Go.RowKit.Hid p:=Go.Lib.hid h
def zr{a b}(x:a)(y:b):a/\b:=⟨x,y⟩
section
open Go.Extern.Stop Go.Stop Go.Extern
namespace Ea
def Nw v w:(ReflectliteType.typeOf #[.iface 337 v]).run Tq.prog w=.ok (.iface 216 (.agg #[.pointer (some ⟨10,337,none⟩)])) w:=wy
def JU w:(ReflectliteType.relation "AssignableTo" ReflectliteType.assignableTo #[.agg #[.pointer (some ⟨10,337,none⟩)],.iface 216 (.agg #[.pointer (some ⟨10,135,none⟩)])]).run Tq.prog w=.ok (.bool false) w:=wy
def aQy p w:(Instr.typeAssert (.iface 337 (.pointer (some p))) 133 220 true).run Tq.prog w=.ok (.tuple #[.nilIface,.bool false]) w:=Ľ ((Tq.underlying 220).trans underlying220) wy wy _ 133 w
def aQx p w:(Instr.typeAssert (.iface 337 (.pointer (some p))) 133 223 true).run Tq.prog w=.ok (.tuple #[.nilIface,.bool false]) w:=Ľ ((Tq.underlying 223).trans underlying223) wy wy _ 133 w
def aLE p w:(Instr.typeAssert (.iface 337 (.pointer (some p))) 133 224 true).run Tq.prog w=.ok (.tuple #[.nilIface,.bool false]) w:=Ľ ((Tq.underlying 224).trans underlying224) wy wy _ 133 w
def Qf p t b w:
 Calls Tq.prog 119 #[.iface 337 (.pointer (some p)),.iface 137 (.pointer (some t)),.agg #[.pointer (some ⟨10,137,none⟩),.pointer (some b),.int .u64 150],.iface 216 (.agg #[.pointer (some ⟨10,135,none⟩)])] w
  λev U=>ev=.returned (.bool false)/\Below w.heap.size w U:=by
 have DV:=@Ļ Tq.prog 121 _ ReflectliteType.typeOf Tq.func121 wy wy wy wy;have h35:=@Ļ Tq.prog 299 _ (ReflectliteType.relation "AssignableTo" ReflectliteType.assignableTo) Tq.func299 wy wy wy wy;have tO:=Nw;have mA:=lg;have a25:=JU;have u1:=aQy;have u2:=aQx;have u3:=aLE;go_enter Tq.func119,ntmps119;go_wp2;refine wp_loop_rounds 1 ?_;rw[rounds_succ];go_wp2;go_ret;exact⟨rfl,(Below.refl _ _).alloc (aI _) _⟩
def aDo p t w(hg:w.cell? ⟨1,0,none⟩=some (.iface 216 (.agg #[.pointer (some ⟨10,133,none⟩)]))):
 Calls Tq.prog 71 #[.iface 337 (.pointer (some p)),.iface 137 (.pointer (some t))] w λev U=>ev=.returned (.bool false)/\Below w.heap.size w U:=by
 have h6:=@Ļ Tq.prog 116 _ (λargs=>ReflectliteValue.unpack (args.getD 0 (.tuple #[]))) Tq.func116 wy wy wy wy;have h7:=@Ļ Tq.prog 117 _ (ReflectliteValue.methodAny (ReflectliteValue.valueError "reflectlite.Value.Type" 0) (λt _ _ _=>ReflectliteType.toType t)) Tq.func117 wy wy wy wy;have h8:=@Ļ Tq.prog 118 _ (ReflectliteValue.method (ReflectliteValue.valueError "reflectlite.Value.IsNil" 0) ReflectliteValue.isNil) Tq.func118 wy wy wy wy;have h27:=@Ļ Tq.prog 291 _ (ReflectliteType.abiMethod λt=>do pure (.int .u8 (<-Rtype.kind t))) Tq.func291 wy wy wy wy;have h37:=@Ļ Tq.prog 301 _ (ReflectliteType.method ReflectliteType.elem) Tq.func301 wy wy wy wy;have h38:=@Ļ Tq.prog 302 _ (ReflectliteType.relation "Implements" ReflectliteType.implements_) Tq.func302 wy wy wy wy;have f6:=AQ;have f7:=Nz;have mK:=yJ;have mE:=yK;have mI:=nJ;have k27:=NA;have k25:=NB;have e27:=NC;have i25:=tK;have n8:=HZ ⟨w.heap.size,0,none⟩ t ((w.alloc (.cells #[.pointer (some t)] 137)).alloc (.cells #[.pointer (some ⟨10,137,none⟩),.pointer (some ⟨w.heap.size,0,none⟩),.int .u64 150] 179)) (by simp);have tP:1<w.heap.size:=ŀ w ⟨1,0,none⟩ hg;have L5:((w.alloc (.cells #[.pointer (some t)] 137)).alloc (.cells #[.pointer (some ⟨10,137,none⟩),.pointer (some ⟨w.heap.size,0,none⟩),.int .u64 150] 179)).cell? ⟨1,0,none⟩=some (.iface 216 (.agg #[.pointer (some ⟨10,133,none⟩)])):=by rw[ļ _ _ ⟨1,0,none⟩ (by simp;omega),ļ _ _ ⟨1,0,none⟩ tP];exact hg
 have C:=xt (λb w=>Qf p t b w);go_enter Tq.func71,ntmps71;go_wp2_with fail;refine(C.out _ _).mono ?_;rintro e w2 ⟨rfl,hb⟩;have wj:Hid (Below w.heap.size w w2):=xt ((((Below.refl _ w).alloc (aI _) _).alloc (by simp) _).trans (hb.mono (by simp only[World.size_alloc];omega)));clear hb n8 L5;go_wp2_with fail;go_ret;exact⟨rfl,wj.out⟩
def aHu e t old w(hg:w.cell? ⟨1,0,none⟩=some (.iface 216 (.agg #[.pointer (some ⟨10,133,none⟩)])))(ht0:w.cell? t=some old)(Kf:w.frozen? t=false):
 Calls Tq.prog 71 #[.iface 135 (.pointer (some e)),.iface 137 (.pointer (some t))] w λev U=>ev=.returned (.bool true)/\U.cell? t=some (.pointer (some e))/\aj (λk=>k=t.block) w U:=by
 have h6:=@Ļ Tq.prog 116 _ (λargs=>ReflectliteValue.unpack (args.getD 0 (.tuple #[]))) Tq.func116 wy wy wy wy;have h7:=@Ļ Tq.prog 117 _ (ReflectliteValue.methodAny (ReflectliteValue.valueError "reflectlite.Value.Type" 0) (λt _ _ _=>ReflectliteType.toType t)) Tq.func117 wy wy wy wy;have h8:=@Ļ Tq.prog 118 _ (ReflectliteValue.method (ReflectliteValue.valueError "reflectlite.Value.IsNil" 0) ReflectliteValue.isNil) Tq.func118 wy wy wy wy;have h27:=@Ļ Tq.prog 291 _ (ReflectliteType.abiMethod λt=>do pure (.int .u8 (<-Rtype.kind t))) Tq.func291 wy wy wy wy;have h37:=@Ļ Tq.prog 301 _ (ReflectliteType.method ReflectliteType.elem) Tq.func301 wy wy wy wy;have h38:=@Ļ Tq.prog 302 _ (ReflectliteType.relation "Implements" ReflectliteType.implements_) Tq.func302 wy wy wy wy;have f6:=AQ;have f7:=Nz;have mK:=yJ;have mE:=yK;have mI:=nJ;have k27:=NA;have k25:=NB;have e27:=NC;have i25:=tK;have n8:=HZ ⟨w.heap.size,0,none⟩ t ((w.alloc (.cells #[.pointer (some t)] 137)).alloc (.cells #[.pointer (some ⟨10,137,none⟩),.pointer (some ⟨w.heap.size,0,none⟩),.int .u64 150] 179)) (by simp);have tP:1<w.heap.size:=ŀ w ⟨1,0,none⟩ hg;have htl:t.block<w.heap.size:=ŀ w t ht0;have L5:((w.alloc (.cells #[.pointer (some t)] 137)).alloc (.cells #[.pointer (some ⟨10,137,none⟩),.pointer (some ⟨w.heap.size,0,none⟩),.int .u64 150] 179)).cell? ⟨1,0,none⟩=some (.iface 216 (.agg #[.pointer (some ⟨10,133,none⟩)])):=by rw[ļ _ _ ⟨1,0,none⟩ (by simp;omega),ļ _ _ ⟨1,0,none⟩ tP];exact hg
 have C:=xt (Vy e t ⟨w.heap.size,0,none⟩ old ((w.alloc (.cells #[.pointer (some t)] 137)).alloc (.cells #[.pointer (some ⟨10,137,none⟩),.pointer (some ⟨w.heap.size,0,none⟩),.int .u64 150] 179)) (by simp)
  (by rw[ļ _ _ t (by simp;omega),ļ _ _ t htl];exact ht0)
  (by rw[Ŀ _ _ t (by simp;omega),Ŀ _ _ t (iu htl)];exact Kf))
 go_enter Tq.func71,ntmps71;go_wp2_with fail;refine C.out.mono ?_;rintro e' w2 ⟨rfl,hw⟩;have wj:Hid (w2.cell? t=some (.pointer (some e))/\aj (λk=>k=t.block) w w2):=by rw[hw];refine xt ⟨World.cell?_setCell_same' _ _ _ ?_,(((((aj.refl (λk=>k=t.block) w).alloc _).alloc _).alloc _).alloc _).setCell (.inl rfl) _⟩;rw[ļ _ _ t (by simp;omega),ļ _ _ t (by simp;omega),ļ _ _ t (by simp;omega),ļ _ _ t htl,ht0];rfl
 clear hw n8 L5;go_wp2_with fail;go_ret;exact⟨rfl,wj.out⟩
def aDt p w:(binOp BinOp.eql 133 .nilIface (.iface 337 (.pointer (some p)))).run Tq.prog w=.ok (.bool false) w:=wy
def aLF:Tq.prog.isIface 133=true:=wy
def aHV:(Tq.prog.info? 337).map (λi=>i.comparable)=some true:=wy
def XM{i P T}(hi:P.info? T=some i)w:Sem.run P (typeInfo T) w=.ok i w:=by show Sem.run P (match P.info? T with|some i=>pure i|none=>stuck "no such type") w=.ok i w;rw[hi];rfl
def aLG p w:(binOp BinOp.eql 133 (.iface 337 (.pointer (some p))) (.iface 337 (.pointer (some p)))).run Tq.prog w=.ok (.bool true) w:=by
 have h:=aHV;cases hi:Tq.prog.info? 337 with
 |none=>rw[hi]at h;cases h
 |some i=>rw[hi]at h;have L:i.comparable=true:=ay h;exact Go.run_eql_iface_same w 133 337 339 i 0 aLF (XM hi w) L ((Tq.underlying 337).trans underlying337) ((Tq.sizeOf 339 w).trans (sizeOf339 w)) p
def YR p w:Calls Tq.prog 73 #[.nilIface,.iface 337 (.pointer (some p))] w λev U=>ev=.returned (.bool false)/\U=w:=by have tW:=aDt p;go_enter Tq.func73,ntmps73;go_wp2;go_ret;exact⟨rfl,rfl⟩
def wM h w:(Go.method 476 216 (.agg #[h]) "Comparable").run Tq.prog w=.ok (300,.agg #[h]) w:=wy
def JS w:((ReflectliteType.method λt=>do Rtype.noPackHeld "Comparable" t;Functor.map (λa=>Value.bool a.comparable) (typeInfo t)) #[.agg #[.pointer (some ⟨10,337,none⟩)]]).run Tq.prog w=.ok (.bool true) w:=wy
def Pd p w:Calls Tq.prog 122 #[.iface 337 (.pointer (some p)),.iface 337 (.pointer (some p)),.bool true] w λev U=>ev=.returned (.bool true)/\U=w:=by have hq:=aLG p;go_enter Tq.func122,ntmps122;go_wp2;refine wp_loop_rounds 1 ?_;rw[rounds_succ];go_wp2;go_ret;exact⟨rfl,rfl⟩
def aCq p w:Calls Tq.prog 73 #[.iface 337 (.pointer (some p)),.iface 337 (.pointer (some p))] w λev U=>ev=.returned (.bool true)/\U=w:=by have DV:=@Ļ Tq.prog 121 _ ReflectliteType.typeOf Tq.func121 wy wy wy wy;have aU6:=@Ļ Tq.prog 300 _ (ReflectliteType.method λt=>do Rtype.noPackHeld "Comparable" t;pure (.bool (<-typeInfo t).comparable)) Tq.func300 wy wy wy wy;have tO:=Nw;have mC:=wM;have cC:=JS;have hq:=aLG p;go_enter Tq.func73,ntmps73;go_wp2_with fail;refine(Pd p w).mono ?_;rintro e w2 ⟨rfl,rfl⟩;go_wp2_with fail;go_ret;exact⟨rfl,rfl⟩
end Ea
end
section
open Go.Shelf Ba
namespace Rx
open Tx Sp Wg Rd Bk Wi Se Pa Lo
structure Gl(w:World)p ev:Prop where
 more:w.cell? ⟨0,0,none⟩=some (.iface 337 (.pointer (some p)))
 et:w.cell? ⟨1,0,none⟩=some (.iface 216 (.agg #[.pointer (some ⟨10,133,none⟩)]))
 QI:w.cell? ⟨2,0,none⟩=some ev
 oU:ev=.nilIface\/∃te pe,ev=.iface te pe
def Gl.aA{w p ev S U}(h:Gl w p ev)(L:aj S w U)(h0:¬S 0)(V:¬S 1)(J:¬S 2):Gl U p ev:=
 ⟨L.bB h.more h0,L.bB h.et V,L.bB h.QI J,h.oU⟩
def WvR(w:World)(v:Value)(l:List B):Prop:=∃p cap,v=.slice p l.length cap/\l.length<=cap/\(l≠[]->∃g o cur,p=some ⟨g,o,none⟩/\w.heap[g]? =some (.cells cur 9 (0,0))/\∀i x,l[i]? =some x->cur[o+i]? =some (av x))
def WvR.aA{w v l S U}(h:WvR w v l)(L:aj S w U)(hs:Safe w S):WvR U v l:=by obtain⟨p,cap,V,U8,J⟩:=h;refine⟨p,cap,V,U8,λhl=>?_⟩;obtain⟨g,o,cur,e1,e2,e3⟩:=J hl;exact⟨g,o,cur,e1,(L.block g (lt_of_block e2) (λe=>(hs g _ _ _ e e2).2.2.2.1 rfl)).trans e2,e3⟩
def FE(w:World)(r:Nat)(v:Cv)(c:Cn):Prop:=match c.work with
 |some .read=>v.wk=.func (.func 44) #[aG r] #[]/\v.wv=.slice none 0 0/\c.wants=[]
 |some .lock=>v.wk=.func (.func 75) #[aG r] #[]/\WvR w v.wv c.wants
 |some .fin=>∃bx,v.wk=.func (.func 127) #[] #[aG bx]/\aM w bx #[aG r] 91 (0,0)
 |none=>v.wk=.nilFunc
def FE.aA{w r v c S U}(h:FE w r v c)(L:aj S w U)(hs:Safe w S):FE U r v c:=by
 unfold FE at h ⊢;split
 ·simp only[*]at h;exact h
 ·simp only[*]at h;exact⟨h.1,h.2.aA L hs⟩
 ·simp only[*]at h;obtain⟨bx,V,J⟩:=h;exact⟨bx,V,J.aA L (λe=>(hs bx _ _ _ e J).2.2.2.2 rfl)⟩
 ·simp only[*]at h;exact h
structure Cw w r fz v c:Prop where
 cx:Cx w r fz v c
 wk:FE w r v c
def Cw.aA{w r fz v c S U}(h:Cw w r fz v c)(L:aj S w U)(hs:Safe w S)(Q:∀k,Fp r v k->¬S k):Cw U r fz v c:=⟨h.cx.aA L hs Q,h.wk.aA L hs⟩
def qf(c:Cn):c.aV.2.work=c.work/\c.aV.2.wants=c.wants/\c.aV.2.over=c.over/\c.aV.2.bR=c.bR/\c.aV.2.bK=c.bK:=by
 have L:∀(d:Cn) (p:B) (f:Bool),(d.command p f).2.work=d.work/\(d.command p f).2.wants=d.wants/\(d.command p f).2.over=d.over/\(d.command p f).2.bR=d.bR/\(d.command p f).2.bK=d.bK:=by
  intro d p f;unfold Cn.command;split
  ·exact⟨rfl,rfl,rfl,rfl,rfl⟩
  ·split
   ·exact⟨rfl,rfl,rfl,rfl,rfl⟩
   ·split
    ·split
     ·split<;>exact⟨rfl,rfl,rfl,rfl,rfl⟩
     ·exact⟨rfl,rfl,rfl,rfl,rfl⟩
    ·exact⟨rfl,rfl,rfl,rfl,rfl⟩
 have ho:∀(d:Cn) (p:B) (f:Bool),(d.object p f).2.work=d.work/\(d.object p f).2.wants=d.wants/\(d.object p f).2.over=d.over/\(d.object p f).2.bR=d.bR/\(d.object p f).2.bK=d.bK:=by
  intro d p f;unfold Cn.object;split
  ·exact⟨rfl,rfl,rfl,rfl,rfl⟩
  ·split
   ·exact⟨rfl,rfl,rfl,rfl,rfl⟩
   ·split<;>exact⟨rfl,rfl,rfl,rfl,rfl⟩
 unfold Cn.aV;split
 ·split
  ·exact ho _ _ _
  ·exact L _ _ _
 ·exact⟨rfl,rfl,rfl,rfl,rfl⟩
def FE.same{w r v c v' c'}(h:FE w r v c)(V:c'.work=c.work)(J:c'.wants=c.wants)(h3:v'.wk=v.wk)(h4:v'.wv=v.wv):FE w r v' c':=by unfold FE at h ⊢;rw[V,J,h3,h4];exact h
structure aAB(w:World)r fz(v:Cv)l b c' VG v' U:Prop where
 cw:Cw U r fz v' c'
 lk:Lk U l b VG
 same:v'.i=v.i/\v'.s=v.s/\v'.o=v.o/\v'.a=v.a
 fp:∀k,Fp r v' k->Fp r v k\/w.heap.size<=k
 aA:aj (λk=>Fp r v k\/k=l\/k=b) w U
def WP(w:World)(r:Nat)(fz:Nat×Nat)(v:Cv)(l b:Nat)(ret:Int)(c':Cn)(VG:M Nat)(e:Ending)(U:World):Prop:=e=.returned (.int .i64 ret)/\∃v',aAB w r fz v l b c' VG v' U
def Cx.off{w r fz v c g T cur jo}(h:Cx w r fz v c)(hb:w.heap[g]? =some (.cells cur T jo))(V:T≠99)(J:T≠142)(h3:T≠106):¬Fp r v g:=by
 rintro(rfl|A|A)
 ·have:=h.cb;unfold Cb aM at this;rw[this]at hb;injection hb with hb;injection hb with _ hb _;exact V hb.symm
 ·obtain⟨A5,xa⟩:=bq h.au A;rw[xa]at hb;injection hb with hb;injection hb with _ hb _;exact J hb.symm
 ·obtain⟨vs,o1,_⟩:=h.ah;obtain⟨A5,xa⟩:=bq o1 A;rw[xa]at hb;injection hb with hb;injection hb with _ hb _;exact h3 hb.symm
def Cx.gp{w r fz v c g m}(h:Cx w r fz v c)(hm:Mp.SM w g m):¬Fp r v g:=by
 obtain⟨es,clock,hb,_⟩:=hm;rintro(rfl|A|A)
 ·have:=h.cb;unfold Cb aM at this;rw[this]at hb;cases hb
 ·obtain⟨A5,xa⟩:=bq h.au A;rw[xa]at hb;cases hb
 ·obtain⟨vs,o1,_⟩:=h.ah;obtain⟨A5,xa⟩:=bq o1 A;rw[xa]at hb;cases hb
def jW{w l b ls}(h:Lk w l b ls):Safe w (λk=>k=l\/k=b):=by
 intro k cur T fz A hb;rcases A with rfl|rfl
 ·have:=h.blk;unfold aM at this;rw[this]at hb;injection hb with hb;injection hb with _ hb _;subst hb;decide
 ·obtain⟨es,clock,xa,_⟩:=h.map;rw[xa]at hb;cases hb
def TY p ev w r fz v c l b ls(h:Cw w r fz v c)(hL:Lk w l b ls)(hz:Fz fz)(hG:Gl w p ev)(J:∀k,Fp r v k->2<k)
 (hl:c.rest.length<=600) (MS:c.au.length<=4) (ho:c.ah.length<=12) (hm:c.aV.1=.more):
 Calls Tq.prog 44 #[aG r] w (WP w r fz v l b 0 c.aV.2 ls):=by
 have C:=xt (xB _ ev w r fz v c h.cx hz hG.more ⟨_,_,rfl⟩ hG.QI hG.oU hl MS ho);have H:=xt (zr h (zr hL hG));clear h hL hG;unfold aG;go_enter Tq.func44,ntmps44;go_wp2_with fail;refine C.out.mono ?_;rintro e w1 ⟨u,v1,rfl,hP⟩;have hu:u=.iface 337 (.pointer (some p)):=by have:=hP.er;rw[hm]at this;exact this
 subst hu;obtain⟨h,hL,hG⟩:=H.out;have ZR:Gl w1 p ev:=hG.aA hP.aA (λe=>by have:=J 0 e;omega) (λe=>by have:=J 1 e;omega) (λe=>by have:=J 2 e;omega);have Vd:Gl (w1.alloc (.cells #[.pointer none] 135)) p ev:=ZR.aA ((aj.refl (λ_=>False) w1).alloc _) (λe=>e) (λe=>e) (λe=>e);have K:=xt hP;have hk:=xt (Ea.aDo p ⟨w1.heap.size,0,none⟩ _ Vd.et);have Vd:=xt Vd;clear hP ZR h hL hG;go_wp2_with fail;refine hk.out.mono ?_;rintro e w2 ⟨rfl,hb⟩;have hG3:Gl w2 p ev:=Vd.out.aA (aj.nK hb) (λe=>e) (λe=>e) (λe=>e);have km:=hG3.more;have VS:Hid (Below w1.heap.size w1 w2):=xt (((Below.refl _ w1).alloc (aI _) _).trans (hb.mono (by simp)));have hR:=xt (λw=>Ea.aCq p w);clear hb hG3;go_wp2_with fail;refine(hR.out _).mono ?_;rintro e w3 ⟨rfl,rfl⟩;go_wp2_with fail;go_ret;have hP:=K.out;have cB:aj (λ_=>False) w1 w3:=aj.nK VS.out;obtain⟨h,hL,hG⟩:=H.out;have hs:=qf c;have w3c:aj (Fp r v) w w3:=hP.aA.trans (cB.mono (λ_ _ e=>e.elim));refine⟨rfl,v1,⟨hP.cx.aA cB (Safe.none w1) (λk _ e=>e),?_⟩,hL.aA w3c (h.cx.off hL.blk (by decide) (by decide) (by decide)) (h.cx.gp hL.map),?_,?_,w3c.mono (λk _ e=>.inl e)⟩
 ·exact(h.wk.aA w3c h.cx.safe).same hs.1 hs.2.1 (by rw[hP.same]) (by rw[hP.same])
 ·rw[hP.same];exact⟨rfl,rfl,rfl,rfl⟩
 ·exact hP.fp
def Cx.reb{w r fz v c S U v' c'}(h:Cx w r fz v c)(L:aj S w U)(hs:Safe w S)(hb:Cb U r fz v' c')(Q:∀k,Fp r v k->k=r\/¬S k)(V:c'.au=c.au)(J:c'.ah=c.ah)(h3:v'.cv=v.cv)(h4:v'.ov=v.ov):Cx U r fz v' c':=by
 obtain⟨vs,o1,o2⟩:=h.ah;obtain⟨n1,n2,_⟩:=h.rows;refine⟨hb,?_,vs,?_,?_⟩
 ·rw[V,h3];exact L.ownsRow h.au (λk A=>(Q k (.inr (.inl A))).resolve_left (n1 k A))
 ·rw[J,h4];exact L.ownsRow o1 (λk A=>(Q k (.inr (.inr A))).resolve_left (n2 k A))
 ·rw[J];exact o2.mono λx y _ NG=>NG.aA L hs
def Sr.off{w s st lk m cb rs S U}(h:Sr w s st lk m cb rs)(L:aj S w U)(hs:∀k cur T fz,S k->w.heap[k]? =some (.cells cur T fz)->T≠79/\T≠91):Sr U s st lk m cb rs:=
 h.aA L (λe=>(hs s _ _ _ e h.blk).1 rfl) (λk A e=>by
  obtain⟨cur,hb⟩:=bq h.row A;exact(hs k _ _ _ e hb).2 rfl)
def Ow{x}{c:Cn}(h:c.aV.1=.refused x):x.length<=7:=by
 have L:∀(d:Cn) (p:B) (f:Bool),(d.command p f).1=.refused x->x.length<=7:=by
  intro d p f h;unfold Cn.command at h;split at h
  ·cases h
  ·split at h
   ·cases h;decide
   ·split at h
    ·split at h
     ·split at h<;>cases h;decide
     ·cases h;decide
    ·cases h;decide
 have ho:∀(d:Cn) (p:B) (f:Bool),(d.object p f).1=.refused x->x.length<=7:=by
  intro d p f h;unfold Cn.object at h;split at h
  ·simp only at h;split at h<;>cases h;decide
  ·split at h
   ·cases h;decide
   ·split at h<;>cases h;decide
 have Q:c.next.1=.refused x->x.length<=7:=by
  intro h;have hl:c.A9=.refused x->x.length<=7:=by intro h;unfold Cn.A9 at h;split at h<;>cases h;decide
  unfold Cn.next at h;split at h
  ·exact hl h
  ·simp only at h;split at h
   ·cases h;decide
   ·split at h
    ·cases h
    ·split at h
     ·exact hl h
     ·cases h
 by_cases A:c.next.1=.ok
 ·rw[KV A]at h;split at h
  ·exact ho _ _ _ h
  ·exact L _ _ _ h
 ·rw[F9 A]at h;exact Q h
def Cx.types{w r fz v c}(h:Cx w r fz v c)k cur T jo(A:Fp r v k)(hb:w.heap[k]? =some (.cells cur T jo)):T=99\/T=142\/T=106:=by
 by_cases V:T=99
 ·exact .inl V
 ·by_cases J:T=142
  ·exact .inr (.inl J)
  ·by_cases h3:T=106
   ·exact .inr (.inr h3)
   ·exact absurd A (h.off hb V J h3)
def IM p ev w r fz v c l b ls st m cb rs wd(h:Cw w r fz v c)(hL:Lk w l b ls)(hS:Sr w v.s st l m cb rs)(hz:Fz fz)(hG:Gl w p ev)(J:∀k,Fp r v k->2<k)
 (hl:c.rest.length<=600) (MS:c.au.length<=4) (ho:c.ah.length<=12) (hi:v.i<1099511627776) (Q:ls.length<1099511627776) (hm:c.aV.1=.refused wd):
 Calls Tq.prog 44 #[aG r] w (WP w r fz v l b 1 {c.aV.2 with bR:=dB++wd++nl,bK:=true,work:=none} (give ls v.i)):=by
 have C:=xt (xB _ ev w r fz v c h.cx hz hG.more ⟨_,_,rfl⟩ hG.QI hG.oU hl MS ho);have H:=xt (zr h (zr hL (zr hG hS)));clear h hL hG hS;unfold aG;go_enter Tq.func44,ntmps44;go_wp2_with fail;refine C.out.mono ?_;rintro e w1 ⟨u,v1,rfl,hP⟩;have hu:ErV (.iface 337 (.pointer (some p))) w1 w.heap.size (.refused wd) u:=by have:=hP.er;rw[hm]at this;exact this
 obtain⟨eb,rfl,heb,heB⟩:=hu;obtain⟨h,hL,hG,hS⟩:=H.out;have ZR:Gl w1 p ev:=hG.aA hP.aA (λe=>by have:=J 0 e;omega) (λe=>by have:=J 1 e;omega) (λe=>by have:=J 2 e;omega);have Vd:Gl (w1.alloc (.cells #[.pointer none] 135)) p ev:=ZR.aA ((aj.refl (λ_=>False) w1).alloc _) (λe=>e) (λe=>e) (λe=>e);have K:=xt (zr hP heb);have hel:=heb.lt;have ka:(w1.alloc (.cells #[.pointer none] 135)).cell? ⟨w1.heap.size,0,none⟩=some (.pointer none):=by simp
 have fa:(w1.alloc (.cells #[.pointer none] 135)).frozen? ⟨w1.heap.size,0,none⟩=false:=by simp
 have hk:=xt (Ea.aHu ⟨eb,0,none⟩ ⟨w1.heap.size,0,none⟩ _ _ Vd.et ka fa);clear hP ZR Vd h hL hG hS heb ka fa;go_wp2_with fail;refine hk.out.mono ?_;rintro e w2 ⟨rfl,kt,c2⟩;obtain⟨hP,heb⟩:=K.out;obtain⟨h,hL,hG,hS⟩:=H.out;have cB:aj (λ_=>False) w1 w2:=((aj.refl (λ_=>False) w1).alloc _).trans' c2 (λk A e=>by subst e;exact absurd A (Nat.lt_irrefl _));have yi:=hP.cx.aA cB (Safe.none w1) (λk _ e=>e);have ke:w2.cell? ⟨eb,0,none⟩=some (.string ⟨wd.toArray⟩):=(heb.aA cB (λe=>e)).at rfl;have xv:w2.cell? ⟨r,12,none⟩=some (.string ⟨c.aV.2.bR.toArray⟩):=yi.cb.at rfl;have k13:w2.cell? ⟨r,13,none⟩=some (.bool c.aV.2.bK):=yi.cb.at rfl;have f12:=aM.frozen yi.cb (i:=12) (hz 12 (by decide) (by decide) (by decide));have f13:=aM.frozen yi.cb (i:=13) (hz 13 (by decide) (by decide) (by decide));have K2:=xt (zr yi cB);have Mk:(⟨wd.toArray⟩:ByteArray).size=wd.length:=rfl;have hw7:=Ow hm;have hws:((⟨#[117,110,112,97,99,107,32]⟩:ByteArray)++⟨wd.toArray⟩).size<=14:=by rw[iX,Mk];show 7+wd.length<=14;omega
 have kt':w2.cell? ⟨w1.heap.size,0,none⟩=some (.pointer (some ⟨eb,0,none⟩)):=kt;clear hP heb h hL hG hS kt c2 cB yi;go_wp2_with fail;obtain⟨yi,cB⟩:=K2.out;obtain⟨hP,_⟩:=K.out;obtain⟨h,hL,hG,hS⟩:=H.out;have eX:((⟨#[117,110,112,97,99,107,32]⟩:ByteArray)++⟨wd.toArray⟩++⟨#[10]⟩)=⟨(dB++wd++nl).toArray⟩:=by rw[zR,zR];rfl
 rw[eX];have BW:Cx ((w2.setCell ⟨r,12,none⟩ (.string ⟨(dB++wd++nl).toArray⟩)).setCell ⟨r,13,none⟩ (.bool true)) r fz v1 {c.aV.2 with bR:=dB++wd++nl,bK:=true}:=
  (yi.set (c':={c.aV.2 with bR:=dB++wd++nl}) 12 _ rfl rfl rfl).set 13 _ rfl rfl rfl
 have Fc:aj (Fp r v) w ((w2.setCell ⟨r,12,none⟩ (.string ⟨(dB++wd++nl).toArray⟩)).setCell ⟨r,13,none⟩ (.bool true)):=
  ((hP.aA.trans (cB.mono (S':=Fp r v) (λ_ _ e=>e.elim))).setCell (p:=⟨r,12,none⟩) (.inl (.inl rfl)) _).setCell (p:=⟨r,13,none⟩) (.inl (.inl rfl)) _
 generalize(w2.setCell ⟨r,12,none⟩ (.string ⟨(dB++wd++nl).toArray⟩)).setCell ⟨r,13,none⟩ (.bool true)=w3 at BW Fc ⊢;have hL3:Lk w3 l b ls:=hL.aA Fc (h.cx.off hL.blk (by decide) (by decide) (by decide)) (h.cx.gp hL.map);have Fj:v1.s=v.s/\v1.i=v.i:=by rw[hP.same];exact⟨rfl,rfl⟩
 have hS3:Sr w3 v1.s st l m cb rs:=by rw[Fj.1];exact Sr.off hS Fc (λk cur T jo A hb=>by rcases h.cx.types k cur T jo A hb with rfl|rfl|rfl<;>decide)
 have Lv:=xt (zu w3 l b r ls fz v1 _ st m cb rs hL3 BW.cb hS3 hz (by rw[Fj.2];exact hi) Q);have K3:=xt (zr BW (zr Fc (zr hL3 Fj)));clear BW Fc hL3 Fj hS3 yi cB hP h hL hG hS eX;unfold aG at Lv;refine Lv.out.mono ?_;rintro e w4 ⟨rfl,GN,xp,c4⟩;have K4:=xt (zr GN (zr xp c4));clear GN xp c4;go_wp2_with fail;go_ret;obtain⟨GN,xp,c4⟩:=K4.out;obtain⟨BW,Fc,hL3,Fj⟩:=K3.out;obtain⟨hP,_⟩:=K.out;rw[Fj.2]at GN;have sf:Safe w3 (λk=>k=l\/k=b\/k=r):=λk cur T jo A hb=>by
  rcases A with A|A|A
  ·exact jW hL3 k cur T jo (.inl A) hb
  ·exact jW hL3 k cur T jo (.inr A) hb
  ·exact BW.safe k cur T jo (.inl A) hb
 have hx4:Cx w4 r fz {v1 with wk:=.nilFunc} {c.aV.2 with bR:=dB++wd++nl,bK:=true,work:=none}:=
  BW.reb c4 sf xp (λk A=>by
   by_cases e:k=r
   ·exact .inl e
   ·refine .inr ?_;rintro(rfl|rfl|rfl)
    ·exact BW.off hL3.blk (by decide) (by decide) (by decide) A
    ·exact BW.gp hL3.map A
    ·exact e rfl) rfl rfl rfl rfl
 refine⟨rfl,_,⟨hx4,rfl⟩,GN,?_,?_,?_⟩
 ·rw[hP.same];exact⟨rfl,rfl,rfl,rfl⟩
 ·exact hP.fp
 ·refine(Fc.mono (S':=λk=>Fp r v k\/k=l\/k=b) (λk _ e=>.inl e)).trans' c4 ?_;rintro k _ (e|e|e)
  ·exact .inr (.inl e)
  ·exact .inr (.inr e)
  ·exact .inl (.inl e)
def aBX p ev w r fz v c l b ls(h:Cw w r fz v c)(hL:Lk w l b ls)(hz:Fz fz)(hG:Gl w p ev)(J:∀k,Fp r v k->2<k)
 (hl:c.rest.length<=600) (MS:c.au.length<=4) (ho:c.ah.length<=12) (hm:c.aV.1=.ok) (hd:c.aV.2.done=false):
 Calls Tq.prog 44 #[aG r] w (WP w r fz v l b 1 c.aV.2 ls):=by
 have C:=xt (xB _ ev w r fz v c h.cx hz hG.more ⟨_,_,rfl⟩ hG.QI hG.oU hl MS ho);have H:=xt (zr h (zr hL hG));clear h hL hG;unfold aG;go_enter Tq.func44,ntmps44;go_wp2_with fail;refine C.out.mono ?_;rintro e w1 ⟨u,v1,rfl,hP⟩;have hu:u=.nilIface:=by have:=hP.er;rw[hm]at this;exact this
 subst hu;obtain⟨h,hL,hG⟩:=H.out;have ZR:Gl w1 p ev:=hG.aA hP.aA (λe=>by have:=J 0 e;omega) (λe=>by have:=J 1 e;omega) (λe=>by have:=J 2 e;omega);have Vd:Gl (w1.alloc (.cells #[.pointer none] 135)) p ev:=ZR.aA ((aj.refl (λ_=>False) w1).alloc _) (λe=>e) (λe=>e) (λe=>e);have cB:aj (λ_=>False) w1 (w1.alloc (.cells #[.pointer none] 135)):=(aj.refl _ w1).alloc _;have yi:=hP.cx.aA cB (Safe.none w1) (λk _ e=>e);have km:=Vd.more;have kd:(w1.alloc (.cells #[.pointer none] 135)).cell? ⟨r,6,none⟩=some (.bool false):=by rw[<-hd];exact yi.cb.at rfl
 have K:=xt (zr hP (zr yi cB));have hk:=xt (λt w=>Ea.aAw t w);have hR:=xt (λw=>Ea.YR p w);clear hP ZR Vd h hL hG yi cB;go_wp2_with fail;refine(hk.out _ _).mono ?_;rintro e w2 ⟨rfl,rfl⟩;go_wp2_with fail;refine(hR.out _).mono ?_;rintro e w3 ⟨rfl,rfl⟩;go_wp2_with fail;go_ret;obtain⟨hP,yi,cB⟩:=K.out;obtain⟨h,hL,hG⟩:=H.out;have hs:=qf c;have w3c:=hP.aA.trans (cB.mono (S':=Fp r v) (λ_ _ e=>e.elim));refine⟨rfl,v1,⟨yi,?_⟩,hL.aA w3c (h.cx.off hL.blk (by decide) (by decide) (by decide)) (h.cx.gp hL.map),?_,?_,w3c.mono (λk _ e=>.inl e)⟩
 ·exact(h.wk.aA w3c h.cx.safe).same hs.1 hs.2.1 (by rw[hP.same]) (by rw[hP.same])
 ·rw[hP.same];exact⟨rfl,rfl,rfl,rfl⟩
 ·exact hP.fp
def Vu{k m}{l:List nN}(h:l[k]? =some m):(l.map (·.ref)).take (k+1)=(l.map (·.ref)).take k++[m.ref]:=by rw[fg,eL,h];rfl
def TR{w v l B0}(h:w.ownsRow B0 9 1 v l.length (l.map av)):WvR w v l:=by
 have h':=h;rcases h.2 with⟨rfl,h0⟩|⟨g,cap,cur,rfl,_,hb,V,J,h3,h4⟩
 ·exact⟨none,0,by rw[h0],by omega,λhl=>absurd (eK h0) hl⟩
 ·refine⟨_,cap,rfl,by omega,λ_=>⟨g,0,cur,rfl,hb,λi x E=>?_⟩⟩;have L:=h'.cells (g:=g) rfl i (av x) (by rw[eL,E];rfl);have ha:w.cell? ⟨g,i,none⟩=some (av x):=by
   rcases gw i with rfl|hi
   ·simpa [Addr.add]using L
   ·have wW:¬i=0:=by omega
    simpa [Addr.add,wW]using L
  rw[j0];simpa [World.cell?,hb]using ha
structure DI(w1 wr:World)r(fz:Nat×Nat)(v1:Cv)d wv k:Prop where
 cb:Cb wr r fz {v1 with wv:=wv} d
 row:wr.ownsRow w1.heap.size 9 1 wv k (((d.au.map (·.ref)).take k).map av)
 aA:aj (·=r) w1 wr
def DI.cx{w1 wr r fz v1 d wv k}(h:DI w1 wr r fz v1 d wv k)(V:Cx w1 r fz v1 d):Cx wr r fz {v1 with wv:=wv} d:=
 V.reb h.aA (λj cur T jo hj hb=>V.safe j cur T jo (.inl hj) hb) h.cb (λj _=>by by_cases e:j=r;exact .inl e;exact .inr e) rfl rfl rfl rfl
def DI.next{w1 wr r fz v1 d wv k m w6 gg cap}(h:DI w1 wr r fz v1 d wv k)(E:d.au[k]? =some m)(c6:aj (λj=>wv.ownBlock=some j) wr w6)
 (Y:r<w1.heap.size) (tU:w6.ownsRow w1.heap.size 9 1 (.slice (some ⟨gg,0,none⟩) (k+1) cap) (k+1) (((d.au.map (·.ref)).take k).map av++[av m.ref])):
 DI w1 (w6.setCell ⟨r,15,none⟩ (.slice (some ⟨gg,0,none⟩) (k+1) cap)) r fz v1 d (.slice (some ⟨gg,0,none⟩) (k+1) cap) (k+1):=by
 have hg:gg≠r:=λe=>by have:=(tU.lt gg rfl).1;omega
 have tM:wv.ownBlock≠some r:=λe=>by have:=(h.row.lt r e).1;omega
 have h6:Cb w6 r fz {v1 with wv:=wv} d:=aM.aA h.cb c6 tM;refine⟨aM.set h6 15 _,?_,?_⟩
 ·rw[Vu E,eN];exact ľ tU (a:=⟨r,15,none⟩) (λe=>hg (ay e)) _
 ·refine(h.aA.trans' c6 (λi hi e=>?_)).setCell (p:=⟨r,15,none⟩) (.inl rfl) _;have:=(h.row.lt i e).1;omega
def TZ p ev w r fz v c l b ls(h:Cw w r fz v c)(hL:Lk w l b ls)(hz:Fz fz)(hG:Gl w p ev)(J:∀k,Fp r v k->2<k)
 (hl:c.rest.length<=600) (MS:c.au.length<=4) (ho:c.ah.length<=12) (hm:c.aV.1=.ok) (hd:c.aV.2.done=true) (hd4:c.aV.2.au.length<=4) (Jg:c.work=some .read):
 Calls Tq.prog 44 #[aG r] w (WP w r fz v l b 1 {c.aV.2 with wants:=(c.aV.2.wants++c.aV.2.au.map (·.ref)).mergeSort uH,work:=some .lock} ls):=by
 have C:=xt (xB _ ev w r fz v c h.cx hz hG.more ⟨_,_,rfl⟩ hG.QI hG.oU hl MS ho);have H:=xt (zr h (zr hL hG));have aJW:v.wk=.func (.func 44) #[aG r] #[]/\v.wv=.slice none 0 0/\c.wants=[]:=by have:=h.wk;unfold FE at this;rw[Jg]at this;exact this
 have hs:=qf c;have aFW:c.aV.2.wants=[]:=hs.2.1.trans aJW.2.2;rw[aFW,cg];clear h hL hG;unfold aG;go_enter Tq.func44,ntmps44;go_wp2_with fail;refine C.out.mono ?_;rintro e w1 ⟨u,v1,rfl,hP⟩;have hu:u=.nilIface:=by have:=hP.er;rw[hm]at this;exact this
 subst hu;obtain⟨h,hL,hG⟩:=H.out;have ZR:Gl w1 p ev:=hG.aA hP.aA (λe=>by have:=J 0 e;omega) (λe=>by have:=J 1 e;omega) (λe=>by have:=J 2 e;omega);have Vd:Gl (w1.alloc (.cells #[.pointer none] 135)) p ev:=ZR.aA ((aj.refl (λ_=>False) w1).alloc _) (λe=>e) (λe=>e) (λe=>e);have cB:aj (λ_=>False) w1 (w1.alloc (.cells #[.pointer none] 135)):=(aj.refl _ w1).alloc _;have yi:=hP.cx.aA cB (Safe.none w1) (λk _ e=>e);have km:=Vd.more;have kd:(w1.alloc (.cells #[.pointer none] 135)).cell? ⟨r,6,none⟩=some (.bool true):=by rw[<-hd];exact yi.cb.at rfl
 have k7:(w1.alloc (.cells #[.pointer none] 135)).cell? ⟨r,7,none⟩=some v1.cv:=yi.cb.at rfl;obtain⟨q,cap,hq⟩:=nX yi.au;rw[hq]at k7;have Fj:v1.wv=.slice none 0 0:=by rw[hP.same];exact aJW.2.1
 have hve:({v1 with wv:=.slice none 0 0}:Cv)=v1:=by rw[<-Fj]
 have D0:Hid (DI w1 (w1.alloc (.cells #[.pointer none] 135)) r fz v1 c.aV.2 (.slice none 0 0) 0):=xt ⟨by rw[hve];exact yi.cb,World.ownsRow_nil _ _ _ _,cB.mono (λ_ _ e=>e.elim)⟩;have K:=xt hP;have hk:=xt (λt w=>Ea.aAw t w);have hR:=xt (λw=>Ea.YR p w);clear hP ZR Vd h hL hG yi cB;go_wp2_with fail;refine(hk.out _ _).mono ?_;rintro e w2 ⟨rfl,rfl⟩;go_wp2_with fail;refine(hR.out _).mono ?_;rintro e w3 ⟨rfl,rfl⟩;generalize w1.alloc (.cells #[.pointer none] 135)=w3 at km kd k7 D0 ⊢;go_wp2_with fail;have Bx:=K.out.cx;have aCv:=aM.lt Bx.cb;have Bx:=xt Bx;clear k7 km kd
 go_loopw [45] (λi wr=>∃(k:Nat) (wv:Value),i=.int .i64 k/\k<=c.aV.2.au.length/\Hid (DI w1 wr r fz v1 c.aV.2 wv k)) (λi _=>c.aV.2.au.length - (intOf i).toNat)
 case atStart=>exact⟨0,_,rfl,cQ _,D0⟩
 case round=>
  rename_i wr;clear D0;obtain⟨k,wv,rfl,A,HD⟩:=hrel;by_cases tP:k<c.aV.2.au.length
  ·have E:c.aV.2.au[k]? =some c.aV.2.au[k]:=bU tP;generalize c.aV.2.au[k]=m at E;obtain⟨m1,m2,m3⟩:=JG E;have wX:=HD.out.cx Bx.out;have tM:=wX.au;have hq':v1.cv=.slice q c.aV.2.au.length cap:=hq;change World.ownsRow wr 0 142 3 v1.cv _ _ at tM;rw[hq']at tM;obtain⟨g,vZ,UW⟩:=C9 (n:=c.aV.2.au.length - 1) (by rw[rN (by omega)];exact tM);obtain⟨rfl,rfl⟩:q=some ⟨g,0,none⟩/\cap=vZ:=by injection UW with e1 _ e3;exact⟨e1,e3⟩
   have d0:=tM.cells (g:=g) rfl _ _ m1;have d1:=tM.cells (g:=g) rfl _ _ m2;have d2:=tM.cells (g:=g) rfl _ _ m3;unfold av at d0 d1 d2;have e0:wr.cell? ⟨g,k*3,none⟩=some (.string ⟨m.old.toArray⟩):=by
    rcases gw k with rfl|hk0
    ·simpa [Addr.add]using d0
    ·have ID:¬k*3=0:=by omega
     simpa [Addr.add,ID]using d0
   have e1:wr.cell? ⟨g,k*3+1,none⟩=some (.string ⟨m.new.toArray⟩):=by simpa [Addr.add]using d1
   have e2:wr.cell? ⟨g,k*3+2,none⟩=some (.string ⟨m.ref.toArray⟩):=by simpa [Addr.add]using d2
   have qw:(k:Int)<(c.aV.2.au.length:Int):=by omega
   have UM:wr.cell? ⟨r,15,none⟩=some wv:=HD.out.cb.at rfl;have f15:=aM.frozen HD.out.cb (i:=15) (hz 15 (by decide) (by decide) (by decide));have Y0:=HD.out.row;clear tM UW m1 m2 m3 d0 d1 d2 wX;have Fq:=aM.lt HD.out.cb;go_wp2_with fail;have na:(wr.alloc (.cells #[.string ⟨m.old.toArray⟩,.string ⟨m.new.toArray⟩,.string ⟨m.ref.toArray⟩] 142)).cell? ⟨wr.heap.size,2,none⟩=some (.string ⟨m.ref.toArray⟩):=by simp
   have hsa:wr.heap.size<(wr.alloc (.cells #[.string ⟨m.old.toArray⟩,.string ⟨m.new.toArray⟩,.string ⟨m.ref.toArray⟩] 142)).heap.size:=by simp
   have hDa:DI w1 (wr.alloc (.cells #[.string ⟨m.old.toArray⟩,.string ⟨m.new.toArray⟩,.string ⟨m.ref.toArray⟩] 142)) r fz v1 c.aV.2 wv k:=
    ⟨(Below.heap_alloc wr _ r Fq).trans HD.out.cb,HD.out.row.alloc _,HD.out.aA.alloc _⟩
   have aJM:(wr.alloc (.cells #[.string ⟨m.old.toArray⟩,.string ⟨m.new.toArray⟩,.string ⟨m.ref.toArray⟩] 142)).cell? ⟨r,15,none⟩=some wv:=hDa.cb.at rfl;have aLl:=aM.frozen hDa.cb (i:=15) (hz 15 (by decide) (by decide) (by decide));have Y2:wv.ownBlock≠some r:=λe=>by have:=(Y0.lt r e).1;omega
   have YW:wv.ownBlock≠some wr.heap.size:=λe=>by have:=(Y0.lt _ e).2;omega
   have B3:=HD.out.aA.size;have Y1:=hDa.row;have aF8:=aM.lt hDa.cb;have hDa:=xt hDa;generalize wr.alloc (.cells #[.string ⟨m.old.toArray⟩,.string ⟨m.new.toArray⟩,.string ⟨m.ref.toArray⟩] 142)=wa at na hsa hDa aJM aLl Y1 aF8 ⊢;clear e0 e1 e2 UM f15 Y0;obtain⟨q2,aAr,rfl⟩:=nX Y1;obtain⟨i0,wW,xr,xU,ya⟩:=info_parts pI;have hrw:r≠wr.heap.size:=by omega
   have k7a:((wa.alloc (.cells #[.string ⟨m.ref.toArray⟩] 9)).drew).cell? ⟨r,15,none⟩=some (.slice q2 k aAr):=(World.cell?_of_block (w:=wa) (Below.heap_alloc wa _ r aF8)).trans aJM;have f7a:((wa.alloc (.cells #[.string ⟨m.ref.toArray⟩] 9)).drew).frozen? ⟨r,15,none⟩=false:=(World.frozen?_of_block (w:=wa) (Below.heap_alloc wa _ r aF8)).trans aLl
   go_region_law
    ((refine step_append_lies _ (by rfl) _ _ _ (by rfl) w1.heap.size 9 i0 _ 1 16 ((Tq.underlying 34).trans underlying34) wW xr xU ya rfl (by omega) _ _ _ (by rfl) ((Y1.alloc _).drew)
       ⟨wa.heap.size,0,none⟩ 1 1 [.string ⟨m.ref.toArray⟩] (by rfl) (by rfl) (World.news_of_block (cs:=#[.string ⟨m.ref.toArray⟩]) (t:=9) (fr:=(0,0)) (heap_alloc_new wa _)) (by simp[Value.oneCell'])
       (by omega) (by unfold maxLen;omega) (by omega) (by simp;omega) (wa.heap.size+1) (by simp) ?_;intro gg aVv w6 Mv tR wx aO9;have f76:w6.frozen? ⟨r,15,none⟩=false:=(tR.frozen_far ⟨r,15,none⟩ (by simp;omega) (dT Y2)).trans (f7a);have k76:w6.cell? ⟨r,15,none⟩=some (.slice q2 k aAr):=(tR.cell_far ⟨r,15,none⟩ (by simp;omega) (dT Y2)).trans k7a))
   all_goals
    have c6:aj (λj=>(Value.slice q2 k aAr).ownBlock=some j) wa w6:=by have q2':=((aj.refl (λj=>(Value.slice q2 k aAr).ownBlock=some j) wa).alloc (.cells #[.string ⟨m.ref.toArray⟩] 9)).drew;exact q2'.grown tR (λk A=>.inl A)
    have iN:=xt (hDa.out.next E c6 aCv Mv);clear c6 Mv tR wx;go_wp2_with fail
    go_roundw
    case rel=>exact⟨k+1,_,by simp,by omega,iN⟩
    case measure=>
     show c.aV.2.au.length - ((k:Int)+1).toNat<c.aV.2.au.length - (k:Int).toNat;omega
  ·obtain rfl:k=c.aV.2.au.length:=by omega
   have tM:=HD.out.row;have e:(c.aV.2.au.map (·.ref)).take c.aV.2.au.length=c.aV.2.au.map (·.ref):=eM (by simp);rw[e]at tM;have UM:wr.cell? ⟨r,15,none⟩=some wv:=HD.out.cb.at rfl;go_wp2_with fail;have S:=Ks.xG w1.heap.size wv (c.aV.2.au.map (·.ref)) wr (by rw[dN];exact tM) (by rw[dN];omega);have S:=xt S;refine S.out.mono ?_;rintro e w4 ⟨rfl,wQ,tR⟩;have Hb:∀j,wv.ownBlock=some j->w1.heap.size<=j:=λj hj=>(tM.lt j hj).1;have c4:aj (λj=>wv.ownBlock=some j) wr w4:=(aj.refl _ wr).grown tR (λj hj=>.inl hj);have c14:aj (·=r) w1 w4:=HD.out.aA.trans' c4 (λi hi e=>by have:=Hb i e;omega);have h4:Cb w4 r fz {v1 with wv:=wv} c.aV.2:=aM.aA HD.out.cb c4 (λe=>by have:=Hb r e;omega);have k14:w4.cell? ⟨r,14,none⟩=some v1.wk:=h4.at rfl;have f14:=aM.frozen h4 (i:=14) (hz 14 (by decide) (by decide) (by decide));have F:=xt (zr wQ (zr c14 h4));clear wQ tR c4 c14 h4 tM S UM Hb;go_wp2_with fail;go_ret;obtain⟨wQ,c14,h4⟩:=F.out;have hP:=K.out;obtain⟨h,hL,hG⟩:=H.out;have c5:aj (·=r) w1 (w4.setCell ⟨r,14,none⟩ (.func (.func 75) #[aG r] #[])):=c14.setCell (p:=⟨r,14,none⟩) (.inl rfl) _;have hlen:((c.aV.2.au.map (·.ref)).mergeSort uH).length=c.aV.2.au.length:=by rw[kj,dN]
   have h5:Cb (w4.setCell ⟨r,14,none⟩ (.func (.func 75) #[aG r] #[])) r fz {v1 with wv:=wv,wk:=.func (.func 75) #[aG r] #[]} {c.aV.2 with wants:=(c.aV.2.au.map (·.ref)).mergeSort uH,work:=some .lock}:=aM.set h4 14 _;have hx5:=hP.cx.reb c5 (λj cur T jo hj hb=>hP.cx.safe j cur T jo (.inl hj) hb) h5 (λj _=>by by_cases e:j=r;exact .inl e;exact .inr e) rfl rfl rfl rfl;have cW:aj (Fp r v) w (w4.setCell ⟨r,14,none⟩ (.func (.func 75) #[aG r] #[])):=hP.aA.trans (c5.mono (λk _ e=>.inl e));refine⟨rfl,_,⟨hx5,rfl,?_⟩,hL.aA cW (h.cx.off hL.blk (by decide) (by decide) (by decide)) (h.cx.gp hL.map),?_,?_,cW.mono (λk _ e=>.inl e)⟩
   ·refine TR (B0:=w1.heap.size) ?_;have h6:w4.ownsRow w1.heap.size 9 1 wv ((c.aV.2.au.map (·.ref)).mergeSort uH).length (((c.aV.2.au.map (·.ref)).mergeSort uH).map av):=by
     rw[kj];exact wQ
    exact ľ h6 (a:=⟨r,14,none⟩) (λe=>by have:=(wQ.lt r e).1;omega) _
   ·rw[hP.same];exact⟨rfl,rfl,rfl,rfl⟩
   ·exact hP.fp
def Gz{w r fz v c l b ls}(E:Cx w r fz v c)(hL:Lk w l b ls):Safe w (λk=>k=l\/k=b\/k=r):=λk cur T jo A hb=>by
 rcases A with A|A|A
 ·exact jW hL k cur T jo (.inl A) hb
 ·exact jW hL k cur T jo (.inr A) hb
 ·exact E.safe k cur T jo (.inl A) hb
def LA{w r fz v c l b ls}(E:Cx w r fz v c)(hL:Lk w l b ls)k(A:Fp r v k):k=r\/¬(k=l\/k=b\/k=r):=by
 by_cases e:k=r
 ·exact .inl e
 ·refine .inr ?_;rintro(rfl|rfl|rfl)
  ·exact E.off hL.blk (by decide) (by decide) (by decide) A
  ·exact E.gp hL.map A
  ·exact e rfl
def aC3 w r bx fz v c l b ls st m cb rs(h:Cx w r fz v c)(hbx:aM w bx #[aG r] 91 (0,0))(hL:Lk w l b ls)(hS:Sr w v.s st l m cb rs)(hz:Fz fz)
 (hi:v.i<1099511627776) (Q:ls.length<1099511627776):
 Calls Tq.prog 127 #[aG bx] w (WP w r fz v l b 1 {c with bK:=true,work:=none} (give ls v.i)):=by
 have kb:w.cell? ⟨bx,0,none⟩=some (.pointer (some ⟨r,0,none⟩)):=hbx.at rfl;have k13:w.cell? ⟨r,13,none⟩=some (.bool c.bK):=h.cb.at rfl;have f13:=aM.frozen h.cb (i:=13) (hz 13 (by decide) (by decide) (by decide));have Bx:Cx (w.setCell ⟨r,13,none⟩ (.bool true)) r fz v {c with bK:=true}:=h.set 13 _ rfl rfl rfl;have c1:aj (·=r) w (w.setCell ⟨r,13,none⟩ (.bool true)):=(aj.refl (·=r) w).setCell (p:=⟨r,13,none⟩) (.inl rfl) _;have tW:bx≠r:=aM.ne hbx h.cb (by decide);have kb1:(w.setCell ⟨r,13,none⟩ (.bool true)).cell? ⟨bx,0,none⟩=some (.pointer (some ⟨r,0,none⟩)):=(aM.other hbx (by exact tW) _).at rfl;have Vb:Lk (w.setCell ⟨r,13,none⟩ (.bool true)) l b ls:=hL.aA c1 (λe=>h.off hL.blk (by decide) (by decide) (by decide) (.inl e)) (λe=>h.gp hL.map (.inl e));have A6:Sr (w.setCell ⟨r,13,none⟩ (.bool true)) v.s st l m cb rs:=Sr.off hS c1 (λk cur T jo A hb=>by rcases h.types k cur T jo (.inl A) hb with rfl|rfl|rfl<;>decide);generalize sD:w.setCell ⟨r,13,none⟩ (.bool true)=w1 at Bx c1 kb1 Vb A6;have Lv:=xt (zu w1 l b r ls fz v _ st m cb rs Vb Bx.cb A6 hz hi Q);have K:=xt (zr Bx (zr c1 Vb));clear Bx c1 Vb A6 hS hL h hbx;unfold aG at Lv ⊢;go_enter Tq.func127,ntmps127;go_wp2_with fail;refine Lv.out.mono ?_;rintro e w4 ⟨rfl,GN,xp,c4⟩;have K4:=xt (zr GN (zr xp c4));clear GN xp c4;go_wp2_with fail;go_ret;obtain⟨GN,xp,c4⟩:=K4.out;obtain⟨Bx,c1,Vb⟩:=K.out;have hx4:Cx w4 r fz {v with wk:=.nilFunc} {c with bK:=true,work:=none}:=Bx.reb c4 (Gz Bx Vb) xp (LA Bx Vb) rfl rfl rfl rfl;refine⟨rfl,_,⟨hx4,rfl⟩,GN,⟨rfl,rfl,rfl,rfl⟩,λk A=>.inl A,?_⟩;refine(c1.mono (S':=λk=>Fp r v k\/k=l\/k=b) (λk _ e=>.inl (.inl e))).trans' c4 ?_;rintro k _ (e|e|e)
 ·exact .inr (.inl e)
 ·exact .inr (.inr e)
 ·exact .inl (.inl e)
def aCf w r fz v c l b ls st m cb rs x xs(h:Cx w r fz v c)(hw:WvR w v.wv c.wants)(L:c.wants=x::xs)(hL:Lk w l b ls)(hS:Sr w v.s st l m cb rs)
 (E:x.length<=maxLen) (U8:v.i<1099511627776) (hg:(M.get ls x).getD 0≠0) (Jg:c.work=some .lock) (A:v.wk=.func (.func 75) #[aG r] #[]):
 Calls Tq.prog 75 #[aG r] w (WP w r fz v l b 0 c ls):=by
 have hW:=xt hw;obtain⟨q,cap,X,hcp,tM⟩:=hw;obtain⟨g,o,cur,rfl,B2,ZE⟩:=tM (by rw[L];exact nB _ _);have h0:w.cell? ⟨g,o,none⟩=some (.string ⟨x.toArray⟩):=by have:=ZE 0 x (by rw[L];rfl);rw[mg]at this;have this:cur[o]? =some (.string ⟨x.toArray⟩):=this;simpa [World.cell?,B2]using this
 rw[L]at X hcp;simp only[bt]at X hcp;have UM:w.cell? ⟨r,15,none⟩=some (.slice (some ⟨g,o,none⟩) (xs.length+1) cap):=by rw[<-X];exact h.cb.at rfl
 have k1:w.cell? ⟨r,1,none⟩=some (.pointer (some ⟨v.s,0,none⟩)):=h.cb.at rfl;have k0:w.cell? ⟨r,0,none⟩=some (.int .i64 v.i):=h.cb.at rfl;have k3:w.cell? ⟨v.s,3,none⟩=some (.pointer (some ⟨l,0,none⟩)):=hS.blk.at rfl;have Fq:=aM.lt h.cb;have BF:=hS.blk.lt;have Jn:=lt_of_block B2;have bx:Below w.heap.size w (w.alloc (.cells #[.pointer (some ⟨r,0,none⟩)] 91)):=(Below.refl _ _).alloc (aI _) _;have kb:(w.alloc (.cells #[.pointer (some ⟨r,0,none⟩)] 91)).cell? ⟨w.heap.size,0,none⟩=some (.pointer (some ⟨r,0,none⟩)):=by simp
 have a0:=aK bx h0 Jn;have a15:=aK bx UM Fq;have a1:=aK bx k1 Fq;have a00:=aK bx k0 Fq;have a3:=aK bx k3 BF;have Vb:=hL.aA (aj.nK bx) (λe=>e) (λe=>e);have T:=λwd (hd:Lk wd l b ls)=>aBm wd l b v.i ls ⟨x.toArray⟩ hd E hg;have T:=xt T;have H:=xt (zr h (zr hL (zr Vb (zr bx (zr X B2)))));have hlen:((xs.length+1:Nat):Int)≠0:=by omega
 clear h hL Vb bx hS ZE B2 tM UM k1 k0 k3 h0;unfold aG;go_enter Tq.func75,ntmps75;go_wp2_with fail;generalize w.alloc (.cells #[.pointer (some ⟨r,0,none⟩)] 91)=wa at kb a0 a15 a1 a00 a3 H ⊢
 go_still_tail 17,wy
 change wpList _ _ _ _ _ wa.drew;have hL2:Lk wa.drew l b ls:=⟨H.out.2.2.1.blk,H.out.2.2.1.map.block rfl⟩
 have bd:Hid (Below w.heap.size w wa.drew):=xt (qnz H.out.2.2.2.1 1);have T2:=xt (T.out _ hL2);generalize wa.drew=wd at hL2 bd T2 ⊢;clear T hL2;go_wp2_with (go_at_call 128;refine T2.out.mono ?_;rintro e w3 ⟨rfl,Zn,c3⟩;have F:=xt (zr Zn c3);clear Zn c3);go_ret;obtain⟨Zn,c3⟩:=F.out;obtain⟨h,hL,_,_,X,B2⟩:=H.out;have cW:aj (λk=>k=l\/k=b) w w3:=((aj.nK bd.out).mono (λ_ _ e=>e.elim)).trans c3;have nP:∀k,Fp r v k->¬(k=l\/k=b):=by
  rintro k A (rfl|rfl)
  ·exact h.off hL.blk (by decide) (by decide) (by decide) A
  ·exact h.gp hL.map A
 refine⟨rfl,v,⟨h.aA cW (jW hL) nP,?_⟩,Zn,⟨rfl,rfl,rfl,rfl⟩,λk A=>.inl A,cW.mono (λk _ e=>.inr e)⟩;unfold FE;rw[Jg];exact⟨A,hW.out.aA cW (jW hL)⟩
end Rx
end
