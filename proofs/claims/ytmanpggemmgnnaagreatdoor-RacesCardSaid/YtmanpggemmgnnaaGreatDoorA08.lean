/- Races: a part. Conditions: none. -/
import Derived.RangeFuncRecord
import Derived.WalkKit
set_option linter.all false
namespace Go.Proofs.YtmanpggemmgnnaaGreatDoor
noncomputable section
open Go Go.RowKit
namespace Lv
def LV (P:Program) (Goal:Machine->Prop) (w:World) (fr:Frame) (cs:List Frame):Prop:=∃m,Steps P (lone fr cs w) m/\Goal m
section
variable {P:Program} {Goal:Machine->Prop} {w w':World} {cs JD:List Frame} {b:Frame} {a:Act} {k:List Item}
theorem LV.step {fr fr':Frame} (h:Go.step P (lone fr cs w)=.next (lone fr' JD w')) (n:LV P Goal w' fr' JD):LV P Goal w fr cs:=by obtain ⟨m,hs,hg⟩:=n;exact ⟨m,.head h hs,hg⟩
theorem LV.steps {fr fr':Frame} (h:Steps P (lone fr cs w) (lone fr' JD w')) (n:LV P Goal w' fr' JD):LV P Goal w fr cs:=by obtain ⟨m,hs,hg⟩:=n;exact ⟨m,h.trans hs,hg⟩
theorem LV.skip (h:LV P Goal w (b.atR a k) cs):LV P Goal w (b.atR a (.code .skip::k)) cs:=.step stepR_skip h
theorem LV.inBlock {id:Nat} (h:LV P Goal w (b.atR a k) cs):LV P Goal w (b.atR a (.inBlock id::k)) cs:=.step stepR_inBlock h
theorem LV.seq {x y:Code} (h:LV P Goal w (b.atR a (.code x::.code y::k)) cs):LV P Goal w (b.atR a (.code (.seq x y)::k)) cs:=.step stepR_seq h
theorem LV.cond {c:Operand} {x y:Code} {t:Bool} (hc:a.eval c=.bool t) (h:LV P Goal w (b.atR a (.code (if t then x else y)::k)) cs):LV P Goal w (b.atR a (.code (.cond c x y)::k)) cs:=.step (stepR_cond hc) h
theorem LV.block {id:Nat} {c:Code} (h:LV P Goal w (b.atR a (.code c::.inBlock id::k)) cs):LV P Goal w (b.atR a (.code (.block id c)::k)) cs:=.step stepR_block h
theorem LV.loop {c:Code} (h:LV P Goal w (b.atR a (.code c::.inLoop c::k)) cs):LV P Goal w (b.atR a (.code (.loop c)::k)) cs:=.step stepR_loop h
theorem LV.inLoop {c:Code} (h:LV P Goal w (b.atR a (.code c::.inLoop c::k)) cs):LV P Goal w (b.atR a (.inLoop c::k)) cs:=.step stepR_inLoop h
theorem LV.exit {id:Nat} {k':List Item} (hx:exitTo id k=some k') (h:LV P Goal w (b.atR a k') cs):LV P Goal w (b.atR a (.code (.exit id)::k)) cs:=.step (stepR_exit hx) h
theorem LV.ret (hb:b.roundOf=none) (h:LV P Goal w {b.atR a (.code .ret::k) with mode:=.returning} cs):LV P Goal w (b.atR a (.code .ret::k)) cs:=.step (stepR_ret hb) h
theorem LV.fin (hb:b.roundOf=none) (h:LV P Goal w {b.atR a [] with mode:=.returning} cs):LV P Goal w (b.atR a []) cs:=.step (stepR_end hb) h
def Qr (R:Act->World->Prop):Exit->Act->World->Prop
 | .normal,a,w=>R a w
 |_,_,_=>False
def Rf:Op->Bool
 | .defer _=>true
 |_=>false
def uC (ops:Array Oper):Bool:=ops.toList.all λo=>!Rf o.op
theorem aDh {ops:Array Oper} (h:uC ops=true) {i:Nat} {o:Oper} (ho:ops[i]? =some o):∀c,o.op≠.defer c:=by intro c e;unfold uC at h;rw [List.all_eq_true] at h;have:=h o (Array.mem_toList_iff.2 (Array.mem_of_getElem? ho));rw [e] at this;cases this
theorem XJ {ops:Array Oper} {R:Act->World->Prop} (bz:uC ops=true) (l:List Nat):
 ∀(a:Act) (w:World),wpOps P ops (Qr R) l a w->∀(b:Frame) (rest:List Nat) (k:List Item) (cs:List Frame),
  ∃a' w',R a' w'/\Steps P (lone (b.atR a (.inRegion ops (l++rest)::k)) cs w) (lone (b.atR a' (.inRegion ops rest::k)) cs w'):=by
 induction l with
 |nil=>exact λa w h b rest k cs=>⟨a,w,h,.refl _ _⟩
 |cons i l ih=>
  intro a w h b rest k cs;rw [List.cons_append];simp only [wpOps] at h;cases ho:ops[i]? with
  |none=>simp only [ho] at h;obtain ⟨a',w',hq,jh⟩:=ih a w h b rest k cs;have hs:=stepR_op_skip (P:=P) (b:=b) (a:=a) (k:=k) (cs:=cs) (w:=w) (ops:=ops) (i:=i) (rest:=l++rest) (by simp [ho]);simp only [ho,Option.bind_none,Act.put] at hs;exact ⟨a',w',hq,.head hs jh⟩
  |some o=>
   simp only [ho] at h;by_cases hw:Region.wanted o (yielded ops a.tmps)=true
   ·simp only [hw,if_true] at h;rcases h with h|⟨aK7,a₀,w₀,hq⟩
    case inr=>exact hq.elim
    simp only [Oper.wp,Oper.upon] at h;have hg:=stepGR_op (P:=P) (b:=b) (k:=k) (cs:=cs) (w:=w) (rest:=l++rest) ho hw;rw [Oper.semAt_eq _ _ _ (aDh bz ho)] at hg;have iN:∀v,(b.atR a (.inRegion ops (i::(l++rest))::k)).finish v=b.atR (a.put o.dst v) (.inRegion ops (l++rest)::k):=by intro v;rw [Frame.finish_atR,ho];rfl
    split at h
    ·rename_i v w' hr;obtain ⟨a',w'',hq,jh⟩:=ih _ _ h b rest k cs;refine ⟨a',w'',hq,.head (step_lone_go ?_) jh⟩;rw [hg,<-iN];simp [stepG.apply,hr]
    ·rename_i w' hr;obtain ⟨a',w'',hq,jh⟩:=ih _ _ h b rest k cs;refine ⟨a',w'',hq,.head (step_lone_go ?_) jh⟩;rw [hg,<-iN];simp [stepG.apply,hr]
    ·rename_i d w' hr;obtain ⟨a',w'',hq,jh⟩:=ih _ _ h b rest k cs;refine ⟨a',w'',hq,.head (step_lone_go ?_) jh⟩;have:({b.atR a (.inRegion ops (i::(l++rest))::k) with defers:=d::a.defers}:Frame).finish undef=
      b.atR ({a with defers:=d::a.defers}.put o.dst undef) (.inRegion ops (l++rest)::k):=by
      have:=Frame.finish_atR b {a with defers:=d::a.defers} ops i (l++rest) k undef;rw [ho] at this;exact this
     rw [hg];simp only [stepG.apply,Sem.runT_eq,hr,GStep.bare_after];exact congrArg (λfr=>GStep.go {frame:=fr,callers:=cs,status:=.running,dying:=none} w') this
    ·rename_i f args w' hr;obtain ⟨e,w'',fr,hR,vV,_,D5⟩:=h (b.atR a (.inRegion ops (i::(l++rest))::k)::cs);have vY:step P (lone (b.atR a (.inRegion ops (i::(l++rest))::k)) cs w)=
      .next (lone (Frame.enter P f args .normal) (b.atR a (.inRegion ops (i::(l++rest))::k)::cs) w'):=
      step_lone_go (by rw [hg];simp [stepG.apply,hr,Frame.atR])
     cases e with
     |returned v=>obtain ⟨a',w₃,hq,jh⟩:=ih _ _ hR b rest k cs;refine ⟨a',w₃,hq,.head vY (Steps.trans vV (.head ?_ jh))⟩;rw [<-iN];exact step_leave_returned D5
     |panicked chain=>exact hR.elim
     |outgrown=>obtain ⟨a₀,w₀,hq⟩:=hR;exact hq.elim
    ·rename_i row args w' hr;obtain ⟨v,w'',hR,vV⟩:=h (b.atR a (.inRegion ops (i::(l++rest))::k)) cs;have vY:step P (lone (b.atR a (.inRegion ops (i::(l++rest))::k)) cs w)=
      .next (lone (Frame.ofRow P row args .normal) (b.atR a (.inRegion ops (i::(l++rest))::k)::cs) w'):=
      step_lone_go (by rw [hg];simp [stepG.apply,hr,Frame.atR])
     obtain ⟨a',w₃,hq,jh⟩:=ih _ _ hR b rest k cs;refine ⟨a',w₃,hq,.head vY (Steps.trans ?_ jh)⟩;rw [<-iN];exact vV
    ·exact h.elim
    ·exact h.elim
   ·simp only [hw,if_false,Bool.false_eq_true] at h;obtain ⟨a',w',hq,jh⟩:=ih _ _ h b rest k cs;have hs:=stepR_op_skip (P:=P) (b:=b) (a:=a) (k:=k) (cs:=cs) (w:=w) (ops:=ops) (i:=i) (rest:=l++rest)
     (by simp [ho];simpa using hw)
    simp only [ho,Option.bind_some] at hs;exact ⟨a',w',hq,.head hs jh⟩
theorem yQ {ops:Array Oper} {Q:Exit->Act->World->Prop} (l:List Oper):∀k,(∀j,j<l.length->ops[k+j]? =l[j]?)->wpOps P ops Q (List.range' k l.length)=wpList P ops Q l:=by
 induction l with
 |nil=>intro k _;funext a w;simp [wpOps,wpList]
 |cons o l ih=>
  intro k h;have h0:ops[k]? =some o:=by simpa using h 0 (by simp)
  have ih':=ih (k+1) (λj hj=>by have:=h (j+1) (by simpa using hj);simpa [Nat.add_assoc,Nat.add_comm 1 j] using this);funext a w;simp only [List.length_cons,List.range'_succ,wpOps,h0,wpList,ih']
theorem LV.reg {id:Nat} {ops:List Oper} (bz:uC ops.toArray=true) (h:∀R:Act->World->Prop,(∀a' w',LV P Goal w' (b.atR a' k) cs->R a' w')->wpList P ops.toArray (Qr R) ops a w):LV P Goal w (b.atR a (.code (.region id ops.toArray false)::k)) cs:=by
 have h:=h _ (λ_ _ h=>h);refine .step stepR_region ?_;have e:List.range ops.toArray.size=List.range' 0 ops.length:=by rw [List.range_eq_range'];rfl
 rw [<-yQ ops 0 (λj hj=>by simp)] at h;obtain ⟨a',w',hR,hs⟩:=XJ bz _ _ _ h b [] k cs;rw [List.append_nil] at hs;rw [e];exact .steps hs (.step stepR_region_end hR)
theorem LV.pre {id:Nat} {l r:List Oper} (bz:uC (l++r).toArray=true) (h:∀R:Act->World->Prop,(∀a' w',LV P Goal w' (b.atR a' (.inRegion (l++r).toArray (List.range' l.length r.length)::k)) cs->R a' w')->wpList P (l++r).toArray (Qr R) l a w):LV P Goal w (b.atR a (.code (.region id (l++r).toArray false)::k)) cs:=by
 have h:=h _ (λ_ _ h=>h);refine .step stepR_region ?_;have e:List.range (l++r).toArray.size=List.range' 0 l.length++List.range' l.length r.length:=by rw [List.range_eq_range',List.size_toArray,List.length_append,<-List.range'_append_1,Nat.zero_add]
 rw [<-yQ l 0 (λj hj=>by simp [List.getElem?_append_left hj])] at h;obtain ⟨a',w',hR,hs⟩:=XJ bz _ _ _ h b (List.range' l.length r.length) k cs;rw [e];exact .steps hs hR
theorem LV.post {ops:Array Oper} {rest:List Nat} (i:Nat) (hr:rest=List.range' i (ops.size - i)) (bz:uC ops=true) (h:∀R:Act->World->Prop,(∀a' w',LV P Goal w' (b.atR a' k) cs->R a' w')->wpList P ops (Qr R) (ops.toList.drop i) a w):LV P Goal w (b.atR a (.inRegion ops rest::k)) cs:=by
 have h:=h _ (λ_ _ h=>h);subst hr;rw [<-yQ (ops.toList.drop i) i (λj hj=>by rw [List.getElem?_drop,Array.getElem?_toList])] at h;obtain ⟨a',w',hR,hs⟩:=XJ bz _ _ _ h b [] k cs;rw [List.append_nil] at hs;have e:(ops.toList.drop i).length=ops.size - i:=by simp
 rw [e] at hs;exact .steps hs (.step stepR_region_end hR)
theorem LV.code {c:Code} (hb:b.roundOf=none) {R:Act->World->Prop} (h:c.wp P (Qr R) a w) (n:∀a' w',R a' w'->LV P Goal w' (b.atR a' k) cs):LV P Goal w (b.atR a (.code c::k)) cs:=by
 obtain ⟨e,a',w',hq,jh⟩:=h b k cs;cases e with
 |normal=>rw [Frame.atR_of_none hb];refine .steps jh ?_;have:=n a' w' hq;rw [Frame.atR_of_none hb] at this;exact this
 |exit id=>exact hq.elim
 |ret=>exact hq.elim
 |goto l=>exact hq.elim
 |panic ch=>exact hq.elim
 |outgrown=>exact hq.elim
theorem LV.tq {c:Code} (hb:b.roundOf=none) (h:∀R:Act->World->Prop,(∀a' w',LV P Goal w' (b.atR a' k) cs->R a' w')->c.wp P (Qr R) a w):LV P Goal w (b.atR a (.code c::k)) cs:=
 LV.code hb (h _ (λ_ _ h=>h)) (λ_ _ h=>h)
theorem LV.while {c:Code} (I:Nat->World->Act->Prop) {m:Nat} (h0:I m w a) (hs:∀m w a,I m w a->(∀m' w' a',m'<m->I m' w' a'->LV P Goal w' (b.atR a' (.inLoop c::k)) cs)->LV P Goal w (b.atR a (.code c::.inLoop c::k)) cs):
 LV P Goal w (b.atR a (.code (.loop c)::k)) cs:=by
 have key:∀m w a,I m w a->LV P Goal w (b.atR a (.code c::.inLoop c::k)) cs:=by
  intro m
  induction m using Nat.strongRecOn with
  |_ m ih=>exact λw a h=>hs m w a h λm' w' a' aI h'=>.inLoop (ih m' aI w' a' h')
 exact .loop (key m w a h0)
theorem LV.called {ops:Array Oper} {i:Nat} {rest:List Nat} {v:Value} (d:Nat) (hd:(ops[i]?).bind (·.dst)=some d) (h:LV P Goal w (b.atR {tmps:=a.tmps.setIfInBounds d v,defers:=a.defers} (.inRegion ops rest::k)) cs):LV P Goal w ((b.atR a (.inRegion ops (i::rest)::k)).finish v) cs:=by rw [Frame.finish_atR,hd];exact h
theorem LV.yield {ops:Array Oper} {i:Nat} {rest:List Nat} {o:Oper} {l f:Nat} {tm:Array Value} {as bd:Code} (ho:ops[i]? =some o) (bz:∀c,o.op≠.defer c) (hw:Region.wanted o (yielded ops a.tmps)=true)
 (hx:(execOp a.eval o).run P w=.ok (.round l f tm as bd) w) (h:LV P Goal w (Frame.round l f tm as bd .normal) (b.atR a (.inRegion ops (i::rest)::k)::cs)):LV P Goal w (b.atR a (.inRegion ops (i::rest)::k)) cs:=by
 refine .step (step_lone_go ?_) h;rw [stepGR_op ho hw,Oper.semAt_eq _ _ _ bz];simp [stepG.apply,hx]
theorem LV.aAZ {ops:Array Oper} {i:Nat} {rest:List Nat} {l:Nat} {args:Array Value} (o:Oper) (ho:ops[i]? =some o) (bz:Rf o.op=false) (hw:Region.wanted o (yielded ops a.tmps)=true)
 (hx:∀x,(Instr.yield l args).run P w=.ok x w->(execOp a.eval o).run P w=.ok x w) (h:∃f tm ag bd,(Instr.yield l args).run P w=.ok (.round l f tm ag bd) w/\LV P Goal w (Frame.round l f tm ag bd .normal) (b.atR a (.inRegion ops (i::rest)::k)::cs)):LV P Goal w (b.atR a (.inRegion ops (i::rest)::k)) cs:=by
 obtain ⟨f,tm,ag,bd,hy,h⟩:=h;exact .yield ho (λc e=>by rw [e] at bz;cases bz) hw (hx _ hy) h
def rb (l f:Nat):Frame:={(default:Frame) with fn:=f,kind:=.normal,roundOf:=some l}
theorem round_eq (l f:Nat) (tm:Array Value) (as bd:Code):Frame.round l f tm as bd .normal=(rb l f).atR {tmps:=tm,defers:=[]} [.code as,.beginRound,.code bd]:=by simp [Frame.round,Frame.atR,rb]
theorem LV.begin {l:Nat} {f:Nat} {r:Loop} (hl:w.heap[l]? =some (.loop r)) (hr:r.state=.ready) (h:LV P Goal (w.putObj l (.loop {r with state:=.busy})) ((rb l f).atR a k) cs):LV P Goal w ((rb l f).atR a (.beginRound::k)) cs:=
 .step (stepR_beginRound rfl (run_beginRound hl hr)) h
theorem LV.Db {l f:Nat} {c:Frame} {r:Loop} (hl:w.heap[l]? =some (.loop r)) (h:LV P Goal (w.putObj l (.loop {r with state:=.ready,pending:=none})) (c.finish (.bool true)) cs):LV P Goal w ((rb l f).atR a []) (c::cs):=
 .step (stepR_round_end rfl rfl (run_endRound none hl)) h
theorem LV.KY {l f:Nat} {c:Frame} {r:Loop} (hl:w.heap[l]? =some (.loop r)) (h:LV P Goal (w.putObj l (.loop {r with state:=.done,pending:=some .ret})) (c.finish (.bool false)) cs):LV P Goal w ((rb l f).atR a (.code .ret::k)) (c::cs):=
 .step (stepR_round_ret rfl rfl (run_endRound (some .ret) hl)) h
def aFe (fn:Nat) (tm:Array Value) (ps:Array Tmp) (as bd:Code) (D:Nat):Loop:={state:=.ready,pending:=none,fn,tmps:=tm,params:=ps,assign:=as,body:=bd,defers:=D}
theorem LV.range {g:Operand} {ps:Array Tmp} {as bd:Code} {gf:Nat} {lb:Array Value} (hb:b.roundOf=none) (hg:a.eval g=.func (.func gf) #[] lb) (eg:∀args w,(callFunc gf args).run P w=.ok (.enter gf args) w)
 (h:LV P Goal ((w.alloc (.deferred (some []))).alloc (.loop (aFe b.fn a.tmps ps as bd w.heap.size))) (Frame.enter P gf (#[.func (.yield (w.heap.size+1)) #[] #[]]++lb) .normal)
   (b.atR {a with defers:={target:=.collected w.heap.size,args:=#[]}::a.defers} (.inRangeFunc (w.heap.size+1)::k)::cs)):LV P Goal w (b.atR a (.code (.rangeFunc g ps as bd)::k)) cs:=by
 refine .step (stepR_rangeFunc (l:=w.heap.size+1) (mark:=[{target:=.collected w.heap.size,args:=#[]}]) (w₁:=(w.alloc (.deferred (some []))).alloc (.loop (aFe b.fn a.tmps ps as bd w.heap.size))) (w₁':=(w.alloc (.deferred (some []))).alloc (.loop (aFe b.fn a.tmps ps as bd w.heap.size))) (d:={target:=.fn (.func gf) lb,args:=#[.func (.yield (w.heap.size+1)) #[] #[]]}) ?_ ?_ ?_) h
 ·rw [hb];exact run_enterLoop_outer _ _ _ _ _
 ·simp only [resolve,hg];simp [go_sem]
 ·simp [invoke,go_sem,eg]
theorem LV.X7 {g:Operand} {ps:Array Tmp} {as bd:Code} {gf:Nat} {lb:Array Value} (hb:b.roundOf=none) (hg:a.eval g=.func (.func gf) #[] lb) (eg:∀args w,(callFunc gf args).run P w=.ok (.enter gf args) w)
 (h:∀(W':World) (rc:Loop),rc.state=.ready->rc.pending=none->rc.fn=b.fn->rc.tmps=a.tmps->rc.params=ps->rc.assign=as->rc.body=bd->W'=(w.alloc (.deferred (some []))).alloc (.loop rc)->
   LV P Goal W' (Frame.enter P gf (#[.func (.yield (w.heap.size+1)) #[] #[]]++lb) .normal)
    (b.atR {tmps:=a.tmps,defers:={target:=.collected w.heap.size,args:=#[]}::a.defers} (.inRangeFunc (w.heap.size+1)::k)::cs)):LV P Goal w (b.atR a (.code (.rangeFunc g ps as bd)::k)) cs:=
 LV.range hb hg eg (h _ _ rfl rfl rfl rfl rfl rfl rfl rfl)
theorem FJ {l:Nat} {rc:Loop} {v:Value} {t:Tmp} {w:World} (h:w.heap[l]? =some (.loop rc)) (hp:rc.params=#[t]):(Instr.yield l #[v]).run P w=.ok (.round l rc.fn (rc.tmps.setIfInBounds t v) rc.assign rc.body) w:=by
 rw [run_yield h (by rw [hp];rfl),hp];have e:(#[t]:Array Tmp).zip #[v]=#[(t,v)]:=by simp
 rw [e];simp
theorem aO (w:World) (o:Obj) (k:Nat):(w.alloc o).heap[k]? =if k=w.heap.size then some o else w.heap[k]? :=by
 by_cases h:k=w.heap.size
 ·subst h;rw [if_pos rfl];exact World.alloc_heap_new w o
 ·rw [if_neg h];unfold World.alloc;rw [Array.getElem?_push];simp [h]
theorem aJ (w:World) (l:Nat) (o:Obj) (k:Nat):(w.putObj l o).heap[k]? =if k=l/\l<w.heap.size then some o else w.heap[k]? :=by
 by_cases h:k=l
 ·subst h;by_cases hl:k<w.heap.size
  ·rw [if_pos ⟨rfl,hl⟩];exact World.putObj_heap_same hl
  ·rw [if_neg (λe=>hl e.2)];unfold World.putObj;simp [hl]
 ·rw [if_neg (λe=>h e.1)];exact World.putObj_heap_other h
theorem LV.IP {l:Nat} {r:Loop} {v:Value} (hl:w.heap[l]? =some (.loop r)) (hs:r.state≠.busy) (h:LV P Goal (w.putObj l (.loop {r with state:=.exhausted})) (b.atR a ((r.pending.map Item.code).toList++k)) cs):
 LV P Goal w ((b.atR a (.inRangeFunc l::k)).finish v) cs:=by
 rw [finish_atR_inRangeFunc];exact .step (stepR_endRangeFunc (run_endLoop hl hs)) h
theorem LV.Ia {D:Nat} {ds:List Deferred} {fr:Frame} (hm:fr.mode=.returning) (hd:fr.defers={target:=.collected D,args:=#[]}::ds) (hD:w.heap[D]? =some (.deferred (some []))) (h:LV P Goal (w.putObj D (.deferred none)) {fr with defers:=ds} cs):LV P Goal w fr cs:=by refine .step (step_lone_go ?_) h;simp [stepG,unwind,hm,hd,Sem.runT_eq,run_takeDeferred hD]
theorem LV.back {fr c:Frame} {v:Value} {fn:Func} (hm:fr.mode=.returning) (hd:fr.defers=[]) (hk:fr.kind=.normal) (hf:P.funcs[fr.fn]? =some fn) (hr:(results fn fr.tmps).run P w=.ok v w) (h:LV P Goal w (c.finish v) cs):LV P Goal w fr (c::cs):=
 .step (step_leave_returned (v:=v) ⟨hm,hd,hk,fn,hf,hr⟩) h
def fb (f:FuncId):Frame:={(default:Frame) with fn:=f,kind:=.normal,roundOf:=none}
theorem Vj {f:FuncId} {fn:Func} {c:Code} (hf:P.funcs[f]? =some fn) (hb:fn.body=some c) (args:Array Value):Frame.enter P f args .normal=(fb f).atR {tmps:=args++Array.replicate (fn.ntmps - args.size) undef,defers:=[]} [.code c]:=by simp [Frame.enter,Frame.atR,hf,hb,fb]
theorem LV.enter {f:FuncId} {fn:Func} {c:Code} {args:Array Value} (hf:P.funcs[f]? =some fn) (hb:fn.body=some c) (h:LV P Goal w ((fb f).atR {tmps:=args++Array.replicate (fn.ntmps - args.size) undef,defers:=[]} [.code c]) cs):LV P Goal w (Frame.enter P f args .normal) cs:=by rw [Vj hf hb];exact h
def Left (P:Program) (f:FuncId) (cs:List Frame) (R:Ending->World->Prop) (m:Machine):Prop:=∃v w' fr,R (.returned v) w'/\m=lone fr cs w'/\fr.fn=f/\fr.leaving P w' (.returned v)
theorem nA {f:FuncId} {args:Array Value} {R:Ending->World->Prop} (h:∀cs,LV P (Left P f cs R) w (Frame.enter P f args .normal) cs):Calls P f args w R:=by intro cs;obtain ⟨m,hs,v,w',fr,hR,rfl,hf,hl⟩:=h cs;exact ⟨.returned v,w',fr,hR,hs,hf,hl⟩
theorem LV.left {f:FuncId} {R:Ending->World->Prop} {fr:Frame} {fn:Func} {v:Value} (hm:fr.mode=.returning) (hd:fr.defers=[]) (hk:fr.kind=.normal) (Bh:fr.fn=f) (hf:P.funcs[f]? =some fn) (hr:(results fn fr.tmps).run P w=.ok v w) (h:R (.returned v) w):LV P (Left P f cs R) w fr cs:=
 ⟨_,.refl _ _,v,w,fr,h,rfl,Bh,hm,hd,hk,fn,by rw [Bh];exact hf,hr⟩
end
end Lv
end
end Go.Proofs.YtmanpggemmgnnaaGreatDoor
