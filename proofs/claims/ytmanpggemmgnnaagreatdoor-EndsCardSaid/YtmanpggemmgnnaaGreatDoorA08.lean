/- Ends: a part. Conditions: none. -/
import Derived.RangeFuncRecord
import Derived.WalkKit
import Derived.Test.YtmanpggemmgnnaaGreatDoorA90
set_option linter.all false
namespace Go.Proofs.YtmanpggemmgnnaaGreatDoor
noncomputable section
open Go Go.RowKit
def Ŷ:=@step_leave_returned
def ŵ:=@Frame.finish_atR
def Ŵ:=@step_lone_go
namespace Lv
def D(P:Program)(Goal:Machine->Prop)(w:World)(fr:Frame)(cs:List Frame):Prop:=∃m,Steps P (lone fr cs w) m/\Goal m
section
variable {P:Program}{Goal:Machine->Prop}{w U:World}{cs CC:List Frame}{b:Frame}{a:Act}{k:List Item}
def D.step{fr fr'}(h:Go.step P (lone fr cs w)=.next (lone fr' CC U))(n:D P Goal U fr' CC):D P Goal w fr cs:=by obtain⟨m,hs,hg⟩:=n;exact⟨m,.head h hs,hg⟩
def D.steps{fr fr'}(h:Steps P (lone fr cs w) (lone fr' CC U))(n:D P Goal U fr' CC):D P Goal w fr cs:=by obtain⟨m,hs,hg⟩:=n;exact⟨m,h.trans hs,hg⟩
def D.skip(h:D P Goal w (b.atR a k) cs):D P Goal w (b.atR a (.code .skip::k)) cs:=.step stepR_skip h
def D.inBlock{id}(h:D P Goal w (b.atR a k) cs):D P Goal w (b.atR a (.inBlock id::k)) cs:=.step stepR_inBlock h
def D.seq{x y}(h:D P Goal w (b.atR a (.code x::.code y::k)) cs):D P Goal w (b.atR a (.code (.seq x y)::k)) cs:=.step stepR_seq h
def D.cond{c t x y}(L:a.eval c=.bool t)(h:D P Goal w (b.atR a (.code (if t then x else y)::k)) cs):D P Goal w (b.atR a (.code (.cond c x y)::k)) cs:=.step (stepR_cond L) h
def D.block{c}{id}(h:D P Goal w (b.atR a (.code c::.inBlock id::k)) cs):D P Goal w (b.atR a (.code (.block id c)::k)) cs:=.step stepR_block h
def D.loop{c}(h:D P Goal w (b.atR a (.code c::.inLoop c::k)) cs):D P Goal w (b.atR a (.code (.loop c)::k)) cs:=.step stepR_loop h
def D.inLoop{c}(h:D P Goal w (b.atR a (.code c::.inLoop c::k)) cs):D P Goal w (b.atR a (.inLoop c::k)) cs:=.step stepR_inLoop h
def D.exit{k'}{id}(E:exitTo id k=some k')(h:D P Goal w (b.atR a k') cs):D P Goal w (b.atR a (.code (.exit id)::k)) cs:=.step (stepR_exit E) h
def D.ret(hb:b.roundOf=none)(h:D P Goal w {b.atR a (.code .ret::k)with mode:=.returning} cs):D P Goal w (b.atR a (.code .ret::k)) cs:=.step (stepR_ret hb) h
def D.fin(hb:b.roundOf=none)(h:D P Goal w {b.atR a []with mode:=.returning} cs):D P Goal w (b.atR a []) cs:=.step (stepR_end hb) h
def Qr(R:Act->World->Prop):Exit->Act->World->Prop
 | .normal,a,w=>R a w
 |_,_,_=>False
def Rf:Op->Bool
 | .defer _=>true
 |_=>false
def uC(ops:Array Oper):Bool:=ops.toList.all λo=>!Rf o.op
def aDh{ops o}(h:uC ops=true){i:Nat}(ho:ops[i]? =some o):∀c,o.op≠.defer c:=by intro c e;unfold uC at h;rw[ep]at h;have:=h o (n9.2 (iM ho));rw[e]at this;cases this
def XJ{ops R}(bz:uC ops=true)l:
 ∀a w,wpOps P ops (Qr R) l a w->∀(b:Frame) rest k cs,
  ∃a' U,R a' U/\Steps P (lone (b.atR a (.inRegion ops (l++rest)::k)) cs w) (lone (b.atR a' (.inRegion ops rest::k)) cs U):=by
 induction l with
 |nil=>exact λa w h b rest k cs=>⟨a,w,h,.refl _ _⟩
 |cons i l ih=>
  intro a w h b rest k cs;rw[cf];simp only[wpOps]at h;cases ho:ops[i]? with
  |none=>simp only[ho]at h;obtain⟨a',U,hq,jh⟩:=ih a w h b rest k cs;have hs:=stepR_op_skip (P:=P) (b:=b) (a:=a) (k:=k) (cs:=cs) (w:=w) (ops:=ops) (i:=i) (rest:=l++rest) (by simp[ho]);simp only[ho,sH,Act.put]at hs;exact⟨a',U,hq,.head hs jh⟩
  |some o=>
   simp only[ho]at h;by_cases hw:Region.wanted o (yielded ops a.tmps)=true
   ·simp only[hw,j2]at h;rcases h with h|⟨hasks,a₀,w₀,hq⟩
    case inr=>exact hq.elim
    simp only[Oper.wp,Oper.upon]at h;have hg:=stepGR_op (P:=P) (b:=b) (k:=k) (cs:=cs) (w:=w) (rest:=l++rest) ho hw;rw[Oper.semAt_eq _ _ _ (aDh bz ho)]at hg;have iN:∀v,(b.atR a (.inRegion ops (i::(l++rest))::k)).finish v=b.atR (a.put o.dst v) (.inRegion ops (l++rest)::k):=by intro v;rw[ŵ,ho];rfl
    split at h
    ·rename_i v U Y;obtain⟨a',w'',hq,jh⟩:=ih _ _ h b rest k cs;refine⟨a',w'',hq,.head (Ŵ ?_) jh⟩;rw[hg,<-iN];simp[stepG.apply,Y]
    ·rename_i U Y;obtain⟨a',w'',hq,jh⟩:=ih _ _ h b rest k cs;refine⟨a',w'',hq,.head (Ŵ ?_) jh⟩;rw[hg,<-iN];simp[stepG.apply,Y]
    ·rename_i d U Y;obtain⟨a',w'',hq,jh⟩:=ih _ _ h b rest k cs;refine⟨a',w'',hq,.head (Ŵ ?_) jh⟩;have:({b.atR a (.inRegion ops (i::(l++rest))::k)with defers:=d::a.defers}:Frame).finish undef=
      b.atR ({a with defers:=d::a.defers}.put o.dst undef) (.inRegion ops (l++rest)::k):=by
      have:=ŵ b {a with defers:=d::a.defers} ops i (l++rest) k undef;rw[ho]at this;exact this
     rw[hg];simp only[stepG.apply,Sem.runT_eq,Y,GStep.bare_after];exact dv (λfr=>GStep.go {frame:=fr,callers:=cs,status:=.running,dying:=none} U) this
    ·rename_i f args U Y;obtain⟨e,w'',fr,I,vV,_,D5⟩:=h (b.atR a (.inRegion ops (i::(l++rest))::k)::cs);have vY:step P (lone (b.atR a (.inRegion ops (i::(l++rest))::k)) cs w)=
      .next (lone (Frame.enter P f args .normal) (b.atR a (.inRegion ops (i::(l++rest))::k)::cs) U):=
      Ŵ (by rw[hg];simp[stepG.apply,Y,Frame.atR])
     cases e with
     |returned v=>obtain⟨a',w₃,hq,jh⟩:=ih _ _ I b rest k cs;refine⟨a',w₃,hq,.head vY (Steps.trans vV (.head ?_ jh))⟩;rw[<-iN];exact Ŷ D5
     |panicked chain=>exact I.elim
     |outgrown=>obtain⟨a₀,w₀,hq⟩:=I;exact hq.elim
    ·rename_i row args U Y;obtain⟨v,w'',I,vV⟩:=h (b.atR a (.inRegion ops (i::(l++rest))::k)) cs;have vY:step P (lone (b.atR a (.inRegion ops (i::(l++rest))::k)) cs w)=
      .next (lone (Frame.ofRow P row args .normal) (b.atR a (.inRegion ops (i::(l++rest))::k)::cs) U):=
      Ŵ (by rw[hg];simp[stepG.apply,Y,Frame.atR])
     obtain⟨a',w₃,hq,jh⟩:=ih _ _ I b rest k cs;refine⟨a',w₃,hq,.head vY (Steps.trans ?_ jh)⟩;rw[<-iN];exact vV
    ·exact h.elim
    ·exact h.elim
   ·simp only[hw,cz,bh]at h;obtain⟨a',U,hq,jh⟩:=ih _ _ h b rest k cs;have hs:=stepR_op_skip (P:=P) (b:=b) (a:=a) (k:=k) (cs:=cs) (w:=w) (ops:=ops) (i:=i) (rest:=l++rest)
     (by simp[ho];simpa using hw)
    simp only[ho,iw]at hs;exact⟨a',U,hq,.head hs jh⟩
def yQ{ops hn} l:∀k,(∀j,j<l.length->ops[k+j]? =l[j]?)->wpOps P ops hn (List.range' k l.length)=wpList P ops hn l:=by
 induction l with
 |nil=>intro k _;funext a w;simp[wpOps,wpList]
 |cons o l ih=>
  intro k h;have h0:ops[k]? =some o:=by simpa using h 0 (by simp)
  have ih':=ih (k+1) (λj hj=>by have:=h (j+1) (by simpa using hj);simpa [ft,oP 1 j]using this);funext a w;simp only[bt,nt,wpOps,h0,wpList,ih']
def D.reg{ops}{id}(bz:uC ops.toArray=true)(h:∀R:Act->World->Prop,(∀a' U,D P Goal U (b.atR a' k) cs->R a' U)->wpList P ops.toArray (Qr R) ops a w):D P Goal w (b.atR a (.code (.region id ops.toArray false)::k)) cs:=by
 have h:=h _ (λ_ _ h=>h);refine .step stepR_region ?_;have e:List.range ops.toArray.size=List.range' 0 ops.length:=by rw[oc];rfl
 rw[<-yQ ops 0 (λj hj=>by simp)]at h;obtain⟨a',U,I,hs⟩:=XJ bz _ _ _ h b [] k cs;rw[jb]at hs;rw[e];exact .steps hs (.step stepR_region_end I)
def D.rg{id:Nat}{ops:List Oper}{a':Act}{U:World}(n:D P Goal U (b.atR a' k) cs)(bz:uC ops.toArray=true:=by rfl)(h:∀R:Act->World->Prop,R a' U->wpList P ops.toArray (Qr R) ops a w:=by intro R I;replace I:=Lib.hid I;go_wp2_with fail;with_reducible exact I.out):D P Goal w (b.atR a (.code (.region id ops.toArray false)::k)) cs:=D.reg bz λR I=>h R (I _ _ n)
def D.pre{l r}{id}(bz:uC (l++r).toArray=true)(h:∀R:Act->World->Prop,(∀a' U,D P Goal U (b.atR a' (.inRegion (l++r).toArray (List.range' l.length r.length)::k)) cs->R a' U)->wpList P (l++r).toArray (Qr R) l a w):D P Goal w (b.atR a (.code (.region id (l++r).toArray false)::k)) cs:=by
 have h:=h _ (λ_ _ h=>h);refine .step stepR_region ?_;have e:List.range (l++r).toArray.size=List.range' 0 l.length++List.range' l.length r.length:=by rw[oc,eC,b9,<-qu,j0]
 rw[<-yQ l 0 (λj hj=>by simp[fy hj])]at h;obtain⟨a',U,I,hs⟩:=XJ bz _ _ _ h b (List.range' l.length r.length) k cs;rw[e];exact .steps hs I
def D.post{rest ops} i(Y:rest=List.range' i (ops.size - i))(bz:uC ops=true)(h:∀R:Act->World->Prop,(∀a' U,D P Goal U (b.atR a' k) cs->R a' U)->wpList P ops (Qr R) (ops.toList.drop i) a w):D P Goal w (b.atR a (.inRegion ops rest::k)) cs:=by
 have h:=h _ (λ_ _ h=>h);subst Y;rw[<-yQ (ops.toList.drop i) i (λj hj=>by rw[rB,iO])]at h;obtain⟨a',U,I,hs⟩:=XJ bz _ _ _ h b [] k cs;rw[jb]at hs;have e:(ops.toList.drop i).length=ops.size - i:=by simp
 rw[e]at hs;exact .steps hs (.step stepR_region_end I)
def D.code{R c}(hb:b.roundOf=none)(h:c.wp P (Qr R) a w)(n:∀a' U,R a' U->D P Goal U (b.atR a' k) cs):D P Goal w (b.atR a (.code c::k)) cs:=by
 obtain⟨e,a',U,hq,jh⟩:=h b k cs;cases e with
 |normal=>rw[Frame.atR_of_none hb];refine .steps jh ?_;have:=n a' U hq;rw[Frame.atR_of_none hb]at this;exact this
 |exit id=>exact hq.elim
 |ret=>exact hq.elim
 |goto l=>exact hq.elim
 |panic ch=>exact hq.elim
 |outgrown=>exact hq.elim
def D.tq{c}(hb:b.roundOf=none)(h:∀R:Act->World->Prop,(∀a' U,D P Goal U (b.atR a' k) cs->R a' U)->c.wp P (Qr R) a w):D P Goal w (b.atR a (.code c::k)) cs:=
 D.code hb (h _ (λ_ _ h=>h)) (λ_ _ h=>h)
def D.while{m c}(hR:Nat->World->Act->Prop)(h0:hR m w a)(hs:∀m w a,hR m w a->(∀m' U a',m'<m->hR m' U a'->D P Goal U (b.atR a' (.inLoop c::k)) cs)->D P Goal w (b.atR a (.code c::.inLoop c::k)) cs):
 D P Goal w (b.atR a (.code (.loop c)::k)) cs:=by
 have key:∀m w a,hR m w a->D P Goal w (b.atR a (.code c::.inLoop c::k)) cs:=by
  intro m
  induction m using Nat.strongRecOn with
  |_ m ih=>exact λw a h=>hs m w a h λm' U a' tP h'=>.inLoop (ih m' tP U a' h')
 exact .loop (key m w a h0)
def D.called{v rest}{ops:Array Oper}{i:Nat}(d:Nat)(hd:(ops[i]?).bind (·.dst)=some d)(h:D P Goal w (b.atR {tmps:=a.tmps.setIfInBounds d v,defers:=a.defers} (.inRegion ops rest::k)) cs):D P Goal w ((b.atR a (.inRegion ops (i::rest)::k)).finish v) cs:=by rw[ŵ,hd];exact h
def D.yield{ops i o tm as bd rest}{l f:Nat}(ho:ops[i]? =some o)(bz:∀c,o.op≠.defer c)(hw:Region.wanted o (yielded ops a.tmps)=true)
 (E:(execOp a.eval o).run P w=.ok (.round l f tm as bd) w) (h:D P Goal w (Frame.round l f tm as bd .normal) (b.atR a (.inRegion ops (i::rest)::k)::cs)):D P Goal w (b.atR a (.inRegion ops (i::rest)::k)) cs:=by
 refine .step (Ŵ ?_) h;rw[stepGR_op ho hw,Oper.semAt_eq _ _ _ bz];simp[stepG.apply,E]
def D.aAZ{ops i l args rest} o(ho:ops[i]? =some o)(bz:Rf o.op=false)(hw:Region.wanted o (yielded ops a.tmps)=true)
 (E:∀x,(Instr.yield l args).run P w=.ok x w->(execOp a.eval o).run P w=.ok x w) (h:∃f tm ag bd,(Instr.yield l args).run P w=.ok (.round l f tm ag bd) w/\D P Goal w (Frame.round l f tm ag bd .normal) (b.atR a (.inRegion ops (i::rest)::k)::cs)):D P Goal w (b.atR a (.inRegion ops (i::rest)::k)) cs:=by
 obtain⟨f,tm,ag,bd,hy,h⟩:=h;exact .yield ho (λc e=>by rw[e]at bz;cases bz) hw (E _ hy) h
def rb(l f:Nat):Frame:={(default:Frame)with fn:=f,kind:=.normal,roundOf:=some l}
def round_eq(l f:Nat)tm as bd:Frame.round l f tm as bd .normal=(rb l f).atR {tmps:=tm,defers:=[]} [.code as,.beginRound,.code bd]:=by simp[Frame.round,Frame.atR,rb]
def D.begin{l r f}(hl:w.heap[l]? =some (.loop r))(Y:r.state=.ready)(h:D P Goal (w.putObj l (.loop {r with state:=.busy})) ((rb l f).atR a k) cs):D P Goal w ((rb l f).atR a (.beginRound::k)) cs:=
 .step (stepR_beginRound rfl (run_beginRound hl Y)) h
def D.Db{l r f c}(hl:w.heap[l]? =some (.loop r))(h:D P Goal (w.putObj l (.loop {r with state:=.ready,pending:=none})) (c.finish (.bool true)) cs):D P Goal w ((rb l f).atR a []) (c::cs):=
 .step (stepR_round_end rfl rfl (run_endRound none hl)) h
def D.KY{l r f c}(hl:w.heap[l]? =some (.loop r))(h:D P Goal (w.putObj l (.loop {r with state:=.done,pending:=some .ret})) (c.finish (.bool false)) cs):D P Goal w ((rb l f).atR a (.code .ret::k)) (c::cs):=
 .step (stepR_round_ret rfl rfl (run_endRound (some .ret) hl)) h
def aFe(fn:Nat)(tm:Array Value)(ps:Array Tmp)(as bd:Code)(LV:Nat):Loop:={state:=.ready,pending:=none,fn,tmps:=tm,params:=ps,assign:=as,body:=bd,defers:=LV}
def D.range{g lb ps as bd}{gf:Nat}(hb:b.roundOf=none)(hg:a.eval g=.func (.func gf) #[] lb)(eg:∀args w,(callFunc gf args).run P w=.ok (.enter gf args) w)
 (h:D P Goal ((w.alloc (.deferred (some []))).alloc (.loop (aFe b.fn a.tmps ps as bd w.heap.size))) (Frame.enter P gf (#[.func (.yield (w.heap.size+1)) #[] #[]]++lb) .normal)
   (b.atR {a with defers:={target:=.collected w.heap.size,args:=#[]}::a.defers} (.inRangeFunc (w.heap.size+1)::k)::cs)):D P Goal w (b.atR a (.code (.rangeFunc g ps as bd)::k)) cs:=by
 refine .step (stepR_rangeFunc (l:=w.heap.size+1) (mark:=[{target:=.collected w.heap.size,args:=#[]}]) (w₁:=(w.alloc (.deferred (some []))).alloc (.loop (aFe b.fn a.tmps ps as bd w.heap.size))) (w₁':=(w.alloc (.deferred (some []))).alloc (.loop (aFe b.fn a.tmps ps as bd w.heap.size))) (d:={target:=.fn (.func gf) lb,args:=#[.func (.yield (w.heap.size+1)) #[] #[]]}) ?_ ?_ ?_) h
 ·rw[hb];exact run_enterLoop_outer _ _ _ _ _
 ·simp only[resolve,hg];simp[go_sem]
 ·simp[invoke,go_sem,eg]
def D.X7{g lb ps as bd}{gf:Nat}(hb:b.roundOf=none)(hg:a.eval g=.func (.func gf) #[] lb)(eg:∀args w,(callFunc gf args).run P w=.ok (.enter gf args) w)
 (h:∀W' rc,rc.state=.ready->rc.pending=none->rc.fn=b.fn->rc.tmps=a.tmps->rc.params=ps->rc.assign=as->rc.body=bd->W'=(w.alloc (.deferred (some []))).alloc (.loop rc)->
   D P Goal W' (Frame.enter P gf (#[.func (.yield (w.heap.size+1)) #[] #[]]++lb) .normal)
    (b.atR {tmps:=a.tmps,defers:={target:=.collected w.heap.size,args:=#[]}::a.defers} (.inRangeFunc (w.heap.size+1)::k)::cs)):D P Goal w (b.atR a (.code (.rangeFunc g ps as bd)::k)) cs:=
 D.range hb hg eg (h _ _ rfl rfl rfl rfl rfl rfl rfl rfl)
def FJ{l t v rc}(h:w.heap[l]? =some (.loop rc))(hp:rc.params=#[t]):(Instr.yield l #[v]).run P w=.ok (.round l rc.fn (rc.tmps.setIfInBounds t v) rc.assign rc.body) w:=by
 rw[run_yield h (by rw[hp];rfl),hp];have e:(#[t]:Array Tmp).zip #[v]=#[(t,v)]:=by simp
 rw[e];simp
def aO(w:World)o k:(w.alloc o).heap[k]? =if k=w.heap.size then some o else w.heap[k]? :=by
 by_cases h:k=w.heap.size
 ·subst h;rw[bk rfl];exact World.alloc_heap_new w o
 ·rw[aX h];unfold World.alloc;rw[cD];simp[h]
def aJ(w:World)l o k:(w.putObj l o).heap[k]? =if k=l/\l<w.heap.size then some o else w.heap[k]? :=by
 by_cases h:k=l
 ·subst h;by_cases hl:k<w.heap.size
  ·rw[bk ⟨rfl,hl⟩];exact World.putObj_heap_same hl
  ·rw[aX (λe=>hl e.2)];unfold World.putObj;simp[hl]
 ·rw[aX (λe=>h e.1)];exact World.putObj_heap_other h
def D.IP{l r v}(hl:w.heap[l]? =some (.loop r))(hs:r.state≠.busy)(h:D P Goal (w.putObj l (.loop {r with state:=.exhausted})) (b.atR a ((r.pending.map Item.code).toList++k)) cs):
 D P Goal w ((b.atR a (.inRangeFunc l::k)).finish v) cs:=by
 rw[finish_atR_inRangeFunc];exact .step (stepR_endRangeFunc (run_endLoop hl hs)) h
def D.Ia{ds LV fr}(hm:fr.mode=.returning)(hd:fr.defers={target:=.collected LV,args:=#[]}::ds)(hD:w.heap[LV]? =some (.deferred (some [])))(h:D P Goal (w.putObj LV (.deferred none)) {fr with defers:=ds} cs):D P Goal w fr cs:=by refine .step (Ŵ ?_) h;simp[stepG,unwind,hm,hd,Sem.runT_eq,run_takeDeferred hD]
def D.back{fn v fr c}(hm:fr.mode=.returning)(hd:fr.defers=[])(A:fr.kind=.normal)(hf:P.funcs[fr.fn]? =some fn)(Y:(results fn fr.tmps).run P w=.ok v w)(h:D P Goal w (c.finish v) cs):D P Goal w fr (c::cs):=
 .step (Ŷ (v:=v) ⟨hm,hd,A,fn,hf,Y⟩) h
def fb(f:FuncId):Frame:={(default:Frame)with fn:=f,kind:=.normal,roundOf:=none}
def Vj{f fn c}(hf:P.funcs[f]? =some fn)(hb:fn.body=some c)args:Frame.enter P f args .normal=(fb f).atR {tmps:=args++Array.replicate (fn.ntmps - args.size) undef,defers:=[]} [.code c]:=by simp[Frame.enter,Frame.atR,hf,hb,fb]
def D.enter{f fn c args}(hf:P.funcs[f]? =some fn)(hb:fn.body=some c)(h:D P Goal w ((fb f).atR {tmps:=args++Array.replicate (fn.ntmps - args.size) undef,defers:=[]} [.code c]) cs):D P Goal w (Frame.enter P f args .normal) cs:=by rw[Vj hf hb];exact h
def Left(P:Program)(f:FuncId)(cs:List Frame)(R:Ending->World->Prop)(m:Machine):Prop:=∃v U fr,R (.returned v) U/\m=lone fr cs U/\fr.fn=f/\fr.leaving P U (.returned v)
def nA{f R args}(h:∀cs,D P (Left P f cs R) w (Frame.enter P f args .normal) cs):Calls P f args w R:=by intro cs;obtain⟨m,hs,v,U,fr,I,rfl,hf,hl⟩:=h cs;exact⟨.returned v,U,fr,I,hs,hf,hl⟩
def D.left{f fn v R fr}(hm:fr.mode=.returning)(hd:fr.defers=[])(A:fr.kind=.normal)(AW:fr.fn=f)(hf:P.funcs[f]? =some fn)(Y:(results fn fr.tmps).run P w=.ok v w)(h:R (.returned v) w):D P (Left P f cs R) w fr cs:=
 ⟨_,.refl _ _,v,w,fr,h,rfl,AW,hm,hd,A,fn,by rw[AW];exact hf,Y⟩
end
end Lv
