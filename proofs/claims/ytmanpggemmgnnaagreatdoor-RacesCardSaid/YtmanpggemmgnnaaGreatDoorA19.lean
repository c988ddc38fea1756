/- Races: a part. Conditions: none. -/
import Derived.Test.YtmanpggemmgnnaaGreatDoorA17
import Derived.Test.YtmanpggemmgnnaaGreatDoorA18
set_option linter.all false
namespace Go.Proofs.YtmanpggemmgnnaaGreatDoor
noncomputable section
open Go Go.Conc
theorem k19 {p:Prop} (h:p:=by kernel_rfl):p:=h
namespace Co
open Kv Ka Ky
def tyC (t:TypeId):Prop:=t=79\/t=99
noncomputable abbrev Cy.cut (K:Cy) (φ:Nat):Cut:=K.Z.cut (eU Tryz.prog) tyC φ
theorem Cy.fits (K:Cy) (φ:Nat):Fits Tryz.prog uE Spq (K.cut φ):=Ru (λ_ h=>h) rfl
theorem Cy.aBE (K:Cy) (φ:Nat):Qk Tryz.prog uE Spq (K.cut φ):=aE7
def c00:Frame:={(default:Frame) with todo:=[.code (.refuse "")],defers:=[{target:=.nil,args:=#[]}],mode:=.run}
theorem JI:Base c00:=⟨rfl,rfl,rfl,rfl⟩
def WV (Post:Value->World->Prop) (K:Cy) (wv:World) (fr:Frame) (cs:List Frame):Prop:=∀w,Vw (K.cut 2) wv w->WT Tryz.prog Post K 0 (G fr cs) w
variable {Post:Value->World->Prop} {K:Cy} {wv:World} {cs:List Frame}
theorem WV.ctl (aH:K.Ok) {fr fr':Frame} {JD:List Frame} (h:∀main w,stepG Tryz.prog main (G fr cs) w=.go (G fr' JD) w #[]) (hn:WV Post K wv fr' JD):WV Post K wv fr cs:=λw hv=>
 WT.step aH rfl λw' ha _=>⟨_,w',#[],0,h _ w',zC (by simp) rfl,hn w' (dm hv ha)⟩
section aJx
variable {b:Frame} {a:Act} {k:List Item}
theorem WV.skip (aH:K.Ok) (h:WV Post K wv (b.at a k) cs):WV Post K wv (b.at a (.code .skip::k)) cs:=.ctl aH (λmain w=>by simp [G,stepG,stepG.exec,Frame.at]) h
theorem WV.inBlock (aH:K.Ok) {id:Nat} (h:WV Post K wv (b.at a k) cs):WV Post K wv (b.at a (.inBlock id::k)) cs:=.ctl aH (λmain w=>by simp [G,stepG,stepG.exec,Frame.at]) h
theorem WV.seq (aH:K.Ok) {x y:Code} (h:WV Post K wv (b.at a (.code x::.code y::k)) cs):WV Post K wv (b.at a (.code (.seq x y)::k)) cs:=.ctl aH (λmain w=>by simp [G,stepG,stepG.exec,Frame.at]) h
theorem WV.block (aH:K.Ok) {id:Nat} {c:Code} (h:WV Post K wv (b.at a (.code c::.inBlock id::k)) cs):WV Post K wv (b.at a (.code (.block id c)::k)) cs:=.ctl aH (λmain w=>by simp [G,stepG,stepG.exec,Frame.at]) h
theorem WV.loop (aH:K.Ok) {c:Code} (h:WV Post K wv (b.at a (.code c::.inLoop c::k)) cs):WV Post K wv (b.at a (.code (.loop c)::k)) cs:=.ctl aH (λmain w=>by simp [G,stepG,stepG.exec,Frame.at]) h
theorem WV.inLoop (aH:K.Ok) {c:Code} (h:WV Post K wv (b.at a (.code c::.inLoop c::k)) cs):WV Post K wv (b.at a (.inLoop c::k)) cs:=.ctl aH (λmain w=>by simp [G,stepG,stepG.exec,Frame.at]) h
theorem WV.cond (aH:K.Ok) {c:Operand} {x y:Code} {t:Bool} (hc:a.eval c=.bool t) (h:WV Post K wv (b.at a (.code (if t then x else y)::k)) cs):WV Post K wv (b.at a (.code (.cond c x y)::k)) cs:=.ctl aH (λmain w=>by
 have:=Frame.eval_at b a (.code (.cond c x y)::k) c;simp only [Frame.at] at this;simp [G,stepG,stepG.exec,Frame.at,this,hc]) h
theorem WV.exit (aH:K.Ok) {id:Nat} {k':List Item} (hx:exitTo id k=some k') (h:WV Post K wv (b.at a k') cs):WV Post K wv (b.at a (.code (.exit id)::k)) cs:=.ctl aH (λmain w=>by simp [G,stepG,stepG.exec,Frame.at,hx]) h
theorem WV.ret (aH:K.Ok) (h:WV Post K wv {b.at a (.code .ret::k) with mode:=.returning} cs):WV Post K wv (b.at a (.code .ret::k)) cs:=.ctl aH (λmain w=>by simp [G,stepG,stepG.exec,Frame.at]) h
theorem WV.region (aH:K.Ok) {id:Nat} {ops:Array Oper} (h:WV Post K wv (b.at a (.inRegion ops (List.range' 0 ops.size)::k)) cs):WV Post K wv (b.at a (.code (.region id ops false)::k)) cs:=.ctl aH (λmain w=>by
 simp [G,stepG,stepG.exec,Frame.at,List.range_eq_range']) h
theorem WV.ib (aH:K.Ok) {ops:Array Oper} (h:WV Post K wv (b.at a k) cs):WV Post K wv (b.at a (.inRegion ops []::k)) cs:=.ctl aH (λmain w=>by simp [G,stepG,stepG.exec,Frame.at]) h
end aJx
def fb (f:FuncId):Frame:={(default:Frame) with fn:=f,kind:=.normal}
theorem enter_at {f:FuncId} {fn:Func} {c:Code} (hf:Tryz.prog.funcs[f]? =some fn) (hb:fn.body=some c) (args:Array Value):Frame.enter Tryz.prog f args .normal=(fb f).at {tmps:=args++Array.replicate (fn.ntmps - args.size) undef,defers:=[]} [.code c]:=by simp [Frame.enter,Frame.at,hf,hb,fb]
theorem WV.enter {f:FuncId} {fn:Func} {c:Code} {args:Array Value} (hf:Tryz.prog.funcs[f]? =some fn) (hb:fn.body=some c) (h:WV Post K wv ((fb f).at {tmps:=args++Array.replicate (fn.ntmps - args.size) undef,defers:=[]} [.code c]) cs):WV Post K wv (Frame.enter Tryz.prog f args .normal) cs:=by rw [enter_at hf hb];exact h
theorem WV.back (aH:K.Ok) {f:FuncId} {fn:Func} {a:Act} {todo:List Item} {c:Frame} {v:Value} (hf:Tryz.prog.funcs[f]? =some fn) (hd:a.defers=[]) (hr:results fn a.tmps=pure v) (hc:jV c.mode) (h:WV Post K wv (c.finish v) cs):
 WV Post K wv {(fb f).at a todo with mode:=.returning} (c::cs):=
 .ctl aH (λmain w=>xN (k:=.normal) (fr:={(fb f).at a todo with mode:=.returning}) rfl hd rfl (.inl rfl) hf hr hc main w) h
noncomputable def DL:Item->Bool
 | .code c| .inLoop c| .inScope c=>bH Tryz.prog c
 | .inRegion ops _=>ops.all (fF Tryz.prog)
 | .inBlock _| .inRangeFunc _| .endRangeFunc _| .beginRound=>true
 | .call ..| .extern ..=>false
theorem Md {x:Item} (h:DL x=true):iL Tryz.prog false x:=by
 cases x<;>simp only [DL,iL,Bool.false_eq_true,false_implies,and_true] at h ⊢
 all_goals first|exact h|skip
 ·intro o ho;rw [Array.all_eq_true'] at h;exact h o ho
 all_goals trivial
noncomputable def jN (k:List Item):Bool:=k.all DL
theorem kept {f:FuncId} {fn:Func} (hf:Tryz.prog.funcs[f]? =some fn) (hk:keep f=true):uE[f]? =Tryz.prog.funcs[f]? /\∃fn,uE[f]? =some fn:=by rw [lN,hf];simp only [Option.map_some,qi,hk,if_true];exact ⟨trivial,_,rfl⟩
theorem aEt {f:FuncId} {a:Act} {k:List Item} (hk:jN k=true) (hd:gJ a.defers) (hq:uE[f]? =Tryz.prog.funcs[f]? /\∃fn,uE[f]? =some fn):fH Tryz.prog uE ((fb f).at a k) where
 todo x hx:=Md (List.all_eq_true.1 hk x hx)
 defers:=hd
 mode:=trivial
 kind:=.inl rfl
 fn _:=hq
 ret e:=by cases e
def Qn (R:Act->World->Prop):Exit->Act->World->Prop
 | .normal,a,w=>R a w
 |_,_,_=>False
theorem aBK {P:Program} {ops:Array Oper} {R:Act->World->Prop} (l:List Nat):
 ∀(a:Act) (w:World),wpOps P ops (Qn R) l a w->∀(b:Frame) (rest:List Nat) (k:List Item) (cs:List Frame),
  ∃a' w',R a' w'/\Steps P (lone (b.at a (.inRegion ops (l++rest)::k)) cs w) (lone (b.at a' (.inRegion ops rest::k)) cs w'):=by
 induction l with
 |nil=>exact λa w h b rest k cs=>⟨a,w,h,.refl _ _⟩
 |cons i l ih=>
  intro a w h b rest k cs;rw [List.cons_append];simp only [wpOps] at h;cases ho:ops[i]? with
  |none=>simp only [ho] at h;obtain ⟨a',w',hq,jh⟩:=ih a w h b rest k cs;have hs:=step_op_skip (P:=P) (b:=b) (a:=a) (k:=k) (cs:=cs) (w:=w) (ops:=ops) (i:=i) (rest:=l++rest) (by simp [ho]);simp only [ho,Option.bind_none,Act.put] at hs;exact ⟨a',w',hq,.head hs jh⟩
  |some o=>
   simp only [ho] at h;by_cases hw:Region.wanted o (yielded ops a.tmps)=true
   ·simp only [hw,if_true] at h;rcases h with h|⟨aK7,a₀,w₀,hq⟩
    case inr=>exact hq.elim
    simp only [Oper.wp,Oper.upon] at h;have hg:=stepG_op (P:=P) (b:=b) (k:=k) (cs:=cs) (w:=w) (rest:=l++rest) ho hw;have iN:∀v,(b.at a (.inRegion ops (i::(l++rest))::k)).finish v=b.at (a.put o.dst v) (.inRegion ops (l++rest)::k):=by intro v;rw [Frame.finish_at,ho];rfl
    split at h
    ·rename_i v w' hr;obtain ⟨a',w'',hq,jh⟩:=ih _ _ h b rest k cs;refine ⟨a',w'',hq,.head (step_lone_go ?_) jh⟩;rw [hg,<-iN];simp [stepG.apply,hr]
    ·rename_i w' hr;obtain ⟨a',w'',hq,jh⟩:=ih _ _ h b rest k cs;refine ⟨a',w'',hq,.head (step_lone_go ?_) jh⟩;rw [hg,<-iN];simp [stepG.apply,hr]
    ·rename_i d w' hr;obtain ⟨a',w'',hq,jh⟩:=ih _ _ h b rest k cs;refine ⟨a',w'',hq,.head (step_lone_go ?_) jh⟩;have:({b.at a (.inRegion ops (i::(l++rest))::k) with defers:=d::a.defers}:Frame).finish undef=
      b.at ({a with defers:=d::a.defers}.put o.dst undef) (.inRegion ops (l++rest)::k):=by
      have:=Frame.finish_at b {a with defers:=d::a.defers} ops i (l++rest) k undef;rw [ho] at this;exact this
     rw [hg];simp only [stepG.apply,Sem.runT_eq,hr,GStep.bare_after];exact congrArg (λfr=>GStep.go {frame:=fr,callers:=cs,status:=.running,dying:=none} w') this
    ·rename_i f args w' hr;obtain ⟨e,w'',fr,hR,vV,_,D5⟩:=h (b.at a (.inRegion ops (i::(l++rest))::k)::cs);have vY:step P (lone (b.at a (.inRegion ops (i::(l++rest))::k)) cs w)=
      .next (lone (Frame.enter P f args .normal) (b.at a (.inRegion ops (i::(l++rest))::k)::cs) w'):=
      step_lone_go (by rw [hg];simp [stepG.apply,hr,Frame.at])
     cases e with
     |returned v=>obtain ⟨a',w₃,hq,jh⟩:=ih _ _ hR b rest k cs;refine ⟨a',w₃,hq,.head vY (Steps.trans vV (.head ?_ jh))⟩;rw [<-iN];exact step_leave_returned D5
     |panicked chain=>exact hR.elim
     |outgrown=>obtain ⟨a₀,w₀,hq⟩:=hR;exact hq.elim
    ·rename_i row args w' hr;obtain ⟨v,w'',hR,vV⟩:=h (b.at a (.inRegion ops (i::(l++rest))::k)) cs;have vY:step P (lone (b.at a (.inRegion ops (i::(l++rest))::k)) cs w)=
      .next (lone (Frame.ofRow P row args .normal) (b.at a (.inRegion ops (i::(l++rest))::k)::cs) w'):=
      step_lone_go (by rw [hg];simp [stepG.apply,hr,Frame.at])
     obtain ⟨a',w₃,hq,jh⟩:=ih _ _ hR b rest k cs;refine ⟨a',w₃,hq,.head vY (Steps.trans ?_ jh)⟩;rw [<-iN];exact vV
    ·exact h.elim
    ·exact h.elim
   ·simp only [hw,if_false,Bool.false_eq_true] at h;obtain ⟨a',w',hq,jh⟩:=ih _ _ h b rest k cs;have hs:=step_op_skip (P:=P) (b:=b) (a:=a) (k:=k) (cs:=cs) (w:=w) (ops:=ops) (i:=i) (rest:=l++rest)
     (by simp [ho];simpa using hw)
    simp only [ho,Option.bind_some] at hs;exact ⟨a',w',hq,.head hs jh⟩
theorem H5 {P:Program} {ops:Array Oper} {Q:Exit->Act->World->Prop} (l:List Oper):∀k,(∀j,j<l.length->ops[k+j]? =l[j]?)->wpOps P ops Q (List.range' k l.length)=wpList P ops Q l:=by
 induction l with
 |nil=>intro k _;funext a w;simp [wpOps,wpList]
 |cons o l ih=>
  intro k h;have h0:ops[k]? =some o:=by simpa using h 0 (by simp)
  have ih':=ih (k+1) (λj hj=>by have:=h (j+1) (by simpa using hj);simpa [Nat.add_assoc,Nat.add_comm 1 j] using this);funext a w;simp only [List.length_cons,List.range'_succ,wpOps,h0,wpList,ih']
theorem WV.seg (aH:K.Ok) (bY:K.Z.Wf) {f:FuncId} {a:Act} {ops:Array Oper} {k:List Item} (l:List Oper) (i n:Nat) (hq:uE[f]? =Tryz.prog.funcs[f]? /\∃fn,uE[f]? =some fn) (hd:gJ a.defers) (hl:∀j,j<l.length->ops[i+j]? =l[j]?) (hk:jN (.inRegion ops []::k)=true)
 (R:Act->World->Prop) (hR:∀a w τ d,R a (re w τ d)->R a w) (hw:∀τ d,wpList Tq.prog ops (Qn R) l a (re wv τ d)) (hn:∀a' wv',R a' wv'->WV Post K wv' ((fb f).at a' (.inRegion ops (List.range' (i+l.length) n)::k)) cs):
 WV Post K wv ((fb f).at a (.inRegion ops (List.range' i (l.length+n))::k)) cs:=λw hv=>by
 have e:List.range' i (l.length+n)=List.range' i l.length++List.range' (i+l.length) n:=by rw [List.range'_append_1]
 have lh:jN (.inRegion ops (List.range' i l.length++List.range' (i+l.length) n)::k)=true:=hk;rw [e];have S:kJ Tryz.prog (K.cut 2) (K.h==0) cs (λfr w'=>∃a',R a' w'/\fr=(fb f).at a' (.inRegion ops (List.range' (i+l.length) n)::k)) ((fb f).at a (.inRegion ops (List.range' i l.length++List.range' (i+l.length) n)::k)) [] wv 0:=by
  refine nW (K.fits 2) JI (K.aBE 2) (aEt lh hd hq) (λτ d=>?_) (λfr w τ d=>?_)
  ·have h1:=hw τ d;rw [<-H5 l i hl] at h1;obtain ⟨a',w',r,N,hN⟩:=aBK _ _ _ h1 (fb f) (List.range' (i+l.length) n) k [c00];exact ⟨N,_,w',⟨a',r,rfl⟩,hN⟩
  ·rintro ⟨a',r,rfl⟩;exact ⟨a',hR _ _ _ _ r,rfl⟩
 exact WT.sim (csl:=[]) aH bY S (λfr' wv' w' ⟨a',r,e⟩ iM=>by rw [e];exact hn a' wv' r w' iM) hv
theorem WV.code (aH:K.Ok) (bY:K.Z.Wf) {f:FuncId} {a:Act} {c:Code} {k:List Item} (Q:Exit->Act->World->Prop) (hq:uE[f]? =Tryz.prog.funcs[f]? /\∃fn,uE[f]? =some fn) (hd:gJ a.defers) (hk:jN (.code c::k)=true)
 (hQ:∀e a w τ d,Q e a (re w τ d)->Q e a w) (hw:∀τ d,c.wp Tq.prog Q a (re wv τ d)) (ho:∀a w,¬Q .outgrown a w) (hp:∀ch a w,¬Q (.panic ch) a w) (hg:∀l a w,¬Q (.goto l) a w)
 (hn:∀a' wv',Q .normal a' wv'->WV Post K wv' ((fb f).at a' k) cs) (hx:∀id a' wv',Q (.exit id) a' wv'->∃k',exitTo id k=some k'/\WV Post K wv' ((fb f).at a' k') cs)
 (hr:∀a' wv' todo,Q .ret a' wv'->WV Post K wv' {(fb f).at a' todo with mode:=.returning} cs):WV Post K wv ((fb f).at a (.code c::k)) cs:=λw hv=>by
 have S:kJ Tryz.prog (K.cut 2) (K.h==0) cs (λfr w'=>(∃a',Q .normal a' w'/\fr=(fb f).at a' k)\/(∃id a' k',Q (.exit id) a' w'/\exitTo id k=some k'/\fr=(fb f).at a' k')\/∃a' todo,Q .ret a' w'/\fr={(fb f).at a' todo with mode:=.returning}) ((fb f).at a (.code c::k)) [] wv 0:=by
  refine nW (K.fits 2) JI (K.aBE 2) (aEt hk hd hq) (λτ d=>?_) (λfr w τ d=>?_)
  ·obtain ⟨e,a',w',UW,jh⟩:=hw τ d (fb f) k [c00];cases e with
   |normal=>obtain ⟨N,hN⟩:=jh;exact ⟨N,_,w',.inl ⟨a',UW,rfl⟩,hN⟩
   |exit id=>obtain ⟨k',lh,_⟩:=hx id a' w' UW;obtain ⟨N,hN⟩:=jh k' lh;exact ⟨N,_,w',.inr (.inl ⟨id,a',k',UW,lh,rfl⟩),hN⟩
   |ret=>obtain ⟨todo,N,hN⟩:=jh;exact ⟨N,_,w',.inr (.inr ⟨a',todo,UW,rfl⟩),hN⟩
   |goto l=>exact (hg _ _ _ UW).elim
   |panic ch=>exact (hp _ _ _ UW).elim
   |outgrown=>exact (ho _ _ UW).elim
  ·rintro (⟨a',r,e⟩|⟨id,a',k',r,e1,e2⟩|⟨a',todo,r,e⟩)
   ·exact .inl ⟨a',hQ _ _ _ _ _ r,e⟩
   ·exact .inr (.inl ⟨id,a',k',hQ _ _ _ _ _ r,e1,e2⟩)
   ·exact .inr (.inr ⟨a',todo,hQ _ _ _ _ _ r,e⟩)
 refine WT.sim (csl:=[]) aH bY S (λfr' wv' w' h iM=>?_) hv;rcases h with ⟨a',r,e⟩|⟨id,a',k',r,e1,e2⟩|⟨a',todo,r,e⟩
 ·rw [e];exact hn a' wv' r w' iM
 ·obtain ⟨k2,Zp,hW⟩:=hx id a' wv' r;rw [e1] at Zp;obtain rfl:=Option.some.inj Zp;rw [e2];exact hW w' iM
 ·rw [e];exact hr a' wv' todo r w' iM
theorem KL {P:Program} {b:Frame} {a:Act} {ops:Array Oper} {k:List Item} {cs:List Frame} {i:Nat} {rest:List Nat} {o:Oper} (ho:ops[i]? =some o) (hw:Region.wanted o (yielded ops a.tmps)=true) (main:Bool) (w:World):
 stepG P main (G (b.at a (.inRegion ops (i::rest)::k)) cs) w=stepG.apply P true (b.at a (.inRegion ops (i::rest)::k)) cs none (execOp a.eval o) w:=by
 have he:=Frame.eval_at' b a (.inRegion ops (i::rest)::k);simp only [Frame.at] at he;simp [G,stepG,stepG.exec,stepG.oper,Frame.oper?,Frame.at,ho,hw,he]
theorem WV.call (aH:K.Ok) {b:Frame} {a:Act} {ops:Array Oper} {i n:Nat} {k:List Item} {o:Oper} {f:FuncId} {args:Array Value} (hb:b.kind=.normal) (ho:ops[i]? =some o) (hw:Region.wanted o (yielded ops a.tmps)=true) (hx:∀w,(execOp a.eval o).runT Tryz.prog w #[]=(.ok (.enter f args) w,#[]))
 (hn:WV Post K wv (Frame.enter Tryz.prog f args .normal) (b.at a (.inRegion ops (List.range' i (n+1))::k)::cs)):WV Post K wv (b.at a (.inRegion ops (List.range' i (n+1))::k)) cs:=by
 refine .ctl aH (λmain w=>?_) hn;rw [List.range'_succ,KL ho hw main w];unfold stepG.apply;have hk:((b.at a (.inRegion ops (i::List.range' (i+1) n)::k)).kind==CallKind.early)=false:=by show (b.kind==CallKind.early)=false;rw [hb];rfl
 rw [if_pos rfl,hx w];simp only [hk];rfl
theorem WV.called {b:Frame} {a:Act} {ops:Array Oper} {i n:Nat} {k:List Item} {o:Oper} {v:Value} (ho:ops[i]? =some o) (h:WV Post K wv (b.at (a.put o.dst v) (.inRegion ops (List.range' (i+1) n)::k)) cs):
 WV Post K wv ((b.at a (.inRegion ops (List.range' i (n+1))::k)).finish v) cs:=by
 rw [List.range'_succ,Frame.finish_at,ho];exact h
theorem WV.aDx (aH:K.Ok) (bY:K.Z.Wf) {f:FuncId} {args:Array Value} {fr:Frame} {fn:Func} {c:Code} (hf:Tryz.prog.funcs[f]? =some fn) (hk:keep f=true) (hb:fn.body=some c) (iO:∀r∈fn.results,∃t,r=.tmp t)
 (Q:Value->World->Prop) (hQ:∀v w τ d,Q v (re w τ d)->Q v w) (ve:∀τ d,Calls Tq.prog f args (re wv τ d) λe w'=>∃v,e=.returned v/\Q v w')
 (hn:∀v wv',Q v wv'->WV Post K wv' (fr.finish v) cs):WV Post K wv (Frame.enter Tryz.prog f args .normal) (fr::cs):=λw hv=>by
 obtain ⟨k1,Vh,k2⟩:=kept hf hk;have:Vh=fn:=by rw [k1,hf] at k2;exact (Option.some.inj k2).symm
 subst this;have S:kJ Tryz.prog (K.cut 2) (K.h==0) cs (λfr' w'=>∃v,Q v w'/\fr'=fr.finish v) (Frame.enter Tryz.prog f args .normal) [fr] wv 0:=
  TG (K.fits 2) JI (K.aBE 2) k1 k2 hb iO Q hQ ve (λv wv' h=>.stop ⟨v,h,rfl⟩)
 exact WT.sim (csl:=[fr]) aH bY S (λfr' wv' w' ⟨v,r,e⟩ iM=>by rw [e];exact hn v wv' r w' iM) hv
theorem WV.unit (aH:K.Ok) (bY:K.Z.Wf) {f:FuncId} {args:Array Value} {fr:Frame} {fn:Func} {c:Code} (hf:Tryz.prog.funcs[f]? =some fn) (hk:keep f=true) (hb:fn.body=some c) (iO:∀r∈fn.results,∃t,r=.tmp t)
 (Q:Value->World->Prop) (hQ:∀v w τ d,Q v (re w τ d)->Q v w) (PK:∀τ d,Calls Tq.prog f args (re (K.Z.rc 0 wv) τ d) λe w'=>∃v,e=.returned v/\Q v w') (PI:∀τ d,Calls Tq.prog f args (re (K.Z.rc 1 wv) τ d) λe _=>∃v,e=.returned v/\True)
 (hn:∀v wv',Q v wv'->WV Post K (K.Z.rc 2 wv') (fr.finish v) cs):WV Post K wv (Frame.enter Tryz.prog f args .normal) (fr::cs):=λw hv=>by
 obtain ⟨k1,Vh,k2⟩:=kept hf hk;have:Vh=fn:=by rw [k1,hf] at k2;exact (Option.some.inj k2).symm
 subst this;exact WT.unit aH bY K.fits JI K.aBE k1 k2 hb iO Q hQ PK PI (λv wv' w' r iM=>hn v wv' r w' (Wn iM)) hv
end Co
section
open Go.ConcN (upd upd_ne upd_same)
namespace Co
open Ka Kv Ky
section
variable {Post:Value->World->Prop} {K:Cy} {wv:World} {cs:List Frame} {Stop:Frame->World->Prop}
theorem XF (φ:Nat) {main:Bool} {f:FuncId} {a:Act} {ops:Array Oper} {i:Nat} {rest:List Nat} {k:List Item} {o:Oper} (ho:ops[i]? =some o) (hw:Region.wanted o (yielded ops a.tmps)=true) (Zx:fF Tryz.prog o=true) (R:Value->World->Prop) (hR:∀v w τ d,R v (re w τ d)->R v w)
 (bJ:∀τ d,∃n v w',(execOp a.eval o).run Tq.prog (re wv τ d)=.ok n w'/\(n=.value v\/(n=.skip/\v=undef))/\R v w') (hn:∀v w',R v w'->kJ Tryz.prog (K.cut φ) main cs Stop ((fb f).at (a.put o.dst v) (.inRegion ops rest::k)) [] w' 0):
 kJ Tryz.prog (K.cut φ) main cs Stop ((fb f).at a (.inRegion ops (i::rest)::k)) [] wv 0:=by
 refine kJ.of Tryz.prog (K.cut φ) main cs Stop λwa hv=>?_;obtain ⟨kk,τ,r,h1,h2⟩:=KC (K.fits φ).toGood (K.fits φ).Yx a.eval o Zx wv wa hv;obtain ⟨n,v,wr,e,hnv,hr⟩:=bJ τ 0;have h1:=h1 τ 0 (λi q _=>by rw [Nat.zero_add]);have e1:JW r τ (0+kk)=.ok n wr:=h1.symm.trans e;cases r with
 |halt x w1=>cases e1
 |ok b w1=>
  simp only [JW] at e1;injection e1 with eb ew;subst eb;obtain ⟨_,bO,es,hrt,VI,aPj,oU⟩:=h2;have aOC:=hrt #[];refine ⟨(fb f).at (a.put o.dst v) (.inRegion ops rest::k),[],w1,bO,seen Tryz.prog f es,?_,⟨VI,aPj,λe he=>oU e (mem_seen he)⟩,hn v w1 (hR v w1 τ (0+kk) (ew▸hr))⟩;have hf:((fb f).at a (.inRegion ops (i::rest)::k)).finish v=(fb f).at (a.put o.dst v) (.inRegion ops rest::k):=by rw [Frame.finish_at,ho];rfl
  have e2:(#[]:Array Event)++es=es:=by simp
  show stepG Tryz.prog main (G ((fb f).at a (.inRegion ops (i::rest)::k)) cs) wa=_;rw [KL ho hw,tH _ rfl,aOC,e2];rcases hnv with rfl|⟨rfl,rfl⟩
  ·simp only [Ka.kept,mM,Df];unfold stepG.apply;simp only [Sem.runT,if_true,eP,eB,hf];simp [GStep.after,Frame.at,fb,G,eP]
  ·simp only [Ka.kept,mM,Df];unfold stepG.apply;simp only [Sem.runT,if_true,eP,eB,hf];simp [GStep.after,Frame.at,fb,G,eP]
def Fo (F:List Nat) (K:Cy) (w:World):Prop:=∀c∈F,opn w c/\K.Z.ic c/\¬K.Z.rW c
theorem Fo.aside {F:List Nat} {w w':World} (h:Fo F K w) (ha:aQ K.Z w w'):Fo F K w':=λc hc=>by
 obtain ⟨⟨m,hm⟩,h2,h3⟩:=h c hc;refine ⟨?_,h2,h3⟩;obtain ⟨d,hp,rfl,_,vX⟩:=ha;rcases vX c with e|⟨e,_⟩|⟨_,c1,c2,t,fr,e,_⟩
 ·exact ⟨m,e.trans hm⟩
 ·exact (h3 e).elim
 ·rw [show (w.at d).heap[c]? =w.heap[c]? from rfl,hm] at e;cases e
theorem Fo.hid {F:List Nat} {φ:Nat} {w w':World} (h:Fo F K w) (hh:Hid (K.cut φ) w w'):Fo F K w':=λc hc=>by
 obtain ⟨⟨m,hm⟩,h2,h3⟩:=h c hc;exact ⟨⟨m,(hh.chans c (iU.2 h2) (Array.getElem?_eq_some_iff.1 hm).1).trans hm⟩,h2,h3⟩
def WO (F:List Nat) (Post:Value->World->Prop) (K:Cy) (wv:World) (fr:Frame) (cs:List Frame):Prop:=∀w,Vw (K.cut 2) wv w->Fo F K w->WT Tryz.prog Post K 0 (G fr cs) w
variable {F:List Nat}
theorem WO.sim (aH:K.Ok) (bY:K.Z.Wf) {fr:Frame} {csl:List Frame} {d:Nat} (H:kJ Tryz.prog (K.cut 2) (K.h==0) cs Stop fr csl wv d) (hn:∀fr' wv',Stop fr' wv'->WO F Post K wv' fr' cs):∀w,Vw (K.cut 2) wv w->Fo F K w->WT Tryz.prog Post K d (G fr (csl++cs)) w:=by
 induction H with
 |stop h=>exact λw hv hf=>hn _ _ h w hv hf
 |step n h ih0 ih=>intro w hv hf;refine WT.step aH rfl λw' ha _=>?_;have iM:=dm hv ha;obtain ⟨bO,es,e,R⟩:=h w' iM;exact ⟨_,bO,es,_,e,Rk bY iM R,ih w' iM bO R.1 ((hf.aside ha).hid R.2.1)⟩
theorem WV.ofO {fr:Frame} (h:WO [] Post K wv fr cs):WV Post K wv fr cs:=λw hv=>h w hv (λ_ hc=>by cases hc)
theorem WO.oper (aH:K.Ok) (bY:K.Z.Wf) {f:FuncId} {a:Act} {ops:Array Oper} {i:Nat} {rest:List Nat} {k:List Item} {o:Oper} (ho:ops[i]? =some o) (hw:Region.wanted o (yielded ops a.tmps)=true) (Zx:fF Tryz.prog o=true) (R:Value->World->Prop) (hR:∀v w τ d,R v (re w τ d)->R v w)
 (bJ:∀τ d,∃n v w',(execOp a.eval o).run Tq.prog (re wv τ d)=.ok n w'/\(n=.value v\/(n=.skip/\v=undef))/\R v w') (hn:∀v w',R v w'->WO F Post K w' ((fb f).at (a.put o.dst v) (.inRegion ops rest::k)) cs):
 WO F Post K wv ((fb f).at a (.inRegion ops (i::rest)::k)) cs:=
 WO.sim (csl:=[]) (Stop:=λfr' w'=>∃v,R v w'/\fr'=(fb f).at (a.put o.dst v) (.inRegion ops rest::k)) aH bY (XF 2 ho hw Zx R hR bJ λv w' h=>.stop ⟨v,h,rfl⟩) λfr' w' ⟨v,h,e⟩=>e▸hn v w' h
theorem Dh {w:World} {o o':Obj} {r:Nat} (h:w.heap[r]? =some o):({w with heap:=w.heap.push o'}:World).heap[r]? =some o:=by have:=(Array.getElem?_eq_some_iff.1 h).1;show (w.heap.push o')[r]? =_;rw [Array.getElem?_push,if_neg (by omega)];exact h
theorem xS {w:World} {o':Obj} {r:Nat} (h:r<w.heap.size):({w with heap:=w.heap.push o'}:World).heap[r]? =w.heap[r]? :=by show (w.heap.push o')[r]? =_;rw [Array.getElem?_push,if_neg (by omega)]
theorem UY {Z:Gh} {h d:Nat} {w:World} (o:Obj) (hK:Z.K w):JP Z Z.ic h d d w {w with heap:=w.heap.push o} #[]:=by
 have fT:∀{r:Nat} {x:TypeId×Nat},w.shape? r=some x->r<w.heap.size:=λ{r x} h=>by
  unfold World.shape? at h;split at h
  ·rename_i e;exact (Array.getElem?_eq_some_iff.1 e).1
  ·cases h
 have hc:∀a:Addr,a.block<w.heap.size->({w with heap:=w.heap.push o}:World).cell? a=w.cell? a/\({w with heap:=w.heap.push o}:World).frozen? a=w.frozen? a:=λa h=>by
  unfold World.cell? World.frozen?;rw [xS h];exact ⟨rfl,rfl⟩
 have hs:∀{r:Nat} {x:TypeId×Nat},w.shape? r=some x->({w with heap:=w.heap.push o}:World).shape? r=some x:=λ{r x} h=>by
  have:=fT h;unfold World.shape? at h ⊢;rw [xS this];exact h
 have hb:∀{a:Addr} {v:Value},w.cell? a=some v->({w with heap:=w.heap.push o}:World).cell? a=some v:=λ{a v} h=>(hc a (World.block_lt_of_cell? w a h)).1.trans h;refine ⟨λ_=>⟨λg k hk=>?_,λs yO=>⟨hs (hK.2 s yO).1,λhn=>hb ((hK.2 s yO).2 hn)⟩⟩,λs yO=>?_,λc k _ e=>Dh e,λe he=>by simp at he,rfl⟩
 ·obtain ⟨k1,k2,k3,k4⟩:=hK.1 g k hk;exact ⟨hb k1,hb k2,hb k3,hs k4⟩
 ·have h1:=fT (hK.2 s yO).1;exact ⟨hc (dE s) h1,hc (iD s) h1⟩
theorem WO.chan (aH:K.Ok) {fr:Frame} {fr':Nat->Frame} (hs:∀main (w:World),stepG Tryz.prog main (G fr cs) w=.go (G (fr' w.heap.size) cs) {w with heap:=w.heap.push (.chan 0 #[] false 0 0 false)} #[])
 (Mw:K.Z.lq wv.heap.size=none) (hn:¬K.Z.ic wv.heap.size->WO (wv.heap.size::F) Post {K with Z:=K.Z.gL wv.heap.size} {wv with heap:=wv.heap.push gone} (fr' wv.heap.size) cs):WO F Post K wv fr cs:=λw hv hf=>by
 refine WT.gL wv.heap.size ?_;have Be:({K with Z:=K.Z.gL wv.heap.size}:Cy).Ok:=⟨aH.low,aH.wk,aH.mn,aH.pos,aH.lt,aH.bn,aH.cl,aH.hb,aH.bP⟩
 refine WT.step Be rfl λw' ha hK=>?_;have uz:aQ K.Z w w':=ha;have iM:=dm hv uz;have NM:=hf.aside uz;have bW:wv.heap.size=w'.heap.size:=iM.size;refine ⟨_,_,#[],0,hs _ w',UY _ hK,?_⟩;rw [<-bW];have iw:¬K.Z.ic wv.heap.size:=λe=>by have:=zW iM (.inr (.inr e));omega
 refine hn iw _ ?_ ?_
 ·have:=Wo iM (o:=.chan 0 #[] false 0 0 false) rfl (by rw [<-bW];exact Mw);rw [<-bW] at this;exact this
 ·intro c hc;rcases List.mem_cons.1 hc with rfl|hc
  ·refine ⟨⟨0,?_⟩,.inl (.inr rfl),λe=>iw (.inr e)⟩;show (w'.heap.push _)[wv.heap.size]? =_;rw [bW,Array.getElem?_push,if_pos rfl]
  ·obtain ⟨⟨m,hm⟩,h2,h3⟩:=NM c hc;refine ⟨⟨m,Dh hm⟩,?_,h3⟩;rcases h2 with h2|h2
   ·exact .inl (.inl h2)
   ·exact .inr h2
end
end Co
end
namespace Co
open Ka Kv Ky
noncomputable def Gq (s:Nat):Frame:=Frame.enter Tryz.prog 23 #[fK s] .normal
noncomputable def Gp (s:Nat):Frame:=(bu Tryz.prog 10 (Gq s) [] []).headD default
noncomputable def Yn (s:Nat):Frame:=aR Tryz.prog 14 ((Gp s).finish (.tuple #[])) [] []
noncomputable def Ah (s:Nat):Frame:=aR Tryz.prog 1 (Yn s) [] [.val (.bool false)]
noncomputable def oTd:List Item:=(aR Tryz.prog 12 (Ah 0) [] [.val (.slice none 0 0)]).todo
noncomputable def Dq:Array Oper:=match oTd with
 | .code (.region _ ops _)::_=>ops
 |_=>#[]
noncomputable def oK:List Item:=oTd.tail
def oD (s:Nat):List Deferred:=[{target:=.fn (.func 39) #[],args:=#[fK s]}]
def oA (s:Nat) (f:Nat->Value):Act:={tmps:=⟨(List.range 57).map λi=>if i=0 then fK s else f i⟩,defers:=oD s}
def bQ (f:Nat->Value) (d:Nat) (v:Value) (j:Nat):Value:=if j=d then v else f j
theorem xJ {f:Nat->Value} {d:Nat} {v:Value}:bQ f d v d=v:=by simp [bQ]
theorem Bu {f:Nat->Value} {d j:Nat} {v:Value} (h:j≠d):bQ f d v j=f j:=by simp [bQ,h]
theorem dG {f:Nat->Value} {d:Nat} {v:Value} (h:f d=v):bQ f d v=f:=by
 funext j;unfold bQ;split
 ·rename_i e;rw [e,h]
 ·rfl
def sl (p:Option Addr) (n cap:Nat):Value:=.slice p n cap
noncomputable def oF4 (s:Nat) (p:Option Addr) (n cap:Nat) (i:Nat):Value:=(aR Tryz.prog 12 (Ah s) [] [.val (sl p n cap)]).tmps.getD i undef
theorem Ur (s:Nat):bV (Ky.walk Tryz.prog 10 (Gq s) [] [])=true/\aR Tryz.prog 10 (Gq s) [] []=Frame.enter Tryz.prog 38 #[fK s] .normal/\bu Tryz.prog 10 (Gq s) [] []=[Gp s]/\thin (bM Tryz.prog 10 (Gq s) [] [])=[]/\(Gp s).mode=.run:=
 ⟨k19,k19,k19,k19,k19⟩
theorem Uq (s:Nat):bV (Ky.walk Tryz.prog 14 ((Gp s).finish (.tuple #[])) [] [])=true/\bu Tryz.prog 14 ((Gp s).finish (.tuple #[])) [] []=[]/\thin (bM Tryz.prog 14 ((Gp s).finish (.tuple #[])) [] [])=[]:=
 ⟨k19,k19,k19⟩
theorem Uo (s:Nat):Ky.walk Tryz.prog 1 (Yn s) [] [.val (.bool false)]=some (Ah s,[],[],[(23,[.ld .plain ⟨s,7,none⟩ (.bool false)])]):=k19
theorem Un (s:Nat) (p:Option Addr) (n cap:Nat) (h:n<8):bV (Ky.walk Tryz.prog 12 (Ah s) [] [.val (sl p n cap)])=true/\aR Tryz.prog 12 (Ah s) [] [.val (sl p n cap)]=(fb 23).at (oA s (oF4 s p n cap)) (.code (.region 5 Dq true)::oK)/\bu Tryz.prog 12 (Ah s) [] [.val (sl p n cap)]=[]/\thin (bM Tryz.prog 12 (Ah s) [] [.val (sl p n cap)])=[(23,[.ld .plain ⟨s,4,none⟩ (sl p n cap)])]:=by
 match n,h with
 |0,_=>exact ⟨k19,k19,k19,k19⟩
 |1,_=>exact ⟨k19,k19,k19,k19⟩
 |2,_=>exact ⟨k19,k19,k19,k19⟩
 |3,_=>exact ⟨k19,k19,k19,k19⟩
 |4,_=>exact ⟨k19,k19,k19,k19⟩
 |5,_=>exact ⟨k19,k19,k19,k19⟩
 |6,_=>exact ⟨k19,k19,k19,k19⟩
 |7,_=>exact ⟨k19,k19,k19,k19⟩
 |n+8,h=>omega
noncomputable def oR (s:Nat) (f:Nat->Value) (l:List Nat):Frame:=(fb 23).at (oA s f) (.inRegion Dq l::oK)
def One (s:Nat) (f:Nat->Value) (i:Nat) (l:List Nat) (an:List An) (d:Nat) (v:Value) (io:List Io):Prop:=Ky.walk Tryz.prog 1 (oR s f (i::l)) [] an=some (oR s (bQ f d v) l,[],[],[(23,io)])
variable (s:Nat) (f:Nat->Value) (l:List Nat) (n cap o a r:Nat) (p:Option Addr)
def f4V (s:Nat):Value:=.pointer (some ⟨s,4,none⟩)
def cnC (s n o a:Nat):Array Value:=#[.int .i64 n,fK s,.string ⟨#[]⟩,.string ⟨#[]⟩,.bool false,.bool false,.bool false,.slice none 0 0,.slice none 0 0,.chan (some o),.chan (some a),.bool false,.string ⟨#[]⟩,.bool false,.nilFunc,.slice none 0 0]
theorem aNw:One s f 0 l [] 23 (fK s) []:=by unfold One;kernel_rfl
theorem aNv:One s (bQ f 23 (fK s)) 1 l [] 24 (fK s) []:=by unfold One;kernel_rfl
theorem aNu:One s (bQ f 24 (fK s)) 2 l [] 25 (f4V s) []:=by unfold One;kernel_rfl
theorem aNt:One s (bQ f 25 (f4V s)) 3 l [.val (sl p n cap)] 26 (sl p n cap) [.ld .plain ⟨s,4,none⟩ (sl p n cap)]:=by unfold One;kernel_rfl
theorem aNs:One s (bQ f 26 (sl p n cap)) 4 l [] 27 (.int .i64 n) []:=by unfold One;kernel_rfl
theorem aNr:One s f 5 l [] 28 (fK s) []:=by unfold One;kernel_rfl
theorem aNq:One s f 6 l [.adr o] 29 (.chan (some o)) [.nw (.chan 0 #[] false 0 0 false) o]:=by unfold One;kernel_rfl
theorem aNp:One s f 7 l [.adr o] 30 (.chan (some o)) [.nw (.chan 0 #[] false 0 0 false) o]:=by unfold One;kernel_rfl
theorem aNo:One s (bQ (bQ (bQ (bQ f 27 (.int .i64 n)) 28 (fK s)) 29 (.chan (some o))) 30 (.chan (some a))) 8 l [] 31 (.agg (cnC s n o a)) []:=by unfold One;kernel_rfl
theorem aNn:One s (bQ f 31 (.agg (cnC s n o a))) 9 l [.adr r] 32 (fK r) [.nw (.cells (cnC s n o a) 99 (0,0)) r]:=by unfold One;kernel_rfl
theorem aJr:One s (bQ f 32 (fK r)) 10 l [] 3 (fK r) []:=by unfold One;kernel_rfl
end Co
