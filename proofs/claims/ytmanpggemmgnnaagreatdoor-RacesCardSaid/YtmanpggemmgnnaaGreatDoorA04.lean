/- Races: a part. Conditions: none. -/
import Derived.Conc.Listed
import Derived.Test.YtmanpggemmgnnaaGreatDoorA03
set_option linter.all false
set_option maxHeartbeats 8000000
set_option maxRecDepth 1000000
namespace Go.Proofs.YtmanpggemmgnnaaGreatDoor
noncomputable section
open Go Go.Conc
namespace Ka
def bH (P:Program):Code->Bool
 | .region _ ops _=>ops.all (fF P)
 | .seq a b| .cond _ a b=>bH P a&&bH P b
 | .rangeFunc _ _ a b=>bH P a&&bH P b&&fu a&&fu b
 | .block _ c| .loop c| .scope c=>bH P c
 |_=>true
def eU (P:Program) (c:Code):Prop:=bH P c=true/\fu c=true
section
variable (P:Program) (fs:Array Func) (Sp:FuncId->Prop) (C:Cut)
def iL (r:Bool):Item->Prop
 | .code c| .inLoop c| .inScope c=>bH P c=true/\(r=true->fu c=true)
 | .inRegion ops _=>(∀o∈ops,fF P o=true)/\(r=true->∀o∈ops,∀c,o.op≠.defer c)
 | .inBlock _| .inRangeFunc _| .endRangeFunc _| .beginRound=>True
 | .call ..| .extern ..=>False
def jV:FrameMode->Prop
 | .panicking ch=>∀e∈ch,e.recovered=false
 |_=>True
structure fH (fr:Frame):Prop where
 todo:∀x∈fr.todo,iL P fr.roundOf.isSome x
 defers:gJ fr.defers
 mode:jV fr.mode
 kind:fr.kind=.normal\/fr.kind=.deferred
 fn:fr.roundOf=none->fs[fr.fn]? =P.funcs[fr.fn]? /\∃f,fs[fr.fn]? =some f
 ret:fr.mode=.returning->fr.roundOf=none
structure Fits:Prop extends Good P fs Sp C where
 Yx:∀(f:FuncId) (fn:Func),fs[f]? =some fn->(fn.name== "runtime.NumGoroutine")=false
 code:∀(f:FuncId) (fn:Func) (c:Code),fs[f]? =some fn->fn.body=some c->bH P c=true
 loops:C.N=eU P
 ahead:P.follows .staticDataAhead=true
 steps:∀g,(Pf P fs).stepOf g=none
end
inductive Out where
 |dead
 |low
 |sp (f:FuncId) (args:Array Value) (k:CallKind) (fr:Frame) (csl:List Frame) (wv:World)
 |go (fr:Frame) (csl:List Frame) (wv:World)
section
variable (P:Program) (fs:Array Func) (Sp:FuncId->Prop) (C:Cut) (c0:Frame) (cs:List Frame)
structure Base (c0:Frame):Prop where
 todo:c0.todo=[.code (.refuse "")]
 defers:c0.defers=[{target:=.nil,args:=#[]}]
 mode:c0.mode=.run
 round:c0.roundOf=none
def aJG (g:Goroutine):Prop:=∃fr,g=G fr []/\(fr=c0\/∃ch,fr={c0 with mode:=.panicking ch})
def uu (τ:Nat->Question->Nat) (d:Nat) (s:GStep):Out->Prop
 | .dead=>∃o w es,s=.ended o w es
 | .low=>∃g w es,s=.go g w es/\aJG c0 g
 | .sp f args k fr csl wv=>∃es,s=.go (G (Frame.enter (Pf P fs) f args k) (fr::csl++[c0])) (re wv τ d) es
 | .go fr csl wv=>∃es,s=.go (G fr (csl++[c0])) (re wv τ d) es
def Real (wv wa bO:World) (es:Array Event):Prop:=Vw C wv bO/\Hid C wa bO/\∀e∈es,oQ C e
def ui (wa:World) (s:GStep):Out->Prop
 | .dead| .low=>True
 | .sp f args k fr csl wv=>Sp f/\(k=.normal\/k=.deferred)/\fH P fs fr/\(∀x∈csl,fH P fs x)/\∃bO es,s=.go (G (Frame.enter P f args k) (fr::csl++cs)) bO es/\Real C wv wa bO es
 | .go fr csl wv=>fH P fs fr/\(∀x∈csl,fH P fs x)/\∃bO es,s=.go (G fr (csl++cs)) bO es/\Real C wv wa bO es
def SL (Fl Fr:World->GStep):Prop:=∀wv wa,Vw C wv wa->
 ∃(k:Nat) (τ:Nat->Question->Nat) (out:Out),(∀τ' d,(∀i q,i<k->τ' (d+i) q=τ i q)->uu P fs c0 τ' (d+k) (Fl (re wv τ' d)) out)/\ui P fs Sp C cs wa (Fr wa) out
end
section
variable {P:Program} {fs:Array Func} {Sp:FuncId->Prop} {C:Cut} {c0:Frame} {cs:List Frame}
theorem jr {fr:Frame} {csl:List Frame} (h:fH P fs fr) (hc:∀x∈csl,fH P fs x):SL P fs Sp C c0 cs (λw=>.go (G fr (csl++[c0])) w) (λw=>.go (G fr (csl++cs)) w):=λwv wa hv=>
 ⟨0,λ_ _=>0,.go fr csl wv,λτ' d _=>⟨_,rfl⟩,h,hc,wa,#[],rfl,hv,Hid.refl C wa,by simp⟩
theorem uf {Fl Fr:World->GStep} (h:∀w,∃o w' es,Fl w=.ended o w' es):SL P fs Sp C c0 cs Fl Fr:=λwv _ _=>
 ⟨0,λ_ _=>0,.dead,λτ' d _=>h _,trivial⟩
theorem XD {Fl Fr:World->GStep} (h:∀w,∃g w' es,Fl w=.go g w' es/\aJG c0 g):SL P fs Sp C c0 cs Fl Fr:=λwv _ _=>
 ⟨0,λ_ _=>0,.low,λτ' d _=>h _,trivial⟩
theorem kN {τ:Nat->Question->Nat} {d:Nat} {s:GStep} {out:Out} (h:uu P fs c0 τ d s out) (es:Array Event):uu P fs c0 τ d (s.after es) out:=by
 cases out with
 |dead=>obtain ⟨o,w,e,rfl⟩:=h;exact ⟨_,_,_,rfl⟩
 |low=>obtain ⟨g,w,e,rfl,hl⟩:=h;exact ⟨_,_,_,rfl,hl⟩
 |sp f a k fr csl wv=>obtain ⟨e,rfl⟩:=h;exact ⟨_,rfl⟩
 |go fr csl wv=>obtain ⟨e,rfl⟩:=h;exact ⟨_,rfl⟩
theorem uU {wa wa1:World} {s:GStep} {out:Out} {es:Array Event} (hh:Hid C wa wa1) (he:∀e∈es,oQ C e) (h:ui P fs Sp C cs wa1 s out):ui P fs Sp C cs wa (s.after es) out:=by
 have app:∀qY,(∀e∈qY,oQ C e)->∀e∈es++qY,oQ C e:=λqY h' e hm=>(Array.mem_append.1 hm).elim (he e) (h' e);cases out with
 |dead=>trivial
 |low=>trivial
 |sp f a k fr csl wv=>obtain ⟨h1,h2,h3,h4,bO,qY,rfl,r1,r2,r3⟩:=h;exact ⟨h1,h2,h3,h4,bO,_,rfl,r1,hh.trans r2,app _ r3⟩
 |go fr csl wv=>obtain ⟨h3,h4,bO,qY,rfl,r1,r2,r3⟩:=h;exact ⟨h3,h4,bO,_,rfl,r1,hh.trans r2,app _ r3⟩
theorem aE9 {α:Type} {s:Sem α} {φ:α->Prop} (h:T P fs C s φ) {kl kr:Result α->GStep} {fl fr:FuncId}
 {ql qr:Result α->Array Event->Array Event} (hq:∀r es,∀e∈qr r es,e∈es)
 (aH:∀a,φ a->SL P fs Sp C c0 cs (λw=>kl (.ok a w)) (λw=>kr (.ok a w)))
 (Po:∀v,SL P fs Sp C c0 cs (λw=>kl (.halt (.panic v) w)) (λw=>kr (.halt (.panic v) w)))
 (Ph:∀x w,∃o w' es,kl (.halt (.stuck x) w)=.ended o w' es) (aFZ:∀x w,∃o w' es,kl (.halt (.unsupported x) w)=.ended o w' es):
 SL P fs Sp C c0 cs (λw=>GStep.after (seen (Pf P fs) fl (ql (s.runT (Pf P fs) w #[]).1 (s.runT (Pf P fs) w #[]).2)) (kl (s.runT (Pf P fs) w #[]).1))
  (λw=>GStep.after (seen P fr (qr (s.runT P w #[]).1 (s.runT P w #[]).2)) (kr (s.runT P w #[]).1)):=by
 intro wv wa hv;obtain ⟨k,τ,r,h1,h2⟩:=h wv wa hv;have bJ:∀τ' d,(∀i q,i<k->τ' (d+i) q=τ i q)->(s.runT (Pf P fs) (re wv τ' d) #[]).1=JW r τ' (d+k):=λτ' d ht=>by rw [<-h1 τ' d ht];simp
 have comb:∀(fl' fr':World->GStep) (wv' bO:World) (es:Array Event),Vw C wv' bO->Hid C wa bO->(∀e∈es,oQ C e)->SL P fs Sp C c0 cs fl' fr'->(∀τ' d,(∀i q,i<k->τ' (d+i) q=τ i q)->kl (s.runT (Pf P fs) (re wv τ' d) #[]).1=fl' (re wv' τ' (d+k)))->
  kr (s.runT P wa #[]).1=fr' bO->(s.runT P wa #[]).2=es->
  ∃(k:Nat) (τ:Nat->Question->Nat) (out:Out),(∀τ' d,(∀i q,i<k->τ' (d+i) q=τ i q)->uu P fs c0 τ' (d+k) (GStep.after (seen (Pf P fs) fl (ql (s.runT (Pf P fs) (re wv τ' d) #[]).1 (s.runT (Pf P fs) (re wv τ' d) #[]).2)) (kl (s.runT (Pf P fs) (re wv τ' d) #[]).1)) out)/\
   ui P fs Sp C cs wa (GStep.after (seen P fr (qr (s.runT P wa #[]).1 (s.runT P wa #[]).2)) (kr (s.runT P wa #[]).1)) out:=by
  intro fl' fr' wv' bO es e1 e2 e3 hS e4 e5 e6;obtain ⟨k2,τ2,out,g1,g2⟩:=hS wv' bO e1;refine ⟨k+k2,λi q=>if i<k then τ i q else τ2 (i - k) q,out,λτ' d ht=>?_,?_⟩
  ·have t1:∀i q,i<k->τ' (d+i) q=τ i q:=λi q hi=>by rw [ht i q (by omega)];exact if_pos hi
   have t2:∀i q,i<k2->τ' (d+k+i) q=τ2 i q:=λi q hi=>by
    have:=ht (k+i) q (by omega);rw [Nat.add_assoc,this];show (if k+i<k then _ else _)=_;rw [if_neg (by omega),show k+i - k=i from by omega]
   refine kN ?_ _;rw [e4 τ' d t1,<-Nat.add_assoc];exact g1 τ' (d+k) t2
  ·rw [e5,e6];exact uU e2 (λe he=>e3 e (hq _ _ e (mem_seen he))) g2
 cases r with
 |ok a w'=>obtain ⟨ha,bO,es,e1,e2,e3,e4⟩:=h2;have e1':=e1 #[];exact comb _ _ w' bO es e2 e3 e4 (aH a ha) (λτ' d ht=>by rw [bJ τ' d ht];rfl) (by rw [e1']) (by rw [e1'];simp)
 |halt x w'=>
  cases x with
  |stuck x=>exact ⟨k,τ,.dead,λτ' d ht=>kN (by rw [bJ τ' d ht];exact Ph _ _) _,trivial⟩
  |unsupported x=>exact ⟨k,τ,.dead,λτ' d ht=>kN (by rw [bJ τ' d ht];exact aFZ _ _) _,trivial⟩
  |panic v=>obtain ⟨bO,es,e1,e2,e3,e4⟩:=h2;have e1':=e1 #[];exact comb _ _ w' bO es e2 e3 e4 (Po v) (λτ' d ht=>by rw [bJ τ' d ht];rfl) (by rw [e1']) (by rw [e1'];simp)
  |_=>exact h2.elim
end
end Ka
namespace Ka
section
variable {P:Program} {fs:Array Func} {Sp:FuncId->Prop} {C:Cut} {c0:Frame} {cs:List Frame} {main:Bool}
theorem fH.BP {fr:Frame} (h:fH P fs fr) {todo:List Item} (ht:∀x∈todo,iL P fr.roundOf.isSome x):fH P fs {fr with todo}:=⟨ht,h.defers,h.mode,h.kind,h.fn,h.ret⟩
theorem fH.finish {fr:Frame} (h:fH P fs fr) (v:Value):fH P fs (fr.finish v):=by
 unfold Frame.finish;split
 ·rename_i ops i rest k ht;have h1:=h.todo;rw [ht] at h1;exact ⟨λx hx=>by
   rcases List.mem_cons.1 hx with rfl|hx
   ·exact h1 (.inRegion ops (i::rest)) List.mem_cons_self
   ·exact h1 x (List.mem_cons_of_mem _ hx),h.defers,h.mode,h.kind,h.fn,h.ret⟩
 ·rename_i l k ht;have h1:=h.todo;rw [ht] at h1;exact ⟨λx hx=>by
   rcases List.mem_cons.1 hx with rfl|hx
   ·trivial
   ·exact h1 x (List.mem_cons_of_mem _ hx),h.defers,h.mode,h.kind,h.fn,h.ret⟩
 ·rename_i k ht;have h1:=h.todo;rw [ht] at h1;exact ⟨λx hx=>h1 x (List.mem_cons_of_mem _ hx),h.defers,h.mode,h.kind,h.fn,h.ret⟩
 ·rename_i ht;have h1:=h.todo;rw [ht] at h1;exact (h1 _ List.mem_cons_self).elim
 ·rename_i ht;have h1:=h.todo;rw [ht] at h1;exact (h1 _ List.mem_cons_self).elim
 ·exact h
theorem fH.raise {fr:Frame} (h:fH P fs fr) {vs:List PanicEntry} (hv:∀e∈vs,e.recovered=false):fH P fs (fr.raise vs):=by
 unfold Frame.raise;split
 ·rename_i chain hm;have:=h.mode;rw [hm] at this;exact ⟨h.todo,h.defers,λe he=>(List.mem_append.1 he).elim (hv e) (this e),h.kind,h.fn,λe=>by cases e⟩
 ·exact ⟨h.todo,h.defers,hv,h.kind,h.fn,λe=>by cases e⟩
theorem yz {f:FuncId} (h:fs[f]? =P.funcs[f]?) (args:Array Value) (k:CallKind):Frame.enter (Pf P fs) f args k=Frame.enter P f args k:=by unfold Frame.enter;show (let fn:=fs[f]?;_)=_;rw [h]
theorem yx (F:Fits P fs Sp C) {f:FuncId} (h:fs[f]? =P.funcs[f]?) {fn:Func} {c:Code} (h1:fs[f]? =some fn) (h2:fn.body=some c) (args:Array Value) {k:CallKind} (hk:k=.normal\/k=.deferred):fH P fs (Frame.enter P f args k):=by have h3:P.funcs[f]? =some fn:=h▸h1;refine ⟨λx hx=>?_,(λd hd=>by cases hd),trivial,hk,λ_=>⟨h,fn,h1⟩,λe=>by cases e⟩;simp only [Frame.enter,h3,Option.bind_some,h2,Option.getD_some,List.mem_singleton] at hx;subst hx;exact ⟨F.code f fn c h1 h2,λe=>by cases e⟩
theorem KX {l:Nat} {f:FuncId} {tmps:Array Value} {a b:Code} (ha:eU P a) (hb:eU P b) {k:CallKind} (hk:k=.normal\/k=.deferred):fH P fs (Frame.round l f tmps a b k):=by
 refine ⟨λx hx=>?_,(λd hd=>by cases hd),trivial,hk,(λe=>by cases e),λe=>by cases e⟩;simp only [Frame.round,List.mem_cons,List.not_mem_nil,or_false] at hx;rcases hx with rfl|rfl|rfl
 ·exact ⟨ha.1,λ_=>ha.2⟩
 ·trivial
 ·exact ⟨hb.1,λ_=>hb.2⟩
theorem dX:∀c:Code,bH P c=true->readies c=[]
 | .region _ ops _,h=>by
   simp only [readies];rw [List.filterMap_eq_nil_iff];intro o ho;have h1:ops.all (fF P)=true:=h;rw [Array.all_eq_true'] at h1;have:=h1 o (Array.mem_toList_iff.1 ho);cases dC:o.op<;>first|rfl|(simp [fF,dC] at this)
 | .seq a b,h=>by simp only [bH,Bool.and_eq_true] at h;simp [readies,dX a h.1,dX b h.2]
 | .cond _ a b,h=>by simp only [bH,Bool.and_eq_true] at h;simp [readies,dX a h.1,dX b h.2]
 | .rangeFunc _ _ a b,h=>by simp only [bH,Bool.and_eq_true] at h;simp [readies,dX a h.1.1.1,dX b h.1.1.2]
 | .block _ c,h=>dX c h
 | .loop c,h=>dX c h
 | .scope c,h=>dX c h
 | .skip,_| .ret,_| .label _,_| .exit _,_| .goto _,_| .refuse _,_=>rfl
theorem F6 (B:Base c0) {fr:Frame} {csl:List Frame} (h:fH P fs fr) (hc:∀x∈csl,fH P fs x) (v:Value):
 SL P fs Sp C c0 cs (λw=>doReturn (Pf P fs) true fr (csl++[c0]) none v w) (λw=>doReturn P main fr (csl++cs) none v w):=by
 cases csl with
 |nil=>
  refine XD λw=>?_;have hf:c0.finish v=c0:=by unfold Frame.finish;rw [B.todo]
  rcases h.kind with hk|hk
  ·refine ⟨_,_,_,by simp only [List.nil_append,doReturn,hk];rfl,c0.finish v,rfl,.inl hf⟩
  ·refine ⟨_,_,_,by simp only [List.nil_append,doReturn,hk,B.mode];rfl,c0,rfl,.inl rfl⟩
 |cons x csl=>
  have hx:=hc x List.mem_cons_self;have yP:∀y∈csl,fH P fs y:=λy hy=>hc y (List.mem_cons_of_mem _ hy);rcases h.kind with hk|hk
  ·have e1:∀(p:Program) (m:Bool) (l:List Frame) w,doReturn p m fr (x::l) none v w=.go (G (x.finish v) l) w:=λp m l w=>by simp only [doReturn,hk];rfl
   simp only [List.cons_append,e1];exact jr (hx.finish v) yP
  ·have e1:∀(p:Program) (m:Bool) (l:List Frame) w,doReturn p m fr (x::l) none v w=.go (G x l) w:=λp m l w=>by
    have hm:=hx.mode;simp only [doReturn,hk];cases hxm:x.mode with
    |run=>rfl
    |returning=>rfl
    |panicking ch=>
     rw [hxm] at hm;cases ch with
     |nil=>rfl
     |cons e ch=>have:=hm e List.mem_cons_self;obtain ⟨a,b,c⟩:=e;simp only at this;subst this;rfl
   simp only [List.cons_append,e1];exact jr hx yP
def mM {α:Type}:Result α->Sem α
 | .ok a _=>.pure a
 | .halt h _=>.halt h
def Df {α:Type}:Result α->World
 | .ok _ w=>w
 | .halt _ w=>w
def kept (r:Result Next) (es:Array Event):Array Event:=match r with
 | .halt .blocked _| .halt .waiting _| .halt (.unsupported (.initOrder _)) _=>#[]
 |_=>es
theorem eB (s:GStep):GStep.after #[] s=s:=by cases s<;>simp [GStep.after]
theorem eP (p:Program) (fn:FuncId):seen p fn #[]=#[]:=rfl
theorem tH (p:Program) {fr:Frame} (U5:(fr.kind==CallKind.early)=false) (cs:List Frame) (s:Sem Next) (w:World):stepG.apply p true fr cs none s w=
 GStep.after (seen p fr.fn (kept (s.runT p w #[]).1 (s.runT p w #[]).2)) (stepG.apply p true fr cs none (mM (s.runT p w #[]).1) (Df (s.runT p w #[]).1)):=by
 have e:∀(s':Sem Next) w',stepG.apply p true fr cs none s' w'=GStep.after (seen p fr.fn (kept (s'.runT p w' #[]).1 (s'.runT p w' #[]).2)) (stepG.apply p true fr cs none (mM (s'.runT p w' #[]).1) (Df (s'.runT p w' #[]).1))->True:=λ_ _ _=>trivial;generalize hx:s.runT p w #[]=x;obtain ⟨r,es⟩:=x;have e2:stepG.apply p true fr cs none (mM r) (Df r)=stepG.apply p true fr cs none (mM r) (Df r):=rfl;have e3:(mM r).runT p (Df r) #[]=(r,#[]):=by cases r<;>rfl
 unfold stepG.apply;simp only [hx,e3,U5,if_true,Bool.false_eq_true,if_false];cases r with
 |ok a w'=>simp only [kept,eP,eB]
 |halt h w'=>
  cases h with
  |unsupported u=>cases u<;>simp only [kept,eP,eB]
  |_=>simp only [kept,eP,eB]
theorem IG (F:Fits P fs Sp C) {fr:Frame} {csl:List Frame} (h:fH P fs fr) (hc:∀x∈csl,fH P fs x) {s:Sem Next} (hs:T P fs C s (nH P fs Sp C)) (hw:∀d b r sv k,fr.todo≠.call d b r sv::k):
 SL P fs Sp C c0 cs (λw=>stepG.apply (Pf P fs) true fr (csl++[c0]) none s w) (λw=>stepG.apply P true fr (csl++cs) none s w):=by
 have U5:(fr.kind==CallKind.early)=false:=by rcases h.kind with hk|hk<;>rw [hk]<;>rfl
 have hk:(match fr.todo with| .call _ true _ _::_=>CallKind.wrapped|_=>.normal)=.normal:=by
  split
  ·rename_i e;exact absurd e (hw _ _ _ _ _)
  ·rfl
 have e1:=tH (Pf P fs) U5 (csl++[c0]) s;have e2:=tH P U5 (csl++cs) s;simp only [e1,e2];have eok:∀(p:Program) (l:List Frame) (a:Next) (w:World),stepG.apply p true fr l none (mM (.ok a w)) (Df (.ok a w))=stepG.apply p true fr l none (.pure a) w:=λ_ _ _ _=>rfl;have eha:∀(p:Program) (l:List Frame) (x:Halt) (w:World),stepG.apply p true fr l none (mM (.halt x w:Result Next)) (Df (.halt x w:Result Next))=stepG.apply p true fr l none (.halt x) w:=λ_ _ _ _=>rfl;refine aE9 (P:=P) (fs:=fs) (Sp:=Sp) (C:=C) (c0:=c0) (cs:=cs) (fl:=fr.fn) (fr:=fr.fn) (ql:=kept) (qr:=kept)
  (kl:=λr=>stepG.apply (Pf P fs) true fr (csl++[c0]) none (mM r) (Df r)) (kr:=λr=>stepG.apply P true fr (csl++cs) none (mM r) (Df r)) hs (λr es e he=>?_) (λa ha=>?_) (λv=>?_) (λx w=>?_) (λx w=>?_)
 ·unfold kept at he;split at he<;>first|exact he|(simp at he)
 ·simp only [eok];cases a with
  |value v=>
   have key:∀(p:Program) (l:List Frame) (w:World),stepG.apply p true fr l none (.pure (.value v)) w=.go (G (fr.finish v) l) w:=λp l w=>by
    unfold stepG.apply;simp only [Sem.runT,U5,if_true,Bool.false_eq_true,if_false,eP,eB];rfl
   simp only [key];exact jr (h.finish v) hc
  |skip=>
   have key:∀(p:Program) (l:List Frame) (w:World),stepG.apply p true fr l none (.pure .skip) w=.go (G (fr.finish undef) l) w:=λp l w=>by
    unfold stepG.apply;simp only [Sem.runT,U5,if_true,Bool.false_eq_true,if_false,eP,eB];rfl
   simp only [key];exact jr (h.finish undef) hc
  |enter f args=>
   have key:∀(p:Program) (l:List Frame) (w:World),stepG.apply p true fr l none (.pure (.enter f args)) w=.go (G (Frame.enter p f args .normal) (fr::l)) w:=λp l w=>by
    unfold stepG.apply;simp only [Sem.runT,U5,if_true,Bool.false_eq_true,if_false,eP,eB];split
    ·rename_i e;exact absurd e (hw _ _ _ _ _)
    ·rfl
   simp only [key];obtain ⟨DV,fn,c,h1,h2⟩:=ha;rcases DV with DV|gz
   ·exact λwv wa hv=>⟨0,λ_ _=>0,.sp f args .normal fr csl wv,λτ' d _=>⟨_,rfl⟩,DV,.inl rfl,h,hc,wa,#[],rfl,hv,Hid.refl C wa,by simp⟩
   ·simp only [yz gz];exact jr (csl:=fr::csl) (yx F gz h1 h2 args (.inl rfl)) (λx hx=>(List.mem_cons.1 hx).elim (λe=>e▸h) (hc x))
  |round l' f tmps a b=>
   have key:∀(p:Program) (l:List Frame) (w:World),stepG.apply p true fr l none (.pure (.round l' f tmps a b)) w=.go (G (Frame.round l' f tmps a b .normal) (fr::l)) w:=λp l w=>by
    unfold stepG.apply;simp only [Sem.runT,U5,if_true,Bool.false_eq_true,if_false,eP,eB];rfl
   simp only [key];have uz:C.N a/\C.N b:=ha;rw [F.loops] at uz;exact jr (csl:=fr::csl) (KX uz.1 uz.2 (.inl rfl)) (λx hx=>(List.mem_cons.1 hx).elim (λe=>e▸h) (hc x))
  |defer d=>
   have key:∀(p:Program) (l:List Frame) (w:World),stepG.apply p true fr l none (.pure (.defer d)) w=.go (G ({fr with defers:=d::fr.defers}.finish undef) l) w:=λp l w=>by
    unfold stepG.apply;simp only [Sem.runT,U5,if_true,Bool.false_eq_true,if_false,eP,eB];rfl
   simp only [key];have hd:fH P fs {fr with defers:=d::fr.defers}:=⟨h.todo,λx hx=>(List.mem_cons.1 hx).elim (λe=>.inl (e▸ha)) (h.defers x),h.mode,h.kind,h.fn,h.ret⟩
   exact jr (hd.finish undef) hc
  |_=>exact ha.elim
 ·simp only [eha];have key:∀(p:Program) (l:List Frame) (w:World),stepG.apply p true fr l none (.halt (.panic v)) w=.go (G (fr.raise [{v,recovered:=false}]) l) w:=λp l w=>by
   unfold stepG.apply;simp only [Sem.runT,U5,if_true,Bool.false_eq_true,if_false,eP,eB];rfl
  simp only [key];exact jr (h.raise λe he=>by simp only [List.mem_singleton] at he;subst he;rfl) hc
 ·simp only [eha];exact ⟨_,_,_,by unfold stepG.apply;simp only [Sem.runT,U5,if_true,Bool.false_eq_true,if_false,eP,eB];rfl⟩
 ·simp only [eha];cases x with
  |initOrder g=>refine ⟨.unsupported (.initOrder g) (fr.pos (Pf P fs)),w,#[],?_⟩;unfold stepG.apply;simp only [Sem.runT,U5,if_true,Bool.false_eq_true,if_false,eP,eB];unfold early;have e1:(Pf P fs).follows .staticDataAhead=true:=F.ahead;simp only [e1,Bool.not_true,Bool.false_eq_true,if_false,F.steps]
  |_=>exact ⟨_,_,_,by unfold stepG.apply;simp only [Sem.runT,U5,if_true,Bool.false_eq_true,if_false,eP,eB];rfl⟩
end
end Ka
namespace Ka
section
variable {P:Program} {fs:Array Func} {Sp:FuncId->Prop} {C:Cut} {c0:Frame} {cs:List Frame} {main:Bool}
def yH {α:Type} (p:Program) (s:Sem α) (F:World->GStep) (r:World->Result α) (g:World->GStep):Prop:=
 ∀w w' es,s.runT p w #[]=(r w',es)->∃qY,(∀e∈qY,e∈es)/\F w=GStep.after qY (g w')
def aAF {α:Type} (p:Program) (s:Sem α) (F:World->GStep) (h:Halt):Prop:=
 ∀w w' es,s.runT p w #[]=(.halt h w',es)->∃o w'' qY,F w=.ended o w'' qY
theorem F7 {α:Type} {s:Sem α} {φ:α->Prop} (h:T P fs C s φ) {Fl Fr:World->GStep}
 (aH:∀a,φ a->∃gl gr,SL P fs Sp C c0 cs gl gr/\yH (Pf P fs) s Fl (.ok a) gl/\yH P s Fr (.ok a) gr)
 (Po:∀v,(∃gl gr,SL P fs Sp C c0 cs gl gr/\yH (Pf P fs) s Fl (.halt (.panic v)) gl/\yH P s Fr (.halt (.panic v)) gr)\/aAF (Pf P fs) s Fl (.panic v))
 (Ph:∀x,aAF (Pf P fs) s Fl (.stuck x)) (aFZ:∀x,aAF (Pf P fs) s Fl (.unsupported x)):SL P fs Sp C c0 cs Fl Fr:=by
 intro wv wa hv;obtain ⟨k,τ,r,h1,h2⟩:=h wv wa hv;have bJ:∀τ' d,(∀i q,i<k->τ' (d+i) q=τ i q)->(s.runT (Pf P fs) (re wv τ' d) #[]).1=JW r τ' (d+k):=λτ' d ht=>by rw [<-h1 τ' d ht];simp
 have aDY:∀τ' d,(∀i q,i<k->τ' (d+i) q=τ i q)->s.runT (Pf P fs) (re wv τ' d) #[]=(JW r τ' (d+k),(s.runT (Pf P fs) (re wv τ' d) #[]).2):=λτ' d ht=>by rw [<-bJ τ' d ht]
 have comb:∀(res:World->Result α) (gl gr:World->GStep) (wv' bO:World) (es:Array Event),(∀τ' d,JW r τ' d=res (re wv' τ' d))->s.runT P wa #[]=(res bO,es)->Vw C wv' bO->Hid C wa bO->(∀e∈es,oQ C e)->SL P fs Sp C c0 cs gl gr->yH (Pf P fs) s Fl res gl->yH P s Fr res gr->
  ∃(k:Nat) (τ:Nat->Question->Nat) (out:Out),(∀τ' d,(∀i q,i<k->τ' (d+i) q=τ i q)->uu P fs c0 τ' (d+k) (Fl (re wv τ' d)) out)/\ui P fs Sp C cs wa (Fr wa) out:=by
  intro res gl gr wv' bO es e0 e1 e2 e3 e4 hS hl hr;obtain ⟨k2,τ2,out,g1,g2⟩:=hS wv' bO e2;refine ⟨k+k2,λi q=>if i<k then τ i q else τ2 (i - k) q,out,λτ' d ht=>?_,?_⟩
  ·have t1:∀i q,i<k->τ' (d+i) q=τ i q:=λi q hi=>by rw [ht i q (by omega)];exact if_pos hi
   have t2:∀i q,i<k2->τ' (d+k+i) q=τ2 i q:=λi q hi=>by
    have:=ht (k+i) q (by omega);rw [Nat.add_assoc,this];show (if k+i<k then _ else _)=_;rw [if_neg (by omega),show k+i - k=i from by omega]
   have:=aDY τ' d t1;rw [e0] at this;obtain ⟨qY,_,he⟩:=hl _ _ _ this;rw [he,<-Nat.add_assoc];exact kN (g1 τ' (d+k) t2) _
  ·obtain ⟨qY,aOx,he⟩:=hr _ _ _ e1;rw [he];exact uU e3 (λe h=>e4 e (aOx e h)) g2
 have dies:∀(x:Halt) (w':World),r=.halt x w'->aAF (Pf P fs) s Fl x->∃(k:Nat) (τ:Nat->Question->Nat) (out:Out),(∀τ' d,(∀i q,i<k->τ' (d+i) q=τ i q)->uu P fs c0 τ' (d+k) (Fl (re wv τ' d)) out)/\ui P fs Sp C cs wa (Fr wa) out:=by intro x w' hr hd;refine ⟨k,τ,.dead,λτ' d ht=>?_,trivial⟩;have:=aDY τ' d ht;rw [hr] at this;exact hd _ _ _ this
 cases r with
 |ok a w'=>obtain ⟨ha,bO,es,e1,e2,e3,e4⟩:=h2;obtain ⟨gl,gr,hS,hl,hr⟩:=aH a ha;exact comb (.ok a) gl gr w' bO es (λ_ _=>rfl) (by simpa using e1 #[]) e2 e3 e4 hS hl hr
 |halt x w'=>
  cases x with
  |stuck x=>exact dies _ _ rfl (Ph x)
  |unsupported x=>exact dies _ _ rfl (aFZ x)
  |panic v=>
   obtain ⟨bO,es,e1,e2,e3,e4⟩:=h2;rcases Po v with ⟨gl,gr,hS,hl,hr⟩|hd
   ·exact comb (.halt (.panic v)) gl gr w' bO es (λ_ _=>rfl) (by simpa using e1 #[]) e2 e3 e4 hS hl hr
   ·exact dies _ _ rfl hd
  |_=>exact h2.elim
theorem Ci (r:Nat):T P fs C (Instr.takeDeferred r) λl=>gJ l:=by
 unfold Instr.takeDeferred;refine yT ⟨_,.inl ⟨_,rfl⟩,λ_=>rfl⟩ (λ_ _=>⟨_,.inl ⟨_,rfl⟩,λ_=>rfl⟩) λhf o ho=>?_;split
 ·rename_i ds;cases ds with
  |nil=>exact tb (fV Lh hf) λ_ _=>tp λd hd=>by cases hd
  |cons d ds=>have:=ho.1.1;simp [rU] at this
 ·exact af
theorem SN (fn:Func) (tmps:Array Value):T P fs C (results fn tmps) λ_=>True:=by
 unfold results;refine tb (QD (λr=>?_) _) λ_ _=>bg;split
 ·exact bg
 ·exact tb (rQ _) λ_ _=>iZ _ _
theorem Qd {p:Program} {fr:Frame} (h:∀d b r sv k,fr.todo≠.call d b r sv::k):fr.catches p=false:=by
 unfold Frame.catches;split
 ·rename_i e;exact absurd e (h _ _ _ _ _)
 ·rfl
theorem fH.I6 {fr:Frame} (h:fH P fs fr):∀d b r sv k,fr.todo≠.call d b r sv::k:=λd b r sv k e=>by
 have:=h.todo (.call d b r sv) (by rw [e];exact List.mem_cons_self);exact this.elim
theorem KO (F:Fits P fs Sp C) {fr:Frame} {csl:List Frame} (h:fH P fs fr) (hc:∀x∈csl,fH P fs x) {d:Deferred} (hd:BM d):
 SL P fs Sp C c0 cs (λw=>callDeferred (Pf P fs) fr (csl++[c0]) none d w) (λw=>callDeferred P fr (csl++cs) none d w):=by
 have ht:Ce P d.target:=by obtain ⟨t,a⟩:=d;cases t<;>first|exact hd.elim|trivial
 by_cases hn:((d.target matches .nil)&&(fr.mode matches .panicking _))=true
 ·refine uf λw=>⟨.unsupported (.noEntry "machine/Return: a deferred call of a nil function value, made while the frame is unwinding") (fr.pos (Pf P fs)),w,#[],?_⟩
  unfold callDeferred;exact if_pos hn
 ·have hs:=Cz F.toGood F.Yx d.target ht d.args;have mk:∀(p:Program) (l:List Frame) (r:World->Result Next) (g:World->GStep),(∀w w' es,(invoke d.target d.args).runT p w #[]=(r w',es)->callDeferred p fr l none d w=GStep.after (seen p fr.fn es) (g w'))->yH p (invoke d.target d.args) (λw=>callDeferred p fr l none d w) r g:=λp l r g h w w' es e=>
   ⟨_,λx hx=>mem_seen hx,h w w' es e⟩
  have dk:∀(h:Halt),(∀w w' es,(invoke d.target d.args).runT (Pf P fs) w #[]=(.halt h w',es)->∃o w'' qY,callDeferred (Pf P fs) fr (csl++[c0]) none d w=GStep.after (seen (Pf P fs) fr.fn es) (.ended o w'' qY))->aAF (Pf P fs) (invoke d.target d.args) (λw=>callDeferred (Pf P fs) fr (csl++[c0]) none d w) h:=λh hh w w' es e=>by
   obtain ⟨o,w'',qY,he⟩:=hh w w' es e;exact ⟨_,_,_,he⟩
  refine F7 hs (λa ha=>?_) (λv=>.inl ?_) (λx=>dk _ λw w' es e=>⟨.stuck x (fr.pos (Pf P fs)),w',#[],?_⟩) (λx=>dk _ λw w' es e=>⟨.unsupported x (fr.pos (Pf P fs)),w',#[],?_⟩)
  ·cases a with
   |value v=>exact ⟨_,_,jr h hc,mk _ _ _ _ λw w' es e=>by unfold callDeferred;refine (if_neg hn).trans ?_;simp only [e];rfl,mk _ _ _ _ λw w' es e=>by unfold callDeferred;refine (if_neg hn).trans ?_;simp only [e];rfl⟩
   |skip=>exact ⟨_,_,jr h hc,mk _ _ _ _ λw w' es e=>by unfold callDeferred;refine (if_neg hn).trans ?_;simp only [e];rfl,mk _ _ _ _ λw w' es e=>by unfold callDeferred;refine (if_neg hn).trans ?_;simp only [e];rfl⟩
   |defer d'=>exact ⟨_,_,jr h hc,mk _ _ _ _ λw w' es e=>by unfold callDeferred;refine (if_neg hn).trans ?_;simp only [e];rfl,mk _ _ _ _ λw w' es e=>by unfold callDeferred;refine (if_neg hn).trans ?_;simp only [e];rfl⟩
   |enter f args=>
    obtain ⟨DV,fn,c,h1,h2⟩:=ha;have m1:yH (Pf P fs) (invoke d.target d.args) (λw=>callDeferred (Pf P fs) fr (csl++[c0]) none d w) (.ok (.enter f args)) (λw=>.go (G (Frame.enter (Pf P fs) f args .deferred) (fr::csl++[c0])) w):=mk _ _ _ _ λw w' es e=>by unfold callDeferred;refine (if_neg hn).trans ?_;simp only [e];rfl
    have m2:yH P (invoke d.target d.args) (λw=>callDeferred P fr (csl++cs) none d w) (.ok (.enter f args)) (λw=>.go (G (Frame.enter P f args .deferred) (fr::csl++cs)) w):=mk _ _ _ _ λw w' es e=>by unfold callDeferred;refine (if_neg hn).trans ?_;simp only [e];rfl
    refine ⟨_,_,?_,m1,m2⟩;rcases DV with DV|gz
    ·exact λwv wa hv=>⟨0,λ_ _=>0,.sp f args .deferred fr csl wv,λτ' d _=>⟨_,rfl⟩,DV,.inr rfl,h,hc,wa,#[],rfl,hv,Hid.refl C wa,by simp⟩
    ·rw [yz gz];exact jr (csl:=fr::csl) (yx F gz h1 h2 args (.inr rfl)) (λx hx=>(List.mem_cons.1 hx).elim (λe=>e▸h) (hc x))
   |round l f tmps a b=>have uz:C.N a/\C.N b:=ha;rw [F.loops] at uz;exact ⟨_,_,jr (csl:=fr::csl) (KX (l:=l) (f:=f) (tmps:=tmps) uz.1 uz.2 (.inr rfl)) (λx hx=>(List.mem_cons.1 hx).elim (λe=>e▸h) (hc x)),mk _ _ _ _ λw w' es e=>by unfold callDeferred;refine (if_neg hn).trans ?_;simp only [e];rfl,mk _ _ _ _ λw w' es e=>by unfold callDeferred;refine (if_neg hn).trans ?_;simp only [e];rfl⟩
   |_=>exact ha.elim
  ·exact ⟨_,_,jr (h.raise (vs:=[{v,recovered:=false}]) λe he=>by simp only [List.mem_singleton] at he;subst he;rfl) hc,mk _ _ _ _ λw w' es e=>by unfold callDeferred;refine (if_neg hn).trans ?_;simp only [e];rfl,mk _ _ _ _ λw w' es e=>by unfold callDeferred;refine (if_neg hn).trans ?_;simp only [e];rfl⟩
  ·unfold callDeferred;refine (if_neg hn).trans ?_;simp only [e]
  ·unfold callDeferred;refine (if_neg hn).trans ?_;simp only [e]
theorem fH.BQ {fr:Frame} (h:fH P fs fr) {l:List Deferred} (hl:gJ l):fH P fs {fr with defers:=l}:=⟨h.todo,hl,h.mode,h.kind,h.fn,h.ret⟩
theorem F4 (F:Fits P fs Sp C) (B:Base c0) {fr:Frame} {csl:List Frame} (h:fH P fs fr) (hc:∀x∈csl,fH P fs x) (hm:fr.mode≠.run):
 SL P fs Sp C c0 cs (λw=>unwind (Pf P fs) true fr (csl++[c0]) none w) (λw=>unwind P main fr (csl++cs) none w):=by
 cases hd:fr.defers with
 |cons d ds=>
  have hds:=h.defers;rw [hd] at hds;have aDT:gJ ds:=λx hx=>hds x (List.mem_cons_of_mem _ hx);rcases hds d List.mem_cons_self with aH|⟨r,hr⟩
  ·have e:∀(p:Program) (m:Bool) (l:List Frame) (w:World),unwind p m fr l none w=callDeferred p {fr with defers:=ds} l none d w:=λp m l w=>by
    unfold unwind;simp only [hd];obtain ⟨t,a⟩:=d;cases t<;>first|rfl|exact aH.elim
   simp only [e];exact KO F (h.BQ aDT) hc aH
  ·obtain ⟨t,a⟩:=d;simp only at hr;subst hr;refine F7 (Ci r) (λcalls aGx=>⟨_,_,jr (h.BQ (l:=calls++ds) λx hx=>(List.mem_append.1 hx).elim (aGx x) (aDT x)) hc,λw w' es e=>⟨seen (Pf P fs) fr.fn es,λx hx=>mem_seen hx,?_⟩,λw w' es e=>⟨seen P fr.fn es,λx hx=>mem_seen hx,?_⟩⟩) (λv=>.inr λw w' es e=>?_) (λx w w' es e=>?_) (λx w w' es e=>?_)
   ·unfold unwind;simp only [hd,e];rfl
   ·unfold unwind;simp only [hd,e];rfl
   ·exact ⟨_,_,_,by unfold unwind;simp only [hd,e];rfl⟩
   ·exact ⟨_,_,_,by unfold unwind;simp only [hd,e];rfl⟩
   ·exact ⟨_,_,_,by unfold unwind;simp only [hd,e];rfl⟩
 |nil=>
  cases uY:fr.mode with
  |run=>exact absurd uY hm
  |panicking ch=>
   have gN:=h.mode;rw [uY] at gN;have aK2:∀p:Program,fr.catches p=false:=λp=>Qd h.I6;cases csl with
   |nil=>
    refine XD λw=>⟨G (c0.raise ch) [],w,#[],?_,c0.raise ch,rfl,.inr ⟨ch,?_⟩⟩
    ·unfold unwind;simp only [hd,uY,aK2,Bool.false_eq_true,if_false,List.nil_append];rfl
    ·show c0.raise ch=_;unfold Frame.raise;rw [B.mode]
   |cons x csl=>
    have e:∀(p:Program) (m:Bool) (l:List Frame) (w:World),unwind p m fr (x::l) none w=.go (G (x.raise ch) l) w:=λp m l w=>by
     unfold unwind;simp only [hd,uY,aK2,Bool.false_eq_true,if_false];rfl
    simp only [List.cons_append,e];exact jr ((hc x List.mem_cons_self).raise gN) λy hy=>hc y (List.mem_cons_of_mem _ hy)
  |returning=>
   obtain ⟨gz,f,hf⟩:=h.fn (h.ret uY);have hfP:P.funcs[fr.fn]? =some f:=gz▸hf;have hfQ:(Pf P fs).funcs[fr.fn]? =some f:=hf;refine F7 (SN f fr.tmps) (λv _=>⟨_,_,F6 (main:=main) B h hc v,λw w' es e=>⟨seen (Pf P fs) fr.fn es,λx hx=>mem_seen hx,?_⟩,λw w' es e=>⟨seen P fr.fn es,λx hx=>mem_seen hx,?_⟩⟩) (λv=>.inr λw w' es e=>?_) (λx w w' es e=>?_) (λx w w' es e=>?_)
   ·unfold unwind;simp only [hd,uY,hfQ,e]
   ·unfold unwind;simp only [hd,uY,hfP,e]
   ·exact ⟨_,_,_,by unfold unwind;simp only [hd,uY,hfQ,e];rfl⟩
   ·exact ⟨_,_,_,by unfold unwind;simp only [hd,uY,hfQ,e];rfl⟩
   ·exact ⟨_,_,_,by unfold unwind;simp only [hd,uY,hfQ,e];rfl⟩
end
end Ka
namespace Ka
section
variable {P:Program} {fs:Array Func} {Sp:FuncId->Prop} {C:Cut} {c0:Frame} {cs:List Frame} {main:Bool}
theorem zM {r:Bool} {id:Nat}:∀{l k:List Item},(∀x∈l,iL P r x)->exitTo id l=some k->∀x∈k,iL P r x
 |[],_,_,e=>by cases e
 |i::l,k,h,e=>by
  have hl:∀x∈l,iL P r x:=λx hx=>h x (List.mem_cons_of_mem _ hx);cases i with
  |inBlock id'=>
   simp only [exitTo] at e;split at e
   ·cases e;exact hl
   ·exact zM hl e
  |_=>exact zM hl (by simpa only [exitTo] using e)
theorem nu {l:Nat}:∀{c k:Code},bH P c=true->findLabel c l=some k->bH P k=true
 | .seq a b,k,h,e=>by
   simp only [bH,Bool.and_eq_true] at h;simp only [findLabel] at e;split at e
   ·rename_i rest hr;cases e;simp only [bH,Bool.and_eq_true];exact ⟨nu h.1 hr,h.2⟩
   ·exact nu h.2 e
 | .label l',k,_,e=>by
   simp only [findLabel] at e;split at e
   ·cases e;rfl
   ·cases e
 | .region ..,_,_,e| .cond ..,_,_,e| .rangeFunc ..,_,_,e| .block ..,_,_,e| .loop ..,_,_,e| .scope ..,_,_,e| .skip,_,_,e| .ret,_,_,e| .exit ..,_,_,e| .goto ..,_,_,e| .refuse ..,_,_,e=>by cases e
theorem j5 {l:Nat}:∀{c k:Code},fu c=true->findLabel c l=some k->fu k=true
 | .seq a b,k,h,e=>by
   simp only [fu,Bool.and_eq_true] at h;simp only [findLabel] at e;split at e
   ·rename_i rest hr;cases e;simp only [fu,Bool.and_eq_true];exact ⟨j5 h.1 hr,h.2⟩
   ·exact j5 h.2 e
 | .label l',k,_,e=>by
   simp only [findLabel] at e;split at e
   ·cases e;rfl
   ·cases e
 | .region ..,_,_,e| .cond ..,_,_,e| .rangeFunc ..,_,_,e| .block ..,_,_,e| .loop ..,_,_,e| .scope ..,_,_,e| .skip,_,_,e| .ret,_,_,e| .exit ..,_,_,e| .goto ..,_,_,e| .refuse ..,_,_,e=>by cases e
theorem zJ {r:Bool} {id:Nat}:∀{l k:List Item},(∀x∈l,iL P r x)->gotoIn id l=some k->∀x∈k,iL P r x
 |[],_,_,e=>by cases e
 |i::l,k,h,e=>by
  have hl:∀x∈l,iL P r x:=λx hx=>h x (List.mem_cons_of_mem _ hx);cases i with
  |inScope body=>
   have hb:bH P body=true/\(r=true->fu body=true):=h (.inScope body) List.mem_cons_self;simp only [gotoIn] at e;split at e
   ·rename_i rest hr;cases e;intro x hx;rcases List.mem_cons.1 hx with rfl|hx
    ·exact ⟨nu hb.1 hr,λhh=>j5 (hb.2 hh) hr⟩
    ·rcases List.mem_cons.1 hx with rfl|hx
     ·exact hb
     ·exact hl x hx
   ·exact zJ hl e
  |_=>exact zJ hl (by simpa only [gotoIn] using e)
theorem Fg (id:Nat):eU P (.exit id):=⟨rfl,rfl⟩
theorem Ff (id:Nat):eU P (.goto id):=⟨rfl,rfl⟩
theorem Ja:eU P .ret:=⟨rfl,rfl⟩
def Mc:Option Code->Bool
 |none|some .ret=>true
 |_=>false
def iE (p:Program) (main:Bool) (fr:Frame) (callers:List Frame) (jump:Option Code) (w:World):GStep:=
 match fr.roundOf with
 |none=>if Mc jump=true then .go (G {fr with mode:=.returning} callers) w else .ended (.stuck "exit, goto: no such block or label" (fr.pos p)) w
 |some l=>GStep.after (seen p fr.fn ((Instr.endRound l jump).runT p w #[]).2)<|match ((Instr.endRound l jump).runT p w #[]).1 with
  | .ok v w=>doReturn p main fr callers none v w
  | .halt _ w=>.ended (.stuck "range over a function: no such loop" (fr.pos p)) w
theorem XE (F:Fits P fs Sp C) (B:Base c0) {fr:Frame} {csl:List Frame} (h:fH P fs fr) (hc:∀x∈csl,fH P fs x) (jump:Option Code) (hj:∀c,jump=some c->eU P c):
 SL P fs Sp C c0 cs (iE (Pf P fs) true fr (csl++[c0]) jump) (iE P main fr (csl++cs) jump):=by
 cases hr:fr.roundOf with
 |none=>
  by_cases hjj:Mc jump=true
  ·have e:∀(p:Program) (m:Bool) (l:List Frame),iE p m fr l jump=λw=>.go (G {fr with mode:=.returning} l) w:=λp m l=>by
    funext w;unfold iE;simp only [hr];exact if_pos hjj
   rw [e,e];exact jr ⟨h.todo,h.defers,trivial,h.kind,h.fn,λ_=>hr⟩ hc
  ·exact uf λw=>⟨_,_,_,by unfold iE;simp only [hr];exact if_neg hjj⟩
 |some l=>
  refine F7 (Oi l jump λc Av=>by rw [F.loops];exact hj c Av) (λv _=>⟨_,_,F6 (main:=main) B h hc v,λw w' es e=>⟨seen (Pf P fs) fr.fn es,λx hx=>mem_seen hx,?_⟩,λw w' es e=>⟨seen P fr.fn es,λx hx=>mem_seen hx,?_⟩⟩) (λv=>.inr λw w' es e=>?_) (λx w w' es e=>?_) (λx w w' es e=>?_)
  ·unfold iE;simp only [hr,e]
  ·unfold iE;simp only [hr,e]
  ·exact ⟨_,_,_,by unfold iE;simp only [hr,e];rfl⟩
  ·exact ⟨_,_,_,by unfold iE;simp only [hr,e];rfl⟩
  ·exact ⟨_,_,_,by unfold iE;simp only [hr,e];rfl⟩
theorem aBH (F:Fits P fs Sp C) {fr:Frame} {csl:List Frame} (h:fH P fs fr) (hc:∀x∈csl,fH P fs x) {ops:Array Oper} {i:Nat} {is:List Nat} {k:List Item} (ht:fr.todo=.inRegion ops (i::is)::k):
 SL P fs Sp C c0 cs (λw=>stepG.oper (Pf P fs) true fr (csl++[c0]) none w) (λw=>stepG.oper P true fr (csl++cs) none w):=by
 have h1:(∀o∈ops,fF P o=true)/\(fr.roundOf.isSome=true->∀o∈ops,∀c,o.op≠.defer c):=h.todo (.inRegion ops (i::is)) (by rw [ht];exact List.mem_cons_self);have ho:fr.oper?=ops[i]? :=by unfold Frame.oper?;rw [ht]
 cases hoi:ops[i]? with
 |none=>refine uf λw=>⟨_,_,_,by unfold stepG.oper;rw [ho,hoi]⟩
 |some o=>
  have oI:o∈ops:=Array.mem_of_getElem? hoi;have e:∀(p:Program) (l:List Frame) (w:World),stepG.oper p true fr l none w=stepG.apply p true fr l none (execOp fr.eval o) w:=λp l w=>by
   unfold stepG.oper;simp only [ho,hoi];split
   ·rename_i q c hr dC;exact absurd dC (h1.2 (by rw [hr];rfl) o oI c)
   ·rfl
  simp only [e];exact IG F h hc (KC F.toGood F.Yx _ o (h1.1 o oI)) h.I6
theorem aBI (F:Fits P fs Sp C) (B:Base c0) {fr:Frame} {csl:List Frame} (h:fH P fs fr) (hc:∀x∈csl,fH P fs x):
 SL P fs Sp C c0 cs (λw=>stepG.exec (Pf P fs) true true fr (csl++[c0]) none w) (λw=>stepG.exec P main true fr (csl++cs) none w):=by
 have go:∀{todo:List Item},(∀x∈todo,iL P fr.roundOf.isSome x)->(∀(p:Program) (m:Bool) (l:List Frame) (w:World),stepG.exec p m true fr l none w=.go (G {fr with todo} l) w)->SL P fs Sp C c0 cs (λw=>stepG.exec (Pf P fs) true true fr (csl++[c0]) none w) (λw=>stepG.exec P main true fr (csl++cs) none w):=λ{todo} h1 e=>by
  simp only [e];exact jr (h.BP h1) hc
 have lv:∀(jump:Option Code),(∀c,jump=some c->eU P c)->(∀(p:Program) (m:Bool) (l:List Frame) (w:World),stepG.exec p m true fr l none w=iE p m fr l jump w)->SL P fs Sp C c0 cs (λw=>stepG.exec (Pf P fs) true true fr (csl++[c0]) none w) (λw=>stepG.exec P main true fr (csl++cs) none w):=λjump h1 e=>by
  simp only [e];exact XE F B h hc jump h1
 have jb:=h.todo;cases ht:fr.todo with
 |nil=>exact lv none (λc e=>by cases e) λp m l w=>by unfold stepG.exec iE;simp only [ht];rfl
 |cons x k=>
  rw [ht] at jb;have hx:=jb x List.mem_cons_self;have hk:∀y∈k,iL P fr.roundOf.isSome y:=λy hy=>jb y (List.mem_cons_of_mem _ hy);have two:∀{a b:Item},iL P fr.roundOf.isSome a->iL P fr.roundOf.isSome b->∀y∈a::b::k,iL P fr.roundOf.isSome y:=λha hb y hy=>(List.mem_cons.1 hy).elim (λe=>e▸ha) λhy=>(List.mem_cons.1 hy).elim (λe=>e▸hb) (hk y);have one:∀{a:Item},iL P fr.roundOf.isSome a->∀y∈a::k,iL P fr.roundOf.isSome y:=λha y hy=>(List.mem_cons.1 hy).elim (λe=>e▸ha) (hk y);cases x with
  |inBlock id=>exact go hk λp m l w=>by unfold stepG.exec;simp only [ht];rfl
  |inScope c=>exact go hk λp m l w=>by unfold stepG.exec;simp only [ht];rfl
  |inLoop c=>exact go (two (a:=.code c) (b:=.inLoop c) hx hx) λp m l w=>by unfold stepG.exec;simp only [ht];rfl
  |call d b r sv=>exact hx.elim
  |extern r a=>exact hx.elim
  |inRangeFunc l=>exact uf λw=>⟨_,_,_,by unfold stepG.exec;simp only [ht];rfl⟩
  |beginRound=>
   have e:∀(p:Program) (m:Bool) (l:List Frame) (w:World),stepG.exec p m true fr l none w=stepG.apply p true fr l none (do fr.roundOf.elim (stuck "beginRound: no round") Instr.beginRound;pure .skip) w:=λp m l w=>by unfold stepG.exec;simp only [ht]
   simp only [e];refine IG F h hc (tb (φ:=λ_=>True) ?_ λ_ _=>tp trivial) h.I6;cases fr.roundOf with
   |none=>exact af
   |some l=>exact Iq l
  |endRangeFunc l=>
   refine F7 (Ta l) (λj hj=>⟨_,_,jr (h.BP (todo:=(j.map Item.code).toList++k) ?_) hc,λw w' es e=>⟨seen (Pf P fs) fr.fn es,λx hx=>mem_seen hx,?_⟩,λw w' es e=>⟨seen P fr.fn es,λx hx=>mem_seen hx,?_⟩⟩)
    (λv=>.inl ⟨_,_,jr (h.raise (vs:=[{v,recovered:=false}]) λe he=>by simp only [List.mem_singleton] at he;subst he;rfl) hc,λw w' es e=>⟨seen (Pf P fs) fr.fn es,λx hx=>mem_seen hx,?_⟩,λw w' es e=>⟨seen P fr.fn es,λx hx=>mem_seen hx,?_⟩⟩) (λx w w' es e=>?_) (λx w w' es e=>?_)
   ·cases j with
    |none=>exact hk
    |some c=>have:=hj c rfl;rw [F.loops] at this;exact one ⟨this.1,λ_=>this.2⟩
   ·unfold stepG.exec;simp only [ht,e];rfl
   ·unfold stepG.exec;simp only [ht,e];rfl
   ·unfold stepG.exec;simp only [ht,e];rfl
   ·unfold stepG.exec;simp only [ht,e];rfl
   ·exact ⟨_,_,_,by unfold stepG.exec;simp only [ht,e];rfl⟩
   ·exact ⟨_,_,_,by unfold stepG.exec;simp only [ht,e];rfl⟩
  |inRegion ops is=>
   cases is with
   |nil=>exact go hk λp m l w=>by unfold stepG.exec;simp only [ht];rfl
   |cons i is=>
    by_cases hw:(((ops[i]?).map (Region.wanted · (yielded ops fr.tmps))).getD false)=true
    ·have e:∀(p:Program) (m:Bool) (l:List Frame) (w:World),stepG.exec p m true fr l none w=stepG.oper p true fr l none w:=λp m l w=>by unfold stepG.exec;simp only [ht,hw,if_true]
     simp only [e];exact aBH F h hc ht
    ·have e:∀(p:Program) (m:Bool) (l:List Frame) (w:World),stepG.exec p m true fr l none w=.go (G (fr.finish undef) l) w:=λp m l w=>by unfold stepG.exec;simp only [ht,hw,if_false,Bool.false_eq_true];rfl
     simp only [e];exact jr (h.finish undef) hc
  |code c=>
   cases c with
   |skip=>exact go hk λp m l w=>by unfold stepG.exec;simp only [ht];rfl
   |label l=>exact go hk λp m l w=>by unfold stepG.exec;simp only [ht];rfl
   |ret=>exact lv (some .ret) (λc e=>by cases e;exact Ja) λp m l w=>by unfold stepG.exec iE;simp only [ht];rfl
   |seq a b=>have fI:bH P (.seq a b)=true/\(fr.roundOf.isSome=true->fu (.seq a b)=true):=hx;simp only [bH,fu,Bool.and_eq_true] at fI;exact go (two (a:=.code a) (b:=.code b) ⟨fI.1.1,λr=>(fI.2 r).1⟩ ⟨fI.1.2,λr=>(fI.2 r).2⟩) λp m l w=>by unfold stepG.exec;simp only [ht];rfl
   |cond o a b=>
    have fI:bH P (.cond o a b)=true/\(fr.roundOf.isSome=true->fu (.cond o a b)=true):=hx;simp only [bH,fu,Bool.and_eq_true] at fI;cases hb:fr.eval o with
    |bool t=>
     refine go (todo:=.code (if t then a else b)::k) (one ?_) λp m l w=>by unfold stepG.exec;simp only [ht,hb];rfl
     cases t
     ·exact ⟨fI.1.2,λr=>(fI.2 r).2⟩
     ·exact ⟨fI.1.1,λr=>(fI.2 r).1⟩
    |_=>exact uf λw=>⟨_,_,_,by unfold stepG.exec;simp only [ht,hb];rfl⟩
   |block id c=>exact go (two (a:=.code c) (b:=.inBlock id) hx trivial) λp m l w=>by unfold stepG.exec;simp only [ht];rfl
   |loop c=>exact go (two (a:=.code c) (b:=.inLoop c) hx hx) λp m l w=>by unfold stepG.exec;simp only [ht];rfl
   |scope c=>exact go (two (a:=.code c) (b:=.inScope c) hx hx) λp m l w=>by unfold stepG.exec;simp only [ht];rfl
   |refuse s=>exact uf λw=>⟨_,_,_,by unfold stepG.exec;simp only [ht];rfl⟩
   |exit id=>
    cases he:exitTo id k with
    |some k'=>exact go (zM hk he) λp m l w=>by unfold stepG.exec;simp only [ht,he];rfl
    |none=>exact lv (some (.exit id)) (λc e=>by cases e;exact Fg id) λp m l w=>by unfold stepG.exec iE;simp only [ht,he];rfl
   |goto id=>
    cases he:gotoIn id k with
    |some k'=>exact go (zJ hk he) λp m l w=>by unfold stepG.exec;simp only [ht,he];rfl
    |none=>exact lv (some (.goto id)) (λc e=>by cases e;exact Ff id) λp m l w=>by unfold stepG.exec iE;simp only [ht,he];rfl
   |region id ops draw=>
    have fI:ops.all (fF P)=true/\(fr.roundOf.isSome=true->(ops.all λo=>match o.op with| .defer _=>false|_=>true)=true):=hx;have hr:∀is,iL P fr.roundOf.isSome (.inRegion ops is):=λis=>by
     refine ⟨λo ho=>Array.all_eq_true'.1 fI.1 o ho,λr o ho c e=>?_⟩;have:=Array.all_eq_true'.1 (fI.2 r) o ho;simp only [e] at this;cases this
    cases draw with
    |false=>exact go (one (hr (List.range ops.size))) λp m l w=>by unfold stepG.exec;simp only [ht];rfl
    |true=>
     intro wv wa hv;have e:∀(p:Program) (m:Bool) (l:List Frame) (w:World),stepG.exec p m true fr l none w=.go (G {fr with todo:=.inRegion ops (Region.schedule (p.follows .mixedOrders) ops (w.tape w.drawn (.order fr.fn id)))::k} l) {w with drawn:=w.drawn+1}:=λp m l w=>by
      unfold stepG.exec;simp only [ht];rfl
     refine ⟨1,λ_ q=>wa.tape wa.drawn q,.go {fr with todo:=.inRegion ops (Region.schedule (P.follows .mixedOrders) ops (wa.tape wa.drawn (.order fr.fn id)))::k} csl wv,λτ' d hh=>⟨#[],?_⟩,h.BP (one (hr _)),hc,{wa with drawn:=wa.drawn+1},#[],e _ _ _ _,hv.drawn _,Hid.drawn wa _,by simp⟩;have h0:=hh 0 (.order fr.fn id) (by omega);simp only [Nat.add_zero] at h0;simp only [e];show GStep.go (G {fr with todo:=.inRegion ops (Region.schedule (P.follows .mixedOrders) ops (τ' d (.order fr.fn id)))::k} (csl++[c0])) (re wv τ' (d+1)) #[]=_;rw [h0]
   |rangeFunc f ps a b=>
    have fI:bH P (.rangeFunc f ps a b)=true/\(fr.roundOf.isSome=true->fu (.rangeFunc f ps a b)=true):=hx;simp only [bH,Bool.and_eq_true] at fI;have hla:eU P a:=⟨fI.1.1.1.1,fI.1.1.2⟩
    have hlb:eU P b:=⟨fI.1.1.1.2,fI.1.2⟩
    have u6:∀x:Nat×List Deferred,gJ x.2->fH P fs {fr with todo:=.inRangeFunc x.1::k,defers:=x.2++fr.defers}:=λx hd=>
     ⟨one (a:=.inRangeFunc x.1) trivial,λd hdm=>(List.mem_append.1 hdm).elim (hd d) (h.defers d),h.mode,h.kind,h.fn,h.ret⟩
    refine F7 (KD fr.fn fr.tmps ps a b fr.roundOf (by rw [F.loops];exact hla) (by rw [F.loops];exact hlb)) (λx hd=>⟨_,_,IG F (u6 x hd) hc (s:=do
     let d<-resolve ({fr with todo:=.inRangeFunc x.1::k,defers:=x.2++fr.defers}:Frame).eval {callee:=.value f,args:=#[.const (.func (.yield x.1) #[] #[])],argTypes:=#[]} 0
     invoke d.target d.args) (tb (yV _ _ _ λb e=>by cases e) λd hd=>Cz F.toGood F.Yx _ hd.1 _) (u6 x hd).I6,λw w' es e=>⟨seen (Pf P fs) fr.fn es,λx hx=>mem_seen hx,?_⟩,λw w' es e=>⟨seen P fr.fn es,λx hx=>mem_seen hx,?_⟩⟩) (λv=>.inr λw w' es e=>?_) (λx w w' es e=>?_) (λx w w' es e=>?_)
    ·unfold stepG.exec;simp only [ht,e]
    ·unfold stepG.exec;simp only [ht,e]
    ·exact ⟨_,_,_,by unfold stepG.exec;simp only [ht,e];rfl⟩
    ·exact ⟨_,_,_,by unfold stepG.exec;simp only [ht,e];rfl⟩
    ·exact ⟨_,_,_,by unfold stepG.exec;simp only [ht,e];rfl⟩
theorem aBG (F:Fits P fs Sp C) (B:Base c0) {fr:Frame} {csl:List Frame} (h:fH P fs fr) (hc:∀x∈csl,fH P fs x):
 SL P fs Sp C c0 cs (λw=>stepG (Pf P fs) true (G fr (csl++[c0])) w) (λw=>stepG P main (G fr (csl++cs)) w):=by
 cases hm:fr.mode with
 |run=>
  have e:∀(p:Program) (m:Bool) (l:List Frame) (w:World),stepG p m (G fr l) w=stepG.exec p m true fr l none w:=λp m l w=>by unfold stepG G;simp only [hm]
  simp only [e];exact aBI F B h hc
 |returning=>
  have e:∀(p:Program) (m:Bool) (l:List Frame) (w:World),stepG p m (G fr l) w=unwind p m fr l none w:=λp m l w=>by unfold stepG G;simp only [hm]
  simp only [e];exact F4 F B h hc (by rw [hm];exact λx=>by cases x)
 |panicking ch=>
  have e:∀(p:Program) (m:Bool) (l:List Frame) (w:World),stepG p m (G fr l) w=unwind p m fr l none w:=λp m l w=>by unfold stepG G;simp only [hm]
  simp only [e];exact F4 F B h hc (by rw [hm];exact λx=>by cases x)
end
end Ka
namespace Ky
inductive An
 |val (v:Value)
 |QM (x:Option (TypeId×Nat))
 |frz (b:Bool)
 |obj (o:Obj)
 |adr (r:Nat)
inductive Io
 |ld (m:Mode) (a:Addr) (v:Value)
 |st (m:Mode) (a:Addr) (v:Value)
 |mk (m:Mark)
 |sh (r:Nat) (x:Option (TypeId×Nat))
 |fz (a:Addr) (b:Bool)
 |get (r:Nat) (o:Obj)
 |set (r:Nat) (o:Obj)
 |nw (o:Obj) (r:Nat)
def aB6:Value->Bool
 | .agg _| .tuple _=>false
 |_=>true
def Q3:Obj->Bool
 | .cells ..=>false
 |_=>true
def ask {α:Type} (P:Program):Sem α->List An->Option (α×List An×List Io)
 | .pure a,as=>some (a,as,[])
 | .load m a k,.val v::as=>(ask P (k v) as).map λ(x,r,io)=>(x,r,.ld m a v::io)
 | .store m a v k,as=>if aB6 v then (ask P k as).map λ(x,r,io)=>(x,r,.st m a v::io) else none
 | .mark m k,as=>(ask P k as).map λ(x,r,io)=>(x,r,.mk m::io)
 | .program k,as=>ask P (k P) as
 | .shape b k,.QM x::as=>(ask P (k x) as).map λ(y,r,io)=>(y,r,.sh b x::io)
 | .frozen a k,.frz b::as=>(ask P (k b) as).map λ(y,r,io)=>(y,r,.fz a b::io)
 | .getObj b k,.obj o::as=>if Q3 o then (ask P (k o) as).map λ(y,r,io)=>(y,r,.get b o::io) else none
 | .setObj b o k,as=>(ask P k as).map λ(y,r,io)=>(y,r,.set b o::io)
 | .new o k,.adr b::as=>(ask P (k b) as).map λ(y,r,io)=>(y,r,.nw o b::io)
 |_,_=>none
def jg:List Io->World->World->Prop
 |[],w,w'=>w'=w
 | .ld _ a v::l,w,w'=>w.cell? a=some v/\jg l w w'
 | .st _ a v::l,w,w'=>(∃x,w.cell? a=some x)/\w.frozen? a=false/\jg l (w.setCell a v) w'
 | .mk _::l,w,w'=>jg l w w'
 | .sh r x::l,w,w'=>w.shape? r=x/\jg l w w'
 | .fz a b::l,w,w'=>w.frozen? a=b/\jg l w w'
 | .get r o::l,w,w'=>w.heap[r]? =some o/\jg l w w'
 | .set r o::l,w,w'=>(∃x,w.heap[r]? =some x/\Q3 x=true)/\jg l {w with heap:=w.heap.setIfInBounds r o} w'
 | .nw o r::l,w,w'=>r=w.heap.size/\jg l {w with heap:=w.heap.push o} w'
def gV:List Io->List Event
 |[]=>[]
 | .ld m a _::l=>⟨.cell a,false,m==.atomic⟩::gV l
 | .st m a _::l=>⟨.cell a,true,m==.atomic⟩::gV l
 | .mk m::l=>⟨.mark m,false,true⟩::gV l
 | .get r o::l=>⟨.obj r,false,o.isChan⟩::gV l
 | .set r o::l=>⟨.obj r,true,o.isChan⟩::gV l
 |_::l=>gV l
theorem Np {α:Type} (P:Program):∀(s:Sem α) (as oP:List An) (x:α) (io:List Io),ask P s as=some (x,oP,io)->∀w w' es,jg io w w'->s.runT P w es=(.ok x w',es++(gV io).toArray):=λs=>by
 have push:∀(es:Array Event) (e:Event) (l:List Event),es.push e++l.toArray=es++(e::l).toArray:=λes e l=>by
  rw [Array.push_eq_append,Array.append_assoc];simp
 induction s with
 |pure a=>intro as oP x io h w w' es hb;simp only [ask,Option.some.injEq,Prod.mk.injEq] at h;obtain ⟨rfl,rfl,rfl⟩:=h;cases hb;simp [Sem.runT,gV]
 |load m a k ih=>
  intro as oP x io h w w' es hb;cases as with
  |nil=>cases h
  |cons q as=>cases q<;>first|cases h;done|skip
              rename_i v;simp only [ask,Option.map_eq_some_iff] at h;obtain ⟨⟨x0,r0,io0⟩,h1,h2⟩:=h;simp only [Prod.mk.injEq] at h2;obtain ⟨rfl,rfl,rfl⟩:=h2;simp only [Sem.runT,hb.1];rw [ih v _ _ _ _ h1 w w' _ hb.2,push];rfl
 |store m a v k ih=>
  intro as oP x io h w w' es hb;simp only [ask] at h;split at h
  ·rename_i hv;simp only [Option.map_eq_some_iff] at h;obtain ⟨⟨x0,r0,io0⟩,h1,h2⟩:=h;simp only [Prod.mk.injEq] at h2;obtain ⟨rfl,rfl,rfl⟩:=h2;obtain ⟨⟨y,hy⟩,hf,hb⟩:=hb;have e:Sem.runT P (.store m a v k) w es=k.runT P (w.setCell a v) (es.push ⟨.cell a,true,m==.atomic⟩):=by
    cases v<;>first|cases hv;done|simp only [Sem.runT,hy,hf,if_false,Bool.false_eq_true]
   rw [e,ih _ _ _ _ h1 _ w' _ hb,push];rfl
  ·cases h
 |mark m k ih=>intro as oP x io h w w' es hb;simp only [ask,Option.map_eq_some_iff] at h;obtain ⟨⟨x0,r0,io0⟩,h1,h2⟩:=h;simp only [Prod.mk.injEq] at h2;obtain ⟨rfl,rfl,rfl⟩:=h2;simp only [Sem.runT];rw [ih _ _ _ _ h1 w w' _ hb,push];rfl
 |program k ih=>intro as oP x io h w w' es hb;simp only [Sem.runT];exact ih P _ _ _ _ h w w' es hb
 |shape b k ih=>
  intro as oP x io h w w' es hb;cases as with
  |nil=>cases h
  |cons q as=>cases q<;>first|cases h;done|skip
              rename_i v;simp only [ask,Option.map_eq_some_iff] at h;obtain ⟨⟨x0,r0,io0⟩,h1,h2⟩:=h;simp only [Prod.mk.injEq] at h2;obtain ⟨rfl,rfl,rfl⟩:=h2;simp only [Sem.runT,hb.1];exact ih v _ _ _ _ h1 w w' _ hb.2
 |frozen b k ih=>
  intro as oP x io h w w' es hb;cases as with
  |nil=>cases h
  |cons q as=>cases q<;>first|cases h;done|skip
              rename_i v;simp only [ask,Option.map_eq_some_iff] at h;obtain ⟨⟨x0,r0,io0⟩,h1,h2⟩:=h;simp only [Prod.mk.injEq] at h2;obtain ⟨rfl,rfl,rfl⟩:=h2;simp only [Sem.runT,hb.1];exact ih v _ _ _ _ h1 w w' _ hb.2
 |getObj b k ih=>
  intro as oP x io h w w' es hb;cases as with
  |nil=>cases h
  |cons q as=>cases q<;>first|cases h;done|skip
              rename_i o;simp only [ask] at h;split at h
              ·rename_i ho;simp only [Option.map_eq_some_iff] at h;obtain ⟨⟨x0,r0,io0⟩,h1,h2⟩:=h;simp only [Prod.mk.injEq] at h2;obtain ⟨rfl,rfl,rfl⟩:=h2;have e:Sem.runT P (.getObj b k) w es=(k o).runT P w (es.push ⟨.obj b,false,o.isChan⟩):=by
                have:=hb.1;cases o<;>first|cases ho;done|simp only [Sem.runT,this]
               rw [e,ih o _ _ _ _ h1 w w' _ hb.2,push];rfl
              ·cases h
 |setObj b o k ih=>
  intro as oP x io h w w' es hb;simp only [ask,Option.map_eq_some_iff] at h;obtain ⟨⟨x0,r0,io0⟩,h1,h2⟩:=h;simp only [Prod.mk.injEq] at h2;obtain ⟨rfl,rfl,rfl⟩:=h2;obtain ⟨⟨y,hy,hc⟩,hb⟩:=hb;have e:Sem.runT P (.setObj b o k) w es=k.runT P {w with heap:=w.heap.setIfInBounds b o} (es.push ⟨.obj b,true,o.isChan⟩):=by cases y<;>first|cases hc;done|simp only [Sem.runT,hy]
  rw [e,ih _ _ _ _ h1 _ w' _ hb,push];rfl
 |new o k ih=>
  intro as oP x io h w w' es hb;cases as with
  |nil=>cases h
  |cons q as=>cases q<;>first|cases h;done|skip
              rename_i v;simp only [ask,Option.map_eq_some_iff] at h;obtain ⟨⟨x0,r0,io0⟩,h1,h2⟩:=h;simp only [Prod.mk.injEq] at h2;obtain ⟨rfl,rfl,rfl⟩:=h2;simp only [Sem.runT];obtain ⟨rfl,hb⟩:=hb;exact ih _ _ _ _ _ h1 _ w' _ hb
 |_=>intro as oP x io h;simp [ask] at h
def QU:FrameMode->Bool
 | .panicking (e::_)=>e.recovered
 |_=>false
def RU (P:Program) (fr:Frame) (cs:List Frame) (as:List An):Option (Frame×List Frame×List An×List Io):=
 if fr.roundOf.isSome||fr.kind==.early then none else
 match fr.mode with
 | .run=>match fr.todo with
   |[]| .code .ret::_=>some ({fr with mode:=.returning},cs,as,[])
   | .code .skip::k| .code (.label _)::k| .inBlock _::k| .inScope _::k=>some ({fr with todo:=k},cs,as,[])
   | .code (.seq a b)::k=>some ({fr with todo:=.code a::.code b::k},cs,as,[])
   | .code (.cond c a b)::k=>match fr.eval c with
     | .bool t=>some ({fr with todo:=.code (if t then a else b)::k},cs,as,[])
     |_=>none
   | .code (.block id c)::k=>some ({fr with todo:=.code c::.inBlock id::k},cs,as,[])
   | .code (.loop c)::k| .inLoop c::k=>some ({fr with todo:=.code c::.inLoop c::k},cs,as,[])
   | .code (.scope c)::k=>some ({fr with todo:=.code c::.inScope c::k},cs,as,[])
   | .code (.exit id)::k=>(exitTo id k).map λk'=>({fr with todo:=k'},cs,as,[])
   | .code (.region _ ops false)::k=>some ({fr with todo:=.inRegion ops (List.range ops.size)::k},cs,as,[])
   | .inRegion _ []::k=>some ({fr with todo:=k},cs,as,[])
   | .inRegion ops (i::_)::_=>
     if ((ops[i]?).map (Region.wanted · (yielded ops fr.tmps))).getD false then
      match ops[i]? with
      |none=>none
      |some o=>match ask P (execOp fr.eval o) as with
       |some (.value v,oP,io)=>some (fr.finish v,cs,oP,io)
       |some (.skip,oP,io)=>some (fr.finish undef,cs,oP,io)
       |some (.enter f args,oP,io)=>some (Frame.enter P f args .normal,fr::cs,oP,io)
       |some (.defer d,oP,io)=>some ({fr with defers:=d::fr.defers}.finish undef,cs,oP,io)
       |_=>none
     else some (fr.finish undef,cs,as,[])
   |_=>none
 | .returning=>match fr.defers with
   |{target:=.collected _,..}::_=>none
   |d::ds=>match ask P (invoke d.target d.args) as with
    |some (.enter f args,oP,io)=>some (Frame.enter P f args .deferred,{fr with defers:=ds}::cs,oP,io)
    |some (.value _,oP,io)=>some ({fr with defers:=ds},cs,oP,io)
    |_=>none
   |[]=>match P.funcs[fr.fn]? with
    |none=>none
    |some fn=>match cs with
     |[]=>none
     |c::JD=>match ask P (results fn fr.tmps) as with
      |none=>none
      |some (v,oP,io)=>
       if fr.kind==.normal then some (c.finish v,JD,oP,io)
       else if QU c.mode then none else if fr.kind==.deferred then some (c,JD,oP,io) else none
 |_=>none
def aHO (P:Program) (fr:Frame) (cs:List Frame) (io:List Io) (fr':Frame) (JD:List Frame):Prop:=
 ∀(main:Bool) (l:List Frame) (w w':World),jg io w w'->stepG P main (G fr (cs++l)) w=.go (G fr' (JD++l)) w' (seen P fr.fn (gV io).toArray)
theorem gK {P:Program} {fr fr':Frame} {cs JD:List Frame} {as oP:List An} {io:List Io} (h:RU P fr cs as=some (fr',JD,oP,io)):aHO P fr cs io fr' JD:=by
 intro main l w w' hb;unfold RU at h;split at h
 ·cases h
 rename_i Zv;simp only [Bool.or_eq_true,not_or,Bool.not_eq_true] at Zv;obtain ⟨zB,Jo⟩:=Zv;have zB:fr.roundOf=none:=by cases hr:fr.roundOf with|none=>rfl|some x=>rw [hr] at zB;cases zB
 have run:∀{s:Sem Next} {n:Next} {oP:List An},ask P s as=some (n,oP,io)->s.runT P w #[]=(.ok n w',(gV io).toArray):=λ{s n oP} e=>by
  have:=Np P s as oP n io e w w' #[] hb;simpa using this
 split at h
 ·rename_i hm;have e0:stepG P main (G fr (cs++l)) w=stepG.exec P main true fr (cs++l) none w:=by unfold stepG G;simp only [hm]
  rw [e0];split at h
  case h_1 ht=>cases h;cases hb;unfold stepG.exec;simp only [ht,zB];rfl
  case h_2 ht=>cases h;cases hb;unfold stepG.exec;simp only [ht,zB];rfl
  case h_3 ht=>cases h;cases hb;unfold stepG.exec;simp only [ht];rfl
  case h_4 ht=>cases h;cases hb;unfold stepG.exec;simp only [ht];rfl
  case h_5 ht=>cases h;cases hb;unfold stepG.exec;simp only [ht];rfl
  case h_6 ht=>cases h;cases hb;unfold stepG.exec;simp only [ht];rfl
  case h_7 ht=>cases h;cases hb;unfold stepG.exec;simp only [ht];rfl
  case h_8 ht=>
   split at h
   ·rename_i t oU;cases h;cases hb;unfold stepG.exec;simp only [ht,oU];rfl
   ·cases h
  case h_9 ht=>cases h;cases hb;unfold stepG.exec;simp only [ht];rfl
  case h_10 ht=>cases h;cases hb;unfold stepG.exec;simp only [ht];rfl
  case h_11 ht=>cases h;cases hb;unfold stepG.exec;simp only [ht];rfl
  case h_12 ht=>cases h;cases hb;unfold stepG.exec;simp only [ht];rfl
  case h_13 ht=>
   simp only [Option.map_eq_some_iff] at h;obtain ⟨k',hk,h⟩:=h;cases h;cases hb;unfold stepG.exec;simp only [ht,hk];rfl
  case h_14 ht=>cases h;cases hb;unfold stepG.exec;simp only [ht];rfl
  case h_15 ht=>cases h;cases hb;unfold stepG.exec;simp only [ht];rfl
  case h_16 ops i is k ht=>
   split at h
   ·rename_i hw;have e1:stepG.exec P main true fr (cs++l) none w=stepG.oper P true fr (cs++l) none w:=by unfold stepG.exec;simp only [ht,hw,if_true]
    rw [e1];split at h
    ·cases h
    ·rename_i o ho;have dC:fr.oper?=some o:=by unfold Frame.oper?;rw [ht];exact ho
     have e2:stepG.oper P true fr (cs++l) none w=stepG.apply P true fr (cs++l) none (execOp fr.eval o) w:=by unfold stepG.oper;simp only [dC,zB]
     rw [e2];have aRU:(match fr.todo with| .call _ true _ _::_=>CallKind.wrapped|_=>.normal)=.normal:=by rw [ht]
     split at h
     ·rename_i e;cases h;unfold stepG.apply;simp only [if_true,run e,Jo,Bool.false_eq_true,if_false];simp [GStep.after,G]
     ·rename_i e;cases h;unfold stepG.apply;simp only [if_true,run e,Jo,Bool.false_eq_true,if_false];simp [GStep.after,G]
     ·rename_i e;cases h;unfold stepG.apply;simp only [if_true,run e,Jo,Bool.false_eq_true,if_false,ht];simp [GStep.after,G]
     ·rename_i e;cases h;unfold stepG.apply;simp only [if_true,run e,Jo,Bool.false_eq_true,if_false];simp [GStep.after,G]
     ·cases h
   ·rename_i hw;cases h;cases hb;unfold stepG.exec;simp only [ht,hw,if_false,Bool.false_eq_true];rfl
  case h_17=>cases h
 ·rename_i hm;have e0:stepG P main (G fr (cs++l)) w=unwind P main fr (cs++l) none w:=by unfold stepG G;simp only [hm]
  rw [e0];split at h
  ·cases h
  ·rename_i d ds hnc hd;have e1:unwind P main fr (cs++l) none w=callDeferred P {fr with defers:=ds} (cs++l) none d w:=by
    unfold unwind;simp only [hd]
   rw [e1];have hn:¬((d.target matches .nil)&&(({fr with defers:=ds}:Frame).mode matches .panicking _))=true:=by simp [hm]
   split at h
   all_goals first
    |cases h;done
    |(rename_i e;cases h;unfold callDeferred;refine (if_neg hn).trans ?_;simp only [run e];simp [GStep.after,G];done)
    |(rename_i e;cases h;unfold callDeferred;refine (if_neg hn).trans ?_;simp only [run e];done)
  ·rename_i hd;split at h
   ·cases h
   ·rename_i fn Bh;cases cs with
    |nil=>cases h
    |cons c NQ=>
     simp only at h;cases aGB:ask P (results fn fr.tmps) as with
     |none=>rw [aGB] at h;cases h
     |some r=>
      obtain ⟨v,VV,io1⟩:=r;rw [aGB] at h;simp only at h;have key:io1=io->(results fn fr.tmps).runT P w #[]=(.ok v w',(gV io).toArray):=λe=>by
       subst e;have:=Np P _ _ _ _ _ aGB w w' #[] hb;simpa using this
      split at h
      ·rename_i hk;cases h;have lh:fr.kind=.normal:=by simpa using hk
       unfold unwind;simp only [hd,hm,Bh,key rfl,List.cons_append,doReturn,lh];simp [GStep.after,G]
      ·split at h
       ·cases h
       ·rename_i hcm;split at h
        ·rename_i hk;have lh:fr.kind=.deferred:=by simpa using hk
         simp only [Option.some.injEq,Prod.mk.injEq] at h;obtain ⟨rfl,rfl,rfl,hio⟩:=h;unfold unwind;simp only [hd,hm,Bh,key hio,List.cons_append,doReturn,lh];cases aPx:c.mode with
         |panicking ch=>
          cases ch with
          |nil=>simp [GStep.after,G]
          |cons e ch=>
           obtain ⟨x,r,y⟩:=e;cases r with
           |true=>exact absurd (show QU c.mode=true by rw [aPx];rfl) hcm
           |false=>simp [GStep.after,G]
         |run=>simp [GStep.after,G]
         |returning=>simp [GStep.after,G]
        ·cases h
 ·cases h
def walk (P:Program):Nat->Frame->List Frame->List An->Option (Frame×List Frame×List An×List (FuncId×List Io))
 |0,fr,cs,as=>some (fr,cs,as,[])
 |n+1,fr,cs,as=>match RU P fr cs as with
  |none=>none
  |some (fr',JD,oP,io)=>match walk P n fr' JD oP with
   |none=>none
   |some (wm,aQl,aQt,jX)=>some (wm,aQl,aQt,(fr.fn,io)::jX)
end Ky
end
end Go.Proofs.YtmanpggemmgnnaaGreatDoor
