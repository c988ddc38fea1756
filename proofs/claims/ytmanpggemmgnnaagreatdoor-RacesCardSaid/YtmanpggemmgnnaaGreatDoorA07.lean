/- Races: a part. Conditions: none. -/
import Derived.Conc.EventLaws
import Derived.Test.YtmanpggemmgnnaaGreatDoorA05
set_option linter.all false
namespace Go.Proofs.YtmanpggemmgnnaaGreatDoor
noncomputable section
open Go Go.Conc
namespace Ka
section
variable {P:Program} {fs:Array Func} {Sp:FuncId->Prop} {C:Cut} {c0:Frame} {cs:List Frame} {main:Bool} {Stop:Frame->World->Prop}
theorem Kg {wv wa:World} (τ:Nat->Question->Nat) (d:Nat):Vw C (re wv τ d) wa↔Vw C wv wa:=⟨λh=>⟨h.size,h.os,h.same,h.cut,h.chan,h.plain,h.loops⟩,λh=>⟨h.size,h.os,h.same,h.cut,h.chan,h.plain,h.loops⟩⟩
theorem QL {fr fr':Frame} {csl csl':List Frame} {wv:World} {d:Nat} (e:∀w,stepG P main (G fr (csl++cs)) w=.go (G fr' (csl'++cs)) w) (h:kJ P C main cs Stop fr' csl' wv d):kJ P C main cs Stop fr csl wv d:=
 kJ.of P C main cs Stop λwa hv=>⟨fr',csl',wv,wa,#[],e wa,⟨hv,Hid.refl C wa,by simp⟩,h⟩
theorem XG {l:List Frame} {St:Frame->World->Prop} {fr:Frame} {csl:List Frame} {wv:World} {d:Nat} (h:kJ P C main (l++cs) St fr csl wv d) (hn:∀fr' wv',St fr' wv'->kJ P C main cs Stop fr' l wv' 0):kJ P C main cs Stop fr (csl++l) wv d:=by
 induction h with
 |stop h=>exact hn _ _ h
 |step n h ih ih'=>refine .step (λwa hv=>((n wa hv).1,(n wa hv).2.1++l,(n wa hv).2.2.1,(n wa hv).2.2.2)) (λwa hv=>?_) λwa hv=>ih' wa hv;obtain ⟨bO,es,e1,e2⟩:=h wa hv;exact ⟨bO,es,by simpa only [List.append_assoc] using e1,e2⟩
theorem Gu (tmps:Array Value) {f:ResultVar->Sem Value} (hf:∀t,f (.tmp t)=pure (tmps.getD t undef)):∀(l:List ResultVar),(∀r∈l,∃t,r=.tmp t)->∃vs:List Value,l.mapM f=pure vs
 |[],_=>⟨[],rfl⟩
 |r::l,h=>by
  obtain ⟨t,rfl⟩:=h r List.mem_cons_self;obtain ⟨vs,e⟩:=Gu tmps hf l λr hr=>h r (List.mem_cons_of_mem _ hr);refine ⟨tmps.getD t undef::vs,?_⟩;rw [List.mapM_cons,e,hf];rfl
theorem O4 {α:Type} (tmps:Array Value) {f:ResultVar->Sem Value} (hf:∀t,f (.tmp t)=pure (tmps.getD t undef)) (l:Array ResultVar) (h:∀r∈l,∃t,r=.tmp t) (k:Array Value->α):∃v,(l.mapM f >>= λvs=>pure (k vs):Sem α)=pure v:=by obtain ⟨vs,e⟩:=Gu tmps hf l.toList λr hr=>h r (Array.mem_toList_iff.1 hr);rw [Array.mapM_eq_mapM_toList,e];exact ⟨_,rfl⟩
theorem xO {fn:Func} (h:∀r∈fn.results,∃t,r=.tmp t) (tmps:Array Value):∃v,results fn tmps=pure v:=by unfold results;exact O4 tmps (λt=>rfl) fn.results h _
theorem TG (F:Fits P fs Sp C) (B:Base c0) (S:Qk P fs Sp C) {f:FuncId} {args:Array Value} {wv:World} {fr:Frame} {csl:List Frame} {fn:Func} {c:Code} (gz:fs[f]? =P.funcs[f]?) (hf:fs[f]? =some fn) (hb:fn.body=some c) (iO:∀r∈fn.results,∃t,r=.tmp t)
 (Post:Value->World->Prop) (hP:∀v w τ d,Post v (re w τ d)->Post v w)
 (ve:∀τ d,Calls (Pf P fs) f args (re wv τ d) λe w'=>∃v,e=.returned v/\Post v w')
 (Ze:∀v wv',Post v wv'->kJ P C main cs Stop (fr.finish v) csl wv' 0):kJ P C main cs Stop (Frame.enter P f args .normal) (fr::csl) wv 0:=by
 have hfP:P.funcs[f]? =some fn:=gz▸hf;let St:Frame->World->Prop:=λfr' w'=>fr'.fn=f/\fr'.mode=.returning/\fr'.defers=[]/\fr'.kind=.normal/\∃v,results fn fr'.tmps=pure v/\Post v w';have YH:kJ P C main ((fr::csl)++cs) St (Frame.enter P f args .normal) [] wv 0:=by
  refine nW F B S (yx F gz hf hb args (.inl rfl)) (λτ d=>?_) (λfr' w τ d h=>?_)
  ·obtain ⟨e,w',fr',⟨v,rfl,DY⟩,hc,Bh,hm,hd,hk,Vh,NM,hr⟩:=ve τ d [c0];obtain ⟨N,hN⟩:Steps (Pf P fs) (lone (Frame.enter (Pf P fs) f args .normal) [c0] (re wv τ d)) (lone fr' [c0] w'):=hc;refine ⟨N,fr',w',⟨Bh,hm,hd,hk,?_⟩,by rw [<-yz gz];exact hN⟩;have:(Pf P fs).funcs[fr'.fn]? =some fn:=by rw [Bh];exact hf
   rw [this] at NM;obtain rfl:=Option.some.inj NM;obtain ⟨u,hu⟩:=xO iO fr'.tmps;rw [hu] at hr;obtain rfl:u=v:=by have:Result.ok u w'=Result.ok v w':=hr;exact (Result.ok.inj this).1
   exact ⟨u,hu,DY⟩
  ·obtain ⟨h1,h2,h3,h4,v,h5,h6⟩:=h;exact ⟨h1,h2,h3,h4,v,h5,hP _ _ _ _ h6⟩
 refine XG (csl:=[]) YH λfr' wv' ⟨h1,h2,h3,h4,v,h5,h6⟩=>?_;refine QL (fr':=fr.finish v) (csl':=csl) (λw=>?_) (Ze v wv' h6);have e:stepG P main (G fr' (fr::csl++cs)) w=unwind P main fr' (fr::csl++cs) none w:=by unfold stepG G;simp only [h2]
 rw [e];unfold unwind;simp only [h3,h2,h1,hfP,h5,List.cons_append];simp only [doReturn,h4];rfl
end
end Ka
section
open Ky
namespace Ka
section
variable {P:Program} {C:Cut} {cs:List Frame} {main:Bool} {Stop:Frame->World->Prop}
def I9 (C:Cut):Mark->Prop
 | .extern _| .noRoom| .disable| .enable=>True
 | .acquire a| .release a| .releaseMerge a=>C.ch a.block=false/\∀n,C.hd a.block=some n->a.off<n
 |_=>False
def nD (C:Cut):List Io->World->World->Prop
 |[],w,w'=>w'=w
 | .ld _ a v::l,w,w'=>w.cell? a=some v/\nD C l w w'
 | .st _ a v::l,w,w'=>(∃x,w.cell? a=some x)/\w.frozen? a=false/\nD C l (w.setCell a v) w'
 | .mk m::l,w,w'=>I9 C m/\nD C l w w'
 | .sh r x::l,w,w'=>(∀wa,Vw C w wa->wa.shape? r=x)/\nD C l w w'
 | .fz a b::l,w,w'=>(∀wa,Vw C w wa->wa.frozen? a=b)/\nD C l w w'
 | .nw o r::l,w,w'=>r=w.heap.size/\iK C o/\nD C l {w with heap:=w.heap.push o} w'
 |_::_,_,_=>False
theorem aEX (P:Program) {wv wa:World} (hv:Vw C wv wa) {o:Obj} (ho:iK C o):Vw C {wv with heap:=wv.heap.push o} {wa with heap:=wa.heap.push o}/\Hid C wa {wa with heap:=wa.heap.push o}:=by
 obtain ⟨k,τ,r,h1,h2⟩:=Q9 (P:=P) (Q:=P) ho wv wa hv;have h3:=h1 τ 0 λi q _=>by rw [Nat.zero_add]
 cases r with
 |halt x w=>cases h3
 |ok a w=>
  obtain ⟨_,bO,es,e1,e2,e3,_⟩:=h2;have e4:=e1 #[];simp only [Sem.runT,Prod.mk.injEq,Result.ok.injEq] at e4;obtain ⟨⟨_,rfl⟩,_⟩:=e4;have e5:re {wv with heap:=wv.heap.push o} τ 0=re w τ (0+k):=by have:Sem.run P (.new o .pure) (re wv τ 0)=.ok (re wv τ 0).heap.size {(re wv τ 0) with heap:=(re wv τ 0).heap.push o}:=rfl;rw [this] at h3;simp only [JW,Result.ok.injEq] at h3;exact h3.2
  refine ⟨?_,e3⟩;have:=(Kg (C:=C) (wa:={wa with heap:=wa.heap.push o}) τ (0+k)).2 e2;rw [<-e5] at this;exact (Kg τ 0).1 this
theorem NW (io:List Io):∀{wv wv' wa:World},nD C io wv wv'->Vw C wv wa->∃bO,jg io wa bO/\Vw C wv' bO/\Hid C wa bO/\∀e∈gV io,oQ C e\/e.mute=true:=by
 induction io with
 |nil=>intro wv wv' wa h hv;cases h;exact ⟨wa,rfl,hv,Hid.refl C wa,λe he=>by cases he⟩
 |cons i l ih=>
  intro wv wv' wa h hv;cases i with
  |ld m a v=>
   obtain ⟨hc,h⟩:=h;obtain ⟨bO,h1,h2,h3,h4⟩:=ih h hv;obtain ⟨e1,e2,e3⟩:=hv.cell hc;refine ⟨bO,⟨e1,h1⟩,h2,h3,λe he=>?_⟩;rcases List.mem_cons.1 he with rfl|he
   ·exact .inl ⟨e2,λn hn=>⟨(e3 n hn).1,(e3 n hn).2,λx=>by cases x⟩⟩
   ·exact h4 e he
  |st m a v=>
   obtain ⟨⟨x,hx⟩,hf,h⟩:=h;obtain ⟨e1,e2,e3⟩:=hv.cell hx;obtain ⟨f1,f2⟩:=uB hv hx hf;obtain ⟨bO,h1,h2,h3,h4⟩:=ih h (hv.setCell hx);refine ⟨bO,⟨⟨x,e1⟩,f1,h1⟩,h2,(Hid.setCell hv hx f2).trans h3,λe he=>?_⟩;rcases List.mem_cons.1 he with rfl|he
   ·exact .inl ⟨e2,λn hn=>⟨(e3 n hn).1,(e3 n hn).2,λ_=>f2 n hn⟩⟩
   ·exact h4 e he
  |mk m=>
   obtain ⟨hm,h⟩:=h;obtain ⟨bO,h1,h2,h3,h4⟩:=ih h hv;refine ⟨bO,h1,h2,h3,λe he=>?_⟩;rcases List.mem_cons.1 he with rfl|he
   ·cases m<;>first|exact .inr rfl|exact .inl trivial|exact .inl hm|exact hm.elim
   ·exact h4 e he
  |sh r x=>obtain ⟨hx,h⟩:=h;obtain ⟨bO,h1,h2,h3,h4⟩:=ih h hv;exact ⟨bO,⟨hx wa hv,h1⟩,h2,h3,h4⟩
  |fz a b=>obtain ⟨hx,h⟩:=h;obtain ⟨bO,h1,h2,h3,h4⟩:=ih h hv;exact ⟨bO,⟨hx wa hv,h1⟩,h2,h3,h4⟩
  |nw o r=>obtain ⟨hr,ho,h⟩:=h;obtain ⟨e1,e2⟩:=aEX (default:Program) hv ho;obtain ⟨bO,h1,h2,h3,h4⟩:=ih h e1;exact ⟨bO,⟨hr.trans hv.size,h1⟩,h2,e2.trans h3,h4⟩
  |_=>exact h.elim
def nC (P:Program) (C:Cut):List (FuncId×List Io)->World->World->Nat->Nat->Prop
 |[],w,w',d,d'=>w'=w/\d'=d
 |(fn,io)::l,w,w',d,d'=>∃w1,nD C io w w1/\nC P C l w1 w' (deafBehind d (seen P fn (gV io).toArray)) d'
theorem KP:∀(n:Nat) {fr fr':Frame} {csl csl':List Frame} {as oP:List An} {jX:List (FuncId×List Io)} {wv wv':World} {d d':Nat},walk P n fr csl as=some (fr',csl',oP,jX)->nC P C jX wv wv' d d'->
 kJ P C main cs Stop fr' csl' wv' d'->kJ P C main cs Stop fr csl wv d
 |0,fr,fr',csl,csl',as,oP,jX,wv,wv',d,d',h,hb,hs=>by
  simp only [walk,Option.some.injEq,Prod.mk.injEq] at h;obtain ⟨rfl,rfl,rfl,rfl⟩:=h;obtain ⟨rfl,rfl⟩:=hb;exact hs
 |n+1,fr,fr',csl,csl',as,oP,jX,wv,wv',d,d',h,hb,hs=>by
  simp only [walk] at h;split at h
  ·cases h
  ·rename_i Bj NQ VV io lT;split at h
   ·cases h
   ·rename_i fr2 cs2 as2 Mf hw;cases h;obtain ⟨w1,ll,gQ⟩:=hb;refine kJ.ofS P C main cs Stop λwa hv=>?_;obtain ⟨bO,h1,h2,h3,h4⟩:=NW io ll hv;refine ⟨Bj,NQ,w1,bO,_,_,gK lT main cs wa bO h1,⟨h2,h3,λe he=>h4 e (by simpa using mem_seen he),rfl⟩,KP n hw gQ hs⟩
end
section
variable {P:Program} {main:Bool} {R:World->World->Prop} {D:World->World->Array Event->Prop} {Stop:Goroutine->World->Prop}
theorem G9 (trans:∀a b c,R a b->R b c->R a c):∀(n m:Nat) {fr fr':Frame} {csl csl' cs:List Frame} {as oP:List An} {jX:List (FuncId×List Io)} {w:World},walk P n fr csl as=some (fr',csl',oP,jX)->
 (∀x∈jX,∀w₁,R w w₁->jg x.2 w₁ w₁/\D w₁ w₁ (seen P x.1 (gV x.2).toArray))->Goes P main R D Stop m (G fr' (csl'++cs)) w->Goes P main R D Stop (m+n) (G fr (csl++cs)) w
 |0,m,fr,fr',csl,csl',cs,as,oP,jX,w,h,hb,hs=>by
  simp only [walk,Option.some.injEq,Prod.mk.injEq] at h;obtain ⟨rfl,rfl,rfl,rfl⟩:=h;exact hs
 |n+1,m,fr,fr',csl,csl',cs,as,oP,jX,w,h,hb,hs=>by
  simp only [walk] at h;split at h
  ·cases h
  ·rename_i Bj NQ VV io lT;split at h
   ·cases h
   ·rename_i fr2 cs2 as2 Mf hw;cases h;refine Goes.step (n:=m+n) rfl λw₁ hr=>?_;obtain ⟨b1,b2⟩:=hb _ List.mem_cons_self w₁ hr;rw [gK lT main cs w₁ w₁ b1,goes_go];refine ⟨b2,G9 trans n m hw (λx hx w₂ VL=>hb x (List.mem_cons_of_mem _ hx) w₂ (trans _ _ _ hr VL)) (hs.rely trans hr)⟩
end
end Ka
end
end
end Go.Proofs.YtmanpggemmgnnaaGreatDoor
