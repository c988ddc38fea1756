/- Races: a part. Conditions: none. -/
import Derived.Conc.TokenTrace
set_option linter.all false
namespace Go.Proofs.YtmanpggemmgnnaaGreatDoor
noncomputable section
open Go Go.Conc
namespace Kv
structure PX (Sh:Loc->Prop) (Pr:Nat->Loc->Prop) (Me:Nat->Loc->Prop) (h:Nat) (t:Trace):Prop where
 clean:∀said,¬Race said t
 known:∀i a,touchAt t i=some a->a.loc.isMemory=true->Knows t h i\/(a.write=false/\∃g,t.g? i=some g/\Pr g a.loc)\/(Sh a.loc/\(a.kind=.atomic\/(a.kind=.said/\t.g? i=some 0)))
 wrote:∀i a,touchAt t i=some a->a.write=true->∀g,Pr g a.loc->Knows t g i
 plain:∀i a,touchAt t i=some a->Sh a.loc->a.kind=.plain->∀g,Me g a.loc->Knows t g i
section
variable {Sh:Loc->Prop} {Pr:Nat->Loc->Prop} {Me:Nat->Loc->Prop} {h:Nat} {t u:Trace}
theorem noRace_app {said:Bool} {g:Nat} (hc:¬Race said t) (hu:∀op∈u,op.g=g)
 (hk:∀i a,touchAt t i=some a->∀op∈u,∀b,op.act.touch?=some b->a.conflicts said b->Knows t g i\/t.g? i=some g):¬Race said (t++u):=by
 refine noRace_append hc hu λi a ha op dC b hb hcf=>?_;rcases hk i a ha op dC b hb hcf with x|x
 ·exact x
 ·obtain ⟨z,hz,_⟩:=touch_of ha;have:=knows_own hz
  rwa [show z.g=g from by have e:=g?_of hz;rw [x] at e;exact (Option.some.inj e).symm] at this
theorem PX.old_known (H:PX Sh Pr Me h t) {h':Nat} (hK:∀i,Knows t h i->Knows (t++u) h' i) {i:Nat} {a:Touch} {x:MemOp} (fI:t[i]? =some x) (kW:x.act.touch?=some a) (hm:a.loc.isMemory=true):
 Knows (t++u) h' i\/(a.write=false/\∃g,(t++u).g? i=some g/\Pr g a.loc)\/(Sh a.loc/\(a.kind=.atomic\/(a.kind=.said/\(t++u).g? i=some 0))):=by
 have hg:(t++u).g? i=t.g? i:=g?_old (lt_size_of_getElem? fI);rw [hg];rcases H.known i a (by rw [touchAt_of fI];exact kW) hm with x|x|x
 ·exact .inl (hK i x)
 ·exact .inr (.inl x)
 ·exact .inr (.inr x)
theorem PX.l5 (H:PX Sh Pr Me h t) {i:Nat} {a:Touch} {x:MemOp} (fI:t[i]? =some x) (kW:x.act.touch?=some a) (hw:a.write=true) (g:Nat) (hp:Pr g a.loc):Knows (t++u) g i:=
 (H.wrote i a (by rw [touchAt_of fI];exact kW) hw g hp).app u
theorem PX.l6 (H:PX Sh Pr Me h t) {i:Nat} {a:Touch} {x:MemOp} (fI:t[i]? =some x) (kW:x.act.touch?=some a) (hs:Sh a.loc) (hk:a.kind=.plain) (g:Nat) (hp:Me g a.loc):Knows (t++u) g i:=
 (H.plain i a (by rw [touchAt_of fI];exact kW) hs hk g hp).app u
theorem PX.own (H:PX Sh Pr Me h t) (hu:∀op∈u,op.g=h) (hs:∀op∈u,∀b,op.act.touch?=some b->(Sh b.loc->b.kind≠.plain)/\(b.write=true->∀g,¬Pr g b.loc)/\(b.kind=.said->h=0)):PX Sh Pr Me h (t++u):=by
 refine ⟨λsaid=>noRace_app (H.clean said) hu λi a ha op dC b hb hc=>?_,λi a ha hm=>?_,λi a ha hw g hp=>?_,λi a ha fT hk g hg=>?_⟩
 ·obtain ⟨h1,h2,h3⟩:=hs op dC b hb;rcases H.known i a ha hc.2.1 with hk|⟨hw,g,hg,hp⟩|⟨hsa,hka⟩
  ·exact .inl hk
  ·rcases hc.2.2.1 with x|x
   ·rw [hw] at x;cases x
   ·exact absurd (hc.1▸hp) (h2 x g)
  ·have hbp:=h1 (hc.1▸hsa);rcases hka with hka|⟨hka,hg⟩
   ·rcases hc.2.2.2 with x|x|⟨_,x,_⟩
    ·rw [hka] at x;cases x
    ·exact absurd x hbp
    ·rw [hka] at x;cases x
   ·rcases hc.2.2.2 with x|x|⟨_,_,x⟩
    ·rw [hka] at x;cases x
    ·exact absurd x hbp
    ·exact .inr (by rw [hg,h3 x])
 ·obtain ⟨x,hx,kW⟩:=touch_of ha;rcases getElem?_append_cases hx with ⟨_,fI⟩|⟨_,Am⟩
  ·exact H.old_known (λi=>Knows.app u) fI kW hm
  ·have:=knows_own hx;rw [hu x Am] at this;exact .inl this
 ·obtain ⟨x,hx,kW⟩:=touch_of ha;rcases getElem?_append_cases hx with ⟨_,fI⟩|⟨_,Am⟩
  ·exact H.l5 fI kW hw g hp
  ·exact absurd hp ((hs x Am a kW).2.1 hw g)
 ·obtain ⟨x,hx,kW⟩:=touch_of ha;rcases getElem?_append_cases hx with ⟨_,fI⟩|⟨_,Am⟩
  ·exact H.l6 fI kW fT hk g hg
  ·exact absurd hk ((hs x Am a kW).1 fT)
theorem PX.mute (H:PX Sh Pr Me h t) (hn:∀op∈u,op.act.touch?=none):PX Sh Pr Me h (t++u):=by
 refine ⟨λsaid=>noRace_appendMute (H.clean said) hn,λi a ha hm=>?_,λi a ha hw g hp=>?_,λi a ha fT hk g hg=>?_⟩
 all_goals
  obtain ⟨x,hx,kW⟩:=touch_of ha;rcases getElem?_append_cases hx with ⟨_,fI⟩|⟨_,Am⟩
  rotate_left
  ·rw [hn x Am] at kW;cases kW
 ·exact H.old_known (λi=>Knows.app u) fI kW hm
 ·exact H.l5 fI kW hw g hp
 ·exact H.l6 fI kW fT hk g hg
theorem PX.reads (H:PX Sh Pr Me h t) {g:Nat} (hu:∀op∈u,op.g=g) (hr:∀op∈u,∀b,op.act.touch?=some b->b.write=false/\Pr g b.loc/\¬Sh b.loc):PX Sh Pr Me h (t++u):=by
 refine ⟨λsaid=>noRace_app (H.clean said) hu λi a ha op dC b hb hc=>?_,λi a ha hm=>?_,λi a ha hw g' hp=>?_,λi a ha fT hk g' hg=>?_⟩
 ·obtain ⟨h1,h2,_⟩:=hr op dC b hb;rcases hc.2.2.1 with x|x
  ·exact .inl (H.wrote i a ha x g (hc.1▸h2))
  ·rw [h1] at x;cases x
 ·obtain ⟨x,hx,kW⟩:=touch_of ha;rcases getElem?_append_cases hx with ⟨_,fI⟩|⟨_,Am⟩
  ·exact H.old_known (λi=>Knows.app u) fI kW hm
  ·exact .inr (.inl ⟨(hr x Am a kW).1,g,by rw [g?_of hx,hu x Am],(hr x Am a kW).2.1⟩)
 ·obtain ⟨x,hx,kW⟩:=touch_of ha;rcases getElem?_append_cases hx with ⟨_,fI⟩|⟨_,Am⟩
  ·exact H.l5 fI kW hw g' hp
  ·rw [(hr x Am a kW).1] at hw;cases hw
 ·obtain ⟨x,hx,kW⟩:=touch_of ha;rcases getElem?_append_cases hx with ⟨_,fI⟩|⟨_,Am⟩
  ·exact H.l6 fI kW fT hk g' hg
  ·exact absurd fT (hr x Am a kW).2.2
theorem PX.leaves (H:PX Sh Pr Me h t) {g:Nat} (iw:∀g' l,Pr g' l->¬Sh l) (hu:∀op∈u,op.g=g) (hr:∀op∈u,∀b,op.act.touch?=some b->Me g b.loc/\Sh b.loc/\b.kind=.atomic):PX Sh Pr Me h (t++u):=by
 refine ⟨λsaid=>noRace_app (H.clean said) hu λi a ha op dC b hb hc=>?_,λi a ha hm=>?_,λi a ha hw g' hp=>?_,λi a ha fT hk g' hg'=>?_⟩
 ·obtain ⟨h0,h1,h2⟩:=hr op dC b hb;rcases hc.2.2.2 with x|x|⟨_,_,x⟩
  ·exact .inl (H.plain i a ha (hc.1▸h1) x g (hc.1▸h0))
  ·rw [h2] at x;cases x
  ·rw [h2] at x;cases x
 ·obtain ⟨x,hx,kW⟩:=touch_of ha;rcases getElem?_append_cases hx with ⟨_,fI⟩|⟨_,Am⟩
  ·exact H.old_known (λi=>Knows.app u) fI kW hm
  ·exact .inr (.inr ⟨(hr x Am a kW).2.1,.inl (hr x Am a kW).2.2⟩)
 ·obtain ⟨x,hx,kW⟩:=touch_of ha;rcases getElem?_append_cases hx with ⟨_,fI⟩|⟨_,Am⟩
  ·exact H.l5 fI kW hw g' hp
  ·exact absurd (hr x Am a kW).2.1 (iw g' _ hp)
 ·obtain ⟨x,hx,kW⟩:=touch_of ha;rcases getElem?_append_cases hx with ⟨_,fI⟩|⟨_,Am⟩
  ·exact H.l6 fI kW fT hk g' hg'
  ·rw [(hr x Am a kW).2.2] at hk;cases hk
theorem PX.give (H:PX Sh Pr Me h t) {j:Nat} (dh:Deaf t h=0) (dj:Deaf t j=0) (fh:FuncId) (ph:String) (fj:FuncId) (pj:String) (c k cap:Nat) {Pr':Nat->Loc->Prop} (hP:∀g l,Pr' g l->Pr g l) (hP':∀g l,Pr g l->g≠j->Pr' g l):
 PX Sh Pr' Me j (t++met h j fh ph fj pj c k cap):=by
 generalize hu:met h j fh ph fj pj c k cap=u;have hn:∀op∈u,op.act.touch?=none:=hu▸met_mute h j fh ph fj pj c k cap;have hq:∀g,∀op∈u,∀d,deafStep g d op=d:=hu▸met_quiet h j fh ph fj pj c k cap;have e0:(t++u)[t.size]? =some {g:=h,fn:=fh,pos:=ph,act:=.send c k}:=by subst hu;simp [met]
 have e3:(t++u)[t.size+3]? =some {g:=j,fn:=fj,pos:=pj,act:=.recvDone c k}:=by subst hu;simp [met]
 have bW:3<=u.size:=by subst hu;simp [met]
 have Vk:HappensBefore (t++u) t.size (t.size+3):=
  Relation.TransGen.single (.inr ⟨.handOver (act?_of e0) (act?_of e3),⟨h,g?_of e0,by rw [deaf_old (Nat.le_refl _)];exact dh⟩,⟨j,g?_of e3,by rw [deaf_quiet (hq j) 3 bW];exact dj⟩⟩)
 have hK:∀i,Knows t h i->Knows (t++u) j i:=λi hk=>⟨t.size+3,_,e3,rfl,.inr ((hk.hb_new (Nat.le_refl _) e0 rfl).trans Vk)⟩
 refine ⟨λsaid=>noRace_appendMute (H.clean said) hn,λi a ha hm=>?_,λi a ha hw g hp=>?_,λi a ha fT hk g hg=>?_⟩
 all_goals
  obtain ⟨x,hx,kW⟩:=touch_of ha;rcases getElem?_append_cases hx with ⟨_,fI⟩|⟨_,Am⟩
  rotate_left
  ·rw [hn x Am] at kW;cases kW
 ·rcases H.old_known (u:=u) hK fI kW hm with y|⟨y,g,hg,hp⟩|y
  ·exact .inl y
  ·by_cases e:g=j
   ·subst e;have:=knows_own hx;rw [show x.g=g from by have e:=g?_of hx;rw [hg] at e;exact (Option.some.inj e).symm] at this;exact .inl this
   ·exact .inr (.inl ⟨y,g,hg,hP' g _ hp e⟩)
  ·exact .inr (.inr y)
 ·exact H.l5 fI kW hw g (hP g _ hp)
 ·exact H.l6 fI kW fT hk g hg
theorem PX.aJa (H:PX Sh Pr Me h t) {Sh':Loc->Prop} (h1:∀l,Sh l->Sh' l) (h2:∀g l,Me g l->Sh l):PX Sh' Pr Me h t:=
 ⟨H.clean,λi a ha hm=>(H.known i a ha hm).imp id (Or.imp id λ⟨x,y⟩=>⟨h1 _ x,y⟩),H.wrote,λi a ha _ hk g hg=>H.plain i a ha (h2 _ _ hg) hk g hg⟩
theorem PX.hire (H:PX Sh Pr Me h t) {c:Nat} (dh:Deaf t h=0) (dc:Deaf t c=0) (fh:FuncId) (ph:String) (fc:FuncId) {Pr' Me':Nat->Loc->Prop} (oI:∀g l,Pr' g l->l.isMemory=true) (aKx:∀l,Sh l->l.isMemory=true) (iw:∀g l,Pr g l->¬Sh l) (hP0:∀g l,Pr g l->Pr' g l)
 (hP:∀g l,Pr' g l->Pr g l\/((g=c\/g=h)/\¬Sh l)) (hM:∀g l,Me' g l->Me g l\/(g=c/\Sh l)):
 PX Sh Pr' Me' h (t++#[{g:=h,fn:=fh,pos:=ph,act:=.go c},{g:=c,fn:=fc,pos:=ph,act:=.start}]):=by
 generalize hu:(#[{g:=h,fn:=fh,pos:=ph,act:=.go c},{g:=c,fn:=fc,pos:=ph,act:=.start}]:Trace)=u;have hn:∀op∈u,op.act.touch?=none:=by intro op dC;subst hu;simp only [List.mem_toArray,List.mem_cons,List.not_mem_nil,or_false] at dC;rcases dC with rfl|rfl<;>rfl
 have hq:∀g,∀op∈u,∀d,deafStep g d op=d:=by intro g op dC d;subst hu;simp only [List.mem_toArray,List.mem_cons,List.not_mem_nil,or_false] at dC;rcases dC with rfl|rfl<;>rfl
 have e0:(t++u)[t.size]? =some {g:=h,fn:=fh,pos:=ph,act:=.go c}:=by subst hu;simp
 have e1:(t++u)[t.size+1]? =some {g:=c,fn:=fc,pos:=ph,act:=.start}:=by subst hu;simp
 have bW:1<=u.size:=by subst hu;simp
 have Vk:HappensBefore (t++u) t.size (t.size+1):=
  Relation.TransGen.single (.inr ⟨.spawn (act?_of e0) (act?_of e1) (g?_of e1),⟨h,g?_of e0,by rw [deaf_old (Nat.le_refl _)];exact dh⟩,⟨c,g?_of e1,by rw [deaf_quiet (hq c) 1 bW];exact dc⟩⟩)
 have hK:∀i,Knows t h i->Knows (t++u) c i:=λi hk=>⟨t.size+1,_,e1,rfl,.inr ((hk.hb_new (Nat.le_refl _) e0 rfl).trans Vk)⟩
 refine ⟨λsaid=>noRace_appendMute (H.clean said) hn,λi a ha hm=>?_,λi a ha hw g hp=>?_,λi a ha fT hk g hg=>?_⟩
 all_goals
  obtain ⟨x,hx,kW⟩:=touch_of ha;rcases getElem?_append_cases hx with ⟨_,fI⟩|⟨_,Am⟩
  rotate_left
  ·rw [hn x Am] at kW;cases kW
 ·rcases H.old_known (u:=u) (λi=>Knows.app u) fI kW hm with y|⟨y,g,hg,hp⟩|y
  ·exact .inl y
  ·exact .inr (.inl ⟨y,g,hg,hP0 g _ hp⟩)
  ·exact .inr (.inr y)
 ·rcases hP g _ hp with hp1|⟨hgc,hns⟩
  ·exact H.l5 fI kW hw g hp1
  ·have uz:touchAt t i=some a:=by rw [touchAt_of fI];exact kW
   rcases H.known i a uz (oI g _ hp) with y|⟨y,_⟩|⟨y,_⟩
   ·rcases hgc with rfl|rfl
    ·exact hK i y
    ·exact y.app u
   ·rw [y] at hw;cases hw
   ·exact absurd y hns
 ·rcases hM g _ hg with hm|⟨rfl,hs⟩
  ·exact H.l6 fI kW fT hk g hm
  ·have uz:touchAt t i=some a:=by rw [touchAt_of fI];exact kW
   rcases H.known i a uz (aKx _ hs) with y|⟨_,g',_,hp⟩|⟨_,y|⟨y,_⟩⟩
   ·exact hK i y
   ·exact absurd hs (iw g' _ hp)
   ·rw [y] at hk;cases hk
   ·rw [y] at hk;cases hk
end
end Kv
end
end Go.Proofs.YtmanpggemmgnnaaGreatDoor
