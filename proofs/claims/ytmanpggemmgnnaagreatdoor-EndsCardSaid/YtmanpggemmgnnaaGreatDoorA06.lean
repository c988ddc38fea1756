/- Ends: a part. Conditions: none. -/
import Derived.Conc.TokenTrace
import Derived.Test.YtmanpggemmgnnaaGreatDoorA90
set_option linter.all false
namespace Go.Proofs.YtmanpggemmgnnaaGreatDoor
noncomputable section
open Go Go.Conc
def ż:=@getElem?_append_cases
def Ż:=@noRace_appendMute
def ź:=@touchAt_of
def Ź:=@Knows.app
def Ÿ:=@touch_of
def ŷ:=@g?_of
namespace Kv
structure PX(Sh:Loc->Prop)(Pr:Nat->Loc->Prop)(Me:Nat->Loc->Prop)h t:Prop where
 clean:∀said,¬Race said t
 known:∀i a,touchAt t i=some a->a.loc.isMemory=true->Knows t h i\/(a.write=false/\∃g,t.g? i=some g/\Pr g a.loc)\/(Sh a.loc/\(a.kind=.atomic\/(a.kind=.said/\t.g? i=some 0)))
 wrote:∀i a,touchAt t i=some a->a.write=true->∀g,Pr g a.loc->Knows t g i
 plain:∀i a,touchAt t i=some a->Sh a.loc->a.kind=.plain->∀g,Me g a.loc->Knows t g i
section
variable {Sh:Loc->Prop}{Pr:Nat->Loc->Prop}{Me:Nat->Loc->Prop}{h:Nat}{t u:Trace}
def noRace_app{said g}(L:¬Race said t)(hu:∀op∈u,op.g=g)
 (A:∀i a,touchAt t i=some a->∀op∈u,∀b,op.act.touch?=some b->a.conflicts said b->Knows t g i\/t.g? i=some g):¬Race said (t++u):=by
 refine noRace_append L hu λi a ha op vh b hb hcf=>?_;rcases A i a ha op vh b hb hcf with x|x
 ·exact x
 ·obtain⟨z,hz,_⟩:=Ÿ ha;have:=knows_own hz
  rwa[show z.g=g from by have e:=ŷ hz;rw[x]at e;exact(ay e).symm]at this
def PX.old_known{h' i x a}(H:PX Sh Pr Me h t)(hK:∀i,Knows t h i->Knows (t++u) h' i)(fI:t[i]? =some x)(kW:x.act.touch?=some a)(hm:a.loc.isMemory=true):
 Knows (t++u) h' i\/(a.write=false/\∃g,(t++u).g? i=some g/\Pr g a.loc)\/(Sh a.loc/\(a.kind=.atomic\/(a.kind=.said/\(t++u).g? i=some 0))):=by
 have hg:(t++u).g? i=t.g? i:=g?_old (lt_size_of_getElem? fI);rw[hg];rcases H.known i a (by rw[ź fI];exact kW) hm with x|x|x
 ·exact .inl (hK i x)
 ·exact .inr (.inl x)
 ·exact .inr (.inr x)
def PX.l5{i x a}(H:PX Sh Pr Me h t)(fI:t[i]? =some x)(kW:x.act.touch?=some a)(hw:a.write=true)g(hp:Pr g a.loc):Knows (t++u) g i:=
 (H.wrote i a (by rw[ź fI];exact kW) hw g hp).app u
def PX.l6{i x a}(H:PX Sh Pr Me h t)(fI:t[i]? =some x)(kW:x.act.touch?=some a)(hs:Sh a.loc)(A:a.kind=.plain)g(hp:Me g a.loc):Knows (t++u) g i:=
 (H.plain i a (by rw[ź fI];exact kW) hs A g hp).app u
def PX.own(H:PX Sh Pr Me h t)(hu:∀op∈u,op.g=h)(hs:∀op∈u,∀b,op.act.touch?=some b->(Sh b.loc->b.kind≠.plain)/\(b.write=true->∀g,¬Pr g b.loc)/\(b.kind=.said->h=0)):PX Sh Pr Me h (t++u):=by
 refine⟨λsaid=>noRace_app (H.clean said) hu λi a ha op vh b hb L=>?_,λi a ha hm=>?_,λi a ha hw g hp=>?_,λi a ha fT A g hg=>?_⟩
 ·obtain⟨V,J,h3⟩:=hs op vh b hb;rcases H.known i a ha L.2.1 with A|⟨hw,g,hg,hp⟩|⟨hsa,hka⟩
  ·exact .inl A
  ·rcases L.2.2.1 with x|x
   ·rw[hw]at x;cases x
   ·exact absurd (L.1▸hp) (J x g)
  ·have hbp:=V (L.1▸hsa);rcases hka with hka|⟨hka,hg⟩
   ·rcases L.2.2.2 with x|x|⟨_,x,_⟩
    ·rw[hka]at x;cases x
    ·exact absurd x hbp
    ·rw[hka]at x;cases x
   ·rcases L.2.2.2 with x|x|⟨_,_,x⟩
    ·rw[hka]at x;cases x
    ·exact absurd x hbp
    ·exact .inr (by rw[hg,h3 x])
 ·obtain⟨x,E,kW⟩:=Ÿ ha;rcases ż E with⟨_,fI⟩|⟨_,Am⟩
  ·exact H.old_known (λi=>Ź u) fI kW hm
  ·have:=knows_own E;rw[hu x Am]at this;exact .inl this
 ·obtain⟨x,E,kW⟩:=Ÿ ha;rcases ż E with⟨_,fI⟩|⟨_,Am⟩
  ·exact H.l5 fI kW hw g hp
  ·exact absurd hp ((hs x Am a kW).2.1 hw g)
 ·obtain⟨x,E,kW⟩:=Ÿ ha;rcases ż E with⟨_,fI⟩|⟨_,Am⟩
  ·exact H.l6 fI kW fT A g hg
  ·exact absurd A ((hs x Am a kW).1 fT)
def PX.mute(H:PX Sh Pr Me h t)(Q:∀op∈u,op.act.touch?=none):PX Sh Pr Me h (t++u):=by
 refine⟨λsaid=>Ż (H.clean said) Q,λi a ha hm=>?_,λi a ha hw g hp=>?_,λi a ha fT A g hg=>?_⟩
 all_goals
  obtain⟨x,E,kW⟩:=Ÿ ha;rcases ż E with⟨_,fI⟩|⟨_,Am⟩
  rotate_left
  ·rw[Q x Am]at kW;cases kW
 ·exact H.old_known (λi=>Ź u) fI kW hm
 ·exact H.l5 fI kW hw g hp
 ·exact H.l6 fI kW fT A g hg
def PX.reads{g}(H:PX Sh Pr Me h t)(hu:∀op∈u,op.g=g)(Y:∀op∈u,∀b,op.act.touch?=some b->b.write=false/\Pr g b.loc/\¬Sh b.loc):PX Sh Pr Me h (t++u):=by
 refine⟨λsaid=>noRace_app (H.clean said) hu λi a ha op vh b hb L=>?_,λi a ha hm=>?_,λi a ha hw g' hp=>?_,λi a ha fT A g' hg=>?_⟩
 ·obtain⟨V,J,_⟩:=Y op vh b hb;rcases L.2.2.1 with x|x
  ·exact .inl (H.wrote i a ha x g (L.1▸J))
  ·rw[V]at x;cases x
 ·obtain⟨x,E,kW⟩:=Ÿ ha;rcases ż E with⟨_,fI⟩|⟨_,Am⟩
  ·exact H.old_known (λi=>Ź u) fI kW hm
  ·exact .inr (.inl ⟨(Y x Am a kW).1,g,by rw[ŷ E,hu x Am],(Y x Am a kW).2.1⟩)
 ·obtain⟨x,E,kW⟩:=Ÿ ha;rcases ż E with⟨_,fI⟩|⟨_,Am⟩
  ·exact H.l5 fI kW hw g' hp
  ·rw[(Y x Am a kW).1]at hw;cases hw
 ·obtain⟨x,E,kW⟩:=Ÿ ha;rcases ż E with⟨_,fI⟩|⟨_,Am⟩
  ·exact H.l6 fI kW fT A g' hg
  ·exact absurd fT (Y x Am a kW).2.2
def PX.leaves{g}(H:PX Sh Pr Me h t)(vy:∀g' l,Pr g' l->¬Sh l)(hu:∀op∈u,op.g=g)(Y:∀op∈u,∀b,op.act.touch?=some b->Me g b.loc/\Sh b.loc/\b.kind=.atomic):PX Sh Pr Me h (t++u):=by
 refine⟨λsaid=>noRace_app (H.clean said) hu λi a ha op vh b hb L=>?_,λi a ha hm=>?_,λi a ha hw g' hp=>?_,λi a ha fT A g' hg'=>?_⟩
 ·obtain⟨h0,V,J⟩:=Y op vh b hb;rcases L.2.2.2 with x|x|⟨_,_,x⟩
  ·exact .inl (H.plain i a ha (L.1▸V) x g (L.1▸h0))
  ·rw[J]at x;cases x
  ·rw[J]at x;cases x
 ·obtain⟨x,E,kW⟩:=Ÿ ha;rcases ż E with⟨_,fI⟩|⟨_,Am⟩
  ·exact H.old_known (λi=>Ź u) fI kW hm
  ·exact .inr (.inr ⟨(Y x Am a kW).2.1,.inl (Y x Am a kW).2.2⟩)
 ·obtain⟨x,E,kW⟩:=Ÿ ha;rcases ż E with⟨_,fI⟩|⟨_,Am⟩
  ·exact H.l5 fI kW hw g' hp
  ·exact absurd (Y x Am a kW).2.1 (vy g' _ hp)
 ·obtain⟨x,E,kW⟩:=Ÿ ha;rcases ż E with⟨_,fI⟩|⟨_,Am⟩
  ·exact H.l6 fI kW fT A g' hg'
  ·rw[(Y x Am a kW).2.2]at A;cases A
def PX.give{j Pr'}(H:PX Sh Pr Me h t)(dh:Deaf t h=0)(dj:Deaf t j=0)fh ph fj pj c k cap(hP:∀g l,Pr' g l->Pr g l)(hP':∀g l,Pr g l->g≠j->Pr' g l):
 PX Sh Pr' Me j (t++met h j fh ph fj pj c k cap):=by
 generalize hu:met h j fh ph fj pj c k cap=u;have Q:∀op∈u,op.act.touch?=none:=hu▸met_mute h j fh ph fj pj c k cap;have hq:∀g,∀op∈u,∀d,deafStep g d op=d:=hu▸met_quiet h j fh ph fj pj c k cap;have e0:(t++u)[t.size]? =some {g:=h,fn:=fh,pos:=ph,act:=.send c k}:=by subst hu;simp[met]
 have e3:(t++u)[t.size+3]? =some {g:=j,fn:=fj,pos:=pj,act:=.recvDone c k}:=by subst hu;simp[met]
 have uG:3<=u.size:=by subst hu;simp[met]
 have Vk:HappensBefore (t++u) t.size (t.size+3):=
  pw (.inr ⟨.handOver (act?_of e0) (act?_of e3),⟨h,ŷ e0,by rw[deaf_old (aI _)];exact dh⟩,⟨j,ŷ e3,by rw[deaf_quiet (hq j) 3 uG];exact dj⟩⟩)
 have hK:∀i,Knows t h i->Knows (t++u) j i:=λi A=>⟨t.size+3,_,e3,rfl,.inr ((A.hb_new (aI _) e0 rfl).trans Vk)⟩
 refine⟨λsaid=>Ż (H.clean said) Q,λi a ha hm=>?_,λi a ha hw g hp=>?_,λi a ha fT A g hg=>?_⟩
 all_goals
  obtain⟨x,E,kW⟩:=Ÿ ha;rcases ż E with⟨_,fI⟩|⟨_,Am⟩
  rotate_left
  ·rw[Q x Am]at kW;cases kW
 ·rcases H.old_known (u:=u) hK fI kW hm with y|⟨y,g,hg,hp⟩|y
  ·exact .inl y
  ·by_cases e:g=j
   ·subst e;have:=knows_own E;rw[show x.g=g from by have e:=ŷ E;rw[hg]at e;exact(ay e).symm]at this;exact .inl this
   ·exact .inr (.inl ⟨y,g,hg,hP' g _ hp e⟩)
  ·exact .inr (.inr y)
 ·exact H.l5 fI kW hw g (hP g _ hp)
 ·exact H.l6 fI kW fT A g hg
def PX.aJa{Sh'}(H:PX Sh Pr Me h t)(V:∀l,Sh l->Sh' l)(J:∀g l,Me g l->Sh l):PX Sh' Pr Me h t:=
 ⟨H.clean,λi a ha hm=>(H.known i a ha hm).imp id (Or.imp id λ⟨x,y⟩=>⟨V _ x,y⟩),H.wrote,λi a ha _ A g hg=>H.plain i a ha (J _ _ hg) A g hg⟩
def PX.hire{c Pr' Me'}(H:PX Sh Pr Me h t)(dh:Deaf t h=0)(dc:Deaf t c=0)fh ph fc(oI:∀g l,Pr' g l->l.isMemory=true)(aKx:∀l,Sh l->l.isMemory=true)(vy:∀g l,Pr g l->¬Sh l)(hP0:∀g l,Pr g l->Pr' g l)
 (hP:∀g l,Pr' g l->Pr g l\/((g=c\/g=h)/\¬Sh l)) (hM:∀g l,Me' g l->Me g l\/(g=c/\Sh l)):
 PX Sh Pr' Me' h (t++#[{g:=h,fn:=fh,pos:=ph,act:=.go c},{g:=c,fn:=fc,pos:=ph,act:=.start}]):=by
 generalize hu:(#[{g:=h,fn:=fh,pos:=ph,act:=.go c},{g:=c,fn:=fc,pos:=ph,act:=.start}]:Trace)=u;have Q:∀op∈u,op.act.touch?=none:=by intro op vh;subst hu;simp only[cH,bm,cU,gb]at vh;rcases vh with rfl|rfl<;>rfl
 have hq:∀g,∀op∈u,∀d,deafStep g d op=d:=by intro g op vh d;subst hu;simp only[cH,bm,cU,gb]at vh;rcases vh with rfl|rfl<;>rfl
 have e0:(t++u)[t.size]? =some {g:=h,fn:=fh,pos:=ph,act:=.go c}:=by subst hu;simp
 have e1:(t++u)[t.size+1]? =some {g:=c,fn:=fc,pos:=ph,act:=.start}:=by subst hu;simp
 have uG:1<=u.size:=by subst hu;simp
 have Vk:HappensBefore (t++u) t.size (t.size+1):=
  pw (.inr ⟨.spawn (act?_of e0) (act?_of e1) (ŷ e1),⟨h,ŷ e0,by rw[deaf_old (aI _)];exact dh⟩,⟨c,ŷ e1,by rw[deaf_quiet (hq c) 1 uG];exact dc⟩⟩)
 have hK:∀i,Knows t h i->Knows (t++u) c i:=λi A=>⟨t.size+1,_,e1,rfl,.inr ((A.hb_new (aI _) e0 rfl).trans Vk)⟩
 refine⟨λsaid=>Ż (H.clean said) Q,λi a ha hm=>?_,λi a ha hw g hp=>?_,λi a ha fT A g hg=>?_⟩
 all_goals
  obtain⟨x,E,kW⟩:=Ÿ ha;rcases ż E with⟨_,fI⟩|⟨_,Am⟩
  rotate_left
  ·rw[Q x Am]at kW;cases kW
 ·rcases H.old_known (u:=u) (λi=>Ź u) fI kW hm with y|⟨y,g,hg,hp⟩|y
  ·exact .inl y
  ·exact .inr (.inl ⟨y,g,hg,hP0 g _ hp⟩)
  ·exact .inr (.inr y)
 ·rcases hP g _ hp with hp1|⟨hgc,hns⟩
  ·exact H.l5 fI kW hw g hp1
  ·have yP:touchAt t i=some a:=by rw[ź fI];exact kW
   rcases H.known i a yP (oI g _ hp)with y|⟨y,_⟩|⟨y,_⟩
   ·rcases hgc with rfl|rfl
    ·exact hK i y
    ·exact y.app u
   ·rw[y]at hw;cases hw
   ·exact absurd y hns
 ·rcases hM g _ hg with hm|⟨rfl,hs⟩
  ·exact H.l6 fI kW fT A g hm
  ·have yP:touchAt t i=some a:=by rw[ź fI];exact kW
   rcases H.known i a yP (aKx _ hs)with y|⟨_,g',_,hp⟩|⟨_,y|⟨y,_⟩⟩
   ·exact hK i y
   ·exact absurd hs (vy g' _ hp)
   ·rw[y]at A;cases A
   ·rw[y]at A;cases A
end
end Kv
