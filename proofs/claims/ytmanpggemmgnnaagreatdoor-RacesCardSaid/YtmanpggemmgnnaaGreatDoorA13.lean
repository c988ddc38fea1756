/- Races: a part. Conditions: none. -/
import Derived.Conc.CrowdCom2
import Derived.Conc.Token
import Derived.Test.YtmanpggemmgnnaaGreatDoorA06
set_option linter.all false
namespace Go.Proofs.YtmanpggemmgnnaaGreatDoor
noncomputable section
open Go Go.Conc
section
open Go.ConcN (sumTo upd sumTo_upd upd_ne upd_same RelBy)
namespace Co
open Kv
structure dR where
 s:Nat
 r:Nat
 o:Nat
 a:Nat
structure Gh where
 bP:Nat->Prop
 own:Nat->Option dR
 nch:Nat->Prop
 cls:Nat->Prop
 Dl:Nat->Prop
 lq:Nat->Option Obj
def dE (s:Nat):Addr:=⟨s,5,none⟩
def iD (s:Nat):Addr:=⟨s,6,none⟩
def IW (o:Nat):Prop:=o=1\/o=9\/o=10
def Gh.sh (Z:Gh) (l:Loc):Prop:=(∃s,Z.bP s/\(l=.cell (dE s)\/l=.cell (iD s)))\/∃g k,Z.own g=some k/\(l=.obj k.o\/l=.obj k.a)
def Gh.pr (Z:Gh) (g:Nat) (l:Loc):Prop:=∃g' k o,Z.own g'=some k/\IW o/\l=.cell ⟨k.r,o,none⟩/\(g=0\/g=g')
def Gh.me (Z:Gh) (g:Nat) (l:Loc):Prop:=∃k,Z.own g=some k/\(l=.cell (dE k.s)\/l=.cell (iD k.s)\/l=.obj k.a)
structure Gh.Wf (Z:Gh):Prop where
 bP:∀g k,Z.own g=some k->Z.bP k.s
 apart:∀g k,Z.own g=some k->¬Z.bP k.r
 Eo:∀g k g' k',Z.own g=some k->Z.own g'=some k'->k.o≠k'.a/\(k.o=k'.o->g=g')/\(k.a=k'.a->g=g')
theorem Gh.Wf.dis {Z:Gh} (h:Z.Wf):∀g l,Z.pr g l->¬Z.sh l:=by
 rintro g l ⟨g',k,o,hk,_,rfl,_⟩ hs;rcases hs with ⟨s,hs,e|e⟩|⟨g2,k2,_,e|e⟩
 ·have:k.r=s:=by have:=Loc.cell.inj e;exact congrArg Addr.block this
  exact h.apart g' k hk (this▸hs)
 ·have:k.r=s:=by have:=Loc.cell.inj e;exact congrArg Addr.block this
  exact h.apart g' k hk (this▸hs)
 ·cases e
 ·cases e
theorem Gh.Wf.Lr {Z:Gh} (h:Z.Wf) {g:Nat} {l:Loc}:Z.me g l->Z.sh l:=by
 rintro ⟨k,hk,e|e|e⟩
 ·exact .inl ⟨k.s,h.bP g k hk,.inl e⟩
 ·exact .inl ⟨k.s,h.bP g k hk,.inr e⟩
 ·exact .inr ⟨g,k,hk,.inr e⟩
def Gh.K0 (Z:Gh) (w:World):Prop:=∀g k,Z.own g=some k->w.cell? ⟨k.r,1,none⟩=some (.pointer (some ⟨k.s,0,none⟩))/\w.cell? ⟨k.r,9,none⟩=some (.chan (some k.o))/\w.cell? ⟨k.r,10,none⟩=some (.chan (some k.a))/\w.shape? k.s=some (79,8)
def Gh.K (Z:Gh) (w:World):Prop:=Z.K0 w/\∀s,Z.bP s->w.shape? s=some (79,8)/\(¬Z.Dl s->w.cell? ⟨s,7,none⟩=some (.bool false))
def su (a:Addr):Event:=⟨.cell a,false,true⟩
def Bt (a:Addr):Event:=⟨.cell a,true,true⟩
def rZ (m:Mark):Event:=⟨.mark m,false,true⟩
def je (s:Nat):Array Event:=#[su (dE s),Bt (dE s)]
def za (s:Nat):Array Event:=#[rZ .disable,su (iD s),Bt (iD s),rZ .enable]
def EvR (Pv:Loc->Prop) (e:Event):Prop:=∃a,e=⟨.cell a,false,false⟩/\Pv (.cell a)
def DW (Pv:Loc->Prop) (w w':World) (es:Array Event):Prop:=w'=w/\∀e∈es,EvR Pv e
def kL (P:Program) (main:Bool) (K:World->Prop) (Pv:Loc->Prop) (c:Nat) (z:Value) (ok:Bool) (home:Goroutine->Prop) (g g₂:Goroutine):Prop:=
 g.status=.running/\g.frame=g₂.frame/\g.callers=g₂.callers/\g.dying=g₂.dying/\home g₂/\∃es,(∀e∈es,EvR Pv e)/\∀w,K w->stepG P main g w=.comm g₂ #[rcase c z] true (.recv ok) w es
def ik (P:Program) (main:Bool) (K:World->Prop) (Pv:Loc->Prop) (c:Nat) (z:Value) (ok:Bool) (home:Goroutine->Prop) (n:Nat) (g:Goroutine):Prop:=
 (∃k w,n=k+1/\Goes P main (RK K) (DW Pv) (λg _=>∃g₂,kL P main K Pv c z ok home g g₂) k g w)\/(n=0/\∃g₀ g₂,g=parked g₂ #[rcase c z] (.recv ok)/\kL P main K Pv c z ok home g₀ g₂)
inductive Ez
 |a|b|c|w|x|y
def aa (c wt:Nat):Int:=(c:Int)*4294967296+wt
inductive Lv (P:Program) (k:dR):Ez->Nat->Nat->Goroutine->Prop
 |slip {st:Ez} {n d:Nat} {g g':Goroutine} {es:Array Event} (hr:g.status=.running) (hm:∀e∈es,e.mute=true) (hs:∀w,w.shape? k.s=some (79,8)->stepG P false g w=.go g' w es) (hn:Lv P k st n (deafBehind d es) g'):Lv P k st (n+1) d g
 |close {n:Nat} {g g':Goroutine} (hr:g.status=.running) (hs:∀w m,w.heap[k.a]? =some (.chan 0 #[] false m m false)->stepG P false g w=.go g' (w.setChan k.a 0 #[] true m m false) (closeEvents k.a)) (hn:Lv P k .b n 0 g'):Lv P k .a (n+1) 0 g
 |rel {n:Nat} {g g':Goroutine} (hr:g.status=.running) (hs:∀w v,w.cell? (dE k.s)=some v->stepG P false g w=.go g' w #[rZ (.releaseMerge (dE k.s))]) (hn:Lv P k .c n 0 g'):Lv P k .b (n+1) 0 g
 |add {n d:Nat} {g:Goroutine} (g':Int->Goroutine) (hr:g.status=.running) (hd:0<d)
  (hs:∀w c wt,c<8->wt<=1->w.cell? (dE k.s)=some (.int .u64 (aa (c+1) wt))->w.frozen? (dE k.s)=false->stepG P false g w=.go (g' (aa (c+1) wt)) (w.setCell (dE k.s) (.int .u64 (aa c wt))) (je k.s))
  (hq:∀c wt,c<8->wt<=1->c≠0\/wt=0->QuitsD P n d (g' (aa (c+1) wt))) (hw:Lv P k .w n d (g' (aa 1 1))):Lv P k .c (n+1) d g
 |look {n d:Nat} {g g':Goroutine} (hr:g.status=.running) (hd:0<d) (hs:∀w,w.cell? (dE k.s)=some (.int .u64 (aa 0 1))->stepG P false g w=.go g' w #[su (dE k.s)]) (hn:Lv P k .x n d g'):Lv P k .w (n+1) d g
 |reset {n d:Nat} {g g':Goroutine} (hr:g.status=.running) (hd:0<d) (hs:∀w,w.cell? (dE k.s)=some (.int .u64 (aa 0 1))->w.frozen? (dE k.s)=false->stepG P false g w=.go g' (w.setCell (dE k.s) (.int .u64 (aa 0 0))) #[Bt (dE k.s)]) (hn:Lv P k .y n d g'):Lv P k .x (n+1) d g
 |sem {n d:Nat} {g g':Goroutine} (hr:g.status=.running) (hd:0<d) (Jg:mayWake P g=true) (hs:∀w,w.cell? (iD k.s)=some (.int .u32 0)->w.frozen? (iD k.s)=false->stepG P false g w=.go g' (w.setCell (iD k.s) (.int .u32 1)) (za k.s)) (hn:QuitsD P n d g'):Lv P k .y (n+1) d g
inductive aU
 |quit
 |hold
 |fq (c:Nat) (z:Value) (ok:Bool) (home:Goroutine->Prop)
 |leave (st:Ez)
def aU.cnt:aU->Nat
 | .quit| .leave .w| .leave .x| .leave .y=>0
 |_=>1
def aU.alive:aU->Prop
 | .hold| .fq ..=>True
 |_=>False
def aU.kQ:aU->Bool
 | .leave .w| .leave .x| .leave .y=>true
 |_=>false
def aU.rel:aU->Bool
 | .quit| .leave .c| .leave .w| .leave .x| .leave .y=>true
 |_=>false
def Idle (P:Program) (Z:Gh) (t:Trace) (i n:Nat) (g:Goroutine):aU->Prop
 | .quit=>0<i/\QuitsD P n (Deaf t i) g
 | .hold=>False
 | .fq c z ok home=>Deaf t i=0/\ik P (i==0) (Z.K0) (Z.pr i) c z ok home n g
 | .leave st=>0<i/\∃k,Z.own i=some k/\Lv P k st n (Deaf t i) g
def cnt (ρ:Nat->aU) (b n:Nat):Nat:=sumTo n λi=>if b<=i then (ρ i).cnt else 0
theorem aDc {ρ:Nat->aU} {b n i:Nat} (hi:i<n) (hb:b<=i) (r':aU):cnt (upd ρ i r') b n+(ρ i).cnt=cnt ρ b n+r'.cnt:=by
 have e:(λj=>if b<=j then (upd ρ i r' j).cnt else 0)=λj=>id (upd (λj=>if b<=j then (ρ j).cnt else 0) i r'.cnt j):=by
  funext j;by_cases hj:j=i
  ·subst hj;simp only [upd_same,id,if_pos hb]
  ·simp only [upd_ne _ _ hj,id]
 unfold cnt;rw [e];have:=sumTo_upd (λj=>if b<=j then (ρ j).cnt else 0) r'.cnt id hi;simp only [id,if_pos hb] at this ⊢;exact this
theorem pW {ρ:Nat->aU} {b n i:Nat} {r':aU} (h:r'.cnt=(ρ i).cnt):cnt (upd ρ i r') b n=cnt ρ b n:=by
 unfold cnt;congr 1;funext j;by_cases hj:j=i
 ·subst hj;simp only [upd_same,h]
 ·simp only [upd_ne _ _ hj]
theorem oZ (ρ:Nat->aU) (i:Nat):upd ρ i (ρ i)=ρ:=by
 funext j;by_cases hj:j=i
 ·subst hj;exact upd_same _ _ _
 ·exact upd_ne _ _ hj
structure WdA (Z:Gh) (b s n:Nat) (ρ:Nat->aU) (w:World):Prop where
 chans:∀i c z ok home,ρ i=.fq c z ok home->∃k,w.heap[c]? =some (.chan 0 #[] false k k false)
 ans:∀i k,ρ i=.leave .a->Z.own i=some k->∃m,w.heap[k.a]? =some (.chan 0 #[] false m m false)
 uS:∀i j c z ok home z' ok' ym,ρ i=.fq c z ok home->ρ j=.fq c z' ok' ym->i=j
 apart:∀i k j c z ok home,ρ i=.leave .a->Z.own i=some k->ρ j=.fq c z ok home->c≠k.a
 qH:∀i k j k',ρ i=.leave .a->Z.own i=some k->ρ j=.leave .a->Z.own j=some k'->k.a=k'.a->i=j
 keep:Z.K w
 both:∀i k,i<n->Z.own i=some k->(ρ i).alive->(∃m,w.heap[k.o]? =some (.chan 0 #[] false m m false))/\∃m,w.heap[k.a]? =some (.chan 0 #[] false m m false)
 Dm:∀i k,i<n->Z.own i=some k->¬Z.cls k.o->∃m,w.heap[k.o]? =some (.chan 0 #[] false m m false)
 own:∀i,b<=i->i<n->∃k,Z.own i=some k/\k.s=s
 UD:∀i st,ρ i=.leave st->b<=i/\i<n
structure WdB (u:Prop) (b s n:Nat) (ρ:Nat->aU) (wt sm:Nat) (w:World):Prop where
 sI:u->w.cell? (dE s)=some (.int .u64 (aa (cnt ρ b n) wt))/\w.frozen? (dE s)=false
 wh:u->w.cell? (iD s)=some (.int .u32 sm)/\w.frozen? (iD s)=false
 J5:cnt ρ b n<=8
 NF:wt<=1
 ND:wt=1->sm=0
 Wj:∀i,ρ i=.leave .w\/ρ i=.leave .x->wt=1/\cnt ρ b n=0
 wky:∀i,ρ i=.leave .y->wt=0/\sm=0/\cnt ρ b n=0
 NT:∀i j,(ρ i).kQ=true->(ρ j).kQ=true->i=j
structure Wd (Z:Gh) (b s n m:Nat) (ρ:Nat->aU) (wt sm:Nat) (w:World):Prop extends WdA Z b s n ρ w,WdB (Z.bP s) b s m ρ wt sm w
def HO (b:Nat) (t:Trace):Prop:=∀i g,t.g? i=some g->0<g->g<b->t.counts i->∃j,t.g? j=some 0/\HappensBefore t i j
structure Td (Z:Gh) (b s p h n:Nat) (ρ:Nat->aU) (t:Trace):Prop where
 above:∀j,n<=j->Deaf t j=0
 nL:∀i g,t.g? i=some g->g<n
 px:PX Z.sh Z.pr Z.me h t
 ho:HO b t
 rel:∀i,b<=i->i<n->(ρ i).rel=true->∃r,p<=r/\RelBy (dE s) t i r
 norel:Z.bP s->∀i,p<=i->t.act? i≠some (.mark (.release (dE s)))
 ple:p<=t.size
structure Core (P:Program) (Z:Gh) (b s p m h:Nat) (ρ:Nat->aU) (wt sm:Nat) (t:Trace) (gs:Array Goroutine) (w:World) (q:Nat->Nat):Prop where
 wf:Z.Wf
 pos:0<b
 ge:gs.size<=m
 idle:∀i g,i≠h->gs[i]? =some g->Idle P Z t i (q i) g (ρ i)
 wd:Wd Z b s gs.size m ρ wt sm w
 td:Td Z b s p h gs.size ρ t
section
variable {P:Program} {Z:Gh} {b s p m h n:Nat} {ρ:Nat->aU} {wt sm:Nat} {t:Trace} {gs:Array Goroutine} {w:World} {q:Nat->Nat}
theorem Td.app (H:Td Z b s p h n ρ t) {i:Nat} {r':aU} {ops:Array MemOp} (aI:i<n) (Fs:∀op∈ops,op.g=i) (VM:PX Z.sh Z.pr Z.me h (t++ops)) (hho:i<b->0<i->∀op∈ops,op.act.touch?=none)
 (hrel:r'.rel=true->b<=i->∃r,p<=r/\RelBy (dE s) (t++ops) i r) (VN:Z.bP s->∀op∈ops,op.act≠.mark (.release (dE s))):Td Z b s p h n (upd ρ i r') (t++ops):=by
 refine ⟨λj hj=>?_,λx g hx=>?_,VM,λx g hx h0 hb hc=>?_,λj hj uZ hr=>?_,λhz x hx e=>?_,by have:=H.ple;simp only [Array.size_append];omega⟩
 ·rw [Deaf_other t (g':=i) (by omega) ops Fs];exact H.above j hj
 ·obtain ⟨op,ho,hog⟩:=Option.map_eq_some_iff.1 hx;rcases getElem?_append_cases ho with ⟨lC,Jl⟩|⟨_,JX⟩
  ·exact H.nL x g (by rw [<-g?_old (u:=ops) lC];exact hx)
  ·rw [<-hog,Fs op JX];exact aI
 ·obtain ⟨op,ho,hog⟩:=Option.map_eq_some_iff.1 hx;rcases getElem?_append_cases ho with ⟨lC,Jl⟩|⟨_,JX⟩
  ·have fI:t.g? x=some g:=by rw [<-g?_old (u:=ops) lC];exact hx
   obtain ⟨j,hj,kz⟩:=H.ho x g fI h0 hb ((Go.Conc.counts_old lC).1 hc);have hjl:j<t.size:=by obtain ⟨z,hz,_⟩:=Option.map_eq_some_iff.1 hj;exact lt_size_of_getElem? hz
   exact ⟨j,by rw [g?_old hjl];exact hj,hb_app ops kz⟩
  ·obtain ⟨a,ha,_⟩:=hc;obtain ⟨act,ZP,iX⟩:=Option.bind_eq_some_iff.1 ha;obtain ⟨op',Jl,rfl⟩:=Option.map_eq_some_iff.1 ZP;rw [ho] at Jl;obtain rfl:=Option.some.inj Jl;have J3:=Fs op JX;rw [hog] at J3;subst J3;rw [hho hb h0 op JX] at iX;cases iX
 ·by_cases e:j=i
  ·subst e;rw [upd_same] at hr;exact hrel hr hj
  ·rw [upd_ne _ _ e] at hr;obtain ⟨r,hp,jf⟩:=H.rel j hj uZ hr;exact ⟨r,hp,jf.appOther Fs (Ne.symm e)⟩
 ·obtain ⟨op,ho,hoa⟩:=Option.map_eq_some_iff.1 e;rcases getElem?_append_cases ho with ⟨lC,Jl⟩|⟨_,JX⟩
  ·exact H.norel hz x hx (by rw [<-act?_old (u:=ops) lC];exact e)
  ·exact VN hz op JX hoa
theorem Core.put (C:Core P Z b s p m h ρ wt sm t gs w q) {i n':Nat} {g':Goroutine} {r':aU} {ops:Array MemOp} {jA:Array Goroutine} {w':World} {wt' sm':Nat} (bW:jA.size=gs.size) (aGa:∀x,x≠i->x≠h->jA[x]? =gs[x]?) (jY:jA[i]? =some g')
 (Fs:∀op∈ops,op.g=i) (MH:Idle P Z (t++ops) i n' g' r') (Ml:Wd Z b s gs.size m (upd ρ i r') wt' sm' w') (htd:Td Z b s p h gs.size (upd ρ i r') (t++ops)):Core P Z b s p m h (upd ρ i r') wt' sm' (t++ops) jA w' (upd q i n'):=by
 refine ⟨C.wf,C.pos,by rw [bW];exact C.ge,λx y hx hy=>?_,by rw [bW];exact Ml,by rw [bW];exact htd⟩;by_cases e:x=i
 ·subst e;rw [jY] at hy;obtain rfl:=Option.some.inj hy;rw [upd_same,upd_same];exact MH
 ·rw [aGa x e hx] at hy;rw [upd_ne _ _ e,upd_ne _ _ e];have hd:Deaf (t++ops) x=Deaf t x:=Deaf_other t (λz=>e z.symm) ops Fs;have h:=C.idle x y hx hy;revert h;cases ρ x with
  |quit=>intro h;exact ⟨h.1,by rw [hd];exact h.2⟩
  |hold=>exact id
  |fq c z ok home=>intro h;exact ⟨hd.trans h.1,h.2⟩
  |leave st=>intro h;exact ⟨h.1,by rw [hd];exact h.2⟩
end
end Co
end
section
open Go.ConcN (sumTo upd sumTo_upd upd_ne upd_same RelBy)
namespace Co
open Kv
def Gh.rW (Z:Gh) (c:Nat):Prop:=∃g k,Z.own g=some k/\(c=k.o\/c=k.a)
def Gh.ic (Z:Gh) (c:Nat):Prop:=Z.nch c\/Z.rW c
def Ob (Z:Gh) (r:Nat) (x x':Option Obj):Prop:=x'=x\/(Z.rW r/\∃o o',x=some o/\o.isChan=true/\x'=some o'/\o'.isChan=true)\/
 (Z.bP r/\∃c c' ty fr,x=some (.cells c ty fr)/\x'=some (.cells c' ty fr)/\c'.size=c.size/\∀i,i≠5->i≠6->c'[i]? =c[i]?)
def Aside (Z:Gh) (w w':World):Prop:=∃hp,w'={w with heap:=hp}/\hp.size=w.heap.size/\∀r:Nat,Ob Z r w.heap[r]? hp[r]?
theorem Ob.trans {Z:Gh} {r:Nat} {x y z:Option Obj} (h:Ob Z r x y) (k:Ob Z r y z):Ob Z r x z:=by
 rcases h with rfl|h
 ·exact k
 rcases k with rfl|k
 ·exact .inr h
 rcases h with ⟨hc,o,o',rfl,ho,rfl,Jl⟩|⟨hs,c,c',ty,fr,rfl,rfl,bW,hc⟩
 ·rcases k with ⟨_,o2,o3,e,_,rfl,h3⟩|⟨_,c,c',ty,fr,e,_⟩
  ·exact .inr (.inl ⟨hc,o,o3,rfl,ho,rfl,h3⟩)
  ·cases e;cases Jl
 ·rcases k with ⟨_,o2,o3,e,h2,_⟩|⟨_,c2,c3,ty2,fr2,e,rfl,Mo,hc2⟩
  ·cases e;cases h2
  ·cases e;exact .inr (.inr ⟨hs,c,c3,ty,fr,rfl,rfl,Mo.trans bW,λi h5 h6=>(hc2 i h5 h6).trans (hc i h5 h6)⟩)
theorem Aside.refl (Z:Gh) (w:World):Aside Z w w:=⟨w.heap,rfl,rfl,λ_=>.inl rfl⟩
theorem Aside.trans {Z:Gh} {a b c:World} (h:Aside Z a b) (k:Aside Z b c):Aside Z a c:=by obtain ⟨hp,rfl,h1,h2⟩:=h;obtain ⟨hp',rfl,k1,k2⟩:=k;exact ⟨hp',rfl,k1.trans h1,λr=>(h2 r).trans (k2 r)⟩
theorem Aside.at {Z:Gh} {a b:World} (h:Aside Z a b) (d:Nat):Aside Z (a.at d) (b.at d):=by obtain ⟨hp,rfl,h1,h2⟩:=h;exact ⟨hp,rfl,h1,h2⟩
theorem ja (w:World) (c cap:Nat) (buf:Array Value) (cl:Bool) (a b:Nat) (tm:Bool) (r:Nat):(w.setChan c cap buf cl a b tm).heap[r]? =if c=r/\r<w.heap.size then some (.chan cap buf cl a b tm) else w.heap[r]? :=by
 unfold World.setChan;simp only [Array.getElem?_setIfInBounds];by_cases hc:c=r
 ·subst hc;by_cases hl:c<w.heap.size
  ·simp [hl]
  ·simp [hl]
 ·simp [hc]
theorem Aside.setChan {Z:Gh} {w:World} {c m m':Nat} {b b':Bool} (hc:Z.rW c) (h:w.heap[c]? =some (.chan 0 #[] b m m false)):Aside Z w (w.setChan c 0 #[] b' m' m' false):=by
 refine ⟨(w.setChan c 0 #[] b' m' m' false).heap,rfl,by simp [World.setChan],λr=>?_⟩;rw [ja];by_cases e:c=r/\r<w.heap.size
 ·rw [if_pos e];obtain ⟨rfl,_⟩:=e;exact .inr (.inl ⟨hc,_,_,h,rfl,rfl,rfl⟩)
 ·rw [if_neg e];exact .inl rfl
theorem bT (w:World) (a:Addr) (v:Value) (ha:a.spot=none) (r:Nat):(w.setCell a v).heap[r]? =if a.block=r then (w.heap[r]?).map (λ| .cells c e fr=>.cells (c.setIfInBounds a.off v) e fr|o=>o) else w.heap[r]? :=by
 unfold World.setCell;simp only [Array.getElem?_modify,ha,Option.isSome_none,Bool.false_eq_true,if_false];split
 ·congr 1
 ·rfl
theorem Aside.setCell {Z:Gh} {w:World} {s o:Nat} {v:Value} (hs:Z.bP s) (ho:o=5\/o=6):Aside Z w (w.setCell ⟨s,o,none⟩ v):=by
 refine ⟨(w.setCell ⟨s,o,none⟩ v).heap,rfl,by simp [World.setCell],λr=>?_⟩;rw [bT _ _ _ rfl];by_cases e:s=r
 ·subst e;simp only [if_true];cases hr:w.heap[s]? with
  |none=>exact .inl rfl
  |some x=>
   cases x with
   |cells c ty fr=>refine .inr (.inr ⟨hs,c,_,ty,fr,rfl,rfl,by simp,λi h5 h6=>?_⟩);rw [Array.getElem?_setIfInBounds_ne (by rcases ho with rfl|rfl<;>omega)]
   |_=>exact .inl rfl
 ·simp only [e,if_false];exact .inl rfl
section
variable {P:Program} {Z:Gh} {b s p m h n:Nat} {ρ:Nat->aU} {wt sm:Nat} {t:Trace} {gs:Array Goroutine} {w:World} {q:Nat->Nat}
theorem Lv.status {k:dR} {st:Ez} {n d:Nat} {g:Goroutine} (h:Lv P k st n d g):g.status=.running:=by cases h<;>assumption
theorem ik.status {main:Bool} {K:World->Prop} {Pv:Loc->Prop} {c:Nat} {z:Value} {ok:Bool} {home:Goroutine->Prop} {n:Nat} {g:Goroutine} {w:World} (hK:K w) (h:ik P main K Pv c z ok home n g):(g.status=.running/\0<n)\/(g.status=.blocked/\n=0):=by
 rcases h with ⟨k,w₀,rfl,hg⟩|⟨rfl,_,g₂,rfl,_⟩
 ·refine .inl ⟨?_,by omega⟩;cases k with
  |zero=>exact (hg w hK).choose_spec.1
  |succ k=>exact hg.elim (λx=>(x w hK).choose_spec.1) (·.1)
 ·exact .inr ⟨rfl,rfl⟩
theorem Idle.fixed {i n:Nat} {g:Goroutine} {r:aU} {w w':World} (hK:Z.K w) (h:Idle P Z t i n g r) (hc:∀c z ok home,r=.fq c z ok home->∃k,w'.heap[c]? =some (.chan 0 #[] false k k false)):g.again w'=g:=by
 cases r with
 |quit=>exact again_of_running h.2.status w'
 |hold=>exact h.elim
 |fq c z ok home=>
  rcases h.2 with ⟨k,w₀,hq,hg⟩|⟨_,_,g₂,rfl,_⟩
  ·exact again_of_running (.inl ((ik.status hK.1 (.inl ⟨k,w₀,hq,hg⟩)).elim (·.1) (λx=>by omega))) w'
  ·obtain ⟨k,hk⟩:=hc c z ok home rfl;exact again_recv_open hk
 |leave st=>obtain ⟨_,k,_,hl⟩:=h;exact again_of_running (.inl hl.status) w'
theorem Idle.noSend {i n:Nat} {g:Goroutine} {r:aU} {w:World} (hK:Z.K w) (h:Idle P Z t i n g r) (c:Nat):offersAt g c true=[]:=by
 cases r with
 |quit=>exact offersAt_of_not_blocked (λhb=>by rcases h.2.status with z|z<;>rw [z] at hb<;>cases hb) c true
 |hold=>exact h.elim
 |fq c' z ok home=>
  rcases h.2 with ⟨k,w₀,hq,hg⟩|⟨_,_,g₂,rfl,_⟩
  ·have:=(ik.status hK.1 (.inl ⟨k,w₀,hq,hg⟩)).elim (·.1) (λz=>by omega);exact offersAt_of_not_blocked (λhb=>by rw [this] at hb;cases hb) c true
  ·exact offersAt_parked_recv' _ _ _ _ _
 |leave st=>obtain ⟨_,k,_,hl⟩:=h;exact offersAt_of_not_blocked (λhb=>by rw [hl.status] at hb;cases hb) c true
theorem Idle.aFE {i n:Nat} {g:Goroutine} {r:aU} {w:World} (hK:Z.K w) (h:Idle P Z t i n g r) {c:Nat} (hc:∀z ok home,r≠.fq c z ok home):offersAt g c false=[]:=by
 cases r with
 |quit=>exact offersAt_of_not_blocked (λhb=>by rcases h.2.status with z|z<;>rw [z] at hb<;>cases hb) c false
 |hold=>exact h.elim
 |fq c' z ok home=>
  rcases h.2 with ⟨k,w₀,hq,hg⟩|⟨_,_,g₂,rfl,_⟩
  ·have:=(ik.status hK.1 (.inl ⟨k,w₀,hq,hg⟩)).elim (·.1) (λz=>by omega);exact offersAt_of_not_blocked (λhb=>by rw [this] at hb;cases hb) c false
  ·rw [offersAt_parked_recv,if_neg];rintro rfl;exact hc z ok home rfl
 |leave st=>obtain ⟨_,k,_,hl⟩:=h;exact offersAt_of_not_blocked (λhb=>by rw [hl.status] at hb;cases hb) c false
theorem gX {i:Nat} {fn:FuncId} {pos:String} {es:Array Event}:∀op∈MemOp.ofEvents i fn pos es,op.g=i:=λop dC=>by obtain ⟨e,_,rfl⟩:=Go.Conc.mem_ofEvents dC;rfl
theorem Core.go (C:Core P Z b s p m h ρ wt sm t gs w q) {i:Nat} {g g':Goroutine} {w':World} {es:Array Event} {sl:Option (Nat×Nat)} (hi:gs[i]? =some g) (bA:i≠h) (dN:stepG P (i==0) g w=.go g' w' es) {r':aU} {n' wt' sm':Nat}
 (MH:Idle P Z (t++MemOp.ofEvents i g.frame.fn g.frame.place es) i n' g' r') (Ml:Wd Z b s gs.size m (upd ρ i r') wt' sm' w') (htd:Td Z b s p h gs.size (upd ρ i r') (t++MemOp.ofEvents i g.frame.fn g.frame.place es)):
 ∃jA,runT P (crowd gs w sl) i=(.next (crowd jA w' sl),MemOp.ofEvents i g.frame.fn g.frame.place es)/\jA.size=gs.size/\Core P Z b s p m h (upd ρ i r') wt' sm' (t++MemOp.ofEvents i g.frame.fn g.frame.place es) jA w' (upd q i n')/\
  ∀gx,gs[h]? =some gx->(jA[h]? =some gx\/jA[h]? =some (gx.again w'))/\(mayWake P g=true->g'.status=.running\/g'.status=.finished->jA[h]? =some (gx.again w')):=by
 have aI:i<gs.size:=(Array.getElem?_eq_some_iff.1 hi).1;have hx:∀x,x≠i->((gs.map (woken P g g' w')).setIfInBounds i g')[x]? =(gs[x]?).map (woken P g g' w'):=λx hx=>by
  rw [Array.getElem?_setIfInBounds_ne (λe=>hx e.symm),Array.getElem?_map]
 refine ⟨_,runT_crowd_go hi dN,by simp,?_,λgx MI=>?_⟩
 ·refine C.put (by simp) (λx hxi hxh=>?_) (Array.getElem?_setIfInBounds_self_of_lt (by simpa using aI)) gX MH Ml htd;rw [hx x hxi];cases MI:gs[x]? with
  |none=>rfl
  |some y=>have hf:y.again w'=y:=(C.idle x y hxh MI).fixed C.wd.keep λc z ok home hr=>Ml.chans x c z ok home (by rw [upd_ne _ _ hxi];exact hr);simp only [Option.map_some,woken_of_again hf]
 ·rw [hx h (Ne.symm bA),MI];simp only [Option.map_some];refine ⟨?_,λh1 h2=>?_⟩
  ·unfold woken;split
   ·exact .inr rfl
   ·exact .inl rfl
  ·unfold woken;rw [if_pos (by rcases h2 with h2|h2<;>rw [h1,h2]<;>rfl)]
end
end Co
end
section
open Go.ConcN (sumTo upd sumTo_upd upd_ne upd_same RelBy)
namespace Co
open Kv
section
variable {P:Program} {Z:Gh} {b s p h n:Nat} {ρ:Nat->aU} {wt sm:Nat} {t:Trace} {gs:Array Goroutine} {w w':World} {q:Nat->Nat}
def aU.late:aU->Prop
 | .quit=>True
 | .leave st=>st≠.a
 |_=>False
theorem WdA.late (H:WdA Z b s n ρ w) {i:Nat} {r':aU} (hr:r'.late) (hi:b<=i) (hn:i<n) (gN:∀c k,(∃j z ok home,ρ j=.fq c z ok home)\/(∃j k',j≠i/\ρ j=.leave .a/\Z.own j=some k'/\c=k'.a)\/(∃j k',j≠i/\(ρ j).alive/\Z.own j=some k'/\(c=k'.o\/c=k'.a))\/(∃j k',Z.own j=some k'/\c=k'.o)->w.heap[c]? =some (.chan 0 #[] false k k false)->w'.heap[c]? =some (.chan 0 #[] false k k false)) (hK:Z.K w'):WdA Z b s n (upd ρ i r') w':=by
 have C8:∀{j c z ok home},upd ρ i r' j=.fq c z ok home->ρ j=.fq c z ok home:=λ{j c z ok home} e=>by
  by_cases hj:j=i
  ·subst hj;rw [upd_same] at e;rw [e] at hr;exact hr.elim
  ·rwa [upd_ne _ _ hj] at e
 have UE:∀{j},upd ρ i r' j=.leave .a->j≠i/\ρ j=.leave .a:=λ{j} e=>by
  by_cases hj:j=i
  ·subst hj;rw [upd_same] at e;rw [e] at hr;exact absurd rfl hr
  ·rw [upd_ne _ _ hj] at e;exact ⟨hj,e⟩
 refine ⟨λj c z ok home e=>?_,λj k e ho=>?_,λj j' c z ok home z' ok' ym e e'=>H.uS j j' c z ok home z' ok' ym (C8 e) (C8 e'),λj k j' c z ok home e ho e'=>H.apart j k j' c z ok home (UE e).2 ho (C8 e'),
  λj k j' k' e ho e' Jl=>H.qH j k j' k' (UE e).2 ho (UE e').2 Jl,hK,λj k uZ ho zH=>?_,λj k uZ ho u7=>?_,H.own,λj st e=>?_⟩
 ·obtain ⟨k,hk⟩:=H.chans j c z ok home (C8 e);exact ⟨k,gN c k (.inl ⟨j,z,ok,home,C8 e⟩) hk⟩
 ·obtain ⟨m,hm⟩:=H.ans j k (UE e).2 ho;exact ⟨m,gN k.a m (.inr (.inl ⟨j,k,(UE e).1,(UE e).2,ho,rfl⟩)) hm⟩
 ·have hj:j≠i:=by
   rintro rfl;rw [upd_same] at zH;cases r'<;>first|exact zH|exact hr
  rw [upd_ne _ _ hj] at zH;obtain ⟨⟨m1,h1⟩,m2,h2⟩:=H.both j k uZ ho zH;exact ⟨⟨m1,gN k.o m1 (.inr (.inr (.inl ⟨j,k,hj,zH,ho,.inl rfl⟩))) h1⟩,m2,gN k.a m2 (.inr (.inr (.inl ⟨j,k,hj,zH,ho,.inr rfl⟩))) h2⟩
 ·obtain ⟨m1,h1⟩:=H.Dm j k uZ ho u7;exact ⟨m1,gN k.o m1 (.inr (.inr (.inr ⟨j,k,ho,rfl⟩))) h1⟩
 ·by_cases hj:j=i
  ·subst hj;exact ⟨hi,hn⟩
  ·rw [upd_ne _ _ hj] at e;exact H.UD j st e
theorem zT (hK:Z.K w) {c m m':Nat} {b':Bool} (hc:∃o,w.heap[c]? =some o/\o.isChan=true):Z.K (w.setChan c 0 #[] b' m m' false):=by
 have key:∀r o v,w.cell? ⟨r,o,none⟩=some v->(w.setChan c 0 #[] b' m m' false).cell? ⟨r,o,none⟩=some v:=λr o v e=>by
  have bA:c≠r:=by rintro rfl;obtain ⟨x,hx,VH⟩:=hc;unfold World.cell? at e;rw [hx] at e;cases x<;>first|cases VH;done|cases e
  unfold World.cell? at e ⊢;rw [ja,if_neg (λx=>bA x.1)];exact e
 have ksh:∀s x,w.shape? s=some x->(w.setChan c 0 #[] b' m m' false).shape? s=some x:=λs y e=>by
  have bA:c≠s:=by rintro rfl;obtain ⟨x,hx,VH⟩:=hc;unfold World.shape? at e;rw [hx] at e;cases x<;>first|cases VH;done|cases e
  unfold World.shape? at e ⊢;rw [ja,if_neg (λx=>bA x.1)];exact e
 refine ⟨λg k hk=>?_,λs hs=>⟨ksh s _ (hK.2 s hs).1,λh=>key _ _ _ ((hK.2 s hs).2 h)⟩⟩;obtain ⟨h1,h2,h3,h4⟩:=hK.1 g k hk;exact ⟨key _ _ _ h1,key _ _ _ h2,key _ _ _ h3,ksh _ _ h4⟩
theorem uD (hK:Z.K w) (bY:Z.Wf) {s o:Nat} {v:Value} (hs:Z.bP s) (ho:o≠7:=by decide):Z.K (w.setCell ⟨s,o,none⟩ v):=by
 have fT:∀r,(w.setCell ⟨s,o,none⟩ v).shape? r=w.shape? r:=λr=>by
  unfold World.shape?;rw [bT _ _ _ rfl];by_cases e:s=r
  ·rw [if_pos e];cases w.heap[r]? with
   |none=>rfl
   |some x=>cases x<;>simp
  ·rw [if_neg e]
 refine ⟨λg k hk=>?_,λs' yO=>⟨(fT s').trans (hK.2 s' yO).1,λh=>(World.cell?_setCell_other _ _ _ _ (λe=>ho (congrArg Addr.off e))).trans ((hK.2 s' yO).2 h)⟩⟩;have key:∀o',(w.setCell ⟨s,o,none⟩ v).cell? ⟨k.r,o',none⟩=w.cell? ⟨k.r,o',none⟩:=λo'=>by
  refine World.cell?_setCell_other _ _ _ _ ?_;intro e;have:s=k.r:=congrArg Addr.block e;exact bY.apart g k hk (this▸hs)
 simp only [key,fT];exact hK.1 g k hk
theorem ku {a:Addr} {v:Value} {c:Nat} {o:Obj} (ha:a.spot=none) (hc:w.heap[c]? =some o) (ho:o.isChan=true):(w.setCell a v).heap[c]? =some o:=by
 rw [bT _ _ _ ha];split
 ·rw [hc];cases o<;>first|cases ho;done|rfl
 ·exact hc
theorem WdB.RJ {u:Prop} (H:WdB u b s n ρ wt sm w) {i:Nat} {r':aU} (hc:r'.cnt=(ρ i).cnt) (hw':r'.kQ=false) (hg5:w'.cell? (dE s)=w.cell? (dE s)) (hf5:w'.frozen? (dE s)=w.frozen? (dE s)) (hg6:w'.cell? (iD s)=w.cell? (iD s)) (hf6:w'.frozen? (iD s)=w.frozen? (iD s)):WdB u b s n (upd ρ i r') wt sm w':=by
 have e:=pW (b:=b) (n:=n) hc;have old:∀{j},(upd ρ i r' j).kQ=true->upd ρ i r' j=ρ j:=λ{j} h=>by
  by_cases hj:j=i
  ·subst hj;rw [upd_same,hw'] at h;cases h
  ·exact upd_ne _ _ hj
 refine ⟨λhb=>?_,λhb=>?_,by rw [e];exact H.J5,H.NF,H.ND,λj hj=>?_,λj hj=>?_,λj j' h1 h2=>H.NT j j' (old h1▸h1) (old h2▸h2)⟩
 ·rw [e,hg5,hf5];exact H.sI hb
 ·rw [hg6,hf6];exact H.wh hb
 ·rw [e];refine H.Wj j ?_
  rwa [old (by rcases hj with hj|hj<;>rw [hj]<;>rfl)] at hj
 ·rw [e];refine H.wky j ?_
  rwa [old (by rw [hj];rfl)] at hj
theorem aDd {i:Nat} (hi:b<=i) (hn:i<n) (hc:(ρ i).cnt=1):0<cnt ρ b n:=by have:(λi=>if b<=i then (ρ i).cnt else 0) i<=cnt ρ b n:=Go.ConcN.le_sumTo (f:=λi=>if b<=i then (ρ i).cnt else 0) hn;simp only [if_pos hi,hc] at this;omega
theorem Dr {u:Prop} (H:WdB u b s n ρ wt sm w) (hc:0<cnt ρ b n) (j:Nat):(ρ j).kQ=false:=by
 cases hj:(ρ j).kQ with
 |false=>rfl
 |true=>
  exfalso;cases hr:ρ j with
  |leave st=>
   rw [hr] at hj;cases st<;>first|cases hj;done|skip
   ·have:=(H.Wj j (.inl hr)).2;omega
   ·have:=(H.Wj j (.inr hr)).2;omega
   ·have:=(H.wky j hr).2.2;omega
  |_=>rw [hr] at hj;cases hj
end
end Co
end
section
open Go.ConcN (sumTo upd sumTo_upd upd_ne upd_same RelBy)
namespace Co
open Kv
def Calm (ρ:Nat->aU) (wt sm:Nat):Prop:=wt=0/\sm=0/\∀j,(ρ j).kQ=false
theorem Calm.upd {ρ:Nat->aU} {wt sm:Nat} (h:Calm ρ wt sm) {i:Nat} {r':aU} (hr:r'.kQ=false):Calm (upd ρ i r') wt sm:=⟨h.1,h.2.1,λj=>by
 by_cases e:j=i
 ·subst e;rw [upd_same];exact hr
 ·rw [upd_ne _ _ e];exact h.2.2 j⟩
def Wtg (b m:Nat) (ρ:Nat->aU) (wt sm:Nat):Prop:=(wt=1/\sm=0/\(0<cnt ρ b m\/∃i,ρ i=.leave .w\/ρ i=.leave .x))\/(wt=0/\sm=0/\∃i,ρ i=.leave .y)\/(wt=0/\sm=1/\cnt ρ b m=0/\∀i,(ρ i).kQ=false)
structure nI (b m:Nat) (ρ:Nat->aU) (wt sm:Nat) (ρ':Nat->aU) (wt' sm':Nat):Prop where
 calm:Calm ρ wt sm->Calm ρ' wt' sm'
 wtg:Wtg b m ρ wt sm->Wtg b m ρ' wt' sm'
theorem nI.same {b m:Nat} {ρ:Nat->aU} {wt sm:Nat} {i:Nat} {r':aU} (h:r'=ρ i):nI b m ρ wt sm (upd ρ i r') wt sm:=by rw [h,oZ];exact ⟨id,id⟩
theorem nI.early {b m:Nat} {ρ:Nat->aU} {wt sm:Nat} {i:Nat} {r':aU} (hc:r'.cnt=(ρ i).cnt) (h1:(ρ i).kQ=false) (h2:r'.kQ=false):nI b m ρ wt sm (upd ρ i r') wt sm:=by
 have e:=pW (b:=b) (n:=m) hc;have hj:∀j,(ρ j).kQ=true->upd ρ i r' j=ρ j:=λj hw=>upd_ne _ _ (λe=>by rw [e,h1] at hw;cases hw);refine ⟨λc=>c.upd h2,λH=>?_⟩;rcases H with ⟨a,b',c|⟨j,c⟩⟩|⟨a,b',j,c⟩|⟨a,b',c,d⟩
 ·exact .inl ⟨a,b',.inl (by rw [e];exact c)⟩
 ·exact .inl ⟨a,b',.inr ⟨j,by rw [hj j (by rcases c with c|c<;>rw [c]<;>rfl)];exact c⟩⟩
 ·exact .inr (.inl ⟨a,b',j,by rw [hj j (by rw [c];rfl)];exact c⟩)
 ·refine .inr (.inr ⟨a,b',by rw [e];exact c,λj=>?_⟩);by_cases ej:j=i
  ·subst ej;rw [upd_same];exact h2
  ·rw [upd_ne _ _ ej];exact d j
def Change (ρ:Nat->aU) (i:Nat) (r':aU):Prop:=r'=ρ i\/∃st,ρ i=.leave st/\r'.late/\r'.cnt<=(ρ i).cnt
section
variable {P:Program} {Z:Gh} {b s p m h n:Nat} {ρ:Nat->aU} {wt sm:Nat} {t:Trace} {gs:Array Goroutine} {w w':World} {q:Nat->Nat}
def Nu (P:Program) (Z:Gh) (b s p m h:Nat) (ρ:Nat->aU) (wt sm:Nat) (t:Trace) (gs:Array Goroutine) (w:World) (q:Nat->Nat) (i:Nat) (g:Goroutine) (sl:Option (Nat×Nat)):Prop:=
 ∃jA w' ops r' n' wt' sm',runT P (crowd gs w sl) i=(.next (crowd jA w' sl),ops)/\jA.size=gs.size/\Core P Z b s p m h (upd ρ i r') wt' sm' (t++ops) jA w' (upd q i n')/\n'<q i/\Aside Z w w'/\
  (∀gx,gs[h]? =some gx->jA[h]? =some gx\/jA[h]? =some (gx.again w'))/\Change ρ i r'/\nI b m ρ wt sm (upd ρ i r') wt' sm'/\(sm'≠sm->∀gx,gs[h]? =some gx->jA[h]? =some (gx.again w'))/\(∀op∈ops,op.g=i)/\∀c z ok home,ρ i=.fq c z ok home->n'=0->∃g₂,kL P (i==0) Z.K0 (Z.pr i) c z ok home g g₂
theorem gu {e:Event} (h:e.mute=true):(MemAct.ofEvent e).touch?=none/\∀a,MemAct.ofEvent e≠.mark (.release a):=by
 obtain ⟨l,wr,sy⟩:=e;cases l with
 |mark m=>cases m<;>first|cases h;done|exact ⟨rfl,λa x=>by cases x⟩
 |_=>cases h
theorem fD {e:Event} (h:∀m,e.loc≠.mark m) (a:Addr):MemAct.ofEvent e≠.mark (.release a):=by
 obtain ⟨l,wr,sy⟩:=e;cases l with
 |mark m=>exact absurd rfl (h m)
 |obj r=>cases wr<;>cases sy<;>exact λx=>by cases x
 |_=>exact λx=>by cases x
theorem Td.mute (H:Td Z b s p h n ρ t) {i:Nat} {r':aU} (aI:i<n) (hr:r'.rel=true->(ρ i).rel=true) {fn:FuncId} {pos:String} {es:Array Event} (hm:∀e∈es,e.mute=true):Td Z b s p h n (upd ρ i r') (t++MemOp.ofEvents i fn pos es):=by
 have hn:∀op∈MemOp.ofEvents i fn pos es,op.act.touch?=none/\∀a,op.act≠.mark (.release a):=λop dC=>by
  obtain ⟨e,he,rfl⟩:=Go.Conc.mem_ofEvents dC;exact gu (hm e he)
 refine H.app aI gX (H.px.mute λop dC=>(hn op dC).1) (λ_ _ op dC=>(hn op dC).1) (λhrel hb=>?_) λ_ op dC=>(hn op dC).2 _;obtain ⟨r,hp,hR⟩:=H.rel i hb aI (hr hrel);exact ⟨r,hp,hR.appOwn fn pos es λj e he=>.inl (gu (hm e (Array.mem_of_getElem? he))).1⟩
theorem Td.JC (H:Td Z b s p h n ρ t) (bY:Z.Wf) {i:Nat} {r':aU} {k:dR} (aI:i<n) (hk:Z.own i=some k) (PM:b<=i) (hr:(ρ i).rel=true) {fn:FuncId} {pos:String} {es:Array Event}
 (yo:∀e∈es,e.mute=true\/e=su (dE k.s)\/e=Bt (dE k.s)\/e=su (iD k.s)\/e=Bt (iD k.s))
 (hd:∀j e,es[j]? =some e->e.mute=true\/0<deafBehind (Deaf t i) (es.extract 0 j)):Td Z b s p h n (upd ρ i r') (t++MemOp.ofEvents i fn pos es):=by
 have D7:∀e∈es,e.mute=true\/∃a wr,e=⟨.cell a,wr,true⟩/\(a=dE k.s\/a=iD k.s):=λe he=>by
  rcases yo e he with h|rfl|rfl|rfl|rfl
  ·exact .inl h
  ·exact .inr ⟨_,_,rfl,.inl rfl⟩
  ·exact .inr ⟨_,_,rfl,.inl rfl⟩
  ·exact .inr ⟨_,_,rfl,.inr rfl⟩
  ·exact .inr ⟨_,_,rfl,.inr rfl⟩
 have VN:∀op∈MemOp.ofEvents i fn pos es,∀a,op.act≠.mark (.release a):=λop dC a=>by
  obtain ⟨e,he,rfl⟩:=Go.Conc.mem_ofEvents dC;rcases D7 e he with h|⟨a',wr,rfl,_⟩
  ·exact (gu h).2 a
  ·exact fD (e:=⟨.cell a',wr,true⟩) (λm x=>by cases x) a
 refine H.app aI gX (H.px.leaves bY.dis gX λop dC b' hb=>?_) (λlC _=>by omega) (λ_ hb=>?_) λ_ op dC=>VN op dC _
 ·obtain ⟨e,he,rfl⟩:=Go.Conc.mem_ofEvents dC;rcases D7 e he with h|⟨a',wr,rfl,ha⟩
  ·simp only [(gu h).1] at hb;cases hb
  ·have:b'=⟨.cell a',wr,.atomic⟩:=by
    simp only [MemAct.ofEvent,MemAct.touch?,Option.some.injEq] at hb;rw [<-hb];rfl
   subst this;have hme:Z.me i (.cell a'):=⟨k,hk,by rcases ha with rfl|rfl<;>simp⟩
   exact ⟨hme,bY.Lr hme,rfl⟩
 ·obtain ⟨r,hp,hR⟩:=H.rel i hb aI hr;refine ⟨r,hp,hR.appOwn fn pos es λj e he=>?_⟩;have oI:=Array.mem_of_getElem? he;rcases D7 e oI with h|⟨a',wr,rfl,_⟩
  ·exact .inl (gu h).1
  ·rcases hd j _ he with h|h
   ·cases h
   ·exact .inr ⟨⟨a',wr,rfl⟩,h⟩
theorem Ud (C:Core P Z b s p m h ρ wt sm t gs w q) {i:Nat} {g:Goroutine} {sl:Option (Nat×Nat)} (hi:gs[i]? =some g) (bA:i≠h) (bJ:g.status=.running) (hr:ρ i=.quit):Nu P Z b s p m h ρ wt sm t gs w q i g sl:=by
 have aI:i<gs.size:=(Array.getElem?_eq_some_iff.1 hi).1;have hid:=C.idle i g bA hi;rw [hr] at hid;obtain ⟨jZ,hq⟩:=hid;have wW:(i==0)=false:=by simp;omega
 cases hqi:q i with
 |zero=>rw [hqi] at hq;rw [hq.1] at bJ;cases bJ
 |succ k=>
  rw [hqi] at hq;rcases hq with ⟨hf,_⟩|⟨_,g',es,hm,jw,hq'⟩
  ·rw [hf] at bJ;cases bJ
  have hu:upd ρ i .quit=ρ:=by rw [<-hr];exact oZ ρ i
  obtain ⟨jA,h1,h2,h3,h4⟩:=C.go (sl:=sl) hi bA (by rw [wW];exact jw w) (r':=.quit) (n':=k) (wt':=wt) (sm':=sm) ⟨jZ,by rw [Deaf_own];exact hq'⟩ (by rw [hu];exact C.wd) (C.td.mute aI (λ_=>by rw [hr];rfl) hm);exact ⟨jA,w,_,.quit,k,wt,sm,h1,h2,h3,by omega,Aside.refl Z w,λgx hx=>(h4 gx hx).1,.inl hr.symm,nI.same hr.symm,λx=>absurd rfl x,gX,λc z ok home e=>by rw [hr] at e;cases e⟩
theorem Ov {i n:Nat} {c:Nat} {z:Value} {ok:Bool} {home:Goroutine->Prop} {g:Goroutine} (hK:Z.K0 w) (bJ:g.status=.running) (hs:ik P (i==0) Z.K0 (Z.pr i) c z ok home n g):
 (0<n/\∃g₂,kL P (i==0) Z.K0 (Z.pr i) c z ok home g g₂)\/∃k g' es,n=k+2/\stepG P (i==0) g w=.go g' w es/\(∀e∈es,EvR (Z.pr i) e)/\ik P (i==0) Z.K0 (Z.pr i) c z ok home (k+1) g':=by
 rcases hs with ⟨k,w₀,rfl,hg⟩|⟨_,_,g₂,rfl,_⟩
 rotate_left
 ·cases bJ
 cases k with
 |zero=>exact .inl ⟨by omega,hg w hK⟩
 |succ k=>
  rcases hg with mY|⟨_,DU⟩
  ·exact .inl ⟨by omega,mY w hK⟩
  ·have hs:=DU w hK;cases hgo:stepG P (i==0) g w with
   |go g' w' es=>rw [hgo,goes_go] at hs;obtain ⟨⟨rfl,yo⟩,hG'⟩:=hs;exact .inr ⟨k,g',es,rfl,rfl,yo,.inl ⟨k,w',rfl,hG'⟩⟩
   |_=>rw [hgo] at hs;exact hs.elim
theorem BK {i:Nat} {Pv:Loc->Prop} {fn:FuncId} {pos:String} {es:Array Event} (h:∀e∈es,EvR Pv e):
 (∀op∈MemOp.ofEvents i fn pos es,∀b,op.act.touch?=some b->b.write=false/\Pv b.loc)/\(∀op∈MemOp.ofEvents i fn pos es,∀a,op.act≠.mark (.release a))/\∀t:Trace,Deaf (t++MemOp.ofEvents i fn pos es) i=Deaf t i:=by
 refine ⟨λop dC b hb=>?_,λop dC a=>?_,λt=>?_⟩
 ·obtain ⟨e,he,rfl⟩:=Go.Conc.mem_ofEvents dC;obtain ⟨a,rfl,hS⟩:=h e he;simp only [ofEvent_cell0,MemAct.touch?,Option.some.injEq] at hb;subst hb;exact ⟨rfl,hS⟩
 ·obtain ⟨e,he,rfl⟩:=Go.Conc.mem_ofEvents dC;obtain ⟨a',rfl,hS⟩:=h e he;exact fD (e:=⟨.cell a',_,_⟩) (λm x=>by cases x) a
 ·rw [Deaf_own];exact deafBehind_still (λe he=>by obtain ⟨a,rfl,_⟩:=h e he;exact ⟨by simp,by simp⟩) _
theorem Td.reads (H:Td Z b s p h n ρ t) (bY:Z.Wf) {i:Nat} (aI:i<n) (jZ:i<b->i=0) (hr:(ρ i).rel=false) {fn:FuncId} {pos:String} {es:Array Event} (yo:∀e∈es,EvR (Z.pr i) e):Td Z b s p h n ρ (t++MemOp.ofEvents i fn pos es):=by
 obtain ⟨h1,h2,_⟩:=BK (i:=i) (fn:=fn) (pos:=pos) yo;have:=H.app (r':=ρ i) aI gX (H.px.reads gX λop dC b' hb=>⟨(h1 op dC b' hb).1,(h1 op dC b' hb).2,bY.dis _ _ (h1 op dC b' hb).2⟩) (λhib h0=>by have:=jZ hib;omega) (λhrel=>by rw [hr] at hrel;cases hrel) λ_ op dC=>h2 op dC _
 rwa [oZ] at this
theorem TK (C:Core P Z b s p m h ρ wt sm t gs w q) {i:Nat} {g:Goroutine} {sl:Option (Nat×Nat)} (hi:gs[i]? =some g) (bA:i≠h) (bJ:g.status=.running) {c:Nat} {z:Value} {ok:Bool} {home:Goroutine->Prop} (hr:ρ i=.fq c z ok home) (jZ:i<b->i=0)
 (hsO:∀g₂ gx,kL P (i==0) Z.K0 (Z.pr i) c z ok home g g₂->gs[h]? =some gx->offersAt gx c true=[]):Nu P Z b s p m h ρ wt sm t gs w q i g sl:=by
 have aI:i<gs.size:=(Array.getElem?_eq_some_iff.1 hi).1;have hid:=C.idle i g bA hi;rw [hr] at hid;obtain ⟨EG,dN⟩:=hid;have hu:upd ρ i (.fq c z ok home)=ρ:=by rw [<-hr];exact oZ ρ i
 rcases Ov C.wd.keep.1 bJ dN with ⟨hn,g₂,iX⟩|⟨k,g',es,hqi,hgo,yo,aOz⟩
 ·obtain ⟨_,_,_,_,_,es,yo,jw⟩:=id iX;obtain ⟨kk,hc⟩:=C.wd.chans i c z ok home hr;obtain ⟨_,_,hd⟩:=BK (i:=i) (fn:=g.frame.fn) (pos:=g.frame.place) yo;have hw:∀cc∈#[rcase c z],NoWays w (gs.setIfInBounds i ph) cc:=by
   intro cc Av;simp only [List.mem_toArray,List.mem_cons,List.not_mem_nil,or_false] at Av;subst Av;refine ways_recv_none hc (partners_nil λx y hy=>?_);rcases getElem?_stand gs i x y hy with ⟨_,rfl⟩|⟨hx,hy'⟩
   ·exact offersAt_ph _ _
   ·by_cases hxh:x=h
    ·subst hxh;exact hsO g₂ y iX hy'
    ·exact (C.idle x y hxh hy').noSend C.wd.keep c
  refine ⟨_,w,_,.fq c z ok home,0,wt,sm,crowd_waits (sl:=sl) hi (jw w C.wd.keep.1) hw,by simp,?_,hn,Aside.refl Z w,λgx MI=>.inl ?_,.inl hr.symm,nI.same hr.symm,λx=>absurd rfl x,gX,λc' z' ok' ym e _=>?_⟩
  ·refine C.put (by simp) (λx hxi _=>Array.getElem?_setIfInBounds_ne (λe=>hxi e.symm)) (Array.getElem?_setIfInBounds_self_of_lt aI) gX ⟨(hd t).trans EG,.inr ⟨rfl,g,g₂,rfl,iX⟩⟩ (by rw [hu];exact C.wd) ?_;rw [hu];exact C.td.reads C.wf aI jZ (by rw [hr];rfl) yo
  ·rw [Array.getElem?_setIfInBounds_ne bA];exact MI
  ·rw [hr] at e;cases e;exact ⟨g₂,iX⟩
 ·obtain ⟨_,_,hd⟩:=BK (i:=i) (fn:=g.frame.fn) (pos:=g.frame.place) yo;obtain ⟨jA,h1,h2,h3,h4⟩:=C.go (sl:=sl) hi bA hgo (r':=.fq c z ok home) (n':=k+1) (wt':=wt) (sm':=sm) ⟨(hd t).trans EG,aOz⟩ (by rw [hu];exact C.wd) (by rw [hu];exact C.td.reads C.wf aI jZ (by rw [hr];rfl) yo);exact ⟨jA,w,_,.fq c z ok home,k+1,wt,sm,h1,h2,h3,by omega,Aside.refl Z w,λgx hx=>(h4 gx hx).1,.inl hr.symm,nI.same hr.symm,λx=>absurd rfl x,gX,λc' z' ok' ym e h0=>by omega⟩
end
end Co
end
section
open Go.ConcN (sumTo upd sumTo_upd upd_ne upd_same RelBy)
namespace Co
open Kv
section
variable {P:Program} {Z:Gh} {b s p m h n:Nat} {ρ:Nat->aU} {wt sm:Nat} {t:Trace} {gs:Array Goroutine} {w w':World} {q:Nat->Nat}
theorem jd {c m m':Nat} {b':Bool} (hc:∃o,w.heap[c]? =some o/\o.isChan=true) (a:Addr):(w.setChan c 0 #[] b' m m' false).cell? a=w.cell? a/\(w.setChan c 0 #[] b' m m' false).frozen? a=w.frozen? a:=by
 obtain ⟨o,ho,hoc⟩:=hc;unfold World.cell? World.frozen?;rw [ja];by_cases e:c=a.block/\a.block<w.heap.size
 ·rw [if_pos e,<-e.1,ho];cases o<;>first|(cases hoc;done)|exact ⟨rfl,rfl⟩
 ·rw [if_neg e];exact ⟨rfl,rfl⟩
theorem heap_setChan_ne {c c' m m':Nat} {b':Bool} (h:c'≠c):(w.setChan c 0 #[] b' m m' false).heap[c']? =w.heap[c']? :=by rw [ja,if_neg (λx=>h x.1.symm)]
theorem mR {es:Array Event} {j:Nat} {e:Event} (h:e∈es.extract 0 j):e∈es:=by obtain ⟨i,hi,rfl⟩:=Array.mem_iff_getElem.1 h;simp only [Array.getElem_extract];exact Array.getElem_mem _
theorem aZ {a a':Addr} {v:Value} (ha:a.spot=none):(w.setCell a v).frozen? a'=w.frozen? a':=by
 unfold World.frozen?;rw [bT _ _ _ ha];by_cases e:a.block=a'.block
 ·rw [if_pos e];cases w.heap[a'.block]? with
  |none=>rfl
  |some o=>cases o<;>rfl
 ·rw [if_neg e]
theorem WdA.cell (H:WdA Z b s n ρ w) (bY:Z.Wf) {i o:Nat} {v:Value} {r':aU} (hr:r'.late) (hi:b<=i) (hn:i<n) (hs:Z.bP s) (ho:o≠7:=by decide):WdA Z b s n (upd ρ i r') (w.setCell ⟨s,o,none⟩ v):=
 H.late hr hi hn (λ_ _ _ hk=>ku rfl hk rfl) (uD H.keep bY hs ho)
theorem Dy (C:Core P Z b s p m h ρ wt sm t gs w q) {i:Nat} {g g':Goroutine} {sl:Option (Nat×Nat)} (hi:gs[i]? =some g) (bA:i≠h) {st:Ez} (hr:ρ i=.leave st) {w':World} {es:Array Event} (dN:stepG P false g w=.go g' w' es) {r':aU} {n' wt' sm':Nat}
 (hn:n'<q i) (hl:r'.late) (u7:r'.cnt<=(ρ i).cnt) (MH:Idle P Z (t++MemOp.ofEvents i g.frame.fn g.frame.place es) i n' g' r') (Ml:Wd Z b s gs.size m (upd ρ i r') wt' sm' w') (htd:Td Z b s p h gs.size (upd ρ i r') (t++MemOp.ofEvents i g.frame.fn g.frame.place es)) (ha:Aside Z w w') (GX:nI b m ρ wt sm (upd ρ i r') wt' sm') (Jg:sm'≠sm->mayWake P g=true/\(g'.status=.running\/g'.status=.finished)):Nu P Z b s p m h ρ wt sm t gs w q i g sl:=by
 have wW:(i==0)=false:=by have:=C.idle i g bA hi;rw [hr] at this;have:=this.1;simp;omega
 obtain ⟨jA,h1,h2,h3,h4⟩:=C.go (sl:=sl) hi bA (by rw [wW];exact dN) MH Ml htd;exact ⟨jA,w',_,r',n',wt',sm',h1,h2,h3,hn,ha,λgx hx=>(h4 gx hx).1,.inr ⟨st,hr,hl,u7⟩,GX,λx gx hx=>(h4 gx hx).2 (Jg x).1 (Jg x).2,gX,λc z ok home e=>by rw [hr] at e;cases e⟩
theorem l8 {v:Value} (a:Addr) (o:Nat) (h:a≠⟨s,o,none⟩):(w.setCell ⟨s,o,none⟩ v).cell? a=w.cell? a:=World.cell?_setCell_other _ _ _ _ (λe=>h e.symm)
theorem Pb (C:Core P Z b s p m h ρ wt sm t gs w q) {i:Nat} {g:Goroutine} {sl:Option (Nat×Nat)} (hi:gs[i]? =some g) (bA:i≠h) {st:Ez} (hr:ρ i=.leave st):Nu P Z b s p m h ρ wt sm t gs w q i g sl:=by
 have aI:i<gs.size:=(Array.getElem?_eq_some_iff.1 hi).1;have hid:=C.idle i g bA hi;rw [hr] at hid;obtain ⟨jZ,k,hk,hl⟩:=hid;obtain ⟨PM,_⟩:=C.wd.UD i st hr;have aKE:i<m:=Nat.lt_of_lt_of_le aI C.ge;obtain ⟨k',lh,wR⟩:=C.wd.own i PM aI;rw [hk] at lh;obtain rfl:=Option.some.inj lh;have Bb:Z.bP s:=wR▸C.wf.bP i k hk;obtain ⟨g5,f5⟩:=C.wd.sI Bb;obtain ⟨g6,f6⟩:=C.wd.wh Bb;have MQ:(ρ i).cnt=1->0<cnt ρ b m:=aDd PM aKE;generalize hd:Deaf t i=d at hl;generalize hm:q i=mq at hl;cases hl with
 |slip bJ hmu hs Jm=>
  rename_i n' g' es;have hu:upd ρ i (.leave st)=ρ:=by rw [<-hr];exact oZ ρ i
  have wW:(i==0)=false:=by simp;omega
  obtain ⟨jA,h1,h2,h3,h4⟩:=C.go (sl:=sl) hi bA (by rw [wW];exact hs w (C.wd.keep.1 i k hk).2.2.2) (r':=.leave st) (n':=n') (wt':=wt) (sm':=sm) ⟨jZ,k,hk,by rw [Deaf_own,hd];exact Jm⟩ (by rw [hu];exact C.wd) (C.td.mute aI (λx=>by rw [hr];exact x) hmu);exact ⟨jA,w,_,.leave st,n',wt,sm,h1,h2,h3,by omega,Aside.refl Z w,λgx hx=>(h4 gx hx).1,.inl hr.symm,nI.same hr.symm,λx=>absurd rfl x,gX,λc z ok home e=>by rw [hr] at e;cases e⟩
 |close bJ hs Jm=>
  rename_i n' g';obtain ⟨mm,gN⟩:=C.wd.ans i k hr hk;have hex:∃o,w.heap[k.a]? =some o/\o.isChan=true:=⟨_,gN,rfl⟩
  obtain ⟨e5,ef5⟩:=jd (b':=true) (m:=mm) (m':=mm) hex (dE s);obtain ⟨e6,ef6⟩:=jd (b':=true) (m:=mm) (m':=mm) hex (iD s);refine Dy C hi bA hr (hs w mm gN) (r':=.leave .b) (n':=n') (wt':=wt) (sm':=sm) (by omega) (by simp [aU.late]) (by rw [hr];simp [aU.cnt]) ⟨jZ,k,hk,?_⟩ ⟨C.wd.toWdA.late (by simp [aU.late]) PM aI (λc kk hc G5=>?_) (zT C.wd.keep hex),C.wd.toWdB.RJ (by rw [hr];rfl) rfl e5 ef5 e6 ef6⟩ ?_ (Aside.setChan ⟨i,k,hk,.inr rfl⟩ gN) (nI.early (by rw [hr];rfl) (by rw [hr];rfl) rfl) λx=>absurd rfl x
  ·rw [Deaf_own,hd];exact Jm
  ·have hca:c≠k.a:=by
    rcases hc with ⟨j,z,ok,home,hj⟩|⟨j,k',hj,hjr,hjk,rfl⟩|⟨j,k',hj,_,hjk,rfl|rfl⟩|⟨j,k',hjk,rfl⟩
    ·exact C.wd.apart i k j c z ok home hr hk hj
    ·intro e;exact hj (C.wd.qH j k' i k hjr hjk hr hk e)
    ·exact (C.wf.Eo j k' i k hjk hk).1
    ·intro e;exact hj ((C.wf.Eo j k' i k hjk hk).2.2 e)
    ·exact (C.wf.Eo j k' i k hjk hk).1
   rw [heap_setChan_ne hca];exact G5
  ·rw [closeOps];refine C.td.app aI (by intro op dC;simp at dC;rcases dC with rfl|rfl<;>rfl) (C.td.px.leaves (g:=i) C.wf.dis (by intro op dC;simp at dC;rcases dC with rfl|rfl<;>rfl) λop dC b' hb=>?_) (λx _=>by omega) (λx=>by cases x) λ_ op dC=>?_
   ·simp only [List.mem_toArray,List.mem_cons,List.not_mem_nil,or_false] at dC;rcases dC with rfl|rfl
    ·simp only [MemAct.touch?,Option.some.injEq] at hb;subst hb;have hme:Z.me i (.obj k.a):=⟨k,hk,.inr (.inr rfl)⟩
     exact ⟨hme,C.wf.Lr hme,rfl⟩
    ·cases hb
   ·simp only [List.mem_toArray,List.mem_cons,List.not_mem_nil,or_false] at dC;rcases dC with rfl|rfl<;>exact λx=>by cases x
 |rel bJ hs Jm=>
  rename_i n' g';refine Dy C hi bA hr (hs w _ (wR▸g5)) (r':=.leave .c) (n':=n') (wt':=wt) (sm':=sm) (by omega) (by simp [aU.late]) (by rw [hr];simp [aU.cnt]) ⟨jZ,k,hk,?_⟩ ⟨C.wd.toWdA.late (by simp [aU.late]) PM aI (λc kk hc G5=>G5) C.wd.keep,C.wd.toWdB.RJ (by rw [hr];rfl) rfl rfl rfl rfl rfl⟩ ?_ (Aside.refl Z w) (nI.early (by rw [hr];rfl) (by rw [hr];rfl) rfl) λx=>absurd rfl x
  ·rw [Deaf_own,hd];exact Jm
  ·have oI:∀op∈MemOp.ofEvents i g.frame.fn g.frame.place #[rZ (.releaseMerge (dE k.s))],op={g:=i,fn:=g.frame.fn,pos:=g.frame.place,act:=.mark (.releaseMerge (dE k.s))}:=by
    intro op dC;obtain ⟨e,he,rfl⟩:=Go.Conc.mem_ofEvents dC;simp only [List.mem_toArray,List.mem_cons,List.not_mem_nil,or_false] at he;subst he;rfl
   refine C.td.app aI gX (C.td.px.mute λop dC=>by rw [oI op dC];rfl) (λx _=>by omega) (λ_ _=>⟨t.size,C.td.ple,?_⟩) λ_ op dC=>by rw [oI op dC];exact λx=>by cases x
   have:=RelBy.new (a:=dE s) (t:=t) (k:=i) hd g.frame.fn g.frame.place;rw [<-wR] at this ⊢;exact this
 |add g' bJ hdp hs hq hw=>
  rename_i n';have yt:=MQ (by rw [hr];rfl);obtain ⟨c,hc⟩:∃c,cnt ρ b m=c+1:=⟨cnt ρ b m - 1,by omega⟩
  have ZI:c<8:=by have:=C.wd.J5;omega
  have jw:=hs w c wt ZI C.wd.NF (by rw [wR,<-hc];exact g5) (by rw [wR];exact f5);have Fv:=Dr C.wd.toWdB yt;have jY:(w.setCell (dE s) (.int .u64 (aa c wt))).cell? (dE s)=some (.int .u64 (aa c wt)):=World.cell?_setCell_same _ _ _ (by rw [g5]);have h6:∀v,(w.setCell (dE s) v).cell? (iD s)=w.cell? (iD s):=λv=>l8 _ _ (by simp [iD]);have EG:deafBehind d (je k.s)=d:=deafBehind_still (by intro e he;simp [je,su,Bt] at he;rcases he with rfl|rfl<;>simp) d;have htd:∀r':aU,Td Z b s p h gs.size (upd ρ i r') (t++MemOp.ofEvents i g.frame.fn g.frame.place (je k.s)):=λr'=>by
   refine C.td.JC C.wf aI hk PM (by rw [hr];rfl) (by intro e he;simp [je] at he;rcases he with rfl|rfl<;>simp) λj e he=>.inr ?_;rw [hd,deafBehind_still]
   ·exact hdp
   ·intro e he;have:e∈je k.s:=by
     have:=mR he;exact this
    simp [je,su,Bt] at this;rcases this with rfl|rfl<;>simp
  have old:∀{r':aU} {j:Nat},(upd ρ i r' j).kQ=true->j=i:=λ{r' j} hj=>by
   by_cases e:j=i
   ·exact e
   ·rw [upd_ne _ _ e,Fv j] at hj;cases hj
  have hcu:∀r':aU,r'.cnt=0->cnt (upd ρ i r') b m=c:=λr' e=>by
   have:=aDc (b:=b) (n:=m) aKE PM (ρ:=ρ) r';rw [hr] at this;rw [e,hc] at this;simp only [aU.cnt] at this;omega
  have hkq:(c≠0\/wt=0)->nI b m ρ wt sm (upd ρ i .quit) wt sm:=λD7=>⟨λh=>h.upd rfl,λH=>by
   rcases H with ⟨a,b',_⟩|⟨_,_,j,e⟩|⟨_,_,e,_⟩
   ·exact .inl ⟨a,b',.inl (by rw [hcu _ rfl];omega)⟩
   ·have:=Fv j;rw [e] at this;cases this
   ·omega⟩
  by_cases D7:c≠0\/wt=0
  ·refine Dy C hi bA hr jw (r':=.quit) (n':=n') (wt':=wt) (sm':=sm) (by omega) (by simp [aU.late]) (by rw [hr];simp [aU.cnt]) ⟨jZ,?_⟩ ⟨by rw [wR];exact C.wd.toWdA.cell C.wf (by simp [aU.late]) PM aI Bb,?_⟩ (htd _) (by rw [wR];exact Aside.setCell Bb (.inl rfl)) (hkq D7) λx=>absurd rfl x
   ·rw [Deaf_own,hd,EG];exact hq c wt ZI C.wd.NF D7
   ·rw [wR];refine ⟨λ_=>?_,λ_=>?_,by rw [hcu _ rfl];omega,C.wd.NF,C.wd.ND,λj hj=>?_,λj hj=>?_,λj j' h1 h2=>(old h1).trans (old h2).symm⟩
    ·rw [hcu _ rfl];exact ⟨jY,(aZ rfl).trans f5⟩
    ·rw [h6];exact ⟨g6,(aZ rfl).trans f6⟩
    ·have hw:(upd ρ i .quit j).kQ=true:=by rcases hj with hj|hj<;>rw [hj]<;>rfl
     rw [old hw,upd_same] at hj;rcases hj with hj|hj<;>cases hj
    ·have hw:(upd ρ i .quit j).kQ=true:=by rw [hj];rfl
     rw [old hw,upd_same] at hj;cases hj
  ·have BI:c=0/\wt=1:=by have:=C.wd.NF;omega
   obtain ⟨rfl,rfl⟩:=BI;refine Dy C hi bA hr jw (r':=.leave .w) (n':=n') (wt':=1) (sm':=sm) (by omega) (by simp [aU.late]) (by rw [hr];simp [aU.cnt]) ⟨jZ,k,hk,?_⟩ ⟨by rw [wR];exact C.wd.toWdA.cell C.wf (by simp [aU.late]) PM aI Bb,?_⟩ (htd _) (by rw [wR];exact Aside.setCell Bb (.inl rfl)) ⟨λhc=>(by cases hc.1),λH=>.inl ⟨rfl,by have:=C.wd.ND rfl;exact this,.inr ⟨i,.inl (upd_same _ _ _)⟩⟩⟩ λx=>absurd rfl x
   ·rw [Deaf_own,hd,EG];exact hw
   ·rw [wR];refine ⟨λ_=>?_,λ_=>?_,by rw [hcu _ rfl];omega,C.wd.NF,C.wd.ND,λj hj=>⟨rfl,hcu _ rfl⟩,λj hj=>?_,λj j' h1 h2=>(old h1).trans (old h2).symm⟩
    ·rw [hcu _ rfl];exact ⟨jY,(aZ rfl).trans f5⟩
    ·rw [h6];exact ⟨g6,(aZ rfl).trans f6⟩
    ·have hw:(upd ρ i (.leave .w) j).kQ=true:=by rw [hj];rfl
     rw [old hw,upd_same] at hj;cases hj
 |look bJ hdp hs Jm=>
  rename_i n' g';obtain ⟨YU,yt⟩:=C.wd.Wj i (.inl hr);subst YU;have jw:=hs w (by rw [wR,<-yt];exact g5);have hu:=pW (ρ:=ρ) (b:=b) (n:=m) (i:=i) (r':=.leave .x) (by rw [hr];rfl);have old:∀{j:Nat},(upd ρ i (.leave .x) j).kQ=true->j=i:=λ{j} hj=>by
   by_cases e:j=i
   ·exact e
   ·rw [upd_ne _ _ e] at hj;exact C.wd.NT j i hj (by rw [hr];rfl)
  refine Dy C hi bA hr jw (r':=.leave .x) (n':=n') (wt':=1) (sm':=sm) (by omega) (by simp [aU.late]) (by rw [hr];simp [aU.cnt]) ⟨jZ,k,hk,?_⟩ ⟨C.wd.toWdA.late (by simp [aU.late]) PM aI (λc kk hc G5=>G5) C.wd.keep,?_⟩ ?_ (Aside.refl Z w) ⟨λhc=>(by cases hc.1),λH=>.inl ⟨rfl,C.wd.ND rfl,.inr ⟨i,.inr (upd_same _ _ _)⟩⟩⟩ λx=>absurd rfl x
  ·rw [Deaf_own,hd];exact Jm
  ·refine ⟨λhb=>by rw [hu];exact C.wd.sI hb,C.wd.wh,by rw [hu];exact C.wd.J5,C.wd.NF,C.wd.ND,λj hj=>⟨rfl,hu.trans yt⟩,λj hj=>?_,λj j' h1 h2=>(old h1).trans (old h2).symm⟩;have hw:(upd ρ i (.leave .x) j).kQ=true:=by rw [hj];rfl
   rw [old hw,upd_same] at hj;cases hj
  ·refine C.td.JC C.wf aI hk PM (by rw [hr];rfl) (by intro e he;simp at he;rcases he with rfl;simp) λj e he=>.inr ?_;rw [hd,deafBehind_still]
   ·exact hdp
   ·intro e he;have:=mR he;simp [su] at this;subst this;simp
 |reset bJ hdp hs Jm=>
  rename_i n' g';obtain ⟨YU,yt⟩:=C.wd.Wj i (.inr hr);subst YU;have Bc:=C.wd.ND rfl;have jw:=hs w (by rw [wR,<-yt];exact g5) (by rw [wR];exact f5);have jY:(w.setCell (dE s) (.int .u64 (aa 0 0))).cell? (dE s)=some (.int .u64 (aa 0 0)):=World.cell?_setCell_same _ _ _ (by rw [g5]);have h6:∀v,(w.setCell (dE s) v).cell? (iD s)=w.cell? (iD s):=λv=>l8 _ _ (by simp [iD]);have hu:=pW (ρ:=ρ) (b:=b) (n:=m) (i:=i) (r':=.leave .y) (by rw [hr];rfl);have old:∀{j:Nat},(upd ρ i (.leave .y) j).kQ=true->j=i:=λ{j} hj=>by
   by_cases e:j=i
   ·exact e
   ·rw [upd_ne _ _ e] at hj;exact C.wd.NT j i hj (by rw [hr];rfl)
  refine Dy C hi bA hr jw (r':=.leave .y) (n':=n') (wt':=0) (sm':=sm) (by omega) (by simp [aU.late]) (by rw [hr];simp [aU.cnt]) ⟨jZ,k,hk,?_⟩ ⟨by rw [wR];exact C.wd.toWdA.cell C.wf (by simp [aU.late]) PM aI Bb,?_⟩ ?_ (by rw [wR];exact Aside.setCell Bb (.inl rfl)) ⟨λhc=>(by cases hc.1),λH=>.inr (.inl ⟨rfl,Bc,i,upd_same _ _ _⟩)⟩ λx=>absurd rfl x
  ·rw [Deaf_own,hd];exact Jm
  ·rw [wR];refine ⟨λ_=>?_,λ_=>?_,by rw [hu];exact C.wd.J5,by omega,λx=>by omega,λj hj=>?_,λj hj=>⟨rfl,Bc,hu.trans yt⟩,λj j' h1 h2=>(old h1).trans (old h2).symm⟩
   ·rw [hu,yt];exact ⟨jY,(aZ rfl).trans f5⟩
   ·rw [h6];exact ⟨g6,(aZ rfl).trans f6⟩
   ·have hw:(upd ρ i (.leave .y) j).kQ=true:=by rcases hj with hj|hj<;>rw [hj]<;>rfl
    rw [old hw,upd_same] at hj;rcases hj with hj|hj<;>cases hj
  ·refine C.td.JC C.wf aI hk PM (by rw [hr];rfl) (by intro e he;simp at he;rcases he with rfl;simp) λj e he=>.inr ?_;rw [hd,deafBehind_still]
   ·exact hdp
   ·intro e he;have:=mR he;simp [Bt] at this;subst this;simp
 |sem bJ hdp Jg hs Jm=>
  rename_i n' g';obtain ⟨YU,Bc,yt⟩:=C.wd.wky i hr;subst YU;subst Bc;have jw:=hs w (by rw [wR];exact g6) (by rw [wR];exact f6);have jY:(w.setCell (iD s) (.int .u32 1)).cell? (iD s)=some (.int .u32 1):=World.cell?_setCell_same _ _ _ (by rw [g6]);have h5:∀v,(w.setCell (iD s) v).cell? (dE s)=w.cell? (dE s):=λv=>l8 _ _ (by simp [dE]);have hu:=pW (ρ:=ρ) (b:=b) (n:=m) (i:=i) (r':=.quit) (by rw [hr];rfl);have old:∀{j:Nat},(upd ρ i .quit j).kQ=true->False:=λ{j} hj=>by
   by_cases e:j=i
   ·rw [e,upd_same] at hj;cases hj
   ·rw [upd_ne _ _ e] at hj;exact e (C.wd.NT j i hj (by rw [hr];rfl))
  have aKr:∀j,(upd ρ i .quit j).kQ=false:=λj=>by
   cases hj:(upd ρ i .quit j).kQ with
   |false=>rfl
   |true=>exact (old hj).elim
  have EG:deafBehind d (za k.s)=d:=by simp [deafBehind,za,rZ,su,Bt]
  refine Dy C hi bA hr jw (r':=.quit) (n':=n') (wt':=0) (sm':=1) (by omega) (by simp [aU.late]) (by rw [hr];simp [aU.cnt]) ⟨jZ,?_⟩ ⟨by rw [wR];exact C.wd.toWdA.cell C.wf (by simp [aU.late]) PM aI Bb,?_⟩ ?_ (by rw [wR];exact Aside.setCell Bb (.inr rfl)) ⟨λhc=>(by have:=hc.2.2 i;rw [hr] at this;cases this),λH=>.inr (.inr ⟨rfl,rfl,hu.trans yt,aKr⟩)⟩ λ_=>⟨Jg,Jm.status⟩
  ·rw [Deaf_own,hd,EG];exact Jm
  ·rw [wR];refine ⟨λ_=>?_,λ_=>?_,by rw [hu];exact C.wd.J5,by omega,λx=>by omega,λj hj=>?_,λj hj=>?_,λj j' h1 h2=>(old h1).elim⟩
   ·rw [hu,h5,yt];rw [yt] at g5;exact ⟨g5,(aZ rfl).trans f5⟩
   ·exact ⟨jY,(aZ rfl).trans f6⟩
   ·exact (old (j:=j) (by rcases hj with hj|hj<;>rw [hj]<;>rfl)).elim
   ·exact (old (j:=j) (by rw [hj];rfl)).elim
  ·refine C.td.JC C.wf aI hk PM (by rw [hr];rfl) (by intro e he;simp [za] at he;rcases he with rfl|rfl|rfl|rfl<;>simp [rZ,Event.mute]) λj e he=>?_;rw [hd];rcases j with _|_|_|_|j
   ·refine .inl ?_;simp [za,rZ] at he;subst he;rfl
   ·refine .inr ?_;simp [za,deafBehind,rZ,su,Bt]
   ·refine .inr ?_;simp [za,deafBehind,rZ,su,Bt]
   ·refine .inl ?_;simp [za,rZ] at he;subst he;rfl
   ·simp [za] at he
end
end Co
end
section
open Go.ConcN (sumTo upd sumTo_upd upd_ne upd_same RelBy)
namespace Co
open Kv
def iW (P:Program) (Post:Value->World->Prop) (m:Machine) (t:Trace):Prop:=∃N last o w t',runNT P (N+1) m t=(.ended o w,t')/\runN P N m=.next last/\step P last=.ended o w/\Good P Post last o w t'
def aQ (Z:Gh) (w w':World):Prop:=∃d,Aside Z (w.at d) w'
theorem aQ.refl (Z:Gh) (w:World):aQ Z w w:=⟨w.drawn,Aside.refl Z w⟩
theorem aQ.trans {Z:Gh} {a b c:World} (h:aQ Z a b) (k:aQ Z b c):aQ Z a c:=by obtain ⟨d,h⟩:=h;obtain ⟨e,k⟩:=k;exact ⟨e,(h.at e).trans k⟩
theorem Aside.d {Z:Gh} {a b:World} (h:Aside Z a b):aQ Z a b:=⟨a.drawn,h⟩
theorem aQ.Rz (Z:Gh) (w:World) (d:Nat):aQ Z w (w.at d):=⟨d,Aside.refl Z _⟩
def aj (ρ ρ':Nat->aU):Prop:=∀i,ρ' i=ρ i\/((∃st,ρ i=.leave st)/\(ρ' i).late/\(ρ' i).cnt<=(ρ i).cnt)
theorem aj.refl (ρ:Nat->aU):aj ρ ρ:=λ_=>.inl rfl
theorem aj.trans {a b c:Nat->aU} (h:aj a b) (k:aj b c):aj a c:=λi=>by
 rcases k i with e|⟨⟨st,e⟩,hl⟩
 ·rw [e];exact h i
 ·rcases h i with e'|⟨hx,_,hy⟩
  ·exact .inr ⟨⟨st,e'▸e⟩,hl.1,e'▸hl.2⟩
  ·exact .inr ⟨hx,hl.1,Nat.le_trans hl.2 hy⟩
theorem Change.aA {ρ:Nat->aU} {i:Nat} {r':aU} (h:Change ρ i r'):aj ρ (upd ρ i r'):=λj=>by
 by_cases e:j=i
 ·subst e;rw [upd_same];rcases h with h|⟨st,h1,h2⟩
  ·exact .inl h
  ·exact .inr ⟨⟨st,h1⟩,h2⟩
 ·exact .inl (upd_ne _ _ e)
section
variable {P:Program} {Post:Value->World->Prop} {Z:Gh} {b s p m h n:Nat} {ρ:Nat->aU} {wt sm:Nat} {t:Trace} {gs:Array Goroutine} {w w':World} {q:Nat->Nat}
theorem iW.next {M M':Machine} {ops:Array MemOp} (hs:stepT P M=(.next M',ops)) (k:iW P Post M' (t++ops)):iW P Post M t:=by obtain ⟨n,last,o,w,t',h1,h2,h3,h4⟩:=k;exact ⟨n+1,last,o,w,t',by rw [runNT_succ_next hs];exact h1,by rw [runN_succ_next hs];exact h2,h3,h4⟩
theorem iW.ended {M:Machine} {o:Outcome} {w:World} {ops:Array MemOp} (hs:stepT P M=(.ended o w,ops)) (hg:Good P Post M o w (t++ops)):iW P Post M t:=
 ⟨0,M,o,w,t++ops,by simp [runNT,hs],rfl,by simp [step,hs],hg⟩
theorem Core.at (C:Core P Z b s p m h ρ wt sm t gs w q) (d:Nat):Core P Z b s p m h ρ wt sm t gs (w.at d) q:=
 ⟨C.wf,C.pos,C.ge,C.idle,⟨⟨C.wd.chans,C.wd.ans,C.wd.uS,C.wd.apart,C.wd.qH,C.wd.keep,C.wd.both,C.wd.Dm,C.wd.own,C.wd.UD⟩,⟨C.wd.sI,C.wd.wh,C.wd.J5,C.wd.NF,C.wd.ND,C.wd.Wj,C.wd.wky,C.wd.NT⟩⟩,C.td⟩
theorem by_step (C:Core P Z b s p m h ρ wt sm t gs w q) {i:Nat} {g:Goroutine} {sl:Option (Nat×Nat)} (hi:gs[i]? =some g) (bA:i≠h) (bJ:g.status=.running) (jZ:∀c z ok home,ρ i=.fq c z ok home->i<b->i=0)
 (hsO:∀c z ok home g₂ gx,ρ i=.fq c z ok home->kL P (i==0) Z.K0 (Z.pr i) c z ok home g g₂->gs[h]? =some gx->offersAt gx c true=[]):Nu P Z b s p m h ρ wt sm t gs w q i g sl:=by
 cases hr:ρ i with
 |quit=>exact Ud C hi bA bJ hr
 |hold=>have:=C.idle i g bA hi;rw [hr] at this;exact this.elim
 |fq c z ok home=>exact TK C hi bA bJ hr (jZ c z ok home hr) λg₂ gx iX hg=>hsO c z ok home g₂ gx hr iX hg
 |leave st=>exact Pb C hi bA hr
theorem Idle.awake {i n:Nat} {g:Goroutine} {r:aU} (hK:Z.K w) (h:Idle P Z t i n g r):awake g:=by
 cases r with
 |quit=>exact awake_of (h.2.status.elim .inl λx=>.inr (.inr x))
 |hold=>exact h.elim
 |fq c z ok home=>exact awake_of ((ik.status hK.1 h.2).elim (λx=>.inl x.1) λx=>.inr (.inl x.1))
 |leave st=>obtain ⟨_,k,_,hl⟩:=h;exact awake_of (.inl hl.status)
theorem Core.awake (C:Core P Z b s p m h ρ wt sm t gs w q) {a:Goroutine} (ha:gs[h]? =some a) (hs:a.status=.running\/a.status=.blocked):∀g∈gs,awake g:=by
 intro g hg;obtain ⟨i,hi,rfl⟩:=Array.mem_iff_getElem.1 hg;by_cases e:i=h
 ·subst e;have:gs[i]=a:=by simpa [Array.getElem?_eq_getElem hi] using ha
  rw [this];exact awake_of (hs.elim .inl λx=>.inr (.inl x))
 ·exact (C.idle i _ e (Array.getElem?_eq_getElem hi)).awake C.wd.keep
def Low (b:Nat) (ρ:Nat->aU):Prop:=∀i c z ok home,ρ i=.fq c z ok home->i<b->i=0
theorem Low.aA {ρ':Nat->aU} (h:Low b ρ) (k:aj ρ ρ'):Low b ρ':=λi c z ok home e hb=>by
 rcases k i with e'|⟨_,hl⟩
 ·exact h i c z ok home (e'▸e) hb
 ·rw [e] at hl;exact hl.1.elim
theorem vE {q:Nat->Nat} {i n n':Nat} (hi:i<n) (h:n'<q i):sumTo n (upd q i n')<sumTo n q:=by have:sumTo n (upd q i n')+q i=sumTo n q+n':=sumTo_upd q n' id hi;omega
theorem picked {a:Goroutine} (bJ:a.status=.running) (hn:∀jA w₁ w' t' ρ' wt' sm' q' sl₁ jQ,jA.size=gs.size->jA[h]? =some a->Core P Z b s p m h ρ' wt' sm' t' jA w' q'->aj ρ ρ'->nI b m ρ wt sm ρ' wt' sm'->(sumTo jA.size q'<=sumTo gs.size q/\(sumTo jA.size q'=sumTo gs.size q->ρ'=ρ))->aQ Z w w'->Deaf t' h=Deaf t h->t.size<=t'.size->
 stepT P (crowd jA w₁ sl₁)=runT P (crowd jA w' jQ) h->iW P Post (crowd jA w₁ sl₁) t')
 {sl:Option (Nat×Nat)} (ha:gs[h]? =some a) (C:Core P Z b s p m h ρ wt sm t gs w q) (oJ:Low b ρ):iW P Post (crowd gs w sl) t:=by
 suffices H:∀(μ:Nat) gs₁ w₁ t₁ ρ₁ wt₁ sm₁ q₁ sl₁,gs₁.size=gs.size->gs₁[h]? =some a->Core P Z b s p m h ρ₁ wt₁ sm₁ t₁ gs₁ w₁ q₁->aj ρ ρ₁->nI b m ρ wt sm ρ₁ wt₁ sm₁->(sumTo gs₁.size q₁<=sumTo gs.size q/\(sumTo gs₁.size q₁=sumTo gs.size q->ρ₁=ρ))->aQ Z w w₁->Deaf t₁ h=Deaf t h->t.size<=t₁.size->sumTo gs₁.size q₁=μ->iW P Post (crowd gs₁ w₁ sl₁) t₁ from
  H _ gs w t ρ wt sm q sl rfl ha C (aj.refl ρ) ⟨id,id⟩ ⟨Nat.le_refl _,λ_=>rfl⟩ (aQ.refl Z w) rfl (Nat.le_refl _) rfl
 intro μ
 induction μ using Nat.strongRecOn with
 |ind μ ih=>
  intro gs₁ w₁ t₁ ρ₁ wt₁ sm₁ q₁ sl₁ bW ha₁ C₁ lD bz Ji iF EG aOv hμ;obtain ⟨i,g,d,jQ,hi,hg,dN⟩:=crowd_pick (P:=P) (w:=w₁) (sl:=sl₁) (C₁.awake ha₁ (.inl bJ)) ⟨h,a,ha₁,bJ⟩;by_cases e:i=h
  ·subst e;exact hn gs₁ w₁ (w₁.at d) t₁ ρ₁ wt₁ sm₁ q₁ sl₁ jQ bW ha₁ (C₁.at d) lD bz Ji (iF.trans (aQ.Rz Z w₁ d)) EG aOv dN
  ·have aKD:∀{n':Nat},n'<q₁ i->sumTo gs₁.size (upd q₁ i n')<sumTo gs₁.size q₁:=λh4=>vE (Array.getElem?_eq_some_iff.1 hi).1 h4;obtain ⟨jA,w',ops,r',n',wt',sm',h1,h2,h3,h4,h5,h6,h7,h8,hsw,h9,_⟩:=by_step (sl:=jQ) (C₁.at d) hi e hg ((oJ.aA lD) i) λc z ok home g₂ gx _ _ MI=>by
    rw [ha₁] at MI;obtain rfl:=Option.some.inj MI;exact offersAt_of_not_blocked (by rw [bJ];simp) _ _
   refine iW.next (dN.trans h1) (ih (sumTo jA.size (upd q₁ i n')) ?_ jA w' _ _ wt' sm' _ jQ (h2.trans bW) ?_ h3 (lD.trans h7.aA) ⟨λhc=>h8.calm (bz.calm hc),λhc=>h8.wtg (bz.wtg hc)⟩ (by have:=aKD h4;rw [h2];exact ⟨by omega,λe=>by omega⟩) ((iF.trans (aQ.Rz Z w₁ d)).trans h5.d) ?_ ?_ rfl)
   ·rw [h2,<-hμ];exact aKD h4
   ·rcases h6 a ha₁ with x|x
    ·exact x
    ·rw [x,again_of_running (.inl bJ)]
   ·rw [Deaf_other t₁ (g':=i) e ops h9];exact EG
   ·simp only [Array.size_append];omega
structure JP (Z:Gh) (S:Nat->Prop) (h:Nat) (d d':Nat) (w w':World) (es:Array Event):Prop where
 keep:Z.K w->Z.K w'
 grp:∀s,Z.bP s->(w'.cell? (dE s)=w.cell? (dE s)/\w'.frozen? (dE s)=w.frozen? (dE s))/\(w'.cell? (iD s)=w.cell? (iD s)/\w'.frozen? (iD s)=w.frozen? (iD s))
 chan:∀c k,S c->w.heap[c]? =some (.chan 0 #[] false k k false)->w'.heap[c]? =some (.chan 0 #[] false k k false)
 gV:∀e∈es,(∀x,(MemAct.ofEvent e).touch?=some x->(Z.sh x.loc->x.kind≠.plain)/\(x.write=true->∀g,¬Z.pr g x.loc)/\(x.kind=.said->h=0))/\∀s,Z.bP s->MemAct.ofEvent e≠.mark (.release (dE s))
 deaf:deafBehind d es=d'
def used (Z:Gh) (ρ:Nat->aU) (c:Nat):Prop:=(∃i z ok home,ρ i=.fq c z ok home)\/∃i k,ρ i=.leave .a/\Z.own i=some k/\c=k.a
def aFH (Z:Gh) (n:Nat) (ρ:Nat->aU) (c:Nat):Prop:=used Z ρ c\/(∃i k,i<n/\Z.own i=some k/\(ρ i).alive/\(c=k.o\/c=k.a))\/∃i k,i<n/\Z.own i=some k/\¬Z.cls k.o/\c=k.o
theorem Core.Fa (C:Core P Z b s p m h ρ wt sm t gs w q) {a a':Goroutine} {es:Array Event} {d d' m' wt' sm':Nat} (hd:Deaf t h=d) (ha:gs[h]? =some a) (hh:ρ h=.hold) (hb:h=0\/b<=h) (hk:Z.K w->Z.K w') (hc:∀c k,aFH Z gs.size ρ c->w.heap[c]? =some (.chan 0 #[] false k k false)->w'.heap[c]? =some (.chan 0 #[] false k k false))
 (aKV:∀e∈es,(∀x,(MemAct.ofEvent e).touch?=some x->(Z.sh x.loc->x.kind≠.plain)/\(x.write=true->∀g,¬Z.pr g x.loc)/\(x.kind=.said->h=0))/\∀s,Z.bP s->MemAct.ofEvent e≠.mark (.release (dE s))) (EG:deafBehind d es=d') (hm:gs.size<=m') (hB:WdB (Z.bP s) b s m' ρ wt' sm' w'):
 Core P Z b s p m' h ρ wt' sm' (t++MemOp.ofEvents h a.frame.fn a.frame.place es) ((gs.map (woken P a a' w')).setIfInBounds h a') w' q/\((gs.map (woken P a a' w')).setIfInBounds h a')[h]? =some a'/\Deaf (t++MemOp.ofEvents h a.frame.fn a.frame.place es) h=d':=by
 have aI:h<gs.size:=(Array.getElem?_eq_some_iff.1 ha).1;have hu:upd ρ h .hold=ρ:=by rw [<-hh];exact oZ ρ h
 have aEf:∀i c z ok home,ρ i=.fq c z ok home->∃k,w'.heap[c]? =some (.chan 0 #[] false k k false):=λi c z ok home e=>by
  obtain ⟨k,hk⟩:=C.wd.chans i c z ok home e;exact ⟨k,hc c k (.inl (.inl ⟨i,z,ok,home,e⟩)) hk⟩
 have Ml:Wd Z b s gs.size m' ρ wt' sm' w':=by
  refine ⟨⟨aEf,λi k e ho=>?_,C.wd.uS,C.wd.apart,C.wd.qH,hk C.wd.keep,λi k hi ho zH=>?_,λi k hi ho u7=>?_,C.wd.own,C.wd.UD⟩,hB⟩
  ·obtain ⟨mm,hm⟩:=C.wd.ans i k e ho;exact ⟨mm,hc _ mm (.inl (.inr ⟨i,k,e,ho,rfl⟩)) hm⟩
  ·obtain ⟨⟨m1,h1⟩,m2,h2⟩:=C.wd.both i k hi ho zH;exact ⟨⟨m1,hc _ m1 (.inr (.inl ⟨i,k,hi,ho,zH,.inl rfl⟩)) h1⟩,m2,hc _ m2 (.inr (.inl ⟨i,k,hi,ho,zH,.inr rfl⟩)) h2⟩
  ·obtain ⟨m1,h1⟩:=C.wd.Dm i k hi ho u7;exact ⟨m1,hc _ m1 (.inr (.inr ⟨i,k,hi,ho,u7,rfl⟩)) h1⟩
 have Fs:∀op∈MemOp.ofEvents h a.frame.fn a.frame.place es,op.g=h:=gX;have oU:∀op∈MemOp.ofEvents h a.frame.fn a.frame.place es,∀x,op.act.touch?=some x->(Z.sh x.loc->x.kind≠.plain)/\(x.write=true->∀g,¬Z.pr g x.loc)/\(x.kind=.said->h=0):=λop dC x hx=>by
  obtain ⟨e,he,rfl⟩:=Go.Conc.mem_ofEvents dC;exact (aKV e he).1 x hx
 have htd:Td Z b s p h gs.size ρ (t++MemOp.ofEvents h a.frame.fn a.frame.place es):=by
  have:=C.td.app (r':=.hold) aI Fs (C.td.px.own Fs oU) (λkz h0=>by rcases hb with x|x<;>omega) (λx=>by cases x) λhz op dC=>by
   obtain ⟨e,he,rfl⟩:=Go.Conc.mem_ofEvents dC;exact (aKV e he).2 s hz
  rwa [hu] at this
 refine ⟨⟨C.wf,C.pos,by simpa using hm,λx y hx hy=>?_,by simpa using Ml,by simpa using htd⟩,Array.getElem?_setIfInBounds_self_of_lt (by simpa using aI),by rw [Deaf_own,hd];exact EG⟩;rw [Array.getElem?_setIfInBounds_ne (λe=>hx e.symm),Array.getElem?_map] at hy;obtain ⟨y₀,hy₀,rfl⟩:=Option.map_eq_some_iff.1 hy;have hi:=C.idle x y₀ hx hy₀;rw [woken_of_again (hi.fixed C.wd.keep λc z ok home hr=>aEf x c z ok home hr)];have hd:Deaf (t++MemOp.ofEvents h a.frame.fn a.frame.place es) x=Deaf t x:=Deaf_other t (λz=>hx z.symm) _ Fs;revert hi;cases ρ x with
 |quit=>intro h;exact ⟨h.1,by rw [hd];exact h.2⟩
 |hold=>exact id
 |fq c z ok home=>intro h;exact ⟨hd.trans h.1,h.2⟩
 |leave st=>intro h;exact ⟨h.1,by rw [hd];exact h.2⟩
theorem Core.own (C:Core P Z b s p m h ρ wt sm t gs w q) {a a':Goroutine} {es:Array Event} {d d':Nat} (hd:Deaf t h=d) (ha:gs[h]? =some a) (hh:ρ h=.hold) (hb:h=0\/b<=h) (H:JP Z (λc=>Z.ic c\/used Z ρ c) h d d' w w' es):
 Core P Z b s p m h ρ wt sm (t++MemOp.ofEvents h a.frame.fn a.frame.place es) ((gs.map (woken P a a' w')).setIfInBounds h a') w' q/\((gs.map (woken P a a' w')).setIfInBounds h a')[h]? =some a'/\Deaf (t++MemOp.ofEvents h a.frame.fn a.frame.place es) h=d':=by
 refine C.Fa hd ha hh hb H.keep (λc k hc hk=>H.chan c k ?_ hk) H.gV H.deaf C.ge ⟨λhz=>?_,λhz=>?_,C.wd.J5,C.wd.NF,C.wd.ND,C.wd.Wj,C.wd.wky,C.wd.NT⟩
 ·rcases hc with hc|⟨i,k,_,ho,_,e⟩|⟨i,k,_,ho,_,e⟩
  ·exact .inr hc
  ·exact .inl (.inr ⟨i,k,ho,e⟩)
  ·exact .inl (.inr ⟨i,k,ho,.inl e⟩)
 ·obtain ⟨⟨e1,e2⟩,_⟩:=H.grp s hz;rw [e1,e2];exact C.wd.sI hz
 ·obtain ⟨_,e1,e2⟩:=H.grp s hz;rw [e1,e2];exact C.wd.wh hz
end
end Co
end
end
end Go.Proofs.YtmanpggemmgnnaaGreatDoor
