/- Ends: a part. Conditions: none. -/
import Derived.Conc.CrowdCom2
import Derived.Conc.Token
import Derived.Test.YtmanpggemmgnnaaGreatDoorA06
set_option linter.all false
namespace Go.Proofs.YtmanpggemmgnnaaGreatDoor
noncomputable section
open Go Go.Conc
def ų:=@World.cell?_setCell_other
def Ų:=@World.cell?_setCell_same
def ű:=@offersAt_of_not_blocked
def Ű:=@getElem?_append_cases
def ů:=@Go.Conc.mem_ofEvents
def Ů:=@deafBehind_still
def ŭ:=@again_of_running
def Ŭ:=@Deaf_other
def ū:=@Aside.refl
def Ū:=@Deaf_own
def ũ:=@awake_of
section
open Go.ConcN (sumTo upd sumTo_upd upd_ne upd_same RelBy)
namespace Co
open Kv
structure dR where
 s:Nat
 r:Nat
 o:Nat
 a:Nat
structure Gh where
 bP:Nat->Prop
 own:Nat->Option dR
 nch:Nat->Prop
 cls:Nat->Prop
 Dl:Nat->Prop
 lq:Nat->Option Obj
def dE(s:Nat):Addr:=⟨s,5,none⟩
def iD(s:Nat):Addr:=⟨s,6,none⟩
def IW(o:Nat):Prop:=o=1\/o=9\/o=10
def Gh.sh(Z:Gh)(l:Loc):Prop:=(∃s,Z.bP s/\(l=.cell (dE s)\/l=.cell (iD s)))\/∃g k,Z.own g=some k/\(l=.obj k.o\/l=.obj k.a)
def Gh.pr(Z:Gh)(g:Nat)(l:Loc):Prop:=∃g' k o,Z.own g'=some k/\IW o/\l=.cell ⟨k.r,o,none⟩/\(g=0\/g=g')
def Gh.me(Z:Gh)(g:Nat)(l:Loc):Prop:=∃k,Z.own g=some k/\(l=.cell (dE k.s)\/l=.cell (iD k.s)\/l=.obj k.a)
structure Gh.Wf(Z:Gh):Prop where
 bP:∀g k,Z.own g=some k->Z.bP k.s
 apart:∀g k,Z.own g=some k->¬Z.bP k.r
 Eo:∀g k g' k',Z.own g=some k->Z.own g'=some k'->k.o≠k'.a/\(k.o=k'.o->g=g')/\(k.a=k'.a->g=g')
def Gh.Wf.dis{Z:Gh}(h:Z.Wf):∀g l,Z.pr g l->¬Z.sh l:=by
 rintro g l ⟨g',k,o,A,_,rfl,_⟩ hs;rcases hs with⟨s,hs,e|e⟩|⟨g2,k2,_,e|e⟩
 ·have:k.r=s:=by have:=Loc.cell.inj e;exact dv Addr.block this
  exact h.apart g' k A (this▸hs)
 ·have:k.r=s:=by have:=Loc.cell.inj e;exact dv Addr.block this
  exact h.apart g' k A (this▸hs)
 ·cases e
 ·cases e
def Gh.Wf.Lr{g l}{Z:Gh}(h:Z.Wf):Z.me g l->Z.sh l:=by
 rintro⟨k,A,e|e|e⟩
 ·exact .inl ⟨k.s,h.bP g k A,.inl e⟩
 ·exact .inl ⟨k.s,h.bP g k A,.inr e⟩
 ·exact .inr ⟨g,k,A,.inr e⟩
def Gh.K0(Z:Gh)(w:World):Prop:=∀g k,Z.own g=some k->w.cell? ⟨k.r,1,none⟩=some (.pointer (some ⟨k.s,0,none⟩))/\w.cell? ⟨k.r,9,none⟩=some (.chan (some k.o))/\w.cell? ⟨k.r,10,none⟩=some (.chan (some k.a))/\w.shape? k.s=some (79,8)
def Gh.K(Z:Gh)(w:World):Prop:=Z.K0 w/\∀s,Z.bP s->w.shape? s=some (79,8)/\(¬Z.Dl s->w.cell? ⟨s,7,none⟩=some (.bool false))
def su(a:Addr):Event:=⟨.cell a,false,true⟩
def Bt(a:Addr):Event:=⟨.cell a,true,true⟩
def rZ(m:Mark):Event:=⟨.mark m,false,true⟩
def je(s:Nat):Array Event:=#[su (dE s),Bt (dE s)]
def za(s:Nat):Array Event:=#[rZ .disable,su (iD s),Bt (iD s),rZ .enable]
def EvR(Pv:Loc->Prop)(e:Event):Prop:=∃a,e=⟨.cell a,false,false⟩/\Pv (.cell a)
def DW(Pv:Loc->Prop)(w U:World)(es:Array Event):Prop:=U=w/\∀e∈es,EvR Pv e
def kL(P:Program)(main:Bool)(K:World->Prop)(Pv:Loc->Prop)(c:Nat)(z:Value)(ok:Bool)(home:Goroutine->Prop)(g g₂:Goroutine):Prop:=
 g.status=.running/\g.frame=g₂.frame/\g.callers=g₂.callers/\g.dying=g₂.dying/\home g₂/\∃es,(∀e∈es,EvR Pv e)/\∀w,K w->stepG P main g w=.comm g₂ #[rcase c z] true (.recv ok) w es
def ik(P:Program)(main:Bool)(K:World->Prop)(Pv:Loc->Prop)(c:Nat)(z:Value)(ok:Bool)(home:Goroutine->Prop)(n:Nat)(g:Goroutine):Prop:=
 (∃k w,n=k+1/\Goes P main (RK K) (DW Pv) (λg _=>∃g₂,kL P main K Pv c z ok home g g₂) k g w)\/(n=0/\∃g₀ g₂,g=parked g₂ #[rcase c z] (.recv ok)/\kL P main K Pv c z ok home g₀ g₂)
inductive Ez
 |a|b|c|w|x|y
def aa(c wt:Nat):Int:=(c:Int)*4294967296+wt
inductive Lv P(k:dR):Ez->Nat->Nat->Goroutine->Prop
 |slip{st}  {n d} {g g'} {es} (Y:g.status=.running) (hm:∀e∈es,e.mute=true) (hs:∀w,w.shape? k.s=some (79,8)->stepG P false g w=.go g' w es) (Q:Lv P k st n (deafBehind d es) g'):Lv P k st (n+1) d g
 |close{n}  {g g'} (Y:g.status=.running) (hs:∀w m,w.heap[k.a]? =some (.chan 0 #[] false m m false)->stepG P false g w=.go g' (w.setChan k.a 0 #[] true m m false) (closeEvents k.a)) (Q:Lv P k .b n 0 g'):Lv P k .a (n+1) 0 g
 |rel{n}  {g g'} (Y:g.status=.running) (hs:∀w v,w.cell? (dE k.s)=some v->stepG P false g w=.go g' w #[rZ (.releaseMerge (dE k.s))]) (Q:Lv P k .c n 0 g'):Lv P k .b (n+1) 0 g
 |add {n d} {g} (g':Int->Goroutine) (Y:g.status=.running) (hd:0<d)
  (hs:∀w c wt,c<8->wt<=1->w.cell? (dE k.s)=some (.int .u64 (aa (c+1) wt))->w.frozen? (dE k.s)=false->stepG P false g w=.go (g' (aa (c+1) wt)) (w.setCell (dE k.s) (.int .u64 (aa c wt))) (je k.s))
  (hq:∀c wt,c<8->wt<=1->c≠0\/wt=0->QuitsD P n d (g' (aa (c+1) wt))) (hw:Lv P k .w n d (g' (aa 1 1))):Lv P k .c (n+1) d g
 |look {n d} {g g'} (Y:g.status=.running) (hd:0<d) (hs:∀w,w.cell? (dE k.s)=some (.int .u64 (aa 0 1))->stepG P false g w=.go g' w #[su (dE k.s)]) (Q:Lv P k .x n d g'):Lv P k .w (n+1) d g
 |reset {n d} {g g'} (Y:g.status=.running) (hd:0<d) (hs:∀w,w.cell? (dE k.s)=some (.int .u64 (aa 0 1))->w.frozen? (dE k.s)=false->stepG P false g w=.go g' (w.setCell (dE k.s) (.int .u64 (aa 0 0))) #[Bt (dE k.s)]) (Q:Lv P k .y n d g'):Lv P k .x (n+1) d g
 |sem {n d} {g g'} (Y:g.status=.running) (hd:0<d) (Jg:mayWake P g=true) (hs:∀w,w.cell? (iD k.s)=some (.int .u32 0)->w.frozen? (iD k.s)=false->stepG P false g w=.go g' (w.setCell (iD k.s) (.int .u32 1)) (za k.s)) (Q:QuitsD P n d g'):Lv P k .y (n+1) d g
inductive aU
 |quit
 |hold
 |seat (c:Nat) (z:Value) (ok:Bool) (home:Goroutine->Prop)
 |leave (st:Ez)
def aU.cnt:aU->Nat
 | .quit| .leave .w| .leave .x| .leave .y=>0
 |_=>1
def aU.alive:aU->Prop
 | .hold| .seat ..=>True
 |_=>False
def aU.kQ:aU->Bool
 | .leave .w| .leave .x| .leave .y=>true
 |_=>false
def aU.rel:aU->Bool
 | .quit| .leave .c| .leave .w| .leave .x| .leave .y=>true
 |_=>false
def Idle(P:Program)(Z:Gh)(t:Trace)(i n:Nat)(g:Goroutine):aU->Prop
 | .quit=>0<i/\QuitsD P n (Deaf t i) g
 | .hold=>False
 | .seat c z ok home=>Deaf t i=0/\ik P (i==0) (Z.K0) (Z.pr i) c z ok home n g
 | .leave st=>0<i/\∃k,Z.own i=some k/\Lv P k st n (Deaf t i) g
def cnt(ρ:Nat->aU)(b n:Nat):Nat:=sumTo n λi=>if b<=i then(ρ i).cnt else 0
def aDc{i n b ρ}(hi:i<n)(hb:b<=i)r':cnt (upd ρ i r') b n+(ρ i).cnt=cnt ρ b n+r'.cnt:=by
 have e:(λj=>if b<=j then(upd ρ i r' j).cnt else 0)=λj=>id (upd (λj=>if b<=j then(ρ j).cnt else 0) i r'.cnt j):=by
  funext j;by_cases hj:j=i
  ·subst hj;simp only[upd_same,id,bk hb]
  ·simp only[upd_ne _ _ hj,id]
 unfold cnt;rw[e];have:=sumTo_upd (λj=>if b<=j then(ρ j).cnt else 0) r'.cnt id hi;simp only[id,bk hb]at this ⊢;exact this
def pW{ρ i r' b n}(h:r'.cnt=(ρ i).cnt):cnt (upd ρ i r') b n=cnt ρ b n:=by
 unfold cnt;congr 1;funext j;by_cases hj:j=i
 ·subst hj;simp only[upd_same,h]
 ·simp only[upd_ne _ _ hj]
def oZ(ρ:Nat->aU)i:upd ρ i (ρ i)=ρ:=by
 funext j;by_cases hj:j=i
 ·subst hj;exact upd_same _ _ _
 ·exact upd_ne _ _ hj
structure WdA(Z:Gh)b s n(ρ:Nat->aU)(w:World):Prop where
 chans:∀i c z ok home,ρ i=.seat c z ok home->∃k,w.heap[c]? =some (.chan 0 #[] false k k false)
 ans:∀i k,ρ i=.leave .a->Z.own i=some k->∃m,w.heap[k.a]? =some (.chan 0 #[] false m m false)
 seats:∀i j c z ok home z' KB ym,ρ i=.seat c z ok home->ρ j=.seat c z' KB ym->i=j
 apart:∀i k j c z ok home,ρ i=.leave .a->Z.own i=some k->ρ j=.seat c z ok home->c≠k.a
 qH:∀i k j k',ρ i=.leave .a->Z.own i=some k->ρ j=.leave .a->Z.own j=some k'->k.a=k'.a->i=j
 keep:Z.K w
 both:∀i k,i<n->Z.own i=some k->(ρ i).alive->(∃m,w.heap[k.o]? =some (.chan 0 #[] false m m false))/\∃m,w.heap[k.a]? =some (.chan 0 #[] false m m false)
 Dm:∀i k,i<n->Z.own i=some k->¬Z.cls k.o->∃m,w.heap[k.o]? =some (.chan 0 #[] false m m false)
 own:∀i,b<=i->i<n->∃k,Z.own i=some k/\k.s=s
 UD:∀i st,ρ i=.leave st->b<=i/\i<n
structure WdB(u:Prop)b s n ρ(wt sm:Nat)(w:World):Prop where
 sI:u->w.cell? (dE s)=some (.int .u64 (aa (cnt ρ b n) wt))/\w.frozen? (dE s)=false
 wh:u->w.cell? (iD s)=some (.int .u32 sm)/\w.frozen? (iD s)=false
 J5:cnt ρ b n<=8
 NF:wt<=1
 ND:wt=1->sm=0
 Wj:∀i,ρ i=.leave .w\/ρ i=.leave .x->wt=1/\cnt ρ b n=0
 wky:∀i,ρ i=.leave .y->wt=0/\sm=0/\cnt ρ b n=0
 NT:∀i j,(ρ i).kQ=true->(ρ j).kQ=true->i=j
structure Wd Z b s n m ρ wt sm w:Prop extends WdA Z b s n ρ w,WdB (Z.bP s) b s m ρ wt sm w
def HO(b:Nat)(t:Trace):Prop:=∀i g,t.g? i=some g->0<g->g<b->t.counts i->∃j,t.g? j=some 0/\HappensBefore t i j
structure Td(Z:Gh)b s p h n(ρ:Nat->aU)t:Prop where
 above:∀j,n<=j->Deaf t j=0
 nL:∀i g,t.g? i=some g->g<n
 px:PX Z.sh Z.pr Z.me h t
 ho:HO b t
 rel:∀i,b<=i->i<n->(ρ i).rel=true->∃r,p<=r/\RelBy (dE s) t i r
 norel:Z.bP s->∀i,p<=i->t.act? i≠some (.mark (.release (dE s)))
 ple:p<=t.size
structure Core P(Z:Gh)b s p m h(ρ:Nat->aU)wt sm t(gs:Array Goroutine)w(q:Nat->Nat):Prop where
 wf:Z.Wf
 pos:0<b
 ge:gs.size<=m
 idle:∀i g,i≠h->gs[i]? =some g->Idle P Z t i (q i) g (ρ i)
 wd:Wd Z b s gs.size m ρ wt sm w
 td:Td Z b s p h gs.size ρ t
section
variable {P:Program}{Z:Gh}{b s p m h n:Nat}{ρ:Nat->aU}{wt sm:Nat}{t:Trace}{gs:Array Goroutine}{w:World}{q:Nat->Nat}
def Td.app{i r'}(H:Td Z b s p h n ρ t){ops:Array MemOp}(tP:i<n)(Fs:∀op∈ops,op.g=i)(VM:PX Z.sh Z.pr Z.me h (t++ops))(hho:i<b->0<i->∀op∈ops,op.act.touch?=none)
 (hrel:r'.rel=true->b<=i->∃r,p<=r/\RelBy (dE s) (t++ops) i r) (VN:Z.bP s->∀op∈ops,op.act≠.mark (.release (dE s))):Td Z b s p h n (upd ρ i r') (t++ops):=by
 refine⟨λj hj=>?_,λx g E=>?_,VM,λx g E h0 hb L=>?_,λj hj uZ Y=>?_,λhz x E e=>?_,by have:=H.ple;simp only[kx];omega⟩
 ·rw[Ŭ t (g':=i) (by omega) ops Fs];exact H.above j hj
 ·obtain⟨op,ho,Ln⟩:=aY.1 E;rcases Ű ho with⟨lC,Jl⟩|⟨_,JX⟩
  ·exact H.nL x g (by rw[<-g?_old (u:=ops) lC];exact E)
  ·rw[<-Ln,Fs op JX];exact tP
 ·obtain⟨op,ho,Ln⟩:=aY.1 E;rcases Ű ho with⟨lC,Jl⟩|⟨_,JX⟩
  ·have fI:t.g? x=some g:=by rw[<-g?_old (u:=ops) lC];exact E
   obtain⟨j,hj,xa⟩:=H.ho x g fI h0 hb ((Go.Conc.counts_old lC).1 L);have hjl:j<t.size:=by obtain⟨z,hz,_⟩:=aY.1 hj;exact lt_size_of_getElem? hz
   exact⟨j,by rw[g?_old hjl];exact hj,hb_app ops xa⟩
  ·obtain⟨a,ha,_⟩:=L;obtain⟨act,ZP,wx⟩:=lR.1 ha;obtain⟨op',Jl,rfl⟩:=aY.1 ZP;rw[ho]at Jl;obtain rfl:=ay Jl;have J3:=Fs op JX;rw[Ln]at J3;subst J3;rw[hho hb h0 op JX]at wx;cases wx
 ·by_cases e:j=i
  ·subst e;rw[upd_same]at Y;exact hrel Y hj
  ·rw[upd_ne _ _ e]at Y;obtain⟨r,hp,jf⟩:=H.rel j hj uZ Y;exact⟨r,hp,jf.appOther Fs (dT e)⟩
 ·obtain⟨op,ho,hoa⟩:=aY.1 e;rcases Ű ho with⟨lC,Jl⟩|⟨_,JX⟩
  ·exact H.norel hz x E (by rw[<-act?_old (u:=ops) lC];exact e)
  ·exact VN hz op JX hoa
def Core.put{i xe g' n' r' wt' sm' U}(C:Core P Z b s p m h ρ wt sm t gs w q){ops:Array MemOp}(uG:xe.size=gs.size)(aGa:∀x,x≠i->x≠h->xe[x]? =gs[x]?)(jY:xe[i]? =some g')
 (Fs:∀op∈ops,op.g=i) (MH:Idle P Z (t++ops) i n' g' r') (CN:Wd Z b s gs.size m (upd ρ i r') wt' sm' U) (HL:Td Z b s p h gs.size (upd ρ i r') (t++ops)):Core P Z b s p m h (upd ρ i r') wt' sm' (t++ops) xe U (upd q i n'):=by
 refine⟨C.wf,C.pos,by rw[uG];exact C.ge,λx y E hy=>?_,by rw[uG];exact CN,by rw[uG];exact HL⟩;by_cases e:x=i
 ·subst e;rw[jY]at hy;obtain rfl:=ay hy;rw[upd_same,upd_same];exact MH
 ·rw[aGa x e E]at hy;rw[upd_ne _ _ e,upd_ne _ _ e];have hd:Deaf (t++ops) x=Deaf t x:=Ŭ t (λz=>e z.symm) ops Fs;have h:=C.idle x y E hy;revert h;cases ρ x with
  |quit=>intro h;exact⟨h.1,by rw[hd];exact h.2⟩
  |hold=>exact id
  |seat c z ok home=>intro h;exact⟨hd.trans h.1,h.2⟩
  |leave st=>intro h;exact⟨h.1,by rw[hd];exact h.2⟩
end
def Gh.rW(Z:Gh)(c:Nat):Prop:=∃g k,Z.own g=some k/\(c=k.o\/c=k.a)
def Gh.ic(Z:Gh)(c:Nat):Prop:=Z.nch c\/Z.rW c
def Ob(Z:Gh)(r:Nat)(x x':Option Obj):Prop:=x'=x\/(Z.rW r/\∃o o',x=some o/\o.isChan=true/\x'=some o'/\o'.isChan=true)\/
 (Z.bP r/\∃c c' ty fr,x=some (.cells c ty fr)/\x'=some (.cells c' ty fr)/\c'.size=c.size/\∀i,i≠5->i≠6->c'[i]? =c[i]?)
def Aside(Z:Gh)(w U:World):Prop:=∃hp,U={w with heap:=hp}/\hp.size=w.heap.size/\∀r:Nat,Ob Z r w.heap[r]? hp[r]?
def Ob.trans{Z r x y z}(h:Ob Z r x y)(k:Ob Z r y z):Ob Z r x z:=by
 rcases h with rfl|h
 ·exact k
 rcases k with rfl|k
 ·exact .inr h
 rcases h with⟨L,o,o',rfl,ho,rfl,Jl⟩|⟨hs,c,c',ty,fr,rfl,rfl,uG,L⟩
 ·rcases k with⟨_,o2,o3,e,_,rfl,h3⟩|⟨_,c,c',ty,fr,e,_⟩
  ·exact .inr (.inl ⟨L,o,o3,rfl,ho,rfl,h3⟩)
  ·cases e;cases Jl
 ·rcases k with⟨_,o2,o3,e,J,_⟩|⟨_,c2,c3,ty2,fr2,e,rfl,Mo,A4⟩
  ·cases e;cases J
  ·cases e;exact .inr (.inr ⟨hs,c,c3,ty,fr,rfl,rfl,Mo.trans uG,λi h5 h6=>(A4 i h5 h6).trans (L i h5 h6)⟩)
def ū Z w:Aside Z w w:=⟨w.heap,rfl,rfl,λ_=>.inl rfl⟩
def Aside.trans{Z a b c}(h:Aside Z a b)(k:Aside Z b c):Aside Z a c:=by obtain⟨hp,rfl,V,J⟩:=h;obtain⟨hp',rfl,k1,k2⟩:=k;exact⟨hp',rfl,k1.trans V,λr=>(J r).trans (k2 r)⟩
def Aside.at{Z a b}(h:Aside Z a b)d:Aside Z (a.at d) (b.at d):=by obtain⟨hp,rfl,V,J⟩:=h;exact⟨hp,rfl,V,J⟩
def ja(w:World)c cap buf cl a b tm r:(w.setChan c cap buf cl a b tm).heap[r]? =if c=r/\r<w.heap.size then some (.chan cap buf cl a b tm)else w.heap[r]? :=by
 unfold World.setChan;simp only[fY];by_cases L:c=r
 ·subst L;by_cases hl:c<w.heap.size
  ·simp[hl]
  ·simp[hl]
 ·simp[L]
def Aside.setChan{c Z w b' m' b m}(L:Z.rW c)(h:w.heap[c]? =some (.chan 0 #[] b m m false)):Aside Z w (w.setChan c 0 #[] b' m' m' false):=by
 refine⟨(w.setChan c 0 #[] b' m' m' false).heap,rfl,by simp[World.setChan],λr=>?_⟩;rw[ja];by_cases e:c=r/\r<w.heap.size
 ·rw[bk e];obtain⟨rfl,_⟩:=e;exact .inr (.inl ⟨L,_,_,h,rfl,rfl,rfl⟩)
 ·rw[aX e];exact .inl rfl
def bT(w:World)a v(ha:a.spot=none)r:(w.setCell a v).heap[r]? =if a.block=r then(w.heap[r]?).map (λ| .cells c e fr=>.cells (c.setIfInBounds a.off v) e fr|o=>o)else w.heap[r]? :=by
 unfold World.setCell;simp only[gC,ha,ix,bh,cz];split
 ·congr 1
 ·rfl
def Aside.setCell{o Z w s v}(hs:Z.bP s)(ho:o=5\/o=6):Aside Z w (w.setCell ⟨s,o,none⟩ v):=by
 refine⟨(w.setCell ⟨s,o,none⟩ v).heap,rfl,by simp[World.setCell],λr=>?_⟩;rw[bT _ _ _ rfl];by_cases e:s=r
 ·subst e;simp only[j2];cases Y:w.heap[s]? with
  |none=>exact .inl rfl
  |some x=>
   cases x with
   |cells c ty fr=>refine .inr (.inr ⟨hs,c,_,ty,fr,rfl,rfl,by simp,λi h5 h6=>?_⟩);rw[bJ (by rcases ho with rfl|rfl<;>omega)]
   |_=>exact .inl rfl
 ·simp only[e,cz];exact .inl rfl
section
variable {P:Program}{Z:Gh}{b s p m h n:Nat}{ρ:Nat->aU}{wt sm:Nat}{t:Trace}{gs:Array Goroutine}{w:World}{q:Nat->Nat}
def Lv.status{k st d g}(h:Lv P k st n d g):g.status=.running:=by cases h<;>assumption
def ik.status{K main Pv c z ok home g}(hK:K w)(h:ik P main K Pv c z ok home n g):(g.status=.running/\0<n)\/(g.status=.blocked/\n=0):=by
 rcases h with⟨k,w₀,rfl,hg⟩|⟨rfl,_,g₂,rfl,_⟩
 ·refine .inl ⟨?_,by omega⟩;cases k with
  |zero=>exact(hg w hK).choose_spec.1
  |succ k=>exact hg.elim (λx=>(x w hK).choose_spec.1) (·.1)
 ·exact .inr ⟨rfl,rfl⟩
def Idle.fixed{i g r U}(hK:Z.K w)(h:Idle P Z t i n g r)(L:∀c z ok home,r=.seat c z ok home->∃k,U.heap[c]? =some (.chan 0 #[] false k k false)):g.again U=g:=by
 cases r with
 |quit=>exact ŭ h.2.status U
 |hold=>exact h.elim
 |seat c z ok home=>
  rcases h.2 with⟨k,w₀,hq,hg⟩|⟨_,_,g₂,rfl,_⟩
  ·exact ŭ (.inl ((ik.status hK.1 (.inl ⟨k,w₀,hq,hg⟩)).elim (·.1) (λx=>by omega))) U
  ·obtain⟨k,A⟩:=L c z ok home rfl;exact again_recv_open A
 |leave st=>obtain⟨_,k,_,hl⟩:=h;exact ŭ (.inl hl.status) U
def Idle.noSend{i g r}(hK:Z.K w)(h:Idle P Z t i n g r)c:offersAt g c true=[]:=by
 cases r with
 |quit=>exact ű (λhb=>by rcases h.2.status with z|z<;>rw[z]at hb<;>cases hb) c true
 |hold=>exact h.elim
 |seat c' z ok home=>
  rcases h.2 with⟨k,w₀,hq,hg⟩|⟨_,_,g₂,rfl,_⟩
  ·have:=(ik.status hK.1 (.inl ⟨k,w₀,hq,hg⟩)).elim (·.1) (λz=>by omega);exact ű (λhb=>by rw[this]at hb;cases hb) c true
  ·exact offersAt_parked_recv' _ _ _ _ _
 |leave st=>obtain⟨_,k,_,hl⟩:=h;exact ű (λhb=>by rw[hl.status]at hb;cases hb) c true
def Idle.aFE{i g r c}(hK:Z.K w)(h:Idle P Z t i n g r)(L:∀z ok home,r≠.seat c z ok home):offersAt g c false=[]:=by
 cases r with
 |quit=>exact ű (λhb=>by rcases h.2.status with z|z<;>rw[z]at hb<;>cases hb) c false
 |hold=>exact h.elim
 |seat c' z ok home=>
  rcases h.2 with⟨k,w₀,hq,hg⟩|⟨_,_,g₂,rfl,_⟩
  ·have:=(ik.status hK.1 (.inl ⟨k,w₀,hq,hg⟩)).elim (·.1) (λz=>by omega);exact ű (λhb=>by rw[this]at hb;cases hb) c false
  ·rw[offersAt_parked_recv,aX];rintro rfl;exact L z ok home rfl
 |leave st=>obtain⟨_,k,_,hl⟩:=h;exact ű (λhb=>by rw[hl.status]at hb;cases hb) c false
def gX{i fn pos es}:∀op∈MemOp.ofEvents i fn pos es,op.g=i:=λop vh=>by obtain⟨e,_,rfl⟩:=ů vh;rfl
def Core.go{i g g' U es n' r' wt' sm' sl}(C:Core P Z b s p m h ρ wt sm t gs w q)(hi:gs[i]? =some g)(tW:i≠h)(uw:stepG P (i==0) g w=.go g' U es)
 (MH:Idle P Z (t++MemOp.ofEvents i g.frame.fn g.frame.place es) i n' g' r') (CN:Wd Z b s gs.size m (upd ρ i r') wt' sm' U) (HL:Td Z b s p h gs.size (upd ρ i r') (t++MemOp.ofEvents i g.frame.fn g.frame.place es)):
 ∃xe,runT P (crowd gs w sl) i=(.next (crowd xe U sl),MemOp.ofEvents i g.frame.fn g.frame.place es)/\xe.size=gs.size/\Core P Z b s p m h (upd ρ i r') wt' sm' (t++MemOp.ofEvents i g.frame.fn g.frame.place es) xe U (upd q i n')/\
  ∀gx,gs[h]? =some gx->(xe[h]? =some gx\/xe[h]? =some (gx.again U))/\(mayWake P g=true->g'.status=.running\/g'.status=.finished->xe[h]? =some (gx.again U)):=by
 have tP:i<gs.size:=(a6.1 hi).1;have E:∀x,x≠i->((gs.map (woken P g g' U)).setIfInBounds i g')[x]? =(gs[x]?).map (woken P g g' U):=λx E=>by
  rw[bJ (λe=>E e.symm),rK]
 refine⟨_,runT_crowd_go hi uw,by simp,?_,λgx Di=>?_⟩
 ·refine C.put (by simp) (λx hxi hxh=>?_) (cG (by simpa using tP)) gX MH CN HL;rw[E x hxi];cases Di:gs[x]? with
  |none=>rfl
  |some y=>have hf:y.again U=y:=(C.idle x y hxh Di).fixed C.wd.keep λc z ok home Y=>CN.chans x c z ok home (by rw[upd_ne _ _ hxi];exact Y);simp only[fR,woken_of_again hf]
 ·rw[E h (dT tW),Di];simp only[fR];refine⟨?_,λV J=>?_⟩
  ·unfold woken;split
   ·exact .inr rfl
   ·exact .inl rfl
  ·unfold woken;rw[bk (by rcases J with J|J<;>rw[V,J]<;>rfl)]
variable {U:World}
def aU.late:aU->Prop
 | .quit=>True
 | .leave st=>st≠.a
 |_=>False
def WdA.late{i r'}(H:WdA Z b s n ρ w)(Y:r'.late)(hi:b<=i)(Q:i<n)(vx:∀c k,(∃j z ok home,ρ j=.seat c z ok home)\/(∃j k',j≠i/\ρ j=.leave .a/\Z.own j=some k'/\c=k'.a)\/(∃j k',j≠i/\(ρ j).alive/\Z.own j=some k'/\(c=k'.o\/c=k'.a))\/(∃j k',Z.own j=some k'/\c=k'.o)->w.heap[c]? =some (.chan 0 #[] false k k false)->U.heap[c]? =some (.chan 0 #[] false k k false))(hK:Z.K U):WdA Z b s n (upd ρ i r') U:=by
 have C8:∀{j c z ok home},upd ρ i r' j=.seat c z ok home->ρ j=.seat c z ok home:=λ{j c z ok home} e=>by
  by_cases hj:j=i
  ·subst hj;rw[upd_same]at e;rw[e]at Y;exact Y.elim
  ·rwa[upd_ne _ _ hj]at e
 have UE:∀{j},upd ρ i r' j=.leave .a->j≠i/\ρ j=.leave .a:=λ{j} e=>by
  by_cases hj:j=i
  ·subst hj;rw[upd_same]at e;rw[e]at Y;exact absurd rfl Y
  ·rw[upd_ne _ _ hj]at e;exact⟨hj,e⟩
 refine⟨λj c z ok home e=>?_,λj k e ho=>?_,λj j' c z ok home z' KB ym e e'=>H.seats j j' c z ok home z' KB ym (C8 e) (C8 e'),λj k j' c z ok home e ho e'=>H.apart j k j' c z ok home (UE e).2 ho (C8 e'),
  λj k j' k' e ho e' Jl=>H.qH j k j' k' (UE e).2 ho (UE e').2 Jl,hK,λj k uZ ho zH=>?_,λj k uZ ho u7=>?_,H.own,λj st e=>?_⟩
 ·obtain⟨k,A⟩:=H.chans j c z ok home (C8 e);exact⟨k,vx c k (.inl ⟨j,z,ok,home,C8 e⟩) A⟩
 ·obtain⟨m,hm⟩:=H.ans j k (UE e).2 ho;exact⟨m,vx k.a m (.inr (.inl ⟨j,k,(UE e).1,(UE e).2,ho,rfl⟩)) hm⟩
 ·have hj:j≠i:=by
   rintro rfl;rw[upd_same]at zH;cases r'<;>first|exact zH|exact Y
  rw[upd_ne _ _ hj]at zH;obtain⟨⟨m1,V⟩,m2,J⟩:=H.both j k uZ ho zH;exact⟨⟨m1,vx k.o m1 (.inr (.inr (.inl ⟨j,k,hj,zH,ho,.inl rfl⟩))) V⟩,m2,vx k.a m2 (.inr (.inr (.inl ⟨j,k,hj,zH,ho,.inr rfl⟩))) J⟩
 ·obtain⟨m1,V⟩:=H.Dm j k uZ ho u7;exact⟨m1,vx k.o m1 (.inr (.inr (.inr ⟨j,k,ho,rfl⟩))) V⟩
 ·by_cases hj:j=i
  ·subst hj;exact⟨hi,Q⟩
  ·rw[upd_ne _ _ hj]at e;exact H.UD j st e
def zT{c b' m m'}(hK:Z.K w)(L:∃o,w.heap[c]? =some o/\o.isChan=true):Z.K (w.setChan c 0 #[] b' m m' false):=by
 have key:∀r o v,w.cell? ⟨r,o,none⟩=some v->(w.setChan c 0 #[] b' m m' false).cell? ⟨r,o,none⟩=some v:=λr o v e=>by
  have tW:c≠r:=by rintro rfl;obtain⟨x,E,VH⟩:=L;unfold World.cell? at e;rw[E]at e;cases x<;>first|cases VH;done|cases e
  unfold World.cell? at e ⊢;rw[ja,aX (λx=>tW x.1)];exact e
 have ksh:∀s x,w.shape? s=some x->(w.setChan c 0 #[] b' m m' false).shape? s=some x:=λs y e=>by
  have tW:c≠s:=by rintro rfl;obtain⟨x,E,VH⟩:=L;unfold World.shape? at e;rw[E]at e;cases x<;>first|cases VH;done|cases e
  unfold World.shape? at e ⊢;rw[ja,aX (λx=>tW x.1)];exact e
 refine⟨λg k A=>?_,λs hs=>⟨ksh s _ (hK.2 s hs).1,λh=>key _ _ _ ((hK.2 s hs).2 h)⟩⟩;obtain⟨V,J,h3,h4⟩:=hK.1 g k A;exact⟨key _ _ _ V,key _ _ _ J,key _ _ _ h3,ksh _ _ h4⟩
def uD{o v}(hK:Z.K w)(bY:Z.Wf)(hs:Z.bP s)(ho:o≠7:=by decide):Z.K (w.setCell ⟨s,o,none⟩ v):=by
 have fT:∀r,(w.setCell ⟨s,o,none⟩ v).shape? r=w.shape? r:=λr=>by
  unfold World.shape?;rw[bT _ _ _ rfl];by_cases e:s=r
  ·rw[bk e];cases w.heap[r]? with
   |none=>rfl
   |some x=>cases x<;>simp
  ·rw[aX e]
 refine⟨λg k A=>?_,λs' zD=>⟨(fT s').trans (hK.2 s' zD).1,λh=>(ų _ _ _ _ (λe=>ho (dv Addr.off e))).trans ((hK.2 s' zD).2 h)⟩⟩;have key:∀o',(w.setCell ⟨s,o,none⟩ v).cell? ⟨k.r,o',none⟩=w.cell? ⟨k.r,o',none⟩:=λo'=>by
  refine ų _ _ _ _ ?_;intro e;have:s=k.r:=dv Addr.block e;exact bY.apart g k A (this▸hs)
 simp only[key,fT];exact hK.1 g k A
def ku{o a v}{c:Nat}(ha:a.spot=none)(L:w.heap[c]? =some o)(ho:o.isChan=true):(w.setCell a v).heap[c]? =some o:=by
 rw[bT _ _ _ ha];split
 ·rw[L];cases o<;>first|cases ho;done|rfl
 ·exact L
def WdB.RJ{u i r'}(H:WdB u b s n ρ wt sm w)(L:r'.cnt=(ρ i).cnt)(hw':r'.kQ=false)(hg5:U.cell? (dE s)=w.cell? (dE s))(Lq:U.frozen? (dE s)=w.frozen? (dE s))(hg6:U.cell? (iD s)=w.cell? (iD s))(hf6:U.frozen? (iD s)=w.frozen? (iD s)):WdB u b s n (upd ρ i r') wt sm U:=by
 have e:=pW (b:=b) (n:=n) L;have old:∀{j},(upd ρ i r' j).kQ=true->upd ρ i r' j=ρ j:=λ{j} h=>by
  by_cases hj:j=i
  ·subst hj;rw[upd_same,hw']at h;cases h
  ·exact upd_ne _ _ hj
 refine⟨λhb=>?_,λhb=>?_,by rw[e];exact H.J5,H.NF,H.ND,λj hj=>?_,λj hj=>?_,λj j' V J=>H.NT j j' (old V▸V) (old J▸J)⟩
 ·rw[e,hg5,Lq];exact H.sI hb
 ·rw[hg6,hf6];exact H.wh hb
 ·rw[e];refine H.Wj j ?_
  rwa[old (by rcases hj with hj|hj<;>rw[hj]<;>rfl)]at hj
 ·rw[e];refine H.wky j ?_
  rwa[old (by rw[hj];rfl)]at hj
def aDd{i}(hi:b<=i)(Q:i<n)(L:(ρ i).cnt=1):0<cnt ρ b n:=by have:(λi=>if b<=i then(ρ i).cnt else 0) i<=cnt ρ b n:=Go.ConcN.le_sumTo (f:=λi=>if b<=i then(ρ i).cnt else 0) Q;simp only[bk hi,L]at this;omega
def Dr{u}(H:WdB u b s n ρ wt sm w)(L:0<cnt ρ b n)j:(ρ j).kQ=false:=by
 cases hj:(ρ j).kQ with
 |false=>rfl
 |true=>
  exfalso;cases Y:ρ j with
  |leave st=>
   rw[Y]at hj;cases st<;>first|cases hj;done|skip
   ·have:=(H.Wj j (.inl Y)).2;omega
   ·have:=(H.Wj j (.inr Y)).2;omega
   ·have:=(H.wky j Y).2.2;omega
  |_=>rw[Y]at hj;cases hj
end
def Calm(ρ:Nat->aU)(wt sm:Nat):Prop:=wt=0/\sm=0/\∀j,(ρ j).kQ=false
def Calm.upd{ρ wt sm i r'}(h:Calm ρ wt sm)(Y:r'.kQ=false):Calm (upd ρ i r') wt sm:=⟨h.1,h.2.1,λj=>by
 by_cases e:j=i
 ·subst e;rw[upd_same];exact Y
 ·rw[upd_ne _ _ e];exact h.2.2 j⟩
def Wtg(b m:Nat)(ρ:Nat->aU)(wt sm:Nat):Prop:=(wt=1/\sm=0/\(0<cnt ρ b m\/∃i,ρ i=.leave .w\/ρ i=.leave .x))\/(wt=0/\sm=0/\∃i,ρ i=.leave .y)\/(wt=0/\sm=1/\cnt ρ b m=0/\∀i,(ρ i).kQ=false)
structure nI b m ρ wt sm ρ' wt' sm':Prop where
 calm:Calm ρ wt sm->Calm ρ' wt' sm'
 wtg:Wtg b m ρ wt sm->Wtg b m ρ' wt' sm'
def nI.same{r' ρ b m wt sm i}(h:r'=ρ i):nI b m ρ wt sm (upd ρ i r') wt sm:=by rw[h,oZ];exact⟨id,id⟩
def nI.early{ρ b m wt sm i r'}(L:r'.cnt=(ρ i).cnt)(V:(ρ i).kQ=false)(J:r'.kQ=false):nI b m ρ wt sm (upd ρ i r') wt sm:=by
 have e:=pW (b:=b) (n:=m) L;have hj:∀j,(ρ j).kQ=true->upd ρ i r' j=ρ j:=λj hw=>upd_ne _ _ (λe=>by rw[e,V]at hw;cases hw);refine⟨λc=>c.upd J,λH=>?_⟩;rcases H with⟨a,b',c|⟨j,c⟩⟩|⟨a,b',j,c⟩|⟨a,b',c,d⟩
 ·exact .inl ⟨a,b',.inl (by rw[e];exact c)⟩
 ·exact .inl ⟨a,b',.inr ⟨j,by rw[hj j (by rcases c with c|c<;>rw[c]<;>rfl)];exact c⟩⟩
 ·exact .inr (.inl ⟨a,b',j,by rw[hj j (by rw[c];rfl)];exact c⟩)
 ·refine .inr (.inr ⟨a,b',by rw[e];exact c,λj=>?_⟩);by_cases ej:j=i
  ·subst ej;rw[upd_same];exact J
  ·rw[upd_ne _ _ ej];exact d j
def Change(ρ:Nat->aU)(i:Nat)(r':aU):Prop:=r'=ρ i\/∃st,ρ i=.leave st/\r'.late/\r'.cnt<=(ρ i).cnt
section
variable {P:Program}{Z:Gh}{b s p m h n:Nat}{ρ:Nat->aU}{wt sm:Nat}{t:Trace}{gs:Array Goroutine}{w U:World}{q:Nat->Nat}
def Nu(P:Program)(Z:Gh)(b s p m h:Nat)(ρ:Nat->aU)(wt sm:Nat)(t:Trace)(gs:Array Goroutine)(w:World)(q:Nat->Nat)(i:Nat)(g:Goroutine)(sl:Option (Nat×Nat)):Prop:=
 ∃xe U ops r' n' wt' sm',runT P (crowd gs w sl) i=(.next (crowd xe U sl),ops)/\xe.size=gs.size/\Core P Z b s p m h (upd ρ i r') wt' sm' (t++ops) xe U (upd q i n')/\n'<q i/\Aside Z w U/\
  (∀gx,gs[h]? =some gx->xe[h]? =some gx\/xe[h]? =some (gx.again U))/\Change ρ i r'/\nI b m ρ wt sm (upd ρ i r') wt' sm'/\(sm'≠sm->∀gx,gs[h]? =some gx->xe[h]? =some (gx.again U))/\(∀op∈ops,op.g=i)/\∀c z ok home,ρ i=.seat c z ok home->n'=0->∃g₂,kL P (i==0) Z.K0 (Z.pr i) c z ok home g g₂
def gu{e}(h:e.mute=true):(MemAct.ofEvent e).touch?=none/\∀a,MemAct.ofEvent e≠.mark (.release a):=by
 obtain⟨l,wr,sy⟩:=e;cases l with
 |mark m=>cases m<;>first|cases h;done|exact⟨rfl,λa x=>by cases x⟩
 |_=>cases h
def fD{e}(h:∀m,e.loc≠.mark m)a:MemAct.ofEvent e≠.mark (.release a):=by
 obtain⟨l,wr,sy⟩:=e;cases l with
 |mark m=>exact absurd rfl (h m)
 |obj r=>cases wr<;>cases sy<;>exact λx=>by cases x
 |_=>exact λx=>by cases x
def Td.mute{i es r' fn pos}(H:Td Z b s p h n ρ t)(tP:i<n)(Y:r'.rel=true->(ρ i).rel=true)(hm:∀e∈es,e.mute=true):Td Z b s p h n (upd ρ i r') (t++MemOp.ofEvents i fn pos es):=by
 have Q:∀op∈MemOp.ofEvents i fn pos es,op.act.touch?=none/\∀a,op.act≠.mark (.release a):=λop vh=>by
  obtain⟨e,he,rfl⟩:=ů vh;exact gu (hm e he)
 refine H.app tP gX (H.px.mute λop vh=>(Q op vh).1) (λ_ _ op vh=>(Q op vh).1) (λhrel hb=>?_) λ_ op vh=>(Q op vh).2 _;obtain⟨r,hp,I⟩:=H.rel i hb tP (Y hrel);exact⟨r,hp,I.appOwn fn pos es λj e he=>.inl (gu (hm e (iM he))).1⟩
def Td.JC{i k es r' fn pos}(H:Td Z b s p h n ρ t)(bY:Z.Wf)(tP:i<n)(A:Z.own i=some k)(PM:b<=i)(Y:(ρ i).rel=true)
 (zO:∀e∈es,e.mute=true\/e=su (dE k.s)\/e=Bt (dE k.s)\/e=su (iD k.s)\/e=Bt (iD k.s))
 (hd:∀j e,es[j]? =some e->e.mute=true\/0<deafBehind (Deaf t i) (es.extract 0 j)):Td Z b s p h n (upd ρ i r') (t++MemOp.ofEvents i fn pos es):=by
 have D7:∀e∈es,e.mute=true\/∃a wr,e=⟨.cell a,wr,true⟩/\(a=dE k.s\/a=iD k.s):=λe he=>by
  rcases zO e he with h|rfl|rfl|rfl|rfl
  ·exact .inl h
  ·exact .inr ⟨_,_,rfl,.inl rfl⟩
  ·exact .inr ⟨_,_,rfl,.inl rfl⟩
  ·exact .inr ⟨_,_,rfl,.inr rfl⟩
  ·exact .inr ⟨_,_,rfl,.inr rfl⟩
 have VN:∀op∈MemOp.ofEvents i fn pos es,∀a,op.act≠.mark (.release a):=λop vh a=>by
  obtain⟨e,he,rfl⟩:=ů vh;rcases D7 e he with h|⟨a',wr,rfl,_⟩
  ·exact(gu h).2 a
  ·exact fD (e:=⟨.cell a',wr,true⟩) (λm x=>by cases x) a
 refine H.app tP gX (H.px.leaves bY.dis gX λop vh b' hb=>?_) (λlC _=>by omega) (λ_ hb=>?_) λ_ op vh=>VN op vh _
 ·obtain⟨e,he,rfl⟩:=ů vh;rcases D7 e he with h|⟨a',wr,rfl,ha⟩
  ·simp only[(gu h).1]at hb;cases hb
  ·have:b'=⟨.cell a',wr,.atomic⟩:=by
    simp only[MemAct.ofEvent,MemAct.touch?,cI]at hb;rw[<-hb];rfl
   subst this;have hme:Z.me i (.cell a'):=⟨k,A,by rcases ha with rfl|rfl<;>simp⟩
   exact⟨hme,bY.Lr hme,rfl⟩
 ·obtain⟨r,hp,I⟩:=H.rel i hb tP Y;refine⟨r,hp,I.appOwn fn pos es λj e he=>?_⟩;have oI:=iM he;rcases D7 e oI with h|⟨a',wr,rfl,_⟩
  ·exact .inl (gu h).1
  ·rcases hd j _ he with h|h
   ·cases h
   ·exact .inr ⟨⟨a',wr,rfl⟩,h⟩
def Ud{i g sl}(C:Core P Z b s p m h ρ wt sm t gs w q)(hi:gs[i]? =some g)(tW:i≠h)(uv:g.status=.running)(Y:ρ i=.quit):Nu P Z b s p m h ρ wt sm t gs w q i g sl:=by
 have tP:i<gs.size:=(a6.1 hi).1;have hid:=C.idle i g tW hi;rw[Y]at hid;obtain⟨jZ,hq⟩:=hid;have wW:(i==0)=false:=by simp;omega
 cases hqi:q i with
 |zero=>rw[hqi]at hq;rw[hq.1]at uv;cases uv
 |succ k=>
  rw[hqi]at hq;rcases hq with⟨hf,_⟩|⟨_,g',es,hm,jw,hq'⟩
  ·rw[hf]at uv;cases uv
  have hu:upd ρ i .quit=ρ:=by rw[<-Y];exact oZ ρ i
  obtain⟨xe,V,J,h3,h4⟩:=C.go (sl:=sl) hi tW (by rw[wW];exact jw w) (r':=.quit) (n':=k) (wt':=wt) (sm':=sm) ⟨jZ,by rw[Ū];exact hq'⟩ (by rw[hu];exact C.wd) (C.td.mute tP (λ_=>by rw[Y];rfl) hm);exact⟨xe,w,_,.quit,k,wt,sm,V,J,h3,by omega,ū Z w,λgx E=>(h4 gx E).1,.inl Y.symm,nI.same Y.symm,λx=>absurd rfl x,gX,λc z ok home e=>by rw[Y]at e;cases e⟩
def Ov{i c z ok home g}(hK:Z.K0 w)(uv:g.status=.running)(hs:ik P (i==0) Z.K0 (Z.pr i) c z ok home n g):
 (0<n/\∃g₂,kL P (i==0) Z.K0 (Z.pr i) c z ok home g g₂)\/∃k g' es,n=k+2/\stepG P (i==0) g w=.go g' w es/\(∀e∈es,EvR (Z.pr i) e)/\ik P (i==0) Z.K0 (Z.pr i) c z ok home (k+1) g':=by
 rcases hs with⟨k,w₀,rfl,hg⟩|⟨_,_,g₂,rfl,_⟩
 rotate_left
 ·cases uv
 cases k with
 |zero=>exact .inl ⟨by omega,hg w hK⟩
 |succ k=>
  rcases hg with mY|⟨_,A3⟩
  ·exact .inl ⟨by omega,mY w hK⟩
  ·have hs:=A3 w hK;cases hgo:stepG P (i==0) g w with
   |go g' U es=>rw[hgo,goes_go]at hs;obtain⟨⟨rfl,zO⟩,hG'⟩:=hs;exact .inr ⟨k,g',es,rfl,rfl,zO,.inl ⟨k,U,rfl,hG'⟩⟩
   |_=>rw[hgo]at hs;exact hs.elim
def BK{es Pv i fn pos}(h:∀e∈es,EvR Pv e):
 (∀op∈MemOp.ofEvents i fn pos es,∀b,op.act.touch?=some b->b.write=false/\Pv b.loc)/\(∀op∈MemOp.ofEvents i fn pos es,∀a,op.act≠.mark (.release a))/\∀t:Trace,Deaf (t++MemOp.ofEvents i fn pos es) i=Deaf t i:=by
 refine⟨λop vh b hb=>?_,λop vh a=>?_,λt=>?_⟩
 ·obtain⟨e,he,rfl⟩:=ů vh;obtain⟨a,rfl,hS⟩:=h e he;simp only[ofEvent_cell0,MemAct.touch?,cI]at hb;subst hb;exact⟨rfl,hS⟩
 ·obtain⟨e,he,rfl⟩:=ů vh;obtain⟨a',rfl,hS⟩:=h e he;exact fD (e:=⟨.cell a',_,_⟩) (λm x=>by cases x) a
 ·rw[Ū];exact Ů (λe he=>by obtain⟨a,rfl,_⟩:=h e he;exact⟨by simp,by simp⟩) _
def Td.reads{i es fn pos}(H:Td Z b s p h n ρ t)(bY:Z.Wf)(tP:i<n)(jZ:i<b->i=0)(Y:(ρ i).rel=false)(zO:∀e∈es,EvR (Z.pr i) e):Td Z b s p h n ρ (t++MemOp.ofEvents i fn pos es):=by
 obtain⟨V,J,_⟩:=BK (i:=i) (fn:=fn) (pos:=pos) zO;have:=H.app (r':=ρ i) tP gX (H.px.reads gX λop vh b' hb=>⟨(V op vh b' hb).1,(V op vh b' hb).2,bY.dis _ _ (V op vh b' hb).2⟩) (λhib h0=>by have:=jZ hib;omega) (λhrel=>by rw[Y]at hrel;cases hrel) λ_ op vh=>J op vh _
 rwa[oZ]at this
def TK{i g c z ok home sl}(C:Core P Z b s p m h ρ wt sm t gs w q)(hi:gs[i]? =some g)(tW:i≠h)(uv:g.status=.running)(Y:ρ i=.seat c z ok home)(jZ:i<b->i=0)
 (hsO:∀g₂ gx,kL P (i==0) Z.K0 (Z.pr i) c z ok home g g₂->gs[h]? =some gx->offersAt gx c true=[]):Nu P Z b s p m h ρ wt sm t gs w q i g sl:=by
 have tP:i<gs.size:=(a6.1 hi).1;have hid:=C.idle i g tW hi;rw[Y]at hid;obtain⟨EG,uw⟩:=hid;have hu:upd ρ i (.seat c z ok home)=ρ:=by rw[<-Y];exact oZ ρ i
 rcases Ov C.wd.keep.1 uv uw with⟨Q,g₂,wx⟩|⟨k,g',es,hqi,hgo,zO,aOz⟩
 ·obtain⟨_,_,_,_,_,es,zO,jw⟩:=id wx;obtain⟨kk,L⟩:=C.wd.chans i c z ok home Y;obtain⟨_,_,hd⟩:=BK (i:=i) (fn:=g.frame.fn) (pos:=g.frame.place) zO;have hw:∀cc∈#[rcase c z],NoWays w (gs.setIfInBounds i ph) cc:=by
   intro cc Ay;simp only[cH,bm,cU,gb]at Ay;subst Ay;refine ways_recv_none L (partners_nil λx y hy=>?_);rcases getElem?_stand gs i x y hy with⟨_,rfl⟩|⟨E,hy'⟩
   ·exact offersAt_ph _ _
   ·by_cases hxh:x=h
    ·subst hxh;exact hsO g₂ y wx hy'
    ·exact(C.idle x y hxh hy').noSend C.wd.keep c
  refine⟨_,w,_,.seat c z ok home,0,wt,sm,crowd_waits (sl:=sl) hi (jw w C.wd.keep.1) hw,by simp,?_,Q,ū Z w,λgx Di=>.inl ?_,.inl Y.symm,nI.same Y.symm,λx=>absurd rfl x,gX,λc' z' KB ym e _=>?_⟩
  ·refine C.put (by simp) (λx hxi _=>bJ (λe=>hxi e.symm)) (cG tP) gX ⟨(hd t).trans EG,.inr ⟨rfl,g,g₂,rfl,wx⟩⟩ (by rw[hu];exact C.wd) ?_;rw[hu];exact C.td.reads C.wf tP jZ (by rw[Y];rfl) zO
  ·rw[bJ tW];exact Di
  ·rw[Y]at e;cases e;exact⟨g₂,wx⟩
 ·obtain⟨_,_,hd⟩:=BK (i:=i) (fn:=g.frame.fn) (pos:=g.frame.place) zO;obtain⟨xe,V,J,h3,h4⟩:=C.go (sl:=sl) hi tW hgo (r':=.seat c z ok home) (n':=k+1) (wt':=wt) (sm':=sm) ⟨(hd t).trans EG,aOz⟩ (by rw[hu];exact C.wd) (by rw[hu];exact C.td.reads C.wf tP jZ (by rw[Y];rfl) zO);exact⟨xe,w,_,.seat c z ok home,k+1,wt,sm,V,J,h3,by omega,ū Z w,λgx E=>(h4 gx E).1,.inl Y.symm,nI.same Y.symm,λx=>absurd rfl x,gX,λc' z' KB ym e h0=>by omega⟩
def jd{c b' m'}(L:∃o,w.heap[c]? =some o/\o.isChan=true)a:(w.setChan c 0 #[] b' m m' false).cell? a=w.cell? a/\(w.setChan c 0 #[] b' m m' false).frozen? a=w.frozen? a:=by
 obtain⟨o,ho,hoc⟩:=L;unfold World.cell? World.frozen?;rw[ja];by_cases e:c=a.block/\a.block<w.heap.size
 ·rw[bk e,<-e.1,ho];cases o<;>first|(cases hoc;done)|exact⟨rfl,rfl⟩
 ·rw[aX e];exact⟨rfl,rfl⟩
def heap_setChan_ne{c' c b' m'}(h:c'≠c):(w.setChan c 0 #[] b' m m' false).heap[c']? =w.heap[c']? :=by rw[ja,aX (λx=>h x.1.symm)]
def mR{j e}{es:Array Event}(h:e∈es.extract 0 j):e∈es:=by obtain⟨i,hi,rfl⟩:=pZ.1 h;simp only[Array.getElem_extract];exact Array.getElem_mem _
def aZ{a v a'}(ha:a.spot=none):(w.setCell a v).frozen? a'=w.frozen? a':=by
 unfold World.frozen?;rw[bT _ _ _ ha];by_cases e:a.block=a'.block
 ·rw[bk e];cases w.heap[a'.block]? with
  |none=>rfl
  |some o=>cases o<;>rfl
 ·rw[aX e]
def WdA.cell{i o r' v}(H:WdA Z b s n ρ w)(bY:Z.Wf)(Y:r'.late)(hi:b<=i)(Q:i<n)(hs:Z.bP s)(ho:o≠7:=by decide):WdA Z b s n (upd ρ i r') (w.setCell ⟨s,o,none⟩ v):=
 H.late Y hi Q (λ_ _ _ A=>ku rfl A rfl) (uD H.keep bY hs ho)
def Dy{i g st g' es n' r' wt' sm' sl}(C:Core P Z b s p m h ρ wt sm t gs w q)(hi:gs[i]? =some g)(tW:i≠h)(Y:ρ i=.leave st)(uw:stepG P false g w=.go g' U es)
 (Q:n'<q i) (hl:r'.late) (u7:r'.cnt<=(ρ i).cnt) (MH:Idle P Z (t++MemOp.ofEvents i g.frame.fn g.frame.place es) i n' g' r') (CN:Wd Z b s gs.size m (upd ρ i r') wt' sm' U) (HL:Td Z b s p h gs.size (upd ρ i r') (t++MemOp.ofEvents i g.frame.fn g.frame.place es)) (ha:Aside Z w U) (GX:nI b m ρ wt sm (upd ρ i r') wt' sm') (Jg:sm'≠sm->mayWake P g=true/\(g'.status=.running\/g'.status=.finished)):Nu P Z b s p m h ρ wt sm t gs w q i g sl:=by
 have wW:(i==0)=false:=by have:=C.idle i g tW hi;rw[Y]at this;have:=this.1;simp;omega
 obtain⟨xe,V,J,h3,h4⟩:=C.go (sl:=sl) hi tW (by rw[wW];exact uw) MH CN HL;exact⟨xe,U,_,r',n',wt',sm',V,J,h3,Q,ha,λgx E=>(h4 gx E).1,.inr ⟨st,Y,hl,u7⟩,GX,λx gx E=>(h4 gx E).2 (Jg x).1 (Jg x).2,gX,λc z ok home e=>by rw[Y]at e;cases e⟩
def l8{v} a o(h:a≠⟨s,o,none⟩):(w.setCell ⟨s,o,none⟩ v).cell? a=w.cell? a:=ų _ _ _ _ (λe=>h e.symm)
def Pb{i g st sl}(C:Core P Z b s p m h ρ wt sm t gs w q)(hi:gs[i]? =some g)(tW:i≠h)(Y:ρ i=.leave st):Nu P Z b s p m h ρ wt sm t gs w q i g sl:=by
 have tP:i<gs.size:=(a6.1 hi).1;have hid:=C.idle i g tW hi;rw[Y]at hid;obtain⟨jZ,k,A,hl⟩:=hid;obtain⟨PM,_⟩:=C.wd.UD i st Y;have aKE:i<m:=eJ tP C.ge;obtain⟨k',lh,wR⟩:=C.wd.own i PM tP;rw[A]at lh;obtain rfl:=ay lh;have Bb:Z.bP s:=wR▸C.wf.bP i k A;obtain⟨g5,f5⟩:=C.wd.sI Bb;obtain⟨g6,f6⟩:=C.wd.wh Bb;have MQ:(ρ i).cnt=1->0<cnt ρ b m:=aDd PM aKE;generalize hd:Deaf t i=d at hl;generalize hm:q i=mq at hl;cases hl with
 |slip uv hmu hs Jm=>
  rename_i n' g' es;have hu:upd ρ i (.leave st)=ρ:=by rw[<-Y];exact oZ ρ i
  have wW:(i==0)=false:=by simp;omega
  obtain⟨xe,V,J,h3,h4⟩:=C.go (sl:=sl) hi tW (by rw[wW];exact hs w (C.wd.keep.1 i k A).2.2.2) (r':=.leave st) (n':=n') (wt':=wt) (sm':=sm) ⟨jZ,k,A,by rw[Ū,hd];exact Jm⟩ (by rw[hu];exact C.wd) (C.td.mute tP (λx=>by rw[Y];exact x) hmu);exact⟨xe,w,_,.leave st,n',wt,sm,V,J,h3,by omega,ū Z w,λgx E=>(h4 gx E).1,.inl Y.symm,nI.same Y.symm,λx=>absurd rfl x,gX,λc z ok home e=>by rw[Y]at e;cases e⟩
 |close uv hs Jm=>
  rename_i n' g';obtain⟨mm,vx⟩:=C.wd.ans i k Y A;have hex:∃o,w.heap[k.a]? =some o/\o.isChan=true:=⟨_,vx,rfl⟩
  obtain⟨e5,ef5⟩:=jd (b':=true) (m:=mm) (m':=mm) hex (dE s);obtain⟨e6,ef6⟩:=jd (b':=true) (m:=mm) (m':=mm) hex (iD s);refine Dy C hi tW Y (hs w mm vx) (r':=.leave .b) (n':=n') (wt':=wt) (sm':=sm) (by omega) (by simp[aU.late]) (by rw[Y];simp[aU.cnt]) ⟨jZ,k,A,?_⟩ ⟨C.wd.toWdA.late (by simp[aU.late]) PM tP (λc kk L G5=>?_) (zT C.wd.keep hex),C.wd.toWdB.RJ (by rw[Y];rfl) rfl e5 ef5 e6 ef6⟩ ?_ (Aside.setChan ⟨i,k,A,.inr rfl⟩ vx) (nI.early (by rw[Y];rfl) (by rw[Y];rfl) rfl) λx=>absurd rfl x
  ·rw[Ū,hd];exact Jm
  ·have hca:c≠k.a:=by
    rcases L with⟨j,z,ok,home,hj⟩|⟨j,k',hj,hjr,hjk,rfl⟩|⟨j,k',hj,_,hjk,rfl|rfl⟩|⟨j,k',hjk,rfl⟩
    ·exact C.wd.apart i k j c z ok home Y A hj
    ·intro e;exact hj (C.wd.qH j k' i k hjr hjk Y A e)
    ·exact(C.wf.Eo j k' i k hjk A).1
    ·intro e;exact hj ((C.wf.Eo j k' i k hjk A).2.2 e)
    ·exact(C.wf.Eo j k' i k hjk A).1
   rw[heap_setChan_ne hca];exact G5
  ·rw[closeOps];refine C.td.app tP (by intro op vh;simp at vh;rcases vh with rfl|rfl<;>rfl) (C.td.px.leaves (g:=i) C.wf.dis (by intro op vh;simp at vh;rcases vh with rfl|rfl<;>rfl) λop vh b' hb=>?_) (λx _=>by omega) (λx=>by cases x) λ_ op vh=>?_
   ·simp only[cH,bm,cU,gb]at vh;rcases vh with rfl|rfl
    ·simp only[MemAct.touch?,cI]at hb;subst hb;have hme:Z.me i (.obj k.a):=⟨k,A,.inr (.inr rfl)⟩
     exact⟨hme,C.wf.Lr hme,rfl⟩
    ·cases hb
   ·simp only[cH,bm,cU,gb]at vh;rcases vh with rfl|rfl<;>exact λx=>by cases x
 |rel uv hs Jm=>
  rename_i n' g';refine Dy C hi tW Y (hs w _ (wR▸g5)) (r':=.leave .c) (n':=n') (wt':=wt) (sm':=sm) (by omega) (by simp[aU.late]) (by rw[Y];simp[aU.cnt]) ⟨jZ,k,A,?_⟩ ⟨C.wd.toWdA.late (by simp[aU.late]) PM tP (λc kk L G5=>G5) C.wd.keep,C.wd.toWdB.RJ (by rw[Y];rfl) rfl rfl rfl rfl rfl⟩ ?_ (ū Z w) (nI.early (by rw[Y];rfl) (by rw[Y];rfl) rfl) λx=>absurd rfl x
  ·rw[Ū,hd];exact Jm
  ·have oI:∀op∈MemOp.ofEvents i g.frame.fn g.frame.place #[rZ (.releaseMerge (dE k.s))],op={g:=i,fn:=g.frame.fn,pos:=g.frame.place,act:=.mark (.releaseMerge (dE k.s))}:=by
    intro op vh;obtain⟨e,he,rfl⟩:=ů vh;simp only[cH,bm,cU,gb]at he;subst he;rfl
   refine C.td.app tP gX (C.td.px.mute λop vh=>by rw[oI op vh];rfl) (λx _=>by omega) (λ_ _=>⟨t.size,C.td.ple,?_⟩) λ_ op vh=>by rw[oI op vh];exact λx=>by cases x
   have:=RelBy.new (a:=dE s) (t:=t) (k:=i) hd g.frame.fn g.frame.place;rw[<-wR]at this ⊢;exact this
 |add g' uv hdp hs hq hw=>
  rename_i n';have AE:=MQ (by rw[Y];rfl);obtain⟨c,L⟩:∃c,cnt ρ b m=c+1:=⟨cnt ρ b m - 1,by omega⟩
  have ZI:c<8:=by have:=C.wd.J5;omega
  have jw:=hs w c wt ZI C.wd.NF (by rw[wR,<-L];exact g5) (by rw[wR];exact f5);have Fv:=Dr C.wd.toWdB AE;have jY:(w.setCell (dE s) (.int .u64 (aa c wt))).cell? (dE s)=some (.int .u64 (aa c wt)):=Ų _ _ _ (by rw[g5]);have h6:∀v,(w.setCell (dE s) v).cell? (iD s)=w.cell? (iD s):=λv=>l8 _ _ (by simp[iD]);have EG:deafBehind d (je k.s)=d:=Ů (by intro e he;simp[je,su,Bt]at he;rcases he with rfl|rfl<;>simp) d;have HL:∀r':aU,Td Z b s p h gs.size (upd ρ i r') (t++MemOp.ofEvents i g.frame.fn g.frame.place (je k.s)):=λr'=>by
   refine C.td.JC C.wf tP A PM (by rw[Y];rfl) (by intro e he;simp[je]at he;rcases he with rfl|rfl<;>simp) λj e he=>.inr ?_;rw[hd,Ů]
   ·exact hdp
   ·intro e he;have:e∈je k.s:=by
     have:=mR he;exact this
    simp[je,su,Bt]at this;rcases this with rfl|rfl<;>simp
  have old:∀{r':aU} {j:Nat},(upd ρ i r' j).kQ=true->j=i:=λ{r' j} hj=>by
   by_cases e:j=i
   ·exact e
   ·rw[upd_ne _ _ e,Fv j]at hj;cases hj
  have hcu:∀r':aU,r'.cnt=0->cnt (upd ρ i r') b m=c:=λr' e=>by
   have:=aDc (b:=b) (n:=m) aKE PM (ρ:=ρ) r';rw[Y]at this;rw[e,L]at this;simp only[aU.cnt]at this;omega
  have hkq:(c≠0\/wt=0)->nI b m ρ wt sm (upd ρ i .quit) wt sm:=λD7=>⟨λh=>h.upd rfl,λH=>by
   rcases H with⟨a,b',_⟩|⟨_,_,j,e⟩|⟨_,_,e,_⟩
   ·exact .inl ⟨a,b',.inl (by rw[hcu _ rfl];omega)⟩
   ·have:=Fv j;rw[e]at this;cases this
   ·omega⟩
  by_cases D7:c≠0\/wt=0
  ·refine Dy C hi tW Y jw (r':=.quit) (n':=n') (wt':=wt) (sm':=sm) (by omega) (by simp[aU.late]) (by rw[Y];simp[aU.cnt]) ⟨jZ,?_⟩ ⟨by rw[wR];exact C.wd.toWdA.cell C.wf (by simp[aU.late]) PM tP Bb,?_⟩ (HL _) (by rw[wR];exact Aside.setCell Bb (.inl rfl)) (hkq D7) λx=>absurd rfl x
   ·rw[Ū,hd,EG];exact hq c wt ZI C.wd.NF D7
   ·rw[wR];refine⟨λ_=>?_,λ_=>?_,by rw[hcu _ rfl];omega,C.wd.NF,C.wd.ND,λj hj=>?_,λj hj=>?_,λj j' V J=>(old V).trans (old J).symm⟩
    ·rw[hcu _ rfl];exact⟨jY,(aZ rfl).trans f5⟩
    ·rw[h6];exact⟨g6,(aZ rfl).trans f6⟩
    ·have hw:(upd ρ i .quit j).kQ=true:=by rcases hj with hj|hj<;>rw[hj]<;>rfl
     rw[old hw,upd_same]at hj;rcases hj with hj|hj<;>cases hj
    ·have hw:(upd ρ i .quit j).kQ=true:=by rw[hj];rfl
     rw[old hw,upd_same]at hj;cases hj
  ·have A2:c=0/\wt=1:=by have:=C.wd.NF;omega
   obtain⟨rfl,rfl⟩:=A2;refine Dy C hi tW Y jw (r':=.leave .w) (n':=n') (wt':=1) (sm':=sm) (by omega) (by simp[aU.late]) (by rw[Y];simp[aU.cnt]) ⟨jZ,k,A,?_⟩ ⟨by rw[wR];exact C.wd.toWdA.cell C.wf (by simp[aU.late]) PM tP Bb,?_⟩ (HL _) (by rw[wR];exact Aside.setCell Bb (.inl rfl)) ⟨λL=>(by cases L.1),λH=>.inl ⟨rfl,by have:=C.wd.ND rfl;exact this,.inr ⟨i,.inl (upd_same _ _ _)⟩⟩⟩ λx=>absurd rfl x
   ·rw[Ū,hd,EG];exact hw
   ·rw[wR];refine⟨λ_=>?_,λ_=>?_,by rw[hcu _ rfl];omega,C.wd.NF,C.wd.ND,λj hj=>⟨rfl,hcu _ rfl⟩,λj hj=>?_,λj j' V J=>(old V).trans (old J).symm⟩
    ·rw[hcu _ rfl];exact⟨jY,(aZ rfl).trans f5⟩
    ·rw[h6];exact⟨g6,(aZ rfl).trans f6⟩
    ·have hw:(upd ρ i (.leave .w) j).kQ=true:=by rw[hj];rfl
     rw[old hw,upd_same]at hj;cases hj
 |look uv hdp hs Jm=>
  rename_i n' g';obtain⟨G4,AE⟩:=C.wd.Wj i (.inl Y);subst G4;have jw:=hs w (by rw[wR,<-AE];exact g5);have hu:=pW (ρ:=ρ) (b:=b) (n:=m) (i:=i) (r':=.leave .x) (by rw[Y];rfl);have old:∀{j:Nat},(upd ρ i (.leave .x) j).kQ=true->j=i:=λ{j} hj=>by
   by_cases e:j=i
   ·exact e
   ·rw[upd_ne _ _ e]at hj;exact C.wd.NT j i hj (by rw[Y];rfl)
  refine Dy C hi tW Y jw (r':=.leave .x) (n':=n') (wt':=1) (sm':=sm) (by omega) (by simp[aU.late]) (by rw[Y];simp[aU.cnt]) ⟨jZ,k,A,?_⟩ ⟨C.wd.toWdA.late (by simp[aU.late]) PM tP (λc kk L G5=>G5) C.wd.keep,?_⟩ ?_ (ū Z w) ⟨λL=>(by cases L.1),λH=>.inl ⟨rfl,C.wd.ND rfl,.inr ⟨i,.inr (upd_same _ _ _)⟩⟩⟩ λx=>absurd rfl x
  ·rw[Ū,hd];exact Jm
  ·refine⟨λhb=>by rw[hu];exact C.wd.sI hb,C.wd.wh,by rw[hu];exact C.wd.J5,C.wd.NF,C.wd.ND,λj hj=>⟨rfl,hu.trans AE⟩,λj hj=>?_,λj j' V J=>(old V).trans (old J).symm⟩;have hw:(upd ρ i (.leave .x) j).kQ=true:=by rw[hj];rfl
   rw[old hw,upd_same]at hj;cases hj
  ·refine C.td.JC C.wf tP A PM (by rw[Y];rfl) (by intro e he;simp at he;rcases he with rfl;simp) λj e he=>.inr ?_;rw[hd,Ů]
   ·exact hdp
   ·intro e he;have:=mR he;simp[su]at this;subst this;simp
 |reset uv hdp hs Jm=>
  rename_i n' g';obtain⟨G4,AE⟩:=C.wd.Wj i (.inr Y);subst G4;have A0:=C.wd.ND rfl;have jw:=hs w (by rw[wR,<-AE];exact g5) (by rw[wR];exact f5);have jY:(w.setCell (dE s) (.int .u64 (aa 0 0))).cell? (dE s)=some (.int .u64 (aa 0 0)):=Ų _ _ _ (by rw[g5]);have h6:∀v,(w.setCell (dE s) v).cell? (iD s)=w.cell? (iD s):=λv=>l8 _ _ (by simp[iD]);have hu:=pW (ρ:=ρ) (b:=b) (n:=m) (i:=i) (r':=.leave .y) (by rw[Y];rfl);have old:∀{j:Nat},(upd ρ i (.leave .y) j).kQ=true->j=i:=λ{j} hj=>by
   by_cases e:j=i
   ·exact e
   ·rw[upd_ne _ _ e]at hj;exact C.wd.NT j i hj (by rw[Y];rfl)
  refine Dy C hi tW Y jw (r':=.leave .y) (n':=n') (wt':=0) (sm':=sm) (by omega) (by simp[aU.late]) (by rw[Y];simp[aU.cnt]) ⟨jZ,k,A,?_⟩ ⟨by rw[wR];exact C.wd.toWdA.cell C.wf (by simp[aU.late]) PM tP Bb,?_⟩ ?_ (by rw[wR];exact Aside.setCell Bb (.inl rfl)) ⟨λL=>(by cases L.1),λH=>.inr (.inl ⟨rfl,A0,i,upd_same _ _ _⟩)⟩ λx=>absurd rfl x
  ·rw[Ū,hd];exact Jm
  ·rw[wR];refine⟨λ_=>?_,λ_=>?_,by rw[hu];exact C.wd.J5,by omega,λx=>by omega,λj hj=>?_,λj hj=>⟨rfl,A0,hu.trans AE⟩,λj j' V J=>(old V).trans (old J).symm⟩
   ·rw[hu,AE];exact⟨jY,(aZ rfl).trans f5⟩
   ·rw[h6];exact⟨g6,(aZ rfl).trans f6⟩
   ·have hw:(upd ρ i (.leave .y) j).kQ=true:=by rcases hj with hj|hj<;>rw[hj]<;>rfl
    rw[old hw,upd_same]at hj;rcases hj with hj|hj<;>cases hj
  ·refine C.td.JC C.wf tP A PM (by rw[Y];rfl) (by intro e he;simp at he;rcases he with rfl;simp) λj e he=>.inr ?_;rw[hd,Ů]
   ·exact hdp
   ·intro e he;have:=mR he;simp[Bt]at this;subst this;simp
 |sem uv hdp Jg hs Jm=>
  rename_i n' g';obtain⟨G4,A0,AE⟩:=C.wd.wky i Y;subst G4;subst A0;have jw:=hs w (by rw[wR];exact g6) (by rw[wR];exact f6);have jY:(w.setCell (iD s) (.int .u32 1)).cell? (iD s)=some (.int .u32 1):=Ų _ _ _ (by rw[g6]);have h5:∀v,(w.setCell (iD s) v).cell? (dE s)=w.cell? (dE s):=λv=>l8 _ _ (by simp[dE]);have hu:=pW (ρ:=ρ) (b:=b) (n:=m) (i:=i) (r':=.quit) (by rw[Y];rfl);have old:∀{j:Nat},(upd ρ i .quit j).kQ=true->False:=λ{j} hj=>by
   by_cases e:j=i
   ·rw[e,upd_same]at hj;cases hj
   ·rw[upd_ne _ _ e]at hj;exact e (C.wd.NT j i hj (by rw[Y];rfl))
  have aKr:∀j,(upd ρ i .quit j).kQ=false:=λj=>by
   cases hj:(upd ρ i .quit j).kQ with
   |false=>rfl
   |true=>exact(old hj).elim
  have EG:deafBehind d (za k.s)=d:=by simp[deafBehind,za,rZ,su,Bt]
  refine Dy C hi tW Y jw (r':=.quit) (n':=n') (wt':=0) (sm':=1) (by omega) (by simp[aU.late]) (by rw[Y];simp[aU.cnt]) ⟨jZ,?_⟩ ⟨by rw[wR];exact C.wd.toWdA.cell C.wf (by simp[aU.late]) PM tP Bb,?_⟩ ?_ (by rw[wR];exact Aside.setCell Bb (.inr rfl)) ⟨λL=>(by have:=L.2.2 i;rw[Y]at this;cases this),λH=>.inr (.inr ⟨rfl,rfl,hu.trans AE,aKr⟩)⟩ λ_=>⟨Jg,Jm.status⟩
  ·rw[Ū,hd,EG];exact Jm
  ·rw[wR];refine⟨λ_=>?_,λ_=>?_,by rw[hu];exact C.wd.J5,by omega,λx=>by omega,λj hj=>?_,λj hj=>?_,λj j' V J=>(old V).elim⟩
   ·rw[hu,h5,AE];rw[AE]at g5;exact⟨g5,(aZ rfl).trans f5⟩
   ·exact⟨jY,(aZ rfl).trans f6⟩
   ·exact(old (j:=j) (by rcases hj with hj|hj<;>rw[hj]<;>rfl)).elim
   ·exact(old (j:=j) (by rw[hj];rfl)).elim
  ·refine C.td.JC C.wf tP A PM (by rw[Y];rfl) (by intro e he;simp[za]at he;rcases he with rfl|rfl|rfl|rfl<;>simp[rZ,Event.mute]) λj e he=>?_;rw[hd];rcases j with _|_|_|_|j
   ·refine .inl ?_;simp[za,rZ]at he;subst he;rfl
   ·refine .inr ?_;simp[za,deafBehind,rZ,su,Bt]
   ·refine .inr ?_;simp[za,deafBehind,rZ,su,Bt]
   ·refine .inl ?_;simp[za,rZ]at he;subst he;rfl
   ·simp[za]at he
end
def iW(P:Program)(Post:Value->World->Prop)(m:Machine)(t:Trace):Prop:=∃N last o w t',runNT P (N+1) m t=(.ended o w,t')/\runN P N m=.next last/\step P last=.ended o w/\Good P Post last o w t'
def aQ(Z:Gh)(w U:World):Prop:=∃d,Aside Z (w.at d) U
def aQ.refl Z w:aQ Z w w:=⟨w.drawn,ū Z w⟩
def aQ.trans{Z a b c}(h:aQ Z a b)(k:aQ Z b c):aQ Z a c:=by obtain⟨d,h⟩:=h;obtain⟨e,k⟩:=k;exact⟨e,(h.at e).trans k⟩
def Aside.d{Z a b}(h:Aside Z a b):aQ Z a b:=⟨a.drawn,h⟩
def aQ.Rz Z w d:aQ Z w (w.at d):=⟨d,ū Z _⟩
def aj(ρ ρ':Nat->aU):Prop:=∀i,ρ' i=ρ i\/((∃st,ρ i=.leave st)/\(ρ' i).late/\(ρ' i).cnt<=(ρ i).cnt)
def aj.refl ρ:aj ρ ρ:=λ_=>.inl rfl
def aj.trans{a b c}(h:aj a b)(k:aj b c):aj a c:=λi=>by
 rcases k i with e|⟨⟨st,e⟩,hl⟩
 ·rw[e];exact h i
 ·rcases h i with e'|⟨E,_,hy⟩
  ·exact .inr ⟨⟨st,e'▸e⟩,hl.1,e'▸hl.2⟩
  ·exact .inr ⟨E,hl.1,cV hl.2 hy⟩
def Change.aA{ρ i r'}(h:Change ρ i r'):aj ρ (upd ρ i r'):=λj=>by
 by_cases e:j=i
 ·subst e;rw[upd_same];rcases h with h|⟨st,V,J⟩
  ·exact .inl h
  ·exact .inr ⟨⟨st,V⟩,J⟩
 ·exact .inl (upd_ne _ _ e)
section
variable {P:Program}{Post:Value->World->Prop}{Z:Gh}{b s p m h n:Nat}{ρ:Nat->aU}{wt sm:Nat}{t:Trace}{gs:Array Goroutine}{w U:World}{q:Nat->Nat}
def iW.next{M ops M'}(hs:stepT P M=(.next M',ops))(k:iW P Post M' (t++ops)):iW P Post M t:=by obtain⟨n,last,o,w,t',V,J,h3,h4⟩:=k;exact⟨n+1,last,o,w,t',by rw[runNT_succ_next hs];exact V,by rw[runN_succ_next hs];exact J,h3,h4⟩
def iW.ended{M ops o}(hs:stepT P M=(.ended o w,ops))(hg:Good P Post M o w (t++ops)):iW P Post M t:=
 ⟨0,M,o,w,t++ops,by simp[runNT,hs],rfl,by simp[step,hs],hg⟩
def Core.at(C:Core P Z b s p m h ρ wt sm t gs w q)d:Core P Z b s p m h ρ wt sm t gs (w.at d) q:=
 ⟨C.wf,C.pos,C.ge,C.idle,⟨⟨C.wd.chans,C.wd.ans,C.wd.seats,C.wd.apart,C.wd.qH,C.wd.keep,C.wd.both,C.wd.Dm,C.wd.own,C.wd.UD⟩,⟨C.wd.sI,C.wd.wh,C.wd.J5,C.wd.NF,C.wd.ND,C.wd.Wj,C.wd.wky,C.wd.NT⟩⟩,C.td⟩
def by_step{i g sl}(C:Core P Z b s p m h ρ wt sm t gs w q)(hi:gs[i]? =some g)(tW:i≠h)(uv:g.status=.running)(jZ:∀c z ok home,ρ i=.seat c z ok home->i<b->i=0)
 (hsO:∀c z ok home g₂ gx,ρ i=.seat c z ok home->kL P (i==0) Z.K0 (Z.pr i) c z ok home g g₂->gs[h]? =some gx->offersAt gx c true=[]):Nu P Z b s p m h ρ wt sm t gs w q i g sl:=by
 cases Y:ρ i with
 |quit=>exact Ud C hi tW uv Y
 |hold=>have:=C.idle i g tW hi;rw[Y]at this;exact this.elim
 |seat c z ok home=>exact TK C hi tW uv Y (jZ c z ok home Y) λg₂ gx wx hg=>hsO c z ok home g₂ gx Y wx hg
 |leave st=>exact Pb C hi tW Y
def Idle.awake{i g r}(hK:Z.K w)(h:Idle P Z t i n g r):awake g:=by
 cases r with
 |quit=>exact ũ (h.2.status.elim .inl λx=>.inr (.inr x))
 |hold=>exact h.elim
 |seat c z ok home=>exact ũ ((ik.status hK.1 h.2).elim (λx=>.inl x.1) λx=>.inr (.inl x.1))
 |leave st=>obtain⟨_,k,_,hl⟩:=h;exact ũ (.inl hl.status)
def Core.awake{a}(C:Core P Z b s p m h ρ wt sm t gs w q)(ha:gs[h]? =some a)(hs:a.status=.running\/a.status=.blocked):∀g∈gs,awake g:=by
 intro g hg;obtain⟨i,hi,rfl⟩:=pZ.1 hg;by_cases e:i=h
 ·subst e;have:gs[i]=a:=by simpa [eE hi]using ha
  rw[this];exact ũ (hs.elim .inl λx=>.inr (.inl x))
 ·exact(C.idle i _ e (eE hi)).awake C.wd.keep
def Low(b:Nat)(ρ:Nat->aU):Prop:=∀i c z ok home,ρ i=.seat c z ok home->i<b->i=0
def Low.aA{ρ'}(h:Low b ρ)(k:aj ρ ρ'):Low b ρ':=λi c z ok home e hb=>by
 rcases k i with e'|⟨_,hl⟩
 ·exact h i c z ok home (e'▸e) hb
 ·rw[e]at hl;exact hl.1.elim
def vE{i n'}(hi:i<n)(h:n'<q i):sumTo n (upd q i n')<sumTo n q:=by have:sumTo n (upd q i n')+q i=sumTo n q+n':=sumTo_upd q n' id hi;omega
def picked{a sl}(uv:a.status=.running)(Q:∀xe w₁ U t' ρ' wt' sm' q' sl₁ xf,xe.size=gs.size->xe[h]? =some a->Core P Z b s p m h ρ' wt' sm' t' xe U q'->aj ρ ρ'->nI b m ρ wt sm ρ' wt' sm'->(sumTo xe.size q'<=sumTo gs.size q/\(sumTo xe.size q'=sumTo gs.size q->ρ'=ρ))->aQ Z w U->Deaf t' h=Deaf t h->t.size<=t'.size->
 stepT P (crowd xe w₁ sl₁)=runT P (crowd xe U xf) h->iW P Post (crowd xe w₁ sl₁) t')
  (ha:gs[h]? =some a) (C:Core P Z b s p m h ρ wt sm t gs w q) (oJ:Low b ρ):iW P Post (crowd gs w sl) t:=by
 suffices H:∀(μ:Nat) gs₁ w₁ t₁ ρ₁ wt₁ sm₁ q₁ sl₁,gs₁.size=gs.size->gs₁[h]? =some a->Core P Z b s p m h ρ₁ wt₁ sm₁ t₁ gs₁ w₁ q₁->aj ρ ρ₁->nI b m ρ wt sm ρ₁ wt₁ sm₁->(sumTo gs₁.size q₁<=sumTo gs.size q/\(sumTo gs₁.size q₁=sumTo gs.size q->ρ₁=ρ))->aQ Z w w₁->Deaf t₁ h=Deaf t h->t.size<=t₁.size->sumTo gs₁.size q₁=μ->iW P Post (crowd gs₁ w₁ sl₁) t₁ from
  H _ gs w t ρ wt sm q sl rfl ha C (aj.refl ρ) ⟨id,id⟩ ⟨aI _,λ_=>rfl⟩ (aQ.refl Z w) rfl (aI _) rfl
 intro μ
 induction μ using Nat.strongRecOn with
 |ind μ ih=>
  intro gs₁ w₁ t₁ ρ₁ wt₁ sm₁ q₁ sl₁ uG ha₁ C₁ lD bz Ji iF EG aOv hμ;obtain⟨i,g,d,xf,hi,hg,uw⟩:=crowd_pick (P:=P) (w:=w₁) (sl:=sl₁) (C₁.awake ha₁ (.inl uv)) ⟨h,a,ha₁,uv⟩;by_cases e:i=h
  ·subst e;exact Q gs₁ w₁ (w₁.at d) t₁ ρ₁ wt₁ sm₁ q₁ sl₁ xf uG ha₁ (C₁.at d) lD bz Ji (iF.trans (aQ.Rz Z w₁ d)) EG aOv uw
  ·have aKD:∀{n':Nat},n'<q₁ i->sumTo gs₁.size (upd q₁ i n')<sumTo gs₁.size q₁:=λh4=>vE (a6.1 hi).1 h4;obtain⟨xe,U,ops,r',n',wt',sm',V,J,h3,h4,h5,h6,h7,h8,hsw,h9,_⟩:=by_step (sl:=xf) (C₁.at d) hi e hg ((oJ.aA lD) i) λc z ok home g₂ gx _ _ Di=>by
    rw[ha₁]at Di;obtain rfl:=ay Di;exact ű (by rw[uv];simp) _ _
   refine iW.next (uw.trans V) (ih (sumTo xe.size (upd q₁ i n')) ?_ xe U _ _ wt' sm' _ xf (J.trans uG) ?_ h3 (lD.trans h7.aA) ⟨λL=>h8.calm (bz.calm L),λL=>h8.wtg (bz.wtg L)⟩ (by have:=aKD h4;rw[J];exact⟨by omega,λe=>by omega⟩) ((iF.trans (aQ.Rz Z w₁ d)).trans h5.d) ?_ ?_ rfl)
   ·rw[J,<-hμ];exact aKD h4
   ·rcases h6 a ha₁ with x|x
    ·exact x
    ·rw[x,ŭ (.inl uv)]
   ·rw[Ŭ t₁ (g':=i) e ops h9];exact EG
   ·simp only[kx];omega
structure JP(Z:Gh)(S:Nat->Prop)h d d' w U(es:Array Event):Prop where
 keep:Z.K w->Z.K U
 grp:∀s,Z.bP s->(U.cell? (dE s)=w.cell? (dE s)/\U.frozen? (dE s)=w.frozen? (dE s))/\(U.cell? (iD s)=w.cell? (iD s)/\U.frozen? (iD s)=w.frozen? (iD s))
 chan:∀c k,S c->w.heap[c]? =some (.chan 0 #[] false k k false)->U.heap[c]? =some (.chan 0 #[] false k k false)
 gV:∀e∈es,(∀x,(MemAct.ofEvent e).touch?=some x->(Z.sh x.loc->x.kind≠.plain)/\(x.write=true->∀g,¬Z.pr g x.loc)/\(x.kind=.said->h=0))/\∀s,Z.bP s->MemAct.ofEvent e≠.mark (.release (dE s))
 deaf:deafBehind d es=d'
def used(Z:Gh)(ρ:Nat->aU)(c:Nat):Prop:=(∃i z ok home,ρ i=.seat c z ok home)\/∃i k,ρ i=.leave .a/\Z.own i=some k/\c=k.a
def aFH(Z:Gh)(n:Nat)(ρ:Nat->aU)(c:Nat):Prop:=used Z ρ c\/(∃i k,i<n/\Z.own i=some k/\(ρ i).alive/\(c=k.o\/c=k.a))\/∃i k,i<n/\Z.own i=some k/\¬Z.cls k.o/\c=k.o
def Core.Fa{d a es d' m' wt' sm' a'}(C:Core P Z b s p m h ρ wt sm t gs w q)(hd:Deaf t h=d)(ha:gs[h]? =some a)(hh:ρ h=.hold)(hb:h=0\/b<=h)(A:Z.K w->Z.K U)(L:∀c k,aFH Z gs.size ρ c->w.heap[c]? =some (.chan 0 #[] false k k false)->U.heap[c]? =some (.chan 0 #[] false k k false))
 (aKV:∀e∈es,(∀x,(MemAct.ofEvent e).touch?=some x->(Z.sh x.loc->x.kind≠.plain)/\(x.write=true->∀g,¬Z.pr g x.loc)/\(x.kind=.said->h=0))/\∀s,Z.bP s->MemAct.ofEvent e≠.mark (.release (dE s))) (EG:deafBehind d es=d') (hm:gs.size<=m') (hB:WdB (Z.bP s) b s m' ρ wt' sm' U):
 Core P Z b s p m' h ρ wt' sm' (t++MemOp.ofEvents h a.frame.fn a.frame.place es) ((gs.map (woken P a a' U)).setIfInBounds h a') U q/\((gs.map (woken P a a' U)).setIfInBounds h a')[h]? =some a'/\Deaf (t++MemOp.ofEvents h a.frame.fn a.frame.place es) h=d':=by
 have tP:h<gs.size:=(a6.1 ha).1;have hu:upd ρ h .hold=ρ:=by rw[<-hh];exact oZ ρ h
 have aEf:∀i c z ok home,ρ i=.seat c z ok home->∃k,U.heap[c]? =some (.chan 0 #[] false k k false):=λi c z ok home e=>by
  obtain⟨k,A⟩:=C.wd.chans i c z ok home e;exact⟨k,L c k (.inl (.inl ⟨i,z,ok,home,e⟩)) A⟩
 have CN:Wd Z b s gs.size m' ρ wt' sm' U:=by
  refine⟨⟨aEf,λi k e ho=>?_,C.wd.seats,C.wd.apart,C.wd.qH,A C.wd.keep,λi k hi ho zH=>?_,λi k hi ho u7=>?_,C.wd.own,C.wd.UD⟩,hB⟩
  ·obtain⟨mm,hm⟩:=C.wd.ans i k e ho;exact⟨mm,L _ mm (.inl (.inr ⟨i,k,e,ho,rfl⟩)) hm⟩
  ·obtain⟨⟨m1,V⟩,m2,J⟩:=C.wd.both i k hi ho zH;exact⟨⟨m1,L _ m1 (.inr (.inl ⟨i,k,hi,ho,zH,.inl rfl⟩)) V⟩,m2,L _ m2 (.inr (.inl ⟨i,k,hi,ho,zH,.inr rfl⟩)) J⟩
  ·obtain⟨m1,V⟩:=C.wd.Dm i k hi ho u7;exact⟨m1,L _ m1 (.inr (.inr ⟨i,k,hi,ho,u7,rfl⟩)) V⟩
 have Fs:∀op∈MemOp.ofEvents h a.frame.fn a.frame.place es,op.g=h:=gX;have oU:∀op∈MemOp.ofEvents h a.frame.fn a.frame.place es,∀x,op.act.touch?=some x->(Z.sh x.loc->x.kind≠.plain)/\(x.write=true->∀g,¬Z.pr g x.loc)/\(x.kind=.said->h=0):=λop vh x E=>by
  obtain⟨e,he,rfl⟩:=ů vh;exact(aKV e he).1 x E
 have HL:Td Z b s p h gs.size ρ (t++MemOp.ofEvents h a.frame.fn a.frame.place es):=by
  have:=C.td.app (r':=.hold) tP Fs (C.td.px.own Fs oU) (λxa h0=>by rcases hb with x|x<;>omega) (λx=>by cases x) λhz op vh=>by
   obtain⟨e,he,rfl⟩:=ů vh;exact(aKV e he).2 s hz
  rwa[hu]at this
 refine⟨⟨C.wf,C.pos,by simpa using hm,λx y E hy=>?_,by simpa using CN,by simpa using HL⟩,cG (by simpa using tP),by rw[Ū,hd];exact EG⟩;rw[bJ (λe=>E e.symm),rK]at hy;obtain⟨y₀,hy₀,rfl⟩:=aY.1 hy;have hi:=C.idle x y₀ E hy₀;rw[woken_of_again (hi.fixed C.wd.keep λc z ok home Y=>aEf x c z ok home Y)];have hd:Deaf (t++MemOp.ofEvents h a.frame.fn a.frame.place es) x=Deaf t x:=Ŭ t (λz=>E z.symm) _ Fs;revert hi;cases ρ x with
 |quit=>intro h;exact⟨h.1,by rw[hd];exact h.2⟩
 |hold=>exact id
 |seat c z ok home=>intro h;exact⟨hd.trans h.1,h.2⟩
 |leave st=>intro h;exact⟨h.1,by rw[hd];exact h.2⟩
def Core.own{d a d' es a'}(C:Core P Z b s p m h ρ wt sm t gs w q)(hd:Deaf t h=d)(ha:gs[h]? =some a)(hh:ρ h=.hold)(hb:h=0\/b<=h)(H:JP Z (λc=>Z.ic c\/used Z ρ c) h d d' w U es):
 Core P Z b s p m h ρ wt sm (t++MemOp.ofEvents h a.frame.fn a.frame.place es) ((gs.map (woken P a a' U)).setIfInBounds h a') U q/\((gs.map (woken P a a' U)).setIfInBounds h a')[h]? =some a'/\Deaf (t++MemOp.ofEvents h a.frame.fn a.frame.place es) h=d':=by
 refine C.Fa hd ha hh hb H.keep (λc k L A=>H.chan c k ?_ A) H.gV H.deaf C.ge ⟨λhz=>?_,λhz=>?_,C.wd.J5,C.wd.NF,C.wd.ND,C.wd.Wj,C.wd.wky,C.wd.NT⟩
 ·rcases L with L|⟨i,k,_,ho,_,e⟩|⟨i,k,_,ho,_,e⟩
  ·exact .inr L
  ·exact .inl (.inr ⟨i,k,ho,e⟩)
  ·exact .inl (.inr ⟨i,k,ho,.inl e⟩)
 ·obtain⟨⟨e1,e2⟩,_⟩:=H.grp s hz;rw[e1,e2];exact C.wd.sI hz
 ·obtain⟨_,e1,e2⟩:=H.grp s hz;rw[e1,e2];exact C.wd.wh hz
end
end Co
end
