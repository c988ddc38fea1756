/- Ends: a part. Conditions: none. -/
import Derived.Test.YtmanpggemmgnnaaGreatDoorA17
import Derived.Test.YtmanpggemmgnnaaGreatDoorA18
set_option linter.all false
namespace Go.Proofs.YtmanpggemmgnnaaGreatDoor
noncomputable section
open Go Go.Conc Tryz
def ş:=@Frame.finish_at
def Ş:=@step_lone_go
def xF{p:Prop}(h:p:=by kernel_rfl):p:=h
namespace Co
open Kv Ka Ky
def tyC(t:TypeId):Prop:=t=79\/t=99
noncomputable abbrev Cy.cut(K:Cy)(φ:Nat):Cut:=K.Z.cut (eU prog) tyC φ
def Cy.fits(K:Cy)φ:Fits prog uE Spq (K.cut φ):=Ru (λ_ h=>h) rfl
def Cy.aBE(K:Cy)φ:Qk prog uE Spq (K.cut φ):=aE7
def c00:Frame:={(default:Frame)with todo:=[.code (.refuse "")],defers:=[{target:=.nil,args:=#[]}],mode:=.run}
def JI:Base c00:=⟨rfl,rfl,rfl,rfl⟩
def WV(Post:Value->World->Prop)(K:Cy)(wv:World)(fr:Frame)(cs:List Frame):Prop:=∀w,Vw (K.cut 2) wv w->WT prog Post K 0 (G fr cs) w
variable {Post:Value->World->Prop}{K:Cy}{wv:World}{cs:List Frame}
def WV.ctl{fr fr' CC}(aH:K.Ok)(h:∀main w,stepG prog main (G fr cs) w=.go (G fr' CC) w #[])(Q:WV Post K wv fr' CC):WV Post K wv fr cs:=λw X=>
 WT.step aH rfl λU ha _=>⟨_,U,#[],0,h _ U,zC (by simp) rfl,Q U (dm X ha)⟩
section moves
variable {b:Frame}{a:Act}{k:List Item}
def WV.skip(aH:K.Ok)(h:WV Post K wv (b.at a k) cs):WV Post K wv (b.at a (.code .skip::k)) cs:=.ctl aH (λmain w=>by simp[G,stepG,stepG.exec,Frame.at]) h
def WV.inBlock(aH:K.Ok){id}(h:WV Post K wv (b.at a k) cs):WV Post K wv (b.at a (.inBlock id::k)) cs:=.ctl aH (λmain w=>by simp[G,stepG,stepG.exec,Frame.at]) h
def WV.seq{x y}(aH:K.Ok)(h:WV Post K wv (b.at a (.code x::.code y::k)) cs):WV Post K wv (b.at a (.code (.seq x y)::k)) cs:=.ctl aH (λmain w=>by simp[G,stepG,stepG.exec,Frame.at]) h
def WV.block{c}(aH:K.Ok){id}(h:WV Post K wv (b.at a (.code c::.inBlock id::k)) cs):WV Post K wv (b.at a (.code (.block id c)::k)) cs:=.ctl aH (λmain w=>by simp[G,stepG,stepG.exec,Frame.at]) h
def WV.loop{c}(aH:K.Ok)(h:WV Post K wv (b.at a (.code c::.inLoop c::k)) cs):WV Post K wv (b.at a (.code (.loop c)::k)) cs:=.ctl aH (λmain w=>by simp[G,stepG,stepG.exec,Frame.at]) h
def WV.inLoop{c}(aH:K.Ok)(h:WV Post K wv (b.at a (.code c::.inLoop c::k)) cs):WV Post K wv (b.at a (.inLoop c::k)) cs:=.ctl aH (λmain w=>by simp[G,stepG,stepG.exec,Frame.at]) h
def WV.cond{c t x y}(aH:K.Ok)(L:a.eval c=.bool t)(h:WV Post K wv (b.at a (.code (if t then x else y)::k)) cs):WV Post K wv (b.at a (.code (.cond c x y)::k)) cs:=.ctl aH (λmain w=>by
 have:=Frame.eval_at b a (.code (.cond c x y)::k) c;simp only[Frame.at]at this;simp[G,stepG,stepG.exec,Frame.at,this,L]) h
def WV.exit{k'}(aH:K.Ok){id}(E:exitTo id k=some k')(h:WV Post K wv (b.at a k') cs):WV Post K wv (b.at a (.code (.exit id)::k)) cs:=.ctl aH (λmain w=>by simp[G,stepG,stepG.exec,Frame.at,E]) h
def WV.ret(aH:K.Ok)(h:WV Post K wv {b.at a (.code .ret::k)with mode:=.returning} cs):WV Post K wv (b.at a (.code .ret::k)) cs:=.ctl aH (λmain w=>by simp[G,stepG,stepG.exec,Frame.at]) h
def WV.fin(aH:K.Ok)(h:WV Post K wv {b.at a []with mode:=.returning} cs):WV Post K wv (b.at a []) cs:=.ctl aH (λmain w=>by simp[G,stepG,stepG.exec,Frame.at]) h
def WV.region{ops}(aH:K.Ok){id}(h:WV Post K wv (b.at a (.inRegion ops (List.range' 0 ops.size)::k)) cs):WV Post K wv (b.at a (.code (.region id ops false)::k)) cs:=.ctl aH (λmain w=>by
 simp[G,stepG,stepG.exec,Frame.at,oc]) h
def WV.ib{ops}(aH:K.Ok)(h:WV Post K wv (b.at a k) cs):WV Post K wv (b.at a (.inRegion ops []::k)) cs:=.ctl aH (λmain w=>by simp[G,stepG,stepG.exec,Frame.at]) h
end moves
def fb(f:FuncId):Frame:={(default:Frame)with fn:=f,kind:=.normal}
def enter_at{f fn c}(hf:prog.funcs[f]? =some fn)(hb:fn.body=some c)args:Frame.enter prog f args .normal=(fb f).at {tmps:=args++Array.replicate (fn.ntmps - args.size) undef,defers:=[]} [.code c]:=by simp[Frame.enter,Frame.at,hf,hb,fb]
def WV.enter{f fn c args}(hf:prog.funcs[f]? =some fn)(hb:fn.body=some c)(h:WV Post K wv ((fb f).at {tmps:=args++Array.replicate (fn.ntmps - args.size) undef,defers:=[]} [.code c]) cs):WV Post K wv (Frame.enter prog f args .normal) cs:=by rw[enter_at hf hb];exact h
def WV.back{f fn v a todo c}(aH:K.Ok)(hf:prog.funcs[f]? =some fn)(hd:a.defers=[])(Y:results fn a.tmps=pure v)(L:jV c.mode)(h:WV Post K wv (c.finish v) cs):
 WV Post K wv {(fb f).at a todo with mode:=.returning} (c::cs):=
 .ctl aH (λmain w=>xN (k:=.normal) (fr:={(fb f).at a todo with mode:=.returning}) rfl hd rfl (.inl rfl) hf Y L main w) h
noncomputable def DL:Item->Bool
 | .code c| .inLoop c| .inScope c=>bH prog c
 | .inRegion ops _=>ops.all (fF prog)
 | .inBlock _| .inRangeFunc _| .endRangeFunc _| .beginRound=>true
 | .call ..| .extern ..=>false
def Md{x}(h:DL x=true):iL prog false x:=by
 cases x<;>simp only[DL,iL,bh,false_implies,qs]at h ⊢
 all_goals first|exact h|skip
 ·intro o ho;rw[jT]at h;exact h o ho
 all_goals trivial
noncomputable def jN(k:List Item):Bool:=k.all DL
def kept{fn}{f:FuncId}(hf:prog.funcs[f]? =some fn)(A:keep f=true):uE[f]? =prog.funcs[f]? /\∃fn,uE[f]? =some fn:=by rw[lN,hf];simp only[fR,qi,A,j2];exact⟨cq,_,rfl⟩
def aEt{k f a}(A:jN k=true)(hd:gJ a.defers)(hq:uE[f]? =prog.funcs[f]? /\∃fn,uE[f]? =some fn):fH prog uE ((fb f).at a k) where
 todo x E:=Md (ep.1 A x E)
 defers:=hd
 mode:=trivial
 kind:=.inl rfl
 fn _:=hq
 ret e:=by cases e
def Qn(R:Act->World->Prop):Exit->Act->World->Prop
 | .normal,a,w=>R a w
 |_,_,_=>False
def aBK{P ops R} l:
 ∀a w,wpOps P ops (Qn R) l a w->∀(b:Frame) rest k cs,
  ∃a' U,R a' U/\Steps P (lone (b.at a (.inRegion ops (l++rest)::k)) cs w) (lone (b.at a' (.inRegion ops rest::k)) cs U):=by
 induction l with
 |nil=>exact λa w h b rest k cs=>⟨a,w,h,.refl _ _⟩
 |cons i l ih=>
  intro a w h b rest k cs;rw[cf];simp only[wpOps]at h;cases ho:ops[i]? with
  |none=>simp only[ho]at h;obtain⟨a',U,hq,jh⟩:=ih a w h b rest k cs;have hs:=step_op_skip (P:=P) (b:=b) (a:=a) (k:=k) (cs:=cs) (w:=w) (ops:=ops) (i:=i) (rest:=l++rest) (by simp[ho]);simp only[ho,sH,Act.put]at hs;exact⟨a',U,hq,.head hs jh⟩
  |some o=>
   simp only[ho]at h;by_cases hw:Region.wanted o (yielded ops a.tmps)=true
   ·simp only[hw,j2]at h;rcases h with h|⟨hasks,a₀,w₀,hq⟩
    case inr=>exact hq.elim
    simp only[Oper.wp,Oper.upon]at h;have hg:=stepG_op (P:=P) (b:=b) (k:=k) (cs:=cs) (w:=w) (rest:=l++rest) ho hw;have iN:∀v,(b.at a (.inRegion ops (i::(l++rest))::k)).finish v=b.at (a.put o.dst v) (.inRegion ops (l++rest)::k):=by intro v;rw[ş,ho];rfl
    split at h
    ·rename_i v U Y;obtain⟨a',w'',hq,jh⟩:=ih _ _ h b rest k cs;refine⟨a',w'',hq,.head (Ş ?_) jh⟩;rw[hg,<-iN];simp[stepG.apply,Y]
    ·rename_i U Y;obtain⟨a',w'',hq,jh⟩:=ih _ _ h b rest k cs;refine⟨a',w'',hq,.head (Ş ?_) jh⟩;rw[hg,<-iN];simp[stepG.apply,Y]
    ·rename_i d U Y;obtain⟨a',w'',hq,jh⟩:=ih _ _ h b rest k cs;refine⟨a',w'',hq,.head (Ş ?_) jh⟩;have:({b.at a (.inRegion ops (i::(l++rest))::k)with defers:=d::a.defers}:Frame).finish undef=
      b.at ({a with defers:=d::a.defers}.put o.dst undef) (.inRegion ops (l++rest)::k):=by
      have:=ş b {a with defers:=d::a.defers} ops i (l++rest) k undef;rw[ho]at this;exact this
     rw[hg];simp only[stepG.apply,Sem.runT_eq,Y,GStep.bare_after];exact dv (λfr=>GStep.go {frame:=fr,callers:=cs,status:=.running,dying:=none} U) this
    ·rename_i f args U Y;obtain⟨e,w'',fr,I,vV,_,D5⟩:=h (b.at a (.inRegion ops (i::(l++rest))::k)::cs);have vY:step P (lone (b.at a (.inRegion ops (i::(l++rest))::k)) cs w)=
      .next (lone (Frame.enter P f args .normal) (b.at a (.inRegion ops (i::(l++rest))::k)::cs) U):=
      Ş (by rw[hg];simp[stepG.apply,Y,Frame.at])
     cases e with
     |returned v=>obtain⟨a',w₃,hq,jh⟩:=ih _ _ I b rest k cs;refine⟨a',w₃,hq,.head vY (Steps.trans vV (.head ?_ jh))⟩;rw[<-iN];exact step_leave_returned D5
     |panicked chain=>exact I.elim
     |outgrown=>obtain⟨a₀,w₀,hq⟩:=I;exact hq.elim
    ·rename_i row args U Y;obtain⟨v,w'',I,vV⟩:=h (b.at a (.inRegion ops (i::(l++rest))::k)) cs;have vY:step P (lone (b.at a (.inRegion ops (i::(l++rest))::k)) cs w)=
      .next (lone (Frame.ofRow P row args .normal) (b.at a (.inRegion ops (i::(l++rest))::k)::cs) U):=
      Ş (by rw[hg];simp[stepG.apply,Y,Frame.at])
     obtain⟨a',w₃,hq,jh⟩:=ih _ _ I b rest k cs;refine⟨a',w₃,hq,.head vY (Steps.trans ?_ jh)⟩;rw[<-iN];exact vV
    ·exact h.elim
    ·exact h.elim
   ·simp only[hw,cz,bh]at h;obtain⟨a',U,hq,jh⟩:=ih _ _ h b rest k cs;have hs:=step_op_skip (P:=P) (b:=b) (a:=a) (k:=k) (cs:=cs) (w:=w) (ops:=ops) (i:=i) (rest:=l++rest)
     (by simp[ho];simpa using hw)
    simp only[ho,iw]at hs;exact⟨a',U,hq,.head hs jh⟩
def H5{ops P hn} l:∀k,(∀j,j<l.length->ops[k+j]? =l[j]?)->wpOps P ops hn (List.range' k l.length)=wpList P ops hn l:=by
 induction l with
 |nil=>intro k _;funext a w;simp[wpOps,wpList]
 |cons o l ih=>
  intro k h;have h0:ops[k]? =some o:=by simpa using h 0 (by simp)
  have ih':=ih (k+1) (λj hj=>by have:=h (j+1) (by simpa using hj);simpa [ft,oP 1 j]using this);funext a w;simp only[bt,nt,wpOps,h0,wpList,ih']
def WV.seg{f ops k a}(aH:K.Ok)(bY:K.Z.Wf)l i n(hq:uE[f]? =prog.funcs[f]? /\∃fn,uE[f]? =some fn)(hd:gJ a.defers)(hl:∀j,j<l.length->ops[i+j]? =l[j]?)(A:jN (.inRegion ops []::k)=true)
 R (I:∀a w τ d,R a (re w τ d)->R a w) (hw:∀τ d,wpList Tq.prog ops (Qn R) l a (re wv τ d)) (Q:∀a' wv',R a' wv'->WV Post K wv' ((fb f).at a' (.inRegion ops (List.range' (i+l.length) n)::k)) cs):
 WV Post K wv ((fb f).at a (.inRegion ops (List.range' i (l.length+n))::k)) cs:=λw X=>by
 have e:List.range' i (l.length+n)=List.range' i l.length++List.range' (i+l.length) n:=by rw[qu]
 have lh:jN (.inRegion ops (List.range' i l.length++List.range' (i+l.length) n)::k)=true:=A;rw[e];have S:kJ prog (K.cut 2) (K.h==0) cs (λfr U=>∃a',R a' U/\fr=(fb f).at a' (.inRegion ops (List.range' (i+l.length) n)::k)) ((fb f).at a (.inRegion ops (List.range' i l.length++List.range' (i+l.length) n)::k)) [] wv 0:=by
  refine nW (K.fits 2) JI (K.aBE 2) (aEt lh hd hq) (λτ d=>?_) (λfr w τ d=>?_)
  ·have V:=hw τ d;rw[<-H5 l i hl]at V;obtain⟨a',U,r,N,hN⟩:=aBK _ _ _ V (fb f) (List.range' (i+l.length) n) k [c00];exact⟨N,_,U,⟨a',r,rfl⟩,hN⟩
  ·rintro⟨a',r,rfl⟩;exact⟨a',I _ _ _ _ r,rfl⟩
 exact WT.sim (csl:=[]) aH bY S (λfr' wv' U ⟨a',r,e⟩ wP=>by rw[e];exact Q a' wv' r U wP) X
def WV.code{f c k a}(aH:K.Ok)(bY:K.Z.Wf)hn(hq:uE[f]? =prog.funcs[f]? /\∃fn,uE[f]? =some fn)(hd:gJ a.defers)(A:jN (.code c::k)=true)
 (hQ:∀e a w τ d,hn e a (re w τ d)->hn e a w) (hw:∀τ d,c.wp Tq.prog hn a (re wv τ d)) (ho:∀a w,¬hn .outgrown a w) (hp:∀ch a w,¬hn (.panic ch) a w) (hg:∀l a w,¬hn (.goto l) a w)
 (Q:∀a' wv',hn .normal a' wv'->WV Post K wv' ((fb f).at a' k) cs) (E:∀id a' wv',hn (.exit id) a' wv'->∃k',exitTo id k=some k'/\WV Post K wv' ((fb f).at a' k') cs)
 (Y:∀a' wv' todo,hn .ret a' wv'->WV Post K wv' {(fb f).at a' todo with mode:=.returning} cs):WV Post K wv ((fb f).at a (.code c::k)) cs:=λw X=>by
 have S:kJ prog (K.cut 2) (K.h==0) cs (λfr U=>(∃a',hn .normal a' U/\fr=(fb f).at a' k)\/(∃id a' k',hn (.exit id) a' U/\exitTo id k=some k'/\fr=(fb f).at a' k')\/∃a' todo,hn .ret a' U/\fr={(fb f).at a' todo with mode:=.returning}) ((fb f).at a (.code c::k)) [] wv 0:=by
  refine nW (K.fits 2) JI (K.aBE 2) (aEt A hd hq) (λτ d=>?_) (λfr w τ d=>?_)
  ·obtain⟨e,a',U,UW,jh⟩:=hw τ d (fb f) k [c00];cases e with
   |normal=>obtain⟨N,hN⟩:=jh;exact⟨N,_,U,.inl ⟨a',UW,rfl⟩,hN⟩
   |exit id=>obtain⟨k',lh,_⟩:=E id a' U UW;obtain⟨N,hN⟩:=jh k' lh;exact⟨N,_,U,.inr (.inl ⟨id,a',k',UW,lh,rfl⟩),hN⟩
   |ret=>obtain⟨todo,N,hN⟩:=jh;exact⟨N,_,U,.inr (.inr ⟨a',todo,UW,rfl⟩),hN⟩
   |goto l=>exact(hg _ _ _ UW).elim
   |panic ch=>exact(hp _ _ _ UW).elim
   |outgrown=>exact(ho _ _ UW).elim
  ·rintro(⟨a',r,e⟩|⟨id,a',k',r,e1,e2⟩|⟨a',todo,r,e⟩)
   ·exact .inl ⟨a',hQ _ _ _ _ _ r,e⟩
   ·exact .inr (.inl ⟨id,a',k',hQ _ _ _ _ _ r,e1,e2⟩)
   ·exact .inr (.inr ⟨a',todo,hQ _ _ _ _ _ r,e⟩)
 refine WT.sim (csl:=[]) aH bY S (λfr' wv' U h wP=>?_) X;rcases h with⟨a',r,e⟩|⟨id,a',k',r,e1,e2⟩|⟨a',todo,r,e⟩
 ·rw[e];exact Q a' wv' r U wP
 ·obtain⟨k2,CM,hW⟩:=E id a' wv' r;rw[e1]at CM;obtain rfl:=ay CM;rw[e2];exact hW U wP
 ·rw[e];exact Y a' wv' todo r U wP
def KL{ops i o P a rest k}{b:Frame}(ho:ops[i]? =some o)(hw:Region.wanted o (yielded ops a.tmps)=true)main w:
 stepG P main (G (b.at a (.inRegion ops (i::rest)::k)) cs) w=stepG.apply P true (b.at a (.inRegion ops (i::rest)::k)) cs none (execOp a.eval o) w:=by
 have he:=Frame.eval_at' b a (.inRegion ops (i::rest)::k);simp only[Frame.at]at he;simp[G,stepG,stepG.exec,stepG.oper,Frame.oper?,Frame.at,ho,hw,he]
def WV.call{ops i o f args a n k}(aH:K.Ok){b:Frame}(hb:b.kind=.normal)(ho:ops[i]? =some o)(hw:Region.wanted o (yielded ops a.tmps)=true)(E:∀w,(execOp a.eval o).runT prog w #[]=(.ok (.enter f args) w,#[]))
 (Q:WV Post K wv (Frame.enter prog f args .normal) (b.at a (.inRegion ops (List.range' i (n+1))::k)::cs)):WV Post K wv (b.at a (.inRegion ops (List.range' i (n+1))::k)) cs:=by
 refine .ctl aH (λmain w=>?_) Q;rw[nt,KL ho hw main w];unfold stepG.apply;have A:((b.at a (.inRegion ops (i::List.range' (i+1) n)::k)).kind==CallKind.early)=false:=by show(b.kind==CallKind.early)=false;rw[hb];rfl
 rw[bk rfl,E w];simp only[A];rfl
def WV.called{ops i o n k a v}{b:Frame}(ho:ops[i]? =some o)(h:WV Post K wv (b.at (a.put o.dst v) (.inRegion ops (List.range' (i+1) n)::k)) cs):
 WV Post K wv ((b.at a (.inRegion ops (List.range' i (n+1))::k)).finish v) cs:=by
 rw[nt,ş,ho];exact h
def WV.aDx{fn c args fr}(aH:K.Ok)(bY:K.Z.Wf){f:FuncId}(hf:prog.funcs[f]? =some fn)(A:keep f=true)(hb:fn.body=some c)(vd:∀r∈fn.results,∃t,r=.tmp t)
 (hn:Value->World->Prop) (hQ:∀v w τ d,hn v (re w τ d)->hn v w) (ve:∀τ d,Calls Tq.prog f args (re wv τ d) λe U=>∃v,e=.returned v/\hn v U)
 (Q:∀v wv',hn v wv'->WV Post K wv' (fr.finish v) cs):WV Post K wv (Frame.enter prog f args .normal) (fr::cs):=λw X=>by
 obtain⟨k1,Vh,k2⟩:=kept hf A;have:Vh=fn:=by rw[k1,hf]at k2;exact(ay k2).symm
 subst this;have S:kJ prog (K.cut 2) (K.h==0) cs (λfr' U=>∃v,hn v U/\fr'=fr.finish v) (Frame.enter prog f args .normal) [fr] wv 0:=
  TG (K.fits 2) JI (K.aBE 2) k1 k2 hb vd hn hQ ve (λv wv' h=>.stop ⟨v,h,rfl⟩)
 exact WT.sim (csl:=[fr]) aH bY S (λfr' wv' U ⟨v,r,e⟩ wP=>by rw[e];exact Q v wv' r U wP) X
def WV.unit{fn c args fr}(aH:K.Ok)(bY:K.Z.Wf){f:FuncId}(hf:prog.funcs[f]? =some fn)(A:keep f=true)(hb:fn.body=some c)(vd:∀r∈fn.results,∃t,r=.tmp t)
 (hn:Value->World->Prop) (hQ:∀v w τ d,hn v (re w τ d)->hn v w) (PK:∀τ d,Calls Tq.prog f args (re (K.Z.rc 0 wv) τ d) λe U=>∃v,e=.returned v/\hn v U) (PI:∀τ d,Calls Tq.prog f args (re (K.Z.rc 1 wv) τ d) λe _=>∃v,e=.returned v/\True)
 (Q:∀v wv',hn v wv'->WV Post K (K.Z.rc 2 wv') (fr.finish v) cs):WV Post K wv (Frame.enter prog f args .normal) (fr::cs):=λw X=>by
 obtain⟨k1,Vh,k2⟩:=kept hf A;have:Vh=fn:=by rw[k1,hf]at k2;exact(ay k2).symm
 subst this;exact WT.unit aH bY K.fits JI K.aBE k1 k2 hb vd hn hQ PK PI (λv wv' U r wP=>Q v wv' r U (Wn wP)) X
end Co
section
open Go.ConcN (upd upd_ne upd_same)
namespace Co
open Ka Kv Ky
section
variable {Post:Value->World->Prop}{K:Cy}{wv:World}{cs:List Frame}{Stop:Frame->World->Prop}
def XF{ops i o main f rest k a} φ(ho:ops[i]? =some o)(hw:Region.wanted o (yielded ops a.tmps)=true)(Zx:fF prog o=true)(R:Value->World->Prop)(I:∀v w τ d,R v (re w τ d)->R v w)
 (uv:∀τ d,∃n v U,(execOp a.eval o).run Tq.prog (re wv τ d)=.ok n U/\(n=.value v\/(n=.skip/\v=undef))/\R v U) (Q:∀v U,R v U->kJ prog (K.cut φ) main cs Stop ((fb f).at (a.put o.dst v) (.inRegion ops rest::k)) [] U 0):
 kJ prog (K.cut φ) main cs Stop ((fb f).at a (.inRegion ops (i::rest)::k)) [] wv 0:=by
 refine kJ.of prog (K.cut φ) main cs Stop λwa X=>?_;obtain⟨kk,τ,r,V,J⟩:=KC (K.fits φ).toGood (K.fits φ).Yx a.eval o Zx wv wa X;obtain⟨n,v,wr,e,hnv,Y⟩:=uv τ 0;have V:=V τ 0 (λi q _=>by rw[j0]);have e1:JW r τ (0+kk)=.ok n wr:=V.symm.trans e;cases r with
 |halt x w1=>cases e1
 |ok b w1=>
  simp only[JW]at e1;injection e1 with eb ew;subst eb;obtain⟨_,bO,es,hrt,VI,aPj,oU⟩:=J;have aOC:=hrt #[];refine⟨(fb f).at (a.put o.dst v) (.inRegion ops rest::k),[],w1,bO,seen prog f es,?_,⟨VI,aPj,λe he=>oU e (mem_seen he)⟩,Q v w1 (I v w1 τ (0+kk) (ew▸Y))⟩;have hf:((fb f).at a (.inRegion ops (i::rest)::k)).finish v=(fb f).at (a.put o.dst v) (.inRegion ops rest::k):=by rw[ş,ho];rfl
  have e2:(#[]:Array Event)++es=es:=by simp
  show stepG prog main (G ((fb f).at a (.inRegion ops (i::rest)::k)) cs) wa=_;rw[KL ho hw,tH _ rfl,aOC,e2];rcases hnv with rfl|⟨rfl,rfl⟩
  ·simp only[Ka.kept,mM,Df];unfold stepG.apply;simp only[Sem.runT,j2,eP,eB,hf];simp[GStep.after,Frame.at,fb,G,eP]
  ·simp only[Ka.kept,mM,Df];unfold stepG.apply;simp only[Sem.runT,j2,eP,eB,hf];simp[GStep.after,Frame.at,fb,G,eP]
def Fo(F:List Nat)(K:Cy)(w:World):Prop:=∀c∈F,opn w c/\K.Z.ic c/\¬K.Z.rW c
def Fo.aside{F w U}(h:Fo F K w)(ha:aQ K.Z w U):Fo F K U:=λc L=>by
 obtain⟨⟨m,hm⟩,J,h3⟩:=h c L;refine⟨?_,J,h3⟩;obtain⟨d,hp,rfl,_,vX⟩:=ha;rcases vX c with e|⟨e,_⟩|⟨_,c1,c2,t,fr,e,_⟩
 ·exact⟨m,e.trans hm⟩
 ·exact(h3 e).elim
 ·rw[show(w.at d).heap[c]? =w.heap[c]? from rfl,hm]at e;cases e
def Fo.hid{F w φ U}(h:Fo F K w)(hh:Hid (K.cut φ) w U):Fo F K U:=λc L=>by
 obtain⟨⟨m,hm⟩,J,h3⟩:=h c L;exact⟨⟨m,(hh.chans c (iU.2 J) (a6.1 hm).1).trans hm⟩,J,h3⟩
def WO(F:List Nat)(Post:Value->World->Prop)(K:Cy)(wv:World)(fr:Frame)(cs:List Frame):Prop:=∀w,Vw (K.cut 2) wv w->Fo F K w->WT prog Post K 0 (G fr cs) w
variable {F:List Nat}
def WO.sim{fr csl d}(aH:K.Ok)(bY:K.Z.Wf)(H:kJ prog (K.cut 2) (K.h==0) cs Stop fr csl wv d)(Q:∀fr' wv',Stop fr' wv'->WO F Post K wv' fr' cs):∀w,Vw (K.cut 2) wv w->Fo F K w->WT prog Post K d (G fr (csl++cs)) w:=by
 induction H with
 |stop h=>exact λw X hf=>Q _ _ h w X hf
 |step n h ih0 ih=>intro w X hf;refine WT.step aH rfl λU ha _=>?_;have wP:=dm X ha;obtain⟨bO,es,e,R⟩:=h U wP;exact⟨_,bO,es,_,e,Rk bY wP R,ih U wP bO R.1 ((hf.aside ha).hid R.2.1)⟩
def WV.ofO{fr}(h:WO [] Post K wv fr cs):WV Post K wv fr cs:=λw X=>h w X (λ_ L=>by cases L)
def WO.oper{ops i o f rest k a}(aH:K.Ok)(bY:K.Z.Wf)(ho:ops[i]? =some o)(hw:Region.wanted o (yielded ops a.tmps)=true)(Zx:fF prog o=true)(R:Value->World->Prop)(I:∀v w τ d,R v (re w τ d)->R v w)
 (uv:∀τ d,∃n v U,(execOp a.eval o).run Tq.prog (re wv τ d)=.ok n U/\(n=.value v\/(n=.skip/\v=undef))/\R v U) (Q:∀v U,R v U->WO F Post K U ((fb f).at (a.put o.dst v) (.inRegion ops rest::k)) cs):
 WO F Post K wv ((fb f).at a (.inRegion ops (i::rest)::k)) cs:=
 WO.sim (csl:=[]) (Stop:=λfr' U=>∃v,R v U/\fr'=(fb f).at (a.put o.dst v) (.inRegion ops rest::k)) aH bY (XF 2 ho hw Zx R I uv λv U h=>.stop ⟨v,h,rfl⟩) λfr' U ⟨v,h,e⟩=>e▸Q v U h
def Dh{o o'}{w:World}{r:Nat}(h:w.heap[r]? =some o):({w with heap:=w.heap.push o'}:World).heap[r]? =some o:=by have:=(a6.1 h).1;show(w.heap.push o')[r]? =_;rw[cD,aX (by omega)];exact h
def xS{r o'}{w:World}(h:r<w.heap.size):({w with heap:=w.heap.push o'}:World).heap[r]? =w.heap[r]? :=by show(w.heap.push o')[r]? =_;rw[cD,aX (by omega)]
def UY{Z h d w} o(hK:Z.K w):JP Z Z.ic h d d w {w with heap:=w.heap.push o} #[]:=by
 have fT:∀{r:Nat} {x:TypeId×Nat},w.shape? r=some x->r<w.heap.size:=λ{r x} h=>by
  unfold World.shape? at h;split at h
  ·rename_i e;exact(a6.1 e).1
  ·cases h
 have L:∀a:Addr,a.block<w.heap.size->({w with heap:=w.heap.push o}:World).cell? a=w.cell? a/\({w with heap:=w.heap.push o}:World).frozen? a=w.frozen? a:=λa h=>by
  unfold World.cell? World.frozen?;rw[xS h];exact⟨rfl,rfl⟩
 have hs:∀{r:Nat} {x:TypeId×Nat},w.shape? r=some x->({w with heap:=w.heap.push o}:World).shape? r=some x:=λ{r x} h=>by
  have:=fT h;unfold World.shape? at h ⊢;rw[xS this];exact h
 have hb:∀{a:Addr} {v:Value},w.cell? a=some v->({w with heap:=w.heap.push o}:World).cell? a=some v:=λ{a v} h=>(L a (World.block_lt_of_cell? w a h)).1.trans h;refine⟨λ_=>⟨λg k A=>?_,λs zD=>⟨hs (hK.2 s zD).1,λQ=>hb ((hK.2 s zD).2 Q)⟩⟩,λs zD=>?_,λc k _ e=>Dh e,λe he=>by simp at he,rfl⟩
 ·obtain⟨k1,k2,k3,k4⟩:=hK.1 g k A;exact⟨hb k1,hb k2,hb k3,hs k4⟩
 ·have V:=fT (hK.2 s zD).1;exact⟨L (dE s) V,L (iD s) V⟩
def WO.chan{fr}(aH:K.Ok){fr':Nat->Frame}(hs:∀main w,stepG prog main (G fr cs) w=.go (G (fr' w.heap.size) cs) {w with heap:=w.heap.push (.chan 0 #[] false 0 0 false)} #[])
 (Mw:K.Z.lq wv.heap.size=none) (Q:¬K.Z.ic wv.heap.size->WO (wv.heap.size::F) Post {K with Z:=K.Z.gL wv.heap.size} {wv with heap:=wv.heap.push gone} (fr' wv.heap.size) cs):WO F Post K wv fr cs:=λw X hf=>by
 refine WT.gL wv.heap.size ?_;have Be:({K with Z:=K.Z.gL wv.heap.size}:Cy).Ok:=⟨aH.low,aH.wk,aH.mn,aH.pos,aH.lt,aH.bn,aH.cl,aH.hb,aH.bP⟩
 refine WT.step Be rfl λU ha hK=>?_;have yP:aQ K.Z w U:=ha;have wP:=dm X yP;have DO:=hf.aside yP;have uG:wv.heap.size=U.heap.size:=wP.size;refine⟨_,_,#[],0,hs _ U,UY _ hK,?_⟩;rw[<-uG];have vy:¬K.Z.ic wv.heap.size:=λe=>by have:=zW wP (.inr (.inr e));omega
 refine Q vy _ ?_ ?_
 ·have:=Wo wP (o:=.chan 0 #[] false 0 0 false) rfl (by rw[<-uG];exact Mw);rw[<-uG]at this;exact this
 ·intro c L;rcases bm.1 L with rfl|L
  ·refine⟨⟨0,?_⟩,.inl (.inr rfl),λe=>vy (.inr e)⟩;show(U.heap.push _)[wv.heap.size]? =_;rw[uG,cD,bk rfl]
  ·obtain⟨⟨m,hm⟩,J,h3⟩:=DO c L;refine⟨⟨m,Dh hm⟩,?_,h3⟩;rcases J with J|J
   ·exact .inl (.inl J)
   ·exact .inr J
end
end Co
end
namespace Co
open Ka Kv Ky
noncomputable def Gq(s:Nat):Frame:=Frame.enter prog 23 #[fK s] .normal
noncomputable def Gp(s:Nat):Frame:=(bu prog 10 (Gq s) [] []).headD default
noncomputable def Yn(s:Nat):Frame:=aR prog 14 ((Gp s).finish (.tuple #[])) [] []
noncomputable def Ah(s:Nat):Frame:=aR prog 1 (Yn s) [] [.val (.bool false)]
noncomputable def oTd:List Item:=(aR prog 12 (Ah 0) [] [.val (.slice none 0 0)]).todo
noncomputable def Dq:Array Oper:=match oTd with
 | .code (.region _ ops _)::_=>ops
 |_=>#[]
noncomputable def oK:List Item:=oTd.tail
def oD(s:Nat):List Deferred:=[{target:=.fn (.func 39) #[],args:=#[fK s]}]
def oA(s:Nat)(f:Nat->Value):Act:={tmps:=⟨(List.range 57).map λi=>if i=0 then fK s else f i⟩,defers:=oD s}
def bQ(f:Nat->Value)(d:Nat)(v:Value)(j:Nat):Value:=if j=d then v else f j
def xJ{f d v}:bQ f d v d=v:=by simp[bQ]
def Bu{j d f v}(h:j≠d):bQ f d v j=f j:=by simp[bQ,h]
def dG{f v d}(h:f d=v):bQ f d v=f:=by
 funext j;unfold bQ;split
 ·rename_i e;rw[e,h]
 ·rfl
def sl(p:Option Addr)(n cap:Nat):Value:=.slice p n cap
noncomputable def oF4(s:Nat)(p:Option Addr)(n cap:Nat)(i:Nat):Value:=(aR prog 12 (Ah s) [] [.val (sl p n cap)]).tmps.getD i undef
def Ur s:bV (Ky.walk prog 10 (Gq s) [] [])=true/\aR prog 10 (Gq s) [] []=Frame.enter prog 38 #[fK s] .normal/\bu prog 10 (Gq s) [] []=[Gp s]/\thin (bM prog 10 (Gq s) [] [])=[]/\(Gp s).mode=.run:=
 ⟨xF,xF,xF,xF,xF⟩
def Uq s:bV (Ky.walk prog 14 ((Gp s).finish (.tuple #[])) [] [])=true/\bu prog 14 ((Gp s).finish (.tuple #[])) [] []=[]/\thin (bM prog 14 ((Gp s).finish (.tuple #[])) [] [])=[]:=
 ⟨xF,xF,xF⟩
def Uo s:Ky.walk prog 1 (Yn s) [] [.val (.bool false)]=some (Ah s,[],[],[(23,[.ld .plain ⟨s,7,none⟩ (.bool false)])]):=xF
def Un s p n cap(h:n<8):bV (Ky.walk prog 12 (Ah s) [] [.val (sl p n cap)])=true/\aR prog 12 (Ah s) [] [.val (sl p n cap)]=(fb 23).at (oA s (oF4 s p n cap)) (.code (.region 5 Dq true)::oK)/\bu prog 12 (Ah s) [] [.val (sl p n cap)]=[]/\thin (bM prog 12 (Ah s) [] [.val (sl p n cap)])=[(23,[.ld .plain ⟨s,4,none⟩ (sl p n cap)])]:=by
 match n,h with
 |0,_=>exact⟨xF,xF,xF,xF⟩
 |1,_=>exact⟨xF,xF,xF,xF⟩
 |2,_=>exact⟨xF,xF,xF,xF⟩
 |3,_=>exact⟨xF,xF,xF,xF⟩
 |4,_=>exact⟨xF,xF,xF,xF⟩
 |5,_=>exact⟨xF,xF,xF,xF⟩
 |6,_=>exact⟨xF,xF,xF,xF⟩
 |7,_=>exact⟨xF,xF,xF,xF⟩
 |n+8,h=>omega
noncomputable def oR(s:Nat)(f:Nat->Value)(l:List Nat):Frame:=(fb 23).at (oA s f) (.inRegion Dq l::oK)
def One(s:Nat)(f:Nat->Value)(i:Nat)(l:List Nat)(an:List An)(d:Nat)(v:Value)(io:List Io):Prop:=Ky.walk prog 1 (oR s f (i::l)) [] an=some (oR s (bQ f d v) l,[],[],[(23,io)])
variable (s:Nat)(f:Nat->Value)(l:List Nat)(n cap o a r:Nat)(p:Option Addr)
def f4V(s:Nat):Value:=.pointer (some ⟨s,4,none⟩)
def cnC(s n o a:Nat):Array Value:=#[.int .i64 n,fK s,.string ⟨#[]⟩,.string ⟨#[]⟩,.bool false,.bool false,.bool false,.slice none 0 0,.slice none 0 0,.chan (some o),.chan (some a),.bool false,.string ⟨#[]⟩,.bool false,.nilFunc,.slice none 0 0]
def aNw:One s f 0 l [] 23 (fK s) []:=by unfold One;kernel_rfl
def aNv:One s (bQ f 23 (fK s)) 1 l [] 24 (fK s) []:=by unfold One;kernel_rfl
def aNu:One s (bQ f 24 (fK s)) 2 l [] 25 (f4V s) []:=by unfold One;kernel_rfl
def aNt:One s (bQ f 25 (f4V s)) 3 l [.val (sl p n cap)] 26 (sl p n cap) [.ld .plain ⟨s,4,none⟩ (sl p n cap)]:=by unfold One;kernel_rfl
def aNs:One s (bQ f 26 (sl p n cap)) 4 l [] 27 (.int .i64 n) []:=by unfold One;kernel_rfl
def aNr:One s f 5 l [] 28 (fK s) []:=by unfold One;kernel_rfl
def aNq:One s f 6 l [.adr o] 29 (.chan (some o)) [.nw (.chan 0 #[] false 0 0 false) o]:=by unfold One;kernel_rfl
def aNp:One s f 7 l [.adr o] 30 (.chan (some o)) [.nw (.chan 0 #[] false 0 0 false) o]:=by unfold One;kernel_rfl
def aNo:One s (bQ (bQ (bQ (bQ f 27 (.int .i64 n)) 28 (fK s)) 29 (.chan (some o))) 30 (.chan (some a))) 8 l [] 31 (.agg (cnC s n o a)) []:=by unfold One;kernel_rfl
def aNn:One s (bQ f 31 (.agg (cnC s n o a))) 9 l [.adr r] 32 (fK r) [.nw (.cells (cnC s n o a) 99 (0,0)) r]:=by unfold One;kernel_rfl
def aJr:One s (bQ f 32 (fK r)) 10 l [] 3 (fK r) []:=by unfold One;kernel_rfl
end Co
