/- Races: a part. Conditions: none. -/
import Derived.KernelRfl
import Derived.Test.YtmanpggemmgnnaaGreatDoorA00
set_option linter.all false
set_option maxHeartbeats 8000000
set_option maxRecDepth 1000000
namespace Go.Proofs.YtmanpggemmgnnaaGreatDoor
noncomputable section
open Go
namespace Ka
def blank:Func:={name:= "",origin:= "",params:=#[],resultTypes:=#[],nfree:=0,ntmps:=0,results:=#[],body:=none,norace:=false,tmpNames:=#[]}
def BM (d:Deferred):Prop:=match d.target with
 | .fn _ _| .nil=>True
 |_=>False
def nH (P:Program) (fs:Array Func) (Sp:FuncId->Prop) (C:Cut):Next->Prop
 | .value _| .skip=>True
 | .enter f _=>(Sp f\/fs[f]? =P.funcs[f]?)/\∃fn c,fs[f]? =some fn/\fn.body=some c
 | .defer d=>BM d
 | .round _ _ _ a b=>C.N a/\C.N b
 |_=>False
def jG (fn:Func) (args:Array Value):Sem Next:=do
 if let some e:=Extern.findNext fn then return<-e args
 match Extern.find fn with
 |some e=>pure (.value (<-e args))
 |none=>
  if fn.name.endsWith ".init"&&!fn.name.startsWith "("&&!fn.name.startsWith "gosem." then pure (.value (.tuple #[]))
  else unsupported (.extern fn.name)
section
variable (P:Program) (fs:Array Func) (Sp:FuncId->Prop) (C:Cut)
structure Good:Prop where
 same:∀f:Nat,fs[f]? =P.funcs[f]? \/(fs[f]? =some blank/\∃fn,P.funcs[f]? =some fn)\/(Sp f/\∃fn c Vh c',fs[f]? =some fn/\fn.body=some c/\P.funcs[f]? =some Vh/\Vh.body=some c'/\(Vh.name== "runtime.NumGoroutine")=false)
 bytes:∀u,P.underlying u=some (.int .u8)->∀t,C.ty t->∀d c o n,liesAt P d t c o u n=false
 ext:∀(f:FuncId) (fn:Func),fs[f]? =some fn->fn.body=none->fn≠blank->∀args,T P fs C (jG fn args) (nH P fs Sp C)
end
section
variable {P:Program} {fs:Array Func} {Sp:FuncId->Prop} {C:Cut} {α β:Type} {φ:α->Prop} {ψ:β->Prop}
theorem Et:Extern.findNext blank=none:=(by kernel_rfl)
theorem Eu:(Extern.find blank).isNone=true:=(by kernel_rfl)
theorem Nn (f:FuncId) (args:Array Value):callFunc f args=(do
 match (<-program).funcs[f]? with
 |none=>stuck "call: no such function"
 |some fn=>
  if fn.name== "runtime.NumGoroutine" then pure .numGoroutine
  else if fn.body.isNone then do
   mark (.extern f)
   jG fn args
  else pure (.enter f args)):=rfl
theorem vD (G:Good P fs Sp C) (f:FuncId) (args:Array Value) (Fw:∀fn,fs[f]? =some fn->(fn.name== "runtime.NumGoroutine")=false):T P fs C (callFunc f args) (nH P fs Sp C):=by
 rw [Nn];rcases G.same f with h|⟨h,fn,hp⟩|⟨DV,fn,c,Vh,c',h1,h2,h3,h4,h5⟩
 ·refine dQ (by show (match P.funcs[f]? with|none=>_|some fn=>_)=(match fs[f]? with|none=>_|some fn=>_);rw [h]) ?_;split
  ·exact af
  ·rename_i fn Bh;rw [Fw fn Bh];simp only [Bool.false_eq_true,if_false];split
   ·refine tb (aDB rfl) λ_ _=>?_;by_cases hb:fn=blank
    ·subst hb;intro wv wa _;refine ⟨0,λ_ _=>0,.halt (.unsupported (.extern "")) wv,λτ' d _=>?_,trivial⟩;unfold jG;rw [Et,Option.isNone_iff_eq_none.1 Eu];rfl
    ·exact G.ext f fn Bh (Option.isNone_iff_eq_none.1 ‹_›) hb args
   ·rename_i hb;cases hbd:fn.body with
    |none=>rw [hbd] at hb;exact absurd rfl hb
    |some c=>exact tp ⟨.inr h,fn,c,Bh,hbd⟩
 ·intro wv wa _;refine ⟨0,λ_ _=>0,.halt (.unsupported (.extern "")) wv,λτ' d _=>?_,trivial⟩;show Sem.run (Pf P fs) (match fs[f]? with|none=>_|some fn=>_) _=_;rw [h];show Sem.run (Pf P fs) ((mark (.extern f)).bind λ_=>jG blank args) _=_;unfold jG;rw [Et,Option.isNone_iff_eq_none.1 Eu];rfl
 ·have e1:Option.isNone fn.body=false:=by rw [h2];rfl
  have e2:Option.isNone Vh.body=false:=by rw [h4];rfl
  refine dQ (by
   show (match P.funcs[f]? with|none=>_|some fn=>_)=(match fs[f]? with|none=>_|some fn=>_);rw [h1,h3];simp only [Fw fn h1,h5,e1,e2,Bool.false_eq_true,if_false]) ?_
  show T P fs C (match fs[f]? with|none=>_|some fn=>_) _;rw [h1];simp only [Fw fn h1,e1,Bool.false_eq_true,if_false];exact tp ⟨.inl DV,fn,c,h1,h2⟩
theorem xz (G:Good P fs Sp C) (hn:∀(f:FuncId) (fn:Func),fs[f]? =some fn->(fn.name== "runtime.NumGoroutine")=false) (r:Value) (s:String) (args:Array Value):T P fs C (callMethod r s args) (nH P fs Sp C):=by
 unfold callMethod;split
 ·refine dQ rfl ?_;refine tb (Kw _ _ _ _) λx _=>?_;exact vD G _ _ (hn _)
 ·exact az _
 ·exact af
theorem aBn (l:Nat) (args:Array Value):T P fs C (Instr.yield l args) (nH P fs Sp C):=by
 unfold Instr.yield Instr.getLoop;refine tb (φ:=λr=>C.N r.assign/\C.N r.body) (yT ⟨_,.inl ⟨_,rfl⟩,λ_=>rfl⟩ (λ_ _=>⟨_,.inl ⟨_,rfl⟩,λ_=>rfl⟩) λ_ o ho=>?_) λr hr=>?_
 ·split
  ·rename_i r;have:=ho.2 r rfl;exact tp ⟨this.1,this.2.1⟩
  ·exact af
 ·dsimp only;split
  ·exact tb (φ:=λ_=>True) af λ_ _=>tp hr
  ·exact tp hr
def pY (P:Program) (at_:Array TypeId):Builtin->Bool
 | .len| .append| .max| .min| .delete| .copy=>true
 | .unsafeString=>Xz P at_
 |_=>false
theorem Tg (Zg:∀u,P.underlying u=some (.int .u8)->∀t,C.ty t->∀d c o n,liesAt P d t c o u n=false) (b:Builtin) (at_:Array TypeId) (hb:pY P at_ b=true) (t:TypeId) (cs:Array Bool) (args:Array Value):T P fs C (builtin b at_ t cs args) (nH P fs Sp C):=by
 cases b<;>first
  |cases hb;done
  |exact tb (Cg Zg _ hb _ _) λ_ _=>tp trivial
  |exact tb (Xy _ _ _) λ_ _=>tp trivial
  |exact tb (aE5 _ _ _) λ_ _=>tp trivial
  |exact tb (Xv _ _ _) λ_ _=>tp trivial
  |exact tb (aI6 _ _ _) λ_ _=>tp trivial
  |exact tb (aI5 _ _ _) λ_ _=>tp trivial
  |exact tb (aI4 _ _ _) λ_ _=>tp trivial
def Ce (P:Program):Target->Prop
 | .fn _ _| .nil=>True
 | .builtin b at_ _ _=>pY P at_ b=true
 |_=>False
theorem Cz (G:Good P fs Sp C) (hn:∀(f:FuncId) (fn:Func),fs[f]? =some fn->(fn.name== "runtime.NumGoroutine")=false) (t:Target) (ht:Ce P t) (args:Array Value):T P fs C (invoke t args) (nH P fs Sp C):=by
 unfold invoke;split
 ·exact az _
 ·exact Tg G.bytes _ _ ht _ _ _
 ·exact vD G _ _ (hn _)
 ·split
  ·exact xz G hn _ _ _
  ·exact af
 ·split
  ·refine tb (aN _) λd _=>?_;dsimp only;exact xz G hn _ _ _
  ·exact af
 ·split
  ·exact tb (EM _ _ _ _) λ_ _=>vD G _ _ (hn _)
  ·exact af
 ·exact aBn _ _
 ·exact ht.elim
 ·exact ht.elim
theorem yV (ρ:Operand->Value) (c:Call) (t:TypeId) (h:∀b,c.callee=.builtin b->pY P c.argTypes b=true):T P fs C (resolve ρ c t) λd=>Ce P d.target/\((∀b,c.callee≠.builtin b)->BM d):=by
 unfold resolve;dsimp only;split
 ·rename_i b hb;exact tp ⟨h b hb,λx=>absurd hb (x b)⟩
 ·exact tp ⟨trivial,λ_=>trivial⟩
 ·unfold Deferred.ofValue;split
  ·exact tp ⟨trivial,λ_=>trivial⟩
  ·exact tp ⟨trivial,λ_=>trivial⟩
  ·exact af
end
end Ka
namespace Ka
def fF (P:Program) (o:Oper):Bool:=match o.op with
 | .move _| .assign _| .pick ..| .alloc ..| .box ..| .build ..| .buildSlice ..| .load ..| .store ..| .nilCheck _| .binOp ..| .unOp ..| .makeInterface ..| .makeFunc ..| .makeMap ..| .makeSlice ..
 | .slice ..| .fieldAddr ..| .field ..| .indexAddr ..| .index ..| .lookup ..| .mapUpdate ..| .insert ..| .range ..| .next ..| .entry ..| .typeAssert ..| .extract ..| .panic _=>true
 | .convert s d _=>yA P s d
 | .call c=>match c.callee with
   | .builtin b=>pY P c.argTypes b
   |_=>true
 | .defer c=>match c.callee with
   | .builtin _=>false
   |_=>true
 |_=>false
section
variable {P:Program} {fs:Array Func} {Sp:FuncId->Prop} {C:Cut} {α β:Type} {φ:α->Prop} {ψ:β->Prop}
theorem Xj:T P fs C (sys .env) λ_=>True:=λwv wa hv=>by
 refine ⟨0,λ_ _=>0,.ok (.strings wv.os.env) wv,λτ' d _=>rfl,trivial,wa,#[⟨.output,true,false⟩],λjH=>?_,hv,Hid.refl C wa,λe he=>?_⟩
 ·rw [hv.os.1];show ((Result.ok _ _:Result SysRet),jH.push _)=_;exact congrArg (Prod.mk _) Array.push_eq_append
 ·simp only [List.mem_toArray,List.mem_singleton] at he;subst he;trivial
theorem aBt (x:Value):T P fs C (Instr.panic x) λ_=>True:=by
 unfold Instr.panic;split
 ·exact vB
 ·refine tb (φ:=λ_=>True) ?_ λn _=>il (λ_=>vB) λ_=>az _;unfold Instr.panicnil;refine tb Xj λe _=>?_;split
  ·dsimp only;exact dQ rfl bg
  ·exact af
 ·exact af
theorem tQ (l:Nat) {k:Loop->Sem α} (h:C.free l->∀r:Loop,(C.N r.assign/\C.N r.body/\∀c,r.pending=some c->C.N c)->T P fs C (k r) φ):T P fs C (Instr.getLoop l >>= k) φ:=by
 unfold Instr.getLoop;show T P fs C (getObj l >>= λo=>(match o with| .loop r=>pure r|_=>stuck "range over a function: no such loop":Sem Loop) >>= k) φ;refine yT ⟨_,.inl ⟨_,rfl⟩,λ_=>rfl⟩ (λ_ _=>⟨_,.inl ⟨_,rfl⟩,λ_=>rfl⟩) λhf o ho=>?_;split
 ·rename_i r;exact tb (φ:=λx=>x=r) (tp rfl) λx hx=>by subst hx;exact h hf _ (ho.2 _ rfl)
 ·exact tb (φ:=λ_=>False) af λ_ hx=>hx.elim
theorem mQ {r:Loop} (h:C.N r.assign/\C.N r.body/\∀c,r.pending=some c->C.N c):iK C (.loop r):=⟨⟨rfl,rfl,λ_ _ e=>by cases e⟩,λl e=>by cases e;exact h⟩
theorem Dv:iK C (.deferred (some [])):=⟨⟨rfl,rfl,λ_ _ e=>by cases e⟩,λl e=>by cases e⟩
theorem Lh:iK C (.deferred none):=⟨⟨rfl,rfl,λ_ _ e=>by cases e⟩,λl e=>by cases e⟩
def gJ (l:List Deferred):Prop:=∀d∈l,BM d\/∃r,d.target=.collected r
theorem KD (fn:FuncId) (tmps:Array Value) (ps:Array Tmp) (a b:Code) (ar:Option Nat) (ha:C.N a) (hb:C.N b):T P fs C (Instr.enterLoop fn tmps ps a b ar) λx=>gJ x.2:=by
 have h:∀(d:Nat) (m:List Deferred),gJ m->T P fs C (do pure (<-newObj (.loop {state:=.ready,pending:=none,fn,tmps,params:=ps,assign:=a,body:=b,defers:=d}),m):Sem (Nat×List Deferred)) λx=>gJ x.2:=λd m hm=>
  tb (Ca (mQ ⟨ha,hb,λc e=>by cases e⟩)) λ_ _=>tp hm
 unfold Instr.enterLoop;dsimp only;split
 ·exact tQ _ λ_ r _=>h _ _ (λd hd=>by cases hd)
 ·exact tb (Ca Dv) λr _=>h _ _ (λd hd=>by simp only [List.mem_singleton] at hd;subst hd;exact .inr ⟨_,rfl⟩)
theorem Iq (l:Nat):T P fs C (Instr.beginRound l) λ_=>True:=by unfold Instr.beginRound;refine tQ _ λhf r hr=>?_;refine tb (fV (mQ hr) hf) λ_ _=>?_;split<;>first|exact bg|exact az _
theorem Oi (l:Nat) (j:Option Code) (hj:∀c,j=some c->C.N c):T P fs C (Instr.endRound l j) λ_=>True:=by unfold Instr.endRound;refine tQ _ λhf r hr=>?_;exact tb (fV (mQ ⟨hr.1,hr.2.1,hj⟩) hf) λ_ _=>bg
theorem Ta (l:Nat):T P fs C (Instr.endLoop l) λx=>∀c,x=some c->C.N c:=by
 unfold Instr.endLoop;refine tQ _ λhf r hr=>?_;dsimp only;split
 ·exact tb (φ:=λ_=>True) (az _) λ_ _=>tb (fV (mQ ⟨hr.1,hr.2.1,hr.2.2⟩) hf) λ_ _=>tp hr.2.2
 ·exact tb (fV (mQ ⟨hr.1,hr.2.1,hr.2.2⟩) hf) λ_ _=>tp hr.2.2
theorem KC (G:Good P fs Sp C) (hn:∀(f:FuncId) (fn:Func),fs[f]? =some fn->(fn.name== "runtime.NumGoroutine")=false) (ρ:Operand->Value) (o:Oper) (h:fF P o=true):T P fs C (execOp ρ o) (nH P fs Sp C):=by
 have v:∀{s:Sem Value},(T P fs C s λ_=>True)->T P fs C (do pure (.value (<-s)):Sem Next) (nH P fs Sp C):=λhs=>tb hs λ_ _=>tp trivial;have u:∀{s:Sem Unit},(T P fs C s λ_=>True)->T P fs C (do s;pure .skip:Sem Next) (nH P fs Sp C):=λhs=>tb hs λ_ _=>tp trivial;have hc:∀c,o.op=.call c->∀b,c.callee=.builtin b->pY P c.argTypes b=true:=λc e b hb=>by simpa only [fF,e,hb] using h
 have hd:∀c,o.op=.defer c->∀b,c.callee≠.builtin b:=λc e b hb=>by simp only [fF,e,hb] at h;cases h
 have hv:∀s d x,o.op=.convert s d x->yA P s d=true:=λs d x e=>by simpa only [fF,e] using h
 unfold execOp;cases dC:o.op<;>first
  |(simp only [fF,dC] at h;cases h;done)
  |skip
 case move=>exact tp trivial
 case assign=>exact tp trivial
 case pick=>exact tb (pg _) λ_ _=>tp trivial
 case alloc=>exact v (aBB _ _ _)
 case box=>exact v (aI7 _ _)
 case build=>exact v (aBy _ _)
 case buildSlice=>exact v (Ip _ _ _)
 case load=>exact v (Xr _ _)
 case store=>exact u (SH _ _ _)
 case nilCheck=>
  dsimp only;split
  ·exact az _
  ·exact az _
  ·exact az _
  ·split
   ·exact az _
   ·refine dQ rfl ?_;refine tb (Cr _ _ _ _) λx _=>?_;split
    ·exact tb (φ:=λ_=>True) gY λ_ _=>tp trivial
    ·exact tp trivial
   ·exact tp trivial
  ·exact tp trivial
 case binOp=>exact v (tb (S9 _ _ _ _ _ _) λ_ _=>aBz _ _ _ _)
 case unOp=>exact v (aBo _ _)
 case convert s d x=>exact v (Te _ _ _ (hv s d x dC))
 case makeInterface=>exact v (AY _ _)
 case makeFunc=>exact v (Oe _ _ _)
 case makeMap=>exact v (SS _ _)
 case makeSlice=>exact v (Kz _ _ _)
 case slice=>exact v (SI _ _ _ _ _)
 case fieldAddr=>exact v (SX _ _ _)
 case field=>exact v (aBw _ _ _)
 case indexAddr=>exact v (SV _ _ _)
 case index=>exact v (aBv _ _ _)
 case lookup=>exact v (Xq _ _ _ _)
 case mapUpdate=>exact u (Aa _ _ _ _)
 case insert=>exact u (Aa _ _ _ _)
 case range=>exact v (aBs _ _)
 case next=>exact v (aE2 _ _ _)
 case entry=>exact v (aBx _)
 case typeAssert=>exact v (Ic _ _ _ _)
 case extract=>exact v (SY _ _)
 case panic=>exact v (aBt _)
 case call c=>
  refine tb (yV ρ c _ (hc c dC)) λd hd=>Cz G hn _ hd.1 _
 case defer c=>
  refine tb (yV ρ c _ (λb hb=>absurd hb (hd c dC b))) λd hd'=>tp (hd'.2 (hd c dC))
end
end Ka
namespace Ka
section
open Go.Extern.Rtype
variable {P:Program} {fs:Array Func} {C:Cut} {α β:Type} {φ:α->Prop} {ψ:β->Prop}
theorem Ak (p:Program) (fs:Array Func) (ms:Array (String×TypeId)):(Pf p fs).mayEmbedAPacks ms=p.mayEmbedAPacks ms:=rfl
theorem rY (p:Program) (fs:Array Func):∀(n:Nat) (t:TypeId),(Pf p fs).namesPacked n t=p.namesPacked n t:=by
 intro n
 induction n with
 |zero=>intros;rfl
 |succ n ih=>intro t;simp only [Program.namesPacked,ih,uj,Ak,Gn]<;>rfl
theorem nZ (p:Program) (fs:Array Func):∀(n:Nat) (t:TypeId),(Pf p fs).methodsOfAPack n t=p.methodsOfAPack n t:=by
 intro n
 induction n with
 |zero=>intros;rfl
 |succ n ih=>intro t;simp only [Program.methodsOfAPack,ih,uj,Ak]<;>rfl
theorem vC (h:Value):T P fs C (ofHandle h) λ_=>True:=by unfold ofHandle;refine dQ rfl ?_;split<;>first|exact bg|exact af
theorem KA (t:TypeId):T P fs C (handle t) λ_=>True:=dQ rfl bg
theorem rJ (s:String) (t:TypeId):T P fs C (noPack s t) λ_=>True:=by unfold noPack;refine dQ (by simp only [uj]) ?_;split<;>first|exact gY|exact bg
theorem Ii (s:String) (t:TypeId):T P fs C (noPackHeld s t) λ_=>True:=by unfold noPackHeld;refine dQ (by simp only [j3]<;>rfl) (dQ (by simp only [j3]<;>rfl) ?_);split<;>first|exact gY|exact bg
theorem EN (s:String) (t:TypeId):T P fs C (noPackNamed s t) λ_=>True:=by unfold noPackNamed;refine dQ (by simp only [rY]<;>rfl) (dQ (by simp only [rY]<;>rfl) ?_);split<;>first|exact gY|exact bg
theorem fO (s:String) (t:TypeId):T P fs C (noPackMethods s t) λ_=>True:=by unfold noPackMethods;refine dQ (by simp only [nZ]<;>rfl) (dQ (by simp only [nZ]<;>rfl) ?_);split<;>first|exact gY|exact bg
theorem Ie (t:TypeId):T P fs C (spelt t) λ_=>True:=tb (EN _ _) λ_ _=>lX _
theorem tL (t:TypeId):T P fs C (under t) λ_=>True:=by
 unfold under;refine tb (bS _) λi _=>?_;split
 ·exact tb (bS _) λ_ _=>bg
 ·exact bg
theorem Ij (t:TypeId):T P fs C (kind t) λ_=>True:=by unfold kind;refine tb (tL _) λi _=>?_;split;split<;>first|exact bg|exact af
theorem tN (t:TypeId):T P fs C (hasName t) λ_=>True:=by unfold hasName;refine tb (bS _) λi _=>?_;split<;>exact bg
theorem QH (t:TypeId):T P fs C (elem? t) λ_=>True:=by unfold elem?;refine tb (tL _) λi _=>?_;split<;>exact bg
theorem lM (t u:TypeId):T P fs C (implements t u) λ_=>True:=by
 unfold implements;refine tb (fO _ _) λ_ _=>tb (fO _ _) λ_ _=>tb (tL _) λi _=>tb (tL _) λj _=>?_;split
 ·exact bg
 ·exact tb (bS _) λ_ _=>bg
 ·exact bg
theorem kR (t u:TypeId):T P fs C (directlyAssignable t u) λ_=>True:=by
 have h:T P fs C (do
  let (t',ti)<-under t;let (v,vi)<-under u
  match ti.desc,vi.desc with
  | .chan _ e,.chan .both e'=>pure (t'==v||e==e')
  |_,_=>pure (t'==v):Sem Bool) λ_=>True:=by
  refine tb (tL _) λi _=>tb (tL _) λj _=>?_;dsimp only;split<;>exact bg
 have h2:T P fs C (do
  if<-(do pure ((<-hasName t)&&(<-hasName u)):Sem Bool) then return false
  let (t',ti)<-under t;let (v,vi)<-under u
  match ti.desc,vi.desc with
  | .chan _ e,.chan .both e'=>pure (t'==v||e==e')
  |_,_=>pure (t'==v):Sem Bool) λ_=>True:=by
  refine tb (φ:=λ_=>True) (tb (tN _) λ_ _=>tb (tN _) λ_ _=>bg) λb _=>il (λ_=>bg) λ_=>h
 unfold directlyAssignable;refine il (λ_=>bg) λ_=>?_;refine tb (tN _) λa _=>?_;refine tb (tN _) λb _=>?_;exact il (λ_=>bg) λ_=>h
theorem FT (s:String):T P fs C (cutType s) λ_=>True:=by unfold cutType;refine dQ rfl ?_;split<;>first|exact bg|exact af
theorem kM {α:Type} {φ:α->Prop} (s:String):T P fs C (panicString s:Sem α) φ:=dQ rfl vB
end
section
open Go.Extern Go.Extern.ReflectliteType Go.Extern.ReflectliteValue Go.Extern.Rtype
variable {P:Program} {fs:Array Func} {C:Cut}
theorem Ch (t:TypeId):T P fs C (toType t) λ_=>True:=tb (FT _) λ_ _=>tb (KA _) λ_ _=>bg
theorem iY {α:Type} {φ:α->Prop} (s:String) (k:Nat):T P fs C (valueError s k:Sem α) φ:=tb (FT _) λ_ _=>tb (CO _) λ_ _=>tb (xw _ _) λ_ _=>vB
theorem aI3 (t:TypeId) (a:Addr) (n:Nat):T P fs C (mk t a n) λ_=>True:=tb (KA _) λ_ _=>tb (Ij _) λ_ _=>bg
theorem Ku (v:Value):T P fs C (unpack v) λ_=>True:=by
 unfold unpack;split
 ·exact bg
 ·exact tb (xw _ _) λ_ _=>aI3 _ _ _
 ·exact af
theorem Cq (v:Value):T P fs C (partsAny v) λ_=>True:=by
 have two:∀(x y:Value) (n:Int),T P fs C (match y with
  | .pointer (some a)=>do pure (some (<-ofHandle x,a,n.toNat))
  |_=>stuck "reflectlite: a Value expected":Sem (Option (TypeId×Addr×Nat))) λ_=>True:=λx y n=>by
  split
  ·exact tb (vC _) λ_ _=>bg
  ·exact af
 cases v with
 |agg cs=>
  obtain ⟨l⟩:=cs;cases l with
  |nil=>exact af
  |cons x l=>cases l with
   |nil=>exact af
   |cons y l=>cases l with
    |nil=>exact af
    |cons z l=>cases l with
     |cons u l=>exact af
     |nil=>cases z with
      |int k n=>cases k with
       |u64=>cases n with
        |ofNat m=>cases m with
         |zero=>exact (bg:T P fs C (pure none:Sem (Option (TypeId×Addr×Nat))) λ_=>True)
         |succ m=>
          cases y with
          |pointer p=>cases p with
           |some a=>exact two x (.pointer (some a)) (Int.ofNat (m+1))
           |none=>exact af
          |_=>exact af
        |negSucc m=>
         cases y with
         |pointer p=>cases p with
          |some a=>exact two x (.pointer (some a)) (Int.negSucc m)
          |none=>exact af
         |_=>exact af
       |_=>exact af
      |_=>exact af
 |_=>exact af
theorem Ih (v:Value):T P fs C (parts v) λ_=>True:=by
 unfold parts;refine tb (Cq _) λx _=>?_;split
 ·exact tb (rJ _ _) λ_ _=>bg
 ·exact bg
theorem CU {α:Type} {φ:α->Prop} {f:Array Value->Sem α} (h1:∀x,T P fs C (f #[x]) φ) (h0:T P fs C (f #[]) φ) (h2:∀x y l,T P fs C (f ⟨x::y::l⟩) φ) (a:Array Value):T P fs C (f a) φ:=by
 obtain ⟨l⟩:=a;cases l with
 |nil=>exact h0
 |cons x l=>cases l with
  |nil=>exact h1 x
  |cons y l=>exact h2 x y l
theorem CS {α:Type} {φ:α->Prop} {f:Array Value->Sem α} (hh:∀x y,T P fs C (f #[x,y]) φ) (h0:T P fs C (f #[]) φ) (h1:∀x,T P fs C (f #[x]) φ) (h3:∀x y z l,T P fs C (f ⟨x::y::z::l⟩) φ) (a:Array Value):T P fs C (f a) φ:=by
 obtain ⟨l⟩:=a;cases l with
 |nil=>exact h0
 |cons x l=>cases l with
  |nil=>exact h1 x
  |cons y l=>cases l with
   |nil=>exact hh x y
   |cons z l=>exact h3 x y z l
theorem Cj (z:Sem Value) (f:TypeId->Addr->Nat->Nat->Sem Value) (hz:T P fs C z λ_=>True) (hf:∀a b c d,T P fs C (f a b c d) λ_=>True) (args:Array Value):T P fs C (ReflectliteValue.method z f args) λ_=>True:=by
 refine CU (f:=ReflectliteValue.method z f) (λv=>?_) af (λx y l=>af) args;refine tb (x:=ReflectliteValue.parts v) (Ih v) λx _=>?_;split
 ·exact hz
 ·exact hf _ _ _ _
theorem EL (z:Sem Value) (f:TypeId->Addr->Nat->Nat->Sem Value) (hz:T P fs C z λ_=>True) (hf:∀a b c d,T P fs C (f a b c d) λ_=>True) (args:Array Value):T P fs C (ReflectliteValue.methodAny z f args) λ_=>True:=by
 refine CU (f:=ReflectliteValue.methodAny z f) (λv=>?_) af (λx y l=>af) args;refine tb (x:=ReflectliteValue.partsAny v) (Cq v) λx _=>?_;split
 ·exact hz
 ·exact hf _ _ _ _
theorem SK (t:TypeId) (a:Addr) (x k:Nat):T P fs C (ReflectliteValue.isNil t a x k) λ_=>True:=by
 unfold ReflectliteValue.isNil
 extract_lets jp
 have h:T P fs C (jp ()) λ_=>True:=by simp -zeta only [jp];refine tb (iZ _ _) λv _=>?_;split<;>exact bg
 clear_value jp;exact il (λ_=>tb (φ:=λ_=>True) (iY _ _) λ_ _=>h) λ_=>h
theorem Xk (t:TypeId) (a:Addr) (x k:Nat):T P fs C (ReflectliteValue.elem t a x k) λ_=>True:=by
 unfold ReflectliteValue.elem
 extract_lets jp
 have h:T P fs C (jp ()) λ_=>True:=by
  simp -zeta only [jp];refine tb (iZ _ _) λv _=>tb (QH _) λe _=>?_;split
  ·exact Ku _
  ·exact bg
  ·exact aI3 _ _ _
  ·exact iY _ _
 clear_value jp;exact il (λ_=>tb (φ:=λ_=>True) (iY _ _) λ_ _=>h) λ_=>h
theorem aBr (args:Array Value):T P fs C (ReflectliteValue.set args) λ_=>True:=by
 refine CS (f:=ReflectliteValue.set) (λv x=>?_) af (λx=>af) (λx y z l=>af) args;refine tb (x:=ReflectliteValue.parts v) (Ih v) λp _=>tb (Ih x) λq _=>?_;split
 ·rename_i dst a fl src b _ _
  extract_lets jp0 jp
  have h0:T P fs C (jp0 ()) λ_=>True:=by simp -zeta only [jp0];exact bg
  clear_value jp0;have h:T P fs C (jp ()) λ_=>True:=by
   simp -zeta only [jp];refine tb (iZ _ _) λval _=>tb (kR _ _) λd _=>il (λ_=>tb (mi _ _ _) λ_ _=>h0) λ_=>tb (lM _ _) λi _=>il (λ_=>tb (Ij _) λk _=>il (λ_=>?_) λ_=>tb (mi _ _ _) λ_ _=>h0) λ_=>tb (Ie _) λ_ _=>tb (Ie _) λ_ _=>tb (φ:=λ_=>True) (kM _) λ_ _=>h0;split
   ·exact tb (φ:=λ_=>True) gY λ_ _=>h0
   ·exact tb (mi _ _ _) λ_ _=>h0
  clear_value jp;exact il (λ_=>tb (φ:=λ_=>True) gY λ_ _=>h) λ_=>h
 ·exact gY
theorem yX (v:Value):T P fs C (ofRtype v) λ_=>True:=by
 cases v with
 |agg cs=>
  obtain ⟨l⟩:=cs;cases l with
  |nil=>exact af
  |cons x l=>cases l with
   |nil=>exact tb (x:=ofHandle x) (vC x) λ_ _=>tb (rJ _ _) λ_ _=>bg
   |cons y l=>exact af
 |_=>exact af
theorem Ck (f:TypeId->Sem Value) (hf:∀a,T P fs C (f a) λ_=>True) (args:Array Value):T P fs C (ReflectliteType.method f args) λ_=>True:=by refine CU (f:=ReflectliteType.method f) (λv=>?_) af (λx y l=>af) args;exact tb (x:=ofRtype v) (yX v) λ_ _=>hf _
theorem Xl (t:TypeId):T P fs C (ReflectliteType.elem t) λ_=>True:=by
 unfold ReflectliteType.elem;refine tb (QH _) λe _=>?_;split
 ·exact Ch _
 ·exact tb (Ie _) λ_ _=>kM _
theorem Xi (args:Array Value):T P fs C (typeOf args) λ_=>True:=by refine CU (f:=typeOf) (λv=>?_) af (λx y l=>af) args;cases v<;>first|exact (bg:T P fs C (pure Value.nilIface) λ_=>True)|exact Ch _|exact af
theorem Cm (s:String) (f:TypeId->TypeId->Sem Bool) (hf:∀a b,T P fs C (f a b) λ_=>True) (args:Array Value):T P fs C (relation s f args) λ_=>True:=by
 refine CS (f:=relation s f) (λr u=>?_) af (λx=>af) (λx y z l=>af) args;cases u with
 |nilIface=>exact kM _
 |iface t u=>exact tb (x:=ofRtype u) (yX u) λ_ _=>tb (yX r) λ_ _=>tb (hf _ _) λ_ _=>bg
 |_=>exact af
theorem EP (u t:TypeId):T P fs C (implements_ u t) λ_=>True:=by unfold implements_;refine tb (Ij _) λk _=>?_;exact il (λ_=>tb (φ:=λ_=>True) (kM _) λ_ _=>tb (fO _ _) λ_ _=>tb (rJ _ _) λ_ _=>lM _ _) λ_=>tb (fO _ _) λ_ _=>tb (rJ _ _) λ_ _=>lM _ _
theorem CQ (u t:TypeId):T P fs C (assignableTo u t) λ_=>True:=by unfold assignableTo;have h:T P fs C (do pure ((<-directlyAssignable u t)||(<-implements u t)):Sem Bool) λ_=>True:=tb (kR _ _) λ_ _=>tb (lM _ _) λ_ _=>bg;exact il (λ_=>tb (fO _ _) λ_ _=>tb (fO _ _) λ_ _=>h) λ_=>h
theorem KH (f:TypeId->Sem Value) (hf:∀a,T P fs C (f a) λ_=>True) (args:Array Value):T P fs C (abiMethod f args) λ_=>True:=by refine CU (f:=abiMethod f) (λv=>?_) af (λx y l=>af) args;exact tb (x:=ofHandle v) (vC v) λ_ _=>tb (rJ _ _) λ_ _=>hf _
theorem CL:∀(n:Nat) (a:Addr) (acc:ByteArray),T P fs C (Extern.Bytes.loadBytes a n acc) λ_=>True
 |0,_,_=>bg
 |n+1,a,acc=>by
  unfold Extern.Bytes.loadBytes;refine tb FP λv _=>?_;split
  ·exact CL n _ _
  ·exact af
theorem tY (v:Value):T P fs C (Extern.Bytes.bytesOf v) λ_=>True:=by unfold Extern.Bytes.bytesOf;split<;>first|exact bg|exact CL _ _ _|exact af
theorem KF (v:Value):T P fs C (Extern.Bytes.asByte v) λ_=>True:=by unfold Extern.Bytes.asByte;split<;>first|exact bg|exact af
theorem Xx (args:Array Value):T P fs C (Extern.BytealgCount.count args) λ_=>True:=by refine CS (f:=Extern.BytealgCount.count) (λr u=>?_) af (λx=>af) (λx y z l=>af) args;exact tb (x:=Extern.Bytes.bytesOf r) (tY r) λ_ _=>tb (KF u) λ_ _=>bg
theorem Ir (args:Array Value):T P fs C (Extern.BytealgIndexByte.indexByte args) λ_=>True:=by refine CS (f:=Extern.BytealgIndexByte.indexByte) (λr u=>?_) af (λx=>af) (λx y z l=>af) args;refine tb (x:=Extern.Bytes.bytesOf r) (tY r) λ_ _=>tb (KF u) λ_ _=>?_;split<;>exact bg
theorem Il (s:String):T P fs C (globalAddr s) λ_=>True:=by unfold globalAddr;refine dQ rfl ?_;split<;>first|exact bg|exact af
theorem Xo:T P fs C Extern.BytealgIndex.maxLen λ_=>True:=tb (Il _) λ_ _=>tb FP λ_ _=>xA _
theorem Xw (args:Array Value):T P fs C (Extern.BytealgIndex.index args) λ_=>True:=by
 refine CS (f:=Extern.BytealgIndex.index) (λr u=>?_) af (λx=>af) (λx y z l=>af) args;refine tb (x:=Extern.Bytes.bytesOf r) (tY r) λa _=>tb (tY u) λb _=>?_;have fin:T P fs C (match (List.range (a.size+1 - b.size)).find? λi=>a.extract i (i+b.size)==b with
  |some i=>pure (goInt i)
  |none=>pure (goInt (-1)):Sem Value) λ_=>True:=by split<;>exact bg
 refine tb Xo λm _=>?_;exact il (λ_=>tb (φ:=λ_=>True) gY λ_ _=>il (λ_=>tb (φ:=λ_=>True) gY λ_ _=>fin) λ_=>fin) λ_=>il (λ_=>tb (φ:=λ_=>True) gY λ_ _=>fin) λ_=>fin
end
end Ka
end
end Go.Proofs.YtmanpggemmgnnaaGreatDoor
