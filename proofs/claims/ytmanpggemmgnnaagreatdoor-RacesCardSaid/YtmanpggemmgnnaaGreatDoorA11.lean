/- Races: a part. Conditions: none. -/
import Derived.Test.YtmanpggemmgnnaaGreatDoorA05
import Derived.Test.YtmanpggemmgnnaaGreatDoorProg
set_option linter.all false
set_option maxHeartbeats 8000000
set_option maxRecDepth 1000000
namespace Go.Proofs.YtmanpggemmgnnaaGreatDoor
noncomputable section
open Go Go.Conc
theorem k11 {p:Prop} (h:p:=by kernel_rfl):p:=h
namespace Ka
def keep (i:Nat):Bool:=[3,4,5,13,14,15,16,17,19,22,24,25,27,28,29,30,31,32,33,34,36,37,44,47,48,49,50,51,52,53,70,71,72,73,74,75,85,86,87,88,89,90,91,92,93,113,114,115,116,117,118,119,120,121,122,123,124,125,126,127,128,132,133,134,135,136,144,146,155,156,157,158,159,160,161,162,163,164,165,166,167,168,169,170,171,172,173,174,175,176,177,178,181,185,186,187,188,189,190,191,192,193,194,195,196,197,198,199,200,207,215,216,217,218,219,220,221,222,223,224,225,226,227,228,229,230,231,232,233,234,235,236,237,238,241,244,247,248,249,250,251,252,253,254,255,256,257,258,259,260,263,264,265,266,267,268,269,270,271,272,273,274,275,276,291,299,300,301,302,310,311,312,313,314,315,316,317].contains i
def sj:Code:=.seq (.region 0 #[
 {dst:=some 1,op:=.load 21 (.tmp 0),type:=21,pos:= "",after:=#[],guard:=none},
 {dst:=some 2,op:=.binOp .lss 21 (.tmp 1) (.const (.int .i32 1)) 21,type:=4,pos:= "",after:=#[],guard:=none},
 {dst:=some 3,op:=.binOp .gtr 21 (.tmp 1) (.const (.int .i32 (-1))) 21,type:=4,pos:= "",after:=#[],guard:=none}] false)
 (.cond (.tmp 2) (.cond (.tmp 3) (.region 1 #[{dst:=none,op:=.store 21 (.tmp 0) (.const (.int .i32 1)),type:=0,pos:= "",after:=#[],guard:=none}] false) (.refuse "")) (.refuse ""))
def mf:Code:=.seq (.region 0 #[
 {dst:=some 1,op:=.load 21 (.tmp 0),type:=21,pos:= "",after:=#[],guard:=none},
 {dst:=some 2,op:=.binOp .lss 21 (.tmp 1) (.const (.int .i32 2)) 21,type:=4,pos:= "",after:=#[],guard:=none},
 {dst:=some 3,op:=.binOp .gtr 21 (.tmp 1) (.const (.int .i32 0)) 21,type:=4,pos:= "",after:=#[],guard:=none}] false)
 (.cond (.tmp 2) (.cond (.tmp 3) (.region 1 #[{dst:=none,op:=.store 21 (.tmp 0) (.const (.int .i32 0)),type:=0,pos:= "",after:=#[],guard:=none}] false) (.refuse "")) (.refuse ""))
def qm:Func:={name:= "",origin:= "",params:=#[114],resultTypes:=#[],nfree:=0,ntmps:=4,results:=#[],body:=some sj,norace:=false,tmpNames:=#[]}
def jM:Func:={name:= "",origin:= "",params:=#[114],resultTypes:=#[],nfree:=0,ntmps:=4,results:=#[],body:=some mf,norace:=false,tmpNames:=#[]}
def qi (i:Nat) (f:Func):Func:=if keep i then f else if i=38 then qm else if i=39 then jM else blank
def uE:Array Func:=Tryz.prog.funcs.mapIdx qi
def Spq (f:FuncId):Prop:=f=38\/f=39
theorem lN (f:Nat):uE[f]? =(Tryz.prog.funcs[f]?).map (qi f):=Array.getElem?_mapIdx
def wu (i:Nat) (fn:Func):Bool:=!(fn.name== "runtime.NumGoroutine")&&(!keep i||match fn.body with
 |some c=>bH Tryz.prog c
 |none=>[116,117,118,121,161,162,256,264,273,291,299,300,301,302].contains i)
def RS:Bool:=(List.range Tryz.prog.funcs.size).all λi=>match Tryz.prog.funcs[i]? with
 |some fn=>wu i fn
 |none=>true
theorem Qh:RS=true:=k11
theorem pU {i:Nat} {fn:Func} (h:Tryz.prog.funcs[i]? =some fn):wu i fn=true:=by have h1:=Qh;unfold RS at h1;rw [List.all_eq_true] at h1;have:=h1 i (List.mem_range.2 (Array.getElem?_eq_some_iff.1 h).1);rw [h] at this;exact this
end Ka
namespace Ka
section
variable {C:Cut}
theorem aHf (args:Array Value):jG Tryz.f116 args=(do let v<-Extern.ReflectliteValue.unpack (args.getD 0 (.tuple #[]));pure (.value v)):=k11
theorem aHe (args:Array Value):jG Tryz.f117 args=(do let v<-Extern.ReflectliteValue.methodAny (Extern.ReflectliteValue.valueError "reflectlite.Value.Type" 0) (λt _ _ _=>Extern.ReflectliteType.toType t) args;pure (.value v)):=k11
theorem aHd (args:Array Value):jG Tryz.f118 args=(do let v<-Extern.ReflectliteValue.method (Extern.ReflectliteValue.valueError "reflectlite.Value.IsNil" 0) Extern.ReflectliteValue.isNil args;pure (.value v)):=k11
theorem aHc (args:Array Value):jG Tryz.f121 args=(do let v<-Extern.ReflectliteType.typeOf args;pure (.value v)):=k11
theorem aHb (args:Array Value):jG Tryz.f161 args=(do let v<-Extern.ReflectliteValue.method (Extern.ReflectliteValue.valueError "reflectlite.Value.Elem" 0) Extern.ReflectliteValue.elem args;pure (.value v)):=k11
theorem aHa (args:Array Value):jG Tryz.f162 args=(do let v<-Extern.ReflectliteValue.set args;pure (.value v)):=k11
theorem aG9 (args:Array Value):jG Tryz.f256 args=(do let v<-Extern.BytealgCount.count args;pure (.value v)):=k11
theorem aG8 (args:Array Value):jG Tryz.f264 args=(do let v<-Extern.BytealgIndex.index args;pure (.value v)):=k11
theorem aG7 (args:Array Value):jG Tryz.f273 args=(do let v<-Extern.BytealgIndexByte.indexByte args;pure (.value v)):=k11
theorem aG6 (args:Array Value):jG Tryz.f291 args=(do let v<-Extern.ReflectliteType.abiMethod (λt=>do pure (.int .u8 (<-Extern.Rtype.kind t))) args;pure (.value v)):=k11
theorem aG5 (args:Array Value):jG Tryz.f299 args=(do let v<-Extern.ReflectliteType.relation "AssignableTo" Extern.ReflectliteType.assignableTo args;pure (.value v)):=k11
theorem aG4 (args:Array Value):jG Tryz.f300 args=(do let v<-Extern.ReflectliteType.method (λt=>do Extern.Rtype.noPackHeld "Comparable" t;pure (.bool (<-typeInfo t).comparable)) args;pure (.value v)):=k11
theorem aG3 (args:Array Value):jG Tryz.f301 args=(do let v<-Extern.ReflectliteType.method Extern.ReflectliteType.elem args;pure (.value v)):=k11
theorem aG2 (args:Array Value):jG Tryz.f302 args=(do let v<-Extern.ReflectliteType.relation "Implements" Extern.ReflectliteType.implements_ args;pure (.value v)):=k11
def Lg (P:Program):Nat->TypeId->Bool
 |0,_=>true
 |d+1,e=>match P.underlying e with
  |some (.int .u8)=>false
  |some (.struct fs)=>fs.all λf=>Lg P d f.type
  |some (.array _ e')=>Lg P d e'
  |_=>true
theorem UL {P:Program} (hid:∀t u,P.underlyingId t=P.underlyingId u->P.underlying u=some (.int .u8)->P.underlying t=some (.int .u8)):∀(d:Nat) (t u:TypeId),P.underlying u=some (.int .u8)->sameLayout P d t u=true->P.underlying t=some (.int .u8)
 |0,_,_,_,h=>by cases h
 |d+1,t,u,hu,h=>by
  unfold sameLayout at h;rw [hu] at h;simp only [Bool.or_eq_true,beq_iff_eq] at h;rcases h with h|h
  ·exact hid t u h hu
  ·cases ht:P.underlying t with
   |none=>rw [ht] at h;cases h
   |some x=>
    rw [ht] at h;cases x<;>first
     |(simp only [beq_iff_eq] at h;subst h;rfl)
     |cases h
theorem Da {P:Program} {fits:TypeId->Bool} (hf:∀t,fits t=true->P.underlying t=some (.int .u8)):∀(d:Nat) (e c o n:Nat),Lg P d e=true->rowAt P fits d e c o n=false
 |0,_,_,_,_,_=>rfl
 |d+1,e,c,o,n,h=>by
  have hfe:fits e=false:=by
   cases hh:fits e with
   |false=>rfl
   |true=>unfold Lg at h;rw [hf e hh] at h;cases h
  unfold rowAt;dsimp only;split
  ·rfl
  ·rw [hfe];simp only [Bool.and_false,Bool.false_or];unfold Lg at h;split
   ·rename_i fs hfs;rw [hfs] at h;simp only at h;rw [Array.all_eq_true'] at h;have:(fs.any λf=>decide (f.offset<=o%P.cellsOf e)&&decide (o%P.cellsOf e<f.offset+P.cellsOf f.type)&&rowAt P fits d f.type 1 (o%P.cellsOf e - f.offset) n)=false:=by
     rw [Array.any_eq_false'];intro f hfm;rw [Da hf d f.type _ _ _ (h f hfm)];simp
    rw [this];simp
   ·rename_i m e' hfs;rw [hfs] at h;rw [Da hf d e' _ _ _ h];simp
   ·simp
theorem GD {P:Program} (hid:∀t u,P.underlyingId t=P.underlyingId u->P.underlying u=some (.int .u8)->P.underlying t=some (.int .u8)) {u:TypeId} (hu:P.underlying u=some (.int .u8)) {e:TypeId} (he:Lg P P.depth e=true):∀(d c o n:Nat),liesAt P d e c o u n=false
 |0,_,_,_=>rfl
 |d+1,c,o,n=>by
  unfold liesAt;rw [Da (λt h=>UL hid _ t u hu h) _ _ _ _ _ he,hu];rfl
end
end Ka
namespace Ka
section
variable {C:Cut}
theorem Tv (P:Program) (fs:Array Func) (g:Nat):(Pf P fs).stepOf g=fs.findIdx? λf=>(f.body.map readies).any (·.contains g):=rfl
theorem uP (P:Program) (t:TypeId):P.underlying t=(P.info? (P.underlyingId t)).map (·.desc):=by
 unfold Program.underlying Program.underlyingId;cases h:P.info? t with
 |none=>simp only [h];rfl
 |some i=>obtain ⟨desc⟩:=i;cases desc<;>simp only [h]<;>rfl
theorem Zt (P:Program):∀t u,P.underlyingId t=P.underlyingId u->P.underlying u=some (.int .u8)->P.underlying t=some (.int .u8):=λt u h hu=>by
 rw [uP,h,<-uP,hu]
theorem aCb:Lg Tryz.prog Tryz.prog.depth 79=true:=k11
theorem aCa:Lg Tryz.prog Tryz.prog.depth 99=true:=k11
theorem UF:bH Tryz.prog sj=true:=k11
theorem Ki:bH Tryz.prog mf=true:=k11
theorem aAz:Tryz.prog.follows .staticDataAhead=true:=k11
theorem aAa:Tryz.f38.body.isSome=true:=k11
theorem Z9:Tryz.f39.body.isSome=true:=k11
theorem F3 {f:Func} (h:f.body.isSome=true):∃c,f.body=some c:=Option.isSome_iff_exists.1 h
theorem zk {f:Nat} {fn:Func} (h:uE[f]? =some fn):(keep f=true/\Tryz.prog.funcs[f]? =some fn)\/(f=38/\fn=qm)\/(f=39/\fn=jM)\/fn=blank:=by
 rw [lN] at h;obtain ⟨g,hg,rfl⟩:=Option.map_eq_some_iff.1 h;unfold qi;split
 ·exact .inl ⟨‹_›,hg⟩
 ·split
  ·exact .inr (.inl ⟨‹_›,rfl⟩)
  ·split
   ·exact .inr (.inr (.inl ⟨‹_›,rfl⟩))
   ·exact .inr (.inr (.inr rfl))
theorem K6 {f:Nat} {fn:Func} {c:Code} (h:uE[f]? =some fn) (hb:fn.body=some c):bH Tryz.prog c=true:=by
 rcases zk h with ⟨hk,hf⟩|⟨rfl,rfl⟩|⟨rfl,rfl⟩|rfl
 ·have:=pU hf;unfold wu at this;rw [hk,hb] at this;simp only [Bool.and_eq_true,Bool.not_true,Bool.false_or] at this;exact this.2
 ·cases hb;exact UF
 ·cases hb;exact Ki
 ·cases hb
theorem aG1 (f:Nat) (fn:Func) (h:uE[f]? =some fn) (hb:fn.body=none) (bA:fn≠blank) (args:Array Value):T Tryz.prog uE C (jG fn args) (nH Tryz.prog uE Spq C):=by
 rcases zk h with ⟨hk,hf⟩|⟨rfl,rfl⟩|⟨rfl,rfl⟩|rfl
 ·have:=pU hf;unfold wu at this;rw [hk,hb] at this;simp only [Bool.and_eq_true,Bool.not_true,Bool.false_or,List.contains_eq_mem,List.mem_cons,List.not_mem_nil,or_false,decide_eq_true_eq] at this;have hm:=this.2;rcases hm with rfl|rfl|rfl|rfl|rfl|rfl|rfl|rfl|rfl|rfl|rfl|rfl|rfl|rfl
  ·rw [Tryz.func116] at hf;cases hf;rw [aHf];exact tb (Ku _) λ_ _=>tp trivial
  ·rw [Tryz.func117] at hf;cases hf;rw [aHe];exact tb (EL _ _ (iY _ _) (λ_ _ _ _=>Ch _) _) λ_ _=>tp trivial
  ·rw [Tryz.func118] at hf;cases hf;rw [aHd];exact tb (Cj _ _ (iY _ _) (λ_ _ _ _=>SK _ _ _ _) _) λ_ _=>tp trivial
  ·rw [Tryz.func121] at hf;cases hf;rw [aHc];exact tb (Xi _) λ_ _=>tp trivial
  ·rw [Tryz.func161] at hf;cases hf;rw [aHb];exact tb (Cj _ _ (iY _ _) (λ_ _ _ _=>Xk _ _ _ _) _) λ_ _=>tp trivial
  ·rw [Tryz.func162] at hf;cases hf;rw [aHa];exact tb (aBr _) λ_ _=>tp trivial
  ·rw [Tryz.func256] at hf;cases hf;rw [aG9];exact tb (Xx _) λ_ _=>tp trivial
  ·rw [Tryz.func264] at hf;cases hf;rw [aG8];exact tb (Xw _) λ_ _=>tp trivial
  ·rw [Tryz.func273] at hf;cases hf;rw [aG7];exact tb (Ir _) λ_ _=>tp trivial
  ·rw [Tryz.func291] at hf;cases hf;rw [aG6];exact tb (KH _ (λ_=>tb (Ij _) λ_ _=>bg) _) λ_ _=>tp trivial
  ·rw [Tryz.func299] at hf;cases hf;rw [aG5];exact tb (Cm _ _ CQ _) λ_ _=>tp trivial
  ·rw [Tryz.func300] at hf;cases hf;rw [aG4];exact tb (Ck _ (λ_=>tb (Ii _ _) λ_ _=>tb (bS _) λ_ _=>bg) _) λ_ _=>tp trivial
  ·rw [Tryz.func301] at hf;cases hf;rw [aG3];exact tb (Ck _ Xl _) λ_ _=>tp trivial
  ·rw [Tryz.func302] at hf;cases hf;rw [aG2];exact tb (Cm _ _ EP _) λ_ _=>tp trivial
 ·cases hb
 ·cases hb
 ·exact absurd rfl bA
theorem aCX (hty:∀t,C.ty t->t=79\/t=99):Good Tryz.prog uE Spq C where
 same f:=by
  cases h:Tryz.prog.funcs[f]? with
  |none=>exact .inl (by rw [lN,h];rfl)
  |some fn=>
   have hq:uE[f]? =some (qi f fn):=by rw [lN,h];rfl
   rw [hq];unfold qi;split
   ·exact .inl rfl
   ·split
    ·rename_i hf;subst hf;have MC:(fn.name== "runtime.NumGoroutine")=false:=by
      have:=pU h;unfold wu at this;simp only [Bool.and_eq_true,Bool.not_eq_true'] at this;exact this.1
     rw [Tryz.func38] at h;cases h;obtain ⟨c,hc⟩:=F3 aAa;exact .inr (.inr ⟨.inl rfl,qm,sj,Tryz.f38,c,rfl,rfl,rfl,hc,MC⟩)
    ·split
     ·rename_i hf;subst hf;have MC:(fn.name== "runtime.NumGoroutine")=false:=by
       have:=pU h;unfold wu at this;simp only [Bool.and_eq_true,Bool.not_eq_true'] at this;exact this.1
      rw [Tryz.func39] at h;cases h;obtain ⟨c,hc⟩:=F3 Z9;exact .inr (.inr ⟨.inr rfl,jM,mf,Tryz.f39,c,rfl,rfl,rfl,hc,MC⟩)
     ·exact .inr (.inl ⟨rfl,fn,rfl⟩)
 bytes u hu t ht d c o n:=by
  rcases hty t ht with rfl|rfl
  ·exact GD (Zt _) hu aCb d c o n
  ·exact GD (Zt _) hu aCa d c o n
 ext:=aG1
theorem Ru (hty:∀t,C.ty t->t=79\/t=99) (hN:C.N=eU Tryz.prog):Fits Tryz.prog uE Spq C where
 toGood:=aCX hty
 Yx f fn h:=by
  rcases zk h with ⟨hk,hf⟩|⟨rfl,rfl⟩|⟨rfl,rfl⟩|rfl
  ·have:=pU hf;unfold wu at this;simp only [Bool.and_eq_true,Bool.not_eq_true'] at this;exact this.1
  ·rfl
  ·rfl
  ·rfl
 code f fn c h hb:=K6 h hb
 loops:=hN
 ahead:=aAz
 steps g:=by
  rw [Tv,Array.findIdx?_eq_none_iff];intro fn Bh;obtain ⟨i,hi⟩:=Array.mem_iff_getElem?.1 Bh;cases hb:fn.body with
  |none=>rfl
  |some c=>have e:=dX c (K6 hi hb);show (Option.any (λl=>l.contains g) (Option.map readies (some c)))=false;rw [Option.map_some,e];rfl
end
end Ka
end
end Go.Proofs.YtmanpggemmgnnaaGreatDoor
