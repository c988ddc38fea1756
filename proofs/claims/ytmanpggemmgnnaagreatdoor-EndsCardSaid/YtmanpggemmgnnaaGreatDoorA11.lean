/- Ends: a part. Conditions: none. -/
import Derived.Test.YtmanpggemmgnnaaGreatDoorA05
import Derived.Test.YtmanpggemmgnnaaGreatDoorProg
set_option linter.all false
set_option maxHeartbeats 8000000
set_option maxRecDepth 1000000
namespace Go.Proofs.YtmanpggemmgnnaaGreatDoor
noncomputable section
open Go Go.Conc Tryz
def Bd{p:Prop}(h:p:=by kernel_rfl):p:=h
namespace Ka
def keep(i:Nat):Bool:=[3,4,5,13,14,15,16,17,19,22,24,25,27,28,29,30,31,32,33,34,36,37,44,47,48,49,50,51,52,53,70,71,72,73,74,75,85,86,87,88,89,90,91,92,93,113,114,115,116,117,118,119,120,121,122,123,124,125,126,127,128,132,133,134,135,136,144,146,155,156,157,158,159,160,161,162,163,164,165,166,167,168,169,170,171,172,173,174,175,176,177,178,181,185,186,187,188,189,190,191,192,193,194,195,196,197,198,199,200,207,215,216,217,218,219,220,221,222,223,224,225,226,227,228,229,230,231,232,233,234,235,236,237,238,241,244,247,248,249,250,251,252,253,254,255,256,257,258,259,260,263,264,265,266,267,268,269,270,271,272,273,274,275,276,291,299,300,301,302,310,311,312,313,314,315,316,317].contains i
def sj:Code:=.seq (.region 0 #[
 {dst:=some 1,op:=.load 21 (.tmp 0),type:=21,pos:= "",after:=#[],guard:=none},
 {dst:=some 2,op:=.binOp .lss 21 (.tmp 1) (.const (.int .i32 1)) 21,type:=4,pos:= "",after:=#[],guard:=none},
 {dst:=some 3,op:=.binOp .gtr 21 (.tmp 1) (.const (.int .i32 (-1))) 21,type:=4,pos:= "",after:=#[],guard:=none}] false)
 (.cond (.tmp 2) (.cond (.tmp 3) (.region 1 #[{dst:=none,op:=.store 21 (.tmp 0) (.const (.int .i32 1)),type:=0,pos:= "",after:=#[],guard:=none}] false) (.refuse "")) (.refuse ""))
def mf:Code:=.seq (.region 0 #[
 {dst:=some 1,op:=.load 21 (.tmp 0),type:=21,pos:= "",after:=#[],guard:=none},
 {dst:=some 2,op:=.binOp .lss 21 (.tmp 1) (.const (.int .i32 2)) 21,type:=4,pos:= "",after:=#[],guard:=none},
 {dst:=some 3,op:=.binOp .gtr 21 (.tmp 1) (.const (.int .i32 0)) 21,type:=4,pos:= "",after:=#[],guard:=none}] false)
 (.cond (.tmp 2) (.cond (.tmp 3) (.region 1 #[{dst:=none,op:=.store 21 (.tmp 0) (.const (.int .i32 0)),type:=0,pos:= "",after:=#[],guard:=none}] false) (.refuse "")) (.refuse ""))
def qm:Func:={name:= "",origin:= "",params:=#[114],resultTypes:=#[],nfree:=0,ntmps:=4,results:=#[],body:=some sj,norace:=false,tmpNames:=#[]}
def jM:Func:={name:= "",origin:= "",params:=#[114],resultTypes:=#[],nfree:=0,ntmps:=4,results:=#[],body:=some mf,norace:=false,tmpNames:=#[]}
def qi(i:Nat)(f:Func):Func:=if keep i then f else if i=38 then qm else if i=39 then jM else blank
noncomputable def uE:Array Func:=prog.funcs.mapIdx qi
def Spq(f:FuncId):Prop:=f=38\/f=39
def lN f:uE[f]? =(prog.funcs[f]?).map (qi f):=nj
noncomputable def wu(i:Nat)(fn:Func):Bool:=!(fn.name== "runtime.NumGoroutine")&&(!keep i||match fn.body with
 |some c=>bH prog c
 |none=>[116,117,118,121,161,162,256,264,273,291,299,300,301,302].contains i)
noncomputable def RS:Bool:=(List.range prog.funcs.size).all λi=>match prog.funcs[i]? with
 |some fn=>wu i fn
 |none=>true
def Qh:RS=true:=Bd
def pU{i fn}(h:prog.funcs[i]? =some fn):wu i fn=true:=by have V:=Qh;unfold RS at V;rw[ep]at V;have:=V i (jI.2 (a6.1 h).1);rw[h]at this;exact this
section
variable {C:Cut}
def aHf args:jG f116 args=(do let v<-Extern.ReflectliteValue.unpack (args.getD 0 (.tuple #[]));pure (.value v)):=Bd
def aHe args:jG f117 args=(do let v<-Extern.ReflectliteValue.methodAny (Extern.ReflectliteValue.valueError "reflectlite.Value.Type" 0) (λt _ _ _=>Extern.ReflectliteType.toType t) args;pure (.value v)):=Bd
def aHd args:jG f118 args=(do let v<-Extern.ReflectliteValue.method (Extern.ReflectliteValue.valueError "reflectlite.Value.IsNil" 0) Extern.ReflectliteValue.isNil args;pure (.value v)):=Bd
def aHc args:jG f121 args=(do let v<-Extern.ReflectliteType.typeOf args;pure (.value v)):=Bd
def aHb args:jG f161 args=(do let v<-Extern.ReflectliteValue.method (Extern.ReflectliteValue.valueError "reflectlite.Value.Elem" 0) Extern.ReflectliteValue.elem args;pure (.value v)):=Bd
def aHa args:jG f162 args=(do let v<-Extern.ReflectliteValue.set args;pure (.value v)):=Bd
def aG9 args:jG f256 args=(do let v<-Extern.BytealgCount.count args;pure (.value v)):=Bd
def aG8 args:jG f264 args=(do let v<-Extern.BytealgIndex.index args;pure (.value v)):=Bd
def aG7 args:jG f273 args=(do let v<-Extern.BytealgIndexByte.indexByte args;pure (.value v)):=Bd
def aG6 args:jG f291 args=(do let v<-Extern.ReflectliteType.abiMethod (λt=>do pure (.int .u8 (<-Extern.Rtype.kind t))) args;pure (.value v)):=Bd
def aG5 args:jG f299 args=(do let v<-Extern.ReflectliteType.relation "AssignableTo" Extern.ReflectliteType.assignableTo args;pure (.value v)):=Bd
def aG4 args:jG f300 args=(do let v<-Extern.ReflectliteType.method (λt=>do Extern.Rtype.noPackHeld "Comparable" t;pure (.bool (<-typeInfo t).comparable)) args;pure (.value v)):=Bd
def aG3 args:jG f301 args=(do let v<-Extern.ReflectliteType.method Extern.ReflectliteType.elem args;pure (.value v)):=Bd
def aG2 args:jG f302 args=(do let v<-Extern.ReflectliteType.relation "Implements" Extern.ReflectliteType.implements_ args;pure (.value v)):=Bd
def Lg(P:Program):Nat->TypeId->Bool
 |0,_=>true
 |d+1,e=>match P.underlying e with
  |some (.int .u8)=>false
  |some (.struct fs)=>fs.all λf=>Lg P d f.type
  |some (.array _ e')=>Lg P d e'
  |_=>true
def UL{P}(hid:∀t u,P.underlyingId t=P.underlyingId u->P.underlying u=some (.int .u8)->P.underlying t=some (.int .u8)):∀d t u,P.underlying u=some (.int .u8)->sameLayout P d t u=true->P.underlying t=some (.int .u8)
 |0,_,_,_,h=>by cases h
 |d+1,t,u,hu,h=>by
  unfold sameLayout at h;rw[hu]at h;simp only[fL,jA]at h;rcases h with h|h
  ·exact hid t u h hu
  ·cases ht:P.underlying t with
   |none=>rw[ht]at h;cases h
   |some x=>
    rw[ht]at h;cases x<;>first
     |(simp only[jA]at h;subst h;rfl)
     |cases h
def Da{fits P}(hf:∀t,fits t=true->P.underlying t=some (.int .u8)):∀d (e c o n:Nat),Lg P d e=true->rowAt P fits d e c o n=false
 |0,_,_,_,_,_=>rfl
 |d+1,e,c,o,n,h=>by
  have hfe:fits e=false:=by
   cases hh:fits e with
   |false=>rfl
   |true=>unfold Lg at h;rw[hf e hh]at h;cases h
  unfold rowAt;dsimp only;split
  ·rfl
  ·rw[hfe];simp only[Bool.and_false,n6];unfold Lg at h;split
   ·rename_i fs hfs;rw[hfs]at h;simp only at h;rw[jT]at h;have:(fs.any λf=>decide (f.offset<=o%P.cellsOf e)&&decide (o%P.cellsOf e<f.offset+P.cellsOf f.type)&&rowAt P fits d f.type 1 (o%P.cellsOf e - f.offset) n)=false:=by
     rw[Array.any_eq_false'];intro f J9;rw[Da hf d f.type _ _ _ (h f J9)];simp
    rw[this];simp
   ·rename_i m e' hfs;rw[hfs]at h;rw[Da hf d e' _ _ _ h];simp
   ·simp
def GD{P e u}(hid:∀t u,P.underlyingId t=P.underlyingId u->P.underlying u=some (.int .u8)->P.underlying t=some (.int .u8))(hu:P.underlying u=some (.int .u8))(he:Lg P P.depth e=true):∀d c o n,liesAt P d e c o u n=false
 |0,_,_,_=>rfl
 |d+1,c,o,n=>by
  unfold liesAt;rw[Da (λt h=>UL hid _ t u hu h) _ _ _ _ _ he,hu];rfl
def Tv P fs g:(Pf P fs).stepOf g=fs.findIdx? λf=>(f.body.map readies).any (·.contains g):=rfl
def uP(P:Program)t:P.underlying t=(P.info? (P.underlyingId t)).map (·.desc):=by
 unfold Program.underlying Program.underlyingId;cases h:P.info? t with
 |none=>simp only[h];rfl
 |some i=>obtain⟨desc⟩:=i;cases desc<;>simp only[h]<;>rfl
def Zt(P:Program):∀t u,P.underlyingId t=P.underlyingId u->P.underlying u=some (.int .u8)->P.underlying t=some (.int .u8):=λt u h hu=>by
 rw[uP,h,<-uP,hu]
def aCb:Lg prog prog.depth 79=true:=Bd
def aCa:Lg prog prog.depth 99=true:=Bd
def UF:bH prog sj=true:=Bd
def Ki:bH prog mf=true:=Bd
def aAz:prog.follows .staticDataAhead=true:=Bd
def aAa:f38.body.isSome=true:=Bd
def Z9:f39.body.isSome=true:=Bd
def F3{f:Func}(h:f.body.isSome=true):∃c,f.body=some c:=lA.1 h
def zk{f fn}(h:uE[f]? =some fn):(keep f=true/\prog.funcs[f]? =some fn)\/(f=38/\fn=qm)\/(f=39/\fn=jM)\/fn=blank:=by
 rw[lN]at h;obtain⟨g,hg,rfl⟩:=aY.1 h;unfold qi;split
 ·exact .inl ⟨‹_›,hg⟩
 ·split
  ·exact .inr (.inl ⟨‹_›,rfl⟩)
  ·split
   ·exact .inr (.inr (.inl ⟨‹_›,rfl⟩))
   ·exact .inr (.inr (.inr rfl))
def K6{fn c}{f:Nat}(h:uE[f]? =some fn)(hb:fn.body=some c):bH prog c=true:=by
 rcases zk h with⟨A,hf⟩|⟨rfl,rfl⟩|⟨rfl,rfl⟩|rfl
 ·have:=pU hf;unfold wu at this;rw[A,hb]at this;simp only[bw,kh,n6]at this;exact this.2
 ·cases hb;exact UF
 ·cases hb;exact Ki
 ·cases hb
def aG1(f:Nat)fn(h:uE[f]? =some fn)(hb:fn.body=none)(tW:fn≠blank)args:T prog uE C (jG fn args) (nH prog uE Spq C):=by
 rcases zk h with⟨A,hf⟩|⟨rfl,rfl⟩|⟨rfl,rfl⟩|rfl
 ·have:=pU hf;unfold wu at this;rw[A,hb]at this;simp only[bw,kh,n6,List.contains_eq_mem,bm,cU,gb,cN]at this;have hm:=this.2;rcases hm with rfl|rfl|rfl|rfl|rfl|rfl|rfl|rfl|rfl|rfl|rfl|rfl|rfl|rfl
  ·rw[func116]at hf;cases hf;rw[aHf];exact tb (Ku _) λ_ _=>tp trivial
  ·rw[func117]at hf;cases hf;rw[aHe];exact tb (EL _ _ (iY _ _) (λ_ _ _ _=>Ch _) _) λ_ _=>tp trivial
  ·rw[func118]at hf;cases hf;rw[aHd];exact tb (Cj _ _ (iY _ _) (λ_ _ _ _=>SK _ _ _ _) _) λ_ _=>tp trivial
  ·rw[func121]at hf;cases hf;rw[aHc];exact tb (Xi _) λ_ _=>tp trivial
  ·rw[func161]at hf;cases hf;rw[aHb];exact tb (Cj _ _ (iY _ _) (λ_ _ _ _=>Xk _ _ _ _) _) λ_ _=>tp trivial
  ·rw[func162]at hf;cases hf;rw[aHa];exact tb (aBr _) λ_ _=>tp trivial
  ·rw[func256]at hf;cases hf;rw[aG9];exact tb (Xx _) λ_ _=>tp trivial
  ·rw[func264]at hf;cases hf;rw[aG8];exact tb (Xw _) λ_ _=>tp trivial
  ·rw[func273]at hf;cases hf;rw[aG7];exact tb (Ir _) λ_ _=>tp trivial
  ·rw[func291]at hf;cases hf;rw[aG6];exact tb (KH _ (λ_=>tb (Ij _) λ_ _=>bg) _) λ_ _=>tp trivial
  ·rw[func299]at hf;cases hf;rw[aG5];exact tb (Cm _ _ CQ _) λ_ _=>tp trivial
  ·rw[func300]at hf;cases hf;rw[aG4];exact tb (Ck _ (λ_=>tb (Ii _ _) λ_ _=>tb (bS _) λ_ _=>bg) _) λ_ _=>tp trivial
  ·rw[func301]at hf;cases hf;rw[aG3];exact tb (Ck _ Xl _) λ_ _=>tp trivial
  ·rw[func302]at hf;cases hf;rw[aG2];exact tb (Cm _ _ EP _) λ_ _=>tp trivial
 ·cases hb
 ·cases hb
 ·exact absurd rfl tW
def aCX(hty:∀t,C.ty t->t=79\/t=99):Good prog uE Spq C where
 same f:=by
  cases h:prog.funcs[f]? with
  |none=>exact .inl (by rw[lN,h];rfl)
  |some fn=>
   have hq:uE[f]? =some (qi f fn):=by rw[lN,h];rfl
   rw[hq];unfold qi;split
   ·exact .inl rfl
   ·split
    ·rename_i hf;subst hf;have CH:(fn.name== "runtime.NumGoroutine")=false:=by
      have:=pU h;unfold wu at this;simp only[bw,my]at this;exact this.1
     rw[func38]at h;cases h;obtain⟨c,L⟩:=F3 aAa;exact .inr (.inr ⟨.inl rfl,qm,sj,f38,c,rfl,rfl,rfl,L,CH⟩)
    ·split
     ·rename_i hf;subst hf;have CH:(fn.name== "runtime.NumGoroutine")=false:=by
       have:=pU h;unfold wu at this;simp only[bw,my]at this;exact this.1
      rw[func39]at h;cases h;obtain⟨c,L⟩:=F3 Z9;exact .inr (.inr ⟨.inr rfl,jM,mf,f39,c,rfl,rfl,rfl,L,CH⟩)
     ·exact .inr (.inl ⟨rfl,fn,rfl⟩)
 bytes u hu t ht d c o n:=by
  rcases hty t ht with rfl|rfl
  ·exact GD (Zt _) hu aCb d c o n
  ·exact GD (Zt _) hu aCa d c o n
 ext:=aG1
def Ru(hty:∀t,C.ty t->t=79\/t=99)(hN:C.N=eU prog):Fits prog uE Spq C where
 toGood:=aCX hty
 Yx f fn h:=by
  rcases zk h with⟨A,hf⟩|⟨rfl,rfl⟩|⟨rfl,rfl⟩|rfl
  ·have:=pU hf;unfold wu at this;simp only[bw,my]at this;exact this.1
  ·rfl
  ·rfl
  ·rfl
 code f fn c h hb:=K6 h hb
 loops:=hN
 ahead:=aAz
 steps g:=by
  rw[Tv,Array.findIdx?_eq_none_iff];intro fn AW;obtain⟨i,hi⟩:=Array.mem_iff_getElem?.1 AW;cases hb:fn.body with
  |none=>rfl
  |some c=>have e:=dX c (K6 hi hb);show(Option.any (λl=>l.contains g) (Option.map readies (some c)))=false;rw[fR,e];rfl
end
end Ka
