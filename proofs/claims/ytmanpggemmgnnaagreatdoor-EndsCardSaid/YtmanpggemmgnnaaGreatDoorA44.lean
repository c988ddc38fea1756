/- Ends (EndsCardSaid): with all inputs ended somebody can always do a step until all have finished, and each has its reply, all or none: every call returns true. Conditions: those of the card (calm; the listed tables as the text lays them; the clock outside; said of the pruned copy). -/
import Derived.Conc.HoldsTime
import Derived.Deep.DeepHandedRow
import Derived.Lay
import Derived.Lib.SmallJoins
import Derived.Stop.LaidErr
import Derived.Test.YtmanpggemmgnnaaGreatDoorA41
import Derived.Test.YtmanpggemmgnnaaGreatDoorA42
import Derived.Test.YtmanpggemmgnnaaGreatDoorA43
set_option linter.all false
set_option maxHeartbeats 8000000
set_option maxRecDepth 1000000
namespace Go.Proofs.YtmanpggemmgnnaaGreatDoor
noncomputable section
open Go Go.RowKit Go.Shelf Go.Conc Go.ConcM
def Ğ:=@Tryz.underlying22
def ĝ:=@Tryz.underlying9
def Ĝ:=@Tryz.underlying3
def ě:=@World.var?_cell
def Ě:=@DataW.trod_int
def AK{p:Prop}(h:p:=by kernel_rfl):p:=h
namespace X5
open Re Co Rx
open Go.ChangeShapes Go.WideShapes Go.ChangeAt Go.Deep
def own:ownKnob Tryz.prog.godebug=none:=AK
def laidOut:laidOutB Tryz.prog=true:=AK
def aDg:Tryz.prog.cellsOf 41=4:=AK
def aDj:Tryz.prog.bytesOf 41=40:=AK
def aHk:Tryz.prog.cellsOf 3=1:=AK
def aAo:Tryz.prog.cellsOf 9=1:=AK
def Nl:Tryz.prog.cellsOf 339=1:=AK
def aGi{W:World}{v:Value}{N:Nat}(h:Ops W v N):Ops (qN W) v N:=by obtain⟨a,cap,rfl,h0,V,J⟩:=h;refine⟨a,cap,rfl,h0,V,λi hi=>?_⟩;obtain⟨g,off,k,x,b,t,e,c0,c1,c2,c3,ht⟩:=J i hi;exact⟨g,off,k,x,b,t,e,ug c0,ug c1,ug c2,ug c3,ht⟩
def aGf{H:Type}{e:TypeId}{d:DataW H}{x:Nat}(E:x∈d.weights Tryz.prog e):∀l:List (DataW H),d∈l->x∈DataW.weightsAll Tryz.prog e l
 |[],h=>by cases h
 |y::l,h=>by
  unfold DataW.weightsAll;rcases bm.1 h with rfl|h
  ·exact gS _ E
  ·exact pX _ (aGf E l h)
def opened{H:Type}{enc:TypeId×Value->H}{W:World}{v:Value}{d:DataW H}{p:List MemPlace}(X:∃a n c,v=.slice a n c)
 (h:DataW.Trod enc Tryz.prog W 0 (λ_=>true) true 22 v d p) (hz:(d.weights Tryz.prog 22).all (·<=reachBytes)=true):∃N,Ops W v N:=by
 obtain⟨a0,n,c,rfl⟩:=X;obtain⟨fuel,hf⟩:=h;rcases open_slice Ğ hf with⟨V,_⟩|⟨a,len,cap,m,q,LV,Pl,V,_,hl,hm,hmm,E,L⟩
 ·simp[Value.cells]at V;exact⟨0,_,_,by rw[V.2.1],cQ _,by omega,λi hi=>by omega⟩
 have V:Value.slice a0 n c=Value.slice (some a) len cap:=by simpa [Value.cells]using V
 cases V;by_cases Q:n=0
 ·subst Q;exact⟨0,_,_,rfl,cQ _,by omega,λi hi=>by omega⟩
 have hd:d=_:=dv Prod.fst E;simp only at hd;subst hd;have aO5:n<1152921504606846976:=by
  have V:=ep.1 hz ((((List.range n).map LV).length+((List.range (m - n)).map λj=>LV (n+j)).length)*Tryz.prog.bytesOf 41) (by
   simp only[DataW.weights,Ğ];exact bj ..)
  rw[aDj,dN,List.length_range]at V;have J:(n+_)*40<=140737488351232:=kA V;omega
 simp only[j2]at hmm;have each:∀i,i<n->∃(k x b:Int) (t:ByteArray),W.cell? (a.add (i*4))=some (.int .i64 k)/\W.cell? (a.add (i*4+1))=some (.int .i64 x)/\W.cell? (a.add (i*4+2))=some (.int .i64 b)/\W.cell? (a.add (i*4+3))=some (.string t)/\t.size<=4611686018427387904:=by
  intro i hi;obtain⟨CC,g1,g2⟩:=L i (by omega);rw[aDg]at g1;obtain⟨_,hlen,uz⟩:=World.cells?_some g1;obtain⟨y0,y1,y2,y3,n',hxx,_,f0,f1,f2,f3⟩:=Go.Joins.trod_struct4 Tryz.underlying41 g2;rw[aHk]at f0 f1 f2;rw[aAo]at f3;obtain⟨k0,hk0,_⟩:=Ě Ĝ f0;obtain⟨k1,Hn,_⟩:=Ě Ĝ f1;obtain⟨k2,CM,_⟩:=Ě Ĝ f2;obtain⟨t,ID,hy,_⟩:=DataW.trod_string ĝ f3
  match CC,hlen with
  |[b0,b1,b2,b3],_=>
   simp at hk0 Hn CM ID;subst hk0 Hn CM ID;have e0:=uz 0 (by omega);have e1:=uz 1 (by omega);have e2:=uz 2 (by omega);have e3:=uz 3 (by omega);rw[add_add]at e0 e1 e2 e3;refine⟨k0,k1,k2,t,by simpa using e0,by simpa using e1,by simpa using e2,by simpa using e3,?_⟩;have hD:LV i=_:=dv Prod.fst hxx;simp only at hD;have hw:t.data.toList.length∈(LV i).weights Tryz.prog 41:=by rw[hD,hy];simp[DataW.weights,DataW.weightsEach,Tryz.underlying41]
   have V:=ep.1 hz t.data.toList.length (by
    simp only[DataW.weights,Ğ];exact bc _ (gS _ (aGf hw _ (ey.2 ⟨i,jI.2 hi,rfl⟩))))
   have J:t.data.toList.length<=140737488351232:=kA V;have h3:t.size=t.data.toList.length:=rfl;omega
 obtain⟨g,off,spot⟩:=a;obtain⟨_,_,_,_,e0,_⟩:=each 0 (by omega);have hspot:spot=none:=by simpa [Addr.add]using World.cell?_spot e0
 subst hspot;refine⟨n,_,c,rfl,hl,aO5,λi hi=>?_⟩;obtain⟨k,x,b,t,c0,c1,c2,c3,ht⟩:=each i hi;rw[add_plain]at c0 c1 c2 c3;rw[show off+(i*4+1)=off+i*4+1 by omega]at c1;rw[show off+(i*4+2)=off+i*4+2 by omega]at c2;rw[show off+(i*4+3)=off+i*4+3 by omega]at c3;exact⟨g,off,k,x,b,t,rfl,c0,c1,c2,c3,ht⟩
def g0:Tryz.prog.globalNamed "refserve/wire.ErrMore"=some 0:=AK
def g1:Tryz.prog.globalNamed "errors.errorType"=some 1:=AK
def g2:Tryz.prog.globalNamed "strconv.ErrSyntax"=some 2:=AK
def gt0:(Tryz.prog.globals[0]?).map (·.type)=some 133:=AK
def gt2:(Tryz.prog.globals[2]?).map (·.type)=some 133:=AK
def star: "*"++ "errors.errorString"= "*errors.errorString":=by decide
def XQ(u:TypeId)(h:Tryz.prog.typeName? 3 u=some "*errors.errorString"):u=337:=
 typeName_ptr_named (nm:= "errors.errorString") (by rw[star];kernel_rfl) AK (by decide) u (by rw[star];exact h)
def rt:(Tryz.prog.cutTypes.find? (·.1== "internal/reflectlite.rtype")).map (·.2)=some 216:=AK
def size:Tryz.prog.types.size=376:=AK
def aFj:((List.range 376).filter λt=>Tryz.prog.rowNamed t [101,114,114,111,114])=[133]:=AK
def globals{W:World}(h:laidMetH Tryz.prog Rows.endsRow.laid W):∃p ev,Gl W p ev:=by have h':laidMet Tryz.prog [("math/bits.deBruijn32tab",Rows.laid_math_bits_deBruijn32tab),("math/bits.deBruijn64tab",Rows.laid_math_bits_deBruijn64tab),("internal/strconv.uint64pow10",Rows.laid_internal_strconv_uint64pow10),("unicode/utf8.acceptRanges",Rows.laid_unicode_utf8_acceptRanges),("strconv.ErrRange",Rows.laid_strconv_ErrRange),("strconv.ErrSyntax",Rows.laid_strconv_ErrSyntax),("refserve/wire.ErrMore",Rows.laid_refserve_wire_ErrMore),("unicode/utf8.first",Rows.laid_unicode_utf8_first)] W/\handlesMet Tryz.prog [("errors.errorType",Rows.laid_errors_errorType)] W:=h;have hS:=h'.1.tail.tail.tail.tail.tail;obtain⟨a1,s1,Fj,_⟩:=laid_sentinel hS g2 gt2 Tryz.underlying133 XQ Tryz.underlying337 Tryz.underlying339 rfl rfl ĝ Nl aAo;obtain⟨a0,s0,DU,_⟩:=laid_sentinel hS.tail g0 gt0 Tryz.underlying133 XQ Tryz.underlying337 Tryz.underlying339 rfl rfl ĝ Nl aAo;obtain⟨name,u,ty,e1,e2,e3,e4,e5⟩:=h'.2 _ (bW.2 rfl);have en:name=[101,114,114,111,114]:=(ay e1).symm;subst en;obtain rfl:=ay (rt.symm.trans e2);have hm:ty∈(List.range 376).filter λt=>Tryz.prog.rowNamed t [101,114,114,111,114]:=ju.2 ⟨jI.2 (by rw[<-size];exact e3),e4⟩;rw[aFj]at hm;obtain rfl:=bW.1 hm;have hh:typeHandle Tryz.prog 133=.pointer (some ⟨10,133,none⟩):=AK;rw[hh]at e5;exact⟨a0,_,by simpa using ě g0 DU 0,by simpa using ě g1 e5 0,by simpa using ě g2 Fj 0,.inr ⟨_,_,rfl⟩⟩
def aP7(H:Type)(enc:TypeId×Value->H)(W:World)(base:Nat)(args:Array Value)(ds gs:List (DataW H))(before:List MemPlace)
 (MC:∀(j:Nat) t v,Tryz.f5.params[j]? =some t->args[j]? =some v->Value.okWide Tryz.prog W .any base t v)
 (hW:DataW.Whole enc Tryz.prog Tryz.f5.params.toList Rows.endsSpec.vars false W args.toList ds gs before)
 (hz:(DataW.weightsEach Tryz.prog (Tryz.f5.params.toList++Rows.endsSpec.plain.varTypes Tryz.prog) (ds++gs)).all (·<=reachBytes)=true) (hL:laidMetH Tryz.prog Rows.endsRow.laid W):
 iW Tryz.prog (λv W'=>Rows.endsSpec.post enc Tryz.prog Tryz.f5 false true false false W args v {W' with os:=W.os}/\OsLater W.os W'.os) (solo (G (Frame.enter Tryz.prog 5 args .normal) []) W) #[]:=by
 have hW':=hW;obtain⟨p,q,hA0,hV,rfl,PE,HJ⟩:=hW;have hA:DataW.TrodAll enc Tryz.prog W 0 (λ_=>true) true Tryz.f5.params.toList args.toList ds p:=hA0;rw[Tryz.params5]at hA MC;obtain⟨v0,vs0,d0,ds0,p0,q0,aSe,rfl,rfl,h0,r0⟩:=trodAll_cons hA;obtain⟨rfl,rfl,rfl⟩:=trodAll_nil r0;obtain rfl:args=#[v0]:=by cases args;simp_all
 obtain⟨rfl,rfl⟩:=trodVars_none hV;clear hA0;simp only[jb]at hW' hz;have xr:(d0.weights Tryz.prog 22).all (·<=reachBytes)=true:=by have h:(DataW.weightsEach Tryz.prog ([22]++Rows.endsSpec.plain.varTypes Tryz.prog) [d0]).all (·<=reachBytes)=true:=hz;simp only[cf,DataW.weightsEach,ot,bw]at h;exact h.1
 obtain⟨N,hs⟩:=opened (okWide_slice Ğ (MC 0 22 v0 rfl rfl)) h0 xr;obtain⟨p,ev,Jn⟩:=globals hL;refine aIf W (λh=>(Ol Jn).aGM v0 N (aGi hs) h) λw hos hout uG Ds=>⟨?_,by rw[hos];exact OsLater.refl _⟩
 have hb:Below W.heap.size W {W with heap:=w.heap}:=⟨rfl,rfl,rfl,uG,Ds⟩
 have tP:∀x∈p0,x.block<W.heap.size:=λx E=>by simpa using hW'.lt x (by simpa using E)
 have Mt:=Below.trod laidOut AK (kA AK) h0 hb tP;have GY:∀may,W.keptBut {w with os:=W.os} may:=λmay=>⟨rfl,hout,(hb.frame may).2.2⟩
 refine⟨_,_,_,[],p0,[],hW',?_,?_,rfl,?_,λh=>by cases h⟩
 ·exact trodAll_mk1 (shut_bool Tryz.underlying4 _)
 ·exact trodAll_mk1 (DataW.Trod.of_heap (w:={W with heap:=w.heap}) (w':={w with os:=W.os}) rfl Mt)
 ·exact GY _
noncomputable def yj:List (String×DataW Unit):=Rows.endsRow.laid.filter λx=>x.2.handleName?.isNone
noncomputable def V6(os:Os):World:=
 let w0:=World.holding Tryz.prog os ⟨#[],#[],[]⟩
 {w0 with heap:=w0.heap.modify 1 λ
  | .cells _ t frozen=>.cells #[.iface 216 (.agg #[.pointer (some ⟨10,133,none⟩)])] t frozen
  |o=>o}
noncomputable def H6(os:Os):World:=(V6 os).layVars Tryz.prog yj
def aNB(os:Os):laidMet Tryz.prog yj ((H6 os).forCall (λ_ _=>0) ⟨#[],#[.slice none 0 0],[]⟩).memory:=by
 have e1:(yj.filter λx=>(yj.map (·.1)).contains x.1)=yj:=oL.2 λx E=>kn.2 (ey.2 ⟨x,E,rfl⟩);have e2:(yj.filter λx=>!(yj.map (·.1)).contains x.1)=[]:=List.filter_eq_nil_iff.2 λx E=>by rw[kn.2 (ey.2 ⟨x,E,rfl⟩)];simp
 have h:laidMet Tryz.prog yj (H6 os):=laidMet_layVars (w0:=V6 os) (yj.map (·.1)) [] (by rw[e1];rfl) (by rw[e1];kernel_rfl) (by rw[e1];kernel_rfl) (by rw[e2];exact LaidIn.none);exact h.of_heap (by simp[World.memory,World.forCall,Input.heap])
def met(os:Os):laidMetH Tryz.prog Rows.endsRow.laid ((H6 os).forCall (λ_ _=>0) ⟨#[],#[.slice none 0 0],[]⟩).memory:=
 laidMetH_of_parts (aNB os) AK
def lifted(os:Os)(started:os.Started)(H:Type)(enc:TypeId×Value->H)(F:Stop.Interp):
 ReturnsInLeavingWide {calm:=true} Tryz.checked os 5 .any (Rows.endsRow.pre enc Tryz.prog Tryz.f5 (OpenSpec.ofChange Rows.endsSpec)) ((OpenSpec.ofChange Rows.endsSpec).postWith enc Tryz.prog Tryz.f5 F (outsideKept [.timePasses]) false true false):=by
 rw[OpenClaim.pre_eq_preRow];refine returnsInLeavingWide_of_good own started ?_ ?_
 ·exact⟨H6 os,λ_ _=>0,⟨#[],#[.slice none 0 0],[]⟩,World.layVars_os _ _ _,World.shaped_of_ZipB AK AK,rfl,(Input.okWide_of_okWideB (base:=_) AK).2,
   OpenSpec.preRow_of_B rfl 8 AK AK (met os),by
    simp only[Assume.holds];exact⟨by simp,λ_ _ _ _=>rfl,by simp,by simp,by simp⟩⟩
 ·intro w tape i _ _ _ aH aOU aPi;obtain⟨_,_,_,Vh,aPr,_,_,_,_,MC⟩:=aH;have e:Vh=Tryz.f5:=ay (aPr.symm.trans Tryz.func5);subst e;obtain⟨⟨hp,hl⟩,hz⟩:=aOU;obtain⟨ds,gs,before,hw,_,_⟩:=OpenSpec.pre_parts hp;have hw':=DataW.Whole.of_heap (w':=w.forCall tape i) (by rfl) hw;obtain⟨M,last,o,U,t',V,J,h3,h4⟩:=aP7 H enc (w.forCall tape i) w.heap.size i.args ds gs before MC hw' (hz.weights hw) (hl.of_heap (by rfl));obtain⟨v,e,hp,r1,r2,r3,r4⟩:=h4;exact⟨M,last,o,U,t',V,J,h3,v,e,postWith_blind (postWith_of_post hp.1 hp.2),r1,r2,r3,r4⟩
def said:Rows.EndsSaid:=
 OpenClaim.holds_of_wide_leaving_time 5 Tryz.f5 rfl rfl rfl rfl rfl rfl rfl ⟨rfl,rfl,rfl,rfl,rfl⟩ rfl rfl rfl rfl rfl aQr Tryz.func5 closed aHp aHl
  (λos started H enc _ F=>lifted os started H enc F)
def plain(f:FuncId)(fn:Func)(hf:Tryz.pinned.checked.prog.funcNamed "refserve/refservelaw.Ends"=some f)(AW:Tryz.pinned.checked.prog.funcs[f]? =some fn):
 true=Tryz.pinned.checked.prog.looks []/\∀(j:Nat) t,fn.params[j]? =some t->Tryz.pinned.checked.prog.wantsStandIn t=false:=by
 obtain rfl:f=5:=ay (aHn.symm.trans hf) |>.symm;obtain rfl:fn=Tryz.f5:=(ay (Tryz.func5.symm.trans AW)).symm;refine⟨aDi,λj t ht=>?_⟩;rw[Tryz.params5]at ht;obtain rfl:t=22:=by simpa using iM ht
 exact(show Tryz.prog.wantsStandIn 22=false from AK)
def aQo:Rows.EndsCardSaid:=
 ⟨Claim7.tied_new_at .later [.data,.data,.data,.data,.handle,.sentinel,.sentinel,.sentinel,.pinned] true (Claim7.new_of_sixth said har true rfl ⟨rfl,rfl⟩ aHo rfl plain) aHm,(λLV hD=>by cases hD),ends_row_tie,(λh=>by cases h),aHq⟩
end X5
theorem ends_holds:Rows.EndsCardSaid:=X5.aQo
end
end Go.Proofs.YtmanpggemmgnnaaGreatDoor
