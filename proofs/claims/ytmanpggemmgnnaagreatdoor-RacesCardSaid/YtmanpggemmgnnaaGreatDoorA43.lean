/- Races (RacesCardSaid): of two to five pushes that want one ref, in whatever turns, just one gets it, whole: every call returns true. Conditions: those of the card (calm; the listed tables as the text lays them; the clock outside; said of the pruned copy). -/
import Derived.Conc.HoldsTime
import Derived.Deep.DeepHandedRow
import Derived.Lay
import Derived.Lib.SmallJoins
import Derived.Stop.LaidErr
import Derived.Test.YtmanpggemmgnnaaGreatDoorA40
import Derived.Test.YtmanpggemmgnnaaGreatDoorA41
import Derived.Test.YtmanpggemmgnnaaGreatDoorA42
set_option linter.all false
set_option maxHeartbeats 8000000
set_option maxRecDepth 1000000
namespace Go.Proofs.YtmanpggemmgnnaaGreatDoor
noncomputable section
open Go Go.RowKit Go.Shelf Go.Conc Go.ConcM
theorem k43 {p:Prop} (h:p:=by kernel_rfl):p:=h
namespace Xs
open Re Co Rx
open Go.ChangeShapes Go.WideShapes Go.ChangeAt Go.Deep
theorem own:ownKnob Tryz.prog.godebug=none:=k43
theorem laidOut:laidOutB Tryz.prog=true:=k43
theorem aDg:Tryz.prog.cellsOf 41=4:=k43
theorem aDj:Tryz.prog.bytesOf 41=40:=k43
theorem aHk:Tryz.prog.cellsOf 3=1:=k43
theorem aAo:Tryz.prog.cellsOf 9=1:=k43
theorem Nl:Tryz.prog.cellsOf 339=1:=k43
theorem opened {H:Type} {enc:TypeId×Value->H} {W:World} {v:Value} {d:DataW H} {p:List MemPlace} (hv:∃a n c,v=.slice a n c)
 (h:DataW.Trod enc Tryz.prog W 0 (λ_=>true) true 22 v d p) (hz:(d.weights Tryz.prog 22).all (·<=reachBytes)=true):Scr W v:=by
 obtain ⟨a0,n,c,rfl⟩:=hv;obtain ⟨fuel,hf⟩:=h;rcases open_slice Tryz.underlying22 hf with ⟨h1,_⟩|⟨a,len,cap,m,q,D,Pl,h1,_,hl,hm,hmm,hx,hc⟩
 ·simp [Value.cells] at h1;exact ⟨_,_,_,rfl,by omega,λi hi=>by omega⟩
 have h1:Value.slice a0 n c=Value.slice (some a) len cap:=by simpa [Value.cells] using h1
 cases h1;by_cases hn:n=0
 ·subst hn;exact ⟨_,_,_,rfl,by omega,λi hi=>by omega⟩
 have hd:d=_:=congrArg Prod.fst hx;simp only at hd;subst hd;have aO5:n<1152921504606846976:=by
  have h1:=List.all_eq_true.1 hz ((((List.range n).map D).length+((List.range (m - n)).map λj=>D (n+j)).length)*Tryz.prog.bytesOf 41) (by
   simp only [DataW.weights,Tryz.underlying22];exact List.mem_cons_self ..)
  rw [aDj,List.length_map,List.length_range] at h1;have h2:(n+_)*40<=140737488351232:=of_decide_eq_true h1;omega
 simp only [if_true] at hmm;have each:∀i,i<n->(∃k:Int,W.cell? (a.add (i*4))=some (.int .i64 k))/\∃k:Int,W.cell? (a.add (i*4+2))=some (.int .i64 k)/\-9223372036854775808<=k/\k<9223372036854775808:=by
  intro i hi;obtain ⟨JD,g1,g2⟩:=hc i (by omega);rw [aDg] at g1;obtain ⟨_,hlen,cz⟩:=World.cells?_some g1;obtain ⟨y0,y1,y2,y3,n',hxx,_,f0,f1,f2,f3⟩:=Go.Joins.trod_struct4 Tryz.underlying41 g2;rw [aHk] at f0 f2;obtain ⟨k',hk1,_⟩:=DataW.trod_int Tryz.underlying3 f0;obtain ⟨k,hk0,_,bY⟩:=DataW.trod_int Tryz.underlying3 f2
  match JD,hlen with
  |[b0,b1,b2,b3],_=>
   simp at hk0 hk1;subst hk0 hk1;have e0:=cz 0 (by omega);have e2:=cz 2 (by omega);rw [add_add] at e0 e2;have bY:(decide (IntKind.i64.min<=k)&&decide (k<=IntKind.i64.max))=true:=bY;simp only [Bool.and_eq_true,decide_eq_true_eq] at bY;have aO7:IntKind.i64.min=-9223372036854775808:=by decide
   have aCC:IntKind.i64.max=9223372036854775807:=by decide
   rw [aO7,aCC] at bY;exact ⟨⟨k',by simpa using e0⟩,k,by simpa using e2,by omega,by omega⟩
 obtain ⟨g,off,spot⟩:=a;obtain ⟨⟨k0,e0⟩,_⟩:=each 0 (by omega);have aJ6:spot=none:=by simpa [Addr.add] using World.cell?_spot e0
 subst aJ6;refine ⟨_,n,c,rfl,aO5,λi hi=>?_⟩;obtain ⟨_,k,hk,hb⟩:=each i hi;refine ⟨g,off,k,rfl,?_,hb⟩;rw [add_plain] at hk;rw [show off+i*4+2=off+(i*4+2) by omega];exact hk
theorem g0:Tryz.prog.globalNamed "refserve/wire.ErrMore"=some 0:=k43
theorem g1:Tryz.prog.globalNamed "errors.errorType"=some 1:=k43
theorem g2:Tryz.prog.globalNamed "strconv.ErrSyntax"=some 2:=k43
theorem gt0:(Tryz.prog.globals[0]?).map (·.type)=some 133:=k43
theorem gt2:(Tryz.prog.globals[2]?).map (·.type)=some 133:=k43
theorem star: "*"++ "errors.errorString"= "*errors.errorString":=by decide
theorem XQ (u:TypeId) (h:Tryz.prog.typeName? 3 u=some "*errors.errorString"):u=337:=
 typeName_ptr_named (nm:= "errors.errorString") (by rw [star];kernel_rfl) k43 (by decide) u (by rw [star];exact h)
theorem rt:(Tryz.prog.cutTypes.find? (·.1== "internal/reflectlite.rtype")).map (·.2)=some 216:=k43
theorem size:Tryz.prog.types.size=376:=k43
theorem aFj:((List.range 376).filter λt=>Tryz.prog.rowNamed t [101,114,114,111,114])=[133]:=k43
theorem globals {W:World} (h:laidMetH Tryz.prog Rows.racesRow.laid W):∃p ev,Gl W p ev:=by have h':laidMet Tryz.prog [("math/bits.deBruijn32tab",Rows.laid_math_bits_deBruijn32tab),("math/bits.deBruijn64tab",Rows.laid_math_bits_deBruijn64tab),("internal/strconv.uint64pow10",Rows.laid_internal_strconv_uint64pow10),("unicode/utf8.acceptRanges",Rows.laid_unicode_utf8_acceptRanges),("strconv.ErrRange",Rows.laid_strconv_ErrRange),("strconv.ErrSyntax",Rows.laid_strconv_ErrSyntax),("refserve/wire.ErrMore",Rows.laid_refserve_wire_ErrMore),("unicode/utf8.first",Rows.laid_unicode_utf8_first)] W/\handlesMet Tryz.prog [("errors.errorType",Rows.laid_errors_errorType)] W:=h;have hS:=h'.1.tail.tail.tail.tail.tail;obtain ⟨a1,s1,Fj,_⟩:=laid_sentinel hS g2 gt2 Tryz.underlying133 XQ Tryz.underlying337 Tryz.underlying339 rfl rfl Tryz.underlying9 Nl aAo;obtain ⟨a0,s0,NJ,_⟩:=laid_sentinel hS.tail g0 gt0 Tryz.underlying133 XQ Tryz.underlying337 Tryz.underlying339 rfl rfl Tryz.underlying9 Nl aAo;obtain ⟨name,u,ty,e1,e2,e3,e4,e5⟩:=h'.2 _ (List.mem_singleton.2 rfl);have en:name=[101,114,114,111,114]:=(Option.some.inj e1).symm;subst en;obtain rfl:=Option.some.inj (rt.symm.trans e2);have hm:ty∈(List.range 376).filter λt=>Tryz.prog.rowNamed t [101,114,114,111,114]:=List.mem_filter.2 ⟨List.mem_range.2 (by rw [<-size];exact e3),e4⟩;rw [aFj] at hm;obtain rfl:=List.mem_singleton.1 hm;have hh:typeHandle Tryz.prog 133=.pointer (some ⟨10,133,none⟩):=k43;rw [hh] at e5;exact ⟨a0,_,by simpa using World.var?_cell g0 NJ 0,by simpa using World.var?_cell g1 e5 0,by simpa using World.var?_cell g2 Fj 0,.inr ⟨_,_,rfl⟩⟩
theorem aP7 (H:Type) (enc:TypeId×Value->H) (W:World) (base:Nat) (args:Array Value) (ds gs:List (DataW H)) (before:List MemPlace)
 (aCt:∀(j:Nat) t v,Tryz.f3.params[j]? =some t->args[j]? =some v->Value.okWide Tryz.prog W .any base t v)
 (hW:DataW.Whole enc Tryz.prog Tryz.f3.params.toList Rows.racesSpec.vars false W args.toList ds gs before)
 (hz:(DataW.weightsEach Tryz.prog (Tryz.f3.params.toList++Rows.racesSpec.plain.varTypes Tryz.prog) (ds++gs)).all (·<=reachBytes)=true) (hL:laidMetH Tryz.prog Rows.racesRow.laid W):
 iW Tryz.prog (λv W'=>Rows.racesSpec.post enc Tryz.prog Tryz.f3 false true false false W args v {W' with os:=W.os}/\OsLater W.os W'.os) (solo (G (Frame.enter Tryz.prog 3 args .normal) []) W) #[]:=by
 have hW':=hW;obtain ⟨p,q,hA0,hV,rfl,PE,hnd⟩:=hW;have hA:DataW.TrodAll enc Tryz.prog W 0 (λ_=>true) true Tryz.f3.params.toList args.toList ds p:=hA0;rw [Tryz.params3] at hA aCt;obtain ⟨v0,vs0,d0,ds0,p0,q0,aSe,rfl,rfl,h0,r0⟩:=trodAll_cons hA;obtain ⟨rfl,rfl,rfl⟩:=trodAll_nil r0;obtain rfl:args=#[v0]:=by cases args;simp_all
 obtain ⟨rfl,rfl⟩:=trodVars_none hV;clear hA0;simp only [List.append_nil] at hW' hz;have uw:(d0.weights Tryz.prog 22).all (·<=reachBytes)=true:=by have h:(DataW.weightsEach Tryz.prog ([22]++Rows.racesSpec.plain.varTypes Tryz.prog) [d0]).all (·<=reachBytes)=true:=hz;simp only [List.cons_append,DataW.weightsEach,List.all_append,Bool.and_eq_true] at h;exact h.1
 have hs:=opened (okWide_slice Tryz.underlying22 (aCt 0 22 v0 rfl rfl)) h0 uw;obtain ⟨p,ev,Jn⟩:=globals hL;refine Ua W p ev Jn v0 hs λw hos aOW bW MU=>⟨?_,by rw [hos];exact OsLater.refl _⟩
 have hb:Below W.heap.size W {W with heap:=w.heap}:=⟨rfl,rfl,rfl,bW,MU⟩
 have aI:∀x∈p0,x.block<W.heap.size:=λx hx=>by simpa using hW'.lt x (by simpa using hx)
 have Mt:=Below.trod laidOut k43 (of_decide_eq_true k43) h0 hb aI;have hkb:∀may,W.keptBut {w with os:=W.os} may:=λmay=>⟨rfl,aOW,(hb.frame may).2.2⟩
 refine ⟨_,_,_,[],p0,[],hW',?_,?_,rfl,?_,λh=>by cases h⟩
 ·exact trodAll_mk1 (shut_bool Tryz.underlying4 _)
 ·exact trodAll_mk1 (DataW.Trod.of_heap (w:={W with heap:=w.heap}) (w':={w with os:=W.os}) rfl Mt)
 ·exact hkb _
noncomputable def yj:List (String×DataW Unit):=Rows.racesRow.laid.filter λx=>x.2.handleName?.isNone
noncomputable def V6 (os:Os):World:=
 let w0:=World.holding Tryz.prog os ⟨#[],#[],[]⟩
 {w0 with heap:=w0.heap.modify 1 λ
  | .cells _ t frozen=>.cells #[.iface 216 (.agg #[.pointer (some ⟨10,133,none⟩)])] t frozen
  |o=>o}
noncomputable def H6 (os:Os):World:=(V6 os).layVars Tryz.prog yj
theorem aNB (os:Os):laidMet Tryz.prog yj ((H6 os).forCall (λ_ _=>0) ⟨#[],#[.slice none 0 0],[]⟩).memory:=by
 have e1:(yj.filter λx=>(yj.map (·.1)).contains x.1)=yj:=List.filter_eq_self.2 λx hx=>List.contains_iff_mem.2 (List.mem_map.2 ⟨x,hx,rfl⟩);have e2:(yj.filter λx=>!(yj.map (·.1)).contains x.1)=[]:=List.filter_eq_nil_iff.2 λx hx=>by rw [List.contains_iff_mem.2 (List.mem_map.2 ⟨x,hx,rfl⟩)];simp
 have h:laidMet Tryz.prog yj (H6 os):=laidMet_layVars (w0:=V6 os) (yj.map (·.1)) [] (by rw [e1];rfl) (by rw [e1];kernel_rfl) (by rw [e1];kernel_rfl) (by rw [e2];exact LaidIn.none);exact h.of_heap (by simp [World.memory,World.forCall,Input.heap])
theorem met (os:Os):laidMetH Tryz.prog Rows.racesRow.laid ((H6 os).forCall (λ_ _=>0) ⟨#[],#[.slice none 0 0],[]⟩).memory:=
 laidMetH_of_parts (aNB os) k43
theorem lifted (os:Os) (started:os.Started) (H:Type) (enc:TypeId×Value->H) (F:Stop.Interp):
 ReturnsInLeavingWide {calm:=true} Tryz.checked os 3 .any (Rows.racesRow.pre enc Tryz.prog Tryz.f3 (OpenSpec.ofChange Rows.racesSpec)) ((OpenSpec.ofChange Rows.racesSpec).postWith enc Tryz.prog Tryz.f3 F (outsideKept [.timePasses]) false true false):=by
 rw [OpenClaim.pre_eq_preRow];refine returnsInLeavingWide_of_good own started ?_ ?_
 ·exact ⟨H6 os,λ_ _=>0,⟨#[],#[.slice none 0 0],[]⟩,World.layVars_os _ _ _,World.shaped_of_ZipB k43 k43,rfl,(Input.okWide_of_okWideB (base:=_) k43).2,
   OpenSpec.preRow_of_B rfl 8 k43 k43 (met os),by
    simp only [Assume.holds];exact ⟨by simp,λ_ _ _ _=>rfl,by simp,by simp,by simp⟩⟩
 ·intro w tape i _ _ _ aH aOU aPi;obtain ⟨_,_,_,Vh,aPr,_,_,_,_,aCt⟩:=aH;have e:Vh=Tryz.f3:=Option.some.inj (aPr.symm.trans Tryz.func3);subst e;obtain ⟨⟨hp,hl⟩,hz⟩:=aOU;obtain ⟨ds,gs,before,hw,_,_⟩:=OpenSpec.pre_parts hp;have hw':=DataW.Whole.of_heap (w':=w.forCall tape i) (by rfl) hw;obtain ⟨M,last,o,w',t',h1,h2,h3,h4⟩:=aP7 H enc (w.forCall tape i) w.heap.size i.args ds gs before aCt hw' (hz.weights hw) (hl.of_heap (by rfl));obtain ⟨v,e,hp,r1,r2,r3,r4⟩:=h4;exact ⟨M,last,o,w',t',h1,h2,h3,v,e,postWith_blind (postWith_of_post hp.1 hp.2),r1,r2,r3,r4⟩
theorem said:Rows.RacesSaid:=
 OpenClaim.holds_of_wide_leaving_time 3 Tryz.f3 rfl rfl rfl rfl rfl rfl rfl ⟨rfl,rfl,rfl,rfl,rfl⟩ rfl rfl rfl rfl rfl aQr Tryz.func3 closed aHp aHl
  (λos started H enc _ F=>lifted os started H enc F)
theorem plain (f:FuncId) (fn:Func) (hf:Tryz.pinned.checked.prog.funcNamed "refserve/refservelaw.Races"=some f) (Bh:Tryz.pinned.checked.prog.funcs[f]? =some fn):
 true=Tryz.pinned.checked.prog.looks []/\∀(j:Nat) t,fn.params[j]? =some t->Tryz.pinned.checked.prog.wantsStandIn t=false:=by
 obtain rfl:f=3:=Option.some.inj (aHn.symm.trans hf) |>.symm;obtain rfl:fn=Tryz.f3:=(Option.some.inj (Tryz.func3.symm.trans Bh)).symm;refine ⟨aDi,λj t ht=>?_⟩;rw [Tryz.params3] at ht;obtain rfl:t=22:=by simpa using Array.mem_of_getElem? ht
 exact (show Tryz.prog.wantsStandIn 22=false from k43)
theorem aQo:Rows.RacesCardSaid:=
 ⟨Claim7.tied_new_at .later [.data,.data,.data,.data,.handle,.sentinel,.sentinel,.sentinel,.pinned] true (Claim7.new_of_sixth said har true rfl ⟨rfl,rfl⟩ aHo rfl plain) aHm,(λD hD=>by cases hD),races_row_tie,(λh=>by cases h),aHq⟩
end Xs
theorem races_holds:Rows.RacesCardSaid:=Xs.aQo
end
end Go.Proofs.YtmanpggemmgnnaaGreatDoor
