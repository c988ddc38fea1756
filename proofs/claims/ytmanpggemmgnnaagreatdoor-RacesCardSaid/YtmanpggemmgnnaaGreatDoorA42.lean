/- Races: a part. Conditions: none. -/
import Derived.JoinedOf
import Derived.Test.YtmanpggemmgnnaaGreatDoorCards
set_option linter.all false
set_option maxHeartbeats 8000000
set_option maxRecDepth 1000000
namespace Go.Proofs.YtmanpggemmgnnaaGreatDoor
noncomputable section
open Go
theorem k42 {p:Prop} (h:p:=by kernel_rfl):p:=h
namespace Xs
theorem jf0:(Rows.racesRow.wf (OpenSpec.ofChange Rows.racesSpec))=true:=k42
theorem jf1:(laidOutB Tryz.pinned.checked.prog)=true:=k42
theorem jf2:(mapsRowed Tryz.pinned.checked.prog)=true:=k42
theorem jf3:(Tryz.f3.params.all (Tryz.pinned.checked.prog.readableRec ·))=true:=k42
theorem jf4:(namedTie Tryz.pinned.checked.prog Rows.racesRow.named Rows.racesSpec.vars)=true:=k42
theorem jf5:((Rows.racesRow.stops==[]))=true:=k42
theorem jf6:((Tryz.pinned.checked.prog.stops==[]))=true:=k42
theorem jf7:((Rows.racesRow.knobs==[]))=true:=k42
theorem jf8:((Tryz.pinned.checked.prog.stopKnobs==[]))=true:=k42
theorem jf9:((Rows.racesRow.inPlace==Tryz.pinned.checked.prog.inPlace 3))=true:=k42
theorem aOi:((Rows.racesRow.unfollowed==Tryz.pinned.checked.prog.unfollowed 3))=true:=k42
theorem aOh:((Rows.racesRow.recurses==Tryz.pinned.checked.prog.recurses 3))=true:=k42
theorem aOg:((Rows.racesRow.named==Tryz.pinned.checked.prog.varsNamed 3))=true:=k42
theorem aOf:((Rows.racesRow.maps==(Tryz.f3.params.toList++Rows.racesSpec.plain.varTypes Tryz.pinned.checked.prog).any (Tryz.pinned.checked.prog.mapsRec ·)))=true:=k42
theorem aOe:((Rows.racesRow.ifaces==(Tryz.f3.params.toList++Rows.racesSpec.plain.varTypes Tryz.pinned.checked.prog).any (Tryz.pinned.checked.prog.ifacesRec ·)))=true:=k42
theorem aOd:((Rows.racesRow.mapsOut==Tryz.pinned.checked.prog.mapsAmong Tryz.f3.resultTypes.toList))=true:=k42
theorem aOc:((Rows.racesRow.loops==(Tryz.f3.params.toList++Rows.racesSpec.plain.varTypes Tryz.pinned.checked.prog).any (Tryz.pinned.checked.prog.loopsFrom ·)))=true:=k42
theorem aOb:((Rows.racesRow.wideKeys==(Tryz.f3.params.toList++Rows.racesSpec.plain.varTypes Tryz.pinned.checked.prog++Tryz.f3.resultTypes.toList).any (Tryz.pinned.checked.prog.wideKeysFrom ·)))=true:=k42
theorem aOa:(Rows.racesSpec.vars.all (Tryz.pinned.checked.prog.varReadable ·))=true:=k42
theorem aN9:(Tryz.f3.resultTypes.all (λt=>Tryz.pinned.checked.prog.readableRec t&&decide (t<Tryz.pinned.checked.prog.types.size)))=true:=k42
theorem aN8:((Rows.racesRow.ifacesOut==Tryz.f3.resultTypes.toList.any (Tryz.pinned.checked.prog.ifacesRec ·)))=true:=k42
theorem aN7:((Rows.racesRow.loopsOut==Tryz.f3.resultTypes.toList.any (Tryz.pinned.checked.prog.loopsFrom ·)))=true:=k42
theorem aN6:((Rows.racesRow.plainKeys==Tryz.pinned.checked.prog.plainKeys))=true:=k42
theorem aN5:(Rows.racesRow.shortTexts.isNone)=true:=k42
theorem aN4:(Tryz.pinned.checked.prog.stopsHeard)=true:=k42
theorem aN3:(Tryz.pinned.checked.prog.mayEnter)=true:=k42
theorem aN2:((Rows.racesRow.lifted==Tryz.pinned.checked.prog.liftsFinal))=true:=k42
theorem aN1:((Tryz.pinned.checked.prog.make==some Rows.racesRow.make))=true:=k42
theorem aN0:((Rows.racesRow.kinds==(if Rows.racesRow.domain.isEmpty then [] else Tryz.f3.params.toList.map λt=>match Tryz.pinned.checked.prog.underlying t with|some (.int k)=>some k|_=>none)))=true:=k42
theorem aNZ:((Rows.racesRow.pinned==Rows.racesRow.pinnedBy))=true:=k42
theorem aNY:((Rows.racesRow.veiled==(Tryz.f3.params.toList++Rows.racesSpec.plain.varTypes Tryz.pinned.checked.prog++Tryz.f3.resultTypes.toList).any (Tryz.pinned.checked.prog.veiledRec ·)))=true:=k42
theorem aNX:(Rows.racesRow.veiledFits Tryz.pinned.checked.prog Tryz.f3.params.toList (Tryz.f3.params.toList++Rows.racesSpec.plain.varTypes Tryz.pinned.checked.prog++Tryz.f3.resultTypes.toList))=true:=k42
theorem closed:joinedFacts Tryz.pinned.checked.prog 3 Tryz.f3 Rows.racesSpec Rows.racesRow=true:=by unfold joinedFacts;rw [jf0,jf1,jf2,jf3,jf4,jf5,jf6,jf7,jf8,jf9,aOi,aOh,aOg,aOf,aOe,aOd,aOc,aOb,aOa,aN9,aN8,aN7,aN6,aN5,aN4,aN3,aN2,aN1,aNZ,aNY,aNX];simp only [Bool.true_and,Bool.and_true];exact aN0
theorem aQr:Tryz.pinned.checked.prog.funcNamed Rows.racesRow.func=some 3:=k42
theorem aHp:Tryz.f3.isInstance Tryz.pinned.checked.prog Rows.racesRow.origin Rows.racesRow.targs:=of_decide_eq_true k42
theorem aHl:Tryz.f3.isWrapper Tryz.pinned.checked.prog Rows.racesRow.wrapper Rows.racesRow.mainSum:=by
 unfold Func.isWrapper
 first|(rw [if_pos (by decide+kernel)];kernel_rfl)|(rw [if_neg (by decide+kernel)];exact ⟨rfl,rfl⟩)
theorem aHm:Rows.racesRow.wfByText (OpenSpec.ofChange Rows.racesSpec)=true:=k42
def har:Bool×String:=(true,"84a18f432a1ea845d9ec136a9f7b96780fe30c20c6142c245fafd7e8cf3b1b46")
theorem aHo:Tryz.pinned.checked.prog.mainIs=some (har.1,har.2.toList):=k42
theorem aHq:true=Rows.racesRow.goesBy Tryz.pinned.checked.prog:=k42
theorem aDi:true=Tryz.pinned.checked.prog.looks []:=k42
theorem aHn:Tryz.prog.funcNamed "refserve/refservelaw.Races"=some 3:=k42
end Xs
end
end Go.Proofs.YtmanpggemmgnnaaGreatDoor
