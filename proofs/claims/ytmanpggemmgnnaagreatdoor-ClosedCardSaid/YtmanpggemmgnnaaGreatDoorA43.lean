/- Closed: a part. Conditions: none. -/
import Derived.JoinedOf
import Derived.Test.YtmanpggemmgnnaaGreatDoorCards
import Derived.Test.YtmanpggemmgnnaaGreatDoorA90
set_option linter.all false
set_option maxHeartbeats 8000000
set_option maxRecDepth 1000000
namespace Go.Proofs.YtmanpggemmgnnaaGreatDoor
noncomputable section
open Go
def k43{p:Prop}(h:p:=by kernel_rfl):p:=h
namespace X4
def jf0:(Rows.closedRow.wf (OpenSpec.ofChange Rows.closedSpec))=true:=k43
def jf1:(laidOutB Tryz.pinned.checked.prog)=true:=k43
def jf2:(mapsRowed Tryz.pinned.checked.prog)=true:=k43
def jf3:(Tryz.f4.params.all (Tryz.pinned.checked.prog.readableRec ·))=true:=k43
def jf4:(namedTie Tryz.pinned.checked.prog Rows.closedRow.named Rows.closedSpec.vars)=true:=k43
def jf5:((Rows.closedRow.stops==[]))=true:=k43
def jf6:((Tryz.pinned.checked.prog.stops==[]))=true:=k43
def jf7:((Rows.closedRow.knobs==[]))=true:=k43
def jf8:((Tryz.pinned.checked.prog.stopKnobs==[]))=true:=k43
def jf9:((Rows.closedRow.inPlace==Tryz.pinned.checked.prog.inPlace 4))=true:=k43
def aOi:((Rows.closedRow.unfollowed==Tryz.pinned.checked.prog.unfollowed 4))=true:=k43
def aOh:((Rows.closedRow.recurses==Tryz.pinned.checked.prog.recurses 4))=true:=k43
def aOg:((Rows.closedRow.named==Tryz.pinned.checked.prog.varsNamed 4))=true:=k43
def aOf:((Rows.closedRow.maps==(Tryz.f4.params.toList++Rows.closedSpec.plain.varTypes Tryz.pinned.checked.prog).any (Tryz.pinned.checked.prog.mapsRec ·)))=true:=k43
def aOe:((Rows.closedRow.ifaces==(Tryz.f4.params.toList++Rows.closedSpec.plain.varTypes Tryz.pinned.checked.prog).any (Tryz.pinned.checked.prog.ifacesRec ·)))=true:=k43
def aOd:((Rows.closedRow.mapsOut==Tryz.pinned.checked.prog.mapsAmong Tryz.f4.resultTypes.toList))=true:=k43
def aOc:((Rows.closedRow.loops==(Tryz.f4.params.toList++Rows.closedSpec.plain.varTypes Tryz.pinned.checked.prog).any (Tryz.pinned.checked.prog.loopsFrom ·)))=true:=k43
def aOb:((Rows.closedRow.wideKeys==(Tryz.f4.params.toList++Rows.closedSpec.plain.varTypes Tryz.pinned.checked.prog++Tryz.f4.resultTypes.toList).any (Tryz.pinned.checked.prog.wideKeysFrom ·)))=true:=k43
def aOa:(Rows.closedSpec.vars.all (Tryz.pinned.checked.prog.varReadable ·))=true:=k43
def aN9:(Tryz.f4.resultTypes.all (λt=>Tryz.pinned.checked.prog.readableRec t&&decide (t<Tryz.pinned.checked.prog.types.size)))=true:=k43
def aN8:((Rows.closedRow.ifacesOut==Tryz.f4.resultTypes.toList.any (Tryz.pinned.checked.prog.ifacesRec ·)))=true:=k43
def aN7:((Rows.closedRow.loopsOut==Tryz.f4.resultTypes.toList.any (Tryz.pinned.checked.prog.loopsFrom ·)))=true:=k43
def aN6:((Rows.closedRow.plainKeys==Tryz.pinned.checked.prog.plainKeys))=true:=k43
def aN5:(Rows.closedRow.shortTexts.isNone)=true:=k43
def aN4:(Tryz.pinned.checked.prog.stopsHeard)=true:=k43
def aN3:(Tryz.pinned.checked.prog.mayEnter)=true:=k43
def aN2:((Rows.closedRow.lifted==Tryz.pinned.checked.prog.liftsFinal))=true:=k43
def aN1:((Tryz.pinned.checked.prog.make==some Rows.closedRow.make))=true:=k43
def aN0:((Rows.closedRow.kinds==(if Rows.closedRow.domain.isEmpty then[]else Tryz.f4.params.toList.map λt=>match Tryz.pinned.checked.prog.underlying t with|some (.int k)=>some k|_=>none)))=true:=k43
def aNZ:((Rows.closedRow.pinned==Rows.closedRow.pinnedBy))=true:=k43
def aNY:((Rows.closedRow.veiled==(Tryz.f4.params.toList++Rows.closedSpec.plain.varTypes Tryz.pinned.checked.prog++Tryz.f4.resultTypes.toList).any (Tryz.pinned.checked.prog.veiledRec ·)))=true:=k43
def aNX:(Rows.closedRow.veiledFits Tryz.pinned.checked.prog Tryz.f4.params.toList (Tryz.f4.params.toList++Rows.closedSpec.plain.varTypes Tryz.pinned.checked.prog++Tryz.f4.resultTypes.toList))=true:=k43
def closed:joinedFacts Tryz.pinned.checked.prog 4 Tryz.f4 Rows.closedSpec Rows.closedRow=true:=by unfold joinedFacts;rw[jf0,jf1,jf2,jf3,jf4,jf5,jf6,jf7,jf8,jf9,aOi,aOh,aOg,aOf,aOe,aOd,aOc,aOb,aOa,aN9,aN8,aN7,aN6,aN5,aN4,aN3,aN2,aN1,aNZ,aNY,aNX];simp only[jD,Bool.and_true];exact aN0
def aQr:Tryz.pinned.checked.prog.funcNamed Rows.closedRow.func=some 4:=k43
def aHp:Tryz.f4.isInstance Tryz.pinned.checked.prog Rows.closedRow.origin Rows.closedRow.targs:=kA k43
def aHl:Tryz.f4.isWrapper Tryz.pinned.checked.prog Rows.closedRow.wrapper Rows.closedRow.mainSum:=by
 unfold Func.isWrapper
 first|(rw[bk (by decide+kernel)];kernel_rfl)|(rw[aX (by decide+kernel)];exact⟨rfl,rfl⟩)
def aHm:Rows.closedRow.wfByText (OpenSpec.ofChange Rows.closedSpec)=true:=k43
def har:Bool×String:=(true,"84a18f432a1ea845d9ec136a9f7b96780fe30c20c6142c245fafd7e8cf3b1b46")
def aHo:Tryz.pinned.checked.prog.mainIs=some (har.1,har.2.toList):=k43
def aHq:true=Rows.closedRow.goesBy Tryz.pinned.checked.prog:=k43
def aDi:true=Tryz.pinned.checked.prog.looks []:=k43
def aHn:Tryz.prog.funcNamed "refserve/refservelaw.Closed"=some 4:=k43
end X4
