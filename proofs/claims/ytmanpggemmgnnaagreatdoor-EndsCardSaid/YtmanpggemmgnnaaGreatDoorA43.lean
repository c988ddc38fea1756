/- Ends: a part. Conditions: none. -/
import Derived.JoinedOf
import Derived.Test.YtmanpggemmgnnaaGreatDoorCards
import Derived.Test.YtmanpggemmgnnaaGreatDoorA90
set_option linter.all false
set_option maxHeartbeats 8000000
set_option maxRecDepth 1000000
namespace Go.Proofs.YtmanpggemmgnnaaGreatDoor
noncomputable section
open Go
def yq{p:Prop}(h:p:=by kernel_rfl):p:=h
namespace X5
def jf0:(Rows.endsRow.wf (OpenSpec.ofChange Rows.endsSpec))=true:=yq
def jf1:(laidOutB Tryz.pinned.checked.prog)=true:=yq
def jf2:(mapsRowed Tryz.pinned.checked.prog)=true:=yq
def jf3:(Tryz.f5.params.all (Tryz.pinned.checked.prog.readableRec ·))=true:=yq
def jf4:(namedTie Tryz.pinned.checked.prog Rows.endsRow.named Rows.endsSpec.vars)=true:=yq
def jf5:((Rows.endsRow.stops==[]))=true:=yq
def jf6:((Tryz.pinned.checked.prog.stops==[]))=true:=yq
def jf7:((Rows.endsRow.knobs==[]))=true:=yq
def jf8:((Tryz.pinned.checked.prog.stopKnobs==[]))=true:=yq
def jf9:((Rows.endsRow.inPlace==Tryz.pinned.checked.prog.inPlace 5))=true:=yq
def aOi:((Rows.endsRow.unfollowed==Tryz.pinned.checked.prog.unfollowed 5))=true:=yq
def aOh:((Rows.endsRow.recurses==Tryz.pinned.checked.prog.recurses 5))=true:=yq
def aOg:((Rows.endsRow.named==Tryz.pinned.checked.prog.varsNamed 5))=true:=yq
def aOf:((Rows.endsRow.maps==(Tryz.f5.params.toList++Rows.endsSpec.plain.varTypes Tryz.pinned.checked.prog).any (Tryz.pinned.checked.prog.mapsRec ·)))=true:=yq
def aOe:((Rows.endsRow.ifaces==(Tryz.f5.params.toList++Rows.endsSpec.plain.varTypes Tryz.pinned.checked.prog).any (Tryz.pinned.checked.prog.ifacesRec ·)))=true:=yq
def aOd:((Rows.endsRow.mapsOut==Tryz.pinned.checked.prog.mapsAmong Tryz.f5.resultTypes.toList))=true:=yq
def aOc:((Rows.endsRow.loops==(Tryz.f5.params.toList++Rows.endsSpec.plain.varTypes Tryz.pinned.checked.prog).any (Tryz.pinned.checked.prog.loopsFrom ·)))=true:=yq
def aOb:((Rows.endsRow.wideKeys==(Tryz.f5.params.toList++Rows.endsSpec.plain.varTypes Tryz.pinned.checked.prog++Tryz.f5.resultTypes.toList).any (Tryz.pinned.checked.prog.wideKeysFrom ·)))=true:=yq
def aOa:(Rows.endsSpec.vars.all (Tryz.pinned.checked.prog.varReadable ·))=true:=yq
def aN9:(Tryz.f5.resultTypes.all (λt=>Tryz.pinned.checked.prog.readableRec t&&decide (t<Tryz.pinned.checked.prog.types.size)))=true:=yq
def aN8:((Rows.endsRow.ifacesOut==Tryz.f5.resultTypes.toList.any (Tryz.pinned.checked.prog.ifacesRec ·)))=true:=yq
def aN7:((Rows.endsRow.loopsOut==Tryz.f5.resultTypes.toList.any (Tryz.pinned.checked.prog.loopsFrom ·)))=true:=yq
def aN6:((Rows.endsRow.plainKeys==Tryz.pinned.checked.prog.plainKeys))=true:=yq
def aN5:(Rows.endsRow.shortTexts.isNone)=true:=yq
def aN4:(Tryz.pinned.checked.prog.stopsHeard)=true:=yq
def aN3:(Tryz.pinned.checked.prog.mayEnter)=true:=yq
def aN2:((Rows.endsRow.lifted==Tryz.pinned.checked.prog.liftsFinal))=true:=yq
def aN1:((Tryz.pinned.checked.prog.make==some Rows.endsRow.make))=true:=yq
def aN0:((Rows.endsRow.kinds==(if Rows.endsRow.domain.isEmpty then[]else Tryz.f5.params.toList.map λt=>match Tryz.pinned.checked.prog.underlying t with|some (.int k)=>some k|_=>none)))=true:=yq
def aNZ:((Rows.endsRow.pinned==Rows.endsRow.pinnedBy))=true:=yq
def aNY:((Rows.endsRow.veiled==(Tryz.f5.params.toList++Rows.endsSpec.plain.varTypes Tryz.pinned.checked.prog++Tryz.f5.resultTypes.toList).any (Tryz.pinned.checked.prog.veiledRec ·)))=true:=yq
def aNX:(Rows.endsRow.veiledFits Tryz.pinned.checked.prog Tryz.f5.params.toList (Tryz.f5.params.toList++Rows.endsSpec.plain.varTypes Tryz.pinned.checked.prog++Tryz.f5.resultTypes.toList))=true:=yq
def closed:joinedFacts Tryz.pinned.checked.prog 5 Tryz.f5 Rows.endsSpec Rows.endsRow=true:=by unfold joinedFacts;rw[jf0,jf1,jf2,jf3,jf4,jf5,jf6,jf7,jf8,jf9,aOi,aOh,aOg,aOf,aOe,aOd,aOc,aOb,aOa,aN9,aN8,aN7,aN6,aN5,aN4,aN3,aN2,aN1,aNZ,aNY,aNX];simp only[jD,Bool.and_true];exact aN0
def aQr:Tryz.pinned.checked.prog.funcNamed Rows.endsRow.func=some 5:=yq
def aHp:Tryz.f5.isInstance Tryz.pinned.checked.prog Rows.endsRow.origin Rows.endsRow.targs:=kA yq
def aHl:Tryz.f5.isWrapper Tryz.pinned.checked.prog Rows.endsRow.wrapper Rows.endsRow.mainSum:=by
 unfold Func.isWrapper
 first|(rw[bk (by decide+kernel)];kernel_rfl)|(rw[aX (by decide+kernel)];exact⟨rfl,rfl⟩)
def aHm:Rows.endsRow.wfByText (OpenSpec.ofChange Rows.endsSpec)=true:=yq
def har:Bool×String:=(true,"84a18f432a1ea845d9ec136a9f7b96780fe30c20c6142c245fafd7e8cf3b1b46")
def aHo:Tryz.pinned.checked.prog.mainIs=some (har.1,har.2.toList):=yq
def aHq:true=Rows.endsRow.goesBy Tryz.pinned.checked.prog:=yq
def aDi:true=Tryz.pinned.checked.prog.looks []:=yq
def aHn:Tryz.prog.funcNamed "refserve/refservelaw.Ends"=some 5:=yq
end X5
