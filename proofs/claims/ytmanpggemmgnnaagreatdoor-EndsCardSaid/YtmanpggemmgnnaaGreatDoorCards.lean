/-
  DERIVED. GIVEN WITH THE SEED: THE CARDS: each row of YtmanpggemmgnnaaGreatDoorRows.lean that lists a variable, with what it lists TIED to the program's text (the seventh form; the later family's looks); each row that meets fmt, with fmt's text TOLD by the authors' own Lean function (tested against real Go, not proved from fmt's source: count such statements apart). THE CARD IS WHAT COUNTS. Prove the row's statement (the work); the ties are given (YtmanpggemmgnnaaGreatDoorTie.lean); close each card by the builder's one call (the guide's Derived/Test/ToyasCard.lean, 'card_holds'). Laid BY PROGRAM, IN A SANDBOX (cutbox-door.mjs). By AI agents, Wed Nov 11 2026. No macro, syntax, notation, axiom, sorry.
-/
import Derived.Test.YtmanpggemmgnnaaGreatDoorRows
import GoSem.ClaimSeven
namespace Go.Proofs.YtmanpggemmgnnaaGreatDoor
namespace Rows

/-- THE TIED CARD OF 'refservelaw.Races'. -/
def racesCard : Claim7 := { stood := { row := racesRow, standIns := [], harness := (true, "84a18f432a1ea845d9ec136a9f7b96780fe30c20c6142c245fafd7e8cf3b1b46"), looks := true }, kinds := [], alts := [], goes := true, laidByText := true, laidKinds := [.data, .data, .data, .data, .handle, .sentinel, .sentinel, .sentinel, .pinned], laidTests := true, laidLooks := .later }
def RacesCardSaid : Prop := Claim7.holds Tryz.pinned (.plain (OpenSpec.ofChange racesSpec)) racesCard

/-- THE TIED CARD OF 'refservelaw.Closed'. -/
def closedCard : Claim7 := { stood := { row := closedRow, standIns := [], harness := (true, "84a18f432a1ea845d9ec136a9f7b96780fe30c20c6142c245fafd7e8cf3b1b46"), looks := true }, kinds := [], alts := [], goes := true, laidByText := true, laidKinds := [.data, .data, .data, .data, .handle, .sentinel, .sentinel, .sentinel, .pinned], laidTests := true, laidLooks := .later }
def ClosedCardSaid : Prop := Claim7.holds Tryz.pinned (.plain (OpenSpec.ofChange closedSpec)) closedCard

/-- THE TIED CARD OF 'refservelaw.Ends'. -/
def endsCard : Claim7 := { stood := { row := endsRow, standIns := [], harness := (true, "84a18f432a1ea845d9ec136a9f7b96780fe30c20c6142c245fafd7e8cf3b1b46"), looks := true }, kinds := [], alts := [], goes := true, laidByText := true, laidKinds := [.data, .data, .data, .data, .handle, .sentinel, .sentinel, .sentinel, .pinned], laidTests := true, laidLooks := .later }
def EndsCardSaid : Prop := Claim7.holds Tryz.pinned (.plain (OpenSpec.ofChange endsSpec)) endsCard

/-- THE TIED CARD OF 'refservelaw.Feeds'. -/
def feedsCard : Claim7 := { stood := { row := feedsRow, standIns := [], harness := (true, "84a18f432a1ea845d9ec136a9f7b96780fe30c20c6142c245fafd7e8cf3b1b46"), looks := true }, kinds := [], alts := [], goes := true, laidByText := true, laidKinds := [.data, .data, .data, .data, .handle, .sentinel, .sentinel, .sentinel, .pinned], laidTests := true, laidLooks := .later }
def FeedsCardSaid : Prop := Claim7.holds Tryz.pinned (.plain (OpenSpec.ofChange feedsSpec)) feedsCard

/-- THE TIED CARD OF 'refservelaw.Steps'. -/
def stepsCard : Claim7 := { stood := { row := stepsRow, standIns := [], harness := (true, "84a18f432a1ea845d9ec136a9f7b96780fe30c20c6142c245fafd7e8cf3b1b46"), looks := true }, kinds := [], alts := [], goes := true, laidByText := true, laidKinds := [.data, .data, .data, .data, .handle, .sentinel, .sentinel, .sentinel, .pinned], laidTests := true, laidLooks := .later }
def StepsCardSaid : Prop := Claim7.holds Tryz.pinned (.plain (OpenSpec.ofChange stepsSpec)) stepsCard

/-- THE TIED CARD OF 'refservelaw.Drops'. -/
def dropsCard : Claim7 := { stood := { row := dropsRow, standIns := [], harness := (true, "84a18f432a1ea845d9ec136a9f7b96780fe30c20c6142c245fafd7e8cf3b1b46"), looks := true }, kinds := [], alts := [], goes := true, laidByText := true, laidKinds := [.data, .data, .data, .data, .handle, .sentinel, .sentinel, .sentinel, .pinned], laidTests := true, laidLooks := .later }
def DropsCardSaid : Prop := Claim7.holds Tryz.pinned (.plain (OpenSpec.ofChange dropsSpec)) dropsCard

/-- THE TIED CARD OF 'refservelaw.Replies'. -/
def repliesCard : Claim7 := { stood := { row := repliesRow, standIns := [], harness := (true, "84a18f432a1ea845d9ec136a9f7b96780fe30c20c6142c245fafd7e8cf3b1b46"), looks := true }, kinds := [], alts := [], goes := true, laidByText := true, laidKinds := [.data, .data, .data, .data, .handle, .sentinel, .sentinel, .sentinel, .pinned], laidTests := true, laidLooks := .later }
def RepliesCardSaid : Prop := Claim7.holds Tryz.pinned (.plain (OpenSpec.ofChange repliesSpec)) repliesCard

/-- THE TIED CARD OF 'refservelaw.Tells'. -/
def tellsCard : Claim7 := { stood := { row := tellsRow, standIns := [], harness := (true, "84a18f432a1ea845d9ec136a9f7b96780fe30c20c6142c245fafd7e8cf3b1b46"), looks := true }, kinds := [], alts := [], goes := true, laidByText := true, laidKinds := [.data, .data, .data, .data, .handle, .sentinel, .sentinel, .sentinel, .pinned], laidTests := true, laidLooks := .later }
def TellsCardSaid : Prop := Claim7.holds Tryz.pinned (.plain (OpenSpec.ofChange tellsSpec)) tellsCard

/-- THE TIED CARD OF 'refservelaw.Reaches'. -/
def reachesCard : Claim7 := { stood := { row := reachesRow, standIns := [], harness := (true, "84a18f432a1ea845d9ec136a9f7b96780fe30c20c6142c245fafd7e8cf3b1b46"), looks := true }, kinds := [], alts := [], goes := true, laidByText := true, laidKinds := [.data, .data, .data, .data, .handle, .sentinel, .sentinel, .sentinel, .pinned], laidTests := true, laidLooks := .later }
def ReachesCardSaid : Prop := Claim7.holds Tryz.pinned (.plain (OpenSpec.ofChange reachesSpec)) reachesCard

/-- THE TIED CARD OF 'refservelaw.All'. -/
def allCard : Claim7 := { stood := { row := allRow, standIns := [], harness := (true, "84a18f432a1ea845d9ec136a9f7b96780fe30c20c6142c245fafd7e8cf3b1b46"), looks := true }, kinds := [], alts := [], goes := true, laidByText := true, laidKinds := [.data, .data, .data, .data, .handle, .sentinel, .sentinel, .sentinel, .pinned], laidTests := true, laidLooks := .later }
def AllCardSaid : Prop := Claim7.holds Tryz.pinned (.plain (OpenSpec.ofChange allSpec)) allCard
end Rows
end Go.Proofs.YtmanpggemmgnnaaGreatDoor
