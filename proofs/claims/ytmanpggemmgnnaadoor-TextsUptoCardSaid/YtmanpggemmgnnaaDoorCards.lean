/-
  DERIVED. GIVEN WITH THE SEED: THE CARDS: each row of YtmanpggemmgnnaaDoorRows.lean that lists a variable, with what it lists TIED to the program's text (the seventh form; the later family's looks); each row that meets fmt, with fmt's text TOLD by the authors' own Lean function (tested against real Go, not proved from fmt's source: count such statements apart). THE CARD IS WHAT COUNTS. Prove the row's statement (the work); the ties are given (YtmanpggemmgnnaaDoorTie.lean); close each card by the builder's one call (the guide's Derived/Test/ToyasCard.lean, 'card_holds'). Laid BY PROGRAM, IN A SANDBOX (cutbox-door.mjs). By AI agents, Wed Nov 11 2026. No macro, syntax, notation, axiom, sorry.
-/
import Derived.Test.YtmanpggemmgnnaaDoorRows
import GoSem.ClaimSeven
namespace Go.Proofs.YtmanpggemmgnnaaDoor
namespace Rows

/-- THE TIED CARD OF 'refservelaw.Texts'. -/
def textsCard : Claim7 := { stood := { row := textsRow, standIns := [], harness := (true, "bb16576cc8d47b4c744c08f21e6cf0c2e916d9db1267debfae7b76ed35d60a78"), looks := false }, kinds := [], alts := [], laidByText := true, laidKinds := [.data, .data, .data], laidTests := true, laidLooks := .later }
def TextsCardSaid : Prop := Claim7.holds Tryd.pinned (.plain (OpenSpec.ofChange textsSpec)) textsCard

/-- THE SECOND FORM's CARD OF 'refservelaw.Texts'. -/
def textsUptoCard : Claim7 := { stood := { row := textsUptoRow, standIns := [], harness := (true, "bb16576cc8d47b4c744c08f21e6cf0c2e916d9db1267debfae7b76ed35d60a78"), looks := false }, kinds := [], alts := [], laidByText := true, laidKinds := [.data, .data, .data], laidTests := true, laidLooks := .later }
def TextsUptoCardSaid : Prop := Claim7.holds Tryd.pinned (.plain (OpenSpec.upto textsSpec)) textsUptoCard
end Rows
end Go.Proofs.YtmanpggemmgnnaaDoor
