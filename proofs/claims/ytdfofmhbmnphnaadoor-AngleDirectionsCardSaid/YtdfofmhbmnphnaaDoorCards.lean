/-
  DERIVED. GIVEN WITH THE SEED: THE CARDS: each row of YtdfofmhbmnphnaaDoorRows.lean that lists a variable, with what it lists TIED to the program's text (the seventh form; the later family's looks); each row that meets fmt, with fmt's text TOLD by the authors' own Lean function (tested against real Go, not proved from fmt's source: count such statements apart). THE CARD IS WHAT COUNTS. Prove the row's statement (the work); the ties are given (YtdfofmhbmnphnaaDoorTie.lean); close each card by the builder's one call (the guide's Derived/Test/ToyasCard.lean, 'card_holds'). Laid BY PROGRAM, IN A SANDBOX (cutbox-door.mjs). By AI agents, Wed Nov 11 2026. No macro, syntax, notation, axiom, sorry.
-/
import Derived.Test.YtdfofmhbmnphnaaDoorRows
import GoSem.ClaimSeven
namespace Go.Proofs.YtdfofmhbmnphnaaDoor
namespace Rows

/-- THE TIED CARD OF 'skywaylaw1.AngleDirections'. -/
def angleDirectionsCard : Claim7 := { stood := { row := angleDirectionsRow, standIns := [], harness := (true, "3158eec162b4951c01ce94ce2e720352d332ff937b79480d6dd364285432c0f5"), looks := false }, kinds := [], alts := [], laidByText := true, laidKinds := [.data, .data, .data], laidTests := true, laidLooks := .later }
def AngleDirectionsCardSaid : Prop := Claim7.holds Tryd.pinned (.plain (OpenSpec.ofChange angleDirectionsSpec)) angleDirectionsCard

/-- THE SECOND FORM's CARD OF 'skywaylaw1.AngleDirections'. -/
def angleDirectionsUptoCard : Claim7 := { stood := { row := angleDirectionsUptoRow, standIns := [], harness := (true, "3158eec162b4951c01ce94ce2e720352d332ff937b79480d6dd364285432c0f5"), looks := false }, kinds := [], alts := [], laidByText := true, laidKinds := [.data, .data, .data], laidTests := true, laidLooks := .later }
def AngleDirectionsUptoCardSaid : Prop := Claim7.holds Tryd.pinned (.plain (OpenSpec.upto angleDirectionsSpec)) angleDirectionsUptoCard
end Rows
end Go.Proofs.YtdfofmhbmnphnaaDoor
