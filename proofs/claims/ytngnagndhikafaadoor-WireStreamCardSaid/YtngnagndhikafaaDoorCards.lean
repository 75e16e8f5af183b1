/-
  DERIVED. GIVEN WITH THE SEED: THE CARDS: each row of YtngnagndhikafaaDoorRows.lean that lists a variable, with what it lists TIED to the program's text (the seventh form; the later family's looks); each row that meets fmt, with fmt's text TOLD by the authors' own Lean function (tested against real Go, not proved from fmt's source: count such statements apart). THE CARD IS WHAT COUNTS. Prove the row's statement (the work); the ties are given (YtngnagndhikafaaDoorTie.lean); close each card by the builder's one call (the guide's Derived/Test/ToyasCard.lean, 'card_holds'). Laid BY PROGRAM, IN A SANDBOX (cutbox-door.mjs). By AI agents, Wed Nov 11 2026. No macro, syntax, notation, axiom, sorry.
-/
import Derived.Test.YtngnagndhikafaaDoorRows
import GoSem.ClaimSeven
namespace Go.Proofs.YtngnagndhikafaaDoor
namespace Rows

/-- THE TIED CARD OF 'skywaykeep2.WireStream'. -/
def wireStreamCard : Claim7 := { stood := { row := wireStreamRow, standIns := [], harness := (true, "1da4b3175d454bf9b46deb20e197c8cd284217f7d8f7bc86ca5f1e050296169b"), looks := false }, kinds := [], alts := [], laidByText := true, laidKinds := [.data, .pinned], laidTests := true, laidLooks := .later }
def WireStreamCardSaid : Prop := Claim7.holds Tryd.pinned (.plain (OpenSpec.ofChange wireStreamSpec)) wireStreamCard

/-- THE SECOND FORM's CARD OF 'skywaykeep2.WireStream'. -/
def wireStreamUptoCard : Claim7 := { stood := { row := wireStreamUptoRow, standIns := [], harness := (true, "1da4b3175d454bf9b46deb20e197c8cd284217f7d8f7bc86ca5f1e050296169b"), looks := false }, kinds := [], alts := [], laidByText := true, laidKinds := [.data, .pinned], laidTests := true, laidLooks := .later }
def WireStreamUptoCardSaid : Prop := Claim7.holds Tryd.pinned (.plain (OpenSpec.upto wireStreamSpec)) wireStreamUptoCard
end Rows
end Go.Proofs.YtngnagndhikafaaDoor
