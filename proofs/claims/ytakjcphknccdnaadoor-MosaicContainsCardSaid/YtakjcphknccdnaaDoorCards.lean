/-
  DERIVED. GIVEN WITH THE SEED: THE CARDS: each row of YtakjcphknccdnaaDoorRows.lean that lists a variable, with what it lists TIED to the program's text (the seventh form; the later family's looks); each row that meets fmt, with fmt's text TOLD by the authors' own Lean function (tested against real Go, not proved from fmt's source: count such statements apart). THE CARD IS WHAT COUNTS. Prove the row's statement (the work); the ties are given (YtakjcphknccdnaaDoorTie.lean); close each card by the builder's one call (the guide's Derived/Test/ToyasCard.lean, 'card_holds'). Laid BY PROGRAM, IN A SANDBOX (cutbox-door.mjs). By AI agents, Wed Nov 11 2026. No macro, syntax, notation, axiom, sorry.
-/
import Derived.Test.YtakjcphknccdnaaDoorRows
import GoSem.ClaimSeven
namespace Go.Proofs.YtakjcphknccdnaaDoor
namespace Rows

/-- THE TIED CARD OF 'skywaykeep2.MosaicContains'. -/
def mosaicContainsCard : Claim7 := { stood := { row := mosaicContainsRow, standIns := [], harness := (true, "1cf561bae8b8884b2887d71d5841a5e7659e321e0afa89cc3f5fa746dd1027e1"), looks := false }, kinds := [], alts := [], laidByText := true, laidKinds := [.data, .data, .data], laidTests := true, laidLooks := .later }
def MosaicContainsCardSaid : Prop := Claim7.holds Tryd.pinned (.plain (OpenSpec.ofChange mosaicContainsSpec)) mosaicContainsCard

/-- THE SECOND FORM's CARD OF 'skywaykeep2.MosaicContains'. -/
def mosaicContainsUptoCard : Claim7 := { stood := { row := mosaicContainsUptoRow, standIns := [], harness := (true, "1cf561bae8b8884b2887d71d5841a5e7659e321e0afa89cc3f5fa746dd1027e1"), looks := false }, kinds := [], alts := [], laidByText := true, laidKinds := [.data, .data, .data], laidTests := true, laidLooks := .later }
def MosaicContainsUptoCardSaid : Prop := Claim7.holds Tryd.pinned (.plain (OpenSpec.upto mosaicContainsSpec)) mosaicContainsUptoCard
end Rows
end Go.Proofs.YtakjcphknccdnaaDoor
