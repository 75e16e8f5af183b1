/-
  DERIVED. GIVEN WITH THE SEED: THE CARDS: each row of YtfmaklicdchnoaaDoorRows.lean that lists a variable, with what it lists TIED to the program's text (the seventh form; the later family's looks); each row that meets fmt, with fmt's text TOLD by the authors' own Lean function (tested against real Go, not proved from fmt's source: count such statements apart). THE CARD IS WHAT COUNTS. Prove the row's statement (the work); the ties are given (YtfmaklicdchnoaaDoorTie.lean); close each card by the builder's one call (the guide's Derived/Test/ToyasCard.lean, 'card_holds'). Laid BY PROGRAM, IN A SANDBOX (cutbox-door.mjs). By AI agents, Wed Nov 11 2026. No macro, syntax, notation, axiom, sorry.
-/
import Derived.Test.YtfmaklicdchnoaaDoorRows
import GoSem.ClaimSeven
namespace Go.Proofs.YtfmaklicdchnoaaDoor
namespace Rows

/-- THE TIED CARD OF 'skywaykeep2.RadarBack'. -/
def radarBackCard : Claim7 := { stood := { row := radarBackRow, standIns := [], harness := (true, "b0b5ca34a85fddddbb3134ab877ef8243a6d6d04a9a4333912ce20047be24bec"), looks := false }, kinds := [], alts := [], laidByText := true, laidKinds := [.data, .data, .data], laidTests := true, laidLooks := .later }
def RadarBackCardSaid : Prop := Claim7.holds Tryd.pinned (.plain (OpenSpec.ofChange radarBackSpec)) radarBackCard

/-- THE TIED CARD OF 'skywaykeep2.RadarErrors'. -/
def radarErrorsCard : Claim7 := { stood := { row := radarErrorsRow, standIns := [], harness := (true, "b0b5ca34a85fddddbb3134ab877ef8243a6d6d04a9a4333912ce20047be24bec"), looks := false }, kinds := [], alts := [], laidByText := true, laidKinds := [.data, .data, .data], laidTests := true, laidLooks := .later }
def RadarErrorsCardSaid : Prop := Claim7.holds Tryd.pinned (.plain (OpenSpec.ofChange radarErrorsSpec)) radarErrorsCard

/-- THE SECOND FORM's CARD OF 'skywaykeep2.RadarBack'. -/
def radarBackUptoCard : Claim7 := { stood := { row := radarBackUptoRow, standIns := [], harness := (true, "b0b5ca34a85fddddbb3134ab877ef8243a6d6d04a9a4333912ce20047be24bec"), looks := false }, kinds := [], alts := [], laidByText := true, laidKinds := [.data, .data, .data], laidTests := true, laidLooks := .later }
def RadarBackUptoCardSaid : Prop := Claim7.holds Tryd.pinned (.plain (OpenSpec.upto radarBackSpec)) radarBackUptoCard

/-- THE SECOND FORM's CARD OF 'skywaykeep2.RadarErrors'. -/
def radarErrorsUptoCard : Claim7 := { stood := { row := radarErrorsUptoRow, standIns := [], harness := (true, "b0b5ca34a85fddddbb3134ab877ef8243a6d6d04a9a4333912ce20047be24bec"), looks := false }, kinds := [], alts := [], laidByText := true, laidKinds := [.data, .data, .data], laidTests := true, laidLooks := .later }
def RadarErrorsUptoCardSaid : Prop := Claim7.holds Tryd.pinned (.plain (OpenSpec.upto radarErrorsSpec)) radarErrorsUptoCard
end Rows
end Go.Proofs.YtfmaklicdchnoaaDoor
