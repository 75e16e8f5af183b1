/-
  DERIVED. GIVEN WITH THE SEED: THE CARDS: each row of YtjggkpkehdnhiaaGreatDoorRows.lean that lists a variable, with what it lists TIED to the program's text (the seventh form; the later family's looks); each row that meets fmt, with fmt's text TOLD by the authors' own Lean function (tested against real Go, not proved from fmt's source: count such statements apart). THE CARD IS WHAT COUNTS. Prove the row's statement (the work); the ties are given (YtjggkpkehdnhiaaGreatDoorTie.lean); close each card by the builder's one call (the guide's Derived/Test/ToyasCard.lean, 'card_holds'). Laid BY PROGRAM, IN A SANDBOX (cutbox-door.mjs). By AI agents, Wed Nov 11 2026. No macro, syntax, notation, axiom, sorry.
-/
import Derived.Test.YtjggkpkehdnhiaaGreatDoorRows
import GoSem.ClaimSeven
namespace Go.Proofs.YtjggkpkehdnhiaaGreatDoor
namespace Rows

/-- THE TIED CARD OF 'skywaytop.TopTracks'. -/
def topTracksCard : Claim7 := { stood := { row := topTracksRow, standIns := [], harness := (true, "74d98562085f6681f41be128b2f0adf57d437f7a8ab0c20d8d444da80047e06a"), looks := false }, kinds := [], alts := [], laidByText := true, laidKinds := [.data, .data, .data], laidTests := true, laidLooks := .later }
def TopTracksCardSaid : Prop := Claim7.holds Tryz.pinned (.plain (OpenSpec.ofChange topTracksSpec)) topTracksCard

/-- THE TIED CARD OF 'skywaytop.TopLostPlots'. -/
def topLostPlotsCard : Claim7 := { stood := { row := topLostPlotsRow, standIns := [], harness := (true, "74d98562085f6681f41be128b2f0adf57d437f7a8ab0c20d8d444da80047e06a"), looks := false }, kinds := [], alts := [], laidByText := true, laidKinds := [.data, .data, .data], laidTests := true, laidLooks := .later }
def TopLostPlotsCardSaid : Prop := Claim7.holds Tryz.pinned (.plain (OpenSpec.ofChange topLostPlotsSpec)) topLostPlotsCard

/-- THE TIED CARD OF 'skywaytop.TopAlert'. -/
def topAlertCard : Claim7 := { stood := { row := topAlertRow, standIns := [], harness := (true, "74d98562085f6681f41be128b2f0adf57d437f7a8ab0c20d8d444da80047e06a"), looks := false }, kinds := [], alts := [], laidByText := true, laidKinds := [.data, .data, .data], laidTests := true, laidLooks := .later }
def TopAlertCardSaid : Prop := Claim7.holds Tryz.pinned (.plain (OpenSpec.ofChange topAlertSpec)) topAlertCard

/-- THE TIED CARD OF 'skywaytop.TopPairs'. -/
def topPairsCard : Claim7 := { stood := { row := topPairsRow, standIns := [], harness := (true, "74d98562085f6681f41be128b2f0adf57d437f7a8ab0c20d8d444da80047e06a"), looks := false }, kinds := [], alts := [], laidByText := true, laidKinds := [.data, .data, .data], laidTests := true, laidLooks := .later }
def TopPairsCardSaid : Prop := Claim7.holds Tryz.pinned (.plain (OpenSpec.ofChange topPairsSpec)) topPairsCard

/-- THE TIED CARD OF 'skywaytop.TopWire'. -/
def topWireCard : Claim7 := { stood := { row := topWireRow, standIns := [], harness := (true, "74d98562085f6681f41be128b2f0adf57d437f7a8ab0c20d8d444da80047e06a"), looks := false }, kinds := [], alts := [], laidByText := true, laidKinds := [.data, .data, .data], laidTests := true, laidLooks := .later }
def TopWireCardSaid : Prop := Claim7.holds Tryz.pinned (.plain (OpenSpec.ofChange topWireSpec)) topWireCard

/-- THE TIED CARD OF 'skywaytop.TopBias'. -/
def topBiasCard : Claim7 := { stood := { row := topBiasRow, standIns := [], harness := (true, "74d98562085f6681f41be128b2f0adf57d437f7a8ab0c20d8d444da80047e06a"), looks := false }, kinds := [], alts := [], laidByText := true, laidKinds := [.data, .data, .data], laidTests := true, laidLooks := .later }
def TopBiasCardSaid : Prop := Claim7.holds Tryz.pinned (.plain (OpenSpec.ofChange topBiasSpec)) topBiasCard

/-- THE SECOND FORM's CARD OF 'skywaytop.TopTracks'. -/
def topTracksUptoCard : Claim7 := { stood := { row := topTracksUptoRow, standIns := [], harness := (true, "74d98562085f6681f41be128b2f0adf57d437f7a8ab0c20d8d444da80047e06a"), looks := false }, kinds := [], alts := [], laidByText := true, laidKinds := [.data, .data, .data], laidTests := true, laidLooks := .later }
def TopTracksUptoCardSaid : Prop := Claim7.holds Tryz.pinned (.plain (OpenSpec.upto topTracksSpec)) topTracksUptoCard

/-- THE SECOND FORM's CARD OF 'skywaytop.TopLostPlots'. -/
def topLostPlotsUptoCard : Claim7 := { stood := { row := topLostPlotsUptoRow, standIns := [], harness := (true, "74d98562085f6681f41be128b2f0adf57d437f7a8ab0c20d8d444da80047e06a"), looks := false }, kinds := [], alts := [], laidByText := true, laidKinds := [.data, .data, .data], laidTests := true, laidLooks := .later }
def TopLostPlotsUptoCardSaid : Prop := Claim7.holds Tryz.pinned (.plain (OpenSpec.upto topLostPlotsSpec)) topLostPlotsUptoCard

/-- THE SECOND FORM's CARD OF 'skywaytop.TopAlert'. -/
def topAlertUptoCard : Claim7 := { stood := { row := topAlertUptoRow, standIns := [], harness := (true, "74d98562085f6681f41be128b2f0adf57d437f7a8ab0c20d8d444da80047e06a"), looks := false }, kinds := [], alts := [], laidByText := true, laidKinds := [.data, .data, .data], laidTests := true, laidLooks := .later }
def TopAlertUptoCardSaid : Prop := Claim7.holds Tryz.pinned (.plain (OpenSpec.upto topAlertSpec)) topAlertUptoCard

/-- THE SECOND FORM's CARD OF 'skywaytop.TopPairs'. -/
def topPairsUptoCard : Claim7 := { stood := { row := topPairsUptoRow, standIns := [], harness := (true, "74d98562085f6681f41be128b2f0adf57d437f7a8ab0c20d8d444da80047e06a"), looks := false }, kinds := [], alts := [], laidByText := true, laidKinds := [.data, .data, .data], laidTests := true, laidLooks := .later }
def TopPairsUptoCardSaid : Prop := Claim7.holds Tryz.pinned (.plain (OpenSpec.upto topPairsSpec)) topPairsUptoCard

/-- THE SECOND FORM's CARD OF 'skywaytop.TopWire'. -/
def topWireUptoCard : Claim7 := { stood := { row := topWireUptoRow, standIns := [], harness := (true, "74d98562085f6681f41be128b2f0adf57d437f7a8ab0c20d8d444da80047e06a"), looks := false }, kinds := [], alts := [], laidByText := true, laidKinds := [.data, .data, .data], laidTests := true, laidLooks := .later }
def TopWireUptoCardSaid : Prop := Claim7.holds Tryz.pinned (.plain (OpenSpec.upto topWireSpec)) topWireUptoCard

/-- THE SECOND FORM's CARD OF 'skywaytop.TopBias'. -/
def topBiasUptoCard : Claim7 := { stood := { row := topBiasUptoRow, standIns := [], harness := (true, "74d98562085f6681f41be128b2f0adf57d437f7a8ab0c20d8d444da80047e06a"), looks := false }, kinds := [], alts := [], laidByText := true, laidKinds := [.data, .data, .data], laidTests := true, laidLooks := .later }
def TopBiasUptoCardSaid : Prop := Claim7.holds Tryz.pinned (.plain (OpenSpec.upto topBiasSpec)) topBiasUptoCard
end Rows
end Go.Proofs.YtjggkpkehdnhiaaGreatDoor
