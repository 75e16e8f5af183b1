/-
  No cell of these rows narrows 'for every input' (looked for: loops, veiled, ifaces, maps, wideKeys, modest, calm, conditions, laid).
  DERIVED. THE GIVEN ROWS OF THIS SEAT. 12 by the template 'for every input the law returns true; each argument reads behind the call as it read before'; 0 by the template 'total and deterministic' (their statements: YtkjdmkgacmkpjaaTotals.lean).
  GIVEN WITH THE SEED: the statements are not yours to turn. If you find one false, say at which input.
  Laid BY PROGRAM, IN A SANDBOX (cutbox-rows.mjs): the forced cells as the released guide's own fill.sh prints them over the translation 2b4de74757e4accb… (all of the seat's roots in one cut). By AI agents, Wed Nov 11 2026. No macro, syntax, notation, axiom, sorry.
-/
import Derived.Test.YtkjdmkgacmkpjaaChecked
import GoSem.Claim
import GoSem.ClaimJoined
import GoSem.ClaimMapViews
import Derived.JoinedTies
import Derived.KernelRfl
namespace Go.Proofs.Ytkjdmkgacmkpjaa
/- THE CELL 'sum', in the pinned program and in every row, IS THE sha256 OF THE DUMP (.gsa) THAT YtkjdmkgacmkpjaaProg.lean LOADS. Nothing in Lean hashes anything: it is a label: what it is worth is what the hold of that sum in a sandbox is worth. -/
noncomputable def Try.pinned : Pinned := { name := "ytkjdmkgacmkpjaa", sum := "2b4de74757e4accb5239df32348a7b8a8d6a0468371555055065ab7c3138823c", checked := Try.checked }
namespace Rows
def none {H : Type} : Left H := { results := [], args := [] }

/-- 'skywaykeep2.CoastAhead': WHATEVER THE INPUT: true; the input reads as it did. -/
def coastAheadSpec : ChangeSpec := { name := "coastAhead", fn := fun _ => fun
  | [d1, d2, d3, d4] => { results := [.lit (.bool true)], args := [d1, d2, d3, d4] }
  | _ => none }
def coastAheadRow : OpenClaim := { program := "ytkjdmkgacmkpjaa", sum := "2b4de74757e4accb5239df32348a7b8a8d6a0468371555055065ab7c3138823c", func := "skyway/skywaykeep2.CoastAhead", spec := "coastAhead", apart := false }
def CoastAheadSaid : Prop := coastAheadRow.holds Try.pinned (OpenSpec.ofChange coastAheadSpec)

/-- ITS FALSE NEIGHBOUR: 'it returns false'. Refute it at one input. -/
def coastAheadWrong : ChangeSpec := { name := "coastAhead", fn := fun _ => fun
  | [d1, d2, d3, d4] => { results := [.lit (.bool false)], args := [d1, d2, d3, d4] }
  | _ => none }
def CoastAheadWrongFalsely : Prop := coastAheadRow.holds Try.pinned (OpenSpec.ofChange coastAheadWrong)

/-- 'skywaykeep2.AlertSure': WHATEVER THE INPUT: true; the input reads as it did. -/
def alertSureSpec : ChangeSpec := { name := "alertSure", fn := fun _ => fun
  | [d1, d2, d3, d4, d5] => { results := [.lit (.bool true)], args := [d1, d2, d3, d4, d5] }
  | _ => none }
def alertSureRow : OpenClaim := { program := "ytkjdmkgacmkpjaa", sum := "2b4de74757e4accb5239df32348a7b8a8d6a0468371555055065ab7c3138823c", func := "skyway/skywaykeep2.AlertSure", spec := "alertSure", unfollowed := true, recurses := true, apart := false }
def AlertSureSaid : Prop := alertSureRow.holds Try.pinned (OpenSpec.ofChange alertSureSpec)

/-- ITS FALSE NEIGHBOUR: 'it returns false'. Refute it at one input. -/
def alertSureWrong : ChangeSpec := { name := "alertSure", fn := fun _ => fun
  | [d1, d2, d3, d4, d5] => { results := [.lit (.bool false)], args := [d1, d2, d3, d4, d5] }
  | _ => none }
def AlertSureWrongFalsely : Prop := alertSureRow.holds Try.pinned (OpenSpec.ofChange alertSureWrong)

/-- 'skywaykeep2.AlertPairs': WHATEVER THE INPUT: true; the input reads as it did. -/
def alertPairsSpec : ChangeSpec := { name := "alertPairs", fn := fun _ => fun
  | [d1, d2, d3] => { results := [.lit (.bool true)], args := [d1, d2, d3] }
  | _ => none }
def alertPairsRow : OpenClaim := { program := "ytkjdmkgacmkpjaa", sum := "2b4de74757e4accb5239df32348a7b8a8d6a0468371555055065ab7c3138823c", func := "skyway/skywaykeep2.AlertPairs", spec := "alertPairs", unfollowed := true, recurses := true, apart := false }
def AlertPairsSaid : Prop := alertPairsRow.holds Try.pinned (OpenSpec.ofChange alertPairsSpec)

/-- ITS FALSE NEIGHBOUR: 'it returns false'. Refute it at one input. -/
def alertPairsWrong : ChangeSpec := { name := "alertPairs", fn := fun _ => fun
  | [d1, d2, d3] => { results := [.lit (.bool false)], args := [d1, d2, d3] }
  | _ => none }
def AlertPairsWrongFalsely : Prop := alertPairsRow.holds Try.pinned (OpenSpec.ofChange alertPairsWrong)

/-- 'skywaykeep2.FilterGains': WHATEVER THE INPUT: true; the input reads as it did. -/
def filterGainsSpec : ChangeSpec := { name := "filterGains", fn := fun _ => fun
  | [d1, d2, d3] => { results := [.lit (.bool true)], args := [d1, d2, d3] }
  | _ => none }
def filterGainsRow : OpenClaim := { program := "ytkjdmkgacmkpjaa", sum := "2b4de74757e4accb5239df32348a7b8a8d6a0468371555055065ab7c3138823c", func := "skyway/skywaykeep2.FilterGains", spec := "filterGains", apart := false }
def FilterGainsSaid : Prop := filterGainsRow.holds Try.pinned (OpenSpec.ofChange filterGainsSpec)

/-- ITS FALSE NEIGHBOUR: 'it returns false'. Refute it at one input. -/
def filterGainsWrong : ChangeSpec := { name := "filterGains", fn := fun _ => fun
  | [d1, d2, d3] => { results := [.lit (.bool false)], args := [d1, d2, d3] }
  | _ => none }
def FilterGainsWrongFalsely : Prop := filterGainsRow.holds Try.pinned (OpenSpec.ofChange filterGainsWrong)

/-- 'skywaykeep2.FuseTracks': WHATEVER THE INPUT: true; the input reads as it did. -/
def fuseTracksSpec : ChangeSpec := { name := "fuseTracks", fn := fun _ => fun
  | [d1, d2] => { results := [.lit (.bool true)], args := [d1, d2] }
  | _ => none }
def fuseTracksRow : OpenClaim := { program := "ytkjdmkgacmkpjaa", sum := "2b4de74757e4accb5239df32348a7b8a8d6a0468371555055065ab7c3138823c", func := "skyway/skywaykeep2.FuseTracks", spec := "fuseTracks", unfollowed := true, recurses := true, apart := false }
def FuseTracksSaid : Prop := fuseTracksRow.holds Try.pinned (OpenSpec.ofChange fuseTracksSpec)

/-- ITS FALSE NEIGHBOUR: 'it returns false'. Refute it at one input. -/
def fuseTracksWrong : ChangeSpec := { name := "fuseTracks", fn := fun _ => fun
  | [d1, d2] => { results := [.lit (.bool false)], args := [d1, d2] }
  | _ => none }
def FuseTracksWrongFalsely : Prop := fuseTracksRow.holds Try.pinned (OpenSpec.ofChange fuseTracksWrong)

/-- 'skywaykeep2.FilterHolds': WHATEVER THE INPUT: true; the input reads as it did. -/
def filterHoldsSpec : ChangeSpec := { name := "filterHolds", fn := fun _ => fun
  | [d1, d2, d3, d4, d5, d6, d7, d8, d9] => { results := [.lit (.bool true)], args := [d1, d2, d3, d4, d5, d6, d7, d8, d9] }
  | _ => none }
def filterHoldsRow : OpenClaim := { program := "ytkjdmkgacmkpjaa", sum := "2b4de74757e4accb5239df32348a7b8a8d6a0468371555055065ab7c3138823c", func := "skyway/skywaykeep2.FilterHolds", spec := "filterHolds", apart := false }
def FilterHoldsSaid : Prop := filterHoldsRow.holds Try.pinned (OpenSpec.ofChange filterHoldsSpec)

/-- ITS FALSE NEIGHBOUR: 'it returns false'. Refute it at one input. -/
def filterHoldsWrong : ChangeSpec := { name := "filterHolds", fn := fun _ => fun
  | [d1, d2, d3, d4, d5, d6, d7, d8, d9] => { results := [.lit (.bool false)], args := [d1, d2, d3, d4, d5, d6, d7, d8, d9] }
  | _ => none }
def FilterHoldsWrongFalsely : Prop := filterHoldsRow.holds Try.pinned (OpenSpec.ofChange filterHoldsWrong)

/-- 'skywaykeep2.FilterContains': WHATEVER THE INPUT: true; the input reads as it did. -/
def filterContainsSpec : ChangeSpec := { name := "filterContains", fn := fun _ => fun
  | [d1, d2] => { results := [.lit (.bool true)], args := [d1, d2] }
  | _ => none }
def filterContainsRow : OpenClaim := { program := "ytkjdmkgacmkpjaa", sum := "2b4de74757e4accb5239df32348a7b8a8d6a0468371555055065ab7c3138823c", func := "skyway/skywaykeep2.FilterContains", spec := "filterContains", apart := false }
def FilterContainsSaid : Prop := filterContainsRow.holds Try.pinned (OpenSpec.ofChange filterContainsSpec)

/-- ITS FALSE NEIGHBOUR: 'it returns false'. Refute it at one input. -/
def filterContainsWrong : ChangeSpec := { name := "filterContains", fn := fun _ => fun
  | [d1, d2] => { results := [.lit (.bool false)], args := [d1, d2] }
  | _ => none }
def FilterContainsWrongFalsely : Prop := filterContainsRow.holds Try.pinned (OpenSpec.ofChange filterContainsWrong)

/-- 'skywaykeep2.AlertNeverLate': WHATEVER THE INPUT: true; the input reads as it did. -/
def alertNeverLateSpec : ChangeSpec := { name := "alertNeverLate", fn := fun _ => fun
  | [d1, d2, d3, d4, d5, d6, d7, d8, d9, d10] => { results := [.lit (.bool true)], args := [d1, d2, d3, d4, d5, d6, d7, d8, d9, d10] }
  | _ => none }
def alertNeverLateRow : OpenClaim := { program := "ytkjdmkgacmkpjaa", sum := "2b4de74757e4accb5239df32348a7b8a8d6a0468371555055065ab7c3138823c", func := "skyway/skywaykeep2.AlertNeverLate", spec := "alertNeverLate", unfollowed := true, recurses := true, apart := false }
def AlertNeverLateSaid : Prop := alertNeverLateRow.holds Try.pinned (OpenSpec.ofChange alertNeverLateSpec)

/-- ITS FALSE NEIGHBOUR: 'it returns false'. Refute it at one input. -/
def alertNeverLateWrong : ChangeSpec := { name := "alertNeverLate", fn := fun _ => fun
  | [d1, d2, d3, d4, d5, d6, d7, d8, d9, d10] => { results := [.lit (.bool false)], args := [d1, d2, d3, d4, d5, d6, d7, d8, d9, d10] }
  | _ => none }
def AlertNeverLateWrongFalsely : Prop := alertNeverLateRow.holds Try.pinned (OpenSpec.ofChange alertNeverLateWrong)

/-- 'skywaykeep2.TerrainGrows': WHATEVER THE INPUT: true; the input reads as it did. -/
def terrainGrowsSpec : ChangeSpec := { name := "terrainGrows", fn := fun _ => fun
  | [d1, d2, d3, d4, d5] => { results := [.lit (.bool true)], args := [d1, d2, d3, d4, d5] }
  | _ => none }
def terrainGrowsRow : OpenClaim := { program := "ytkjdmkgacmkpjaa", sum := "2b4de74757e4accb5239df32348a7b8a8d6a0468371555055065ab7c3138823c", func := "skyway/skywaykeep2.TerrainGrows", spec := "terrainGrows", apart := false }
def TerrainGrowsSaid : Prop := terrainGrowsRow.holds Try.pinned (OpenSpec.ofChange terrainGrowsSpec)

/-- ITS FALSE NEIGHBOUR: 'it returns false'. Refute it at one input. -/
def terrainGrowsWrong : ChangeSpec := { name := "terrainGrows", fn := fun _ => fun
  | [d1, d2, d3, d4, d5] => { results := [.lit (.bool false)], args := [d1, d2, d3, d4, d5] }
  | _ => none }
def TerrainGrowsWrongFalsely : Prop := terrainGrowsRow.holds Try.pinned (OpenSpec.ofChange terrainGrowsWrong)

/-- 'skywaykeep2.TerrainSooner': WHATEVER THE INPUT: true; the input reads as it did. -/
def terrainSoonerSpec : ChangeSpec := { name := "terrainSooner", fn := fun _ => fun
  | [d1, d2, d3, d4, d5] => { results := [.lit (.bool true)], args := [d1, d2, d3, d4, d5] }
  | _ => none }
def terrainSoonerRow : OpenClaim := { program := "ytkjdmkgacmkpjaa", sum := "2b4de74757e4accb5239df32348a7b8a8d6a0468371555055065ab7c3138823c", func := "skyway/skywaykeep2.TerrainSooner", spec := "terrainSooner", apart := false }
def TerrainSoonerSaid : Prop := terrainSoonerRow.holds Try.pinned (OpenSpec.ofChange terrainSoonerSpec)

/-- ITS FALSE NEIGHBOUR: 'it returns false'. Refute it at one input. -/
def terrainSoonerWrong : ChangeSpec := { name := "terrainSooner", fn := fun _ => fun
  | [d1, d2, d3, d4, d5] => { results := [.lit (.bool false)], args := [d1, d2, d3, d4, d5] }
  | _ => none }
def TerrainSoonerWrongFalsely : Prop := terrainSoonerRow.holds Try.pinned (OpenSpec.ofChange terrainSoonerWrong)

/-- 'skywaykeep2.TerrainNeverLate': WHATEVER THE INPUT: true; the input reads as it did. -/
def terrainNeverLateSpec : ChangeSpec := { name := "terrainNeverLate", fn := fun _ => fun
  | [d1, d2, d3, d4, d5, d6, d7] => { results := [.lit (.bool true)], args := [d1, d2, d3, d4, d5, d6, d7] }
  | _ => none }
def terrainNeverLateRow : OpenClaim := { program := "ytkjdmkgacmkpjaa", sum := "2b4de74757e4accb5239df32348a7b8a8d6a0468371555055065ab7c3138823c", func := "skyway/skywaykeep2.TerrainNeverLate", spec := "terrainNeverLate", apart := false }
def TerrainNeverLateSaid : Prop := terrainNeverLateRow.holds Try.pinned (OpenSpec.ofChange terrainNeverLateSpec)

/-- ITS FALSE NEIGHBOUR: 'it returns false'. Refute it at one input. -/
def terrainNeverLateWrong : ChangeSpec := { name := "terrainNeverLate", fn := fun _ => fun
  | [d1, d2, d3, d4, d5, d6, d7] => { results := [.lit (.bool false)], args := [d1, d2, d3, d4, d5, d6, d7] }
  | _ => none }
def TerrainNeverLateWrongFalsely : Prop := terrainNeverLateRow.holds Try.pinned (OpenSpec.ofChange terrainNeverLateWrong)

/-- 'skywaykeep2.PairUnique': WHATEVER THE INPUT: true; the input reads as it did. -/
def pairUniqueSpec : ChangeSpec := { name := "pairUnique", fn := fun _ => fun
  | [d1, d2, d3, d4] => { results := [.lit (.bool true)], args := [d1, d2, d3, d4] }
  | _ => none }
def pairUniqueRow : OpenClaim := { program := "ytkjdmkgacmkpjaa", sum := "2b4de74757e4accb5239df32348a7b8a8d6a0468371555055065ab7c3138823c", func := "skyway/skywaykeep2.PairUnique", spec := "pairUnique", unfollowed := true, recurses := true, apart := false }
def PairUniqueSaid : Prop := pairUniqueRow.holds Try.pinned (OpenSpec.ofChange pairUniqueSpec)

/-- ITS FALSE NEIGHBOUR: 'it returns false'. Refute it at one input. -/
def pairUniqueWrong : ChangeSpec := { name := "pairUnique", fn := fun _ => fun
  | [d1, d2, d3, d4] => { results := [.lit (.bool false)], args := [d1, d2, d3, d4] }
  | _ => none }
def PairUniqueWrongFalsely : Prop := pairUniqueRow.holds Try.pinned (OpenSpec.ofChange pairUniqueWrong)

/- THE SECOND FORM. 'bulk': how many values and letters a reading holds, each counted each time it is reached (what is shared counts as often as it is met; a slice's spare places count too). A statement '..UptoSaid' is the law's where the arguments, and the package variables that the reading takes, are together of bulk at most 1048576: NARROWER than '..Said'. Prove '..Said' where nothing that the law and all that it calls make is longer than what came in: it says more and counts as full. Else prove '..UptoSaid'. A law counts once. -/
mutual
def uptoBulk {H : Type} : DataW H → Nat
  | .lit (.string bytes) => bytes.length + 1
  | .lit _ => 1
  | .nil => 1
  | .ptr d => uptoBulk d + 1
  | .slice elems spare => uptoBulkAll elems + uptoBulkAll spare + 1
  | .agg parts => uptoBulkAll parts + 1
  | .iface _ d => uptoBulk d + 1
  | .map entries => uptoBulkEntries entries + 1
  | .held _ => 1
def uptoBulkAll {H : Type} : List (DataW H) → Nat
  | [] => 0
  | d :: r => uptoBulk d + uptoBulkAll r
def uptoBulkEntries {H : Type} : List (Lit × DataW H) → Nat
  | [] => 0
  | x :: r => uptoBulkEntry x + uptoBulkEntries r
def uptoBulkEntry {H : Type} : Lit × DataW H → Nat
  | (.string bytes, d) => bytes.length + uptoBulk d + 1
  | (_, d) => uptoBulk d + 1
 end
def uptoSmall : (H : Type) → List (DataW H) → Bool := fun _ ds => decide (uptoBulkAll ds ≤ 1048576)
def OpenSpec.upto (s : _root_.Go.ChangeSpec) : _root_.Go.OpenSpec := { _root_.Go.OpenSpec.ofChange s with cond := some uptoSmall }

/-- 'skywaykeep2.CoastAhead', WHERE WHAT IT READS IS OF BULK AT MOST 1048576: true; the input reads as it did. -/
def coastAheadUptoRow : OpenClaim := { program := "ytkjdmkgacmkpjaa", sum := "2b4de74757e4accb5239df32348a7b8a8d6a0468371555055065ab7c3138823c", func := "skyway/skywaykeep2.CoastAhead", spec := "coastAhead", apart := false, narrowed := true }
def CoastAheadUptoSaid : Prop := coastAheadUptoRow.holds Try.pinned (OpenSpec.upto coastAheadSpec)

/-- 'skywaykeep2.AlertSure', WHERE WHAT IT READS IS OF BULK AT MOST 1048576: true; the input reads as it did. -/
def alertSureUptoRow : OpenClaim := { program := "ytkjdmkgacmkpjaa", sum := "2b4de74757e4accb5239df32348a7b8a8d6a0468371555055065ab7c3138823c", func := "skyway/skywaykeep2.AlertSure", spec := "alertSure", unfollowed := true, recurses := true, apart := false, narrowed := true }
def AlertSureUptoSaid : Prop := alertSureUptoRow.holds Try.pinned (OpenSpec.upto alertSureSpec)

/-- 'skywaykeep2.AlertPairs', WHERE WHAT IT READS IS OF BULK AT MOST 1048576: true; the input reads as it did. -/
def alertPairsUptoRow : OpenClaim := { program := "ytkjdmkgacmkpjaa", sum := "2b4de74757e4accb5239df32348a7b8a8d6a0468371555055065ab7c3138823c", func := "skyway/skywaykeep2.AlertPairs", spec := "alertPairs", unfollowed := true, recurses := true, apart := false, narrowed := true }
def AlertPairsUptoSaid : Prop := alertPairsUptoRow.holds Try.pinned (OpenSpec.upto alertPairsSpec)

/-- 'skywaykeep2.FilterGains', WHERE WHAT IT READS IS OF BULK AT MOST 1048576: true; the input reads as it did. -/
def filterGainsUptoRow : OpenClaim := { program := "ytkjdmkgacmkpjaa", sum := "2b4de74757e4accb5239df32348a7b8a8d6a0468371555055065ab7c3138823c", func := "skyway/skywaykeep2.FilterGains", spec := "filterGains", apart := false, narrowed := true }
def FilterGainsUptoSaid : Prop := filterGainsUptoRow.holds Try.pinned (OpenSpec.upto filterGainsSpec)

/-- 'skywaykeep2.FuseTracks', WHERE WHAT IT READS IS OF BULK AT MOST 1048576: true; the input reads as it did. -/
def fuseTracksUptoRow : OpenClaim := { program := "ytkjdmkgacmkpjaa", sum := "2b4de74757e4accb5239df32348a7b8a8d6a0468371555055065ab7c3138823c", func := "skyway/skywaykeep2.FuseTracks", spec := "fuseTracks", unfollowed := true, recurses := true, apart := false, narrowed := true }
def FuseTracksUptoSaid : Prop := fuseTracksUptoRow.holds Try.pinned (OpenSpec.upto fuseTracksSpec)

/-- 'skywaykeep2.FilterHolds', WHERE WHAT IT READS IS OF BULK AT MOST 1048576: true; the input reads as it did. -/
def filterHoldsUptoRow : OpenClaim := { program := "ytkjdmkgacmkpjaa", sum := "2b4de74757e4accb5239df32348a7b8a8d6a0468371555055065ab7c3138823c", func := "skyway/skywaykeep2.FilterHolds", spec := "filterHolds", apart := false, narrowed := true }
def FilterHoldsUptoSaid : Prop := filterHoldsUptoRow.holds Try.pinned (OpenSpec.upto filterHoldsSpec)

/-- 'skywaykeep2.FilterContains', WHERE WHAT IT READS IS OF BULK AT MOST 1048576: true; the input reads as it did. -/
def filterContainsUptoRow : OpenClaim := { program := "ytkjdmkgacmkpjaa", sum := "2b4de74757e4accb5239df32348a7b8a8d6a0468371555055065ab7c3138823c", func := "skyway/skywaykeep2.FilterContains", spec := "filterContains", apart := false, narrowed := true }
def FilterContainsUptoSaid : Prop := filterContainsUptoRow.holds Try.pinned (OpenSpec.upto filterContainsSpec)

/-- 'skywaykeep2.AlertNeverLate', WHERE WHAT IT READS IS OF BULK AT MOST 1048576: true; the input reads as it did. -/
def alertNeverLateUptoRow : OpenClaim := { program := "ytkjdmkgacmkpjaa", sum := "2b4de74757e4accb5239df32348a7b8a8d6a0468371555055065ab7c3138823c", func := "skyway/skywaykeep2.AlertNeverLate", spec := "alertNeverLate", unfollowed := true, recurses := true, apart := false, narrowed := true }
def AlertNeverLateUptoSaid : Prop := alertNeverLateUptoRow.holds Try.pinned (OpenSpec.upto alertNeverLateSpec)

/-- 'skywaykeep2.TerrainGrows', WHERE WHAT IT READS IS OF BULK AT MOST 1048576: true; the input reads as it did. -/
def terrainGrowsUptoRow : OpenClaim := { program := "ytkjdmkgacmkpjaa", sum := "2b4de74757e4accb5239df32348a7b8a8d6a0468371555055065ab7c3138823c", func := "skyway/skywaykeep2.TerrainGrows", spec := "terrainGrows", apart := false, narrowed := true }
def TerrainGrowsUptoSaid : Prop := terrainGrowsUptoRow.holds Try.pinned (OpenSpec.upto terrainGrowsSpec)

/-- 'skywaykeep2.TerrainSooner', WHERE WHAT IT READS IS OF BULK AT MOST 1048576: true; the input reads as it did. -/
def terrainSoonerUptoRow : OpenClaim := { program := "ytkjdmkgacmkpjaa", sum := "2b4de74757e4accb5239df32348a7b8a8d6a0468371555055065ab7c3138823c", func := "skyway/skywaykeep2.TerrainSooner", spec := "terrainSooner", apart := false, narrowed := true }
def TerrainSoonerUptoSaid : Prop := terrainSoonerUptoRow.holds Try.pinned (OpenSpec.upto terrainSoonerSpec)

/-- 'skywaykeep2.TerrainNeverLate', WHERE WHAT IT READS IS OF BULK AT MOST 1048576: true; the input reads as it did. -/
def terrainNeverLateUptoRow : OpenClaim := { program := "ytkjdmkgacmkpjaa", sum := "2b4de74757e4accb5239df32348a7b8a8d6a0468371555055065ab7c3138823c", func := "skyway/skywaykeep2.TerrainNeverLate", spec := "terrainNeverLate", apart := false, narrowed := true }
def TerrainNeverLateUptoSaid : Prop := terrainNeverLateUptoRow.holds Try.pinned (OpenSpec.upto terrainNeverLateSpec)

/-- 'skywaykeep2.PairUnique', WHERE WHAT IT READS IS OF BULK AT MOST 1048576: true; the input reads as it did. -/
def pairUniqueUptoRow : OpenClaim := { program := "ytkjdmkgacmkpjaa", sum := "2b4de74757e4accb5239df32348a7b8a8d6a0468371555055065ab7c3138823c", func := "skyway/skywaykeep2.PairUnique", spec := "pairUnique", unfollowed := true, recurses := true, apart := false, narrowed := true }
def PairUniqueUptoSaid : Prop := pairUniqueUptoRow.holds Try.pinned (OpenSpec.upto pairUniqueSpec)

end Rows
end Go.Proofs.Ytkjdmkgacmkpjaa
