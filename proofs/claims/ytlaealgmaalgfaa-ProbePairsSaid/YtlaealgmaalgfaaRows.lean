/-
  No cell of these rows narrows 'for every input' (looked for: loops, veiled, ifaces, maps, wideKeys, modest, calm, conditions, laid).
  DERIVED. THE GIVEN ROWS OF THIS SEAT. 12 by the template 'for every input the law returns true; each argument reads behind the call as it read before'; 0 by the template 'total and deterministic' (their statements: YtlaealgmaalgfaaTotals.lean).
  GIVEN WITH THE SEED: the statements are not yours to turn. If you find one false, say at which input.
  Laid BY PROGRAM, IN A SANDBOX (cutbox-rows.mjs): the forced cells as the released guide's own fill.sh prints them over the translation bb2dc55c4447bca3… (all of the seat's roots in one cut). By AI agents, Wed Nov 11 2026. No macro, syntax, notation, axiom, sorry.
-/
import Derived.Test.YtlaealgmaalgfaaChecked
import GoSem.Claim
import GoSem.ClaimJoined
import GoSem.ClaimMapViews
import Derived.JoinedTies
import Derived.KernelRfl
namespace Go.Proofs.Ytlaealgmaalgfaa
/- THE CELL 'sum', in the pinned program and in every row, IS THE sha256 OF THE DUMP (.gsa) THAT YtlaealgmaalgfaaProg.lean LOADS. Nothing in Lean hashes anything: it is a label: what it is worth is what the hold of that sum in a sandbox is worth. -/
noncomputable def Try.pinned : Pinned := { name := "ytlaealgmaalgfaa", sum := "bb2dc55c4447bca36471f7f19d614394fa702111560f2e1fab5bb0d886430f75", checked := Try.checked }
namespace Rows
def none {H : Type} : Left H := { results := [], args := [] }

/-- 'skywaykeep2.GateCosts': WHATEVER THE INPUT: true; the input reads as it did. -/
def gateCostsSpec : ChangeSpec := { name := "gateCosts", fn := fun _ => fun
  | [d1, d2, d3] => { results := [.lit (.bool true)], args := [d1, d2, d3] }
  | _ => none }
def gateCostsRow : OpenClaim := { program := "ytlaealgmaalgfaa", sum := "bb2dc55c4447bca36471f7f19d614394fa702111560f2e1fab5bb0d886430f75", func := "skyway/skywaykeep2.GateCosts", spec := "gateCosts", apart := false }
def GateCostsSaid : Prop := gateCostsRow.holds Try.pinned (OpenSpec.ofChange gateCostsSpec)

/-- ITS FALSE NEIGHBOUR: 'it returns false'. Refute it at one input. -/
def gateCostsWrong : ChangeSpec := { name := "gateCosts", fn := fun _ => fun
  | [d1, d2, d3] => { results := [.lit (.bool false)], args := [d1, d2, d3] }
  | _ => none }
def GateCostsWrongFalsely : Prop := gateCostsRow.holds Try.pinned (OpenSpec.ofChange gateCostsWrong)

/-- 'skywaylaw1.PlaneToward': WHATEVER THE INPUT: true; the input reads as it did. -/
def planeTowardSpec : ChangeSpec := { name := "planeToward", fn := fun _ => fun
  | [d1, d2, d3, d4] => { results := [.lit (.bool true)], args := [d1, d2, d3, d4] }
  | _ => none }
def planeTowardRow : OpenClaim := { program := "ytlaealgmaalgfaa", sum := "bb2dc55c4447bca36471f7f19d614394fa702111560f2e1fab5bb0d886430f75", func := "skyway/skywaylaw1.PlaneToward", spec := "planeToward", recurses := true, apart := false }
def PlaneTowardSaid : Prop := planeTowardRow.holds Try.pinned (OpenSpec.ofChange planeTowardSpec)

/-- ITS FALSE NEIGHBOUR: 'it returns false'. Refute it at one input. -/
def planeTowardWrong : ChangeSpec := { name := "planeToward", fn := fun _ => fun
  | [d1, d2, d3, d4] => { results := [.lit (.bool false)], args := [d1, d2, d3, d4] }
  | _ => none }
def PlaneTowardWrongFalsely : Prop := planeTowardRow.holds Try.pinned (OpenSpec.ofChange planeTowardWrong)

/-- 'skywaylaw1.PolygonPlaces': WHATEVER THE INPUT: true; the input reads as it did. -/
def polygonPlacesSpec : ChangeSpec := { name := "polygonPlaces", fn := fun _ => fun
  | [d1, d2] => { results := [.lit (.bool true)], args := [d1, d2] }
  | _ => none }
def polygonPlacesRow : OpenClaim := { program := "ytlaealgmaalgfaa", sum := "bb2dc55c4447bca36471f7f19d614394fa702111560f2e1fab5bb0d886430f75", func := "skyway/skywaylaw1.PolygonPlaces", spec := "polygonPlaces", apart := false }
def PolygonPlacesSaid : Prop := polygonPlacesRow.holds Try.pinned (OpenSpec.ofChange polygonPlacesSpec)

/-- ITS FALSE NEIGHBOUR: 'it returns false'. Refute it at one input. -/
def polygonPlacesWrong : ChangeSpec := { name := "polygonPlaces", fn := fun _ => fun
  | [d1, d2] => { results := [.lit (.bool false)], args := [d1, d2] }
  | _ => none }
def PolygonPlacesWrongFalsely : Prop := polygonPlacesRow.holds Try.pinned (OpenSpec.ofChange polygonPlacesWrong)

/-- 'skywaylaw1.TubeNodes': WHATEVER THE INPUT: true; the input reads as it did. -/
def tubeNodesSpec : ChangeSpec := { name := "tubeNodes", fn := fun _ => fun
  | [d1, d2] => { results := [.lit (.bool true)], args := [d1, d2] }
  | _ => none }
def tubeNodesRow : OpenClaim := { program := "ytlaealgmaalgfaa", sum := "bb2dc55c4447bca36471f7f19d614394fa702111560f2e1fab5bb0d886430f75", func := "skyway/skywaylaw1.TubeNodes", spec := "tubeNodes", unfollowed := true, recurses := true, apart := false }
def TubeNodesSaid : Prop := tubeNodesRow.holds Try.pinned (OpenSpec.ofChange tubeNodesSpec)

/-- ITS FALSE NEIGHBOUR: 'it returns false'. Refute it at one input. -/
def tubeNodesWrong : ChangeSpec := { name := "tubeNodes", fn := fun _ => fun
  | [d1, d2] => { results := [.lit (.bool false)], args := [d1, d2] }
  | _ => none }
def TubeNodesWrongFalsely : Prop := tubeNodesRow.holds Try.pinned (OpenSpec.ofChange tubeNodesWrong)

/-- 'skywaylaw1.NumRoots': WHATEVER THE INPUT: true; the input reads as it did. -/
def numRootsSpec : ChangeSpec := { name := "numRoots", fn := fun _ => fun
  | [d] => { results := [.lit (.bool true)], args := [d] }
  | _ => none }
def numRootsRow : OpenClaim := { program := "ytlaealgmaalgfaa", sum := "bb2dc55c4447bca36471f7f19d614394fa702111560f2e1fab5bb0d886430f75", func := "skyway/skywaylaw1.NumRoots", spec := "numRoots", named := ["math/bits.divideError", "math/bits.overflowError"], apart := false }
def NumRootsSaid : Prop := numRootsRow.holds Try.pinned (OpenSpec.ofChange numRootsSpec)

/-- ITS FALSE NEIGHBOUR: 'it returns false'. Refute it at one input. -/
def numRootsWrong : ChangeSpec := { name := "numRoots", fn := fun _ => fun
  | [d] => { results := [.lit (.bool false)], args := [d] }
  | _ => none }
def NumRootsWrongFalsely : Prop := numRootsRow.holds Try.pinned (OpenSpec.ofChange numRootsWrong)

/-- 'skywaylaw1.NumProducts': WHATEVER THE INPUT: true; the input reads as it did. -/
def numProductsSpec : ChangeSpec := { name := "numProducts", fn := fun _ => fun
  | [d1, d2, d3] => { results := [.lit (.bool true)], args := [d1, d2, d3] }
  | _ => none }
def numProductsRow : OpenClaim := { program := "ytlaealgmaalgfaa", sum := "bb2dc55c4447bca36471f7f19d614394fa702111560f2e1fab5bb0d886430f75", func := "skyway/skywaylaw1.NumProducts", spec := "numProducts", named := ["math/bits.divideError", "math/bits.overflowError"], apart := false }
def NumProductsSaid : Prop := numProductsRow.holds Try.pinned (OpenSpec.ofChange numProductsSpec)

/-- ITS FALSE NEIGHBOUR: 'it returns false'. Refute it at one input. -/
def numProductsWrong : ChangeSpec := { name := "numProducts", fn := fun _ => fun
  | [d1, d2, d3] => { results := [.lit (.bool false)], args := [d1, d2, d3] }
  | _ => none }
def NumProductsWrongFalsely : Prop := numProductsRow.holds Try.pinned (OpenSpec.ofChange numProductsWrong)

/-- 'skywaylaw1.BitsNearest': WHATEVER THE INPUT: true; the input reads as it did. -/
def bitsNearestSpec : ChangeSpec := { name := "bitsNearest", fn := fun _ => fun
  | [d1, d2] => { results := [.lit (.bool true)], args := [d1, d2] }
  | _ => none }
def bitsNearestRow : OpenClaim := { program := "ytlaealgmaalgfaa", sum := "bb2dc55c4447bca36471f7f19d614394fa702111560f2e1fab5bb0d886430f75", func := "skyway/skywaylaw1.BitsNearest", spec := "bitsNearest", inPlace := ["math.Float64bits", "math.Float64frombits"], apart := false }
def BitsNearestSaid : Prop := bitsNearestRow.holds Try.pinned (OpenSpec.ofChange bitsNearestSpec)

/-- ITS FALSE NEIGHBOUR: 'it returns false'. Refute it at one input. -/
def bitsNearestWrong : ChangeSpec := { name := "bitsNearest", fn := fun _ => fun
  | [d1, d2] => { results := [.lit (.bool false)], args := [d1, d2] }
  | _ => none }
def BitsNearestWrongFalsely : Prop := bitsNearestRow.holds Try.pinned (OpenSpec.ofChange bitsNearestWrong)

/-- 'skywaykeep2.PairFits': WHATEVER THE INPUT: true; the input reads as it did. -/
def pairFitsSpec : ChangeSpec := { name := "pairFits", fn := fun _ => fun
  | [d1, d2, d3, d4] => { results := [.lit (.bool true)], args := [d1, d2, d3, d4] }
  | _ => none }
def pairFitsRow : OpenClaim := { program := "ytlaealgmaalgfaa", sum := "bb2dc55c4447bca36471f7f19d614394fa702111560f2e1fab5bb0d886430f75", func := "skyway/skywaykeep2.PairFits", spec := "pairFits", unfollowed := true, recurses := true, apart := false }
def PairFitsSaid : Prop := pairFitsRow.holds Try.pinned (OpenSpec.ofChange pairFitsSpec)

/-- ITS FALSE NEIGHBOUR: 'it returns false'. Refute it at one input. -/
def pairFitsWrong : ChangeSpec := { name := "pairFits", fn := fun _ => fun
  | [d1, d2, d3, d4] => { results := [.lit (.bool false)], args := [d1, d2, d3, d4] }
  | _ => none }
def PairFitsWrongFalsely : Prop := pairFitsRow.holds Try.pinned (OpenSpec.ofChange pairFitsWrong)

/-- 'skywaykeep2.ConformSound': WHATEVER THE INPUT: true; the input reads as it did. -/
def conformSoundSpec : ChangeSpec := { name := "conformSound", fn := fun _ => fun
  | [d1, d2, d3, d4] => { results := [.lit (.bool true)], args := [d1, d2, d3, d4] }
  | _ => none }
def conformSoundRow : OpenClaim := { program := "ytlaealgmaalgfaa", sum := "bb2dc55c4447bca36471f7f19d614394fa702111560f2e1fab5bb0d886430f75", func := "skyway/skywaykeep2.ConformSound", spec := "conformSound", unfollowed := true, recurses := true, apart := false }
def ConformSoundSaid : Prop := conformSoundRow.holds Try.pinned (OpenSpec.ofChange conformSoundSpec)

/-- ITS FALSE NEIGHBOUR: 'it returns false'. Refute it at one input. -/
def conformSoundWrong : ChangeSpec := { name := "conformSound", fn := fun _ => fun
  | [d1, d2, d3, d4] => { results := [.lit (.bool false)], args := [d1, d2, d3, d4] }
  | _ => none }
def ConformSoundWrongFalsely : Prop := conformSoundRow.holds Try.pinned (OpenSpec.ofChange conformSoundWrong)

/-- 'skywaykeep2.ConformFirst': WHATEVER THE INPUT: true; the input reads as it did. -/
def conformFirstSpec : ChangeSpec := { name := "conformFirst", fn := fun _ => fun
  | [d1, d2] => { results := [.lit (.bool true)], args := [d1, d2] }
  | _ => none }
def conformFirstRow : OpenClaim := { program := "ytlaealgmaalgfaa", sum := "bb2dc55c4447bca36471f7f19d614394fa702111560f2e1fab5bb0d886430f75", func := "skyway/skywaykeep2.ConformFirst", spec := "conformFirst", unfollowed := true, recurses := true, apart := false }
def ConformFirstSaid : Prop := conformFirstRow.holds Try.pinned (OpenSpec.ofChange conformFirstSpec)

/-- ITS FALSE NEIGHBOUR: 'it returns false'. Refute it at one input. -/
def conformFirstWrong : ChangeSpec := { name := "conformFirst", fn := fun _ => fun
  | [d1, d2] => { results := [.lit (.bool false)], args := [d1, d2] }
  | _ => none }
def ConformFirstWrongFalsely : Prop := conformFirstRow.holds Try.pinned (OpenSpec.ofChange conformFirstWrong)

/-- 'skywaykeep2.ConformLate': WHATEVER THE INPUT: true; the input reads as it did. -/
def conformLateSpec : ChangeSpec := { name := "conformLate", fn := fun _ => fun
  | [d1, d2, d3] => { results := [.lit (.bool true)], args := [d1, d2, d3] }
  | _ => none }
def conformLateRow : OpenClaim := { program := "ytlaealgmaalgfaa", sum := "bb2dc55c4447bca36471f7f19d614394fa702111560f2e1fab5bb0d886430f75", func := "skyway/skywaykeep2.ConformLate", spec := "conformLate", unfollowed := true, recurses := true, apart := false }
def ConformLateSaid : Prop := conformLateRow.holds Try.pinned (OpenSpec.ofChange conformLateSpec)

/-- ITS FALSE NEIGHBOUR: 'it returns false'. Refute it at one input. -/
def conformLateWrong : ChangeSpec := { name := "conformLate", fn := fun _ => fun
  | [d1, d2, d3] => { results := [.lit (.bool false)], args := [d1, d2, d3] }
  | _ => none }
def ConformLateWrongFalsely : Prop := conformLateRow.holds Try.pinned (OpenSpec.ofChange conformLateWrong)

/-- 'skywaylaw1.ProbePairs': WHATEVER THE INPUT: true; the input reads as it did. -/
def probePairsSpec : ChangeSpec := { name := "probePairs", fn := fun _ => fun
  | [d1, d2, d3] => { results := [.lit (.bool true)], args := [d1, d2, d3] }
  | _ => none }
def probePairsRow : OpenClaim := { program := "ytlaealgmaalgfaa", sum := "bb2dc55c4447bca36471f7f19d614394fa702111560f2e1fab5bb0d886430f75", func := "skyway/skywaylaw1.ProbePairs", spec := "probePairs", unfollowed := true, recurses := true, apart := false }
def ProbePairsSaid : Prop := probePairsRow.holds Try.pinned (OpenSpec.ofChange probePairsSpec)

/-- ITS FALSE NEIGHBOUR: 'it returns false'. Refute it at one input. -/
def probePairsWrong : ChangeSpec := { name := "probePairs", fn := fun _ => fun
  | [d1, d2, d3] => { results := [.lit (.bool false)], args := [d1, d2, d3] }
  | _ => none }
def ProbePairsWrongFalsely : Prop := probePairsRow.holds Try.pinned (OpenSpec.ofChange probePairsWrong)

/- THE SECOND FORM. 'bulk': how many values and letters a reading holds, each counted each time it is reached (what is shared counts as often as it is met; a slice's spare places count too). A statement '..UptoSaid' is the law's where the arguments, and the package variables that the reading takes, are together of bulk at most 1048576: NARROWER than '..Said'. Prove '..Said' where nothing that the law and all that it calls make is longer than what came in: it says more and counts as full. Else prove '..UptoSaid'. A law counts once. -/
mutual
def uptoBulk {H : Type} : DataW H → Nat
  | .lit (.string bytes) => bytes.length + 1
  | .lit _ => 1
  | .nil => 1
  | .ptr d => uptoBulk d + 1
  | .slice elems spare => uptoBulkAll elems + uptoBulkAll spare + 1
  | .agg parts => uptoBulkAll parts + 1
  | .iface _ d => uptoBulk d + 1
  | .map entries => uptoBulkEntries entries + 1
  | .held _ => 1
def uptoBulkAll {H : Type} : List (DataW H) → Nat
  | [] => 0
  | d :: r => uptoBulk d + uptoBulkAll r
def uptoBulkEntries {H : Type} : List (Lit × DataW H) → Nat
  | [] => 0
  | x :: r => uptoBulkEntry x + uptoBulkEntries r
def uptoBulkEntry {H : Type} : Lit × DataW H → Nat
  | (.string bytes, d) => bytes.length + uptoBulk d + 1
  | (_, d) => uptoBulk d + 1
 end
def uptoSmall : (H : Type) → List (DataW H) → Bool := fun _ ds => decide (uptoBulkAll ds ≤ 1048576)
def OpenSpec.upto (s : _root_.Go.ChangeSpec) : _root_.Go.OpenSpec := { _root_.Go.OpenSpec.ofChange s with cond := some uptoSmall }

/-- 'skywaykeep2.GateCosts', WHERE WHAT IT READS IS OF BULK AT MOST 1048576: true; the input reads as it did. -/
def gateCostsUptoRow : OpenClaim := { program := "ytlaealgmaalgfaa", sum := "bb2dc55c4447bca36471f7f19d614394fa702111560f2e1fab5bb0d886430f75", func := "skyway/skywaykeep2.GateCosts", spec := "gateCosts", apart := false, narrowed := true }
def GateCostsUptoSaid : Prop := gateCostsUptoRow.holds Try.pinned (OpenSpec.upto gateCostsSpec)

/-- 'skywaylaw1.PlaneToward', WHERE WHAT IT READS IS OF BULK AT MOST 1048576: true; the input reads as it did. -/
def planeTowardUptoRow : OpenClaim := { program := "ytlaealgmaalgfaa", sum := "bb2dc55c4447bca36471f7f19d614394fa702111560f2e1fab5bb0d886430f75", func := "skyway/skywaylaw1.PlaneToward", spec := "planeToward", recurses := true, apart := false, narrowed := true }
def PlaneTowardUptoSaid : Prop := planeTowardUptoRow.holds Try.pinned (OpenSpec.upto planeTowardSpec)

/-- 'skywaylaw1.PolygonPlaces', WHERE WHAT IT READS IS OF BULK AT MOST 1048576: true; the input reads as it did. -/
def polygonPlacesUptoRow : OpenClaim := { program := "ytlaealgmaalgfaa", sum := "bb2dc55c4447bca36471f7f19d614394fa702111560f2e1fab5bb0d886430f75", func := "skyway/skywaylaw1.PolygonPlaces", spec := "polygonPlaces", apart := false, narrowed := true }
def PolygonPlacesUptoSaid : Prop := polygonPlacesUptoRow.holds Try.pinned (OpenSpec.upto polygonPlacesSpec)

/-- 'skywaylaw1.TubeNodes', WHERE WHAT IT READS IS OF BULK AT MOST 1048576: true; the input reads as it did. -/
def tubeNodesUptoRow : OpenClaim := { program := "ytlaealgmaalgfaa", sum := "bb2dc55c4447bca36471f7f19d614394fa702111560f2e1fab5bb0d886430f75", func := "skyway/skywaylaw1.TubeNodes", spec := "tubeNodes", unfollowed := true, recurses := true, apart := false, narrowed := true }
def TubeNodesUptoSaid : Prop := tubeNodesUptoRow.holds Try.pinned (OpenSpec.upto tubeNodesSpec)

/-- 'skywaylaw1.NumRoots', WHERE WHAT IT READS IS OF BULK AT MOST 1048576: true; the input reads as it did. -/
def numRootsUptoRow : OpenClaim := { program := "ytlaealgmaalgfaa", sum := "bb2dc55c4447bca36471f7f19d614394fa702111560f2e1fab5bb0d886430f75", func := "skyway/skywaylaw1.NumRoots", spec := "numRoots", named := ["math/bits.divideError", "math/bits.overflowError"], apart := false, narrowed := true }
def NumRootsUptoSaid : Prop := numRootsUptoRow.holds Try.pinned (OpenSpec.upto numRootsSpec)

/-- 'skywaylaw1.NumProducts', WHERE WHAT IT READS IS OF BULK AT MOST 1048576: true; the input reads as it did. -/
def numProductsUptoRow : OpenClaim := { program := "ytlaealgmaalgfaa", sum := "bb2dc55c4447bca36471f7f19d614394fa702111560f2e1fab5bb0d886430f75", func := "skyway/skywaylaw1.NumProducts", spec := "numProducts", named := ["math/bits.divideError", "math/bits.overflowError"], apart := false, narrowed := true }
def NumProductsUptoSaid : Prop := numProductsUptoRow.holds Try.pinned (OpenSpec.upto numProductsSpec)

/-- 'skywaylaw1.BitsNearest', WHERE WHAT IT READS IS OF BULK AT MOST 1048576: true; the input reads as it did. -/
def bitsNearestUptoRow : OpenClaim := { program := "ytlaealgmaalgfaa", sum := "bb2dc55c4447bca36471f7f19d614394fa702111560f2e1fab5bb0d886430f75", func := "skyway/skywaylaw1.BitsNearest", spec := "bitsNearest", inPlace := ["math.Float64bits", "math.Float64frombits"], apart := false, narrowed := true }
def BitsNearestUptoSaid : Prop := bitsNearestUptoRow.holds Try.pinned (OpenSpec.upto bitsNearestSpec)

/-- 'skywaykeep2.PairFits', WHERE WHAT IT READS IS OF BULK AT MOST 1048576: true; the input reads as it did. -/
def pairFitsUptoRow : OpenClaim := { program := "ytlaealgmaalgfaa", sum := "bb2dc55c4447bca36471f7f19d614394fa702111560f2e1fab5bb0d886430f75", func := "skyway/skywaykeep2.PairFits", spec := "pairFits", unfollowed := true, recurses := true, apart := false, narrowed := true }
def PairFitsUptoSaid : Prop := pairFitsUptoRow.holds Try.pinned (OpenSpec.upto pairFitsSpec)

/-- 'skywaykeep2.ConformSound', WHERE WHAT IT READS IS OF BULK AT MOST 1048576: true; the input reads as it did. -/
def conformSoundUptoRow : OpenClaim := { program := "ytlaealgmaalgfaa", sum := "bb2dc55c4447bca36471f7f19d614394fa702111560f2e1fab5bb0d886430f75", func := "skyway/skywaykeep2.ConformSound", spec := "conformSound", unfollowed := true, recurses := true, apart := false, narrowed := true }
def ConformSoundUptoSaid : Prop := conformSoundUptoRow.holds Try.pinned (OpenSpec.upto conformSoundSpec)

/-- 'skywaykeep2.ConformFirst', WHERE WHAT IT READS IS OF BULK AT MOST 1048576: true; the input reads as it did. -/
def conformFirstUptoRow : OpenClaim := { program := "ytlaealgmaalgfaa", sum := "bb2dc55c4447bca36471f7f19d614394fa702111560f2e1fab5bb0d886430f75", func := "skyway/skywaykeep2.ConformFirst", spec := "conformFirst", unfollowed := true, recurses := true, apart := false, narrowed := true }
def ConformFirstUptoSaid : Prop := conformFirstUptoRow.holds Try.pinned (OpenSpec.upto conformFirstSpec)

/-- 'skywaykeep2.ConformLate', WHERE WHAT IT READS IS OF BULK AT MOST 1048576: true; the input reads as it did. -/
def conformLateUptoRow : OpenClaim := { program := "ytlaealgmaalgfaa", sum := "bb2dc55c4447bca36471f7f19d614394fa702111560f2e1fab5bb0d886430f75", func := "skyway/skywaykeep2.ConformLate", spec := "conformLate", unfollowed := true, recurses := true, apart := false, narrowed := true }
def ConformLateUptoSaid : Prop := conformLateUptoRow.holds Try.pinned (OpenSpec.upto conformLateSpec)

/-- 'skywaylaw1.ProbePairs', WHERE WHAT IT READS IS OF BULK AT MOST 1048576: true; the input reads as it did. -/
def probePairsUptoRow : OpenClaim := { program := "ytlaealgmaalgfaa", sum := "bb2dc55c4447bca36471f7f19d614394fa702111560f2e1fab5bb0d886430f75", func := "skyway/skywaylaw1.ProbePairs", spec := "probePairs", unfollowed := true, recurses := true, apart := false, narrowed := true }
def ProbePairsUptoSaid : Prop := probePairsUptoRow.holds Try.pinned (OpenSpec.upto probePairsSpec)

end Rows
end Go.Proofs.Ytlaealgmaalgfaa
