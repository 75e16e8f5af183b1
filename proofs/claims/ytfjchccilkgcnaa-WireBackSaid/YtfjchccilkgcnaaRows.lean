/-
  No cell of these rows narrows 'for every input' (looked for: loops, veiled, ifaces, maps, wideKeys, modest, calm, conditions, laid).
  DERIVED. THE GIVEN ROWS OF THIS SEAT. 10 by the template 'for every input the law returns true; each argument reads behind the call as it read before'; 0 by the template 'total and deterministic' (their statements: YtfjchccilkgcnaaTotals.lean).
  GIVEN WITH THE SEED: the statements are not yours to turn. If you find one false, say at which input.
  Laid BY PROGRAM, IN A SANDBOX (cutbox-rows.mjs): the forced cells as the released guide's own fill.sh prints them over the translation 41fc788a0adc6046… (all of the seat's roots in one cut). By AI agents, Wed Nov 11 2026. No macro, syntax, notation, axiom, sorry.
-/
import Derived.Test.YtfjchccilkgcnaaChecked
import GoSem.Claim
import GoSem.ClaimJoined
import GoSem.ClaimMapViews
import Derived.JoinedTies
import Derived.KernelRfl
namespace Go.Proofs.Ytfjchccilkgcnaa
/- THE CELL 'sum', in the pinned program and in every row, IS THE sha256 OF THE DUMP (.gsa) THAT YtfjchccilkgcnaaProg.lean LOADS. Nothing in Lean hashes anything: it is a label: what it is worth is what the hold of that sum in a sandbox is worth. -/
noncomputable def Try.pinned : Pinned := { name := "ytfjchccilkgcnaa", sum := "41fc788a0adc6046ba4cf50f42e6e8ca10ff4455dcf87148700a90c1cf0d937d", checked := Try.checked }
namespace Rows
def none {H : Type} : Left H := { results := [], args := [] }

/-- 'skywaykeep2.AssignTurned': WHATEVER THE INPUT: true; the input reads as it did. -/
def assignTurnedSpec : ChangeSpec := { name := "assignTurned", fn := fun _ => fun
  | [d1, d2, d3, d4, d5] => { results := [.lit (.bool true)], args := [d1, d2, d3, d4, d5] }
  | _ => none }
def assignTurnedRow : OpenClaim := { program := "ytfjchccilkgcnaa", sum := "41fc788a0adc6046ba4cf50f42e6e8ca10ff4455dcf87148700a90c1cf0d937d", func := "skyway/skywaykeep2.AssignTurned", spec := "assignTurned", unfollowed := true, recurses := true, apart := false }
def AssignTurnedSaid : Prop := assignTurnedRow.holds Try.pinned (OpenSpec.ofChange assignTurnedSpec)

/-- ITS FALSE NEIGHBOUR: 'it returns false'. Refute it at one input. -/
def assignTurnedWrong : ChangeSpec := { name := "assignTurned", fn := fun _ => fun
  | [d1, d2, d3, d4, d5] => { results := [.lit (.bool false)], args := [d1, d2, d3, d4, d5] }
  | _ => none }
def AssignTurnedWrongFalsely : Prop := assignTurnedRow.holds Try.pinned (OpenSpec.ofChange assignTurnedWrong)

/-- 'skywaykeep2.AssignLeast': WHATEVER THE INPUT: true; the input reads as it did. -/
def assignLeastSpec : ChangeSpec := { name := "assignLeast", fn := fun _ => fun
  | [d1, d2, d3] => { results := [.lit (.bool true)], args := [d1, d2, d3] }
  | _ => none }
def assignLeastRow : OpenClaim := { program := "ytfjchccilkgcnaa", sum := "41fc788a0adc6046ba4cf50f42e6e8ca10ff4455dcf87148700a90c1cf0d937d", func := "skyway/skywaykeep2.AssignLeast", spec := "assignLeast", unfollowed := true, recurses := true, apart := false }
def AssignLeastSaid : Prop := assignLeastRow.holds Try.pinned (OpenSpec.ofChange assignLeastSpec)

/-- ITS FALSE NEIGHBOUR: 'it returns false'. Refute it at one input. -/
def assignLeastWrong : ChangeSpec := { name := "assignLeast", fn := fun _ => fun
  | [d1, d2, d3] => { results := [.lit (.bool false)], args := [d1, d2, d3] }
  | _ => none }
def AssignLeastWrongFalsely : Prop := assignLeastRow.holds Try.pinned (OpenSpec.ofChange assignLeastWrong)

/-- 'skywaykeep2.AssignMisses': WHATEVER THE INPUT: true; the input reads as it did. -/
def assignMissesSpec : ChangeSpec := { name := "assignMisses", fn := fun _ => fun
  | [d] => { results := [.lit (.bool true)], args := [d] }
  | _ => none }
def assignMissesRow : OpenClaim := { program := "ytfjchccilkgcnaa", sum := "41fc788a0adc6046ba4cf50f42e6e8ca10ff4455dcf87148700a90c1cf0d937d", func := "skyway/skywaykeep2.AssignMisses", spec := "assignMisses", unfollowed := true, recurses := true, apart := false }
def AssignMissesSaid : Prop := assignMissesRow.holds Try.pinned (OpenSpec.ofChange assignMissesSpec)

/-- ITS FALSE NEIGHBOUR: 'it returns false'. Refute it at one input. -/
def assignMissesWrong : ChangeSpec := { name := "assignMisses", fn := fun _ => fun
  | [d] => { results := [.lit (.bool false)], args := [d] }
  | _ => none }
def AssignMissesWrongFalsely : Prop := assignMissesRow.holds Try.pinned (OpenSpec.ofChange assignMissesWrong)

/-- 'skywaykeep2.WireUnique': WHATEVER THE INPUT: true; the input reads as it did. -/
def wireUniqueSpec : ChangeSpec := { name := "wireUnique", fn := fun _ => fun
  | [d] => { results := [.lit (.bool true)], args := [d] }
  | _ => none }
def wireUniqueRow : OpenClaim := { program := "ytfjchccilkgcnaa", sum := "41fc788a0adc6046ba4cf50f42e6e8ca10ff4455dcf87148700a90c1cf0d937d", func := "skyway/skywaykeep2.WireUnique", spec := "wireUnique", inPlace := ["math.Float64bits", "math.Float64frombits"], unfollowed := true, recurses := true, apart := false }
def WireUniqueSaid : Prop := wireUniqueRow.holds Try.pinned (OpenSpec.ofChange wireUniqueSpec)

/-- ITS FALSE NEIGHBOUR: 'it returns false'. Refute it at one input. -/
def wireUniqueWrong : ChangeSpec := { name := "wireUnique", fn := fun _ => fun
  | [d] => { results := [.lit (.bool false)], args := [d] }
  | _ => none }
def WireUniqueWrongFalsely : Prop := wireUniqueRow.holds Try.pinned (OpenSpec.ofChange wireUniqueWrong)

/-- 'skywaykeep2.WireDamage': WHATEVER THE INPUT: true; the input reads as it did. -/
def wireDamageSpec : ChangeSpec := { name := "wireDamage", fn := fun _ => fun
  | [d1, d2, d3] => { results := [.lit (.bool true)], args := [d1, d2, d3] }
  | _ => none }
def wireDamageRow : OpenClaim := { program := "ytfjchccilkgcnaa", sum := "41fc788a0adc6046ba4cf50f42e6e8ca10ff4455dcf87148700a90c1cf0d937d", func := "skyway/skywaykeep2.WireDamage", spec := "wireDamage", inPlace := ["math.Float64bits", "math.Float64frombits"], unfollowed := true, recurses := true, apart := false }
def WireDamageSaid : Prop := wireDamageRow.holds Try.pinned (OpenSpec.ofChange wireDamageSpec)

/-- ITS FALSE NEIGHBOUR: 'it returns false'. Refute it at one input. -/
def wireDamageWrong : ChangeSpec := { name := "wireDamage", fn := fun _ => fun
  | [d1, d2, d3] => { results := [.lit (.bool false)], args := [d1, d2, d3] }
  | _ => none }
def WireDamageWrongFalsely : Prop := wireDamageRow.holds Try.pinned (OpenSpec.ofChange wireDamageWrong)

/-- 'skywaykeep2.WireBack': WHATEVER THE INPUT: true; the input reads as it did. -/
def wireBackSpec : ChangeSpec := { name := "wireBack", fn := fun _ => fun
  | [d1, d2, d3] => { results := [.lit (.bool true)], args := [d1, d2, d3] }
  | _ => none }
def wireBackRow : OpenClaim := { program := "ytfjchccilkgcnaa", sum := "41fc788a0adc6046ba4cf50f42e6e8ca10ff4455dcf87148700a90c1cf0d937d", func := "skyway/skywaykeep2.WireBack", spec := "wireBack", inPlace := ["math.Float64bits", "math.Float64frombits"], unfollowed := true, recurses := true, apart := false }
def WireBackSaid : Prop := wireBackRow.holds Try.pinned (OpenSpec.ofChange wireBackSpec)

/-- ITS FALSE NEIGHBOUR: 'it returns false'. Refute it at one input. -/
def wireBackWrong : ChangeSpec := { name := "wireBack", fn := fun _ => fun
  | [d1, d2, d3] => { results := [.lit (.bool false)], args := [d1, d2, d3] }
  | _ => none }
def WireBackWrongFalsely : Prop := wireBackRow.holds Try.pinned (OpenSpec.ofChange wireBackWrong)

/-- 'skywaykeep2.BiasExact': WHATEVER THE INPUT: true; the input reads as it did. -/
def biasExactSpec : ChangeSpec := { name := "biasExact", fn := fun _ => fun
  | [d1, d2, d3] => { results := [.lit (.bool true)], args := [d1, d2, d3] }
  | _ => none }
def biasExactRow : OpenClaim := { program := "ytfjchccilkgcnaa", sum := "41fc788a0adc6046ba4cf50f42e6e8ca10ff4455dcf87148700a90c1cf0d937d", func := "skyway/skywaykeep2.BiasExact", spec := "biasExact", recurses := true, apart := false }
def BiasExactSaid : Prop := biasExactRow.holds Try.pinned (OpenSpec.ofChange biasExactSpec)

/-- ITS FALSE NEIGHBOUR: 'it returns false'. Refute it at one input. -/
def biasExactWrong : ChangeSpec := { name := "biasExact", fn := fun _ => fun
  | [d1, d2, d3] => { results := [.lit (.bool false)], args := [d1, d2, d3] }
  | _ => none }
def BiasExactWrongFalsely : Prop := biasExactRow.holds Try.pinned (OpenSpec.ofChange biasExactWrong)

/-- 'skywaykeep2.MosaicOrder': WHATEVER THE INPUT: true; the input reads as it did. -/
def mosaicOrderSpec : ChangeSpec := { name := "mosaicOrder", fn := fun _ => fun
  | [d1, d2, d3] => { results := [.lit (.bool true)], args := [d1, d2, d3] }
  | _ => none }
def mosaicOrderRow : OpenClaim := { program := "ytfjchccilkgcnaa", sum := "41fc788a0adc6046ba4cf50f42e6e8ca10ff4455dcf87148700a90c1cf0d937d", func := "skyway/skywaykeep2.MosaicOrder", spec := "mosaicOrder", unfollowed := true, recurses := true, apart := false }
def MosaicOrderSaid : Prop := mosaicOrderRow.holds Try.pinned (OpenSpec.ofChange mosaicOrderSpec)

/-- ITS FALSE NEIGHBOUR: 'it returns false'. Refute it at one input. -/
def mosaicOrderWrong : ChangeSpec := { name := "mosaicOrder", fn := fun _ => fun
  | [d1, d2, d3] => { results := [.lit (.bool false)], args := [d1, d2, d3] }
  | _ => none }
def MosaicOrderWrongFalsely : Prop := mosaicOrderRow.holds Try.pinned (OpenSpec.ofChange mosaicOrderWrong)

/-- 'skywaylaw1.ShortestWays': WHATEVER THE INPUT: true; the input reads as it did. -/
def shortestWaysSpec : ChangeSpec := { name := "shortestWays", fn := fun _ => fun
  | [d1, d2, d3] => { results := [.lit (.bool true)], args := [d1, d2, d3] }
  | _ => none }
def shortestWaysRow : OpenClaim := { program := "ytfjchccilkgcnaa", sum := "41fc788a0adc6046ba4cf50f42e6e8ca10ff4455dcf87148700a90c1cf0d937d", func := "skyway/skywaylaw1.ShortestWays", spec := "shortestWays", unfollowed := true, recurses := true, apart := false }
def ShortestWaysSaid : Prop := shortestWaysRow.holds Try.pinned (OpenSpec.ofChange shortestWaysSpec)

/-- ITS FALSE NEIGHBOUR: 'it returns false'. Refute it at one input. -/
def shortestWaysWrong : ChangeSpec := { name := "shortestWays", fn := fun _ => fun
  | [d1, d2, d3] => { results := [.lit (.bool false)], args := [d1, d2, d3] }
  | _ => none }
def ShortestWaysWrongFalsely : Prop := shortestWaysRow.holds Try.pinned (OpenSpec.ofChange shortestWaysWrong)

/-- 'skywaykeep2.FuseOnce': WHATEVER THE INPUT: true; the input reads as it did. -/
def fuseOnceSpec : ChangeSpec := { name := "fuseOnce", fn := fun _ => fun
  | [d1, d2, d3] => { results := [.lit (.bool true)], args := [d1, d2, d3] }
  | _ => none }
def fuseOnceRow : OpenClaim := { program := "ytfjchccilkgcnaa", sum := "41fc788a0adc6046ba4cf50f42e6e8ca10ff4455dcf87148700a90c1cf0d937d", func := "skyway/skywaykeep2.FuseOnce", spec := "fuseOnce", unfollowed := true, recurses := true, apart := false }
def FuseOnceSaid : Prop := fuseOnceRow.holds Try.pinned (OpenSpec.ofChange fuseOnceSpec)

/-- ITS FALSE NEIGHBOUR: 'it returns false'. Refute it at one input. -/
def fuseOnceWrong : ChangeSpec := { name := "fuseOnce", fn := fun _ => fun
  | [d1, d2, d3] => { results := [.lit (.bool false)], args := [d1, d2, d3] }
  | _ => none }
def FuseOnceWrongFalsely : Prop := fuseOnceRow.holds Try.pinned (OpenSpec.ofChange fuseOnceWrong)

/- THE SECOND FORM. 'bulk': how many values and letters a reading holds, each counted each time it is reached (what is shared counts as often as it is met; a slice's spare places count too). A statement '..UptoSaid' is the law's where the arguments, and the package variables that the reading takes, are together of bulk at most 1048576: NARROWER than '..Said'. Prove '..Said' where nothing that the law and all that it calls make is longer than what came in: it says more and counts as full. Else prove '..UptoSaid'. A law counts once. -/
mutual
def uptoBulk {H : Type} : DataW H → Nat
  | .lit (.string bytes) => bytes.length + 1
  | .lit _ => 1
  | .nil => 1
  | .ptr d => uptoBulk d + 1
  | .slice elems spare => uptoBulkAll elems + uptoBulkAll spare + 1
  | .agg parts => uptoBulkAll parts + 1
  | .iface _ d => uptoBulk d + 1
  | .map entries => uptoBulkEntries entries + 1
  | .held _ => 1
def uptoBulkAll {H : Type} : List (DataW H) → Nat
  | [] => 0
  | d :: r => uptoBulk d + uptoBulkAll r
def uptoBulkEntries {H : Type} : List (Lit × DataW H) → Nat
  | [] => 0
  | x :: r => uptoBulkEntry x + uptoBulkEntries r
def uptoBulkEntry {H : Type} : Lit × DataW H → Nat
  | (.string bytes, d) => bytes.length + uptoBulk d + 1
  | (_, d) => uptoBulk d + 1
 end
def uptoSmall : (H : Type) → List (DataW H) → Bool := fun _ ds => decide (uptoBulkAll ds ≤ 1048576)
def OpenSpec.upto (s : _root_.Go.ChangeSpec) : _root_.Go.OpenSpec := { _root_.Go.OpenSpec.ofChange s with cond := some uptoSmall }

/-- 'skywaykeep2.AssignTurned', WHERE WHAT IT READS IS OF BULK AT MOST 1048576: true; the input reads as it did. -/
def assignTurnedUptoRow : OpenClaim := { program := "ytfjchccilkgcnaa", sum := "41fc788a0adc6046ba4cf50f42e6e8ca10ff4455dcf87148700a90c1cf0d937d", func := "skyway/skywaykeep2.AssignTurned", spec := "assignTurned", unfollowed := true, recurses := true, apart := false, narrowed := true }
def AssignTurnedUptoSaid : Prop := assignTurnedUptoRow.holds Try.pinned (OpenSpec.upto assignTurnedSpec)

/-- 'skywaykeep2.AssignLeast', WHERE WHAT IT READS IS OF BULK AT MOST 1048576: true; the input reads as it did. -/
def assignLeastUptoRow : OpenClaim := { program := "ytfjchccilkgcnaa", sum := "41fc788a0adc6046ba4cf50f42e6e8ca10ff4455dcf87148700a90c1cf0d937d", func := "skyway/skywaykeep2.AssignLeast", spec := "assignLeast", unfollowed := true, recurses := true, apart := false, narrowed := true }
def AssignLeastUptoSaid : Prop := assignLeastUptoRow.holds Try.pinned (OpenSpec.upto assignLeastSpec)

/-- 'skywaykeep2.AssignMisses', WHERE WHAT IT READS IS OF BULK AT MOST 1048576: true; the input reads as it did. -/
def assignMissesUptoRow : OpenClaim := { program := "ytfjchccilkgcnaa", sum := "41fc788a0adc6046ba4cf50f42e6e8ca10ff4455dcf87148700a90c1cf0d937d", func := "skyway/skywaykeep2.AssignMisses", spec := "assignMisses", unfollowed := true, recurses := true, apart := false, narrowed := true }
def AssignMissesUptoSaid : Prop := assignMissesUptoRow.holds Try.pinned (OpenSpec.upto assignMissesSpec)

/-- 'skywaykeep2.WireUnique', WHERE WHAT IT READS IS OF BULK AT MOST 1048576: true; the input reads as it did. -/
def wireUniqueUptoRow : OpenClaim := { program := "ytfjchccilkgcnaa", sum := "41fc788a0adc6046ba4cf50f42e6e8ca10ff4455dcf87148700a90c1cf0d937d", func := "skyway/skywaykeep2.WireUnique", spec := "wireUnique", inPlace := ["math.Float64bits", "math.Float64frombits"], unfollowed := true, recurses := true, apart := false, narrowed := true }
def WireUniqueUptoSaid : Prop := wireUniqueUptoRow.holds Try.pinned (OpenSpec.upto wireUniqueSpec)

/-- 'skywaykeep2.WireDamage', WHERE WHAT IT READS IS OF BULK AT MOST 1048576: true; the input reads as it did. -/
def wireDamageUptoRow : OpenClaim := { program := "ytfjchccilkgcnaa", sum := "41fc788a0adc6046ba4cf50f42e6e8ca10ff4455dcf87148700a90c1cf0d937d", func := "skyway/skywaykeep2.WireDamage", spec := "wireDamage", inPlace := ["math.Float64bits", "math.Float64frombits"], unfollowed := true, recurses := true, apart := false, narrowed := true }
def WireDamageUptoSaid : Prop := wireDamageUptoRow.holds Try.pinned (OpenSpec.upto wireDamageSpec)

/-- 'skywaykeep2.WireBack', WHERE WHAT IT READS IS OF BULK AT MOST 1048576: true; the input reads as it did. -/
def wireBackUptoRow : OpenClaim := { program := "ytfjchccilkgcnaa", sum := "41fc788a0adc6046ba4cf50f42e6e8ca10ff4455dcf87148700a90c1cf0d937d", func := "skyway/skywaykeep2.WireBack", spec := "wireBack", inPlace := ["math.Float64bits", "math.Float64frombits"], unfollowed := true, recurses := true, apart := false, narrowed := true }
def WireBackUptoSaid : Prop := wireBackUptoRow.holds Try.pinned (OpenSpec.upto wireBackSpec)

/-- 'skywaykeep2.BiasExact', WHERE WHAT IT READS IS OF BULK AT MOST 1048576: true; the input reads as it did. -/
def biasExactUptoRow : OpenClaim := { program := "ytfjchccilkgcnaa", sum := "41fc788a0adc6046ba4cf50f42e6e8ca10ff4455dcf87148700a90c1cf0d937d", func := "skyway/skywaykeep2.BiasExact", spec := "biasExact", recurses := true, apart := false, narrowed := true }
def BiasExactUptoSaid : Prop := biasExactUptoRow.holds Try.pinned (OpenSpec.upto biasExactSpec)

/-- 'skywaykeep2.MosaicOrder', WHERE WHAT IT READS IS OF BULK AT MOST 1048576: true; the input reads as it did. -/
def mosaicOrderUptoRow : OpenClaim := { program := "ytfjchccilkgcnaa", sum := "41fc788a0adc6046ba4cf50f42e6e8ca10ff4455dcf87148700a90c1cf0d937d", func := "skyway/skywaykeep2.MosaicOrder", spec := "mosaicOrder", unfollowed := true, recurses := true, apart := false, narrowed := true }
def MosaicOrderUptoSaid : Prop := mosaicOrderUptoRow.holds Try.pinned (OpenSpec.upto mosaicOrderSpec)

/-- 'skywaylaw1.ShortestWays', WHERE WHAT IT READS IS OF BULK AT MOST 1048576: true; the input reads as it did. -/
def shortestWaysUptoRow : OpenClaim := { program := "ytfjchccilkgcnaa", sum := "41fc788a0adc6046ba4cf50f42e6e8ca10ff4455dcf87148700a90c1cf0d937d", func := "skyway/skywaylaw1.ShortestWays", spec := "shortestWays", unfollowed := true, recurses := true, apart := false, narrowed := true }
def ShortestWaysUptoSaid : Prop := shortestWaysUptoRow.holds Try.pinned (OpenSpec.upto shortestWaysSpec)

/-- 'skywaykeep2.FuseOnce', WHERE WHAT IT READS IS OF BULK AT MOST 1048576: true; the input reads as it did. -/
def fuseOnceUptoRow : OpenClaim := { program := "ytfjchccilkgcnaa", sum := "41fc788a0adc6046ba4cf50f42e6e8ca10ff4455dcf87148700a90c1cf0d937d", func := "skyway/skywaykeep2.FuseOnce", spec := "fuseOnce", unfollowed := true, recurses := true, apart := false, narrowed := true }
def FuseOnceUptoSaid : Prop := fuseOnceUptoRow.holds Try.pinned (OpenSpec.upto fuseOnceSpec)

end Rows
end Go.Proofs.Ytfjchccilkgcnaa
