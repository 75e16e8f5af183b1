/-
  No cell of these rows narrows 'for every input' (looked for: loops, veiled, ifaces, maps, wideKeys, modest, calm, conditions, laid).
  DERIVED. THE GIVEN ROWS OF THIS SEAT. 3 by the template 'for every input the law returns true; each argument reads behind the call as it read before'; 0 by the template 'total and deterministic' (their statements: YtehhgjhileappaaTotals.lean).
  GIVEN WITH THE SEED: the statements are not yours to turn. If you find one false, say at which input.
  Laid BY PROGRAM, IN A SANDBOX (cutbox-rows.mjs): the forced cells as the released guide's own fill.sh prints them over the translation d8a5995db5513722… (all of the seat's roots in one cut). By AI agents, Wed Nov 11 2026. No macro, syntax, notation, axiom, sorry.
-/
import Derived.Test.YtehhgjhileappaaChecked
import GoSem.Claim
import GoSem.ClaimJoined
import GoSem.ClaimMapViews
import Derived.JoinedTies
import Derived.KernelRfl
namespace Go.Proofs.Ytehhgjhileappaa
/- THE CELL 'sum', in the pinned program and in every row, IS THE sha256 OF THE DUMP (.gsa) THAT YtehhgjhileappaaProg.lean LOADS. Nothing in Lean hashes anything: it is a label: what it is worth is what the hold of that sum in a sandbox is worth. -/
noncomputable def Try.pinned : Pinned := { name := "ytehhgjhileappaa", sum := "d8a5995db55137227d55ee8a1e8b9c3bdaaf55a4e2841107801ed3991b839f13", checked := Try.checked }
namespace Rows
def none {H : Type} : Left H := { results := [], args := [] }

/-- 'skywaykeep2.TrackerOrder': WHATEVER THE INPUT: true; the input reads as it did. -/
def trackerOrderSpec : ChangeSpec := { name := "trackerOrder", fn := fun _ => fun
  | [d1, d2] => { results := [.lit (.bool true)], args := [d1, d2] }
  | _ => none }
def trackerOrderRow : OpenClaim := { program := "ytehhgjhileappaa", sum := "d8a5995db55137227d55ee8a1e8b9c3bdaaf55a4e2841107801ed3991b839f13", func := "skyway/skywaykeep2.TrackerOrder", spec := "trackerOrder", unfollowed := true, recurses := true, apart := false }
def TrackerOrderSaid : Prop := trackerOrderRow.holds Try.pinned (OpenSpec.ofChange trackerOrderSpec)

/-- ITS FALSE NEIGHBOUR: 'it returns false'. Refute it at one input. -/
def trackerOrderWrong : ChangeSpec := { name := "trackerOrder", fn := fun _ => fun
  | [d1, d2] => { results := [.lit (.bool false)], args := [d1, d2] }
  | _ => none }
def TrackerOrderWrongFalsely : Prop := trackerOrderRow.holds Try.pinned (OpenSpec.ofChange trackerOrderWrong)

/-- 'skywaykeep2.TrackerErrors': WHATEVER THE INPUT: true; the input reads as it did. -/
def trackerErrorsSpec : ChangeSpec := { name := "trackerErrors", fn := fun _ => fun
  | [d1, d2, d3] => { results := [.lit (.bool true)], args := [d1, d2, d3] }
  | _ => none }
def trackerErrorsRow : OpenClaim := { program := "ytehhgjhileappaa", sum := "d8a5995db55137227d55ee8a1e8b9c3bdaaf55a4e2841107801ed3991b839f13", func := "skyway/skywaykeep2.TrackerErrors", spec := "trackerErrors", unfollowed := true, recurses := true, apart := false }
def TrackerErrorsSaid : Prop := trackerErrorsRow.holds Try.pinned (OpenSpec.ofChange trackerErrorsSpec)

/-- ITS FALSE NEIGHBOUR: 'it returns false'. Refute it at one input. -/
def trackerErrorsWrong : ChangeSpec := { name := "trackerErrors", fn := fun _ => fun
  | [d1, d2, d3] => { results := [.lit (.bool false)], args := [d1, d2, d3] }
  | _ => none }
def TrackerErrorsWrongFalsely : Prop := trackerErrorsRow.holds Try.pinned (OpenSpec.ofChange trackerErrorsWrong)

/-- 'skywaykeep2.TrackerNumbers': WHATEVER THE INPUT: true; the input reads as it did. -/
def trackerNumbersSpec : ChangeSpec := { name := "trackerNumbers", fn := fun _ => fun
  | [d1, d2] => { results := [.lit (.bool true)], args := [d1, d2] }
  | _ => none }
def trackerNumbersRow : OpenClaim := { program := "ytehhgjhileappaa", sum := "d8a5995db55137227d55ee8a1e8b9c3bdaaf55a4e2841107801ed3991b839f13", func := "skyway/skywaykeep2.TrackerNumbers", spec := "trackerNumbers", unfollowed := true, recurses := true, apart := false }
def TrackerNumbersSaid : Prop := trackerNumbersRow.holds Try.pinned (OpenSpec.ofChange trackerNumbersSpec)

/-- ITS FALSE NEIGHBOUR: 'it returns false'. Refute it at one input. -/
def trackerNumbersWrong : ChangeSpec := { name := "trackerNumbers", fn := fun _ => fun
  | [d1, d2] => { results := [.lit (.bool false)], args := [d1, d2] }
  | _ => none }
def TrackerNumbersWrongFalsely : Prop := trackerNumbersRow.holds Try.pinned (OpenSpec.ofChange trackerNumbersWrong)

/- THE SECOND FORM. 'bulk': how many values and letters a reading holds, each counted each time it is reached (what is shared counts as often as it is met; a slice's spare places count too). A statement '..UptoSaid' is the law's where the arguments, and the package variables that the reading takes, are together of bulk at most 1048576: NARROWER than '..Said'. Prove '..Said' where nothing that the law and all that it calls make is longer than what came in: it says more and counts as full. Else prove '..UptoSaid'. A law counts once. -/
mutual
def uptoBulk {H : Type} : DataW H → Nat
  | .lit (.string bytes) => bytes.length + 1
  | .lit _ => 1
  | .nil => 1
  | .ptr d => uptoBulk d + 1
  | .slice elems spare => uptoBulkAll elems + uptoBulkAll spare + 1
  | .agg parts => uptoBulkAll parts + 1
  | .iface _ d => uptoBulk d + 1
  | .map entries => uptoBulkEntries entries + 1
  | .held _ => 1
def uptoBulkAll {H : Type} : List (DataW H) → Nat
  | [] => 0
  | d :: r => uptoBulk d + uptoBulkAll r
def uptoBulkEntries {H : Type} : List (Lit × DataW H) → Nat
  | [] => 0
  | x :: r => uptoBulkEntry x + uptoBulkEntries r
def uptoBulkEntry {H : Type} : Lit × DataW H → Nat
  | (.string bytes, d) => bytes.length + uptoBulk d + 1
  | (_, d) => uptoBulk d + 1
 end
def uptoSmall : (H : Type) → List (DataW H) → Bool := fun _ ds => decide (uptoBulkAll ds ≤ 1048576)
def OpenSpec.upto (s : _root_.Go.ChangeSpec) : _root_.Go.OpenSpec := { _root_.Go.OpenSpec.ofChange s with cond := some uptoSmall }

/-- 'skywaykeep2.TrackerOrder', WHERE WHAT IT READS IS OF BULK AT MOST 1048576: true; the input reads as it did. -/
def trackerOrderUptoRow : OpenClaim := { program := "ytehhgjhileappaa", sum := "d8a5995db55137227d55ee8a1e8b9c3bdaaf55a4e2841107801ed3991b839f13", func := "skyway/skywaykeep2.TrackerOrder", spec := "trackerOrder", unfollowed := true, recurses := true, apart := false, narrowed := true }
def TrackerOrderUptoSaid : Prop := trackerOrderUptoRow.holds Try.pinned (OpenSpec.upto trackerOrderSpec)

/-- 'skywaykeep2.TrackerErrors', WHERE WHAT IT READS IS OF BULK AT MOST 1048576: true; the input reads as it did. -/
def trackerErrorsUptoRow : OpenClaim := { program := "ytehhgjhileappaa", sum := "d8a5995db55137227d55ee8a1e8b9c3bdaaf55a4e2841107801ed3991b839f13", func := "skyway/skywaykeep2.TrackerErrors", spec := "trackerErrors", unfollowed := true, recurses := true, apart := false, narrowed := true }
def TrackerErrorsUptoSaid : Prop := trackerErrorsUptoRow.holds Try.pinned (OpenSpec.upto trackerErrorsSpec)

/-- 'skywaykeep2.TrackerNumbers', WHERE WHAT IT READS IS OF BULK AT MOST 1048576: true; the input reads as it did. -/
def trackerNumbersUptoRow : OpenClaim := { program := "ytehhgjhileappaa", sum := "d8a5995db55137227d55ee8a1e8b9c3bdaaf55a4e2841107801ed3991b839f13", func := "skyway/skywaykeep2.TrackerNumbers", spec := "trackerNumbers", unfollowed := true, recurses := true, apart := false, narrowed := true }
def TrackerNumbersUptoSaid : Prop := trackerNumbersUptoRow.holds Try.pinned (OpenSpec.upto trackerNumbersSpec)

end Rows
end Go.Proofs.Ytehhgjhileappaa
