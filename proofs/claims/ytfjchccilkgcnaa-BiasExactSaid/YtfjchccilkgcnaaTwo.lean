/- The element of an array of two, by an index that is 0 or 1. Conditions: in the theorem. -/
import Derived.Test.YtfjchccilkgcnaaStr
namespace Go.Eng

theorem run_index_two {P : Program} {w : World} {t e d : TypeId} {k : IntKind} {i : Int} {u v : Value} (h0 : 0 ≤ i) (h1 : i < 2) (ht : P.underlying t = some (.array 2 e)) (he : P.underlying e = some (.slice d)) (hs : (P.info? e).map (·.size) = some 1) :
    (sV (Instr.index t (.agg #[u, v]) (.int k i))).run P w = .ok (.value (cond (decide (i = 0)) u v)) w := by
  refine run_sV ?_
  have hu := run_underlying (P := P) (w := w) ht
  have hu2 := run_underlying (P := P) (w := w) he
  cases hi : P.info? e with
  | none => rw [hi] at hs; cases hs
  | some q =>
    rw [hi] at hs
    simp only [Option.map_some, Option.some.injEq] at hs
    rcases (show i = 0 ∨ i = 1 by omega) with rfl | rfl
    · simp [Instr.index, asIntOf, hu, sizeOf, typeInfo, hi, hs, part, isAgg, hu2]
    · simp [Instr.index, asIntOf, hu, sizeOf, typeInfo, hi, hs, part, isAgg, hu2]
end Go.Eng
