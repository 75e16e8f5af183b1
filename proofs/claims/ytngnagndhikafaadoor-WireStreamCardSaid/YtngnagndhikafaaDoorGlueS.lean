/- How a string argument and a byte argument are read. Conditions: none. -/
import Derived.Test.YtngnagndhikafaaDoorGlue
import Derived.ChangeMaps5
namespace Go.Glue
open Go.ChangeShapes Go.WideShapes Go.ChangeAt Go.RowKit Go.Eng Go.ChangeMaps
variable {H : Type} {enc : TypeId × Value → H} {P : Program} {W : World} {base b0 : Nat} {sp : Nat → Bool} {hd : Bool} {t : TypeId} {v : Value} {d : DataW H} {p : List MemPlace}

theorem arg_string (ht : P.underlying t = some .string) (hval : Value.okWide P W .any b0 t v) (h : DataW.Trod enc P W base sp hd t v d p) (hw : ∀ n ∈ d.weights P t, n ≤ reachBytes) : ∃ s, v = .string s ∧ s.size ≤ 140737488351232 := by
  obtain ⟨s, rfl, rfl, _, _⟩ := open_string ht hval h
  refine ⟨s, rfl, ?_⟩
  have := hw s.data.toList.length (by simp [DataW.weights])
  rw [Array.length_toList] at this
  exact Nat.le_trans this (by decide)
theorem arg_byte (ht : P.underlying t = some (.int .u8)) (hval : Value.okWide P W .any b0 t v) (h : DataW.Trod enc P W base sp hd t v d p) : ∃ a, v = .int .u8 a ∧ 0 ≤ a ∧ a ≤ 255 := by
  obtain ⟨a, rfl, _, _, w⟩ := open_int ht hval h
  simp only [Lit.wf, Bool.and_eq_true, decide_eq_true_eq] at w
  exact ⟨a, rfl, w.1, w.2⟩
end Go.Glue
