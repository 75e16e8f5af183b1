/- The law ClimbNarrows in plain Lean. Conditions: the reports' fields are 64-bit integers. -/
import Derived.Test.YtbhemgagabdjkaaWb
import Derived.Test.YtbhemgagabdjkaaClimb
import Derived.Test.YtbhemgagabdjkaaOk
namespace Go.Sky
open Go Go.Eng Go.Glue

theorem ClimbNarrows_true (x0 : List ClimbReport) (_s0 : x0.length < 4611686018427387904) (_k0 : ∀ a ∈ x0, a.ok) : skywaykeep2_ClimbNarrows x0 = true := by
  unfold skywaykeep2_ClimbNarrows
  have e0 : climb_Rates [] = (-3200, 3200, 0) := by decide
  rw [e0]
  have e1 : ((((0 : Int) != 0) || ((-3200 : Int) != (-3200))) || ((3200 : Int) != 3200)) = false := rfl
  simp only [e1, cond_false]
  by_cases hl : (x0.length : Int) = 0
  · have : ((x0.length : Int) == 0) = true := by simpa using hl
    rw [this, cond_true]
  · have : ((x0.length : Int) == 0) = false := by simpa using hl
    rw [this, cond_false]
    have hs : x0 = x0.take (x0.length - 1) ++ x0.drop (x0.length - 1) := (List.take_append_drop _ _).symm
    rcases rates_eq x0 with ⟨h, e⟩ | ⟨hv, ⟨h, e⟩ | ⟨h, e⟩⟩
    · have h2 : (climb_Check x0 != 0) = true := by simpa using h
      simp only [e, h2, cond_true]
      rfl
    · simp only [e]
      rfl
    · have hp : Valid (x0.take (x0.length - 1)) := by
        rw [hs] at hv
        exact hv.front
      have l1 : rlo (x0.take (x0.length - 1)) ≤ rlo x0 := by
        have := rlo_front (x0.take (x0.length - 1)) (x0.drop (x0.length - 1))
        rwa [← hs] at this
      have l2 : rhi x0 ≤ rhi (x0.take (x0.length - 1)) := by
        have := rhi_front (x0.take (x0.length - 1)) (x0.drop (x0.length - 1))
        rwa [← hs] at this
      rcases rates_eq (x0.take (x0.length - 1)) with ⟨h', e'⟩ | ⟨_, ⟨h', e'⟩ | ⟨h', e'⟩⟩
      · exact absurd ((check_iff _).2 hp) h'
      · omega
      · simp only [e, e']
        have e2 : ((0 : Int) != 0) = false := rfl
        simp only [e2, cond_false]
        simp
        omega
end Go.Sky
