/- The law TrackerErrors in plain Lean. Conditions: none that are used. -/
import Derived.Test.YtehhgjhileappaaTrl
import Derived.Test.YtehhgjhileappaaKh
namespace Go.Sky
open Go Go.Eng Go.Glue Go.Srt

theorem TrackerErrors_true (x0 : List Spot) (x1 : Spot) (x2 : Int) (_s0 : x0.length < 4611686018427387904) (_k0 : ∀ a ∈ x0, a.ok) (_k1 : x1.ok) (_k2 : I64 x2) : skywaykeep2_TrackerErrors x0 x1 x2 = true := by
  unfold skywaykeep2_TrackerErrors
  simp only
  rw [tracks_true, Bool.not_true, cond_false, show ((tracker_New (skywaykeep2_rules 1 1)).2 != 0) = false by kernel_rfl, cond_false]
  unfold bindv
  dsimp only
  generalize tracker_Tracker_Scan (tracker_New (skywaykeep2_rules 1 1)).1 _ 10 = r4
  generalize hr : tracker_Tracker_Scan r4.2.2 _ x2 = r7
  rcases scan_cases hr with ⟨_, h1, h2⟩ | ⟨h1, _⟩
  · rw [h1, h2, equal_selfF]
    cases (r7.2.1 == 0) <;> rfl
  · rw [h1]; rfl
end Go.Sky
