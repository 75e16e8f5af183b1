/- The checks of places, spots and tracks, and what Predict keeps. Conditions: in each theorem. -/
import Derived.Test.YtkjdmkgacmkpjaaGeo
namespace Go.Sky
open Go Go.Eng Go.Glue

def FilterTrack.In (f : FilterTrack) : Prop :=
  f.Track.In ∧ (-12800 ≤ f.Track.Speed.X ∧ f.Track.Speed.X ≤ 12800) ∧ (-12800 ≤ f.Track.Speed.Y ∧ f.Track.Speed.Y ≤ 12800) ∧ (-3200 ≤ f.Track.Rate ∧ f.Track.Rate ≤ 3200) ∧ (0 ≤ f.Slack ∧ f.Slack ≤ 409600)
    ∧ (0 ≤ f.Track.ID ∧ 0 ≤ f.Track.Hits ∧ 0 ≤ f.Track.Misses) ∧ (0 ≤ f.Track.State ∧ f.Track.State ≤ 2) ∧ f.Last.In ∧ f.Last.Time ≤ f.Track.Time

theorem out_filter {n a b : Int} : filter_out n a b = decide (¬ (a ≤ n ∧ n ≤ b)) := by
  unfold filter_out; rw [Bool.eq_iff_iff]; simp

/-- What Check says of a track: the codes are 0, 1, 4 or 12. -/
theorem check_eq (f : FilterTrack) : filter_Check f = 0 ∧ f.In ∨ (filter_Check f = 1 ∨ filter_Check f = 4 ∨ filter_Check f = 12) ∧ ¬ f.In := by
  unfold filter_Check FilterTrack.In
  simp only [ite_of_cond, out_filter, decide_eq_true_eq]
  rcases checkTrack_eq f.Track with ⟨h1, h2⟩ | ⟨h1, h2⟩
  · rw [h1, if_neg (by simp)]
    split
    · exact .inr ⟨by simp, fun h => by omega⟩
    · split
      · exact .inr ⟨by simp, fun h => by omega⟩
      · split
        · exact .inr ⟨by simp, fun h => by omega⟩
        · split
          · rename_i h; simp at h; exact .inr ⟨by simp, fun h => by omega⟩
          · rename_i h7; simp at h7
            split
            · exact .inr ⟨by simp, fun h => by omega⟩
            · rcases checkSpot_eq f.Last with ⟨h3, h4⟩ | ⟨h3, h4⟩
              · rw [h3, if_neg (by simp)]
                split
                · exact .inr ⟨by simp, fun h => by omega⟩
                · exact .inl ⟨rfl, h2, by omega, by omega, by omega, by omega, by omega, by omega, h4, by omega⟩
              · rw [h3, if_pos (by simp)]
                exact .inr ⟨by simp, fun h => h4 h.2.2.2.2.2.2.2.1⟩
  · rw [h1, if_pos (by simp)]
    exact .inr ⟨by simp, fun h => h2 h.1⟩
theorem check_iff {f : FilterTrack} : filter_Check f = 0 ↔ f.In := by
  rcases check_eq f with ⟨h1, h2⟩ | ⟨h1, h2⟩
  · exact ⟨fun _ => h2, fun _ => h1⟩
  · exact ⟨fun h => by omega, fun h => absurd h h2⟩

/-- What Predict hands back with the code 0 is a track that Check accepts, at the time asked for. -/
theorem predict_in {f : FilterTrack} {t a : Int} (h : (filter_Predict f t a).2 = 0) : (filter_Predict f t a).1.In := by
  unfold filter_Predict at h ⊢
  simp only [ite_of_cond] at h ⊢
  by_cases h1 : (filter_Check f != 0) = true
  · rw [if_pos h1] at h; simp at h h1; exact absurd h h1
  · rw [if_neg h1] at h ⊢
    have hc : f.In := check_iff.1 (by simpa using h1)
    by_cases h2 : filter_out t 0 200000 = true
    · rw [if_pos h2] at h; cases h
    · rw [if_neg h2] at h ⊢
      by_cases h3 : filter_out a 0 20 = true
      · rw [if_pos h3] at h; cases h
      · rw [if_neg h3] at h ⊢
        by_cases h4 : filter_out (w64 (t - f.Track.Time)) 0 600 = true
        · rw [if_pos h4] at h; cases h
        · rw [if_neg h4] at h ⊢
          by_cases h5 : (w64 (t - f.Track.Time) == 0) = true
          · rw [if_pos h5]; exact hc
          · rw [if_neg h5] at h ⊢
            generalize hg : (⟨⟨f.Track.ID, f.Track.State, t, plane_Add f.Track.At ⟨filter_down (w64 (f.Track.Speed.X * w64 (t - f.Track.Time))) 16, filter_down (w64 (f.Track.Speed.Y * w64 (t - f.Track.Time))) 16⟩, f.Track.Speed, num_Between (w64 (f.Track.Height + filter_down (w64 (f.Track.Rate * w64 (t - f.Track.Time))) 16)) 0 60000, f.Track.Rate, w64 (f.Track.Radius + (gate_Reach f.Slack a (w64 (t - f.Track.Time))).1), f.Track.Code, f.Track.Hits, f.Track.Misses⟩, w64 (f.Slack + w64 (w64 (16 * a) * w64 (t - f.Track.Time))), f.Last⟩ : FilterTrack) = g at h ⊢
            by_cases h6 : (filter_Check g != 0) = true
            · rw [if_pos h6] at h; cases h
            · rw [if_neg h6]; exact check_iff.1 (by simpa using h6)

end Go.Sky
