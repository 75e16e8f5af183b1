/- The checks of places, spots and tracks, and what Predict keeps. Conditions: in each theorem. -/
import Derived.Test.YtkjdmkgacmkpjaaWa
import Derived.Test.YtkjdmkgacmkpjaaNum
import Derived.Test.YtkjdmkgacmkpjaaOk
namespace Go.Sky
open Go Go.Eng Go.Glue

def P.In (p : P) : Prop := -1000000 ≤ p.X ∧ p.X ≤ 1000000 ∧ -1000000 ≤ p.Y ∧ p.Y ≤ 1000000
def Spot.In (s : Spot) : Prop := (0 ≤ s.Time ∧ s.Time ≤ 200000) ∧ s.At.In ∧ (0 ≤ s.Height ∧ s.Height ≤ 60000) ∧ (-1 ≤ s.Code ∧ s.Code ≤ 4095) ∧ (0 ≤ s.Error ∧ s.Error ≤ 1000000)
def Track.In (t : Track) : Prop := (0 ≤ t.Time ∧ t.Time ≤ 200000) ∧ t.At.In ∧ (0 ≤ t.Height ∧ t.Height ≤ 60000) ∧ (-1 ≤ t.Code ∧ t.Code ≤ 4095) ∧ (0 ≤ t.Radius ∧ t.Radius ≤ 4000000)
def FilterTrack.In (f : FilterTrack) : Prop :=
  f.Track.In ∧ (-12800 ≤ f.Track.Speed.X ∧ f.Track.Speed.X ≤ 12800) ∧ (-12800 ≤ f.Track.Speed.Y ∧ f.Track.Speed.Y ≤ 12800) ∧ (-3200 ≤ f.Track.Rate ∧ f.Track.Rate ≤ 3200) ∧ (0 ≤ f.Slack ∧ f.Slack ≤ 409600)
    ∧ (0 ≤ f.Track.ID ∧ 0 ≤ f.Track.Hits ∧ 0 ≤ f.Track.Misses) ∧ (0 ≤ f.Track.State ∧ f.Track.State ≤ 2) ∧ f.Last.In ∧ f.Last.Time ≤ f.Track.Time

theorem out_radar {n a b : Int} : radar_out n a b = decide (¬ (a ≤ n ∧ n ≤ b)) := by
  unfold radar_out; rw [Bool.eq_iff_iff]; simp
theorem out_filter {n a b : Int} : filter_out n a b = decide (¬ (a ≤ n ∧ n ≤ b)) := by
  unfold filter_out; rw [Bool.eq_iff_iff]; simp

theorem checkP_eq (p : P) : plane_Check p = 0 ∧ p.In ∨ plane_Check p = 4 ∧ ¬ p.In := by
  unfold plane_Check P.In
  rw [ite_of_cond]
  split
  · rename_i h; simp at h; exact .inr ⟨rfl, by omega⟩
  · rename_i h; simp at h; exact .inl ⟨rfl, by omega⟩
theorem checkP_iff {p : P} : plane_Check p = 0 ↔ p.In := by
  rcases checkP_eq p with ⟨h1, h2⟩ | ⟨h1, h2⟩
  · exact ⟨fun _ => h2, fun _ => h1⟩
  · exact ⟨fun h => by omega, fun h => absurd h h2⟩

theorem checkSpot_eq (s : Spot) : radar_CheckSpot s = 0 ∧ s.In ∨ radar_CheckSpot s = 4 ∧ ¬ s.In := by
  unfold radar_CheckSpot Spot.In
  simp only [ite_of_cond, out_radar, decide_eq_true_eq]
  split
  · exact .inr ⟨rfl, fun h => by omega⟩
  · rcases checkP_eq s.At with ⟨h1, h2⟩ | ⟨h1, h2⟩
    · rw [h1, if_neg (by simp)]
      split
      · exact .inr ⟨rfl, fun h => by omega⟩
      · split
        · exact .inr ⟨rfl, fun h => by omega⟩
        · split
          · exact .inr ⟨rfl, fun h => by omega⟩
          · exact .inl ⟨rfl, by omega, h2, by omega, by omega, by omega⟩
    · rw [h1, if_pos (by simp)]
      exact .inr ⟨rfl, fun h => h2 h.2.1⟩
theorem checkSpot_iff {s : Spot} : radar_CheckSpot s = 0 ↔ s.In := by
  rcases checkSpot_eq s with ⟨h1, h2⟩ | ⟨h1, h2⟩
  · exact ⟨fun _ => h2, fun _ => h1⟩
  · exact ⟨fun h => by omega, fun h => absurd h h2⟩
theorem checkTrack_eq (t : Track) : gate_CheckTrack t = 0 ∧ t.In ∨ gate_CheckTrack t = 4 ∧ ¬ t.In := by
  unfold gate_CheckTrack Track.In
  simp only [ite_of_cond]
  rcases checkSpot_eq ⟨t.Time, t.At, t.Height, t.Code, 0⟩ with ⟨h1, h2⟩ | ⟨h1, h2⟩
  · rw [h1]
    obtain ⟨g1, g2, g3, g4, _⟩ := h2
    split
    · rename_i h; simp at h; exact .inr ⟨rfl, fun hh => by omega⟩
    · rename_i h; simp at h; exact .inl ⟨rfl, g1, g2, g3, g4, by omega⟩
  · rw [h1, if_pos (by simp)]
    exact .inr ⟨rfl, fun hh => h2 ⟨hh.1, hh.2.1, hh.2.2.1, hh.2.2.2.1, show (0 : Int) ≤ 0 ∧ (0 : Int) ≤ 1000000 by decide⟩⟩

/-- What Check says of a track: the codes are 0, 1, 4 or 12. -/
theorem check_eq (f : FilterTrack) : filter_Check f = 0 ∧ f.In ∨ (filter_Check f = 1 ∨ filter_Check f = 4 ∨ filter_Check f = 12) ∧ ¬ f.In := by
  unfold filter_Check FilterTrack.In
  simp only [ite_of_cond, out_filter, decide_eq_true_eq]
  rcases checkTrack_eq f.Track with ⟨h1, h2⟩ | ⟨h1, h2⟩
  · rw [h1, if_neg (by simp)]
    split
    · exact .inr ⟨by simp, fun h => by omega⟩
    · split
      · exact .inr ⟨by simp, fun h => by omega⟩
      · split
        · exact .inr ⟨by simp, fun h => by omega⟩
        · split
          · rename_i h; simp at h; exact .inr ⟨by simp, fun h => by omega⟩
          · rename_i h7; simp at h7
            split
            · exact .inr ⟨by simp, fun h => by omega⟩
            · rcases checkSpot_eq f.Last with ⟨h3, h4⟩ | ⟨h3, h4⟩
              · rw [h3, if_neg (by simp)]
                split
                · exact .inr ⟨by simp, fun h => by omega⟩
                · exact .inl ⟨rfl, h2, by omega, by omega, by omega, by omega, by omega, by omega, h4, by omega⟩
              · rw [h3, if_pos (by simp)]
                exact .inr ⟨by simp, fun h => h4 h.2.2.2.2.2.2.2.1⟩
  · rw [h1, if_pos (by simp)]
    exact .inr ⟨by simp, fun h => h2 h.1⟩
theorem check_iff {f : FilterTrack} : filter_Check f = 0 ↔ f.In := by
  rcases check_eq f with ⟨h1, h2⟩ | ⟨h1, h2⟩
  · exact ⟨fun _ => h2, fun _ => h1⟩
  · exact ⟨fun h => by omega, fun h => absurd h h2⟩

/-- What Predict hands back with the code 0 is a track that Check accepts, at the time asked for. -/
theorem predict_in {f : FilterTrack} {t a : Int} (h : (filter_Predict f t a).2 = 0) : (filter_Predict f t a).1.In := by
  unfold filter_Predict at h ⊢
  simp only [ite_of_cond] at h ⊢
  by_cases h1 : (filter_Check f != 0) = true
  · rw [if_pos h1] at h; simp at h h1; exact absurd h h1
  · rw [if_neg h1] at h ⊢
    have hc : f.In := check_iff.1 (by simpa using h1)
    by_cases h2 : filter_out t 0 200000 = true
    · rw [if_pos h2] at h; cases h
    · rw [if_neg h2] at h ⊢
      by_cases h3 : filter_out a 0 20 = true
      · rw [if_pos h3] at h; cases h
      · rw [if_neg h3] at h ⊢
        by_cases h4 : filter_out (w64 (t - f.Track.Time)) 0 600 = true
        · rw [if_pos h4] at h; cases h
        · rw [if_neg h4] at h ⊢
          by_cases h5 : (w64 (t - f.Track.Time) == 0) = true
          · rw [if_pos h5]; exact hc
          · rw [if_neg h5] at h ⊢
            generalize hg : (⟨⟨f.Track.ID, f.Track.State, t, plane_Add f.Track.At ⟨filter_down (w64 (f.Track.Speed.X * w64 (t - f.Track.Time))) 16, filter_down (w64 (f.Track.Speed.Y * w64 (t - f.Track.Time))) 16⟩, f.Track.Speed, num_Between (w64 (f.Track.Height + filter_down (w64 (f.Track.Rate * w64 (t - f.Track.Time))) 16)) 0 60000, f.Track.Rate, w64 (f.Track.Radius + (gate_Reach f.Slack a (w64 (t - f.Track.Time))).1), f.Track.Code, f.Track.Hits, f.Track.Misses⟩, w64 (f.Slack + w64 (w64 (16 * a) * w64 (t - f.Track.Time))), f.Last⟩ : FilterTrack) = g at h ⊢
            by_cases h6 : (filter_Check g != 0) = true
            · rw [if_pos h6] at h; cases h
            · rw [if_neg h6]; exact check_iff.1 (by simpa using h6)

theorem sq_bound {x n : Int} (h : -n ≤ x ∧ x ≤ n) : 0 ≤ x * x ∧ x * x ≤ n * n := by
  constructor
  · rcases Int.le_total 0 x with h0 | h0
    · exact Int.mul_nonneg h0 h0
    · rw [← Int.neg_mul_neg]; exact Int.mul_nonneg (by omega) (by omega)
  · by_cases hx : 0 ≤ x
    · exact Int.mul_le_mul h.2 h.2 hx (by omega)
    · have : (-x) * (-x) ≤ n * n := Int.mul_le_mul (by omega) (by omega) (by omega) (by omega)
      rwa [Int.neg_mul_neg] at this
theorem square_eq {p q : P} (hp : p.In) (hq : q.In) : plane_Square p q = (p.X - q.X) * (p.X - q.X) + (p.Y - q.Y) * (p.Y - q.Y) ∧ 0 ≤ plane_Square p q ∧ plane_Square p q ≤ 8000000000000 := by
  obtain ⟨p1, p2, p3, p4⟩ := hp
  obtain ⟨q1, q2, q3, q4⟩ := hq
  have b1 := sq_bound (x := p.X - q.X) (n := 2000000) (by omega)
  have b2 := sq_bound (x := p.Y - q.Y) (n := 2000000) (by omega)
  have e : plane_Square p q = (p.X - q.X) * (p.X - q.X) + (p.Y - q.Y) * (p.Y - q.Y) := by
    show w64 (w64 (w64 (p.X - q.X) * w64 (p.X - q.X)) + w64 (w64 (p.Y - q.Y) * w64 (p.Y - q.Y))) = _
    rw [w64_id (x := p.X - q.X) (by omega), w64_id (x := p.Y - q.Y) (by omega), w64_id (x := (p.X - q.X) * (p.X - q.X)) (by omega), w64_id (x := (p.Y - q.Y) * (p.Y - q.Y)) (by omega), w64_id (by omega)]
  exact ⟨e, by omega, by omega⟩
theorem square_comm {p q : P} (hp : p.In) (hq : q.In) : plane_Square p q = plane_Square q p := by
  rw [(square_eq hp hq).1, (square_eq hq hp).1]
  have e1 : (p.X - q.X) * (p.X - q.X) = (q.X - p.X) * (q.X - p.X) := by rw [← Int.neg_mul_neg, Int.neg_sub]
  have e2 : (p.Y - q.Y) * (p.Y - q.Y) = (q.Y - p.Y) * (q.Y - p.Y) := by rw [← Int.neg_mul_neg, Int.neg_sub]
  omega
theorem imax_comm (x y : Int) : imax x y = imax y x := by unfold imax; split <;> split <;> omega
theorem imax_ge (x y : Int) : x ≤ imax x y ∧ y ≤ imax x y ∧ (imax x y = x ∨ imax x y = y) := by unfold imax; split <;> omega
end Go.Sky
