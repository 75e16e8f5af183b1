/- Numbers and geometry. Conditions: in each theorem. -/
import Derived.Test.YtehhgjhileappaaWa
import Derived.Test.YtehhgjhileappaaOk
namespace Go.Sky
open Go Go.Eng

theorem divDown_eq {a b : Int} (hb : 0 < b) (ha : -9223372036854775807 ≤ a ∧ a ≤ 9223372036854775807) : num_DivDown a b = (a / b, 0) := by
  unfold num_DivDown
  have e0 : (b == 0) = false := by simp; omega
  have e1 : (a == (-9223372036854775808)) = false := by simp; omega
  have e2 : decide (b < 0) = false := by simp; omega
  simp only [e0, e1, e2, Bool.false_and, cond_false]
  by_cases h : 0 ≤ a
  · have e3 : decide (a < 0) = false := by simp; omega
    have hw : w64 (a / b) = a / b := w64_id (by have := quot_le h hb; omega)
    simp [e3, tdiv_pos b h, hw]
  · have e3 : decide (a < 0) = true := by simp; omega
    have hq := quot_le (a := -a) (b := b) (by omega) hb
    have hm : a = b * (a / b) + a % b := (Int.mul_ediv_add_emod a b).symm
    have hn : -a = b * (-a / b) + -a % b := (Int.mul_ediv_add_emod (-a) b).symm
    have r1 := Int.emod_nonneg a (show b ≠ 0 by omega)
    have r2 := Int.emod_lt_of_pos a hb
    have r3 := Int.emod_nonneg (-a) (show b ≠ 0 by omega)
    have r4 := Int.emod_lt_of_pos (-a) hb
    rw [e3, tmod_neg b (by omega), tdiv_neg b (by omega), w64_id (x := -(-a / b)) (by omega)]
    by_cases hz : -a % b = 0
    · have : a / b = -(-a / b) := by
        have h1 : a = b * (-(-a / b)) := by rw [Int.mul_neg]; omega
        have h2 : a / b = -(-a / b) := by
          conv => lhs; rw [h1]
          exact Int.mul_ediv_cancel_left _ (by omega)
        exact h2
      have e4 : ((-(-a % b)) != 0) = false := by rw [hz]; rfl
      rw [e4]
      simp only [Bool.false_and, cond_false, this]
    · have e4 : ((-(-a % b)) != 0) = true := by simp; omega
      rw [e4]
      have e5 : (true && !(true == false)) = true := rfl
      rw [e5, cond_true]
      have : a / b = -(-a / b) - 1 := by
        rw [Int.ediv_eq_iff_of_pos hb]
        rw [Int.mul_comm]
        constructor
        · rw [Int.mul_sub, Int.mul_neg]; omega
        · rw [Int.mul_sub, Int.mul_neg]; omega
      rw [w64_id (by omega), this]

theorem divUp_eq {a b : Int} (hb : 0 < b) (ha : -9223372036854775807 ≤ a ∧ a ≤ 9223372036854775806) : num_DivUp a b = (-(-a / b), 0) := by
  unfold num_DivUp
  simp only [divDown_eq hb (show -9223372036854775807 ≤ a ∧ a ≤ 9223372036854775807 by omega), beq_self_eq_true, cond_true]
  have hm : a = b * (a / b) + a % b := (Int.mul_ediv_add_emod a b).symm
  have r1 := Int.emod_nonneg a (show b ≠ 0 by omega)
  have r2 := Int.emod_lt_of_pos a hb
  have hz : a.tmod b = 0 ↔ a % b = 0 := by
    rw [← Int.dvd_iff_tmod_eq_zero, ← Int.dvd_iff_emod_eq_zero]
  have hle : a / b ≤ 9223372036854775806 ∧ -9223372036854775807 ≤ a / b := by
    by_cases h : 0 ≤ a
    · have := quot_le h hb; omega
    · have h1 : a ≤ a / b := by
        rw [Int.le_ediv_iff_mul_le hb]
        have : a * b ≤ a * 1 := Int.mul_le_mul_of_nonpos_left (by omega) (by omega)
        omega
      have h2 : a / b < 0 := Int.ediv_neg_of_neg_of_pos (by omega) hb
      omega
  by_cases h : a % b = 0
  · have e : (a.tmod b != 0) = false := by simpa using hz.2 h
    rw [e, cond_false]
    congr 1
    have h1 : -a = b * (-(a / b)) := by rw [Int.mul_neg]; omega
    have h2 : -a / b = -(a / b) := by
      conv => lhs; rw [h1]
      exact Int.mul_ediv_cancel_left _ (by omega)
    omega
  · have e : (a.tmod b != 0) = true := by simpa using fun hh => h (hz.1 hh)
    rw [e, cond_true, w64_id (by omega)]
    congr 1
    have h2 : -a / b = -(a / b) - 1 := by
      rw [Int.ediv_eq_iff_of_pos hb, Int.mul_comm]
      constructor
      · rw [Int.mul_sub, Int.mul_neg]; omega
      · rw [Int.mul_sub, Int.mul_neg]; omega
    omega
end Go.Sky
namespace Go.Sky
open Go Go.Eng Go.Glue

def P.In (p : P) : Prop := -1000000 ≤ p.X ∧ p.X ≤ 1000000 ∧ -1000000 ≤ p.Y ∧ p.Y ≤ 1000000
def Spot.In (s : Spot) : Prop := (0 ≤ s.Time ∧ s.Time ≤ 200000) ∧ s.At.In ∧ (0 ≤ s.Height ∧ s.Height ≤ 60000) ∧ (-1 ≤ s.Code ∧ s.Code ≤ 4095) ∧ (0 ≤ s.Error ∧ s.Error ≤ 1000000)
def Track.In (t : Track) : Prop := (0 ≤ t.Time ∧ t.Time ≤ 200000) ∧ t.At.In ∧ (0 ≤ t.Height ∧ t.Height ≤ 60000) ∧ (-1 ≤ t.Code ∧ t.Code ≤ 4095) ∧ (0 ≤ t.Radius ∧ t.Radius ≤ 4000000)

theorem out_radar {n a b : Int} : radar_out n a b = decide (¬ (a ≤ n ∧ n ≤ b)) := by
  unfold radar_out; rw [Bool.eq_iff_iff]; simp

theorem checkP_eq (p : P) : plane_Check p = 0 ∧ p.In ∨ plane_Check p = 4 ∧ ¬ p.In := by
  unfold plane_Check P.In
  rw [ite_of_cond]
  split
  · rename_i h; simp at h; exact .inr ⟨rfl, by omega⟩
  · rename_i h; simp at h; exact .inl ⟨rfl, by omega⟩
theorem checkP_iff {p : P} : plane_Check p = 0 ↔ p.In := by
  rcases checkP_eq p with ⟨h1, h2⟩ | ⟨h1, h2⟩
  · exact ⟨fun _ => h2, fun _ => h1⟩
  · exact ⟨fun h => by omega, fun h => absurd h h2⟩

theorem checkSpot_eq (s : Spot) : radar_CheckSpot s = 0 ∧ s.In ∨ radar_CheckSpot s = 4 ∧ ¬ s.In := by
  unfold radar_CheckSpot Spot.In
  simp only [ite_of_cond, out_radar, decide_eq_true_eq]
  split
  · exact .inr ⟨rfl, fun h => by omega⟩
  · rcases checkP_eq s.At with ⟨h1, h2⟩ | ⟨h1, h2⟩
    · rw [h1, if_neg (by simp)]
      split
      · exact .inr ⟨rfl, fun h => by omega⟩
      · split
        · exact .inr ⟨rfl, fun h => by omega⟩
        · split
          · exact .inr ⟨rfl, fun h => by omega⟩
          · exact .inl ⟨rfl, by omega, h2, by omega, by omega, by omega⟩
    · rw [h1, if_pos (by simp)]
      exact .inr ⟨rfl, fun h => h2 h.2.1⟩
theorem checkSpot_iff {s : Spot} : radar_CheckSpot s = 0 ↔ s.In := by
  rcases checkSpot_eq s with ⟨h1, h2⟩ | ⟨h1, h2⟩
  · exact ⟨fun _ => h2, fun _ => h1⟩
  · exact ⟨fun h => by omega, fun h => absurd h h2⟩
theorem checkTrack_eq (t : Track) : gate_CheckTrack t = 0 ∧ t.In ∨ gate_CheckTrack t = 4 ∧ ¬ t.In := by
  unfold gate_CheckTrack Track.In
  simp only [ite_of_cond]
  rcases checkSpot_eq ⟨t.Time, t.At, t.Height, t.Code, 0⟩ with ⟨h1, h2⟩ | ⟨h1, h2⟩
  · rw [h1]
    obtain ⟨g1, g2, g3, g4, _⟩ := h2
    split
    · rename_i h; simp at h; exact .inr ⟨rfl, fun hh => by omega⟩
    · rename_i h; simp at h; exact .inl ⟨rfl, g1, g2, g3, g4, by omega⟩
  · rw [h1, if_pos (by simp)]
    exact .inr ⟨rfl, fun hh => h2 ⟨hh.1, hh.2.1, hh.2.2.1, hh.2.2.2.1, show (0 : Int) ≤ 0 ∧ (0 : Int) ≤ 1000000 by decide⟩⟩

theorem sq_bound {x n : Int} (h : -n ≤ x ∧ x ≤ n) : 0 ≤ x * x ∧ x * x ≤ n * n := by
  constructor
  · rcases Int.le_total 0 x with h0 | h0
    · exact Int.mul_nonneg h0 h0
    · rw [← Int.neg_mul_neg]; exact Int.mul_nonneg (by omega) (by omega)
  · by_cases hx : 0 ≤ x
    · exact Int.mul_le_mul h.2 h.2 hx (by omega)
    · have : (-x) * (-x) ≤ n * n := Int.mul_le_mul (by omega) (by omega) (by omega) (by omega)
      rwa [Int.neg_mul_neg] at this
theorem square_eq {p q : P} (hp : p.In) (hq : q.In) : plane_Square p q = (p.X - q.X) * (p.X - q.X) + (p.Y - q.Y) * (p.Y - q.Y) ∧ 0 ≤ plane_Square p q ∧ plane_Square p q ≤ 8000000000000 := by
  obtain ⟨p1, p2, p3, p4⟩ := hp
  obtain ⟨q1, q2, q3, q4⟩ := hq
  have b1 := sq_bound (x := p.X - q.X) (n := 2000000) (by omega)
  have b2 := sq_bound (x := p.Y - q.Y) (n := 2000000) (by omega)
  have e : plane_Square p q = (p.X - q.X) * (p.X - q.X) + (p.Y - q.Y) * (p.Y - q.Y) := by
    show w64 (w64 (w64 (p.X - q.X) * w64 (p.X - q.X)) + w64 (w64 (p.Y - q.Y) * w64 (p.Y - q.Y))) = _
    rw [w64_id (x := p.X - q.X) (by omega), w64_id (x := p.Y - q.Y) (by omega), w64_id (x := (p.X - q.X) * (p.X - q.X)) (by omega), w64_id (x := (p.Y - q.Y) * (p.Y - q.Y)) (by omega), w64_id (by omega)]
  exact ⟨e, by omega, by omega⟩
theorem square_comm {p q : P} (hp : p.In) (hq : q.In) : plane_Square p q = plane_Square q p := by
  rw [(square_eq hp hq).1, (square_eq hq hp).1]
  have e1 : (p.X - q.X) * (p.X - q.X) = (q.X - p.X) * (q.X - p.X) := by rw [← Int.neg_mul_neg, Int.neg_sub]
  have e2 : (p.Y - q.Y) * (p.Y - q.Y) = (q.Y - p.Y) * (q.Y - p.Y) := by rw [← Int.neg_mul_neg, Int.neg_sub]
  omega
theorem imax_comm (x y : Int) : imax x y = imax y x := by unfold imax; split <;> split <;> omega
theorem imax_ge (x y : Int) : x ≤ imax x y ∧ y ≤ imax x y ∧ (imax x y = x ∨ imax x y = y) := by unfold imax; split <;> omega

/-- A place within the sum of two distances. -/
theorem triangle {a b c d R S : Int} (hR : 0 ≤ R) (hS : 0 ≤ S) (h1 : a * a + b * b ≤ R * R) (h2 : c * c + d * d ≤ S * S) : (a + c) * (a + c) + (b + d) * (b + d) ≤ (R + S) * (R + S) := by
  have key : a * c + b * d ≤ R * S := by
    rcases Int.lt_or_le (R * S) (a * c + b * d) with h | h
    · exfalso
      have hRS : 0 ≤ R * S := Int.mul_nonneg hR hS
      have e1 : (a * c + b * d) * (a * c + b * d) + (a * d - b * c) * (a * d - b * c) = (a * a + b * b) * (c * c + d * d) := by grind
      have e2 : 0 ≤ (a * d - b * c) * (a * d - b * c) := by
        rcases Int.le_total 0 (a * d - b * c) with g | g
        · exact Int.mul_nonneg g g
        · rw [← Int.neg_mul_neg]; exact Int.mul_nonneg (by omega) (by omega)
      have n1 : ∀ x : Int, 0 ≤ x * x := fun x => by
        rcases Int.le_total 0 x with g | g
        · exact Int.mul_nonneg g g
        · rw [← Int.neg_mul_neg]; exact Int.mul_nonneg (by omega) (by omega)
      have e3 : (a * a + b * b) * (c * c + d * d) ≤ (R * R) * (S * S) := Int.mul_le_mul h1 h2 (by have := n1 c; have := n1 d; omega) (n1 R)
      have e4 : (R * R) * (S * S) = (R * S) * (R * S) := by grind
      have e5 : (R * S + 1) * (R * S + 1) ≤ (a * c + b * d) * (a * c + b * d) := Int.mul_le_mul (by omega) (by omega) (by omega) (by omega)
      have e6 : (R * S + 1) * (R * S + 1) = (R * S) * (R * S) + 2 * (R * S) + 1 := by grind
      omega
    · exact h
  have e7 : (a + c) * (a + c) + (b + d) * (b + d) = (a * a + b * b) + (c * c + d * d) + 2 * (a * c + b * d) := by grind
  have e8 : (R + S) * (R + S) = R * R + S * S + 2 * (R * S) := by grind
  omega
/-- Within, in exact numbers. -/
theorem within_iff {p q : P} {d : Int} (hp : p.In) (hq : q.In) (hd : -9000000 ≤ d ∧ d ≤ 9000000) : plane_Within p q d = decide ((0 ≤ d ∧ d ≤ 8000000) ∧ (p.X - q.X) * (p.X - q.X) + (p.Y - q.Y) * (p.Y - q.Y) ≤ d * d) := by
  have hs := sq_bound hd
  unfold plane_Within
  simp only [(square_eq hp hq).1, w64_id (x := d * d) (by omega)]
  by_cases h : 0 ≤ d ∧ d ≤ 8000000
  · have e : ((decide (d ≥ 0)) && (decide (d ≤ 8000000))) = true := by simp; omega
    rw [e, cond_true, Bool.eq_iff_iff]; simp only [decide_eq_true_eq]
    exact ⟨fun g => ⟨h, g⟩, fun g => g.2⟩
  · have e : ((decide (d ≥ 0)) && (decide (d ≤ 8000000))) = false := by simp; omega
    rw [e, cond_false]
    exact (decide_eq_false (fun g => h g.1)).symm
end Go.Sky
namespace Go.Sky
open Go Go.Eng Go.Glue

def FilterTrack.In (f : FilterTrack) : Prop :=
  f.Track.In ∧ (-12800 ≤ f.Track.Speed.X ∧ f.Track.Speed.X ≤ 12800) ∧ (-12800 ≤ f.Track.Speed.Y ∧ f.Track.Speed.Y ≤ 12800) ∧ (-3200 ≤ f.Track.Rate ∧ f.Track.Rate ≤ 3200) ∧ (0 ≤ f.Slack ∧ f.Slack ≤ 409600)
    ∧ (0 ≤ f.Track.ID ∧ 0 ≤ f.Track.Hits ∧ 0 ≤ f.Track.Misses) ∧ (0 ≤ f.Track.State ∧ f.Track.State ≤ 2) ∧ f.Last.In ∧ f.Last.Time ≤ f.Track.Time

theorem out_filter {n a b : Int} : filter_out n a b = decide (¬ (a ≤ n ∧ n ≤ b)) := by
  unfold filter_out; rw [Bool.eq_iff_iff]; simp

/-- What Check says of a track: the codes are 0, 1, 4 or 12. -/
theorem check_eq (f : FilterTrack) : filter_Check f = 0 ∧ f.In ∨ (filter_Check f = 1 ∨ filter_Check f = 4 ∨ filter_Check f = 12) ∧ ¬ f.In := by
  unfold filter_Check FilterTrack.In
  simp only [ite_of_cond, out_filter, decide_eq_true_eq]
  rcases checkTrack_eq f.Track with ⟨h1, h2⟩ | ⟨h1, h2⟩
  · rw [h1, if_neg (by simp)]
    split
    · exact .inr ⟨by simp, fun h => by omega⟩
    · split
      · exact .inr ⟨by simp, fun h => by omega⟩
      · split
        · exact .inr ⟨by simp, fun h => by omega⟩
        · split
          · rename_i h; simp at h; exact .inr ⟨by simp, fun h => by omega⟩
          · rename_i h7; simp at h7
            split
            · exact .inr ⟨by simp, fun h => by omega⟩
            · rcases checkSpot_eq f.Last with ⟨h3, h4⟩ | ⟨h3, h4⟩
              · rw [h3, if_neg (by simp)]
                split
                · exact .inr ⟨by simp, fun h => by omega⟩
                · exact .inl ⟨rfl, h2, by omega, by omega, by omega, by omega, by omega, by omega, h4, by omega⟩
              · rw [h3, if_pos (by simp)]
                exact .inr ⟨by simp, fun h => h4 h.2.2.2.2.2.2.2.1⟩
  · rw [h1, if_pos (by simp)]
    exact .inr ⟨by simp, fun h => h2 h.1⟩
theorem check_iff {f : FilterTrack} : filter_Check f = 0 ↔ f.In := by
  rcases check_eq f with ⟨h1, h2⟩ | ⟨h1, h2⟩
  · exact ⟨fun _ => h2, fun _ => h1⟩
  · exact ⟨fun h => by omega, fun h => absurd h h2⟩

/-- What Predict hands back with the code 0 is a track that Check accepts, at the time asked for. -/
theorem predict_in {f : FilterTrack} {t a : Int} (h : (filter_Predict f t a).2 = 0) : (filter_Predict f t a).1.In := by
  unfold filter_Predict at h ⊢
  simp only [ite_of_cond] at h ⊢
  by_cases h1 : (filter_Check f != 0) = true
  · rw [if_pos h1] at h; simp at h h1; exact absurd h h1
  · rw [if_neg h1] at h ⊢
    have hc : f.In := check_iff.1 (by simpa using h1)
    by_cases h2 : filter_out t 0 200000 = true
    · rw [if_pos h2] at h; cases h
    · rw [if_neg h2] at h ⊢
      by_cases h3 : filter_out a 0 20 = true
      · rw [if_pos h3] at h; cases h
      · rw [if_neg h3] at h ⊢
        by_cases h4 : filter_out (w64 (t - f.Track.Time)) 0 600 = true
        · rw [if_pos h4] at h; cases h
        · rw [if_neg h4] at h ⊢
          by_cases h5 : (w64 (t - f.Track.Time) == 0) = true
          · rw [if_pos h5]; exact hc
          · rw [if_neg h5] at h ⊢
            generalize hg : (⟨⟨f.Track.ID, f.Track.State, t, plane_Add f.Track.At ⟨filter_down (w64 (f.Track.Speed.X * w64 (t - f.Track.Time))) 16, filter_down (w64 (f.Track.Speed.Y * w64 (t - f.Track.Time))) 16⟩, f.Track.Speed, num_Between (w64 (f.Track.Height + filter_down (w64 (f.Track.Rate * w64 (t - f.Track.Time))) 16)) 0 60000, f.Track.Rate, w64 (f.Track.Radius + (gate_Reach f.Slack a (w64 (t - f.Track.Time))).1), f.Track.Code, f.Track.Hits, f.Track.Misses⟩, w64 (f.Slack + w64 (w64 (16 * a) * w64 (t - f.Track.Time))), f.Last⟩ : FilterTrack) = g at h ⊢
            by_cases h6 : (filter_Check g != 0) = true
            · rw [if_pos h6] at h; cases h
            · rw [if_neg h6]; exact check_iff.1 (by simpa using h6)

end Go.Sky
