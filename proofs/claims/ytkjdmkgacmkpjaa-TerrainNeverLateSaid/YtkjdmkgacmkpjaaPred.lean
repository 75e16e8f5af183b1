/- What Predict computes, in exact numbers. Conditions: in each theorem. -/
import Derived.Test.YtkjdmkgacmkpjaaKin
namespace Go.Sky
open Go Go.Eng Go.Glue

/-- The bound that the radius grows by in d seconds. -/
def grow (slack acc d : Int) : Int := -(-(slack * d) / 16) + -(-(acc * d * d) / 2) + 2
def predAt (f : FilterTrack) (t acc : Int) : FilterTrack :=
  ⟨⟨f.Track.ID, f.Track.State, t, ⟨f.Track.At.X + f.Track.Speed.X * (t - f.Track.Time) / 16, f.Track.At.Y + f.Track.Speed.Y * (t - f.Track.Time) / 16⟩, f.Track.Speed,
    num_Between (f.Track.Height + f.Track.Rate * (t - f.Track.Time) / 16) 0 60000, f.Track.Rate, f.Track.Radius + grow f.Slack acc (t - f.Track.Time), f.Track.Code, f.Track.Hits, f.Track.Misses⟩,
    f.Slack + 16 * acc * (t - f.Track.Time), f.Last⟩

theorem mul_in {a b A B : Int} (ha : -A ≤ a ∧ a ≤ A) (hb : 0 ≤ b ∧ b ≤ B) : -(A * B) ≤ a * b ∧ a * b ≤ A * B := by
  have hA : 0 ≤ A := by omega
  have h1 : a * b ≤ A * b := Int.mul_le_mul_of_nonneg_right ha.2 hb.1
  have h2 : -A * b ≤ a * b := Int.mul_le_mul_of_nonneg_right ha.1 hb.1
  have h3 : A * b ≤ A * B := Int.mul_le_mul_of_nonneg_left hb.2 hA
  rw [Int.neg_mul] at h2
  omega
theorem mul_in0 {a b A B : Int} (ha : 0 ≤ a ∧ a ≤ A) (hb : 0 ≤ b ∧ b ≤ B) : 0 ≤ a * b ∧ a * b ≤ A * B :=
  ⟨Int.mul_nonneg ha.1 hb.1, Int.mul_le_mul ha.2 hb.2 hb.1 (by omega)⟩

theorem grow_in {slack acc d : Int} (hs : 0 ≤ slack ∧ slack ≤ 409600) (ha : 0 ≤ acc ∧ acc ≤ 20) (hd : 0 ≤ d ∧ d ≤ 600) : 2 ≤ grow slack acc d ∧ grow slack acc d ≤ 20000000 := by
  have h1 := mul_in0 hs hd
  have h2 := mul_in0 (mul_in0 ha hd) hd
  unfold grow
  omega
theorem reach_eq {slack acc d : Int} (hs : 0 ≤ slack ∧ slack ≤ 409600) (ha : 0 ≤ acc ∧ acc ≤ 20) (hd : 1 ≤ d ∧ d ≤ 600) : gate_Reach slack acc d = (grow slack acc d, 0) := by
  have hd0 : 0 ≤ d ∧ d ≤ 600 := by omega
  have h1 := mul_in0 hs hd0
  have h2 := mul_in0 ha hd0
  have h3 := mul_in0 h2 hd0
  have hg := grow_in hs ha hd0
  unfold gate_Reach
  have e1 : ((((decide (slack < 0)) || (decide (slack > 409600))) || (decide (acc < 0))) || (decide (acc > 20))) = false := by simp; omega
  have e2 : ((decide (d < 0)) || (decide (d > 600))) = false := by simp; omega
  have e3 : (d == 0) = false := by simp; omega
  simp only [e1, e2, e3, cond_false]
  rw [w64_id (x := slack * d) (by omega), w64_id (x := acc * d) (by omega), w64_id (x := acc * d * d) (by omega), divUp_eq (by decide) (by omega), divUp_eq (by decide) (by omega)]
  unfold grow at hg ⊢
  simp only
  rw [w64_id (x := -(-(slack * d) / 16) + -(-(acc * d * d) / 2)) (by omega), w64_id (by omega)]

theorem predict_ok {f : FilterTrack} {t a : Int} (h : (filter_Predict f t a).2 = 0) : f.In ∧ (0 ≤ t ∧ t ≤ 200000) ∧ (0 ≤ a ∧ a ≤ 20) ∧ (0 ≤ t - f.Track.Time ∧ t - f.Track.Time ≤ 600) := by
  unfold filter_Predict at h
  simp only [ite_of_cond, out_filter, decide_eq_true_eq] at h
  by_cases h1 : (filter_Check f != 0) = true
  · rw [if_pos h1] at h; simp at h h1; exact absurd h h1
  · rw [if_neg h1] at h
    have hc : f.In := check_iff.1 (by simpa using h1)
    by_cases h2 : 0 ≤ t ∧ t ≤ 200000
    · rw [if_neg (fun hh => hh h2)] at h
      by_cases h3 : 0 ≤ a ∧ a ≤ 20
      · rw [if_neg (fun hh => hh h3)] at h
        have ht := hc.1.1
        rw [w64_id (x := t - f.Track.Time) (by omega)] at h
        by_cases h4 : 0 ≤ t - f.Track.Time ∧ t - f.Track.Time ≤ 600
        · exact ⟨hc, h2, h3, h4⟩
        · rw [if_pos h4] at h; cases h
      · rw [if_pos h3] at h; cases h
    · rw [if_pos h2] at h; cases h
theorem predict_same {f : FilterTrack} {a : Int} (hf : f.In) (ha : 0 ≤ a ∧ a ≤ 20) : filter_Predict f f.Track.Time a = (f, 0) := by
  have ht := hf.1.1
  unfold filter_Predict
  simp only [ite_of_cond, out_filter, decide_eq_true_eq]
  rw [if_neg (by simp [check_iff.2 hf]), if_neg (fun hh => hh ht), if_neg (fun hh => hh ha), Int.sub_self, show w64 0 = 0 by decide, if_neg (by decide), if_pos (by decide)]
theorem predict_eq {f : FilterTrack} {t a : Int} (hf : f.In) (ht : 0 ≤ t ∧ t ≤ 200000) (ha : 0 ≤ a ∧ a ≤ 20) (hd : 1 ≤ t - f.Track.Time ∧ t - f.Track.Time ≤ 600) :
    ((filter_Predict f t a).2 = 0 ∧ (filter_Predict f t a).1 = predAt f t a ∧ (predAt f t a).In) ∨ ((filter_Predict f t a).2 = 8 ∧ ¬ (predAt f t a).In) := by
  have hd0 : 0 ≤ t - f.Track.Time ∧ t - f.Track.Time ≤ 600 := by omega
  have htt := hf.1.1
  have hx := hf.1.2.1
  have s1 := mul_in hf.2.1 hd0
  have s2 := mul_in hf.2.2.1 hd0
  have s3 := mul_in hf.2.2.2.1 hd0
  have s4 := mul_in0 ha hd0
  have hh := hf.1.2.2.1
  have hr := hf.1.2.2.2.2
  have hg := grow_in hf.2.2.2.2.1 ha hd0
  have hsl := hf.2.2.2.2.1
  unfold P.In at hx
  unfold filter_Predict
  simp only [ite_of_cond, out_filter, decide_eq_true_eq]
  rw [if_neg (by simp [check_iff.2 hf]), if_neg (fun hh => hh ht), if_neg (fun hh => hh ha), w64_id (x := t - f.Track.Time) (by omega), if_neg (fun hh => hh hd0), if_neg (by simp; omega)]
  have k1 : filter_down (w64 (f.Track.Speed.X * (t - f.Track.Time))) 16 = f.Track.Speed.X * (t - f.Track.Time) / 16 := by
    unfold filter_down; rw [w64_id (by omega), divDown_eq (by decide) (by omega)]
  have k2 : filter_down (w64 (f.Track.Speed.Y * (t - f.Track.Time))) 16 = f.Track.Speed.Y * (t - f.Track.Time) / 16 := by
    unfold filter_down; rw [w64_id (by omega), divDown_eq (by decide) (by omega)]
  have k3 : filter_down (w64 (f.Track.Rate * (t - f.Track.Time))) 16 = f.Track.Rate * (t - f.Track.Time) / 16 := by
    unfold filter_down; rw [w64_id (by omega), divDown_eq (by decide) (by omega)]
  have k4 : plane_Add f.Track.At ⟨f.Track.Speed.X * (t - f.Track.Time) / 16, f.Track.Speed.Y * (t - f.Track.Time) / 16⟩ = ⟨f.Track.At.X + f.Track.Speed.X * (t - f.Track.Time) / 16, f.Track.At.Y + f.Track.Speed.Y * (t - f.Track.Time) / 16⟩ := by
    unfold plane_Add
    simp only
    rw [w64_id (x := f.Track.At.X + _) (by omega), w64_id (x := f.Track.At.Y + _) (by omega)]
  have k5 : 16 * a * (t - f.Track.Time) = 16 * (a * (t - f.Track.Time)) := Int.mul_assoc ..
  rw [k1, k2, k3, k4, reach_eq hf.2.2.2.2.1 ha hd]
  simp only
  rw [w64_id (x := f.Track.Height + _) (by omega), w64_id (x := f.Track.Radius + _) (by omega), w64_id (x := 16 * a) (by omega), w64_id (x := 16 * a * _) (by omega), w64_id (x := f.Slack + _) (by omega)]
  have goal : ∀ r : FilterTrack × Int, r = (if (filter_Check (predAt f t a) != 0) = true then (FilterTrack.zero, 8) else (predAt f t a, 0)) → (r.2 = 0 ∧ r.1 = predAt f t a ∧ (predAt f t a).In) ∨ (r.2 = 8 ∧ ¬ (predAt f t a).In) := by
    rintro r rfl
    rcases check_eq (predAt f t a) with ⟨c1, c2⟩ | ⟨c1, c2⟩
    · rw [if_neg (by simp [c1])]
      exact .inl ⟨rfl, rfl, c2⟩
    · rw [if_pos (by simp; omega)]
      exact .inr ⟨rfl, c2⟩
  exact goal _ rfl
/-- The radius at a later time. -/
theorem predict_radius {f : FilterTrack} {t a : Int} (h : (filter_Predict f t a).2 = 0) : (filter_Predict f t a).1.Track.Radius = f.Track.Radius + (if t = f.Track.Time then 0 else grow f.Slack a (t - f.Track.Time)) := by
  obtain ⟨h1, h2, h3, h4⟩ := predict_ok h
  by_cases e : t = f.Track.Time
  · rw [if_pos e, e, predict_same h1 h3]; simp
  · rw [if_neg e]
    rcases predict_eq h1 h2 h3 (by omega) with ⟨_, g, _⟩ | ⟨g, _⟩
    · rw [g]; rfl
    · omega
theorem grow_mono {slack acc d e : Int} (hs : 0 ≤ slack) (ha : 0 ≤ acc) (hd : 0 ≤ d) (h : d ≤ e) : grow slack acc d ≤ grow slack acc e := by
  have h1 : slack * d ≤ slack * e := Int.mul_le_mul_of_nonneg_left h hs
  have h2 : acc * d ≤ acc * e := Int.mul_le_mul_of_nonneg_left h ha
  have h3 : acc * d * d ≤ acc * e * e := Int.mul_le_mul h2 h hd (Int.mul_nonneg ha (by omega))
  unfold grow
  omega
end Go.Sky
