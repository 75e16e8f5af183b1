/- The law RadarGrows in plain Lean. Conditions: the arguments are 64-bit integers. -/
import Derived.Test.YtbhemgagabdjkaaWb
import Derived.Test.YtbhemgagabdjkaaNum
import Derived.Test.YtbhemgagabdjkaaOk
namespace Go.Sky
open Go Go.Eng Go.Glue

theorem radarOut_eq (n l h : Int) : radar_out n l h = decide (n < l ∨ n > h) := by
  unfold radar_out
  rw [Bool.eq_iff_iff]
  simp
theorem radarOut_f {n l h : Int} (e : radar_out n l h = false) : l ≤ n ∧ n ≤ h := by
  rw [radarOut_eq] at e
  have := of_decide_eq_false e
  omega

/-- What an accepted radar's error is. -/
theorem radarError_eq {s : RadarSite} {n : Int} (h : (radar_Error s n).2 = 0) : (0 ≤ n ∧ n ≤ 2000000) ∧ (1 ≤ s.AzimuthError ∧ s.AzimuthError ≤ 100) ∧ (1 ≤ s.RangeError ∧ s.RangeError ≤ 10000) ∧
    (radar_Error s n).1 = s.RangeError + -(-(n * s.AzimuthError) / 651) + -(-n / 23170) + 2 := by
  unfold radar_Error at h ⊢
  cases hc : (radar_Check s != 0) with
  | true =>
    simp only [hc, cond_true] at h
    simp [h] at hc
  | false =>
    simp only [hc, cond_false] at h ⊢
    cases ho : radar_out n 0 2000000 with
    | true => simp [ho] at h
    | false =>
      have hn := radarOut_f ho
      have hcheck : (1 ≤ s.AzimuthError ∧ s.AzimuthError ≤ 100) ∧ (1 ≤ s.RangeError ∧ s.RangeError ≤ 10000) := by
        unfold radar_Check at hc
        cases h1 : radar_out s.ID 0 255 <;> simp only [h1, cond_true, cond_false] at hc
        · cases h2 : (plane_Check s.At != 0) <;> simp only [h2, cond_true, cond_false] at hc
          · cases h3 : radar_out s.Reach 1 1000000 <;> simp only [h3, cond_true, cond_false] at hc
            · cases h4 : radar_out s.RangeError 1 10000 <;> simp only [h4, cond_true, cond_false] at hc
              · cases h5 : radar_out s.AzimuthError 1 100 <;> simp only [h5, cond_true, cond_false] at hc
                · exact ⟨radarOut_f h5, radarOut_f h4⟩
                · cases hc
              · cases hc
            · cases hc
          · cases hc
        · cases hc
      have hp : 0 ≤ n * s.AzimuthError := Int.mul_nonneg (by omega) (by omega)
      have hq : n * s.AzimuthError ≤ 2000000 * 100 := Int.mul_le_mul (by omega) (by omega) (by omega) (by omega)
      refine ⟨hn, hcheck.1, hcheck.2, ?_⟩
      simp only [cond_false]
      rw [w64_id (x := n * s.AzimuthError) (by omega), divUp_eq (by decide) (by omega), divUp_eq (by decide) (by omega)]
      simp only []
      rw [w64_id (x := s.RangeError + _) (by omega), w64_id (x := s.RangeError + _ + _) (by omega), w64_id (by omega)]

theorem RadarGrows_true (x0 : RadarSite) (x1 x2 : Int) (_k0 : x0.ok) (_k1 : I64 x1) (_k2 : I64 x2) : skywaykeep2_RadarGrows x0 x1 x2 = true := by
  unfold skywaykeep2_RadarGrows
  have e0 : (radar_Error skywaykeep2_east 0).2 = 0 := by decide
  have e1 : (radar_Error skywaykeep2_east 0).1 = 3 := by decide
  simp only [e0, e1, fine2]
  have e2 : (((0 : Int) != 0) || ((3 : Int) != 3)) = false := rfl
  rw [e2, cond_false]
  by_cases h1 : (radar_Error x0 x1).2 = 0
  · by_cases h2 : (radar_Error x0 x2).2 = 0
    · obtain ⟨n1, a1, r1, v1⟩ := radarError_eq h1
      obtain ⟨n2, _, _, v2⟩ := radarError_eq h2
      have mono : ∀ {p q : Int}, p ≤ q → -(-(p * x0.AzimuthError) / 651) + -(-p / 23170) ≤ -(-(q * x0.AzimuthError) / 651) + -(-q / 23170) := by
        intro p q hpq
        have : p * x0.AzimuthError ≤ q * x0.AzimuthError := Int.mul_le_mul_of_nonneg_right hpq (by omega)
        omega
      rw [v1, v2]
      simp only [h1, h2, Bool.or_eq_true, beq_iff_eq]
      by_cases hle : x1 ≤ x2
      · have := mono hle
        left; right
        rw [decide_eq_true hle, decide_eq_true (by omega)]
      · have := mono (show x2 ≤ x1 by omega)
        by_cases he : x0.RangeError + -(-(x1 * x0.AzimuthError) / 651) + -(-x1 / 23170) + 2 = x0.RangeError + -(-(x2 * x0.AzimuthError) / 651) + -(-x2 / 23170) + 2
        · right; exact he
        · left; right
          rw [decide_eq_false hle, decide_eq_false (by omega)]
    · simp [h2]
  · simp [h1]
end Go.Sky
