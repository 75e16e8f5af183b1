/- The law AlertBand in plain Lean. Conditions: the arguments are 64-bit integers. -/
import Derived.Test.YtbhemgagabdjkaaFine
import Derived.Test.YtbhemgagabdjkaaOk
namespace Go.Sky
open Go Go.Eng Go.Glue

theorem band_eq (s r : Int) : alert_Band s r = if (0 ≤ s ∧ s ≤ 600) ∧ (0 ≤ r ∧ r ≤ 200) then (100 + r * s, 0) else (0, 4) := by
  unfold alert_Band alert_out
  by_cases h1 : 0 ≤ s ∧ s ≤ 600
  · by_cases h2 : 0 ≤ r ∧ r ≤ 200
    · have hp : 0 ≤ r * s := Int.mul_nonneg h2.1 h1.1
      have hq : r * s ≤ 200 * 600 := Int.mul_le_mul h2.2 h1.2 h1.1 (by omega)
      have e1 : (decide (s < 0) || decide (s > 600)) = false := by simp; omega
      have e2 : (decide (r < 0) || decide (r > 200)) = false := by simp; omega
      simp only [e1, e2, cond_false]
      rw [if_pos ⟨h1, h2⟩, w64_id (x := r * s) (by omega), w64_id (by omega)]
    · have e1 : (decide (s < 0) || decide (s > 600)) = false := by simp; omega
      have e2 : (decide (r < 0) || decide (r > 200)) = true := by simp; omega
      simp only [e1, e2, cond_false, cond_true]
      rw [if_neg (fun h => h2 h.2)]
  · have e1 : (decide (s < 0) || decide (s > 600)) = true := by simp; omega
    simp only [e1, cond_true]
    rw [if_neg (fun h => h1 h.1)]

theorem AlertBand_true (x0 x1 : Int) (k0 : I64 x0) (_k1 : I64 x1) : skywaykeep2_AlertBand x0 x1 = true := by
  unfold skywaykeep2_AlertBand
  simp only [band_eq, fine2]
  unfold I64 at k0
  by_cases h : (0 ≤ x0 ∧ x0 ≤ 600) ∧ (0 ≤ x1 ∧ x1 ≤ 200)
  · rw [w64_id (x := x0 + 1) (by omega)]
    have hp : 0 ≤ x1 * x0 := Int.mul_nonneg h.2.1 h.1.1
    have hq : x1 * x0 ≤ 200 * 600 := Int.mul_le_mul h.2.2 h.1.2 h.1.1 (by omega)
    by_cases h' : (0 ≤ x0 + 1 ∧ x0 + 1 ≤ 600) ∧ (0 ≤ x1 ∧ x1 ≤ 200)
    · rw [if_pos h, if_pos h']
      have e : 100 + x1 * (x0 + 1) - (100 + x1 * x0) = x1 := by rw [Int.mul_add]; omega
      simp only [e]
      rw [w64_id (by omega)]
      simp
      omega
    · rw [if_neg h']
      simp
  · rw [if_neg h]
    simp
end Go.Sky
