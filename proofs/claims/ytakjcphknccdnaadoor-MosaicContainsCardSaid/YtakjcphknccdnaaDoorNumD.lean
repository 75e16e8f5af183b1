/- Division, rounded down and up. Conditions: in each theorem. -/
import Derived.Test.YtakjcphknccdnaaDoorWa
namespace Go.Sky
open Go Go.Eng

theorem divDown_eq {a b : Int} (hb : 0 < b) (ha : -9223372036854775807 ≤ a ∧ a ≤ 9223372036854775807) : num_DivDown a b = (a / b, 0) := by
  unfold num_DivDown
  have e0 : (b == 0) = false := by simp; omega
  have e1 : (a == (-9223372036854775808)) = false := by simp; omega
  have e2 : decide (b < 0) = false := by simp; omega
  simp only [e0, e1, e2, Bool.false_and, cond_false]
  by_cases h : 0 ≤ a
  · have e3 : decide (a < 0) = false := by simp; omega
    have hw : w64 (a / b) = a / b := w64_id (by have := quot_le h hb; omega)
    simp [e3, tdiv_pos b h, hw]
  · have e3 : decide (a < 0) = true := by simp; omega
    have hq := quot_le (a := -a) (b := b) (by omega) hb
    have hm : a = b * (a / b) + a % b := (Int.mul_ediv_add_emod a b).symm
    have hn : -a = b * (-a / b) + -a % b := (Int.mul_ediv_add_emod (-a) b).symm
    have r1 := Int.emod_nonneg a (show b ≠ 0 by omega)
    have r2 := Int.emod_lt_of_pos a hb
    have r3 := Int.emod_nonneg (-a) (show b ≠ 0 by omega)
    have r4 := Int.emod_lt_of_pos (-a) hb
    rw [e3, tmod_neg b (by omega), tdiv_neg b (by omega), w64_id (x := -(-a / b)) (by omega)]
    by_cases hz : -a % b = 0
    · have : a / b = -(-a / b) := by
        have h1 : a = b * (-(-a / b)) := by rw [Int.mul_neg]; omega
        have h2 : a / b = -(-a / b) := by
          conv => lhs; rw [h1]
          exact Int.mul_ediv_cancel_left _ (by omega)
        exact h2
      have e4 : ((-(-a % b)) != 0) = false := by rw [hz]; rfl
      rw [e4]
      simp only [Bool.false_and, cond_false, this]
    · have e4 : ((-(-a % b)) != 0) = true := by simp; omega
      rw [e4]
      have e5 : (true && !(true == false)) = true := rfl
      rw [e5, cond_true]
      have : a / b = -(-a / b) - 1 := by
        rw [Int.ediv_eq_iff_of_pos hb]
        rw [Int.mul_comm]
        constructor
        · rw [Int.mul_sub, Int.mul_neg]; omega
        · rw [Int.mul_sub, Int.mul_neg]; omega
      rw [w64_id (by omega), this]

theorem divUp_eq {a b : Int} (hb : 0 < b) (ha : -9223372036854775807 ≤ a ∧ a ≤ 9223372036854775806) : num_DivUp a b = (-(-a / b), 0) := by
  unfold num_DivUp
  simp only [divDown_eq hb (show -9223372036854775807 ≤ a ∧ a ≤ 9223372036854775807 by omega), beq_self_eq_true, cond_true]
  have hm : a = b * (a / b) + a % b := (Int.mul_ediv_add_emod a b).symm
  have r1 := Int.emod_nonneg a (show b ≠ 0 by omega)
  have r2 := Int.emod_lt_of_pos a hb
  have hz : a.tmod b = 0 ↔ a % b = 0 := by
    rw [← Int.dvd_iff_tmod_eq_zero, ← Int.dvd_iff_emod_eq_zero]
  have hle : a / b ≤ 9223372036854775806 ∧ -9223372036854775807 ≤ a / b := by
    by_cases h : 0 ≤ a
    · have := quot_le h hb; omega
    · have h1 : a ≤ a / b := by
        rw [Int.le_ediv_iff_mul_le hb]
        have : a * b ≤ a * 1 := Int.mul_le_mul_of_nonpos_left (by omega) (by omega)
        omega
      have h2 : a / b < 0 := Int.ediv_neg_of_neg_of_pos (by omega) hb
      omega
  by_cases h : a % b = 0
  · have e : (a.tmod b != 0) = false := by simpa using hz.2 h
    rw [e, cond_false]
    congr 1
    have h1 : -a = b * (-(a / b)) := by rw [Int.mul_neg]; omega
    have h2 : -a / b = -(a / b) := by
      conv => lhs; rw [h1]
      exact Int.mul_ediv_cancel_left _ (by omega)
    omega
  · have e : (a.tmod b != 0) = true := by simpa using fun hh => h (hz.1 hh)
    rw [e, cond_true, w64_id (by omega)]
    congr 1
    have h2 : -a / b = -(a / b) - 1 := by
      rw [Int.ediv_eq_iff_of_pos hb, Int.mul_comm]
      constructor
      · rw [Int.mul_sub, Int.mul_neg]; omega
      · rw [Int.mul_sub, Int.mul_neg]; omega
    omega
end Go.Sky
