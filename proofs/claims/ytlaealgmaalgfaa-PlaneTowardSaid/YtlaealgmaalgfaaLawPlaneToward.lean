/- The law PlaneToward in plain Lean. Conditions: the arguments are 64-bit integers. -/
import Derived.Test.YtlaealgmaalgfaaFloor
import Derived.Test.YtlaealgmaalgfaaOk
namespace Go.Sky
open Go Go.Eng Go.Glue

theorem good_eq (p : P) : plane_Check p = (if skywayref1_Good p = true then 0 else 4) := by
  unfold plane_Check skywayref1_Good
  rw [ite_of_cond]
  by_cases h : (-1000000 ≤ p.X ∧ p.X ≤ 1000000) ∧ -1000000 ≤ p.Y ∧ p.Y ≤ 1000000
  · rw [if_neg (by simp; omega), if_pos (by simp; omega)]
  · rw [if_pos (by simp; omega), if_neg (by simp; omega)]

theorem PlaneToward_true (x0 x1 : P) (x2 x3 : Int) (_k0 : x0.ok) (_k1 : x1.ok) (_k2 : I64 x2) (_k3 : I64 x3) : skywaylaw1_PlaneToward x0 x1 x2 x3 = true := by
  unfold skywaylaw1_PlaneToward
  have e1 : skywaylaw1_planeWorks = true := by kernel_rfl
  simp only [e1, Bool.not_true, cond_false]
  have pz : P.eqb ⟨0, 0⟩ P.zero = true := by decide
  have z4 : ((4 : Int) != 0) = true := rfl
  have z0 : ((0 : Int) != 0) = false := rfl
  unfold plane_Toward
  by_cases h1 : x3 ≤ 0
  · have d1 : decide (x3 ≤ 0) = true := by simpa using h1
    simp only [d1, cond_true, pz]
    rfl
  · have d1 : decide (x3 ≤ 0) = false := by simpa using h1
    simp only [d1, cond_false]
    by_cases h2 : x3 ≤ 200000 ∧ 0 ≤ x2 ∧ x2 ≤ x3
    · have d2 : (((decide (x3 > 200000)) || (decide (x2 < 0))) || (decide (x2 > x3))) = false := by simp; omega
      simp only [d2, cond_false, good_eq]
      cases h3 : skywayref1_Good x0
      · simp only [Bool.false_eq_true, if_false, z4, cond_true, Bool.not_false, pz]; rfl
      · simp only [if_true, z0, cond_false, Bool.not_true]
        cases h4 : skywayref1_Good x1
        · simp only [Bool.false_eq_true, if_false, z4, cond_true, Bool.not_false, pz]; rfl
        · simp only [if_true, z0, cond_false, Bool.not_true]
          have g1 := good_in h3 rfl
          have g2 := good_in h4 rfl
          have hx : ((-1000000 ≤ x0.X ∧ x0.X ≤ 1000000) ∧ (-1000000 ≤ x1.X ∧ x1.X ≤ 1000000)) ∧ (0 ≤ x2 ∧ x2 ≤ x3) ∧ 1 ≤ x3 ∧ x3 ≤ 200000 := by omega
          have hy : ((-1000000 ≤ x0.Y ∧ x0.Y ≤ 1000000) ∧ (-1000000 ≤ x1.Y ∧ x1.Y ≤ 1000000)) ∧ (0 ≤ x2 ∧ x2 ≤ x3) ∧ 1 ≤ x3 ∧ x3 ≤ 200000 := by omega
          have mx := mix_mul hx
          have my := mix_mul hy
          have b0 : ((0 : Int) == 0) = true := rfl
          rw [Mix_eq hx, Mix_eq hy, w64_id (x := x1.X - x0.X) (by omega), w64_id (x := (x1.X - x0.X) * x2) (by omega), w64_id (x := x1.Y - x0.Y) (by omega), w64_id (x := (x1.Y - x0.Y) * x2) (by omega), divDown_eq (by omega) (by omega), divDown_eq (by omega) (by omega)]
          simp only [b0, cond_true]
          rw [w64_id (x := x0.X + _) (by omega), w64_id (x := x0.Y + _) (by omega)]
          simp [P.eqb_eq]
    · have d2 : (((decide (x3 > 200000)) || (decide (x2 < 0))) || (decide (x2 > x3))) = true := by simp; omega
      simp only [d2, cond_true, pz]
      rfl
end Go.Sky
