/- The law GrayChange in plain Lean. Conditions: the arguments are 64-bit integers. -/
import Derived.Test.YtbhemgagabdjkaaBits
import Derived.Test.YtbhemgagabdjkaaOk
namespace Go.Sky
open Go Go.Eng Go.Glue

theorem fine4 (a b c d : Int) : skywaykeep2_fine [a, b, c, d] = (a == 0 && (b == 0 && (c == 0 && d == 0))) := by rw [fine_eq]; simp

theorem GrayChange_true (x0 x1 x2 : Int) (_k0 : I64 x0) (_k1 : I64 x1) (_k2 : I64 x2) : skywaykeep2_GrayChange x0 x1 x2 = true := by
  unfold skywaykeep2_GrayChange
  have e0 : gray_Change 5 6 = (2, 0) := change_eq (a := 5) (b := 6) (by decide) (by decide)
  rw [e0]
  have e1 : (((0 : Int) != 0) || ((2 : Int) != 2)) = false := rfl
  simp only [e1, cond_false, fine4]
  by_cases h : ((0 ≤ x0 ∧ x0 ≤ 4095) ∧ (0 ≤ x1 ∧ x1 ≤ 4095)) ∧ (0 ≤ x2 ∧ x2 ≤ 4095)
  · obtain ⟨a, rfl⟩ : ∃ a : Nat, x0 = (a : Int) := ⟨x0.toNat, by omega⟩
    obtain ⟨b, rfl⟩ : ∃ b : Nat, x1 = (b : Int) := ⟨x1.toNat, by omega⟩
    obtain ⟨c, rfl⟩ : ∃ c : Nat, x2 = (c : Int) := ⟨x2.toNat, by omega⟩
    have ha : a < 4096 := by omega
    have hb : b < 4096 := by omega
    have hc : c < 4096 := by omega
    rw [change_eq ha hb, change_eq hb hc, change_eq ha hc, change_eq hb ha]
    have t := pc_tri a b c
    have l1 := pc_le (a ^^^ b)
    have l2 := pc_le (b ^^^ c)
    have z := pc_zero ha hb
    rw [Nat.xor_comm b a]
    have e2 : ((pc (a ^^^ b) : Int) == 0) = ((a : Int) == (b : Int)) := by
      rw [Bool.eq_iff_iff]
      simp only [beq_iff_eq, Int.natCast_eq_zero, Int.natCast_inj]
      exact z
    simp only [e2, w64_id (show -9223372036854775808 ≤ (pc (a ^^^ b) : Int) + (pc (b ^^^ c) : Int) ∧ (pc (a ^^^ b) : Int) + (pc (b ^^^ c) : Int) ≤ 9223372036854775807 by omega)]
    simp
    omega
  · by_cases h1 : (0 ≤ x0 ∧ x0 ≤ 4095) ∧ (0 ≤ x1 ∧ x1 ≤ 4095)
    · rw [change_bad (a := x1) (b := x2) (by omega)]
      simp
    · rw [change_bad (a := x0) (b := x1) h1]
      simp
end Go.Sky
