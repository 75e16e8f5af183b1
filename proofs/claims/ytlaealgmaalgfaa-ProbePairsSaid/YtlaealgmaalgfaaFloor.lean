/- The reference's Floor is the floor of the quotient. Conditions: in each theorem. -/
import Derived.Test.YtlaealgmaalgfaaWd
namespace Go.Sky
open Go Go.Eng

theorem floor_step {a b : Int} {m : Nat} (hb : 1 ≤ b) (ha : 0 ≤ a ∧ a ≤ 9223372036854775807) (h : b * 2 ^ m ≤ a) : w64 (b * 2 ^ m) = b * 2 ^ m ∧ w64 (a - b * 2 ^ m) = a - b * 2 ^ m ∧ w64 (1 * 2 ^ m) = 2 ^ m ∧ (a - b * 2 ^ m) / b = a / b - 2 ^ m ∧ (2 : Int) ^ m ≤ a / b := by
  have hp : (0 : Int) < 2 ^ m := Int.pow_pos (by decide)
  have h1 : (2 : Int) ^ m ≤ b * 2 ^ m := by
    have : (1 : Int) * 2 ^ m ≤ b * 2 ^ m := Int.mul_le_mul_of_nonneg_right hb (by omega)
    omega
  have e : (a - b * 2 ^ m) / b = a / b - 2 ^ m := by
    rw [Int.sub_eq_add_neg, ← Int.mul_neg, Int.add_mul_ediv_left _ _ (by omega)]; omega
  have h2 : (2 : Int) ^ m ≤ a / b := by
    rw [Int.le_ediv_iff_mul_le (by omega), Int.mul_comm]; exact h
  exact ⟨w64_id (by omega), w64_id (by omega), by rw [Int.one_mul]; exact w64_id (by omega), e, h2⟩

theorem floor_pos_L1 {b : Int} (hb : 1 ≤ b) : ∀ (m k : Nat) (a q : Int), m + k = 63 → (0 ≤ a ∧ a ≤ 9223372036854775807) → a < b * 2 ^ m → 0 ≤ q → q + a / b ≤ 9223372036854775807 → Floor_pos_L1 b m k a q = q + a / b
  | 0, k, a, q, _, ha, hlt, _, _ => by
    have : a / b = 0 := Int.ediv_eq_zero_of_lt ha.1 (by simpa using hlt)
    unfold Floor_pos_L1; omega
  | m + 1, k, a, q, hk, ha, hlt, hq, hs => by
    unfold Floor_pos_L1
    have e0 : min (62 - ((k : Nat) : Int)).toNat 64 = m := by omega
    have hp : (0 : Int) < 2 ^ m := Int.pow_pos (by decide)
    rw [e0, Int.fdiv_eq_ediv_of_nonneg _ (by omega)]
    by_cases h : b * 2 ^ m ≤ a
    · have e1 : decide (b ≤ a / 2 ^ m) = true := by rw [decide_eq_true_eq, Int.le_ediv_iff_mul_le hp]; exact h
      obtain ⟨g1, g2, g3, g4, g5⟩ := floor_step hb ha h
      have hnn : 0 ≤ b * 2 ^ m := Int.mul_nonneg (by omega) (by omega)
      rw [e1, cond_true, g1, g2, g3, w64_id (x := q + 2 ^ m) (by omega)]
      rw [floor_pos_L1 hb m (k + 1) (a - b * 2 ^ m) (q + 2 ^ m) (by omega) (by omega) (by rw [Int.pow_succ, ← Int.mul_assoc] at hlt; omega) (by omega) (by rw [g4]; omega), g4]
      omega
    · have e1 : decide (b ≤ a / 2 ^ m) = false := by rw [decide_eq_false_iff_not, Int.le_ediv_iff_mul_le hp]; exact h
      rw [e1, cond_false]
      exact floor_pos_L1 hb m (k + 1) a q (by omega) ha (by omega) hq hs
theorem Floor_L1_eq (b : Int) : ∀ (m k : Nat) (a q : Int), skywayref1_Floor_L1 b m k a q = Floor_pos_L1 b m k a q
  | 0, _, _, _ => rfl
  | m + 1, k, a, q => by
    unfold skywayref1_Floor_L1 Floor_pos_L1
    rw [Floor_L1_eq, Floor_L1_eq]
theorem floor_start {a b : Int} (hb : 1 ≤ b) (ha : 0 ≤ a ∧ a ≤ 9223372036854775807) : Floor_pos_L1 b 63 0 a 0 = a / b := by
  have h1 : (1 : Int) * 2 ^ 63 ≤ b * 2 ^ 63 := Int.mul_le_mul_of_nonneg_right hb (by decide)
  have e : (2 : Int) ^ 63 = 9223372036854775808 := by decide
  have h2 : a / b ≤ a := Int.ediv_le_self b ha.1
  rw [floor_pos_L1 hb 63 0 a 0 rfl ha (by omega) (by omega) (by omega)]; omega
theorem Floor_pos_eq {a b : Int} (hb : 1 ≤ b) (ha : 0 ≤ a ∧ a ≤ 9223372036854775807) : Floor_pos a b = a / b := by
  unfold Floor_pos
  have e : decide (a < 0) = false := by simp; omega
  rw [e, cond_false, floor_start hb ha]; rfl
theorem Floor_eq {a b : Int} (hb : 1 ≤ b ∧ b ≤ 2305843009213693952) (ha : -4611686018427387904 ≤ a ∧ a ≤ 4611686018427387904) : skywayref1_Floor a b = a / b := by
  unfold skywayref1_Floor
  by_cases h : a < 0
  · have e : decide (a < 0) = true := by simpa using h
    rw [e, cond_true]
    rw [w64_id (x := 0 - a) (by omega), w64_id (x := 0 - a + b) (by omega), w64_id (x := 0 - a + b - 1) (by omega), Floor_pos_eq hb.1 (by omega)]
    have r1 := Int.emod_nonneg a (show b ≠ 0 by omega)
    have r2 := Int.emod_lt_of_pos a (show 0 < b by omega)
    have hm : a = b * (a / b) + a % b := (Int.mul_ediv_add_emod a b).symm
    have e2 : (0 - a + b - 1) / b = -(a / b) := by
      rw [Int.ediv_eq_iff_of_pos (by omega), Int.mul_comm, Int.mul_neg]
      constructor
      · omega
      · omega
    have q1 := Int.ediv_neg_of_neg_of_pos h (show 0 < b by omega)
    have q2 : a ≤ a / b := by
      rw [Int.le_ediv_iff_mul_le (by omega)]
      have : a * b ≤ a * 1 := Int.mul_le_mul_of_nonpos_left (by omega) (by omega)
      omega
    show w64 (0 - (0 - a + b - 1) / b) = a / b
    rw [e2, w64_id (by omega)]; omega
  · have e : decide (a < 0) = false := by simpa using h
    rw [e, cond_false, Floor_L1_eq, floor_start hb.1 (by omega)]; rfl
theorem Ceil_eq {a b : Int} (hb : 1 ≤ b ∧ b ≤ 2305843009213693952) (ha : -4611686018427387904 ≤ a ∧ a ≤ 4611686018427387904) : skywayref1_Ceil a b = -(-a / b) := by
  have e : skywayref1_Ceil a b = w64 (0 - skywayref1_Floor (w64 (0 - a)) b) := rfl
  rw [e, w64_id (x := 0 - a) (by omega), Floor_eq hb (by omega), show 0 - a = -a by omega]
  have q2 : -4611686018427387905 ≤ -a / b ∧ -a / b ≤ 4611686018427387905 := by
    by_cases h : 0 ≤ -a
    · have := quot_le (a := -a) (b := b) h (by omega); omega
    · have q1 := Int.ediv_neg_of_neg_of_pos (show -a < 0 by omega) (show 0 < b by omega)
      have q2 : -a ≤ -a / b := by
        rw [Int.le_ediv_iff_mul_le (by omega)]
        have : -a * b ≤ -a * 1 := Int.mul_le_mul_of_nonpos_left (by omega) (by omega)
        omega
      omega
  rw [w64_id (by omega)]; omega

/-- What a mixed number is. -/
theorem mix_mul {a b n d : Int} (h : ((-1000000 ≤ a ∧ a ≤ 1000000) ∧ (-1000000 ≤ b ∧ b ≤ 1000000)) ∧ (0 ≤ n ∧ n ≤ d) ∧ 1 ≤ d ∧ d ≤ 200000) :
    (-400000000000 ≤ (b - a) * n ∧ (b - a) * n ≤ 400000000000) ∧ -2000000 ≤ (b - a) * n / d ∧ (b - a) * n / d ≤ 2000000 ∧ -2000000 ≤ -(-((b - a) * n) / d) ∧ -(-((b - a) * n) / d) ≤ 2000000 := by
  obtain ⟨⟨h1, h2⟩, h3, h4, h5⟩ := h
  have m1 : (b - a) * n ≤ 2000000 * n := Int.mul_le_mul_of_nonneg_right (by omega) h3.1
  have m2 : -2000000 * n ≤ (b - a) * n := Int.mul_le_mul_of_nonneg_right (by omega) h3.1
  have lo : -2000000 ≤ (b - a) * n / d := by rw [Int.le_ediv_iff_mul_le (by omega)]; omega
  have hi : (b - a) * n / d ≤ 2000000 := by
    have : (b - a) * n / d < 2000001 := by rw [Int.ediv_lt_iff_lt_mul (by omega)]; omega
    omega
  have lo2 : -2000000 ≤ -((b - a) * n) / d := by rw [Int.le_ediv_iff_mul_le (by omega)]; omega
  have hi2 : -((b - a) * n) / d ≤ 2000000 := by
    have : -((b - a) * n) / d < 2000001 := by rw [Int.ediv_lt_iff_lt_mul (by omega)]; omega
    omega
  exact ⟨by omega, lo, hi, by omega, by omega⟩
theorem Mix_eq {a b n d : Int} (h : ((-1000000 ≤ a ∧ a ≤ 1000000) ∧ (-1000000 ≤ b ∧ b ≤ 1000000)) ∧ (0 ≤ n ∧ n ≤ d) ∧ 1 ≤ d ∧ d ≤ 200000) : skywayref1_Mix a b n d = a + (b - a) * n / d := by
  obtain ⟨g1, g2, g3, _⟩ := mix_mul h
  unfold skywayref1_Mix
  rw [w64_id (x := b - a) (by omega), w64_id (x := (b - a) * n) (by omega), Floor_eq (by omega) (by omega)]
  exact w64_id (by omega)
theorem MixUp_eq {a b n d : Int} (h : ((-1000000 ≤ a ∧ a ≤ 1000000) ∧ (-1000000 ≤ b ∧ b ≤ 1000000)) ∧ (0 ≤ n ∧ n ≤ d) ∧ 1 ≤ d ∧ d ≤ 200000) : skywayref1_MixUp a b n d = a + -(-((b - a) * n) / d) := by
  obtain ⟨g1, _, _, g4, g5⟩ := mix_mul h
  unfold skywayref1_MixUp
  rw [w64_id (x := b - a) (by omega), w64_id (x := (b - a) * n) (by omega), Ceil_eq (by omega) (by omega)]
  exact w64_id (by omega)
end Go.Sky
