/- The product and the quotient of words of 64 bits, in exact numbers. Conditions: in each theorem. -/
import Derived.Test.YtlaealgmaalgfaaWo
namespace Go.Sky
open Go Go.Eng

theorem prod_le {a b : Int} (ha : 0 ≤ a ∧ a ≤ 4294967295) (hb : 0 ≤ b ∧ b ≤ 4294967295) : 0 ≤ a * b ∧ a * b ≤ 18446744065119617025 := by
  refine ⟨Int.mul_nonneg ha.1 hb.1, ?_⟩
  exact Int.le_trans (Int.mul_le_mul ha.2 hb.2 hb.1 (by decide)) (by decide)

theorem mul64_spec {x y : Int} (hx : 0 ≤ x ∧ x < 18446744073709551616) (hy : 0 ≤ y ∧ y < 18446744073709551616) : math_bits_Mul64 x y = (x * y / 18446744073709551616, x * y % 18446744073709551616) := by
  unfold math_bits_Mul64
  simp only [mask32 hx, mask32 hy, fdiv_pow]
  obtain ⟨x0, hx0⟩ : ∃ a, a = x % 4294967296 := ⟨_, rfl⟩
  obtain ⟨x1, hx1⟩ : ∃ a, a = x / 2 ^ 32 := ⟨_, rfl⟩
  obtain ⟨y0, hy0⟩ : ∃ a, a = y % 4294967296 := ⟨_, rfl⟩
  obtain ⟨y1, hy1⟩ : ∃ a, a = y / 2 ^ 32 := ⟨_, rfl⟩
  rw [← hx0, ← hx1, ← hy0, ← hy1]
  have ex : x = x1 * 4294967296 + x0 := by omega
  have ey : y = y1 * 4294967296 + y0 := by omega
  have p00 := prod_le (a := x0) (b := y0) (by omega) (by omega)
  have p01 := prod_le (a := x0) (b := y1) (by omega) (by omega)
  have p10 := prod_le (a := x1) (b := y0) (by omega) (by omega)
  have p11 := prod_le (a := x1) (b := y1) (by omega) (by omega)
  have e : x * y = (x1 * y1) * 18446744073709551616 + (x1 * y0 + x0 * y1) * 4294967296 + x0 * y0 := by rw [ex, ey]; grind
  generalize x0 * y0 = A at *
  generalize x0 * y1 = B at *
  generalize x1 * y0 = C at *
  generalize x1 * y1 = D at *
  rw [wu64_id (x := A) (by omega), wu64_id (x := C) (by omega), wu64_id (x := C + A / 2 ^ 32) (by omega)]
  rw [mask32 (x := C + A / 2 ^ 32) (by omega), wu64_id (x := B) (by omega), wu64_id (x := (C + A / 2 ^ 32) % 4294967296 + B) (by omega), wu64_id (x := D) (by omega), wu64_id (x := D + (C + A / 2 ^ 32) / 2 ^ 32) (by omega)]
  rw [wu64_eq (x * y)]
  refine Prod.ext ?_ rfl
  show wu64 _ = _
  rw [wu64_id (by omega), e]
  omega

/-- One digit of the quotient: the estimate and its corrections give the exact digit. -/
theorem digit {v1 v0 d u v Q : Int} (hv : v = v1 * 4294967296 + v0) (hv1 : 2147483648 ≤ v1 ∧ v1 ≤ 4294967295) (hv0 : 0 ≤ v0 ∧ v0 ≤ 4294967295) (hd : 0 ≤ d ∧ d ≤ 4294967295) (hu : 0 ≤ u ∧ u < v) (hQ : Q = (u * 4294967296 + d) / v) :
    ∀ (m : Nat) (q r : Int), 0 ≤ r ∧ r < 4294967296 → 4294967296 ≤ r + 2147483648 * (m : Int) → u = q * v1 + r → Q ≤ q → math_bits_Div64_L1 v1 v0 d m q r = some Q
  | 0, q, r, h1, h2, _, _ => by omega
  | m + 1, q, r, h1, h2, h3, h4 => by
    have hvp : 0 < v := by omega
    have hQ0 : 0 ≤ Q := by rw [hQ]; exact Int.ediv_nonneg (by omega) (by omega)
    have hQ1 : Q < 4294967296 := by rw [hQ, Int.ediv_lt_iff_lt_mul hvp]; omega
    have hlt : (u * 4294967296 + d < q * v) ↔ Q < q := by rw [hQ, Int.ediv_lt_iff_lt_mul hvp]
    have eqv : q * v = q * v1 * 4294967296 + q * v0 := by rw [hv]; grind
    have hcond : ((decide (q ≥ 4294967296)) || (decide ((wu64 (q * v0)) > (wu64 ((wu64 (4294967296 * r)) + d))))) = decide (Q < q) := by
      by_cases hq : q ≥ 4294967296
      · rw [decide_eq_true hq, Bool.true_or, decide_eq_true (by omega)]
      · have p := prod_le (a := q) (b := v0) (by omega) hv0
        rw [decide_eq_false hq, Bool.false_or, wu64_id (x := q * v0) (by omega), wu64_id (x := 4294967296 * r) (by omega), wu64_id (by omega)]
        rw [Bool.eq_iff_iff, decide_eq_true_eq, decide_eq_true_eq, ← hlt]
        omega
    unfold math_bits_Div64_L1
    rw [hcond]
    by_cases hq : Q < q
    · rw [decide_eq_true hq]
      have hqb : q * 2147483648 ≤ q * v1 := Int.mul_le_mul_of_nonneg_left hv1.1 (by omega)
      have w1 : wu64 (q - 1) = q - 1 := wu64_id (by omega)
      have w2 : wu64 (r + v1) = r + v1 := wu64_id (by omega)
      simp only [cond_true, w1, w2]
      have h3' : u = (q - 1) * v1 + (r + v1) := by rw [Int.sub_mul]; omega
      by_cases hr : r + v1 ≥ 4294967296
      · rw [decide_eq_true hr, cond_true]
        -- the remainder is a word too large for another correction
        have a1 : (q - 1) * v1 < 4294967296 * v1 := by omega
        have a2 : q - 1 < 4294967296 := Int.lt_of_mul_lt_mul_right a1 (by omega)
        have p := prod_le (a := q - 1) (b := v0) (by omega) hv0
        have e2 : (q - 1) * v = (q - 1) * v1 * 4294967296 + (q - 1) * v0 := by rw [hv]; grind
        have : q - 1 ≤ Q := by rw [hQ, Int.le_ediv_iff_mul_le hvp]; omega
        rw [show q - 1 = Q by omega]
      · rw [decide_eq_false hr, cond_false]
        exact digit hv hv1 hv0 hd hu hQ m (q - 1) (r + v1) (by omega) (by omega) h3' (by omega)
    · rw [decide_eq_false hq, cond_false, show q = Q by omega]

/-- The estimate is not too small. -/
theorem estimate {v1 v0 d u v q r : Int} (hv : v = v1 * 4294967296 + v0) (hv1 : 2147483648 ≤ v1 ∧ v1 ≤ 4294967295) (hv0 : 0 ≤ v0 ∧ v0 ≤ 4294967295) (hd : 0 ≤ d ∧ d ≤ 4294967295) (hu : 0 ≤ u ∧ u < v) (hw : v < 18446744073709551616) (hq : wu64 (u.tdiv v1) = q) (hr : wu64 (u - wu64 (q * v1)) = r) :
    math_bits_Div64_L1 v1 v0 d 3 q r = some ((u * 4294967296 + d) / v) := by
  obtain ⟨e1, e2⟩ := word_rem (u := u) (v := v1) (by omega) (by omega) hq hr
  have m := Int.mul_ediv_add_emod u v1
  have m0 := Int.emod_nonneg u (show v1 ≠ 0 by omega)
  have m1 := Int.emod_lt_of_pos u (show 0 < v1 by omega)
  have c : v1 * (u / v1) = u / v1 * v1 := Int.mul_comm ..
  refine digit hv hv1 hv0 hd hu rfl 3 q r (by omega) (by omega) (by rw [e1, e2]; omega) ?_
  rw [e1]
  have d1 : 0 ≤ u / v1 := Int.ediv_nonneg hu.1 (by omega)
  have : (u * 4294967296 + d) / v < u / v1 + 1 := by
    rw [Int.ediv_lt_iff_lt_mul (by omega), hv]
    have e : (u / v1 + 1) * (v1 * 4294967296 + v0) = (u / v1 * v1 + v1) * 4294967296 + (u / v1 + 1) * v0 := by grind
    have p : 0 ≤ (u / v1 + 1) * v0 := Int.mul_nonneg (by omega) hv0.1
    rw [e]
    omega
  omega

theorem wu64_sub (a b c : Int) (h : 0 ≤ a + b - c ∧ a + b - c < 18446744073709551616) : wu64 (wu64 (wu64 a + b) - wu64 c) = a + b - c := by
  simp only [wu64_eq]; omega

theorem div64_spec {hi lo y : Int} (h : (0 ≤ hi ∧ hi < y) ∧ y ≤ 18446744073709551615 ∧ 0 ≤ lo ∧ lo ≤ 18446744073709551615) : math_bits_Div64 hi lo y = ((hi * 18446744073709551616 + lo) / y, (hi * 18446744073709551616 + lo) % y) := by
  unfold math_bits_Div64
  have c1 : (y == 0) = false := by simp; omega
  rw [c1, cond_false, decide_eq_false (by omega), cond_false]
  by_cases h0 : hi = 0
  · subst h0
    have c2 : ((0 : Int) == 0) = true := rfl
    rw [c2, cond_true, Int.zero_mul, Int.zero_add, Int.tdiv_eq_ediv_of_nonneg h.2.2.1, Int.tmod_eq_emod_of_nonneg h.2.2.1]
    have d1 : 0 ≤ lo / y := Int.ediv_nonneg h.2.2.1 (by omega)
    have d2 : lo / y ≤ lo := Int.ediv_le_self _ h.2.2.1
    rw [wu64_id (by omega)]
  · have c2 : (hi == 0) = false := by simpa using h0
    rw [c2, cond_false]
    dsimp only
    obtain ⟨r1, hr1⟩ : ∃ a, math_bits_LeadingZeros64 y = a := ⟨_, rfl⟩
    rw [hr1]
    obtain ⟨r2, hr2⟩ : ∃ a, wu64 r1 = a := ⟨_, rfl⟩
    rw [hr2]
    obtain ⟨v, hv⟩ : ∃ a, wu64 (y * 2 ^ (min r2.toNat 64)) = a := ⟨_, rfl⟩
    rw [hv]
    obtain ⟨s, s1, s2, s3, s4, s5, s6⟩ := norm_spec (by omega) hr1 hr2 hv
    rw [s3]
    have hp : (0 : Int) < 2 ^ s := Int.pow_pos (by decide)
    have hq : (0 : Int) < 2 ^ (64 - s) := Int.pow_pos (by decide)
    have hpq : (2 : Int) ^ s * 2 ^ (64 - s) = 18446744073709551616 := by rw [← Int.pow_add, show s + (64 - s) = 64 by omega]; rfl
    have m64 : min (wu64 (64 - r2)).toNat 64 = 64 - s := by rw [wu64_id (by omega)]; omega
    rw [m64, fdiv_pow v 32, mask32 (x := v) (by omega), fdiv_pow lo]
    -- the dividend, shifted
    obtain ⟨l1, hl1⟩ : ∃ a, a = lo / 2 ^ (64 - s) := ⟨_, rfl⟩
    obtain ⟨l0, hl0⟩ : ∃ a, a = lo % 2 ^ (64 - s) := ⟨_, rfl⟩
    have hlo : lo = 2 ^ (64 - s) * l1 + l0 := by rw [hl1, hl0]; exact (Int.mul_ediv_add_emod lo (2 ^ (64 - s))).symm
    have l1a : 0 ≤ l1 := by rw [hl1]; exact Int.ediv_nonneg h.2.2.1 (Int.le_of_lt hq)
    have l1b : l1 < 2 ^ s := by
      rw [hl1, Int.ediv_lt_iff_lt_mul hq, hpq]; omega
    have l0a : 0 ≤ l0 := by rw [hl0]; exact Int.emod_nonneg _ (Int.ne_of_gt hq)
    have l0b : l0 < 2 ^ (64 - s) := by rw [hl0]; exact Int.emod_lt_of_pos _ hq
    rw [← hl1]
    have hhi : 2 ^ s * hi + 2 ^ s ≤ v := by
      rw [s4]
      have : 2 ^ s * (hi + 1) ≤ 2 ^ s * y := Int.mul_le_mul_of_nonneg_left (by omega) (Int.le_of_lt hp)
      rw [Int.mul_add, Int.mul_one] at this
      rw [Int.mul_comm y]; exact this
    have hh0 : 0 ≤ 2 ^ s * hi := Int.mul_nonneg (Int.le_of_lt hp) h.1.1
    have e6 : kor .u64 (wu64 (hi * 2 ^ s)) l1 = 2 ^ s * hi + l1 := by
      rw [Int.mul_comm hi, wu64_id (x := 2 ^ s * hi) (by omega), kor_add (by omega) h.1.1 ⟨l1a, l1b⟩ (by omega)]
    rw [e6]
    have hl0s : 2 ^ s * l0 < 18446744073709551616 := by rw [← hpq]; exact Int.mul_lt_mul_of_pos_left l0b hp
    have hl0s0 : 0 ≤ 2 ^ s * l0 := Int.mul_nonneg (Int.le_of_lt hp) l0a
    have e7 : wu64 (lo * 2 ^ s) = 2 ^ s * l0 := by
      rw [wu64_eq, hlo]
      have : (2 ^ (64 - s) * l1 + l0) * 2 ^ s = 2 ^ s * l0 + (2 ^ s * 2 ^ (64 - s)) * l1 := by grind
      rw [this, hpq, Int.add_mul_emod_self_left]
      omega
    rw [e7]
    obtain ⟨u, hu⟩ : ∃ a, a = 2 ^ s * hi + l1 := ⟨_, rfl⟩
    obtain ⟨w, hw⟩ : ∃ a, a = 2 ^ s * l0 := ⟨_, rfl⟩
    rw [← hu, ← hw, fdiv_pow w 32, mask32 (x := w) (by omega)]
    have tot : (hi * 18446744073709551616 + lo) * 2 ^ s = u * 18446744073709551616 + w := by
      rw [hu, hw, ← hpq, hlo]; grind
    -- the first digit
    obtain ⟨v1, hv1⟩ : ∃ a, a = v / 2 ^ 32 := ⟨_, rfl⟩
    obtain ⟨v0, hv0⟩ : ∃ a, a = v % 4294967296 := ⟨_, rfl⟩
    obtain ⟨w1, hw1⟩ : ∃ a, a = w / 2 ^ 32 := ⟨_, rfl⟩
    obtain ⟨w0, hw0⟩ : ∃ a, a = w % 4294967296 := ⟨_, rfl⟩
    rw [← hv1, ← hv0, ← hw1, ← hw0]
    have ev : v = v1 * 4294967296 + v0 := by omega
    have ew : w = w1 * 4294967296 + w0 := by omega
    have dig1 := estimate (d := w1) (u := u) ev (by omega) (by omega) (by omega) (by omega) s6 rfl rfl
    rw [dig1]
    unfold bindv
    simp only [Option.getD_some]
    obtain ⟨Q1, hQ1⟩ : ∃ a, a = (u * 4294967296 + w1) / v := ⟨_, rfl⟩
    rw [← hQ1]
    have f1 := Int.mul_ediv_add_emod (u * 4294967296 + w1) v
    have f2 := Int.emod_nonneg (u * 4294967296 + w1) (show v ≠ 0 by omega)
    have f3 := Int.emod_lt_of_pos (u * 4294967296 + w1) (show 0 < v by omega)
    rw [← hQ1, Int.mul_comm v] at f1
    have hQ1a : 0 ≤ Q1 := by rw [hQ1]; exact Int.ediv_nonneg (by omega) (by omega)
    have hQ1b : Q1 < 4294967296 := by rw [hQ1, Int.ediv_lt_iff_lt_mul (by omega)]; omega
    have eU : wu64 (wu64 (wu64 (u * 4294967296) + w1) - wu64 (Q1 * v)) = (u * 4294967296 + w1) % v := by rw [wu64_sub _ _ _ (by omega)]; omega
    rw [eU]
    obtain ⟨U, hU⟩ : ∃ a, a = (u * 4294967296 + w1) % v := ⟨_, rfl⟩
    rw [← hU]
    rw [← hU] at f1 f2 f3
    have dig2 := estimate (d := w0) (u := U) ev (by omega) (by omega) (by omega) ⟨f2, f3⟩ s6 rfl rfl
    rw [div_L2, dig2]
    simp only [Option.getD_some]
    obtain ⟨Q0, hQ0⟩ : ∃ a, a = (U * 4294967296 + w0) / v := ⟨_, rfl⟩
    rw [← hQ0]
    have g1 := Int.mul_ediv_add_emod (U * 4294967296 + w0) v
    have g2 := Int.emod_nonneg (U * 4294967296 + w0) (show v ≠ 0 by omega)
    have g3 := Int.emod_lt_of_pos (U * 4294967296 + w0) (show 0 < v by omega)
    rw [← hQ0, Int.mul_comm v] at g1
    have hQ0a : 0 ≤ Q0 := by rw [hQ0]; exact Int.ediv_nonneg (by omega) (by omega)
    have hQ0b : Q0 < 4294967296 := by rw [hQ0, Int.ediv_lt_iff_lt_mul (by omega)]; omega
    have eR : wu64 (wu64 (wu64 (U * 4294967296) + w0) - wu64 (Q0 * v)) = (U * 4294967296 + w0) % v := by rw [wu64_sub _ _ _ (by omega)]; omega
    rw [eR, wu64_id (x := Q1 * 4294967296) (by omega), wu64_id (x := Q1 * 4294967296 + Q0) (by omega), fdiv_pow]
    obtain ⟨R, hR⟩ : ∃ a, a = (U * 4294967296 + w0) % v := ⟨_, rfl⟩
    rw [← hR]
    rw [← hR] at g1 g2 g3
    -- together
    have all : (hi * 18446744073709551616 + lo) * 2 ^ s = (Q1 * 4294967296 + Q0) * y * 2 ^ s + R := by
      rw [tot]
      have e : (Q1 * 4294967296 + Q0) * y * 2 ^ s = Q1 * v * 4294967296 + Q0 * v := by rw [s4]; grind
      rw [e]; omega
    have R' : ∃ k, R = 2 ^ s * k := ⟨hi * 18446744073709551616 + lo - (Q1 * 4294967296 + Q0) * y, by rw [Int.mul_sub, Int.mul_comm _ (hi * 18446744073709551616 + lo), all, Int.mul_comm (2 ^ s)]; omega⟩
    obtain ⟨k, hk⟩ := R'
    have hk0 : 0 ≤ k := by
      rcases Int.lt_or_le k 0 with g | g
      · have := Int.mul_neg_of_pos_of_neg hp g; omega
      · exact g
    have hk1 : k < y := by
      rw [hk, s4, Int.mul_comm y] at g3
      exact Int.lt_of_mul_lt_mul_left g3 (Int.le_of_lt hp)
    have fin : hi * 18446744073709551616 + lo = y * (Q1 * 4294967296 + Q0) + k := by
      have : (hi * 18446744073709551616 + lo) * 2 ^ s = (y * (Q1 * 4294967296 + Q0) + k) * 2 ^ s := by rw [all, hk]; grind
      exact Int.eq_of_mul_eq_mul_right (Int.ne_of_gt hp) this
    have q1 : R / 2 ^ s = k := by rw [hk]; exact Int.mul_ediv_cancel_left _ (Int.ne_of_gt hp)
    rw [q1, fin]
    have r1 : (y * (Q1 * 4294967296 + Q0) + k) / y = Q1 * 4294967296 + Q0 := by
      rw [Int.add_comm, Int.add_mul_ediv_left _ _ (by omega), Int.ediv_eq_zero_of_lt hk0 hk1, Int.zero_add]
    have r2' : (y * (Q1 * 4294967296 + Q0) + k) % y = k := by
      rw [Int.add_comm, Int.add_mul_emod_self_left, Int.emod_eq_of_lt hk0 hk1]
    rw [r1, r2']
end Go.Sky
