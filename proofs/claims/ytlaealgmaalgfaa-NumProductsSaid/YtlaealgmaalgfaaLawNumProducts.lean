/- The law NumProducts in plain Lean. Conditions: the arguments are 64-bit integers. -/
import Derived.Test.YtlaealgmaalgfaaDiv
import Derived.Test.YtlaealgmaalgfaaDigits
import Derived.Test.YtlaealgmaalgfaaOk
namespace Go.Sky
open Go Go.Eng

theorem mag_eq {n : Int} (h : -9223372036854775808 ≤ n ∧ n ≤ 9223372036854775807) : num_magnitude n = if n < 0 then -n else n := by
  unfold num_magnitude
  by_cases hn : n < 0
  · rw [decide_eq_true hn, cond_true, if_pos hn, wu64_eq, wu64_eq]; omega
  · rw [decide_eq_false hn, cond_false, if_neg hn, wu64_eq]; omega

/-- What MulDiv hands back, by the exact quotient of the magnitudes. -/
theorem mulDiv_spec {a b c : Int} (ha : -9223372036854775808 ≤ a ∧ a ≤ 9223372036854775807) (hb : -9223372036854775808 ≤ b ∧ b ≤ 9223372036854775807) (hc : -9223372036854775808 ≤ c ∧ c ≤ 9223372036854775807) (h0 : c ≠ 0) :
    (num_MulDiv a b c = (0, 2) ∧ ((c > 0 ∧ (a * b ≥ c * 9223372036854775808 ∨ a * b < c * (-9223372036854775808))) ∨ (c < 0 ∧ (a * b ≤ c * 9223372036854775808 ∨ a * b > c * (-9223372036854775808))))) ∨
    (∃ q : Int, num_MulDiv a b c = (q, 0) ∧ (-9223372036854775808 ≤ q ∧ q ≤ 9223372036854775807) ∧ ((c > 0 ∧ c * q ≤ a * b ∧ a * b < c * (q + 1)) ∨ (c < 0 ∧ a * b ≤ c * q ∧ c * (q + 1) < a * b))) := by
  unfold num_MulDiv
  rw [show (c == 0) = false by simpa using h0, cond_false, mag_eq ha, mag_eq hb, mag_eq hc]
  dsimp only
  obtain ⟨x, hx⟩ : ∃ x, x = (if a < 0 then -a else a) := ⟨_, rfl⟩
  obtain ⟨y, hy⟩ : ∃ x, x = (if b < 0 then -b else b) := ⟨_, rfl⟩
  obtain ⟨d, hd⟩ : ∃ x, x = (if c < 0 then -c else c) := ⟨_, rfl⟩
  rw [← hx, ← hy, ← hd]
  have bx : 0 ≤ x ∧ x ≤ 9223372036854775808 := by rw [hx]; split <;> omega
  have by_ : 0 ≤ y ∧ y ≤ 9223372036854775808 := by rw [hy]; split <;> omega
  have bd : 1 ≤ d ∧ d ≤ 9223372036854775808 := by rw [hd]; split <;> omega
  rw [mul64_spec (by omega) (by omega)]
  dsimp only
  obtain ⟨M, hM⟩ : ∃ M, M = x * y := ⟨_, rfl⟩
  rw [← hM]
  have M0 : 0 ≤ M := by rw [hM]; exact Int.mul_nonneg bx.1 by_.1
  -- the product itself
  have hP : (a * b = M ∧ ((decide (a < 0)) == (decide (b < 0))) = true) ∨ (a * b = -M ∧ ((decide (a < 0)) == (decide (b < 0))) = false) := by
    rw [hM, hx, hy]
    by_cases h1 : a < 0 <;> by_cases h2 : b < 0
    · rw [if_pos h1, if_pos h2, decide_eq_true h1, decide_eq_true h2]; exact .inl ⟨(Int.neg_mul_neg a b).symm, rfl⟩
    · rw [if_pos h1, if_neg h2, decide_eq_true h1, decide_eq_false h2]; exact .inr ⟨by rw [Int.neg_mul]; omega, rfl⟩
    · rw [if_neg h1, if_pos h2, decide_eq_false h1, decide_eq_true h2]; exact .inr ⟨by rw [Int.mul_neg]; omega, rfl⟩
    · rw [if_neg h1, if_neg h2, decide_eq_false h1, decide_eq_false h2]; exact .inl ⟨rfl, rfl⟩
  obtain ⟨P, hPe⟩ : ∃ P, P = a * b := ⟨_, rfl⟩
  rw [← hPe] at hP ⊢
  have hcd : (c = d ∧ decide (c < 0) = false) ∨ (c = -d ∧ decide (c < 0) = true) := by
    rw [hd]
    by_cases h : c < 0
    · rw [if_pos h]; exact .inr ⟨by omega, decide_eq_true h⟩
    · rw [if_neg h]; exact .inl ⟨rfl, decide_eq_false h⟩
  by_cases hbig : M / 18446744073709551616 ≥ d
  · rw [decide_eq_true hbig, cond_true]
    refine .inl ⟨rfl, ?_⟩
    rcases hP with ⟨p1, _⟩ | ⟨p1, _⟩ <;> rcases hcd with ⟨c1, _⟩ | ⟨c1, _⟩ <;> omega
  · rw [decide_eq_false hbig, cond_false, div64_spec (by omega)]
    have eM : M / 18446744073709551616 * 18446744073709551616 + M % 18446744073709551616 = M := by omega
    rw [eM]
    obtain ⟨q, hq⟩ : ∃ q, q = M / d := ⟨_, rfl⟩
    obtain ⟨r, hr⟩ : ∃ q, q = M % d := ⟨_, rfl⟩
    rw [← hq, ← hr]
    have f1 := Int.mul_ediv_add_emod M d
    have f2 := Int.emod_nonneg M (show d ≠ 0 by omega)
    have f3 := Int.emod_lt_of_pos M (show 0 < d by omega)
    rw [← hq, ← hr] at f1
    rw [← hr] at f2 f3
    have q0 : 0 ≤ q := by rw [hq]; exact Int.ediv_nonneg M0 (by omega)
    have q1 : q < 18446744073709551616 := by
      rw [hq, Int.ediv_lt_iff_lt_mul (by omega)]
      omega
    -- the two ways: rounded down, and away from zero
    have plus : (P = M ∧ c = d) ∨ (P = -M ∧ c = -d) → ∀ v : Int × Int, v = cond (decide (q > 9223372036854775807)) (0, 2) (w64 q, 0) →
        (v = (0, 2) ∧ ((c > 0 ∧ (P ≥ c * 9223372036854775808 ∨ P < c * (-9223372036854775808))) ∨ (c < 0 ∧ (P ≤ c * 9223372036854775808 ∨ P > c * (-9223372036854775808))))) ∨
        (∃ q : Int, v = (q, 0) ∧ (-9223372036854775808 ≤ q ∧ q ≤ 9223372036854775807) ∧ ((c > 0 ∧ c * q ≤ P ∧ P < c * (q + 1)) ∨ (c < 0 ∧ P ≤ c * q ∧ c * (q + 1) < P))) := by
      intro h v hv
      subst hv
      by_cases hq2 : q > 9223372036854775807
      · rw [decide_eq_true hq2, cond_true]
        refine .inl ⟨rfl, ?_⟩
        have : d * 9223372036854775808 ≤ d * q := Int.mul_le_mul_of_nonneg_left (by omega) (by omega)
        rcases h with ⟨h1, h2⟩ | ⟨h1, h2⟩ <;> omega
      · rw [decide_eq_false hq2, cond_false]
        refine .inr ⟨q, by rw [w64_id (by omega)], by omega, ?_⟩
        have e : d * (q + 1) = d * q + d := by rw [Int.mul_add, Int.mul_one]
        rcases h with ⟨h1, h2⟩ | ⟨h1, h2⟩
        · exact .inl ⟨by omega, by rw [h1, h2]; omega, by rw [h1, h2, e]; omega⟩
        · exact .inr ⟨by omega, by rw [h1, h2, Int.neg_mul]; omega, by rw [h1, h2, Int.neg_mul, e]; omega⟩
    have minus : (P = M ∧ c = -d) ∨ (P = -M ∧ c = d) → M ≠ 0 → ∀ v : Int × Int, v = cond (decide (r > 0)) (cond ((decide ((wu64 (q + 1)) > 9223372036854775808)) || ((wu64 (q + 1)) == 0)) (0, 2) (w64 (wu64 (0 - (wu64 (q + 1)))), 0)) (cond ((decide (q > 9223372036854775808)) || (q == 0)) (0, 2) (w64 (wu64 (0 - q)), 0)) →
        (v = (0, 2) ∧ ((c > 0 ∧ (P ≥ c * 9223372036854775808 ∨ P < c * (-9223372036854775808))) ∨ (c < 0 ∧ (P ≤ c * 9223372036854775808 ∨ P > c * (-9223372036854775808))))) ∨
        (∃ q : Int, v = (q, 0) ∧ (-9223372036854775808 ≤ q ∧ q ≤ 9223372036854775807) ∧ ((c > 0 ∧ c * q ≤ P ∧ P < c * (q + 1)) ∨ (c < 0 ∧ P ≤ c * q ∧ c * (q + 1) < P))) := by
      intro h hM0 v hv
      -- the quotient rounded up
      obtain ⟨u, hu1, hu2, hu3⟩ : ∃ u : Int, (v = cond ((decide ((wu64 u) > 9223372036854775808)) || ((wu64 u) == 0)) (0, 2) (w64 (wu64 (0 - (wu64 u))), 0)) ∧ (1 ≤ u ∧ u ≤ 18446744073709551616) ∧ (M ≤ d * u ∧ d * u - d < M) := by
        by_cases h0 : r > 0
        · rw [decide_eq_true h0, cond_true] at hv
          have e : d * (q + 1) = d * q + d := by rw [Int.mul_add, Int.mul_one]
          exact ⟨q + 1, hv, by omega, by omega, by omega⟩
        · rw [decide_eq_false h0, cond_false] at hv
          have hqn : q ≠ 0 := fun hz => by rw [hz, Int.mul_zero] at f1; omega
          exact ⟨q, by rw [wu64_id (x := q) (by omega)]; exact hv, by omega, by omega, by omega⟩
      by_cases hb2 : u > 9223372036854775808
      · have hcnd : ((decide ((wu64 u) > 9223372036854775808)) || ((wu64 u) == 0)) = true := by
          by_cases hz : u = 18446744073709551616
          · rw [hz]; decide
          · rw [wu64_id (by omega), decide_eq_true hb2]; rfl
        rw [hcnd, cond_true] at hu1
        refine .inl ⟨hu1, ?_⟩
        have : d * 9223372036854775809 ≤ d * u := Int.mul_le_mul_of_nonneg_left (by omega) (by omega)
        rcases h with ⟨h1, h2⟩ | ⟨h1, h2⟩ <;> omega
      · have hcnd : ((decide ((wu64 u) > 9223372036854775808)) || ((wu64 u) == 0)) = false := by
          rw [wu64_id (by omega), decide_eq_false hb2, Bool.false_or]
          simp; omega
        rw [hcnd, cond_false, wu64_id (x := u) (by omega)] at hu1
        have ew : w64 (wu64 (0 - u)) = -u := by rw [wu64_eq, w64_eq]; omega
        rw [ew] at hu1
        refine .inr ⟨-u, hu1, by omega, ?_⟩
        have e1 : d * (-u) = -(d * u) := Int.mul_neg ..
        have e2 : d * (-u + 1) = -(d * u) + d := by rw [Int.mul_add, Int.mul_one, e1]
        rcases h with ⟨h1, h2⟩ | ⟨h1, h2⟩
        · exact .inr ⟨by omega, by rw [h1, h2, Int.neg_mul, e1]; omega, by rw [h1, h2, Int.neg_mul, e2]; omega⟩
        · exact .inl ⟨by omega, by rw [h1, h2, e1]; omega, by rw [h1, h2, e2]; omega⟩
    have zero : M = 0 → (P = M ∧ c = d) ∨ (P = -M ∧ c = -d) := fun h => by
      rcases hP with ⟨p1, _⟩ | ⟨p1, _⟩ <;> rcases hcd with ⟨c1, _⟩ | ⟨c1, _⟩ <;> omega
    by_cases hs : (!(!((!((decide (a < 0)) == (decide (b < 0)))) == (decide (c < 0))))) = true
    · rw [hs, cond_true]
      refine plus ?_ _ rfl
      rcases hP with ⟨p1, p2⟩ | ⟨p1, p2⟩ <;> rcases hcd with ⟨c1, c2⟩ | ⟨c1, c2⟩ <;> rw [p2, c2] at hs
      · exact .inl ⟨p1, c1⟩
      · cases hs
      · cases hs
      · exact .inr ⟨p1, c1⟩
    · have hs' : (!(!((!((decide (a < 0)) == (decide (b < 0)))) == (decide (c < 0))))) = false := by simpa using hs
      rw [hs', cond_false]
      have hm : (P = M ∧ c = -d) ∨ (P = -M ∧ c = d) := by
        rcases hP with ⟨p1, p2⟩ | ⟨p1, p2⟩ <;> rcases hcd with ⟨c1, c2⟩ | ⟨c1, c2⟩ <;> rw [p2, c2] at hs'
        · cases hs'
        · exact .inl ⟨p1, c1⟩
        · exact .inr ⟨p1, c1⟩
        · cases hs'
      by_cases hh : M / 18446744073709551616 = 0
      · rw [show (M / 18446744073709551616 == 0) = true by simpa using hh, cond_true]
        by_cases hl : M % 18446744073709551616 = 0
        · rw [show (M % 18446744073709551616 == 0) = true by simpa using hl, cond_true]
          exact plus (zero (by omega)) _ rfl
        · rw [show (M % 18446744073709551616 == 0) = false by simpa using hl, cond_false]
          exact minus hm (by omega) _ rfl
      · rw [show (M / 18446744073709551616 == 0) = false by simpa using hh, cond_false]
        exact minus hm (by omega) _ rfl

theorem works_true2 : skywaylaw1_numWorks = true := by kernel_rfl

theorem NumProducts_true (x0 x1 x2 : Int) (_k0 : -9223372036854775808 ≤ x0 ∧ x0 ≤ 9223372036854775807) (_k1 : -9223372036854775808 ≤ x1 ∧ x1 ≤ 9223372036854775807) (_k2 : -9223372036854775808 ≤ x2 ∧ x2 ≤ 9223372036854775807) : skywaylaw1_NumProducts x0 x1 x2 = true := by
  unfold skywaylaw1_NumProducts
  simp only [works_true2, Bool.not_true, cond_false]
  by_cases h0 : x2 = 0
  · have e : num_MulDiv x0 x1 x2 = (0, 10) := by unfold num_MulDiv; rw [h0]; rfl
    rw [show (x2 == 0) = true by simpa using h0, cond_true, e]; rfl
  · rw [show (x2 == 0) = false by simpa using h0, cond_false]
    have low := cmp_spec _k0 _k1 _k2 (d := -9223372036854775808) (by decide)
    have mid := cmp_spec _k0 _k1 _k2 (d := 4611686018427387904) (by decide)
    have top := cmp_spec _k0 _k1 _k2 (d := 9223372036854775807) (by decide)
    rcases mulDiv_spec _k0 _k1 _k2 h0 with ⟨e, h⟩ | ⟨q, e, hq, h⟩
    · rw [e]
      have c1 : ((2 : Int) == 2) = true := rfl
      have c2 : ((0 : Int) == 0) = true := rfl
      simp only [c1, c2, cond_true]
      revert low mid top
      generalize skywayref1_CmpProducts x0 x1 x2 (-9223372036854775808) = r3
      generalize skywayref1_CmpProducts x0 x1 x2 4611686018427387904 = r4
      generalize skywayref1_CmpProducts x0 x1 x2 9223372036854775807 = r5
      generalize x0 * x1 = P at *
      intro low mid top
      by_cases hc : x2 > 0
      · rw [decide_eq_true hc, cond_true]
        by_cases hr3 : r3 < 0
        · rw [decide_eq_true hr3]; rfl
        · rw [decide_eq_false hr3, cond_false]
          have hr4 : r4 > 0 := by omega
          have hr5 : r5 > 0 := by omega
          rw [decide_eq_true hr4, cond_true, decide_eq_true hr5]
      · rw [decide_eq_false hc, cond_false]
        by_cases hr3 : r3 > 0
        · rw [decide_eq_true hr3]; rfl
        · rw [decide_eq_false hr3, cond_false]
          have hr5 : r5 < 0 := by omega
          rw [decide_eq_true hr5]
    · rw [e]
      have c1 : ((0 : Int) == 2) = false := rfl
      have c2 : ((0 : Int) != 0) = false := rfl
      simp only [c1, c2, cond_false]
      have at_ := cmp_spec _k0 _k1 _k2 (d := q) hq
      by_cases hc : x2 > 0
      · have g1 : skywayref1_CmpProducts x0 x1 x2 q ≥ 0 := by omega
        rw [decide_eq_true hc, cond_true, decide_eq_true g1, cond_true]
        by_cases ht : q = 9223372036854775807
        · rw [show (q == 9223372036854775807) = true by simpa using ht]; rfl
        · rw [show (q == 9223372036854775807) = false by simpa using ht, cond_false, w64_id (by omega)]
          have nx := cmp_spec _k0 _k1 _k2 (d := q + 1) (by omega)
          exact decide_eq_true (by omega)
      · have g1 : skywayref1_CmpProducts x0 x1 x2 q ≤ 0 := by omega
        rw [decide_eq_false hc, cond_false, decide_eq_true g1, cond_true]
        by_cases ht : q = 9223372036854775807
        · rw [show (q == 9223372036854775807) = true by simpa using ht]; rfl
        · rw [show (q == 9223372036854775807) = false by simpa using ht, cond_false, w64_id (by omega)]
          have nx := cmp_spec _k0 _k1 _k2 (d := q + 1) (by omega)
          exact decide_eq_true (by omega)
end Go.Sky
