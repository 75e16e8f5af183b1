/- The law NumRoots in plain Lean. Conditions: the argument is a 64-bit integer. -/
import Derived.Test.YtlaealgmaalgfaaWo
import Derived.Test.YtlaealgmaalgfaaOk
namespace Go.Sky
open Go Go.Eng

theorem sq_mono {a b : Int} (ha : 0 ≤ a) (h : a ≤ b) : a * a ≤ b * b := Int.mul_le_mul h h ha (by omega)

theorem root_spec (n : Int) (hn : 0 < n ∧ n ≤ 9223372036854775807) : ∀ (j : Nat) (a b : Int), 0 ≤ a → b ≤ 3037000499 → a ≤ b → b - a < 2 ^ j → a * a ≤ n → n < (b + 1) * (b + 1) →
    ∃ R, num_Root_L1 n (j + 1) a b = some R ∧ 0 ≤ R ∧ R * R ≤ n ∧ n < (R + 1) * (R + 1)
  | 0, a, b, h1, h2, h3, h4, h5, h6 => by
    have e : (2 : Int) ^ 0 = 1 := rfl
    have hab : a = b := by omega
    subst hab
    exact ⟨a, by rw [num_Root_L1, decide_eq_false (by omega)]; rfl, h1, h5, h6⟩
  | j + 1, a, b, h1, h2, h3, h4, h5, h6 => by
    have e : (2 : Int) ^ (j + 1) = 2 * 2 ^ j := by rw [Int.pow_succ]; omega
    by_cases hk : a < b
    · have w1 : w64 (w64 (b - a) + 1) = b - a + 1 := by rw [w64_id (x := b - a) (by omega), w64_id (by omega)]
      have d1 : (b - a + 1).tdiv 2 = (b - a + 1) / 2 := Int.tdiv_eq_ediv_of_nonneg (by omega)
      have w2 : w64 ((w64 (w64 (b - a) + 1)).tdiv 2) = (b - a + 1) / 2 := by rw [w1, d1, w64_id (by omega)]
      have w3 : w64 (a + w64 ((w64 (w64 (b - a) + 1)).tdiv 2)) = a + (b - a + 1) / 2 := by rw [w2, w64_id (by omega)]
      obtain ⟨c, hc⟩ : ∃ c, c = a + (b - a + 1) / 2 := ⟨_, rfl⟩
      have hm : c * c ≤ 3037000499 * 3037000499 := sq_mono (by omega) (by omega)
      have hm0 : 0 ≤ c * c := Int.mul_nonneg (by omega) (by omega)
      rw [num_Root_L1, decide_eq_true hk]
      simp only [cond_true, w3]
      rw [← hc, w64_id (x := c * c) (by omega)]
      by_cases hs : c * c ≤ n
      · rw [decide_eq_true hs, cond_true]
        exact root_spec n hn j c b (by omega) h2 (by omega) (by omega) hs h6
      · rw [decide_eq_false hs, cond_false, w64_id (by omega)]
        exact root_spec n hn j a (c - 1) h1 (by omega) (by omega) (by omega) h5 (by rw [show c - 1 + 1 = c by omega]; omega)
    · have hab : a = b := by omega
      subst hab
      exact ⟨a, by rw [num_Root_L1, decide_eq_false hk]; rfl, h1, h5, h6⟩

theorem ref_spec (n : Int) (hn : 0 < n ∧ n ≤ 9223372036854775807) : ∀ (m k : Nat) (r : Int), m + k = 32 → 0 ≤ r → r ≤ 3037000499 → r * r ≤ n → n < (r + 2 ^ m) * (r + 2 ^ m) →
    0 ≤ skywayref1_Root_L1 n m k r ∧ skywayref1_Root_L1 n m k r * skywayref1_Root_L1 n m k r ≤ n ∧ n < (skywayref1_Root_L1 n m k r + 1) * (skywayref1_Root_L1 n m k r + 1)
  | 0, k, r, _, h1, h2, h3, h4 => ⟨h1, h3, h4⟩
  | m + 1, k, r, hk, h1, h2, h3, h4 => by
    have e : (2 : Int) ^ (m + 1) = 2 * 2 ^ m := by rw [Int.pow_succ]; omega
    have hmin : min (31 - ((k : Nat) : Int)).toNat 64 = m := by omega
    have hp : (0 : Int) < 2 ^ m := Int.pow_pos (by decide)
    have hp2 : (2 : Int) ^ m ≤ 2 ^ 31 := by exact_mod_cast Nat.pow_le_pow_right (show 0 < 2 by decide) (show m ≤ 31 by omega)
    have e31 : (2 : Int) ^ 31 = 2147483648 := rfl
    unfold skywayref1_Root_L1
    rw [hmin, Int.one_mul, w64_id (x := (2 : Int) ^ m) (by omega), w64_id (x := r + 2 ^ m) (by omega), decide_eq_true hn.1, Bool.true_and]
    obtain ⟨x, hx⟩ : ∃ x, x = r + 2 ^ m := ⟨_, rfl⟩
    rw [← hx]
    rw [e, show r + 2 * 2 ^ m = x + 2 ^ m by omega] at h4
    by_cases h5 : x ≤ 3037000499
    · have hm : x * x ≤ 3037000499 * 3037000499 := sq_mono (by omega) h5
      have hm0 : 0 ≤ x * x := Int.mul_nonneg (by omega) (by omega)
      rw [decide_eq_true h5, Bool.true_and, w64_id (x := x * x) (by omega)]
      by_cases h6 : x * x ≤ n
      · rw [decide_eq_true h6, cond_true]
        exact ref_spec n hn m (k + 1) x (by omega) (by omega) h5 h6 h4
      · rw [decide_eq_false h6, cond_false]
        exact ref_spec n hn m (k + 1) r (by omega) h1 h2 h3 (by rw [← hx]; omega)
    · rw [decide_eq_false h5, Bool.false_and, cond_false]
      have hm : (3037000500 : Int) * 3037000500 ≤ x * x := sq_mono (by decide) (by omega)
      exact ref_spec n hn m (k + 1) r (by omega) h1 h2 h3 (by rw [← hx]; omega)

theorem root_unique {n a b : Int} (ha : 0 ≤ a ∧ a * a ≤ n ∧ n < (a + 1) * (a + 1)) (hb : 0 ≤ b ∧ b * b ≤ n ∧ n < (b + 1) * (b + 1)) : a = b := by
  rcases Int.lt_trichotomy a b with h | h | h
  · have := sq_mono (a := a + 1) (b := b) (by omega) (by omega); omega
  · exact h
  · have := sq_mono (a := b + 1) (b := a) (by omega) (by omega); omega

theorem ref_zero {n : Int} (hn : ¬ n > 0) : ∀ (m k : Nat) (r : Int), skywayref1_Root_L1 n m k r = r
  | 0, _, _ => rfl
  | m + 1, k, r => by
    unfold skywayref1_Root_L1
    rw [decide_eq_false hn, Bool.false_and, Bool.false_and, cond_false]
    exact ref_zero hn m (k + 1) r

theorem works_true : skywaylaw1_numWorks = true := by kernel_rfl

theorem NumRoots_true (x0 : Int) (_k0 : -9223372036854775808 ≤ x0 ∧ x0 ≤ 9223372036854775807) : skywaylaw1_NumRoots x0 = true := by
  unfold skywaylaw1_NumRoots
  simp only [works_true, cond_true, beq_iff_eq]
  unfold num_Root skywayref1_Root bindv
  by_cases h : x0 ≤ 0
  · rw [decide_eq_true h, cond_true, ref_zero (by omega)]
  · rw [decide_eq_false h, cond_false]
    obtain ⟨R, h1, h2⟩ := root_spec x0 (by omega) 33 0 3037000499 (by decide) (by decide) (by decide) (by decide) (by omega) (by omega)
    rw [h1]
    have g := ref_spec x0 (by omega) 32 0 0 rfl (by decide) (by decide) (by omega) (by
      rw [show ((0 : Int) + 2 ^ 32) * (0 + 2 ^ 32) = 18446744073709551616 by decide]; omega)
    exact root_unique h2 g
end Go.Sky
