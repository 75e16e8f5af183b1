/- The root by halving is the floor of the square root. Conditions: in each theorem. -/
import Derived.Test.YtlaealgmaalgfaaWa
import Derived.Test.YtlaealgmaalgfaaNum
namespace Go.Sky
open Go Go.Eng

theorem sq_mono2 {a b : Int} (ha : 0 ≤ a) (h : a ≤ b) : a * a ≤ b * b := Int.mul_le_mul h h ha (by omega)

theorem root_spec2 (n : Int) (hn : 0 < n ∧ n ≤ 9223372036854775807) : ∀ (j : Nat) (a b : Int), 0 ≤ a → b ≤ 3037000499 → a ≤ b → b - a < 2 ^ j → a * a ≤ n → n < (b + 1) * (b + 1) →
    ∃ R, num_Root_L1 n (j + 1) a b = some R ∧ 0 ≤ R ∧ R * R ≤ n ∧ n < (R + 1) * (R + 1)
  | 0, a, b, h1, h2, h3, h4, h5, h6 => by
    have e : (2 : Int) ^ 0 = 1 := rfl
    have hab : a = b := by omega
    subst hab
    exact ⟨a, by rw [num_Root_L1, decide_eq_false (by omega)]; rfl, h1, h5, h6⟩
  | j + 1, a, b, h1, h2, h3, h4, h5, h6 => by
    have e : (2 : Int) ^ (j + 1) = 2 * 2 ^ j := by rw [Int.pow_succ]; omega
    by_cases hk : a < b
    · have w1 : w64 (w64 (b - a) + 1) = b - a + 1 := by rw [w64_id (x := b - a) (by omega), w64_id (by omega)]
      have d1 : (b - a + 1).tdiv 2 = (b - a + 1) / 2 := Int.tdiv_eq_ediv_of_nonneg (by omega)
      have w2 : w64 ((w64 (w64 (b - a) + 1)).tdiv 2) = (b - a + 1) / 2 := by rw [w1, d1, w64_id (by omega)]
      have w3 : w64 (a + w64 ((w64 (w64 (b - a) + 1)).tdiv 2)) = a + (b - a + 1) / 2 := by rw [w2, w64_id (by omega)]
      obtain ⟨c, hc⟩ : ∃ c, c = a + (b - a + 1) / 2 := ⟨_, rfl⟩
      have hm : c * c ≤ 3037000499 * 3037000499 := sq_mono2 (by omega) (by omega)
      have hm0 : 0 ≤ c * c := Int.mul_nonneg (by omega) (by omega)
      rw [num_Root_L1, decide_eq_true hk]
      simp only [cond_true, w3]
      rw [← hc, w64_id (x := c * c) (by omega)]
      by_cases hs : c * c ≤ n
      · rw [decide_eq_true hs, cond_true]
        exact root_spec2 n hn j c b (by omega) h2 (by omega) (by omega) hs h6
      · rw [decide_eq_false hs, cond_false, w64_id (by omega)]
        exact root_spec2 n hn j a (c - 1) h1 (by omega) (by omega) (by omega) h5 (by rw [show c - 1 + 1 = c by omega]; omega)
    · have hab : a = b := by omega
      subst hab
      exact ⟨a, by rw [num_Root_L1, decide_eq_false hk]; rfl, h1, h5, h6⟩
end Go.Sky
