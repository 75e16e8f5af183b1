/- What the law's helper 'fine' says: every code is 0. Conditions: none. -/
import Derived.Test.YtbhemgagabdjkaaWa
namespace Go.Sky
open Go Go.Eng

theorem index_fine (l : List Int) (k : Nat) : IndexFunc_fine_L1 l k = .inl () ∧ (∀ x ∈ l, x = 0) ∨ (∃ j : Nat, IndexFunc_fine_L1 l k = .inr (j : Int)) ∧ ∃ x ∈ l, x ≠ 0 := by
  induction l generalizing k with
  | nil => exact .inl ⟨rfl, by simp⟩
  | cons x xs ih =>
    by_cases hx : x = 0
    · subst hx
      have e : IndexFunc_fine_L1 (0 :: xs) k = IndexFunc_fine_L1 xs (k + 1) := rfl
      rcases ih (k + 1) with ⟨h, h2⟩ | ⟨⟨j, h⟩, y, hy, h2⟩
      · exact .inl ⟨e.trans h, by simpa using h2⟩
      · exact .inr ⟨⟨j, e.trans h⟩, y, List.mem_cons_of_mem _ hy, h2⟩
    · have e : IndexFunc_fine_L1 (x :: xs) k = .inr (k : Int) := by
        have h0 : (x != 0) = true := by simpa using hx
        simp only [IndexFunc_fine_L1, skywaykeep2_fine_1, h0, cond_true]
      exact .inr ⟨⟨k, e⟩, x, List.mem_cons_self .., hx⟩

theorem fine_eq (l : List Int) : skywaykeep2_fine l = l.all (· == 0) := by
  unfold skywaykeep2_fine ContainsFunc_fine IndexFunc_fine
  rcases index_fine l 0 with ⟨h, h2⟩ | ⟨⟨j, h⟩, y, hy, h2⟩
  · rw [h]
    simpa using h2
  · rw [h]
    simp only [Sum.elim_inr]
    rw [Eq.comm, Bool.eq_iff_iff]
    simp only [ge_iff_le, Int.natCast_nonneg, decide_true, Bool.not_true, Bool.false_eq_true, iff_false, List.all_eq_true, beq_iff_eq]
    exact fun hh => h2 (hh y hy)
theorem fine2 (a b : Int) : skywaykeep2_fine [a, b] = (a == 0 && b == 0) := by rw [fine_eq]; simp
theorem fine3 (a b c : Int) : skywaykeep2_fine [a, b, c] = (a == 0 && (b == 0 && c == 0)) := by rw [fine_eq]; simp
end Go.Sky
