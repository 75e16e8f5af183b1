/- What the check of the costs grants. Conditions: in each theorem. -/
import Derived.Test.YtkjdmkgacmkpjaaHungF
namespace Go.Sky
open Go Go.Eng

theorem chk_row : ∀ (xs : List Int) (k : Nat), (assign_Check_L2 xs k = .inl () ∧ ∀ c ∈ xs, -1 ≤ c ∧ c ≤ 1099511627776) ∨ assign_Check_L2 xs k = .inr 4
  | [], _ => .inl ⟨rfl, fun _ h => by cases h⟩
  | x :: xs, k => by
    unfold assign_Check_L2
    cases hb : ((decide (x < (-1))) || (decide (x > 1099511627776)))
    · rw [cond_false]
      rcases chk_row xs (k + 1) with ⟨e, h⟩ | e
      · refine .inl ⟨e, fun c hc => ?_⟩
        rcases List.mem_cons.1 hc with rfl | hc
        · simp at hb; omega
        · exact h c hc
      · exact .inr e
    · exact .inr rfl

theorem chk_rows {costs : List (List Int)} : ∀ (xs : List (List Int)) (k : Nat), (assign_Check_L1 costs xs k = .inl () ∧ (costs[0]?.getD []).length = (costs[0]?.getD []).length ∧ ∀ r ∈ xs, r.length ≤ 32 ∧ r.length = (costs[0]?.getD []).length ∧ ∀ c ∈ r, -1 ≤ c ∧ c ≤ 1099511627776) ∨ ∃ e, assign_Check_L1 costs xs k = .inr e ∧ e ≠ 0
  | [], _ => .inl ⟨rfl, rfl, fun _ h => by cases h⟩
  | x :: xs, k => by
    unfold assign_Check_L1
    cases h1 : decide ((x.length : Int) > 32)
    · rw [cond_false]
      cases h2 : ((x.length : Int) != ((costs[0]?.getD []).length : Int))
      · rw [cond_false]
        have h1 := of_decide_eq_false h1
        have h2 : (x.length : Int) = ((costs[0]?.getD []).length : Int) := by simpa using h2
        have h2 : x.length = (costs[0]?.getD []).length := by omega
        rcases chk_row x 0 with ⟨e, h⟩ | e
        · rw [e]
          rcases chk_rows xs (k + 1) with ⟨e2, _, h3⟩ | e2
          · refine .inl ⟨e2, rfl, fun r hr => ?_⟩
            rcases List.mem_cons.1 hr with rfl | hr
            · exact ⟨by omega, h2, h⟩
            · exact h3 r hr
          · exact .inr e2
        · rw [e]; exact .inr ⟨4, rfl, by decide⟩
      · exact .inr ⟨3, rfl, by decide⟩
    · exact .inr ⟨2, rfl, by decide⟩

theorem chk_good {costs : List (List Int)} {miss : Int} (h : assign_Check costs miss = 0) : Good costs (costs[0]?.getD []).length miss := by
  unfold assign_Check at h
  cases h1 : decide ((costs.length : Int) > 32)
  · rw [h1, cond_false] at h
    have h1 := of_decide_eq_false h1
    rcases chk_rows (costs := costs) costs 0 with ⟨e, _, h2⟩ | ⟨e, he, hz⟩
    · rw [e] at h
      simp only [Sum.elim_inl] at h
      cases h3 : ((decide (miss < 0)) || (decide (miss > 1099511627776)))
      · simp at h3
        refine ⟨by omega, ?_, by omega, fun r hr => (h2 r hr).2.1, fun r hr => (h2 r hr).2.2⟩
        by_cases hn : 0 < costs.length
        · have := (h2 _ (rw_mem hn)).1
          exact this
        · rw [List.length_eq_zero_iff.1 (show costs.length = 0 by omega)]; exact Nat.zero_le _
      · rw [h3, cond_true] at h; exact absurd h (by decide)
    · rw [he] at h
      simp only [Sum.elim_inr] at h
      exact absurd h hz
  · rw [h1, cond_true] at h; exact absurd h (by decide)

theorem width_eq (costs : List (List Int)) : assign_width costs = ((costs[0]?.getD []).length : Int) := by
  unfold assign_width
  cases costs with
  | nil => rfl
  | cons x xs =>
    rw [show (((x :: xs).length : Int) == 0) = false by simp [-List.length_cons]]
    rfl
end Go.Sky
