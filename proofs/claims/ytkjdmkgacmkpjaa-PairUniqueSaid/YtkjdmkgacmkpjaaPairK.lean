/- What the check of flights grants. Conditions: in each theorem. -/
import Derived.Test.YtkjdmkgacmkpjaaUh
namespace Go.Sky
open Go Go.Eng

theorem pcheck_L1 {C : List Int} : ∀ (xs : List (List TubeNode)) (k : Nat), (pair_Check_L1 C xs k = .inl () ∧ ∀ t ∈ xs, tube_Check t = 0) ∨ ∃ e, pair_Check_L1 C xs k = .inr e ∧ e ≠ 0
  | [], _ => .inl ⟨rfl, fun _ h => by cases h⟩
  | x :: xs, k => by
    unfold pair_Check_L1
    simp only
    cases h1 : (tube_Check x != 0)
    · rw [cond_false]
      cases h2 : decide ((C[k]?.getD 0) < 0)
      · rw [cond_false]
        cases h3 : decide ((C[k]?.getD 0) > 4095)
        · rw [cond_false]
          rcases pcheck_L1 (C := C) xs (k + 1) with ⟨e, h⟩ | h
          · refine .inl ⟨e, fun t ht => ?_⟩
            rcases List.mem_cons.1 ht with rfl | ht
            · simpa using h1
            · exact h t ht
          · exact .inr h
        · exact .inr ⟨4, rfl, by decide⟩
      · exact .inr ⟨4, rfl, by decide⟩
    · exact .inr ⟨_, rfl, by simpa using h1⟩
theorem pcheck {T : List (List TubeNode)} {C : List Int} (h : pair_Check T C = 0) : T.length ≤ 24 ∧ C.length = T.length ∧ ∀ t ∈ T, tube_Check t = 0 := by
  unfold pair_Check at h
  cases h1 : decide ((T.length : Int) > 24)
  · rw [h1, cond_false] at h
    have h1 := of_decide_eq_false h1
    cases h2 : ((C.length : Int) != (T.length : Int))
    · rw [h2, cond_false] at h
      have h2 : (C.length : Int) = (T.length : Int) := by simpa using h2
      rcases pcheck_L1 (C := C) T 0 with ⟨e, q⟩ | ⟨e, he, hz⟩
      · exact ⟨by omega, by omega, q⟩
      · rw [he] at h; exact absurd h hz
    · rw [h2, cond_true] at h; exact absurd h (by decide)
  · rw [h1, cond_true] at h; exact absurd h (by decide)
theorem pcheck_know {T : List (List TubeNode)} {C : List Int} {r : Int} (hr : pair_Check T C = r) (h : (r != 0) = false) : T.length ≤ 24 ∧ C.length = T.length := by
  subst hr; have := pcheck (by simpa using h); exact ⟨this.1, this.2.1⟩
end Go.Sky
