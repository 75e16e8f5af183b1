/- What First finds. Conditions: in each theorem. -/
import Derived.Test.YtlaealgmaalgfaaWg
import Derived.Test.YtlaealgmaalgfaaTube
namespace Go.Sky
open Go Go.Eng Go.Glue

theorem firstc_L1 (l : List Track) : ∀ (xs : List Track) (k : Nat), conform_First_L1 l xs k = .inl () ∨ ∃ c : Int, c ≠ 0 ∧ conform_First_L1 l xs k = .inr (0, c)
  | [], _ => .inl rfl
  | x :: xs, k => by
    unfold conform_First_L1
    have ih := firstc_L1 l xs (k + 1)
    cases conform_permitted x
    · exact .inr ⟨4, by decide, rfl⟩
    · simp only [Bool.not_true, cond_false]
      cases decide ((k : Int) > 0)
      · exact ih
      · simp only [cond_true]
        cases decide (x.Time ≤ ((l[(k - 1)]?.getD Track.zero).Time))
        · exact ih
        · exact .inr ⟨12, by decide, rfl⟩
theorem firstc_code (l : List Track) : ∀ (xs : List Track) (k : Nat) (c : Int), conform_First_L1 l xs k = .inr (0, c) → c = 4 ∨ c = 12
  | [], _, c, h => by cases h
  | x :: xs, k, c, h => by
    unfold conform_First_L1 at h
    have ih := firstc_code l xs (k + 1) c
    cases hp : conform_permitted x
    · simp only [hp, Bool.not_false, cond_true] at h
      injection h with h; injection h with _ h; omega
    · simp only [hp, Bool.not_true, cond_false] at h
      cases hk : decide ((k : Int) > 0)
      · simp only [hk, cond_false] at h; exact ih h
      · simp only [hk, cond_true] at h
        cases hd : decide (x.Time ≤ ((l[(k - 1)]?.getD Track.zero).Time))
        · simp only [hd, cond_false] at h; exact ih h
        · simp only [hd, cond_true] at h
          injection h with h; injection h with _ h; omega
theorem tube_code_L1 (l : List TubeNode) : ∀ (xs : List TubeNode) (k : Nat) (c : Int), tube_Check_L1 l xs k = .inr c → c = 12 ∨ c = 4
  | [], _, c, h => by cases h
  | x :: xs, k, c, h => by
    unfold tube_Check_L1 at h
    have ih := tube_code_L1 l xs (k + 1) c
    have hp : plane_Check x.Node.At = 0 ∨ plane_Check x.Node.At = 4 := (checkP_eq x.Node.At).imp (fun g => g.1) (fun g => g.1)
    simp only [ite_of_cond] at h
    repeat' split at h
    all_goals first | exact ih h | (simp only [Sum.inr.injEq] at h; omega) | (rename_i hb; simp only [Sum.inr.injEq] at h; simp at hb; omega)
theorem tube_code (l : List TubeNode) : tube_Check l = 0 ∨ tube_Check l = 2 ∨ tube_Check l = 3 ∨ tube_Check l = 12 ∨ tube_Check l = 4 := by
  unfold tube_Check
  cases decide ((l.length : Int) > 64)
  · cases ((l.length : Int) == 0)
    · simp only [cond_false]
      cases h : tube_Check_L1 l l 0 with
      | inl u => exact .inl rfl
      | inr c => have := tube_code_L1 l l 0 c h; simp only [Sum.elim_inr]; omega
    · exact .inr (.inr (.inl rfl))
  · exact .inr (.inl rfl)
theorem firstc_L2 (t : List TubeNode) : ∀ (xs : List Track) (k : Nat), conform_First_L2 t xs k = .inl () ∧ (∀ x ∈ xs, ((conform_Compare x t).2 == 0 && (conform_Compare x t).1 == 2) = false) ∨
    ∃ j : Nat, conform_First_L2 t xs k = .inr (((k + j : Nat) : Int), 0) ∧ j < xs.length ∧ ((conform_Compare (xs[j]?.getD Track.zero) t).2 == 0 && (conform_Compare (xs[j]?.getD Track.zero) t).1 == 2) = true ∧ ∀ x ∈ xs.take j, ((conform_Compare x t).2 == 0 && (conform_Compare x t).1 == 2) = false
  | [], _ => .inl ⟨rfl, by simp⟩
  | x :: xs, k => by
    unfold conform_First_L2
    cases hc : ((conform_Compare x t).2 == 0 && (conform_Compare x t).1 == 2)
    · simp only [hc, cond_false]
      rcases firstc_L2 t xs (k + 1) with ⟨h1, h2⟩ | ⟨j, h1, h2, h3, h4⟩
      · refine .inl ⟨h1, fun y hy => ?_⟩
        rcases List.mem_cons.1 hy with rfl | hy
        · exact hc
        · exact h2 y hy
      · refine .inr ⟨j + 1, by rw [h1, show k + 1 + j = k + (j + 1) by omega], by rw [List.length_cons]; omega, by simpa using h3, fun y hy => ?_⟩
        rw [List.take_succ_cons] at hy
        rcases List.mem_cons.1 hy with rfl | hy
        · exact hc
        · exact h4 y hy
    · simp only [hc, cond_true]
      exact .inr ⟨0, rfl, by simp, by simpa using hc, by simp⟩
theorem first_eq (l : List Track) (t : List TubeNode) : ((conform_First l t).1 = 0 ∧ ¬ ((conform_First l t).2 = 0 ∨ (conform_First l t).2 = 8)) ∨ (conform_First l t = (0, 8) ∧ (∀ x ∈ l, ((conform_Compare x t).2 == 0 && (conform_Compare x t).1 == 2) = false)) ∨
    ∃ j : Nat, conform_First l t = ((j : Int), 0) ∧ j < l.length ∧ ((conform_Compare (l[j]?.getD Track.zero) t).2 == 0 && (conform_Compare (l[j]?.getD Track.zero) t).1 == 2) = true ∧ ∀ x ∈ l.take j, ((conform_Compare x t).2 == 0 && (conform_Compare x t).1 == 2) = false := by
  unfold conform_First
  cases decide ((l.length : Int) > 256)
  · simp only [cond_false]
    by_cases hc : tube_Check t = 0
    · have e : (tube_Check t != 0) = false := by simp [hc]
      simp only [e, cond_false]
      rcases firstc_L1 l l 0 with h | ⟨c, h0, h⟩
      · rw [h]
        simp only [Sum.elim_inl]
        rcases firstc_L2 t l 0 with ⟨g1, g2⟩ | ⟨j, g1, g2, g3, g4⟩
        · rw [g1]; exact .inr (.inl ⟨rfl, g2⟩)
        · rw [g1]; exact .inr (.inr ⟨j, by simp, g2, g3, g4⟩)
      · rw [h]
        have hcc : c = 4 ∨ c = 12 := firstc_code l l 0 c h
        refine .inl ⟨rfl, ?_⟩
        show ¬ (c = 0 ∨ c = 8)
        omega
    · have e : (tube_Check t != 0) = true := by simpa using hc
      simp only [e, cond_true]
      refine .inl ⟨trivial, ?_⟩
      have := tube_code t
      show ¬ (tube_Check t = 0 ∨ tube_Check t = 8)
      omega
  · exact .inl ⟨rfl, by show ¬ ((2 : Int) = 0 ∨ (2 : Int) = 8); decide⟩
theorem first_in {l : List Track} {t : List TubeNode} {r : Int × Int} (hr : conform_First l t = r) (h : (r.2 == 0) = true) : 0 ≤ r.1 ∧ r.1 < (l.length : Int) := by
  have h' : r.2 = 0 := by simpa using h
  rcases first_eq l t with ⟨_, g⟩ | ⟨g, _⟩ | ⟨j, g, g2, _⟩
  · rw [hr] at g; exact absurd (.inl h') g
  · rw [hr] at g; rw [g] at h'; cases h'
  · rw [hr] at g; rw [g]; simp only; omega
end Go.Sky
