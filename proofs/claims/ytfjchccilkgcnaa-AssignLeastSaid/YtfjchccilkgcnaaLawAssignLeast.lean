/- The law AssignLeast in plain Lean. Conditions: none that are used. -/
import Derived.Test.YtfjchccilkgcnaaWe
namespace Go.Sky
open Go Go.Eng Go.Glue

theorem cost_eq {costs : List (List Int)} {miss : Int} {to : List Int} (hc : assign_Check costs miss = 0) (hl : to.length = costs.length) :
    assign_Cost costs miss to = Sum.elim (fun s => (s.1, 0)) (fun r => r) (assign_Cost_L1 costs miss to 0 0 (List.replicate (costs[0]?.getD []).length false)) := by
  unfold assign_Cost
  simp only [hc]
  rw [show ((0 : Int) != 0) = false from rfl, cond_false, hl, show ((costs.length : Int) != (costs.length : Int)) = false by simp, cond_false, width_eq, Int.toNat_natCast]
theorem cost_ne {costs : List (List Int)} {miss : Int} {to : List Int} (hc : assign_Check costs miss = 0) (hl : to.length ≠ costs.length) : assign_Cost costs miss to = (0, 3) := by
  unfold assign_Cost
  simp only [hc]
  rw [show ((0 : Int) != 0) = false from rfl, cond_false, show ((to.length : Int) != (costs.length : Int)) = true by simp; omega, cond_true]

theorem AssignLeast_true (x0 : List (List Int)) (x1 : Int) (x2 : List Int) (_s0 : x0.length < 4611686018427387904) (_k0 : ∀ r ∈ x0, r.length < 4611686018427387904 ∧ ∀ a ∈ r, I64 a) (_k1 : I64 x1) (_s2 : x2.length < 4611686018427387904) (_k2 : ∀ a ∈ x2, I64 a) : skywaykeep2_AssignLeast x0 x1 x2 = true := by
  unfold skywaykeep2_AssignLeast
  rw [assigns_true]
  simp only [Bool.not_true, cond_false]
  by_cases hc : assign_Check x0 x1 = 0
  · obtain ⟨to, e, p⟩ := best_good hc
    rw [e]
    simp only
    rw [show ((0 : Int) != 0) = false from rfl, cond_false]
    have g := chk_good hc
    have q := least_at0 hc
    generalize hL : assign_least x0 x1 0 (List.replicate (x0[0]?.getD []).length false) = L at *
    obtain ⟨tk, ec⟩ := cost_pays g p 0 0 List.drop_zero List.length_replicate (Int.le_refl _) (by simp)
    have eC : assign_Cost x0 x1 to = (L, 0) := by
      rw [cost_eq hc p.len, ec]
      simp
    rw [eC]
    simp only
    rw [show (((0 : Int) == 0) && (L == L)) = true by simp, cond_true]
    cases h4 : ((assign_Cost x0 x1 x2).2 != 0)
    · rw [cond_false]
      refine decide_eq_true ?_
      have h5 : (assign_Cost x0 x1 x2).2 = 0 := by simpa using h4
      by_cases hl : x2.length = x0.length
      · rw [cost_eq hc hl] at h5 ⊢
        cases h7 : assign_Cost_L1 x0 x1 x2 0 0 (List.replicate (x0[0]?.getD []).length false) with
        | inl y =>
          obtain ⟨s, tk2⟩ := y
          obtain ⟨t, v, es⟩ := cost_val g x2 x0 _ 0 0 s tk2 List.drop_zero hl List.length_replicate (Int.le_refl _) (by simp) h7
          have := q.2.1 t v
          simp only [Sum.elim_inl]
          omega
        | inr y =>
          exfalso
          rw [h7] at h5
          simp only [Sum.elim_inr] at h5
          exact cost_err _ _ _ _ _ h7 h5
      · exfalso
        rw [cost_ne hc hl] at h5
        exact absurd h5 (by decide)
    · rw [cond_true]
  · rw [best_bad hc]
    simp only
    rw [show (assign_Check x0 x1 != 0) = true by simpa using hc, cond_true]
    rfl
end Go.Sky
