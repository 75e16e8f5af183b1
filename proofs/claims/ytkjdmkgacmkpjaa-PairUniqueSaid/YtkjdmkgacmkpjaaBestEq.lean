/- Best's result, from what the check grants. Conditions: in each theorem. -/
import Derived.Test.YtkjdmkgacmkpjaaBest
namespace Go.Sky
open Go Go.Eng

theorem total_good {costs : List (List Int)} {miss : Int} (h : assign_Check costs miss = 0) : assign_Total costs miss = (assign_least costs miss 0 (List.replicate (costs[0]?.getD []).length false), 0) := by
  unfold assign_Total
  simp only [h]
  rw [show ((0 : Int) != 0) = false from rfl, cond_false, width_eq, Int.toNat_natCast]
theorem total_bad {costs : List (List Int)} {miss : Int} (h : assign_Check costs miss ≠ 0) : assign_Total costs miss = (0, assign_Check costs miss) := by
  unfold assign_Total
  simp only
  rw [show (assign_Check costs miss != 0) = true by simpa using h, cond_true]
theorem best_good {costs : List (List Int)} {miss : Int} (h : assign_Check costs miss = 0) : ∃ to, assign_Best costs miss = (to, assign_least costs miss 0 (List.replicate (costs[0]?.getD []).length false), 0) ∧
    Pays miss costs (List.replicate (costs[0]?.getD []).length false) to (assign_least costs miss 0 (List.replicate (costs[0]?.getD []).length false)) := by
  have g := chk_good h
  obtain ⟨to, tk, e, p⟩ := best_run g costs 0 (assign_least costs miss 0 (List.replicate (costs[0]?.getD []).length false)) [] (List.replicate (costs[0]?.getD []).length false) List.drop_zero List.length_replicate rfl
  refine ⟨to, ?_, p⟩
  have et : assign_Total costs miss = (assign_least costs miss 0 (List.replicate (costs[0]?.getD []).length false), 0) := total_good h
  unfold assign_Best
  rw [et]
  simp only
  rw [show ((0 : Int) != 0) = false from rfl, cond_false, width_eq, Int.toNat_natCast]
  unfold bindv
  rw [e]
  rfl
theorem best_bad {costs : List (List Int)} {miss : Int} (h : assign_Check costs miss ≠ 0) : assign_Best costs miss = ([], 0, assign_Check costs miss) := by
  unfold assign_Best
  rw [total_bad h]
  simp only
  rw [show (assign_Check costs miss != 0) = true by simpa using h, cond_true]
theorem best_check {costs : List (List Int)} {miss : Int} (h : (assign_Best costs miss).2.2 = 0) : assign_Check costs miss = 0 := by
  by_cases hc : assign_Check costs miss = 0
  · exact hc
  · rw [best_bad hc] at h; exact absurd h hc
theorem best_len {costs : List (List Int)} {miss : Int} {r : List Int × Int × Int} (hr : assign_Best costs miss = r) (h : (r.2.2 == 0) = true) : r.1.length = costs.length := by
  subst hr
  obtain ⟨to, e, p⟩ := best_good (best_check (by simpa using h))
  rw [e]; exact p.len
theorem least_at0 {costs : List (List Int)} {miss : Int} (h : assign_Check costs miss = 0) : Val miss costs (List.replicate (costs[0]?.getD []).length false) (assign_least costs miss 0 (List.replicate (costs[0]?.getD []).length false)) ∧
    (∀ t, Val miss costs (List.replicate (costs[0]?.getD []).length false) t → assign_least costs miss 0 (List.replicate (costs[0]?.getD []).length false) ≤ t) ∧ 0 ≤ assign_least costs miss 0 (List.replicate (costs[0]?.getD []).length false) ∧ assign_least costs miss 0 (List.replicate (costs[0]?.getD []).length false) ≤ 35184372088832 :=
  least_at (chk_good h) 0 List.length_replicate
theorem know_ok {costs : List (List Int)} {miss r1 : Int} (h1 : assign_Check costs miss = r1) (h : (r1 != 0) = false) : Good costs (costs[0]?.getD []).length miss := by
  subst h1; exact chk_good (by simpa using h)
theorem know_w {costs : List (List Int)} {r2 : Int} (h : assign_width costs = r2) : r2 = ((costs[0]?.getD []).length : Int) := by rw [← h, width_eq]
theorem know_t {costs : List (List Int)} {miss : Int} {r1 : Int × Int} (h1 : assign_Total costs miss = r1) (h : (r1.2 != 0) = false) : Good costs (costs[0]?.getD []).length miss := by
  subst h1
  by_cases hc : assign_Check costs miss = 0
  · exact chk_good hc
  · rw [total_bad hc] at h; exact absurd h (by simpa using hc)
theorem know_row {costs : List (List Int)} {cols : Nat} {miss : Int} (g : Good costs cols miss) {i : Nat} (hi : i < costs.length) : ((costs[i]?.getD []).length : Int) = cols := by
  have := g.len _ (rw_mem hi); unfold rw_ at this; omega
theorem know_at {costs : List (List Int)} {cols : Nat} {miss : Int} (g : Good costs cols miss) {i : Nat} {x : List Int} (hx : costs[i]? = some x) : x.length = cols := g.len x (List.mem_of_getElem? hx)
theorem know_b {costs : List (List Int)} {miss : Int} {r : List Int × Int × Int} (hr : assign_Best costs miss = r) (h : (r.2.2 == 0) = true) : Good costs (costs[0]?.getD []).length miss := by
  subst hr; exact chk_good (best_check (by simpa using h))
end Go.Sky
