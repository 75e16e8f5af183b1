/- Division and remainder in plain Lean. Conditions: in each lemma. -/
import Derived.Test.YtakjcphknccdnaaDoorPlan
namespace Go.Sky
open Go Go.Eng

theorem ite_of_cond {α : Type} (c : Bool) (x y : α) : cond c x y = if c = true then x else y := by cases c <;> rfl
theorem tmod_pos {a : Int} (b : Int) (h : 0 ≤ a) : a.tmod b = a % b := Int.tmod_eq_emod_of_nonneg h
theorem tmod_neg {a : Int} (b : Int) (h : a ≤ 0) : a.tmod b = -((-a) % b) := by
  have e : a.tmod b = -((-a).tmod b) := by rw [Int.neg_tmod, Int.neg_neg]
  rw [e, tmod_pos b (by omega)]
theorem tdiv_pos {a : Int} (b : Int) (h : 0 ≤ a) : a.tdiv b = a / b := Int.tdiv_eq_ediv_of_nonneg h
theorem tdiv_neg {a : Int} (b : Int) (h : a ≤ 0) : a.tdiv b = -((-a) / b) := by
  have e : a.tdiv b = -((-a).tdiv b) := by rw [Int.neg_tdiv, Int.neg_neg]
  rw [e, tdiv_pos b (by omega)]

theorem quot_le {a b : Int} (ha : 0 ≤ a) (hb : 0 < b) : 0 ≤ a / b ∧ a / b ≤ a :=
  ⟨Int.ediv_nonneg ha (by omega), Int.ediv_le_self b ha⟩

end Go.Sky
