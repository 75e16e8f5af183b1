/- The law ConformFirst in plain Lean. Conditions: the arguments are 64-bit integers. -/
import Derived.Test.YtlaealgmaalgfaaWl
import Derived.Test.YtlaealgmaalgfaaFirst
import Derived.Test.YtlaealgmaalgfaaOk
namespace Go.Sky
open Go Go.Eng Go.Glue

theorem index_first (t : List TubeNode) : ∀ (xs : List Track) (k : Nat), (∀ x ∈ xs, ((conform_Compare x t).2 == 0 && (conform_Compare x t).1 == 2) = false) → IndexFunc_first_L1 t xs k = .inl ()
  | [], _, _ => rfl
  | x :: xs, k, h => by
    have hx := h x (List.mem_cons_self ..)
    show cond ((conform_Compare x t).2 == 0 && (conform_Compare x t).1 == 2) (.inr (k : Int)) (IndexFunc_first_L1 t xs (k + 1)) = _
    rw [hx]
    exact index_first t xs (k + 1) (fun y hy => h y (List.mem_cons_of_mem _ hy))
theorem contains_first {t : List TubeNode} {xs : List Track} (h : ∀ x ∈ xs, ((conform_Compare x t).2 == 0 && (conform_Compare x t).1 == 2) = false) : ContainsFunc_first xs t = false := by
  unfold ContainsFunc_first IndexFunc_first
  rw [index_first t xs 0 h]
  rfl

theorem ConformFirst_true (x0 : List Track) (x1 : List TubeNode) (_s0 : x0.length < 4611686018427387904) (_k0 : ∀ a ∈ x0, a.ok) (_s1 : x1.length < 4611686018427387904) (_k1 : ∀ a ∈ x1, a.ok) : skywaykeep2_ConformFirst x0 x1 = true := by
  unfold skywaykeep2_ConformFirst
  have e1 : conform_First ([(⟨0, 0, 50, ⟨10000, 0⟩, ⟨0, 0⟩, 5000, 0, 0, 0, 0, 0⟩ : Track), (⟨0, 0, 60, ⟨0, 90000⟩, ⟨0, 0⟩, 5000, 0, 0, 0, 0, 0⟩ : Track)]) (skywaykeep2_line 100 300) = (1, 0) := by kernel_rfl
  have z1 : (((0 : Int) != 0) || ((1 : Int) != 1)) = false := rfl
  simp only [e1, z1, cond_false]
  rcases first_eq x0 x1 with ⟨h1, h2⟩ | ⟨h1, h2⟩ | ⟨j, h1, h2, h3, h4⟩
  · have e2 : (((conform_First x0 x1).2 != 0) && ((conform_First x0 x1).2 != 8)) = true := by simp; omega
    simp only [e2, cond_true, h1]; rfl
  · rw [h1]
    have e2 : (((8 : Int) != 0) && ((8 : Int) != 8)) = false := rfl
    have e3 : ((8 : Int) == 0) = false := rfl
    have e4 : x0.take ((x0.length : Int)).toNat = x0 := List.take_of_length_le (by omega)
    simp only [e2, e3, cond_false, e4, contains_first h2]
    rfl
  · rw [h1]
    have e2 : (((0 : Int) != 0) && ((0 : Int) != 8)) = false := rfl
    have e3 : ((0 : Int) == 0) = true := rfl
    have e4 : ((j : Int)).toNat = j := by omega
    simp only [e2, e3, cond_false, cond_true, e4, contains_first h4]
    simp only [Bool.and_eq_true, beq_iff_eq] at h3
    rw [h3.1, h3.2]
    rfl
end Go.Sky
