/- Orders by several numbers, one after the other. Conditions: in each theorem. -/
import Derived.Test.YtfjchccilkgcnaaSa
import Derived.Test.YtfjchccilkgcnaaSorting
namespace Go.Srt
open Go Go.Eng Go.Sky

def lx : List Int → List Int → Bool
  | x :: xs, y :: ys => decide (x < y) || (decide (x = y) && lx xs ys)
  | _, _ => false
theorem lx_asym : ∀ xs ys : List Int, lx xs ys = true → lx ys xs = false
  | [], ys, h => by cases ys <;> cases h
  | x :: xs, [], h => by cases h
  | x :: xs, y :: ys, h => by
    simp only [lx, Bool.or_eq_true, Bool.and_eq_true, decide_eq_true_eq] at h
    simp only [lx, Bool.or_eq_false_iff, Bool.and_eq_false_iff, decide_eq_false_iff_not]
    rcases h with h | ⟨h1, h2⟩
    · exact ⟨by omega, .inl (by omega)⟩
    · exact ⟨by omega, .inr (lx_asym xs ys h2)⟩
theorem lx_ntr : ∀ xs ys zs : List Int, xs.length = ys.length → ys.length = zs.length → lx xs ys = false → lx ys zs = false → lx xs zs = false
  | [], _, zs, _, _, _, _ => by cases zs <;> rfl
  | x :: xs, [], zs, h, _, _, _ => by cases h
  | x :: xs, y :: ys, [], _, h, _, _ => by cases h
  | x :: xs, y :: ys, w :: zs, h1, h2, h3, h4 => by
    simp only [lx, Bool.or_eq_false_iff, Bool.and_eq_false_iff, decide_eq_false_iff_not] at h3 h4 ⊢
    refine ⟨by omega, ?_⟩
    by_cases e : x = w
    · have e1 : x = y := by omega
      have e2 : y = w := by omega
      exact .inr (lx_ntr xs ys zs (by simpa using h1) (by simpa using h2) (h3.2.resolve_left (fun q => q e1)) (h4.2.resolve_left (fun q => q e2)))
    · exact .inl e
theorem lx_tri : ∀ xs ys : List Int, xs.length = ys.length → lx xs ys = false → lx ys xs = false → xs = ys
  | [], [], _, _, _ => rfl
  | [], y :: ys, h, _, _ => by cases h
  | x :: xs, [], h, _, _ => by cases h
  | x :: xs, y :: ys, h1, h2, h3 => by
    simp only [lx, Bool.or_eq_false_iff, Bool.and_eq_false_iff, decide_eq_false_iff_not] at h2 h3
    have e : x = y := by omega
    rw [e, lx_tri xs ys (by simpa using h1) (h2.2.resolve_left (fun q => q e)) (h3.2.resolve_left (fun q => q e.symm))]

theorem compare_int (x y : Int) : cmp_Compare_int x y = if x < y then -1 else if x > y then 1 else 0 := by
  unfold cmp_Compare_int cmp_isNaN_int
  simp only [bne_self_eq_false, cond_false]
  by_cases h : x < y
  · rw [decide_eq_true h, cond_true, if_pos h]
  · rw [decide_eq_false h, cond_false, if_neg h]
    by_cases h2 : x > y
    · rw [decide_eq_true h2, cond_true, if_pos h2]
    · rw [decide_eq_false h2, cond_false, if_neg h2]
theorem or_lx : ∀ (xs ys : List Int) (k : Nat), xs.length = ys.length → decide (Sum.elim (fun _ => (0 : Int)) (fun r => r) (cmp_Or_int_L1 (List.zipWith cmp_Compare_int xs ys) k) < 0) = lx xs ys
  | [], [], k, _ => rfl
  | [], y :: ys, k, h => by cases h
  | x :: xs, [], k, h => by cases h
  | x :: xs, y :: ys, k, h => by
    have ih := or_lx xs ys (k + 1) (by simpa using h)
    rw [List.zipWith_cons_cons]
    unfold cmp_Or_int_L1 lx
    rw [compare_int]
    by_cases h1 : x < y
    · rw [if_pos h1, decide_eq_true h1]; rfl
    · rw [if_neg h1, decide_eq_false h1, Bool.false_or]
      by_cases h2 : x > y
      · rw [if_pos h2, decide_eq_false (by omega : ¬ x = y)]; rfl
      · rw [if_neg h2, decide_eq_true (by omega : x = y), Bool.true_and]; exact ih
end Go.Srt
