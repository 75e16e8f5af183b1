/- The law ClimbThrough in plain Lean. Conditions: the arguments are 64-bit integers. -/
import Derived.Test.YtbhemgagabdjkaaWf
import Derived.Test.YtbhemgagabdjkaaClimb
import Derived.Test.YtbhemgagabdjkaaOk
namespace Go.Sky
open Go Go.Eng Go.Glue

/-- What is looked for at a time. -/
def thru (l : List ClimbReport) (level t : Int) : Bool :=
  (climb_Heights l t).2.2 == 0 &&
    ((decide (level ≥ ((l[(l.length - 1)]?.getD ClimbReport.zero).Level)) && decide ((climb_Heights l t).2.1 ≥ w64 (100 * level))) ||
      (!decide (level ≥ ((l[(l.length - 1)]?.getD ClimbReport.zero).Level)) && decide ((climb_Heights l t).1 < w64 (w64 (100 * level) + 100))))

theorem through_L1 (l : List ClimbReport) (level a : Int) : ∀ m k : Nat,
    (climb_Through_L1 l level a m k = .inl () ∧ ∀ j, k ≤ j → j < k + m → thru l level (a + (j : Int)) = false) ∨
      ∃ j, k ≤ j ∧ j < k + m ∧ climb_Through_L1 l level a m k = .inr (a + (j : Int), 0) ∧ ∀ i, k ≤ i → i < j → thru l level (a + (i : Int)) = false
  | 0, k => .inl ⟨rfl, fun j h1 h2 => by omega⟩
  | m + 1, k => by
    have e : climb_Through_L1 l level a (m + 1) k = if thru l level (a + (k : Int)) = true then .inr (a + (k : Int), 0) else climb_Through_L1 l level a m (k + 1) := by
      rw [climb_Through_L1]
      unfold thru
      cases (climb_Heights l (a + (k : Int))).2.2 == 0 <;> cases decide (level ≥ ((l[(l.length - 1)]?.getD ClimbReport.zero).Level)) <;>
        cases decide ((climb_Heights l (a + (k : Int))).2.1 ≥ w64 (100 * level)) <;> cases decide ((climb_Heights l (a + (k : Int))).1 < w64 (w64 (100 * level) + 100)) <;> rfl
    rw [e]
    by_cases h : thru l level (a + (k : Int)) = true
    · right
      rw [if_pos h]
      exact ⟨k, by omega, by omega, rfl, fun i h1 h2 => by omega⟩
    · rw [if_neg h]
      have h0 : thru l level (a + (k : Int)) = false := by simpa using h
      rcases through_L1 l level a m (k + 1) with ⟨i1, i2⟩ | ⟨j, j1, j2, j3, j4⟩
      · left
        refine ⟨i1, fun j h1 h2 => ?_⟩
        rcases Nat.lt_or_ge k j with hj | hj
        · exact i2 j hj (by omega)
        · rw [show j = k by omega]; exact h0
      · right
        refine ⟨j, by omega, by omega, j3, fun i h1 h2 => ?_⟩
        rcases Nat.lt_or_ge k i with hi | hi
        · exact j4 i hi h2
        · rw [show i = k by omega]; exact h0

theorem law_L1 (l : List ClimbReport) (level a : Int) : ∀ m k : Nat, (∀ j, k ≤ j → j < k + m → thru l level (a + (j : Int)) = false) → skywaykeep2_ClimbThrough_L1 l level a m k = .inl ()
  | 0, _, _ => rfl
  | m + 1, k, h => by
    have e : skywaykeep2_ClimbThrough_L1 l level a (m + 1) k = if thru l level (a + (k : Int)) = true then .inr false else skywaykeep2_ClimbThrough_L1 l level a m (k + 1) := by
      rw [skywaykeep2_ClimbThrough_L1]
      unfold thru
      cases (climb_Heights l (a + (k : Int))).2.2 == 0 <;> cases decide (level ≥ ((l[(l.length - 1)]?.getD ClimbReport.zero).Level)) <;>
        cases decide ((climb_Heights l (a + (k : Int))).2.1 ≥ w64 (100 * level)) <;> cases decide ((climb_Heights l (a + (k : Int))).1 < w64 (w64 (100 * level) + 100)) <;> rfl
    rw [e, if_neg (by rw [h k (by omega) (by omega)]; decide)]
    exact law_L1 l level a m (k + 1) fun j h1 h2 => h j (by omega) (by omega)
theorem law_L2 (l : List ClimbReport) (level a : Int) : ∀ m k : Nat, (∀ j, k ≤ j → j < k + m → thru l level (a + (j : Int)) = false) → skywaykeep2_ClimbThrough_L2 l level a m k = .inl ()
  | 0, _, _ => rfl
  | m + 1, k, h => by
    have e : skywaykeep2_ClimbThrough_L2 l level a (m + 1) k = if thru l level (a + (k : Int)) = true then .inr false else skywaykeep2_ClimbThrough_L2 l level a m (k + 1) := by
      rw [skywaykeep2_ClimbThrough_L2]
      unfold thru
      cases (climb_Heights l (a + (k : Int))).2.2 == 0 <;> cases decide (level ≥ ((l[(l.length - 1)]?.getD ClimbReport.zero).Level)) <;>
        cases decide ((climb_Heights l (a + (k : Int))).2.1 ≥ w64 (100 * level)) <;> cases decide ((climb_Heights l (a + (k : Int))).1 < w64 (w64 (100 * level) + 100)) <;> rfl
    rw [e, if_neg (by rw [h k (by omega) (by omega)]; decide)]
    exact law_L2 l level a m (k + 1) fun j h1 h2 => h j (by omega) (by omega)

/-- What Through returns: an error and 0, or the search's outcome. -/
theorem through_eq (l : List ClimbReport) (level a w : Int) : (climb_Through l level a w).1 = 0 ∧ ((climb_Through l level a w).2 ≠ 0 ∧ (climb_Through l level a w).2 ≠ 8 ∨ l.length = 0) ∨
    (0 ≤ a ∧ a ≤ 200000) ∧ climb_Through l level a w = Sum.elim (fun _ => (0, 8)) (fun r => r) (climb_Through_L1 l level a ((imin (w64 (a + w)) 200000 - a + 1).toNat) 0) := by
  unfold climb_Through
  cases he : (climb_Check l != 0) with
  | true =>
    left
    have h8 : climb_Check l ≠ 8 := by
      unfold climb_Check
      simp only [ite_of_cond]
      split
      · decide
      · rcases check_form l l 0 with e | e | e <;> rw [e] <;> decide
    simp only [he, cond_true]
    exact ⟨trivial, .inl ⟨by simpa using he, h8⟩⟩
  | false =>
    cases hc : ((((((decide (level < 0)) || (decide (level > 600))) || (decide (a < 0))) || (decide (a > 200000))) || (decide (w < 0))) || (decide (w > 600))) with
    | true =>
      left
      simp only [he, cond_true, cond_false]
      exact ⟨trivial, .inl (by decide)⟩
    | false =>
      have q := or_f1 (or_f1 hc)
      have q1 := dec_f (or_f2 (or_f1 q))
      have q2 := dec_f (or_f2 q)
      cases hl : ((l.length : Int) == 0) with
      | true =>
        left
        simp only [he, cond_true, cond_false]
        exact ⟨trivial, .inr (by have := beq_t hl; omega)⟩
      | false =>
        right
        simp only [he, cond_false]
        exact ⟨by omega, trivial⟩

theorem ClimbThrough_true (x0 : List ClimbReport) (x1 x2 x3 : Int) (_s0 : x0.length < 4611686018427387904) (_k0 : ∀ a ∈ x0, a.ok) (_k1 : I64 x1) (_k2 : I64 x2) (_k3 : I64 x3) : skywaykeep2_ClimbThrough x0 x1 x2 x3 = true := by
  unfold skywaykeep2_ClimbThrough
  have e0 : ((climb_Through [⟨0, 10⟩, ⟨100, 20⟩] 30 100 600).2 != 0 || decide ((climb_Through [⟨0, 10⟩, ⟨100, 20⟩] 30 100 600).1 ≤ 100)) = false := by kernel_rfl
  simp only [e0, cond_false]
  obtain ⟨w, hw⟩ : ∃ w, w = skywaykeep2_within x3 0 100 := ⟨_, rfl⟩
  have hb := within_in hw.symm (by omega) (by omega) (by omega)
  rw [← hw]
  rcases through_eq x0 x1 x2 w with ⟨h1, h2⟩ | ⟨h1, h2⟩
  · have e1 : (((climb_Through x0 x1 x2 w).2 != 0 && (climb_Through x0 x1 x2 w).2 != 8) || ((x0.length : Int) == 0)) = true := by
      rcases h2 with ⟨h2, h3⟩ | h2
      · simp [h2, h3]
      · simp [h2]
    rw [e1, cond_true, h1]
    rfl
  · rcases through_L1 x0 x1 x2 ((imin (w64 (x2 + w)) 200000 - x2 + 1).toNat) 0 with ⟨i1, i2⟩ | ⟨j, j1, j2, j3, j4⟩
    · rw [i1] at h2
      rw [h2]
      simp only [Sum.elim_inl]
      rw [law_L2 x0 x1 x2 _ 0 i2]
      cases (x0.length : Int) == 0 <;> rfl
    · rw [j3] at h2
      rw [h2]
      simp only [Sum.elim_inr]
      have hj : (j : Int) < imin (w64 (x2 + w)) 200000 - x2 + 1 := by omega
      have hr := imin_r (w64 (x2 + w)) 200000
      rw [w64_id (x := x2 + (j : Int) - 1) (by omega)]
      have e3 : (imin (x2 + (j : Int) - 1) 200000 - x2 + 1).toNat = j := by
        have : imin (x2 + (j : Int) - 1) 200000 = x2 + (j : Int) - 1 := by unfold imin; split <;> omega
        rw [this]; omega
      rw [e3, law_L1 x0 x1 x2 j 0 fun i h1 h2 => j4 i h1 (by omega)]
      cases hl : ((x0.length : Int) == 0) with
      | false => rfl
      | true =>
        exfalso
        have : x0 = [] := List.eq_nil_of_length_eq_zero (by have := beq_t hl; omega)
        subst this
        have h3 : climb_Through [] x1 x2 w = (0, 8) ∨ climb_Through [] x1 x2 w = (0, 4) := by
          unfold climb_Through
          simp only [ite_of_cond]
          split
          · rename_i hh; exact absurd hh (by decide)
          · split
            · exact .inr rfl
            · exact .inl rfl
        rcases h3 with h3 | h3 <;> rw [h3] at h2 <;> simp at h2
end Go.Sky
