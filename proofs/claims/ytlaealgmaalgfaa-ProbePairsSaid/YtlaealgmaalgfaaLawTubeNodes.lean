/- The law TubeNodes in plain Lean. Conditions: the arguments are 64-bit integers. -/
import Derived.Test.YtlaealgmaalgfaaWk
import Derived.Test.YtlaealgmaalgfaaNode
namespace Go.Sky
open Go Go.Eng Go.Glue

/-- The reference's node at a time. -/
theorem ref_L1 {l : List TubeNode} (h : TubeOk l) {t : Int} {R : Nat} (hR : 1 ≤ R ∧ R < l.length) (h1 : (nd l (R - 1)).Node.Time ≤ t ∧ t ≤ (nd l R).Node.Time) (h2 : ∀ j : Nat, R < j → j < l.length → t < (nd l (j - 1)).Node.Time) : ∀ (m k : Nat), m + k = l.length - 1 → R + k ≤ l.length - 1 →
    skywayref1_Node_L1 l t m k = .inr (between (nd l (R - 1)) (nd l R) t)
  | 0, k, hm, hk => by omega
  | m + 1, k, hm, hk => by
    obtain ⟨j, hj⟩ : ∃ j : Nat, (((l.length : Int) - 1) - ((k : Nat) : Int)).toNat = j + 1 := ⟨l.length - 1 - k - 1, by omega⟩
    have hl := h.1
    have hj2 : (w64 ((((l.length : Int) - 1) - ((k : Nat) : Int)) - 1)).toNat = j := by rw [w64_id (by omega)]; omega
    have ia := h.2.1 j (by omega)
    have ib := h.2.1 (j + 1) (by omega)
    have hs := h.2.2 j (by omega)
    unfold skywayref1_Node_L1
    simp only [hj, hj2]
    by_cases hjr : j + 1 = R
    · have hc : ((decide (t > (nd l (j + 1)).Node.Time)) || (decide (t < (nd l j).Node.Time))) = false := by
        rw [hjr, show j = R - 1 by omega]; simp; omega
      unfold nd at hc
      simp only [hc, cond_false]
      congr 1
      rw [show R - 1 = j by omega, ← hjr]
      have ht : (nd l j).Node.Time ≤ t ∧ t ≤ (nd l (j + 1)).Node.Time := by rw [hjr, show j = R - 1 by omega]; exact h1
      change (⟨⟨t, ⟨skywayref1_Mix (nd l j).Node.At.X (nd l (j + 1)).Node.At.X (w64 (t - (nd l j).Node.Time)) (w64 ((nd l (j + 1)).Node.Time - (nd l j).Node.Time)), skywayref1_Mix (nd l j).Node.At.Y (nd l (j + 1)).Node.At.Y (w64 (t - (nd l j).Node.Time)) (w64 ((nd l (j + 1)).Node.Time - (nd l j).Node.Time))⟩,
        skywayref1_Mix (nd l j).Node.Height (nd l (j + 1)).Node.Height (w64 (t - (nd l j).Node.Time)) (w64 ((nd l (j + 1)).Node.Time - (nd l j).Node.Time))⟩, skywayref1_MixUp (nd l j).Radius (nd l (j + 1)).Radius (w64 (t - (nd l j).Node.Time)) (w64 ((nd l (j + 1)).Node.Time - (nd l j).Node.Time)),
        skywayref1_MixUp (nd l j).Band (nd l (j + 1)).Band (w64 (t - (nd l j).Node.Time)) (w64 ((nd l (j + 1)).Node.Time - (nd l j).Node.Time))⟩ : TubeNode) = between (nd l j) (nd l (j + 1)) t
      revert ia ib hs ht
      generalize nd l j = a
      generalize nd l (j + 1) = b
      intro ia ib hs ht
      obtain ⟨a1, ⟨a2, a3, a4, a5⟩, a6, a7, a8⟩ := ia
      obtain ⟨b1, ⟨b2, b3, b4, b5⟩, b6, b7, b8⟩ := ib
      rw [w64_id (x := t - a.Node.Time) (by omega), w64_id (x := b.Node.Time - a.Node.Time) (by omega), Mix_eq (by omega), Mix_eq (by omega), Mix_eq (by omega), MixUp_eq (by omega), MixUp_eq (by omega)]
      rfl
    · have hlt := h2 (j + 1) (by omega) (by omega)
      rw [show j + 1 - 1 = j by omega] at hlt
      have hc : ((decide (t > (nd l (j + 1)).Node.Time)) || (decide (t < (nd l j).Node.Time))) = true := by simp; omega
      unfold nd at hc
      simp only [hc, cond_true]
      exact ref_L1 h hR h1 h2 m (k + 1) (by omega) (by omega)
/-- The mix at its end is the end. -/
theorem between_end {a b : TubeNode} (h : a.Node.Time < b.Node.Time) : between a b b.Node.Time = b := by
  have e : ∀ x y : Int, x + (y - x) * (b.Node.Time - a.Node.Time) / (b.Node.Time - a.Node.Time) = y := fun x y => by
    rw [Int.mul_ediv_cancel _ (by omega)]; omega
  have e2 : ∀ x y : Int, x + -(-((y - x) * (b.Node.Time - a.Node.Time)) / (b.Node.Time - a.Node.Time)) = y := fun x y => by
    rw [← Int.neg_mul, Int.mul_ediv_cancel _ (by omega)]; omega
  unfold between
  rw [e, e, e, e2, e2]
theorem between_start (a b : TubeNode) : between a b a.Node.Time = a := by
  unfold between
  simp only [Int.sub_self, Int.mul_zero, Int.zero_ediv, Int.neg_zero, Int.add_zero]
/-- The reference finds the same node. -/
theorem ref_eq {l : List TubeNode} {t : Int} (h : TubeOk l) (ht : TimeIn l t) : skywayref1_Node l t = tube_at l t := by
  obtain ⟨R, g1, g2⟩ := tube_at_eq h ht
  have hl := h.1
  have e0 : ((l.length : Int) - 1).toNat = l.length - 1 := by omega
  have key : ∀ J : Nat, 1 ≤ J → J < l.length → ((nd l (J - 1)).Node.Time ≤ t ∧ t ≤ (nd l J).Node.Time) → (∀ j : Nat, J < j → j < l.length → t < (nd l (j - 1)).Node.Time) → skywayref1_Node l t = between (nd l (J - 1)) (nd l J) t := by
    intro J h1 h2 h3 h4
    unfold skywayref1_Node
    rw [e0, ref_L1 h ⟨h1, h2⟩ h3 h4 (l.length - 1) 0 (by omega) (by omega)]
    rfl
  have mono : ∀ i j : Nat, i ≤ j → j < l.length → (nd l i).Node.Time ≤ (nd l j).Node.Time := by
    intro i j hij hj
    by_cases e : i = j
    · rw [e]; exact Int.le_refl _
    · exact Int.le_of_lt (tube_mono h (by omega) hj)
  rcases g2 with ⟨g2, g3⟩ | ⟨g2, g3, g4, g5⟩
  · rw [g3]
    by_cases hR : R + 1 < l.length
    · have hs := h.2.2 R hR
      rw [key (R + 1) (by omega) hR ⟨by rw [show R + 1 - 1 = R by omega]; omega, by omega⟩ (fun j h1 h2 => by
        have := mono (R + 1) (j - 1) (by omega) (by omega); omega), show R + 1 - 1 = R by omega, ← g2]
      exact between_start _ _
    · by_cases h1 : R = 0
      · subst h1
        have e1 : l.length - 1 = 0 := by omega
        unfold skywayref1_Node
        rw [e0, e1]
        rfl
      · have hs := h.2.2 (R - 1) (by omega)
        rw [show R - 1 + 1 = R by omega] at hs
        rw [key R (by omega) g1 ⟨by omega, by omega⟩ (fun j h1 h2 => by omega), ← g2]
        exact between_end hs
  · rw [g5]
    exact key R g2 g1 ⟨by omega, by omega⟩ (fun j h1 h2 => by
      have := mono R (j - 1) (by omega) (by omega); omega)

theorem TubeNodes_true (x0 : List TubeNode) (x1 : Int) (_s0 : x0.length < 4611686018427387904) (_k0 : ∀ a ∈ x0, a.ok) (_k1 : I64 x1) : skywaylaw1_TubeNodes x0 x1 = true := by
  unfold skywaylaw1_TubeNodes
  have e1 : skywaylaw1_tubeWorks = true := by kernel_rfl
  have ez : TubeNode.eqb ⟨⟨0, ⟨0, 0⟩, 0⟩, 0, 0⟩ TubeNode.zero = true := by decide
  simp only [e1, Bool.not_true, cond_false]
  by_cases c1 : tube_Check x0 = 0
  · have e2 : (tube_Check x0 != 0) = false := by simp [c1]
    have hk := tube_ok c1
    simp only [e2, cond_false]
    have z12 : ((12 : Int) == 12) = true := rfl
    cases c2 : decide (x1 < (((x0[0]?.getD TubeNode.zero).Node).Time))
    · simp only [cond_false]
      cases c3 : decide (x1 > (((x0[(x0.length - 1)]?.getD TubeNode.zero).Node).Time))
      · simp only [cond_false]
        have ht : TimeIn x0 x1 := ⟨by have := of_decide_eq_false c2; unfold nd; omega, by have := of_decide_eq_false c3; unfold nd; omega⟩
        have h0 := tube_At_ok c1 ht
        obtain ⟨_, _, _, _, hv⟩ := tube_At_in h0
        have e3 : ((tube_At x0 x1).2 == 0) = true := by simp [h0]
        simp only [e3, cond_true, hv, ref_eq hk ht]
        simp [TubeNode.eqb_eq]
      · have e3 : tube_At x0 x1 = (⟨⟨0, ⟨0, 0⟩, 0⟩, 0, 0⟩, 12) := by
          unfold tube_At tube_ends
          simp only [e2, c2, c3, Bool.false_or, cond_false, cond_true]
        simp only [e3, z12, cond_true, ez]
    · have e3 : tube_At x0 x1 = (⟨⟨0, ⟨0, 0⟩, 0⟩, 0, 0⟩, 12) := by
        unfold tube_At tube_ends
        simp only [e2, c2, Bool.true_or, cond_false, cond_true]
      simp only [e3, z12, cond_true, ez]
  · have e2 : (tube_Check x0 != 0) = true := by simpa using c1
    have e3 : tube_At x0 x1 = (⟨⟨0, ⟨0, 0⟩, 0⟩, 0, 0⟩, tube_Check x0) := by
      unfold tube_At
      simp only [e2, cond_true]
    simp only [e2, cond_true, e3, beq_self_eq_true, ez]
end Go.Sky
