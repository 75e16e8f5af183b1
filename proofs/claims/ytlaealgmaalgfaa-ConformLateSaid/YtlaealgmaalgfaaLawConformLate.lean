/- The law ConformLate in plain Lean. Conditions: the arguments are 64-bit integers. -/
import Derived.Test.YtlaealgmaalgfaaLawConformSound
import Derived.Test.YtlaealgmaalgfaaWm
namespace Go.Sky
open Go Go.Eng Go.Glue

/-- A track of the tube, some seconds off. -/
def off (x : Track) (d : Int) : Track := ⟨x.ID, x.State, w64 (x.Time - d), x.At, x.Speed, x.Height, x.Rate, x.Radius, x.Code, x.Hits, x.Misses⟩
def fits (x : Track) (l : List TubeNode) (d : Int) : Bool := ((conform_Compare (off x d) l).2 == 0) && (decide ((conform_Compare (off x d) l).1 < 2))

theorem late_L2 (x : Track) (l : List TubeNode) (k : Nat) : conform_Late_L2 x l k ((2 : Int).toNat) 0 = (if fits x l (k : Int) = true then .inr ((k : Int), 0) else if fits x l (w64 (0 - (k : Int))) = true then .inr (w64 (0 - (k : Int)), 0) else .inl ()) := by
  show (cond (fits x l (k : Int)) (Sum.inr ((k : Int), 0)) (cond (fits x l (w64 (0 - (k : Int)))) (Sum.inr (w64 (0 - (k : Int)), 0)) (Sum.inl ())) : Unit ⊕ (Int × Int)) = _
  rw [ite_of_cond, ite_of_cond]
theorem late_L1 (x : Track) (l : List TubeNode) (K : Nat) (hf : fits x l (K : Int) = true ∨ fits x l (-(K : Int)) = true) (hK : K ≤ 600) : ∀ (m k : Nat), k ≤ K → K < m + k → m + k ≤ 601 →
    ∃ r : Int, conform_Late_L1 x l m k = .inr (r, 0) ∧ -(K : Int) ≤ r ∧ r ≤ (K : Int)
  | 0, k, h1, h2, _ => by omega
  | m + 1, k, h1, h2, h3 => by
    unfold conform_Late_L1
    rw [late_L2, w64_id (x := 0 - (k : Int)) (by omega), show 0 - (k : Int) = -(k : Int) by omega]
    by_cases c1 : fits x l (k : Int) = true
    · rw [if_pos c1]; exact ⟨k, rfl, by omega, by omega⟩
    · rw [if_neg c1]
      by_cases c2 : fits x l (-(k : Int)) = true
      · rw [if_pos c2]; exact ⟨-(k : Int), rfl, by omega, by omega⟩
      · rw [if_neg c2]
        have hne : k ≠ K := by rintro rfl; exact hf.elim c1 c2
        exact late_L1 x l K hf hK m (k + 1) (by omega) (by omega) (by omega)

theorem ConformLate_true (x0 : List TubeNode) (x1 x2 : Int) (_s0 : x0.length < 4611686018427387904) (_k0 : ∀ a ∈ x0, a.ok) (_k1 : I64 x1) (_k2 : I64 x2) : skywaykeep2_ConformLate x0 x1 x2 = true := by
  unfold skywaykeep2_ConformLate
  have e1 : conform_Late (⟨0, 0, 50, ⟨8000, 0⟩, ⟨0, 0⟩, 5000, 0, 0, 0, 0, 0⟩ : Track) (skywaykeep2_line 10 300) = (10, 0) := by kernel_rfl
  have z1 : ((((0 : Int) != 0) || (decide ((10 : Int) < 9))) || (decide ((10 : Int) > 11))) = false := rfl
  simp only [e1, z1, cond_false]
  by_cases c1 : tube_Check x0 = 0
  · have e2 : (tube_Check x0 != 0) = false := by simp [c1]
    simp only [e2, cond_false]
    have hk := tube_ok c1
    have h0 := (hk.2.1 0 (by have := hk.1.1; omega)).1
    have h1 := (hk.2.1 (x0.length - 1) (by have := hk.1.1; omega)).1
    have hm : (nd x0 0).Node.Time ≤ (nd x0 (x0.length - 1)).Node.Time := by
      by_cases e : x0.length - 1 = 0
      · rw [e]; exact Int.le_refl _
      · exact Int.le_of_lt (tube_mono hk (by omega) (by have := hk.1.1; omega))
    obtain ⟨la, hla⟩ : ∃ n, n = skywaykeep2_within x1 (-40) 40 := ⟨_, rfl⟩
    have hb := within_in hla.symm (by omega) (by omega) (by omega)
    obtain ⟨ta, hta⟩ : ∃ n, n = skywaykeep2_within x2 (((x0[0]?.getD TubeNode.zero).Node).Time) (((x0[(x0.length - 1)]?.getD TubeNode.zero).Node).Time) := ⟨_, rfl⟩
    have hc := within_in hta.symm hm (by unfold nd at h0; omega) (by unfold nd at h1; omega)
    rw [← hla, ← hta]
    have hti : TimeIn x0 ta := hc
    have g0 := tube_At_ok c1 hti
    obtain ⟨_, _, nin, ntime, _⟩ := tube_At_in g0
    unfold TimeIn at hti
    have e3 : ((tube_At x0 ta).2 != 0) = false := by simp [g0]
    rw [w64_id (x := ta + la) (by omega)]
    by_cases c2 : 0 ≤ ta + la ∧ ta + la ≤ 200000
    · have e4 : ((((tube_At x0 ta).2 != 0) || (decide (ta + la < 0))) || (decide (ta + la > 200000))) = false := by rw [e3]; simp; omega
      simp only [e4, cond_false]
      obtain ⟨n, hn⟩ : ∃ n, n = (tube_At x0 ta).1 := ⟨_, rfl⟩
      rw [← hn] at nin
      rw [← hn]
      obtain ⟨x, hx⟩ : ∃ x, x = (⟨0, 0, ta + la, n.Node.At, ⟨0, 0⟩, n.Node.Height, 0, 0, 0, 0, 0⟩ : Track) := ⟨_, rfl⟩
      rw [← hx]
      have hper : ∀ y : Int, 0 ≤ y ∧ y ≤ 200000 → conform_permitted (⟨0, 0, y, n.Node.At, ⟨0, 0⟩, n.Node.Height, 0, 0, 0, 0, 0⟩ : Track) = true := by
        intro y hy
        unfold conform_permitted
        rcases checkTrack_eq (⟨0, 0, y, n.Node.At, ⟨0, 0⟩, n.Node.Height, 0, 0, 0, 0, 0⟩ : Track) with ⟨k1, _⟩ | ⟨_, k2⟩
        · simp only [k1]; rfl
        · exact absurd ⟨hy, nin.2.1, nin.2.2.1, show (-1 : Int) ≤ 0 ∧ (0 : Int) ≤ 4095 by decide, show (0 : Int) ≤ 0 ∧ (0 : Int) ≤ 4000000 by decide⟩ k2
      have hfit : fits x x0 la = true := by
        have hoff : off x la = (⟨0, 0, ta, n.Node.At, ⟨0, 0⟩, n.Node.Height, 0, 0, 0, 0, 0⟩ : Track) := by
          rw [hx]; unfold off
          simp only
          rw [show ta + la - la = ta by omega, w64_id (by omega)]
        have hcmp : conform_Compare (off x la) x0 = (conform_compare (off x la) n, 0) := by
          rw [hoff]
          unfold conform_Compare conform_node
          rw [hper ta (by omega)]
          simp only [Bool.not_true, cond_false, e3, ← hn]
        have b2 := nin.2.2.2.1
        have b3 := nin.2.2.2.2
        unfold fits
        rw [hcmp]
        have hv : conform_compare (off x la) n < 2 := by
          rw [hoff, compare_val nin nin.2.1 nin.2.2.1 (show (0 : Int) ≤ 0 ∧ (0 : Int) ≤ 4000000 by decide)]
          simp only [Int.sub_self]
          rw [if_pos ⟨by have := Int.mul_nonneg b2.1 b2.1; simpa using this, by omega, by omega⟩]
          split <;> decide
        simp only [decide_eq_true hv]; rfl
      have hlate : ∃ r : Int, conform_Late x x0 = (r, 0) ∧ -(la.natAbs : Int) ≤ r ∧ r ≤ (la.natAbs : Int) := by
        obtain ⟨r, k1, k2, k3⟩ := late_L1 x x0 la.natAbs (by
          rcases Int.le_total 0 la with hl | hl
          · left; rw [show ((la.natAbs : Nat) : Int) = la by omega]; exact hfit
          · right; rw [show -((la.natAbs : Nat) : Int) = la by omega]; exact hfit) (by omega) ((601 : Int).toNat) 0 (Nat.zero_le _) (by show _ < 601 + 0; omega) (by decide)
        refine ⟨r, ?_, k2, k3⟩
        unfold conform_Late
        rw [hx] at k1 ⊢
        rw [hper (ta + la) c2, k1]
        simp only [Bool.not_true, cond_false, e2, Sum.elim_inr]
      obtain ⟨r, k1, k2, k3⟩ := hlate
      rw [k1]
      simp only
      rw [w64_id (x := 0 - r) (by omega), w64_id (x := 0 - la) (by omega)]
      have m1 := imax_ge r (0 - r)
      have m2 := imax_ge la (0 - la)
      have : decide (imax r (0 - r) ≤ imax la (0 - la)) = true := by rw [decide_eq_true_eq]; omega
      rw [this]; rfl
    · have e4 : ((((tube_At x0 ta).2 != 0) || (decide (ta + la < 0))) || (decide (ta + la > 200000))) = true := by rw [e3]; simp; omega
      simp only [e4, cond_true]
  · have e2 : (tube_Check x0 != 0) = true := by simpa using c1
    simp only [e2, cond_true]
end Go.Sky
