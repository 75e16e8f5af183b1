/- The law ConformSound in plain Lean. Conditions: the arguments are 64-bit integers. -/
import Derived.Test.YtlaealgmaalgfaaLawPairFits
namespace Go.Sky
open Go Go.Eng Go.Glue

theorem permitted_in {t : Track} (h : conform_permitted t = true) : (0 ≤ t.Time ∧ t.Time ≤ 200000) ∧ t.At.In ∧ (0 ≤ t.Height ∧ t.Height ≤ 60000) ∧ (0 ≤ t.Radius ∧ t.Radius ≤ 4000000) := by
  unfold conform_permitted at h
  rcases checkTrack_eq (⟨t.ID, t.State, t.Time, t.At, t.Speed, t.Height, t.Rate, t.Radius, 0, t.Hits, t.Misses⟩ : Track) with ⟨h1, h2⟩ | ⟨h1, h2⟩
  · exact ⟨h2.1, h2.2.1, h2.2.2.1, h2.2.2.2.2⟩
  · simp only [h1] at h; cases h
/-- What Compare says of a track. -/
theorem compare_ok {t : Track} {l : List TubeNode} (h : (conform_Compare t l).2 = 0) : conform_permitted t = true ∧ (tube_At l t.Time).2 = 0 ∧ (conform_Compare t l).1 = conform_compare t (tube_At l t.Time).1 := by
  unfold conform_Compare at h ⊢
  cases hp : conform_permitted t
  · have e : conform_node t l = (⟨⟨0, ⟨0, 0⟩, 0⟩, 0, 0⟩, 4) := by unfold conform_node; simp only [hp, Bool.not_false, cond_true]
    simp only [e] at h
    exact absurd h (show ¬ (4 : Int) = 0 by decide)
  · have e : conform_node t l = ((tube_At l t.Time).1, (tube_At l t.Time).2) := by unfold conform_node; simp only [hp, Bool.not_true, cond_false]
    simp only [e] at h ⊢
    by_cases c : (tube_At l t.Time).2 = 0
    · have e2 : ((tube_At l t.Time).2 != 0) = false := by simp [c]
      simp only [e2, cond_false]
      exact ⟨trivial, c, trivial⟩
    · have e2 : ((tube_At l t.Time).2 != 0) = true := by simpa using c
      simp only [e2, cond_true] at h
      exact absurd h c
theorem compare_val {t : Track} {n : TubeNode} (hn : n.In) (hx : t.At.In) (hh : 0 ≤ t.Height ∧ t.Height ≤ 60000) (hR : 0 ≤ t.Radius ∧ t.Radius ≤ 4000000) :
    conform_compare t n = (if ((t.At.X - n.Node.At.X) * (t.At.X - n.Node.At.X) + (t.At.Y - n.Node.At.Y) * (t.At.Y - n.Node.At.Y) ≤ (n.Radius + t.Radius) * (n.Radius + t.Radius)) ∧ (t.Height - n.Node.Height ≤ n.Band + 100 ∧ n.Node.Height - t.Height ≤ n.Band + 100) then
      (if (0 ≤ n.Radius - t.Radius ∧ (t.At.X - n.Node.At.X) * (t.At.X - n.Node.At.X) + (t.At.Y - n.Node.At.Y) * (t.At.Y - n.Node.At.Y) ≤ (n.Radius - t.Radius) * (n.Radius - t.Radius)) ∧ (t.Height - n.Node.Height ≤ n.Band - 100 ∧ n.Node.Height - t.Height ≤ n.Band - 100) then 0 else 1) else 2) := by
  have b1 := hn.2.2.1
  have b2 := hn.2.2.2.1
  have b3 := hn.2.2.2.2
  unfold conform_compare
  rw [w64_id (x := n.Radius + t.Radius) (by omega), within_iff hx hn.2.1 (by omega), w64_id (x := t.Height - n.Node.Height) (by omega), w64_id (x := n.Node.Height - t.Height) (by omega), w64_id (x := n.Band + 100) (by omega), w64_id (x := n.Radius - t.Radius) (by omega), within_iff hx hn.2.1 (by omega), w64_id (x := n.Band - 100) (by omega)]
  have hm := imax_ge (t.Height - n.Node.Height) (n.Node.Height - t.Height)
  simp only [ite_of_cond]
  by_cases c1 : ((t.At.X - n.Node.At.X) * (t.At.X - n.Node.At.X) + (t.At.Y - n.Node.At.Y) * (t.At.Y - n.Node.At.Y) ≤ (n.Radius + t.Radius) * (n.Radius + t.Radius)) ∧ (t.Height - n.Node.Height ≤ n.Band + 100 ∧ n.Node.Height - t.Height ≤ n.Band + 100)
  · rw [if_pos c1, if_neg]
    · by_cases c2 : (0 ≤ n.Radius - t.Radius ∧ (t.At.X - n.Node.At.X) * (t.At.X - n.Node.At.X) + (t.At.Y - n.Node.At.Y) * (t.At.Y - n.Node.At.Y) ≤ (n.Radius - t.Radius) * (n.Radius - t.Radius)) ∧ (t.Height - n.Node.Height ≤ n.Band - 100 ∧ n.Node.Height - t.Height ≤ n.Band - 100)
      · rw [if_pos c2, if_pos]
        simp only [Bool.and_eq_true, decide_eq_true_eq]
        exact ⟨⟨by omega, c2.1.2⟩, by omega⟩
      · rw [if_neg c2, if_neg]
        simp only [Bool.and_eq_true, decide_eq_true_eq]
        rintro ⟨⟨g1, g2⟩, g3⟩
        exact c2 ⟨⟨g1.1, g2⟩, by omega⟩
    · simp only [Bool.or_eq_true, Bool.not_eq_true', decide_eq_false_iff_not, decide_eq_true_eq]
      rintro (g | g)
      · exact g ⟨by omega, c1.1⟩
      · omega
  · rw [if_neg c1, if_pos]
    simp only [Bool.or_eq_true, Bool.not_eq_true', decide_eq_false_iff_not, decide_eq_true_eq]
    by_cases g : (t.At.X - n.Node.At.X) * (t.At.X - n.Node.At.X) + (t.At.Y - n.Node.At.Y) * (t.At.Y - n.Node.At.Y) ≤ (n.Radius + t.Radius) * (n.Radius + t.Radius)
    · right
      have : ¬ (t.Height - n.Node.Height ≤ n.Band + 100 ∧ n.Node.Height - t.Height ≤ n.Band + 100) := fun hh => c1 ⟨g, hh⟩
      omega
    · left; exact fun hh => g hh.2

theorem sq_swap (a b : Int) : (a - b) * (a - b) = (b - a) * (b - a) := by rw [← Int.neg_mul_neg, Int.neg_sub]

theorem ConformSound_true (x0 : Track) (x1 : List TubeNode) (x2 : P) (x3 : Int) (_k0 : x0.ok) (_s1 : x1.length < 4611686018427387904) (_k1 : ∀ a ∈ x1, a.ok) (_k2 : x2.ok) (_k3 : I64 x3) : skywaykeep2_ConformSound x0 x1 x2 x3 = true := by
  unfold skywaykeep2_ConformSound
  have e1 : conform_Compare (⟨0, 0, 50, ⟨10000, 0⟩, ⟨0, 0⟩, 5000, 0, 20, 0, 0, 0⟩ : Track) (skywaykeep2_line 100 300) = (0, 0) := by kernel_rfl
  have e2 : conform_Compare (⟨0, 0, 50, ⟨10000, 0⟩, ⟨0, 0⟩, 5000, 0, 20, 0, 0, 0⟩ : Track) (skywaykeep2_line 1 300) = (1, 0) := by kernel_rfl
  have z1 : (((0 : Int) != 0) || ((0 : Int) != 0)) = false := rfl
  have z2 : (((0 : Int) != 0) || ((1 : Int) != 1)) = false := rfl
  simp only [e1, e2, z1, z2, cond_false]
  obtain ⟨dl, hdl⟩ : ∃ n, n = skywaykeep2_within x3 (-100) 100 := ⟨_, rfl⟩
  have hb := within_in hdl.symm (by omega) (by omega) (by omega)
  rw [← hdl]
  by_cases c1 : (conform_Compare x0 x1).2 = 0
  · have e3 : ((conform_Compare x0 x1).2 != 0) = false := by simp [c1]
    have e4 : ((conform_Compare x0 x1).2 == 0) = true := by simp [c1]
    simp only [e3, e4, cond_false, Bool.true_or]
    cases c2 : decide (skywaykeep2_square x2 x0.At > w64 (x0.Radius * x0.Radius))
    · simp only [cond_false]
      obtain ⟨hp, ha, hv⟩ := compare_ok c1
      obtain ⟨t1, t2, t3, t4⟩ := permitted_in hp
      rw [w64_id (x := x0.Height + dl) (by omega)]
      by_cases c3 : (tube_Has x1 x0.Time x2 (x0.Height + dl)).2 = 0
      · have e5 : ((tube_Has x1 x0.Time x2 (x0.Height + dl)).2 != 0) = false := by simp [c3]
        obtain ⟨n, hn, h0, nin, pin, hr, hw⟩ := has_true c3
        rw [← hn] at hv
        rw [hv, hw, e5, Bool.false_or, compare_val nin t2 t3 t4]
        have hRs := sq_bound (x := x0.Radius) (n := 4000000) (by omega)
        rw [square_k pin t2, w64_id (x := x0.Radius * x0.Radius) (by omega)] at c2
        have c2' := of_decide_eq_false c2
        have b1 := nin.2.2.1
        have b2 := nin.2.2.2.1
        have b3 := nin.2.2.2.2
        by_cases g1 : ((x0.At.X - n.Node.At.X) * (x0.At.X - n.Node.At.X) + (x0.At.Y - n.Node.At.Y) * (x0.At.Y - n.Node.At.Y) ≤ (n.Radius + x0.Radius) * (n.Radius + x0.Radius)) ∧ (x0.Height - n.Node.Height ≤ n.Band + 100 ∧ n.Node.Height - x0.Height ≤ n.Band + 100)
        · rw [if_pos g1]
          by_cases g2 : (0 ≤ n.Radius - x0.Radius ∧ (x0.At.X - n.Node.At.X) * (x0.At.X - n.Node.At.X) + (x0.At.Y - n.Node.At.Y) * (x0.At.Y - n.Node.At.Y) ≤ (n.Radius - x0.Radius) * (n.Radius - x0.Radius)) ∧ (x0.Height - n.Node.Height ≤ n.Band - 100 ∧ n.Node.Height - x0.Height ≤ n.Band - 100)
          · rw [if_pos g2]
            have tri := triangle (a := x2.X - x0.At.X) (b := x2.Y - x0.At.Y) (c := x0.At.X - n.Node.At.X) (d := x0.At.Y - n.Node.At.Y) t4.1 g2.1.1 (by omega) g2.1.2
            rw [show x2.X - x0.At.X + (x0.At.X - n.Node.At.X) = x2.X - n.Node.At.X by omega, show x2.Y - x0.At.Y + (x0.At.Y - n.Node.At.Y) = x2.Y - n.Node.At.Y by omega, show x0.Radius + (n.Radius - x0.Radius) = n.Radius by omega, sq_swap x2.X, sq_swap x2.Y] at tri
            rw [decide_eq_true ⟨tri, by omega, by omega⟩]; rfl
          · rw [if_neg g2]; rfl
        · rw [if_neg g1]
          have hno : ¬ (((n.Node.At.X - x2.X) * (n.Node.At.X - x2.X) + (n.Node.At.Y - x2.Y) * (n.Node.At.Y - x2.Y) ≤ n.Radius * n.Radius) ∧ (n.Node.Height - (x0.Height + dl) ≤ n.Band ∧ (x0.Height + dl) - n.Node.Height ≤ n.Band)) := by
            rintro ⟨k1, k2⟩
            have tri := triangle (a := n.Node.At.X - x2.X) (b := n.Node.At.Y - x2.Y) (c := x2.X - x0.At.X) (d := x2.Y - x0.At.Y) b2.1 t4.1 k1 (by omega)
            rw [show n.Node.At.X - x2.X + (x2.X - x0.At.X) = n.Node.At.X - x0.At.X by omega, show n.Node.At.Y - x2.Y + (x2.Y - x0.At.Y) = n.Node.At.Y - x0.At.Y by omega, sq_swap n.Node.At.X, sq_swap n.Node.At.Y] at tri
            exact g1 ⟨tri, by omega, by omega⟩
          rw [decide_eq_false hno]; rfl
      · have e5 : ((tube_Has x1 x0.Time x2 (x0.Height + dl)).2 != 0) = true := by simpa using c3
        rw [e5]; rfl
    · rfl
  · have e3 : ((conform_Compare x0 x1).2 != 0) = true := by simpa using c1
    have e4 : ((conform_Compare x0 x1).2 == 0) = false := by simpa using c1
    simp only [e3, e4, cond_true, Bool.false_or]
    have : (conform_Compare x0 x1).1 = 0 := by
      unfold conform_Compare at c1 ⊢
      cases hc : ((conform_node x0 x1).2 != 0)
      · simp only [hc, cond_false] at c1; exact absurd trivial c1
      · simp only [hc, cond_true]
    rw [this]; rfl
end Go.Sky
