/- The law PairFits in plain Lean. Conditions: the arguments are 64-bit integers. -/
import Derived.Test.YtlaealgmaalgfaaWg
import Derived.Test.YtlaealgmaalgfaaNode
namespace Go.Sky
open Go Go.Eng Go.Glue

/-- What Has says. -/
theorem has_true {l : List TubeNode} {t h : Int} {p : P} (h1 : (tube_Has l t p h).2 = 0) : ∃ n, n = (tube_At l t).1 ∧ (tube_At l t).2 = 0 ∧ n.In ∧ p.In ∧ (0 ≤ h ∧ h ≤ 60000) ∧
    ((tube_Has l t p h).1 = decide (((n.Node.At.X - p.X) * (n.Node.At.X - p.X) + (n.Node.At.Y - p.Y) * (n.Node.At.Y - p.Y) ≤ n.Radius * n.Radius) ∧ (n.Node.Height - h ≤ n.Band ∧ h - n.Node.Height ≤ n.Band))) := by
  refine ⟨_, rfl, ?_⟩
  unfold tube_Has at h1 ⊢
  by_cases c1 : (tube_At l t).2 = 0
  · have e1 : ((tube_At l t).2 != 0) = false := by simp [c1]
    simp only [e1, cond_false] at h1 ⊢
    obtain ⟨_, _, hin, _, _⟩ := tube_At_in c1
    by_cases c2 : plane_Check p = 0
    · have e2 : (plane_Check p != 0) = false := by simp [c2]
      simp only [e2, cond_false] at h1 ⊢
      have hp := checkP_iff.1 c2
      by_cases c3 : 0 ≤ h ∧ h ≤ 60000
      · have e3 : ((decide (h < 0)) || (decide (h > 60000))) = false := by simp; omega
        simp only [e3, cond_false]
        refine ⟨c1, hin, hp, c3, ?_⟩
        have r1 := hin.2.2.1
        have r2 := hin.2.2.2.1
        have r3 := hin.2.2.2.2
        rw [within_iff hin.2.1 hp (by omega), w64_id (x := _ - h) (by omega), w64_id (x := h - _) (by omega), Bool.eq_iff_iff]
        have hm := imax_ge ((tube_At l t).1.Node.Height - h) (h - (tube_At l t).1.Node.Height)
        simp only [Bool.and_eq_true, decide_eq_true_eq]
        constructor
        · rintro ⟨⟨_, g1⟩, g2⟩; exact ⟨g1, by omega, by omega⟩
        · rintro ⟨g1, g2, g3⟩; exact ⟨⟨by omega, g1⟩, by omega⟩
      · have e3 : ((decide (h < 0)) || (decide (h > 60000))) = true := by simp; omega
        simp only [e3, cond_true] at h1; cases h1
    · have e2 : (plane_Check p != 0) = true := by simpa using c2
      simp only [e2, cond_true] at h1; exact absurd h1 c2
  · have e1 : ((tube_At l t).2 != 0) = true := by simpa using c1
    simp only [e1, cond_true] at h1; exact absurd h1 c1

theorem square_k {p q : P} (hp : p.In) (hq : q.In) : skywaykeep2_square p q = (p.X - q.X) * (p.X - q.X) + (p.Y - q.Y) * (p.Y - q.Y) := by
  rw [← (square_eq hp hq).1]; rfl

theorem PairFits_true (x0 : Track) (x1 : List TubeNode) (x2 : P) (x3 : Int) (_k0 : x0.ok) (_s1 : x1.length < 4611686018427387904) (_k1 : ∀ a ∈ x1, a.ok) (_k2 : x2.ok) (_k3 : I64 x3) : skywaykeep2_PairFits x0 x1 x2 x3 = true := by
  unfold skywaykeep2_PairFits
  have e1 : pair_Fits (⟨0, 0, 50, ⟨10000, 0⟩, ⟨0, 0⟩, 5000, 0, 0, 7, 0, 0⟩ : Track) (skywaykeep2_line 100 300) = (true, 0) := by kernel_rfl
  have z1 : (((0 : Int) != 0) || (!true)) = false := rfl
  simp only [e1, z1, cond_false]
  obtain ⟨dl, hdl⟩ : ∃ n, n = skywaykeep2_within x3 (-100) 100 := ⟨_, rfl⟩
  have hb := within_in hdl.symm (by omega) (by omega) (by omega)
  rw [← hdl]
  by_cases c1 : gate_CheckTrack x0 = 0
  · have e2 : (gate_CheckTrack x0 != 0) = false := by simp [c1]
    have hT : x0.In := (checkTrack_eq x0).elim (fun g => g.2) (fun g => by omega)
    by_cases c2 : tube_Check x1 = 0
    · have e3 : (tube_Check x1 != 0) = false := by simp [c2]
      have ef : pair_Fits x0 x1 = ((pair_fits x0 x1).2, 0) := by unfold pair_Fits; simp only [e2, e3, cond_false]
      rw [ef]
      have z2 : ((0 : Int) != 0) = false := rfl
      simp only [z2, cond_false]
      have hh := hT.2.2.1
      rw [w64_id (x := x0.Height + dl) (by omega)]
      by_cases c3 : (tube_Has x1 x0.Time x2 (x0.Height + dl)).2 = 0
      · obtain ⟨n, hn, h0, nin, pin, hr, hv⟩ := has_true c3
        rw [hv]
        have e4 : ((tube_Has x1 x0.Time x2 (x0.Height + dl)).2 != 0) = false := by simp [c3]
        rw [e4, Bool.false_or]
        by_cases c4 : ((n.Node.At.X - x2.X) * (n.Node.At.X - x2.X) + (n.Node.At.Y - x2.Y) * (n.Node.At.Y - x2.Y) ≤ n.Radius * n.Radius) ∧ (n.Node.Height - (x0.Height + dl) ≤ n.Band ∧ (x0.Height + dl) - n.Node.Height ≤ n.Band)
        · rw [decide_eq_true c4, Bool.not_true, cond_false]
          have hR := hT.2.2.2.2
          have hRs := sq_bound (x := x0.Radius) (n := 4000000) (by omega)
          rw [square_k pin hT.2.1, w64_id (x := x0.Radius * x0.Radius) (by omega)]
          by_cases c5 : (x2.X - x0.At.X) * (x2.X - x0.At.X) + (x2.Y - x0.At.Y) * (x2.Y - x0.At.Y) > x0.Radius * x0.Radius
          · rw [decide_eq_true c5]; rfl
          · have hfit : (pair_fits x0 x1).2 = true := by
              unfold pair_fits
              have e5 : ((tube_At x1 x0.Time).2 == 0) = true := by simp [h0]
              simp only [e5, cond_true]
              rw [← hn]
              have b1 := nin.2.2.1
              have b2 := nin.2.2.2.1
              have b3 := nin.2.2.2.2
              rw [w64_id (x := n.Radius + x0.Radius) (by omega), within_iff nin.2.1 hT.2.1 (by omega), w64_id (x := n.Node.Height - x0.Height) (by omega), w64_id (x := x0.Height - n.Node.Height) (by omega), w64_id (x := n.Band + 100) (by omega)]
              have tri := triangle (a := n.Node.At.X - x2.X) (b := n.Node.At.Y - x2.Y) (c := x2.X - x0.At.X) (d := x2.Y - x0.At.Y) b2.1 hR.1 c4.1 (by omega)
              rw [show n.Node.At.X - x2.X + (x2.X - x0.At.X) = n.Node.At.X - x0.At.X by omega, show n.Node.At.Y - x2.Y + (x2.Y - x0.At.Y) = n.Node.At.Y - x0.At.Y by omega] at tri
              have hm := imax_ge (n.Node.Height - x0.Height) (x0.Height - n.Node.Height)
              rw [decide_eq_true ⟨by omega, tri⟩, Bool.true_and, decide_eq_true_eq]
              omega
            rw [hfit, Bool.or_true]
        · rw [decide_eq_false c4]; rfl
      · have e4 : ((tube_Has x1 x0.Time x2 (x0.Height + dl)).2 != 0) = true := by simpa using c3
        rw [e4]; rfl
    · have e3 : (tube_Check x1 != 0) = true := by simpa using c2
      have ef : pair_Fits x0 x1 = (false, tube_Check x1) := by unfold pair_Fits; simp only [e2, e3, cond_false, cond_true]
      rw [ef]
      simp only [e3, cond_true]; rfl
  · have e2 : (gate_CheckTrack x0 != 0) = true := by simpa using c1
    have ef : pair_Fits x0 x1 = (false, gate_CheckTrack x0) := by unfold pair_Fits; simp only [e2, cond_true]
    rw [ef]
    simp only [e2, cond_true]; rfl
end Go.Sky
