/- The law FilterGains in plain Lean. Conditions: the arguments are 64-bit integers. -/
import Derived.Test.YtkjdmkgacmkpjaaLawFilterContains
namespace Go.Sky
open Go Go.Eng Go.Glue

theorem mix_none {a b : Int} (ha : -1000000 ≤ a ∧ a ≤ 1000000) : filter_mix a b 0 = a := by
  unfold filter_mix filter_down
  rw [Int.mul_zero, show w64 0 = 0 by decide, divDown_eq (by decide) (by omega)]
  show w64 (a + 0 / 256) = a
  rw [show (0 : Int) / 256 = 0 by decide, w64_id (by omega)]; omega
theorem update_err {f : FilterTrack} {s : Spot} {a pl sp : Int} (h : (filter_Update f s a pl sp).2 ≠ 0) : (filter_Update f s a pl sp).1 = FilterTrack.zero := by
  have key : ∀ (c : Prop) [Decidable c] (x y : FilterTrack × Int), (x.2 ≠ 0 → x.1 = FilterTrack.zero) → (y.2 ≠ 0 → y.1 = FilterTrack.zero) → ((if c then x else y).2 ≠ 0 → (if c then x else y).1 = FilterTrack.zero) := by
    intro c _ x y hx hy
    by_cases hc : c
    · rw [if_pos hc]; exact hx
    · rw [if_neg hc]; exact hy
  revert h
  unfold filter_Update
  simp only [ite_of_cond]
  repeat' (first | exact fun _ => rfl | exact fun h => absurd rfl h | refine key _ _ _ ?_ ?_)

theorem FilterGains_true (x0 : FilterTrack) (x1 : Spot) (x2 : Int) (_k0 : x0.ok) (_k1 : x1.ok) (_k2 : I64 x2) : skywaykeep2_FilterGains x0 x1 x2 = true := by
  unfold skywaykeep2_FilterGains
  simp only [begins_true, Bool.not_true, cond_false]
  by_cases h1 : (filter_Update x0 x1 x2 256 256).2 = 0
  · by_cases h2 : (filter_Update x0 x1 x2 0 0).2 = 0
    · have e0 : (((filter_Update x0 x1 x2 256 256).2 != 0) || ((filter_Update x0 x1 x2 0 0).2 != 0)) = false := by simp [h1, h2]
      simp only [e0, cond_false]
      obtain ⟨_, _, u2, _, _, u3, _, p, hp, u4, u5, _, u7⟩ := update_ok h1
      obtain ⟨_, _, _, _, _, _, _, q, hq, v4, _, v6, v7⟩ := update_ok h2
      have hpi : p.In := by rw [hp]; exact predict_in u3
      have hpq : q = p := by rw [hp, hq]
      subst hpq
      have e1 : ((filter_Predict x0 x1.Time x2).2 == 0) = true := by simp [u3]
      simp only [e1, cond_true, u4, v4, v6, u7, v7, u5]
      rw [mix_full ⟨hpi.1.2.1.1, hpi.1.2.1.2.1⟩ ⟨u2.2.1.1, u2.2.1.2.1⟩, mix_full ⟨hpi.1.2.1.2.2.1, hpi.1.2.1.2.2.2⟩ ⟨u2.2.1.2.2.1, u2.2.1.2.2.2⟩]
      rw [mix_none ⟨hpi.1.2.1.1, hpi.1.2.1.2.1⟩, mix_none ⟨hpi.1.2.1.2.2.1, hpi.1.2.1.2.2.2⟩]
      have s1 := hpi.2.1
      have s2 := hpi.2.2.1
      rw [mix_none (by omega), mix_none (by omega)]
      have hr := hpi.1.2.2.2.2
      have her := u2.2.2.2.2
      have e2 : filter_up (w64 (w64 (w64 (256 - 256) * q.Track.Radius) + w64 (256 * x1.Error))) 256 = x1.Error := by
        rw [show w64 (256 - 256) = 0 by decide, Int.zero_mul, show w64 0 = 0 by decide, w64_id (x := 256 * x1.Error) (by omega), w64_id (by omega)]
        unfold filter_up
        rw [divUp_eq (by decide) (by omega)]
        show -(-(0 + 256 * x1.Error) / 256) = x1.Error
        omega
      rw [e2, ← hp]
      have b1 : P.eqb x1.At x1.At = true := by simp [P.eqb_eq]
      have b2 : P.eqb q.Track.At q.Track.At = true := by simp [P.eqb_eq]
      have b3 : P.eqb q.Track.Speed q.Track.Speed = true := by simp [P.eqb_eq]
      have b1' : P.eqb ⟨x1.At.X, x1.At.Y⟩ x1.At = true := b1
      have b2' : P.eqb ⟨q.Track.At.X, q.Track.At.Y⟩ q.Track.At = true := b2
      have b3' : P.eqb ⟨q.Track.Speed.X, q.Track.Speed.Y⟩ q.Track.Speed = true := b3
      simp only [b1', b2', b3', beq_self_eq_true, Bool.and_self, cond_true]
    · have e0 : (((filter_Update x0 x1 x2 256 256).2 != 0) || ((filter_Update x0 x1 x2 0 0).2 != 0)) = true := by simp [h2]
      have e1 : FilterTrack.eqb (filter_Update x0 x1 x2 0 0).1 FilterTrack.zero = true := by rw [update_err h2]; simp [FilterTrack.eqb_eq]
      simp only [e0, cond_true, e1]
      cases FilterTrack.eqb (filter_Update x0 x1 x2 256 256).1 FilterTrack.zero <;> rfl
  · have e0 : (((filter_Update x0 x1 x2 256 256).2 != 0) || ((filter_Update x0 x1 x2 0 0).2 != 0)) = true := by simp [h1]
    have e1 : FilterTrack.eqb (filter_Update x0 x1 x2 256 256).1 FilterTrack.zero = true := by rw [update_err h1]; simp [FilterTrack.eqb_eq]
    simp only [e0, cond_true, e1]
end Go.Sky
