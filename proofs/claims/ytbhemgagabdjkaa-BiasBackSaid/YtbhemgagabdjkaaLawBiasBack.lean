/- The law BiasBack in plain Lean. Conditions: the arguments are 64-bit integers. -/
import Derived.Test.YtbhemgagabdjkaaWb
import Derived.Test.YtbhemgagabdjkaaNum
import Derived.Test.YtbhemgagabdjkaaOk
namespace Go.Sky
open Go Go.Eng Go.Glue

def plotOk (p : Plot) : Prop := (0 ≤ p.Radar ∧ p.Radar ≤ 255) ∧ (0 ≤ p.Time ∧ p.Time ≤ 200000) ∧ (0 ≤ p.Range ∧ p.Range ≤ 2000000) ∧ (0 ≤ p.Azimuth ∧ p.Azimuth ≤ 4095) ∧ (0 ≤ p.Height ∧ p.Height ≤ 60000) ∧ (-1 ≤ p.Code ∧ p.Code ≤ 4095)
instance (p : Plot) : Decidable (plotOk p) := by unfold plotOk; infer_instance
theorem checkPlot_eq (p : Plot) : radar_CheckPlot p = if plotOk p then 0 else 4 := by
  simp only [radar_CheckPlot, radar_out, ite_of_cond, Bool.or_eq_true, decide_eq_true_eq]
  by_cases h : plotOk p
  · rw [if_pos h]
    unfold plotOk at h
    repeat' split
    all_goals first | rfl | (exfalso; omega)
  · rw [if_neg h]
    unfold plotOk at h
    repeat' split
    all_goals first | rfl | (exfalso; omega)
def biasOk (b : BiasOffset) : Prop := (-10000 ≤ b.Range ∧ b.Range ≤ 10000) ∧ (-2047 ≤ b.Azimuth ∧ b.Azimuth ≤ 2048) ∧ (-1000 ≤ b.Time ∧ b.Time ≤ 1000)
instance (b : BiasOffset) : Decidable (biasOk b) := by unfold biasOk; infer_instance
theorem checkBias_eq (b : BiasOffset) : bias_Check b = if biasOk b then 0 else 4 := by
  simp only [bias_Check, ite_of_cond, Bool.or_eq_true, decide_eq_true_eq]
  by_cases h : biasOk b
  · rw [if_pos h]
    unfold biasOk at h
    rw [if_neg (by omega)]
  · rw [if_neg h]
    unfold biasOk at h
    rw [if_pos (by omega)]
theorem norm_eq (h : Int) : angle_Norm h = h % 4096 := by
  unfold angle_Norm
  by_cases hp : 0 ≤ h
  · rw [tmod_pos _ hp, w64_id (by omega), tmod_pos _ (by omega)]; omega
  · rw [tmod_neg (a := h) 4096 (by omega), w64_id (by omega), tmod_pos _ (by omega)]; omega

def mv (p : Plot) (b : BiasOffset) (s : Int) : Plot := ⟨p.Radar, p.Time + s * b.Time, p.Range + s * b.Range, (p.Azimuth + s * b.Azimuth) % 4096, p.Height, p.Code⟩
theorem moved_eq (p : Plot) (b : BiasOffset) {s : Int} (hs : s = 1 ∨ s = -1) :
    bias_moved p b s = if biasOk b then (if plotOk p then (if plotOk (mv p b s) then (mv p b s, 0) else (⟨0, 0, 0, 0, 0, 0⟩, 8)) else (⟨0, 0, 0, 0, 0, 0⟩, 4)) else (⟨0, 0, 0, 0, 0, 0⟩, 4) := by
  unfold bias_moved
  rw [checkBias_eq, checkPlot_eq]
  by_cases hb : biasOk b
  · by_cases hp : plotOk p
    · have e1 : w64 (p.Time + w64 (s * b.Time)) = p.Time + s * b.Time := by
        unfold biasOk at hb; unfold plotOk at hp
        rcases hs with rfl | rfl <;> rw [w64_id (x := _ * _) (by omega), w64_id (by omega)]
      have e2 : w64 (p.Range + w64 (s * b.Range)) = p.Range + s * b.Range := by
        unfold biasOk at hb; unfold plotOk at hp
        rcases hs with rfl | rfl <;> rw [w64_id (x := _ * _) (by omega), w64_id (by omega)]
      have e3 : w64 (p.Azimuth + w64 (s * b.Azimuth)) = p.Azimuth + s * b.Azimuth := by
        unfold biasOk at hb; unfold plotOk at hp
        rcases hs with rfl | rfl <;> rw [w64_id (x := _ * _) (by omega), w64_id (by omega)]
      simp only [if_pos hb, if_pos hp, e1, e2, e3, norm_eq]
      have e4 : ((0 : Int) != 0) = false := rfl
      simp only [e4, cond_false]
      rw [show radar_CheckPlot ⟨p.Radar, p.Time + s * b.Time, p.Range + s * b.Range, (p.Azimuth + s * b.Azimuth) % 4096, p.Height, p.Code⟩ = _ from checkPlot_eq (mv p b s)]
      by_cases hm : plotOk (mv p b s)
      · rw [if_pos hm, if_pos hm]; rfl
      · rw [if_neg hm, if_neg hm]; rfl
    · rw [if_pos hb, if_neg hp, if_pos hb, if_neg hp]; rfl
  · rw [if_neg hb, if_neg hb]; rfl

theorem mv_back {p : Plot} {b : BiasOffset} (hp : plotOk p) : mv (mv p b (-1)) b 1 = p := by
  obtain ⟨a1, a2, a3, a4, a5, a6⟩ := p
  unfold plotOk at hp
  simp only [mv, Plot.mk.injEq, true_and, and_true] at hp ⊢
  refine ⟨?_, ?_, ?_⟩ <;> omega

theorem BiasBack_true (x0 : Plot) (x1 : BiasOffset) (_k0 : x0.ok) (_k1 : x1.ok) : skywaykeep2_BiasBack x0 x1 = true := by
  have e0 : bias_Apply ⟨0, 0, 100, 0, 0, 0⟩ ⟨5, 0, 0⟩ = (⟨0, 0, 105, 0, 0, 0⟩, 0) := by
    unfold bias_Apply
    rw [moved_eq _ _ (.inl rfl), if_pos (by decide), if_pos (by decide), if_pos (by decide)]
    rfl
  unfold skywaykeep2_BiasBack
  rw [e0]
  simp only [bias_Correct, bias_Apply, moved_eq _ _ (show (1 : Int) = 1 ∨ (1 : Int) = -1 from .inl rfl), moved_eq _ _ (show (-1 : Int) = 1 ∨ (-1 : Int) = -1 from .inr rfl)]
  by_cases hb : biasOk x1
  · by_cases hp : plotOk x0
    · by_cases hm : plotOk (mv x0 x1 (-1))
      · simp only [if_pos hb, if_pos hp, if_pos hm, mv_back hp]
        rw [Plot.eqb_eq, Plot.eqb_eq]
        simp
      · simp only [if_pos hb, if_pos hp, if_neg hm]
        rfl
    · simp only [if_pos hb, if_neg hp]
      rfl
  · simp only [if_neg hb]
    rfl
end Go.Sky
