/- A plot whose range and azimuth are wrong by less than the bounds contains the aircraft: the plain law. Conditions: none. -/
import Derived.Test.YtfmaklicdchnoaaDoorWs
import Derived.Test.YtfmaklicdchnoaaDoorGlue
import Derived.Test.YtfmaklicdchnoaaDoorRadLaw
namespace Go.Sky
open Go Go.Eng Go.Glue

theorem RadarErrors_true (s : RadarSite) (t : Spot) (far turn : Int) (_ : s.ok) (_ : t.ok) (_ : I64 far) (_ : I64 turn) : skywaykeep2_RadarErrors s t far turn = true := by
  unfold skywaykeep2_RadarErrors
  simp only [east_true, Bool.not_true, cond_false]
  by_cases hs : (radar_Plot s t).2 = 0
  · rw [hs]
    simp only [bne_self_eq_false, cond_false]
    have hc := plot_ok hs
    have hk := plot_check hs
    rw [P.eqb_eq]
    by_cases he : t.At = s.At
    · rw [decide_eq_true he]; rfl
    rw [decide_eq_false he, cond_false]
    have ae := hc.2.1.aerr
    have re := hc.2.1.rerr
    have az := plot_azimuth hs
    have ra := plot_range hs
    rw [w64_id (x := 1 - s.RangeError) (by omega), w64_id (x := s.RangeError - 1) (by omega), w64_id (x := 1 - s.AzimuthError) (by omega), w64_id (x := s.AzimuthError - 1) (by omega)]
    have w1 := within_in (n := far) (low := 1 - s.RangeError) (high := s.RangeError - 1) rfl (by omega) (by omega) (by omega)
    have w2 := within_in (n := turn) (low := 1 - s.AzimuthError) (high := s.AzimuthError - 1) rfl (by omega) (by omega) (by omega)
    generalize skywaykeep2_within far (1 - s.RangeError) (s.RangeError - 1) = a at w1 ⊢
    generalize skywaykeep2_within turn (1 - s.AzimuthError) (s.AzimuthError - 1) = b at w2 ⊢
    rw [w64_id (x := (radar_Plot s t).1.Range + a) (by omega), w64_id (x := (radar_Plot s t).1.Azimuth + b) (by omega), w64_id (x := (radar_Plot s t).1.Azimuth + b + 4096) (by omega), Int.tmod_eq_emod_of_nonneg (by omega)]
    obtain ⟨p, hp⟩ : ∃ p : Plot, p = (⟨(radar_Plot s t).1.Radar, (radar_Plot s t).1.Time, imax 0 ((radar_Plot s t).1.Range + a), ((radar_Plot s t).1.Azimuth + b + 4096) % 4096, (radar_Plot s t).1.Height, (radar_Plot s t).1.Code⟩ : Plot) := ⟨_, rfl⟩
    rw [← hp]
    have p1 : p.Range = imax 0 ((radar_Plot s t).1.Range + a) := by rw [hp]
    have p2 : p.Azimuth = ((radar_Plot s t).1.Azimuth + b + 4096) % 4096 := by rw [hp]
    by_cases hx : (radar_Spot s p).2 = 0
    · rw [hx]
      simp only [bne_self_eq_false, cond_false]
      have en := err_nn hx
      have mx : p.Range = 0 ∧ (radar_Plot s t).1.Range + a ≤ 0 ∨ p.Range = (radar_Plot s t).1.Range + a := by
        rw [p1]; unfold imax; split <;> omega
      have := plot_place (u := b) hs (fun h => he h.symm) (by omega) (by omega) p2 hx
      rw [err_fit en.1 en.2]
      exact decide_eq_true this
    · have : ((radar_Spot s p).2 != 0) = true := by simpa using hx
      rw [this, cond_true]
  · have : ((radar_Plot s t).2 != 0) = true := by simpa using hs
    rw [this, cond_true]
end Go.Sky
