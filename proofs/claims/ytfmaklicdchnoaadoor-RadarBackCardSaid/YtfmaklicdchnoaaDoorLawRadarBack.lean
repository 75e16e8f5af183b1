/- The spot of the plot of an aircraft contains the aircraft in its error: the plain law. Conditions: none. -/
import Derived.Test.YtfmaklicdchnoaaDoorWs
import Derived.Test.YtfmaklicdchnoaaDoorRadLaw
namespace Go.Sky
open Go Go.Eng

theorem RadarBack_true (s : RadarSite) (t : Spot) (_ : s.ok) (_ : t.ok) : skywaykeep2_RadarBack s t = true := by
  unfold skywaykeep2_RadarBack
  simp only [east_true, Bool.not_true, cond_false]
  by_cases hs : (radar_Plot s t).2 = 0
  · rw [hs]
    simp only [bne_self_eq_false, cond_false]
    have hc := plot_ok hs
    have hk := plot_check hs
    rcases spot_err hc.1 hk.1 hk.2 with hx | hx
    · rw [hx]
      simp only [bne_self_eq_false, cond_false]
      obtain ⟨_, _, _, _, _, _, _, _, _, _, _, x1, x2, x3⟩ := spot_ok hx
      have en := err_nn hx
      have hp := hc.2.2.2.2
      have sq : skywaykeep2_square (radar_Spot s (radar_Plot s t).1).1.At t.At ≤ (radar_Spot s (radar_Plot s t).1).1.Error * (radar_Spot s (radar_Plot s t).1).1.Error := by
        by_cases he : s.At = t.At
        · exact own_place hs he hx
        · have ae := hc.2.1.aerr
          have re := hc.2.1.rerr
          have az := plot_azimuth hs
          exact plot_place (u := 0) hs he (by omega) (by omega) (by omega) hx
      rw [err_fit en.1 en.2, decide_eq_true sq, x1, x2, x3, hp]
      simp
    · rw [hx]; rfl
  · have hb := plot_bad hs
    have : ((radar_Plot s t).2 != 0) = true := by simpa using hs
    rw [this, cond_true, hb]
    rfl
end Go.Sky
