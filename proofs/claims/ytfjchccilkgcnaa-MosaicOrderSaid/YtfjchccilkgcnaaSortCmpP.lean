/- The order of plots. Conditions: in each theorem. -/
import Derived.Test.YtfjchccilkgcnaaSp
import Derived.Test.YtfjchccilkgcnaaSortCmp
namespace Go.Srt
open Go Go.Eng Go.Sky

def keyP (p : Plot) : List Int := [p.Time, p.Radar, p.Range, p.Azimuth, p.Height, p.Code]
def ltP (x y : Plot) : Bool := decide (mosaic_Compare x y < 0)
theorem ltP_lx (x y : Plot) : ltP x y = lx (keyP x) (keyP y) := or_lx (keyP x) (keyP y) 0 rfl
theorem ordP : Ord ltP := ⟨fun x y h => by rw [ltP_lx] at h ⊢; exact lx_asym _ _ h, fun x y w h1 h2 => by rw [ltP_lx] at h1 h2 ⊢; exact lx_ntr (keyP x) (keyP y) (keyP w) rfl rfl h1 h2⟩
theorem triP {x y : Plot} (h1 : ltP x y = false) (h2 : ltP y x = false) : x = y := by
  rw [ltP_lx] at h1 h2
  have := lx_tri (keyP x) (keyP y) rfl h1 h2
  cases x; cases y
  simp [keyP] at this
  simp [this]
end Go.Srt
