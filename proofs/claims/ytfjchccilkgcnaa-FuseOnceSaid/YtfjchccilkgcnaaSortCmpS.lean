/- The order of spots. Conditions: in each theorem. -/
import Derived.Test.YtfjchccilkgcnaaQa
import Derived.Test.YtfjchccilkgcnaaSortCmp
namespace Go.Srt
open Go Go.Eng Go.Sky

def keyS (p : Spot) : List Int := [p.Time, p.Error, p.At.X, p.At.Y, p.Height, p.Code]
def ltS (x y : Spot) : Bool := decide (fuse_Compare x y < 0)
theorem ltS_lx (x y : Spot) : ltS x y = lx (keyS x) (keyS y) := or_lx (keyS x) (keyS y) 0 rfl
theorem ordS : Ord ltS := ⟨fun x y h => by rw [ltS_lx] at h ⊢; exact lx_asym _ _ h, fun x y w h1 h2 => by rw [ltS_lx] at h1 h2 ⊢; exact lx_ntr (keyS x) (keyS y) (keyS w) rfl rfl h1 h2⟩
theorem triS {x y : Spot} (h1 : ltS x y = false) (h2 : ltS y x = false) : x = y := by
  rw [ltS_lx] at h1 h2
  have := lx_tri (keyS x) (keyS y) rfl h1 h2
  obtain ⟨xt, ⟨xx, xy⟩, xh, xc, xe⟩ := x
  obtain ⟨yt, ⟨yx, yy⟩, yh, yc, ye⟩ := y
  simp [keyS] at this
  simp [this]
end Go.Srt
