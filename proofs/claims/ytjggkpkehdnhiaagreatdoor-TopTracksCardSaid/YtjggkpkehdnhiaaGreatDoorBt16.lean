/- Lemmas toward the given statement (part 16 of 22): TabB. Each theorem states its own conditions; nothing is assumed beyond them. -/
import Derived.Test.YtjggkpkehdnhiaaGreatDoorBt14
namespace Go.Sky
open Go Go.Eng
set_option maxRecDepth 100000
theorem OT:Jg 1024 128=true:=by kernel_rfl
theorem OU:Jg 1152 128=true:=by kernel_rfl
theorem OV:Jg 1280 128=true:=by kernel_rfl
theorem OW:Jg 1408 128=true:=by kernel_rfl
theorem OX:Jg 1536 128=true:=by kernel_rfl
theorem OY:Jg 1664 128=true:=by kernel_rfl
theorem OZ:Jg 1792 128=true:=by kernel_rfl
theorem Ea:Jg 1920 128=true:=by kernel_rfl
theorem E7 (k:Nat) (h0:1024 ≤ k) (h1:k < 2048):chk k=true:=by
  by_cases c0:k < 1152
  · exact YL 128 _ OT k (by omega) (by omega)
  by_cases c1:k < 1280
  · exact YL 128 _ OU k (by omega) (by omega)
  by_cases c2:k < 1408
  · exact YL 128 _ OV k (by omega) (by omega)
  by_cases c3:k < 1536
  · exact YL 128 _ OW k (by omega) (by omega)
  by_cases c4:k < 1664
  · exact YL 128 _ OX k (by omega) (by omega)
  by_cases c5:k < 1792
  · exact YL 128 _ OY k (by omega) (by omega)
  by_cases c6:k < 1920
  · exact YL 128 _ OZ k (by omega) (by omega)
  exact YL 128 _ Ea k (by omega) (by omega)
end Go.Sky
