/- Lemmas toward the given statement (part 15 of 20): TabB. Each theorem states its own conditions; nothing is assumed beyond them. -/
import Derived.Test.YtjggkpkehdnhiaaGreatDoorBx13
namespace Go.Sky
open Go Go.Eng
set_option maxRecDepth 100000
theorem E1:Jo 1024 128=true:=by kernel_rfl
theorem E2:Jo 1152 128=true:=by kernel_rfl
theorem E3:Jo 1280 128=true:=by kernel_rfl
theorem E4:Jo 1408 128=true:=by kernel_rfl
theorem E5:Jo 1536 128=true:=by kernel_rfl
theorem E6:Jo 1664 128=true:=by kernel_rfl
theorem E7:Jo 1792 128=true:=by kernel_rfl
theorem E8:Jo 1920 128=true:=by kernel_rfl
theorem EZ (k:Nat) (h0:1024≤k) (h1:k<2048):chk k=true:=by
 by_cases c0:k<1152
 ·exact YK 128 _ E1 k (by omega) (by omega)
 by_cases c1:k<1280
 ·exact YK 128 _ E2 k (by omega) (by omega)
 by_cases c2:k<1408
 ·exact YK 128 _ E3 k (by omega) (by omega)
 by_cases c3:k<1536
 ·exact YK 128 _ E4 k (by omega) (by omega)
 by_cases c4:k<1664
 ·exact YK 128 _ E5 k (by omega) (by omega)
 by_cases c5:k<1792
 ·exact YK 128 _ E6 k (by omega) (by omega)
 by_cases c6:k<1920
 ·exact YK 128 _ E7 k (by omega) (by omega)
 exact YK 128 _ E8 k (by omega) (by omega)
end Go.Sky
