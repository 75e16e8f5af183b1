/- Lemmas toward the given statement (part 16 of 20): TabC. Each theorem states its own conditions; nothing is assumed beyond them. -/
import Derived.Test.YtjggkpkehdnhiaaGreatDoorBl13
namespace Go.Sky
open Go Go.Eng
set_option maxRecDepth 100000
theorem Ey:Jk 2048 128=true:=by kernel_rfl
theorem Ez:Jk 2176 128=true:=by kernel_rfl
theorem E0:Jk 2304 128=true:=by kernel_rfl
theorem E1:Jk 2432 128=true:=by kernel_rfl
theorem E2:Jk 2560 128=true:=by kernel_rfl
theorem E3:Jk 2688 128=true:=by kernel_rfl
theorem E4:Jk 2816 128=true:=by kernel_rfl
theorem E5:Jk 2944 128=true:=by kernel_rfl
theorem EQ (k:Nat) (h0:2048≤k) (h1:k<3072):chk k=true:=by
 by_cases c0:k<2176
 ·exact YN 128 _ Ey k (by omega) (by omega)
 by_cases c1:k<2304
 ·exact YN 128 _ Ez k (by omega) (by omega)
 by_cases c2:k<2432
 ·exact YN 128 _ E0 k (by omega) (by omega)
 by_cases c3:k<2560
 ·exact YN 128 _ E1 k (by omega) (by omega)
 by_cases c4:k<2688
 ·exact YN 128 _ E2 k (by omega) (by omega)
 by_cases c5:k<2816
 ·exact YN 128 _ E3 k (by omega) (by omega)
 by_cases c6:k<2944
 ·exact YN 128 _ E4 k (by omega) (by omega)
 exact YN 128 _ E5 k (by omega) (by omega)
end Go.Sky
