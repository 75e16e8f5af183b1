/- Lemmas toward the given statement (part 17 of 20): TabD. Each theorem states its own conditions; nothing is assumed beyond them. -/
import Derived.Test.YtjggkpkehdnhiaaGreatDoorBl13
namespace Go.Sky
open Go Go.Eng
set_option maxRecDepth 100000
theorem E6:Jk 3072 128=true:=by kernel_rfl
theorem E7:Jk 3200 128=true:=by kernel_rfl
theorem E8:Jk 3328 128=true:=by kernel_rfl
theorem E9:Jk 3456 128=true:=by kernel_rfl
theorem EA:Jk 3584 128=true:=by kernel_rfl
theorem EB:Jk 3712 128=true:=by kernel_rfl
theorem EC:Jk 3840 128=true:=by kernel_rfl
theorem ED:Jk 3968 128=true:=by kernel_rfl
theorem ER (k:Nat) (h0:3072≤k) (h1:k<4096):chk k=true:=by
 by_cases c0:k<3200
 ·exact YN 128 _ E6 k (by omega) (by omega)
 by_cases c1:k<3328
 ·exact YN 128 _ E7 k (by omega) (by omega)
 by_cases c2:k<3456
 ·exact YN 128 _ E8 k (by omega) (by omega)
 by_cases c3:k<3584
 ·exact YN 128 _ E9 k (by omega) (by omega)
 by_cases c4:k<3712
 ·exact YN 128 _ EA k (by omega) (by omega)
 by_cases c5:k<3840
 ·exact YN 128 _ EB k (by omega) (by omega)
 by_cases c6:k<3968
 ·exact YN 128 _ EC k (by omega) (by omega)
 exact YN 128 _ ED k (by omega) (by omega)
end Go.Sky
