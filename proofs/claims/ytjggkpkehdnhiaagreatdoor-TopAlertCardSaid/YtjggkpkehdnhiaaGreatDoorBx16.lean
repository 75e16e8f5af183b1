/- Lemmas toward the given statement (part 16 of 20): TabC. Each theorem states its own conditions; nothing is assumed beyond them. -/
import Derived.Test.YtjggkpkehdnhiaaGreatDoorBx13
namespace Go.Sky
open Go Go.Eng
set_option maxRecDepth 100000
theorem E9:Jo 2048 128=true:=by kernel_rfl
theorem EA:Jo 2176 128=true:=by kernel_rfl
theorem EB:Jo 2304 128=true:=by kernel_rfl
theorem EC:Jo 2432 128=true:=by kernel_rfl
theorem ED:Jo 2560 128=true:=by kernel_rfl
theorem EE:Jo 2688 128=true:=by kernel_rfl
theorem EF:Jo 2816 128=true:=by kernel_rfl
theorem EG:Jo 2944 128=true:=by kernel_rfl
theorem Ia (k:Nat) (h0:2048≤k) (h1:k<3072):chk k=true:=by
 by_cases c0:k<2176
 ·exact YK 128 _ E9 k (by omega) (by omega)
 by_cases c1:k<2304
 ·exact YK 128 _ EA k (by omega) (by omega)
 by_cases c2:k<2432
 ·exact YK 128 _ EB k (by omega) (by omega)
 by_cases c3:k<2560
 ·exact YK 128 _ EC k (by omega) (by omega)
 by_cases c4:k<2688
 ·exact YK 128 _ ED k (by omega) (by omega)
 by_cases c5:k<2816
 ·exact YK 128 _ EE k (by omega) (by omega)
 by_cases c6:k<2944
 ·exact YK 128 _ EF k (by omega) (by omega)
 exact YK 128 _ EG k (by omega) (by omega)
end Go.Sky
