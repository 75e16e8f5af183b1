/- Lemmas toward the given statement (part 14 of 20): TabA. Each theorem states its own conditions; nothing is assumed beyond them. -/
import Derived.Test.YtjggkpkehdnhiaaGreatDoorBx13
namespace Go.Sky
open Go Go.Eng
set_option maxRecDepth 100000
theorem Ep:Jo 0 128=true:=by kernel_rfl
theorem Es:Jo 128 128=true:=by kernel_rfl
theorem Et:Jo 256 128=true:=by kernel_rfl
theorem Eu:Jo 384 128=true:=by kernel_rfl
theorem Ew:Jo 512 128=true:=by kernel_rfl
theorem Ey:Jo 640 128=true:=by kernel_rfl
theorem Ez:Jo 768 128=true:=by kernel_rfl
theorem E0:Jo 896 128=true:=by kernel_rfl
theorem EY (k:Nat) (h0:0≤k) (h1:k<1024):chk k=true:=by
 by_cases c0:k<128
 ·exact YK 128 _ Ep k (by omega) (by omega)
 by_cases c1:k<256
 ·exact YK 128 _ Es k (by omega) (by omega)
 by_cases c2:k<384
 ·exact YK 128 _ Et k (by omega) (by omega)
 by_cases c3:k<512
 ·exact YK 128 _ Eu k (by omega) (by omega)
 by_cases c4:k<640
 ·exact YK 128 _ Ew k (by omega) (by omega)
 by_cases c5:k<768
 ·exact YK 128 _ Ey k (by omega) (by omega)
 by_cases c6:k<896
 ·exact YK 128 _ Ez k (by omega) (by omega)
 exact YK 128 _ E0 k (by omega) (by omega)
end Go.Sky
