/- Lemmas toward the given statement (part 14 of 20): TabA. Each theorem states its own conditions; nothing is assumed beyond them. -/
import Derived.Test.YtjggkpkehdnhiaaGreatDoorBl13
namespace Go.Sky
open Go Go.Eng
set_option maxRecDepth 100000
theorem Ed:Jk 0 128=true:=by kernel_rfl
theorem Ee:Jk 128 128=true:=by kernel_rfl
theorem Ef:Jk 256 128=true:=by kernel_rfl
theorem Eg:Jk 384 128=true:=by kernel_rfl
theorem Eh:Jk 512 128=true:=by kernel_rfl
theorem Ei:Jk 640 128=true:=by kernel_rfl
theorem Ej:Jk 768 128=true:=by kernel_rfl
theorem Ek:Jk 896 128=true:=by kernel_rfl
theorem EO (k:Nat) (h0:0≤k) (h1:k<1024):chk k=true:=by
 by_cases c0:k<128
 ·exact YN 128 _ Ed k (by omega) (by omega)
 by_cases c1:k<256
 ·exact YN 128 _ Ee k (by omega) (by omega)
 by_cases c2:k<384
 ·exact YN 128 _ Ef k (by omega) (by omega)
 by_cases c3:k<512
 ·exact YN 128 _ Eg k (by omega) (by omega)
 by_cases c4:k<640
 ·exact YN 128 _ Eh k (by omega) (by omega)
 by_cases c5:k<768
 ·exact YN 128 _ Ei k (by omega) (by omega)
 by_cases c6:k<896
 ·exact YN 128 _ Ej k (by omega) (by omega)
 exact YN 128 _ Ek k (by omega) (by omega)
end Go.Sky
