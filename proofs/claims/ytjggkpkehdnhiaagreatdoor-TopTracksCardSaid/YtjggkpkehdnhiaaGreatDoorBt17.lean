/- Lemmas toward the given statement (part 17 of 22): TabC. Each theorem states its own conditions; nothing is assumed beyond them. -/
import Derived.Test.YtjggkpkehdnhiaaGreatDoorBt14
namespace Go.Sky
open Go Go.Eng
set_option maxRecDepth 100000
theorem Eb:Jg 2048 128=true:=by kernel_rfl
theorem Ec:Jg 2176 128=true:=by kernel_rfl
theorem Ed:Jg 2304 128=true:=by kernel_rfl
theorem Ee:Jg 2432 128=true:=by kernel_rfl
theorem Ef:Jg 2560 128=true:=by kernel_rfl
theorem Eg:Jg 2688 128=true:=by kernel_rfl
theorem Eh:Jg 2816 128=true:=by kernel_rfl
theorem Ei:Jg 2944 128=true:=by kernel_rfl
theorem E8 (k:Nat) (h0:2048 ≤ k) (h1:k < 3072):chk k=true:=by
  by_cases c0:k < 2176
  · exact YL 128 _ Eb k (by omega) (by omega)
  by_cases c1:k < 2304
  · exact YL 128 _ Ec k (by omega) (by omega)
  by_cases c2:k < 2432
  · exact YL 128 _ Ed k (by omega) (by omega)
  by_cases c3:k < 2560
  · exact YL 128 _ Ee k (by omega) (by omega)
  by_cases c4:k < 2688
  · exact YL 128 _ Ef k (by omega) (by omega)
  by_cases c5:k < 2816
  · exact YL 128 _ Eg k (by omega) (by omega)
  by_cases c6:k < 2944
  · exact YL 128 _ Eh k (by omega) (by omega)
  exact YL 128 _ Ei k (by omega) (by omega)
end Go.Sky
