/- Lemmas toward the given statement (part 14 of 20): TabC. Each theorem states its own conditions; nothing is assumed beyond them. -/
import Derived.Test.YtjggkpkehdnhiaaGreatDoorBp11
set_option maxRecDepth 100000
namespace Go.Sky
open Go Go.Eng
set_option maxRecDepth 100000
theorem AH:KA 2048 128=true:=by kernel_rfl
theorem AK:KA 2176 128=true:=by kernel_rfl
theorem AL:KA 2304 128=true:=by kernel_rfl
theorem AM:KA 2432 128=true:=by kernel_rfl
theorem AO:KA 2560 128=true:=by kernel_rfl
theorem AP:KA 2688 128=true:=by kernel_rfl
theorem AQ:KA 2816 128=true:=by kernel_rfl
theorem AU:KA 2944 128=true:=by kernel_rfl
theorem Zau (k:Nat) (h0:2048≤k) (h1:k<3072):chk k=true:=by
 by_cases c0:k<2176
 ·exact Xw 128 _ AH k (by omega) (by omega)
 by_cases c1:k<2304
 ·exact Xw 128 _ AK k (by omega) (by omega)
 by_cases c2:k<2432
 ·exact Xw 128 _ AL k (by omega) (by omega)
 by_cases c3:k<2560
 ·exact Xw 128 _ AM k (by omega) (by omega)
 by_cases c4:k<2688
 ·exact Xw 128 _ AO k (by omega) (by omega)
 by_cases c5:k<2816
 ·exact Xw 128 _ AP k (by omega) (by omega)
 by_cases c6:k<2944
 ·exact Xw 128 _ AQ k (by omega) (by omega)
 exact Xw 128 _ AU k (by omega) (by omega)
end Go.Sky
