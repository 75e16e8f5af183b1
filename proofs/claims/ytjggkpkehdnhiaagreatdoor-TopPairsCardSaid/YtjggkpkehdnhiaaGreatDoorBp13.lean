/- Lemmas toward the given statement (part 13 of 20): TabB. Each theorem states its own conditions; nothing is assumed beyond them. -/
import Derived.Test.YtjggkpkehdnhiaaGreatDoorBp11
set_option maxRecDepth 100000
namespace Go.Sky
open Go Go.Eng
set_option maxRecDepth 100000
theorem A8:KA 1024 128=true:=by kernel_rfl
theorem A9:KA 1152 128=true:=by kernel_rfl
theorem AA:KA 1280 128=true:=by kernel_rfl
theorem AB:KA 1408 128=true:=by kernel_rfl
theorem AC:KA 1536 128=true:=by kernel_rfl
theorem AD:KA 1664 128=true:=by kernel_rfl
theorem AE:KA 1792 128=true:=by kernel_rfl
theorem AG:KA 1920 128=true:=by kernel_rfl
theorem Zat (k:Nat) (h0:1024≤k) (h1:k<2048):chk k=true:=by
 by_cases c0:k<1152
 ·exact Xw 128 _ A8 k (by omega) (by omega)
 by_cases c1:k<1280
 ·exact Xw 128 _ A9 k (by omega) (by omega)
 by_cases c2:k<1408
 ·exact Xw 128 _ AA k (by omega) (by omega)
 by_cases c3:k<1536
 ·exact Xw 128 _ AB k (by omega) (by omega)
 by_cases c4:k<1664
 ·exact Xw 128 _ AC k (by omega) (by omega)
 by_cases c5:k<1792
 ·exact Xw 128 _ AD k (by omega) (by omega)
 by_cases c6:k<1920
 ·exact Xw 128 _ AE k (by omega) (by omega)
 exact Xw 128 _ AG k (by omega) (by omega)
end Go.Sky
