/- Lemmas toward the given statement (part 12 of 20): TabA. Each theorem states its own conditions; nothing is assumed beyond them. -/
import Derived.Test.YtjggkpkehdnhiaaGreatDoorBp11
set_option maxRecDepth 100000
namespace Go.Sky
open Go Go.Eng
set_option maxRecDepth 100000
theorem Ax:KA 0 128=true:=by kernel_rfl
theorem Az:KA 128 128=true:=by kernel_rfl
theorem A2:KA 256 128=true:=by kernel_rfl
theorem A3:KA 384 128=true:=by kernel_rfl
theorem A4:KA 512 128=true:=by kernel_rfl
theorem A5:KA 640 128=true:=by kernel_rfl
theorem A6:KA 768 128=true:=by kernel_rfl
theorem A7:KA 896 128=true:=by kernel_rfl
theorem Zas (k:Nat) (h0:0≤k) (h1:k<1024):chk k=true:=by
 by_cases c0:k<128
 ·exact Xw 128 _ Ax k (by omega) (by omega)
 by_cases c1:k<256
 ·exact Xw 128 _ Az k (by omega) (by omega)
 by_cases c2:k<384
 ·exact Xw 128 _ A2 k (by omega) (by omega)
 by_cases c3:k<512
 ·exact Xw 128 _ A3 k (by omega) (by omega)
 by_cases c4:k<640
 ·exact Xw 128 _ A4 k (by omega) (by omega)
 by_cases c5:k<768
 ·exact Xw 128 _ A5 k (by omega) (by omega)
 by_cases c6:k<896
 ·exact Xw 128 _ A6 k (by omega) (by omega)
 exact Xw 128 _ A7 k (by omega) (by omega)
end Go.Sky
