/- Lemmas toward the given statement (part 7 of 20): TabB. Each theorem states its own conditions; nothing is assumed beyond them. -/
import Derived.Test.YtmiemlhgkgfkeaaGreatDoorTw05
set_option maxRecDepth 100000
namespace Go.Sky
open Go Go.Eng
set_option maxRecDepth 100000
theorem Av:Kt 1024 128=true:=by kernel_rfl
theorem Aw:Kt 1152 128=true:=by kernel_rfl
theorem Ax:Kt 1280 128=true:=by kernel_rfl
theorem Az:Kt 1408 128=true:=by kernel_rfl
theorem A2:Kt 1536 128=true:=by kernel_rfl
theorem A3:Kt 1664 128=true:=by kernel_rfl
theorem A4:Kt 1792 128=true:=by kernel_rfl
theorem A5:Kt 1920 128=true:=by kernel_rfl
theorem Zai (k:Nat) (h0:1024≤k) (h1:k<2048):chk k=true:=by
 by_cases c0:k<1152
 ·exact X0 128 _ Av k (by omega) (by omega)
 by_cases c1:k<1280
 ·exact X0 128 _ Aw k (by omega) (by omega)
 by_cases c2:k<1408
 ·exact X0 128 _ Ax k (by omega) (by omega)
 by_cases c3:k<1536
 ·exact X0 128 _ Az k (by omega) (by omega)
 by_cases c4:k<1664
 ·exact X0 128 _ A2 k (by omega) (by omega)
 by_cases c5:k<1792
 ·exact X0 128 _ A3 k (by omega) (by omega)
 by_cases c6:k<1920
 ·exact X0 128 _ A4 k (by omega) (by omega)
 exact X0 128 _ A5 k (by omega) (by omega)
end Go.Sky
