/- Lemmas toward the given statement (part 8 of 20): TabC. Each theorem states its own conditions; nothing is assumed beyond them. -/
import Derived.Test.YtmiemlhgkgfkeaaGreatDoorTw05
set_option maxRecDepth 100000
namespace Go.Sky
open Go Go.Eng
set_option maxRecDepth 100000
theorem A6:Kt 2048 128=true:=by kernel_rfl
theorem A7:Kt 2176 128=true:=by kernel_rfl
theorem A8:Kt 2304 128=true:=by kernel_rfl
theorem A9:Kt 2432 128=true:=by kernel_rfl
theorem AA:Kt 2560 128=true:=by kernel_rfl
theorem AB:Kt 2688 128=true:=by kernel_rfl
theorem AC:Kt 2816 128=true:=by kernel_rfl
theorem AD:Kt 2944 128=true:=by kernel_rfl
theorem Zaj (k:Nat) (h0:2048≤k) (h1:k<3072):chk k=true:=by
 by_cases c0:k<2176
 ·exact X0 128 _ A6 k (by omega) (by omega)
 by_cases c1:k<2304
 ·exact X0 128 _ A7 k (by omega) (by omega)
 by_cases c2:k<2432
 ·exact X0 128 _ A8 k (by omega) (by omega)
 by_cases c3:k<2560
 ·exact X0 128 _ A9 k (by omega) (by omega)
 by_cases c4:k<2688
 ·exact X0 128 _ AA k (by omega) (by omega)
 by_cases c5:k<2816
 ·exact X0 128 _ AB k (by omega) (by omega)
 by_cases c6:k<2944
 ·exact X0 128 _ AC k (by omega) (by omega)
 exact X0 128 _ AD k (by omega) (by omega)
end Go.Sky
