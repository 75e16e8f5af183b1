/- Lemmas toward the given statement (part 9 of 20): TabD. Each theorem states its own conditions; nothing is assumed beyond them. -/
import Derived.Test.YtmiemlhgkgfkeaaGreatDoorTw05
set_option maxRecDepth 100000
namespace Go.Sky
open Go Go.Eng
set_option maxRecDepth 100000
theorem AE:Kt 3072 128=true:=by kernel_rfl
theorem AG:Kt 3200 128=true:=by kernel_rfl
theorem AH:Kt 3328 128=true:=by kernel_rfl
theorem AK:Kt 3456 128=true:=by kernel_rfl
theorem AL:Kt 3584 128=true:=by kernel_rfl
theorem AM:Kt 3712 128=true:=by kernel_rfl
theorem AO:Kt 3840 128=true:=by kernel_rfl
theorem AP:Kt 3968 128=true:=by kernel_rfl
theorem Zak (k:Nat) (h0:3072≤k) (h1:k<4096):chk k=true:=by
 by_cases c0:k<3200
 ·exact X0 128 _ AE k (by omega) (by omega)
 by_cases c1:k<3328
 ·exact X0 128 _ AG k (by omega) (by omega)
 by_cases c2:k<3456
 ·exact X0 128 _ AH k (by omega) (by omega)
 by_cases c3:k<3584
 ·exact X0 128 _ AK k (by omega) (by omega)
 by_cases c4:k<3712
 ·exact X0 128 _ AL k (by omega) (by omega)
 by_cases c5:k<3840
 ·exact X0 128 _ AM k (by omega) (by omega)
 by_cases c6:k<3968
 ·exact X0 128 _ AO k (by omega) (by omega)
 exact X0 128 _ AP k (by omega) (by omega)
end Go.Sky
