/- Lemmas toward the given statement (part 6 of 20): TabA. Each theorem states its own conditions; nothing is assumed beyond them. -/
import Derived.Test.YtmiemlhgkgfkeaaGreatDoorTw05
set_option maxRecDepth 100000
namespace Go.Sky
open Go Go.Eng
set_option maxRecDepth 100000
theorem Am:Kt 0 128=true:=by kernel_rfl
theorem An:Kt 128 128=true:=by kernel_rfl
theorem Ao:Kt 256 128=true:=by kernel_rfl
theorem Ap:Kt 384 128=true:=by kernel_rfl
theorem Aq:Kt 512 128=true:=by kernel_rfl
theorem Ar:Kt 640 128=true:=by kernel_rfl
theorem As:Kt 768 128=true:=by kernel_rfl
theorem Au:Kt 896 128=true:=by kernel_rfl
theorem Zah (k:Nat) (h0:0≤k) (h1:k<1024):chk k=true:=by
 by_cases c0:k<128
 ·exact X0 128 _ Am k (by omega) (by omega)
 by_cases c1:k<256
 ·exact X0 128 _ An k (by omega) (by omega)
 by_cases c2:k<384
 ·exact X0 128 _ Ao k (by omega) (by omega)
 by_cases c3:k<512
 ·exact X0 128 _ Ap k (by omega) (by omega)
 by_cases c4:k<640
 ·exact X0 128 _ Aq k (by omega) (by omega)
 by_cases c5:k<768
 ·exact X0 128 _ Ar k (by omega) (by omega)
 by_cases c6:k<896
 ·exact X0 128 _ As k (by omega) (by omega)
 exact X0 128 _ Au k (by omega) (by omega)
end Go.Sky
