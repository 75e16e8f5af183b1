/- Lemmas toward the given statement (part 17 of 20): TabD. Each theorem states its own conditions; nothing is assumed beyond them. -/
import Derived.Test.YtjggkpkehdnhiaaGreatDoorBx13
namespace Go.Sky
open Go Go.Eng
set_option maxRecDepth 100000
theorem EH:Jo 3072 128=true:=by kernel_rfl
theorem EI:Jo 3200 128=true:=by kernel_rfl
theorem EJ:Jo 3328 128=true:=by kernel_rfl
theorem EK:Jo 3456 128=true:=by kernel_rfl
theorem EL:Jo 3584 128=true:=by kernel_rfl
theorem EM:Jo 3712 128=true:=by kernel_rfl
theorem EN:Jo 3840 128=true:=by kernel_rfl
theorem EO:Jo 3968 128=true:=by kernel_rfl
theorem Ib (k:Nat) (h0:3072≤k) (h1:k<4096):chk k=true:=by
 by_cases c0:k<3200
 ·exact YK 128 _ EH k (by omega) (by omega)
 by_cases c1:k<3328
 ·exact YK 128 _ EI k (by omega) (by omega)
 by_cases c2:k<3456
 ·exact YK 128 _ EJ k (by omega) (by omega)
 by_cases c3:k<3584
 ·exact YK 128 _ EK k (by omega) (by omega)
 by_cases c4:k<3712
 ·exact YK 128 _ EL k (by omega) (by omega)
 by_cases c5:k<3840
 ·exact YK 128 _ EM k (by omega) (by omega)
 by_cases c6:k<3968
 ·exact YK 128 _ EN k (by omega) (by omega)
 exact YK 128 _ EO k (by omega) (by omega)
end Go.Sky
