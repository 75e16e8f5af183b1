/- Lemmas toward the given statement (part 15 of 20): TabD. Each theorem states its own conditions; nothing is assumed beyond them. -/
import Derived.Test.YtjggkpkehdnhiaaGreatDoorBp11
set_option maxRecDepth 100000
namespace Go.Sky
open Go Go.Eng
set_option maxRecDepth 100000
theorem AV:KA 3072 128=true:=by kernel_rfl
theorem AW:KA 3200 128=true:=by kernel_rfl
theorem AX:KA 3328 128=true:=by kernel_rfl
theorem AY:KA 3456 128=true:=by kernel_rfl
theorem AZ:KA 3584 128=true:=by kernel_rfl
theorem Zaa:KA 3712 128=true:=by kernel_rfl
theorem Zab:KA 3840 128=true:=by kernel_rfl
theorem Zac:KA 3968 128=true:=by kernel_rfl
theorem Zav (k:Nat) (h0:3072≤k) (h1:k<4096):chk k=true:=by
 by_cases c0:k<3200
 ·exact Xw 128 _ AV k (by omega) (by omega)
 by_cases c1:k<3328
 ·exact Xw 128 _ AW k (by omega) (by omega)
 by_cases c2:k<3456
 ·exact Xw 128 _ AX k (by omega) (by omega)
 by_cases c3:k<3584
 ·exact Xw 128 _ AY k (by omega) (by omega)
 by_cases c4:k<3712
 ·exact Xw 128 _ AZ k (by omega) (by omega)
 by_cases c5:k<3840
 ·exact Xw 128 _ Zaa k (by omega) (by omega)
 by_cases c6:k<3968
 ·exact Xw 128 _ Zab k (by omega) (by omega)
 exact Xw 128 _ Zac k (by omega) (by omega)
end Go.Sky
