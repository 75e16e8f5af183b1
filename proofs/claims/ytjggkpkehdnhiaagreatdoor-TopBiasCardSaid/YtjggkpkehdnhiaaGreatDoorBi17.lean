/- Lemmas toward the given statement (part 17 of 21): TabD. Each theorem states its own conditions; nothing is assumed beyond them. -/
import Derived.Test.YtjggkpkehdnhiaaGreatDoorBi13
namespace Go.Sky
open Go Go.Eng
set_option maxRecDepth 100000
theorem tabD0:chks 3072 128=true:=by kernel_rfl
theorem tabD1:chks 3200 128=true:=by kernel_rfl
theorem tabD2:chks 3328 128=true:=by kernel_rfl
theorem tabD3:chks 3456 128=true:=by kernel_rfl
theorem tabD4:chks 3584 128=true:=by kernel_rfl
theorem tabD5:chks 3712 128=true:=by kernel_rfl
theorem tabD6:chks 3840 128=true:=by kernel_rfl
theorem tabD7:chks 3968 128=true:=by kernel_rfl
theorem tabD (k:Nat) (h0:3072 ≤ k) (h1:k < 4096):chk k=true:=by
  by_cases c0:k < 3200
  · exact chks_at 128 _ tabD0 k (by omega) (by omega)
  by_cases c1:k < 3328
  · exact chks_at 128 _ tabD1 k (by omega) (by omega)
  by_cases c2:k < 3456
  · exact chks_at 128 _ tabD2 k (by omega) (by omega)
  by_cases c3:k < 3584
  · exact chks_at 128 _ tabD3 k (by omega) (by omega)
  by_cases c4:k < 3712
  · exact chks_at 128 _ tabD4 k (by omega) (by omega)
  by_cases c5:k < 3840
  · exact chks_at 128 _ tabD5 k (by omega) (by omega)
  by_cases c6:k < 3968
  · exact chks_at 128 _ tabD6 k (by omega) (by omega)
  exact chks_at 128 _ tabD7 k (by omega) (by omega)
end Go.Sky
