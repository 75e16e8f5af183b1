/- Lemmas toward the given statement (part 14 of 21): TabA. Each theorem states its own conditions; nothing is assumed beyond them. -/
import Derived.Test.YtjggkpkehdnhiaaGreatDoorBi13
namespace Go.Sky
open Go Go.Eng
set_option maxRecDepth 100000
theorem tabA0:chks 0 128=true:=by kernel_rfl
theorem tabA1:chks 128 128=true:=by kernel_rfl
theorem tabA2:chks 256 128=true:=by kernel_rfl
theorem tabA3:chks 384 128=true:=by kernel_rfl
theorem tabA4:chks 512 128=true:=by kernel_rfl
theorem tabA5:chks 640 128=true:=by kernel_rfl
theorem tabA6:chks 768 128=true:=by kernel_rfl
theorem tabA7:chks 896 128=true:=by kernel_rfl
theorem tabA (k:Nat) (h0:0 ≤ k) (h1:k < 1024):chk k=true:=by
  by_cases c0:k < 128
  · exact chks_at 128 _ tabA0 k (by omega) (by omega)
  by_cases c1:k < 256
  · exact chks_at 128 _ tabA1 k (by omega) (by omega)
  by_cases c2:k < 384
  · exact chks_at 128 _ tabA2 k (by omega) (by omega)
  by_cases c3:k < 512
  · exact chks_at 128 _ tabA3 k (by omega) (by omega)
  by_cases c4:k < 640
  · exact chks_at 128 _ tabA4 k (by omega) (by omega)
  by_cases c5:k < 768
  · exact chks_at 128 _ tabA5 k (by omega) (by omega)
  by_cases c6:k < 896
  · exact chks_at 128 _ tabA6 k (by omega) (by omega)
  exact chks_at 128 _ tabA7 k (by omega) (by omega)
end Go.Sky
