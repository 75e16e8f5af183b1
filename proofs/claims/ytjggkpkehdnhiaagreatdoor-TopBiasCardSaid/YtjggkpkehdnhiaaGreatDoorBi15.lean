/- Lemmas toward the given statement (part 15 of 21): TabB. Each theorem states its own conditions; nothing is assumed beyond them. -/
import Derived.Test.YtjggkpkehdnhiaaGreatDoorBi13
namespace Go.Sky
open Go Go.Eng
set_option maxRecDepth 100000
theorem tabB0:chks 1024 128=true:=by kernel_rfl
theorem tabB1:chks 1152 128=true:=by kernel_rfl
theorem tabB2:chks 1280 128=true:=by kernel_rfl
theorem tabB3:chks 1408 128=true:=by kernel_rfl
theorem tabB4:chks 1536 128=true:=by kernel_rfl
theorem tabB5:chks 1664 128=true:=by kernel_rfl
theorem tabB6:chks 1792 128=true:=by kernel_rfl
theorem tabB7:chks 1920 128=true:=by kernel_rfl
theorem tabB (k:Nat) (h0:1024 ≤ k) (h1:k < 2048):chk k=true:=by
  by_cases c0:k < 1152
  · exact chks_at 128 _ tabB0 k (by omega) (by omega)
  by_cases c1:k < 1280
  · exact chks_at 128 _ tabB1 k (by omega) (by omega)
  by_cases c2:k < 1408
  · exact chks_at 128 _ tabB2 k (by omega) (by omega)
  by_cases c3:k < 1536
  · exact chks_at 128 _ tabB3 k (by omega) (by omega)
  by_cases c4:k < 1664
  · exact chks_at 128 _ tabB4 k (by omega) (by omega)
  by_cases c5:k < 1792
  · exact chks_at 128 _ tabB5 k (by omega) (by omega)
  by_cases c6:k < 1920
  · exact chks_at 128 _ tabB6 k (by omega) (by omega)
  exact chks_at 128 _ tabB7 k (by omega) (by omega)
end Go.Sky
