/- Lemmas toward the given statement (part 16 of 21): TabC. Each theorem states its own conditions; nothing is assumed beyond them. -/
import Derived.Test.YtjggkpkehdnhiaaGreatDoorBi13
namespace Go.Sky
open Go Go.Eng
set_option maxRecDepth 100000
theorem tabC0:chks 2048 128=true:=by kernel_rfl
theorem tabC1:chks 2176 128=true:=by kernel_rfl
theorem tabC2:chks 2304 128=true:=by kernel_rfl
theorem tabC3:chks 2432 128=true:=by kernel_rfl
theorem tabC4:chks 2560 128=true:=by kernel_rfl
theorem tabC5:chks 2688 128=true:=by kernel_rfl
theorem tabC6:chks 2816 128=true:=by kernel_rfl
theorem tabC7:chks 2944 128=true:=by kernel_rfl
theorem tabC (k:Nat) (h0:2048 ≤ k) (h1:k < 3072):chk k=true:=by
  by_cases c0:k < 2176
  · exact chks_at 128 _ tabC0 k (by omega) (by omega)
  by_cases c1:k < 2304
  · exact chks_at 128 _ tabC1 k (by omega) (by omega)
  by_cases c2:k < 2432
  · exact chks_at 128 _ tabC2 k (by omega) (by omega)
  by_cases c3:k < 2560
  · exact chks_at 128 _ tabC3 k (by omega) (by omega)
  by_cases c4:k < 2688
  · exact chks_at 128 _ tabC4 k (by omega) (by omega)
  by_cases c5:k < 2816
  · exact chks_at 128 _ tabC5 k (by omega) (by omega)
  by_cases c6:k < 2944
  · exact chks_at 128 _ tabC6 k (by omega) (by omega)
  exact chks_at 128 _ tabC7 k (by omega) (by omega)
end Go.Sky
