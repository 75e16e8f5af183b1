/- Lemmas toward the given statement (part 15 of 20): TabB. Each theorem states its own conditions; nothing is assumed beyond them. -/
import Derived.Test.YtjggkpkehdnhiaaGreatDoorBl13
namespace Go.Sky
open Go Go.Eng
set_option maxRecDepth 100000
theorem Em:Jk 1024 128=true:=by kernel_rfl
theorem En:Jk 1152 128=true:=by kernel_rfl
theorem Eo:Jk 1280 128=true:=by kernel_rfl
theorem Ep:Jk 1408 128=true:=by kernel_rfl
theorem Es:Jk 1536 128=true:=by kernel_rfl
theorem Et:Jk 1664 128=true:=by kernel_rfl
theorem Eu:Jk 1792 128=true:=by kernel_rfl
theorem Ew:Jk 1920 128=true:=by kernel_rfl
theorem EP (k:Nat) (h0:1024≤k) (h1:k<2048):chk k=true:=by
 by_cases c0:k<1152
 ·exact YN 128 _ Em k (by omega) (by omega)
 by_cases c1:k<1280
 ·exact YN 128 _ En k (by omega) (by omega)
 by_cases c2:k<1408
 ·exact YN 128 _ Eo k (by omega) (by omega)
 by_cases c3:k<1536
 ·exact YN 128 _ Ep k (by omega) (by omega)
 by_cases c4:k<1664
 ·exact YN 128 _ Es k (by omega) (by omega)
 by_cases c5:k<1792
 ·exact YN 128 _ Et k (by omega) (by omega)
 by_cases c6:k<1920
 ·exact YN 128 _ Eu k (by omega) (by omega)
 exact YN 128 _ Ew k (by omega) (by omega)
end Go.Sky
