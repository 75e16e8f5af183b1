/- Lemmas toward the given statement (part 18 of 22): TabD. Each theorem states its own conditions; nothing is assumed beyond them. -/
import Derived.Test.YtjggkpkehdnhiaaGreatDoorBt14
namespace Go.Sky
open Go Go.Eng
set_option maxRecDepth 100000
theorem Ej:Jg 3072 128=true:=by kernel_rfl
theorem Ek:Jg 3200 128=true:=by kernel_rfl
theorem Em:Jg 3328 128=true:=by kernel_rfl
theorem En:Jg 3456 128=true:=by kernel_rfl
theorem Eo:Jg 3584 128=true:=by kernel_rfl
theorem Ep:Jg 3712 128=true:=by kernel_rfl
theorem Es:Jg 3840 128=true:=by kernel_rfl
theorem Et:Jg 3968 128=true:=by kernel_rfl
theorem E9 (k:Nat) (h0:3072 ≤ k) (h1:k < 4096):chk k=true:=by
  by_cases c0:k < 3200
  · exact YL 128 _ Ej k (by omega) (by omega)
  by_cases c1:k < 3328
  · exact YL 128 _ Ek k (by omega) (by omega)
  by_cases c2:k < 3456
  · exact YL 128 _ Em k (by omega) (by omega)
  by_cases c3:k < 3584
  · exact YL 128 _ En k (by omega) (by omega)
  by_cases c4:k < 3712
  · exact YL 128 _ Eo k (by omega) (by omega)
  by_cases c5:k < 3840
  · exact YL 128 _ Ep k (by omega) (by omega)
  by_cases c6:k < 3968
  · exact YL 128 _ Es k (by omega) (by omega)
  exact YL 128 _ Et k (by omega) (by omega)
end Go.Sky
