/- Lemmas toward the given statement (part 15 of 22): TabA. Each theorem states its own conditions; nothing is assumed beyond them. -/
import Derived.Test.YtjggkpkehdnhiaaGreatDoorBt14
namespace Go.Sky
open Go Go.Eng
set_option maxRecDepth 100000
theorem OL:Jg 0 128=true:=by kernel_rfl
theorem OM:Jg 128 128=true:=by kernel_rfl
theorem ON:Jg 256 128=true:=by kernel_rfl
theorem OO:Jg 384 128=true:=by kernel_rfl
theorem OP:Jg 512 128=true:=by kernel_rfl
theorem OQ:Jg 640 128=true:=by kernel_rfl
theorem OR:Jg 768 128=true:=by kernel_rfl
theorem OS:Jg 896 128=true:=by kernel_rfl
theorem E6 (k:Nat) (h0:0 ≤ k) (h1:k < 1024):chk k=true:=by
  by_cases c0:k < 128
  · exact YL 128 _ OL k (by omega) (by omega)
  by_cases c1:k < 256
  · exact YL 128 _ OM k (by omega) (by omega)
  by_cases c2:k < 384
  · exact YL 128 _ ON k (by omega) (by omega)
  by_cases c3:k < 512
  · exact YL 128 _ OO k (by omega) (by omega)
  by_cases c4:k < 640
  · exact YL 128 _ OP k (by omega) (by omega)
  by_cases c5:k < 768
  · exact YL 128 _ OQ k (by omega) (by omega)
  by_cases c6:k < 896
  · exact YL 128 _ OR k (by omega) (by omega)
  exact YL 128 _ OS k (by omega) (by omega)
end Go.Sky
