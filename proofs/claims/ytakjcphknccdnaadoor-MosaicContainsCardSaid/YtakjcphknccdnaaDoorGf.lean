/- Functions of the program, each with the Lean function that it computes. Conditions: none. -/
import Derived.Test.YtakjcphknccdnaaDoorGu
namespace Go.Sky
open Go Go.Eng Go.Proofs
def math_Floor (x : Nat) : Nat :=
  ffloor x

set_option maxRecDepth 100000 in
theorem math_Floor_w (x : Nat) (w : World) (hx : Bd 60 x) : Calls Tryd.prog 33 #[.float .f64 x] w (Ret w (.float .f64 (math_Floor x))) := by
  refine calls_intro (vs := [.float .f64 x]) (w := w) Tryd.func33 rfl Tryd.ntmps33 rfl ?_
  refine TC.weak [(0, .float .f64 x)] (by kernel_rfl) ?_
  refine TC.seq ?_
  refine TC.region ?_
  refine TL.run 1 [] [(0, .float .f64 x)] rfl ⟨by kernel_rfl, by kernel_rfl⟩ ?_
  refine TL.next rfl ?_
  refine TC.seq ?_
  refine TC.condT rfl (by kernel_rfl) ?_
  refine TC.seq ?_
  refine TC.region ?_
  refine TL.run 1 [] [(3, .float .f64 x)] rfl ⟨by kernel_rfl, by kernel_rfl⟩ ?_
  refine TL.val (callFunc 55 #[.float .f64 x]) (some 4) (.float .f64 (ffloor x)) [(4, .float .f64 (ffloor x))] (fun w hM => run_ffloor Tryd.func55 (by kernel_rfl) (by kernel_rfl) (by kernel_rfl) (by kernel_rfl) (by exact fflS)) (by kernel_rfl) (by kernel_rfl) ?_
  refine TL.run 3 [] [(2, .float .f64 (ffloor x))] rfl ⟨by kernel_rfl, by kernel_rfl⟩ ?_
  refine TL.next rfl ?_
  refine TC.ret ?_
  refine TE.ret_then ?_
  have e : math_Floor x = (ffloor x) := by unfold math_Floor; exact rfl
  exact TE.ret [] (.float .f64 (ffloor x)) ⟨by kernel_rfl, by kernel_rfl⟩ (by rw [e]; first | done | kernel_rfl)

end Go.Sky
