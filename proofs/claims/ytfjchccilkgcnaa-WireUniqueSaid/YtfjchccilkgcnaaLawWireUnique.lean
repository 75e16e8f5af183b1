/- WireUnique is true of every string. Conditions: none but the string's length. -/
import Derived.Test.YtfjchccilkgcnaaFe
import Derived.Test.YtfjchccilkgcnaaGlueS
namespace Go.Sky
open Go Go.Eng

theorem frames_true : skywaykeep2_frames = true := by kernel_rfl

theorem WireUnique_true (x0 : ByteArray) (_k0 : x0.size ≤ 140737488355328) : skywaykeep2_WireUnique x0 = true := by
  unfold skywaykeep2_WireUnique
  rw [frames_true]
  simp only [Bool.not_true, cond_false]
  rcases dec_cases x0 with ⟨e, h, he⟩ | ⟨n, xs, hd, h⟩
  · rw [h]
    simp only
    rw [show (e != 0) = true by simpa using he, cond_true]
    rfl
  · rw [h]
    simp only
    rw [show ((0 : Int) != 0) = false from rfl, cond_false, hd.enc]
    rw [show (((0 : Int) == 0) && decide (11 + 16 * n ≤ (x0.size : Int))) = true by rw [decide_eq_true hd.long]; rfl, cond_true]
    exact hd.same
end Go.Sky
