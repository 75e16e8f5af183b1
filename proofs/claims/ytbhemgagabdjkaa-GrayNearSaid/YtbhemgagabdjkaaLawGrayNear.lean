/- The law GrayNear in plain Lean. Conditions: the argument is a 64-bit integer. -/
import Derived.Test.YtbhemgagabdjkaaBits
import Derived.Test.YtbhemgagabdjkaaOk
namespace Go.Sky
open Go Go.Eng Go.Glue

def grayOf (n : Nat) : Int := kxor .i64 (n : Int) ((n / 2 : Nat) : Int)
theorem gray_table : (List.range 611).all (fun n => decide (gray_Decode (grayOf n) = ((n : Int) * 100 - 1000, 0)) && (n == 610 || decide (gray_Change (grayOf n) (grayOf (n + 1)) = (1, 0)))) = true := by kernel_rfl
theorem gray_at {n : Nat} (h : n < 611) : gray_Decode (grayOf n) = ((n : Int) * 100 - 1000, 0) ∧ (n ≠ 610 → gray_Change (grayOf n) (grayOf (n + 1)) = (1, 0)) := by
  have := List.all_eq_true.1 gray_table n (List.mem_range.2 h)
  simp only [Bool.and_eq_true, Bool.or_eq_true, decide_eq_true_eq, beq_iff_eq] at this
  exact ⟨this.1, fun hn => this.2.resolve_left hn⟩

theorem encode_eq {h : Int} {n : Nat} (hn : (h + 1000) / 100 = (n : Int)) (hr : -1000 ≤ h ∧ h ≤ 60000) : gray_Encode h = (grayOf n, 0) := by
  unfold gray_Encode grayOf
  have e : ((decide (h < -1000)) || (decide (h > 60000))) = false := by simp; omega
  rw [e, cond_false]
  have e2 : w64 (h + 1000) = h + 1000 := w64_id (by omega)
  rw [e2, tdiv_pos 100 (by omega), hn, w64_id (by omega), tdiv_pos 2 (by omega), w64_id (by omega)]
  rfl
theorem encode_bad {h : Int} (hr : ¬ (-1000 ≤ h ∧ h ≤ 60000)) : gray_Encode h = (0, 4) := by
  unfold gray_Encode
  have e : ((decide (h < -1000)) || (decide (h > 60000))) = true := by simp; omega
  rw [e, cond_true]

theorem GrayNear_true (x0 : Int) (k0 : I64 x0) : skywaykeep2_GrayNear x0 = true := by
  unfold skywaykeep2_GrayNear
  have e0 : gray_Encode 0 = (15, 0) := by decide
  rw [e0]
  have e1 : (((0 : Int) != 0) || ((15 : Int) != 15)) = false := rfl
  simp only [e1, cond_false]
  have e2 : ((0 : Int) != 0) = false := rfl
  by_cases h : -1000 ≤ x0 ∧ x0 ≤ 60000
  · obtain ⟨n, hn⟩ : ∃ n : Nat, (x0 + 1000) / 100 = (n : Int) := ⟨((x0 + 1000) / 100).toNat, by omega⟩
    obtain ⟨d, c⟩ := gray_at (show n < 611 by omega)
    rw [encode_eq hn h]
    simp only [e2, cond_false, d]
    have e3 : w64 (x0 - ((n : Int) * 100 - 1000)) = x0 - ((n : Int) * 100 - 1000) := w64_id (by omega)
    have e4 : (((false || decide ((n : Int) * 100 - 1000 > x0)) || decide (x0 - ((n : Int) * 100 - 1000) > 99))) = false := by simp; omega
    rw [e3, e4, cond_false, w64_id (by unfold I64 at k0; omega)]
    by_cases h2 : x0 + 100 ≤ 60000
    · rw [encode_eq (n := n + 1) (by omega) (by omega), c (by omega)]
      rfl
    · rw [encode_bad (by omega)]
      rfl
  · rw [encode_bad h]
    rfl
end Go.Sky
