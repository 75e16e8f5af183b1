/- The power of two above a number, as a mask. Conditions: in each theorem. -/
import Derived.Test.YtfjchccilkgcnaaSg
namespace Go.Srt
open Go Go.Eng Go.Sky
theorem npot_le {n : Int} (h : 1 ≤ n ∧ n < 65536) : 1 ≤ slices_nextPowerOfTwo n ∧ slices_nextPowerOfTwo n ≤ 2 * n := by
  unfold slices_nextPowerOfTwo math_bits_Len
  simp only
  rw [show wu64 n = n from IntWalk.u64_in _ (by omega)]
  obtain ⟨t, e, h1, h2⟩ := len_spec h
  rw [e, Int.toNat_natCast, Nat.min_eq_left (by omega), Int.one_mul]
  have p1 : (0 : Int) < 2 ^ t := Int.pow_pos (by decide)
  rw [show wu64 ((2 : Int) ^ t) = 2 ^ t from IntWalk.u64_in _ (by omega)]
  exact ⟨by omega, h2⟩
theorem brk_in {n r : Int} (hr : slices_nextPowerOfTwo n = r) (h : 1 ≤ n ∧ n < 65536) (x : Int) : 0 ≤ kand .u64 x (wu64 (r - 1)) ∧ kand .u64 x (wu64 (r - 1)) < 2 * n := by
  subst hr
  have q := npot_le h
  rw [show wu64 (slices_nextPowerOfTwo n - 1) = slices_nextPowerOfTwo n - 1 from IntWalk.u64_in _ (by omega)]
  have := kand_le x (y := slices_nextPowerOfTwo n - 1) (by omega)
  omega
theorem len_in {n r : Int} (hr : math_bits_Len (wu64 n) = r) (h : 0 ≤ n ∧ n < 65536) : 0 ≤ r ∧ r ≤ 16 := by
  subst hr
  unfold math_bits_Len
  rw [show wu64 n = n from IntWalk.u64_in _ (by omega)]
  by_cases h0 : n = 0
  · subst h0
    have e : math_bits_Len64 0 = 0 := by kernel_rfl
    simp only [e]
    exact ⟨Int.le_refl _, by decide⟩
  · obtain ⟨t, e, h1, _⟩ := len_spec (x := n) (by omega)
    simp only [e]
    omega
end Go.Srt
