/- Functions of the program, each with the Lean function that it computes. Conditions: none. -/
import Derived.Test.YtfjchccilkgcnaaSortBits
namespace Go.Sky
open Go Go.Eng Go.Proofs
open Go.Srt
def slices_nextPowerOfTwo (length : Int) : Int :=
  let r1 := math_bits_Len (wu64 length)
  wu64 (1 * 2 ^ (min r1.toNat 64))

set_option maxRecDepth 100000 in
theorem slices_nextPowerOfTwo_w (length : Int) (w : World) (hp : 1 ≤ length ∧ length < 65536) : Calls Try.prog 170 #[.int .i64 length] w (Ret w (.int .u64 (slices_nextPowerOfTwo length))) := by
  refine calls_intro (vs := [.int .i64 length]) (w := w) Try.func170 rfl Try.ntmps170 rfl ?_
  refine TC.weak [(0, .int .i64 length)] (by kernel_rfl) ?_
  refine TC.seq ?_
  refine TC.region ?_
  refine TL.run 1 [] [(0, .int .i64 length)] rfl ⟨by kernel_rfl, by kernel_rfl⟩ ?_
  refine TL.next rfl ?_
  refine TC.seq ?_
  refine TC.region ?_
  refine TL.run 2 [] [(4, .int .u64 (wu64 length))] rfl ⟨by kernel_rfl, by kernel_rfl⟩ ?_
  refine TL.call (some 5) [(5, .int .i64 (math_bits_Len (wu64 length)))] (fun w _ => math_bits_Len_w (wu64 length) w) (by kernel_rfl) (by kernel_rfl) ?_
  generalize hr1 : math_bits_Len (wu64 length) = r1
  refine TL.val (sV (binOp .shl 153 (.int .u64 1) (.int .i64 r1))) (some 6) (.int .u64 (wu64 (1 * 2 ^ (min r1.toNat 64)))) [(6, .int .u64 (wu64 (1 * 2 ^ (min r1.toNat 64))))] (fun w hM => run_shl (npot_side hp hr1)) (by kernel_rfl) (by kernel_rfl) ?_
  refine TL.run 5 [] [(2, .int .u64 (wu64 (1 * 2 ^ (min r1.toNat 64))))] rfl ⟨by kernel_rfl, by kernel_rfl⟩ ?_
  refine TL.next rfl ?_
  refine TC.ret ?_
  have e : slices_nextPowerOfTwo length = (wu64 (1 * 2 ^ (min r1.toNat 64))) := by subst hr1; unfold slices_nextPowerOfTwo; exact rfl
  exact TE.ret [] (.int .u64 (wu64 (1 * 2 ^ (min r1.toNat 64)))) ⟨by kernel_rfl, by kernel_rfl⟩ (by rw [e]; first | done | kernel_rfl)

end Go.Sky
