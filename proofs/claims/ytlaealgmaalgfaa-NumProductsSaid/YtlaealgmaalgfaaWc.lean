/- Functions of the program, each with the Lean function that it computes. Conditions: none. -/
import Derived.Test.YtlaealgmaalgfaaWord
namespace Go.Sky
open Go Go.Eng Go.Proofs
def num_magnitude (n : Int) : Int :=
  cond (decide (n < 0)) (
    wu64 (0 - (wu64 n))) (
    wu64 n)

set_option maxRecDepth 100000 in
theorem num_magnitude_w (n : Int) (w : World) : Calls Try.prog 72 #[.int .i64 n] w (Ret w (.int .u64 (num_magnitude n))) := by
  refine calls_intro (vs := [.int .i64 n]) (w := w) Try.func72 rfl Try.ntmps72 rfl ?_
  refine TC.weak [(0, .int .i64 n)] (by kernel_rfl) ?_
  refine TC.seq ?_
  refine TC.region ?_
  refine TL.run 1 [] [(0, .int .i64 n)] rfl ⟨by kernel_rfl, by kernel_rfl⟩ ?_
  refine TL.next rfl ?_
  refine TC.seq ?_
  refine TC.seq ?_
  refine TC.region ?_
  refine TL.run 2 [] [(0, .int .i64 n), (4, .bool (decide (n < 0)))] rfl ⟨by kernel_rfl, by kernel_rfl⟩ ?_
  refine TL.next rfl ?_
  refine TC.cond (decide (n < 0)) rfl (by kernel_rfl) (fun h1 => ?_) (fun h1 => ?_)
  · refine TC.seq ?_
    refine TC.region ?_
    refine TL.run 4 [] [(2, .int .u64 (wu64 (0 - (wu64 n))))] rfl ⟨by kernel_rfl, by kernel_rfl⟩ ?_
    refine TL.next rfl ?_
    refine TC.ret ?_
    refine TE.ret_then ?_
    have e : num_magnitude n = (wu64 (0 - (wu64 n))) := by unfold num_magnitude; exact cond_t h1 (rfl)
    exact TE.ret [] (.int .u64 (wu64 (0 - (wu64 n)))) ⟨by kernel_rfl, by kernel_rfl⟩ (by rw [e]; first | done | kernel_rfl)
  · refine TC.skip ?_
    refine TE.next ?_
    refine TC.seq ?_
    refine TC.region ?_
    refine TL.run 3 [] [(2, .int .u64 (wu64 n))] rfl ⟨by kernel_rfl, by kernel_rfl⟩ ?_
    refine TL.next rfl ?_
    refine TC.ret ?_
    have e : num_magnitude n = (wu64 n) := by unfold num_magnitude; exact cond_f h1 (rfl)
    exact TE.ret [] (.int .u64 (wu64 n)) ⟨by kernel_rfl, by kernel_rfl⟩ (by rw [e]; first | done | kernel_rfl)

def math_bits_Mul64 (x : Int) (y : Int) : Int × Int :=
  let r1 := kand .u64 x 4294967295
  let r2 := x.fdiv (2 ^ 32)
  let r3 := kand .u64 y 4294967295
  let r4 := y.fdiv (2 ^ 32)
  let r5 := wu64 (r1 * r3)
  let r6 := wu64 ((wu64 (r2 * r3)) + (r5.fdiv (2 ^ 32)))
  let r7 := kand .u64 r6 4294967295
  let r8 := r6.fdiv (2 ^ 32)
  let r9 := wu64 (r7 + (wu64 (r1 * r4)))
  (wu64 ((wu64 ((wu64 (r2 * r4)) + r8)) + (r9.fdiv (2 ^ 32))), wu64 (x * y))

set_option maxRecDepth 100000 in
theorem math_bits_Mul64_w (x : Int) (y : Int) (w : World) : Calls Try.prog 71 #[.int .u64 x, .int .u64 y] w (Ret w (.tuple #[.int .u64 ((math_bits_Mul64 x y).1), .int .u64 ((math_bits_Mul64 x y).2)])) := by
  refine calls_intro (vs := [.int .u64 x, .int .u64 y]) (w := w) Try.func71 rfl Try.ntmps71 rfl ?_
  refine TC.weak [(0, .int .u64 x), (1, .int .u64 y)] (by kernel_rfl) ?_
  refine TC.seq ?_
  refine TC.region ?_
  refine TL.run 2 [] [(0, .int .u64 x), (1, .int .u64 y)] rfl ⟨by kernel_rfl, by kernel_rfl⟩ ?_
  refine TL.next rfl ?_
  refine TC.seq ?_
  refine TC.region ?_
  refine TL.run 3 [] [(0, .int .u64 x), (1, .int .u64 y), (6, .int .u64 (kand .u64 x 4294967295))] rfl ⟨by kernel_rfl, by kernel_rfl⟩ ?_
  generalize hr1 : kand .u64 x 4294967295 = r1
  refine TL.next rfl ?_
  refine TC.seq ?_
  refine TC.region ?_
  refine TL.run 3 [] [(0, .int .u64 x), (1, .int .u64 y), (6, .int .u64 r1), (7, .int .u64 (x.fdiv (2 ^ 32)))] rfl ⟨by kernel_rfl, by kernel_rfl⟩ ?_
  generalize hr2 : x.fdiv (2 ^ 32) = r2
  refine TL.next rfl ?_
  refine TC.seq ?_
  refine TC.region ?_
  refine TL.run 3 [] [(0, .int .u64 x), (1, .int .u64 y), (6, .int .u64 r1), (7, .int .u64 r2), (8, .int .u64 (kand .u64 y 4294967295))] rfl ⟨by kernel_rfl, by kernel_rfl⟩ ?_
  generalize hr3 : kand .u64 y 4294967295 = r3
  refine TL.next rfl ?_
  refine TC.seq ?_
  refine TC.region ?_
  refine TL.run 3 [] [(0, .int .u64 x), (1, .int .u64 y), (6, .int .u64 r1), (7, .int .u64 r2), (8, .int .u64 r3), (9, .int .u64 (y.fdiv (2 ^ 32)))] rfl ⟨by kernel_rfl, by kernel_rfl⟩ ?_
  generalize hr4 : y.fdiv (2 ^ 32) = r4
  refine TL.next rfl ?_
  refine TC.seq ?_
  refine TC.region ?_
  refine TL.run 4 [] [(0, .int .u64 x), (1, .int .u64 y), (6, .int .u64 r1), (7, .int .u64 r2), (8, .int .u64 r3), (9, .int .u64 r4), (10, .int .u64 (wu64 (r1 * r3)))] rfl ⟨by kernel_rfl, by kernel_rfl⟩ ?_
  generalize hr5 : wu64 (r1 * r3) = r5
  refine TL.next rfl ?_
  refine TC.seq ?_
  refine TC.region ?_
  refine TL.run 7 [] [(0, .int .u64 x), (1, .int .u64 y), (6, .int .u64 r1), (7, .int .u64 r2), (9, .int .u64 r4), (11, .int .u64 (wu64 ((wu64 (r2 * r3)) + (r5.fdiv (2 ^ 32)))))] rfl ⟨by kernel_rfl, by kernel_rfl⟩ ?_
  generalize hr6 : wu64 ((wu64 (r2 * r3)) + (r5.fdiv (2 ^ 32))) = r6
  refine TL.next rfl ?_
  refine TC.seq ?_
  refine TC.region ?_
  refine TL.run 3 [] [(0, .int .u64 x), (1, .int .u64 y), (6, .int .u64 r1), (7, .int .u64 r2), (9, .int .u64 r4), (11, .int .u64 r6), (12, .int .u64 (kand .u64 r6 4294967295))] rfl ⟨by kernel_rfl, by kernel_rfl⟩ ?_
  generalize hr7 : kand .u64 r6 4294967295 = r7
  refine TL.next rfl ?_
  refine TC.seq ?_
  refine TC.region ?_
  refine TL.run 3 [] [(0, .int .u64 x), (1, .int .u64 y), (6, .int .u64 r1), (7, .int .u64 r2), (9, .int .u64 r4), (12, .int .u64 r7), (13, .int .u64 (r6.fdiv (2 ^ 32)))] rfl ⟨by kernel_rfl, by kernel_rfl⟩ ?_
  generalize hr8 : r6.fdiv (2 ^ 32) = r8
  refine TL.next rfl ?_
  refine TC.seq ?_
  refine TC.region ?_
  refine TL.run 6 [] [(0, .int .u64 x), (1, .int .u64 y), (7, .int .u64 r2), (9, .int .u64 r4), (12, .int .u64 (wu64 (r7 + (wu64 (r1 * r4))))), (13, .int .u64 r8)] rfl ⟨by kernel_rfl, by kernel_rfl⟩ ?_
  generalize hr9 : wu64 (r7 + (wu64 (r1 * r4))) = r9
  refine TL.next rfl ?_
  refine TC.seq ?_
  refine TC.region ?_
  refine TL.run 9 [] [(0, .int .u64 x), (1, .int .u64 y), (4, .int .u64 (wu64 ((wu64 ((wu64 (r2 * r4)) + r8)) + (r9.fdiv (2 ^ 32)))))] rfl ⟨by kernel_rfl, by kernel_rfl⟩ ?_
  refine TL.next rfl ?_
  refine TC.seq ?_
  refine TC.region ?_
  refine TL.run 4 [] [(4, .int .u64 (wu64 ((wu64 ((wu64 (r2 * r4)) + r8)) + (r9.fdiv (2 ^ 32))))), (5, .int .u64 (wu64 (x * y)))] rfl ⟨by kernel_rfl, by kernel_rfl⟩ ?_
  refine TL.next rfl ?_
  refine TC.ret ?_
  have e : math_bits_Mul64 x y = (wu64 ((wu64 ((wu64 (r2 * r4)) + r8)) + (r9.fdiv (2 ^ 32))), wu64 (x * y)) := by subst hr1 hr2 hr3 hr4 hr5 hr6 hr7 hr8 hr9; unfold math_bits_Mul64; exact rfl
  exact TE.ret [] (.tuple #[.int .u64 (wu64 ((wu64 ((wu64 (r2 * r4)) + r8)) + (r9.fdiv (2 ^ 32)))), .int .u64 (wu64 (x * y))]) ⟨by kernel_rfl, by kernel_rfl⟩ (by rw [e]; first | done | kernel_rfl)

def math_bits_Len64 (x : Int) : Int :=
  bindv (cond (decide (x ≥ 4294967296)) (
    (x.fdiv (2 ^ 32), 32)) (
    (x, 0))) (fun (x_2, n) =>
    bindv (cond (decide (x_2 ≥ 65536)) (
      (x_2.fdiv (2 ^ 16), w64 (n + 16))) (
      (x_2, n))) (fun (x_3, n_2) =>
      bindv (cond (decide (x_3 ≥ 256)) (
        (x_3.fdiv (2 ^ 8), w64 (n_2 + 8))) (
        (x_3, n_2))) (fun (x_4, n_3) =>
        let r1 := w64 (n_3 + (w64 (bat (⟨#[0, 1, 2, 2, 3, 3, 3, 3, 4, 4, 4, 4, 4, 4, 4, 4, 5, 5, 5, 5, 5, 5, 5, 5, 5, 5, 5, 5, 5, 5, 5, 5, 6, 6, 6, 6, 6, 6, 6, 6, 6, 6, 6, 6, 6, 6, 6, 6, 6, 6, 6, 6, 6, 6, 6, 6, 6, 6, 6, 6, 6, 6, 6, 6, 7, 7, 7, 7, 7, 7, 7, 7, 7, 7, 7, 7, 7, 7, 7, 7, 7, 7, 7, 7, 7, 7, 7, 7, 7, 7, 7, 7, 7, 7, 7, 7, 7, 7, 7, 7, 7, 7, 7, 7, 7, 7, 7, 7, 7, 7, 7, 7, 7, 7, 7, 7, 7, 7, 7, 7, 7, 7, 7, 7, 7, 7, 7, 7, 8, 8, 8, 8, 8, 8, 8, 8, 8, 8, 8, 8, 8, 8, 8, 8, 8, 8, 8, 8, 8, 8, 8, 8, 8, 8, 8, 8, 8, 8, 8, 8, 8, 8, 8, 8, 8, 8, 8, 8, 8, 8, 8, 8, 8, 8, 8, 8, 8, 8, 8, 8, 8, 8, 8, 8, 8, 8, 8, 8, 8, 8, 8, 8, 8, 8, 8, 8, 8, 8, 8, 8, 8, 8, 8, 8, 8, 8, 8, 8, 8, 8, 8, 8, 8, 8, 8, 8, 8, 8, 8, 8, 8, 8, 8, 8, 8, 8, 8, 8, 8, 8, 8, 8, 8, 8, 8, 8, 8, 8, 8, 8, 8, 8, 8, 8, 8, 8, 8, 8, 8, 8, 8, 8, 8, 8, 8, 8]⟩) ((wu8 x_4).toNat))))
        r1)))

set_option maxRecDepth 100000 in
theorem math_bits_Len64_w (x : Int) (w : World) : Calls Try.prog 101 #[.int .u64 x] w (Ret w (.int .i64 (math_bits_Len64 x))) := by
  refine calls_intro (vs := [.int .u64 x]) (w := w) Try.func101 rfl Try.ntmps101 rfl ?_
  refine TC.weak [(0, .int .u64 x)] (by kernel_rfl) ?_
  refine TC.seq ?_
  refine TC.region ?_
  refine TL.run 1 [] [(0, .int .u64 x), (2, .int .i64 0)] rfl ⟨by kernel_rfl, by kernel_rfl⟩ ?_
  refine TL.next rfl ?_
  refine TC.seq ?_
  refine TC.seq ?_
  refine TC.region ?_
  refine TL.run 2 [] [(0, .int .u64 x), (2, .int .i64 0), (4, .bool (decide (x ≥ 4294967296)))] rfl ⟨by kernel_rfl, by kernel_rfl⟩ ?_
  refine TL.next rfl ?_
  refine TC.cut (S := Int × Int) (fun (x_2, n) => [(0, .int .u64 x_2), (2, .int .i64 n)]) (fun (x_2, n) => []) (fun (x_2, n) => (cond (decide (x ≥ 4294967296)) (
    (x.fdiv (2 ^ 32), 32)) (
    (x, 0))) = (x_2, n)) ?_ ?_
  · refine TC.cond (decide (x ≥ 4294967296)) rfl (by kernel_rfl) (fun h1 => ?_) (fun h1 => ?_)
    · refine TC.seq ?_
      refine TC.region ?_
      refine TL.run 3 [] [(0, .int .u64 (x.fdiv (2 ^ 32)))] rfl ⟨by kernel_rfl, by kernel_rfl⟩ ?_
      refine TL.next rfl ?_
      refine TC.region ?_
      refine TL.run 1 [] [(0, .int .u64 (x.fdiv (2 ^ 32))), (2, .int .i64 32)] rfl ⟨by kernel_rfl, by kernel_rfl⟩ ?_
      refine TL.done rfl ?_
      exact TE.cut (x.fdiv (2 ^ 32), 32) (by exact cond_t h1 (rfl)) (by kernel_rfl) (.slnil)
    · refine TC.skip ?_
      exact TE.cut (x, 0) (by exact cond_f h1 (rfl)) (by kernel_rfl) (.slnil)
  · rintro ⟨x_2, n⟩ hJ
    refine TE.next ?_
    refine TC.seq ?_
    refine TC.seq ?_
    refine TC.region ?_
    refine TL.run 2 [] [(0, .int .u64 x_2), (2, .int .i64 n), (8, .bool (decide (x_2 ≥ 65536)))] rfl ⟨by kernel_rfl, by kernel_rfl⟩ ?_
    refine TL.next rfl ?_
    refine TC.cut (S := Int × Int) (fun (x_3, n_2) => [(0, .int .u64 x_3), (2, .int .i64 n_2)]) (fun (x_3, n_2) => []) (fun (x_3, n_2) => (cond (decide (x_2 ≥ 65536)) (
      (x_2.fdiv (2 ^ 16), w64 (n + 16))) (
      (x_2, n))) = (x_3, n_2)) ?_ ?_
    · refine TC.cond (decide (x_2 ≥ 65536)) rfl (by kernel_rfl) (fun h2 => ?_) (fun h2 => ?_)
      · refine TC.seq ?_
        refine TC.region ?_
        refine TL.run 3 [] [(0, .int .u64 (x_2.fdiv (2 ^ 16))), (2, .int .i64 n)] rfl ⟨by kernel_rfl, by kernel_rfl⟩ ?_
        refine TL.next rfl ?_
        refine TC.region ?_
        refine TL.run 3 [] [(0, .int .u64 (x_2.fdiv (2 ^ 16))), (2, .int .i64 (w64 (n + 16)))] rfl ⟨by kernel_rfl, by kernel_rfl⟩ ?_
        refine TL.done rfl ?_
        exact TE.cut (x_2.fdiv (2 ^ 16), w64 (n + 16)) (by exact cond_t h2 (rfl)) (by kernel_rfl) (.slnil)
      · refine TC.skip ?_
        exact TE.cut (x_2, n) (by exact cond_f h2 (rfl)) (by kernel_rfl) (.slnil)
    · rintro ⟨x_3, n_2⟩ hJ_2
      refine TE.next ?_
      refine TC.seq ?_
      refine TC.seq ?_
      refine TC.region ?_
      refine TL.run 2 [] [(0, .int .u64 x_3), (2, .int .i64 n_2), (14, .bool (decide (x_3 ≥ 256)))] rfl ⟨by kernel_rfl, by kernel_rfl⟩ ?_
      refine TL.next rfl ?_
      refine TC.cut (S := Int × Int) (fun (x_4, n_3) => [(0, .int .u64 x_4), (2, .int .i64 n_3)]) (fun (x_4, n_3) => []) (fun (x_4, n_3) => (cond (decide (x_3 ≥ 256)) (
        (x_3.fdiv (2 ^ 8), w64 (n_2 + 8))) (
        (x_3, n_2))) = (x_4, n_3)) ?_ ?_
      · refine TC.cond (decide (x_3 ≥ 256)) rfl (by kernel_rfl) (fun h3 => ?_) (fun h3 => ?_)
        · refine TC.seq ?_
          refine TC.region ?_
          refine TL.run 3 [] [(0, .int .u64 (x_3.fdiv (2 ^ 8))), (2, .int .i64 n_2)] rfl ⟨by kernel_rfl, by kernel_rfl⟩ ?_
          refine TL.next rfl ?_
          refine TC.region ?_
          refine TL.run 3 [] [(0, .int .u64 (x_3.fdiv (2 ^ 8))), (2, .int .i64 (w64 (n_2 + 8)))] rfl ⟨by kernel_rfl, by kernel_rfl⟩ ?_
          refine TL.done rfl ?_
          exact TE.cut (x_3.fdiv (2 ^ 8), w64 (n_2 + 8)) (by exact cond_t h3 (rfl)) (by kernel_rfl) (.slnil)
        · refine TC.skip ?_
          exact TE.cut (x_3, n_2) (by exact cond_f h3 (rfl)) (by kernel_rfl) (.slnil)
      · rintro ⟨x_4, n_3⟩ hJ_3
        refine TE.next ?_
        refine TC.seq ?_
        refine TC.region ?_
        refine TL.run 3 [] [(19, .int .i64 n_3), (21, .int .u8 (wu8 x_4))] rfl ⟨by kernel_rfl, by kernel_rfl⟩ ?_
        refine TL.val (sV (Instr.index 9 (.string (⟨#[0, 1, 2, 2, 3, 3, 3, 3, 4, 4, 4, 4, 4, 4, 4, 4, 5, 5, 5, 5, 5, 5, 5, 5, 5, 5, 5, 5, 5, 5, 5, 5, 6, 6, 6, 6, 6, 6, 6, 6, 6, 6, 6, 6, 6, 6, 6, 6, 6, 6, 6, 6, 6, 6, 6, 6, 6, 6, 6, 6, 6, 6, 6, 6, 7, 7, 7, 7, 7, 7, 7, 7, 7, 7, 7, 7, 7, 7, 7, 7, 7, 7, 7, 7, 7, 7, 7, 7, 7, 7, 7, 7, 7, 7, 7, 7, 7, 7, 7, 7, 7, 7, 7, 7, 7, 7, 7, 7, 7, 7, 7, 7, 7, 7, 7, 7, 7, 7, 7, 7, 7, 7, 7, 7, 7, 7, 7, 7, 8, 8, 8, 8, 8, 8, 8, 8, 8, 8, 8, 8, 8, 8, 8, 8, 8, 8, 8, 8, 8, 8, 8, 8, 8, 8, 8, 8, 8, 8, 8, 8, 8, 8, 8, 8, 8, 8, 8, 8, 8, 8, 8, 8, 8, 8, 8, 8, 8, 8, 8, 8, 8, 8, 8, 8, 8, 8, 8, 8, 8, 8, 8, 8, 8, 8, 8, 8, 8, 8, 8, 8, 8, 8, 8, 8, 8, 8, 8, 8, 8, 8, 8, 8, 8, 8, 8, 8, 8, 8, 8, 8, 8, 8, 8, 8, 8, 8, 8, 8, 8, 8, 8, 8, 8, 8, 8, 8, 8, 8, 8, 8, 8, 8, 8, 8, 8, 8, 8, 8, 8, 8, 8, 8, 8, 8, 8, 8]⟩)) (.int .u8 (wu8 x_4)))) (some 22) (.int .u8 (bat (⟨#[0, 1, 2, 2, 3, 3, 3, 3, 4, 4, 4, 4, 4, 4, 4, 4, 5, 5, 5, 5, 5, 5, 5, 5, 5, 5, 5, 5, 5, 5, 5, 5, 6, 6, 6, 6, 6, 6, 6, 6, 6, 6, 6, 6, 6, 6, 6, 6, 6, 6, 6, 6, 6, 6, 6, 6, 6, 6, 6, 6, 6, 6, 6, 6, 7, 7, 7, 7, 7, 7, 7, 7, 7, 7, 7, 7, 7, 7, 7, 7, 7, 7, 7, 7, 7, 7, 7, 7, 7, 7, 7, 7, 7, 7, 7, 7, 7, 7, 7, 7, 7, 7, 7, 7, 7, 7, 7, 7, 7, 7, 7, 7, 7, 7, 7, 7, 7, 7, 7, 7, 7, 7, 7, 7, 7, 7, 7, 7, 8, 8, 8, 8, 8, 8, 8, 8, 8, 8, 8, 8, 8, 8, 8, 8, 8, 8, 8, 8, 8, 8, 8, 8, 8, 8, 8, 8, 8, 8, 8, 8, 8, 8, 8, 8, 8, 8, 8, 8, 8, 8, 8, 8, 8, 8, 8, 8, 8, 8, 8, 8, 8, 8, 8, 8, 8, 8, 8, 8, 8, 8, 8, 8, 8, 8, 8, 8, 8, 8, 8, 8, 8, 8, 8, 8, 8, 8, 8, 8, 8, 8, 8, 8, 8, 8, 8, 8, 8, 8, 8, 8, 8, 8, 8, 8, 8, 8, 8, 8, 8, 8, 8, 8, 8, 8, 8, 8, 8, 8, 8, 8, 8, 8, 8, 8, 8, 8, 8, 8, 8, 8, 8, 8, 8, 8, 8, 8]⟩) ((wu8 x_4).toNat))) [(19, .int .i64 n_3), (22, .int .u8 (bat (⟨#[0, 1, 2, 2, 3, 3, 3, 3, 4, 4, 4, 4, 4, 4, 4, 4, 5, 5, 5, 5, 5, 5, 5, 5, 5, 5, 5, 5, 5, 5, 5, 5, 6, 6, 6, 6, 6, 6, 6, 6, 6, 6, 6, 6, 6, 6, 6, 6, 6, 6, 6, 6, 6, 6, 6, 6, 6, 6, 6, 6, 6, 6, 6, 6, 7, 7, 7, 7, 7, 7, 7, 7, 7, 7, 7, 7, 7, 7, 7, 7, 7, 7, 7, 7, 7, 7, 7, 7, 7, 7, 7, 7, 7, 7, 7, 7, 7, 7, 7, 7, 7, 7, 7, 7, 7, 7, 7, 7, 7, 7, 7, 7, 7, 7, 7, 7, 7, 7, 7, 7, 7, 7, 7, 7, 7, 7, 7, 7, 8, 8, 8, 8, 8, 8, 8, 8, 8, 8, 8, 8, 8, 8, 8, 8, 8, 8, 8, 8, 8, 8, 8, 8, 8, 8, 8, 8, 8, 8, 8, 8, 8, 8, 8, 8, 8, 8, 8, 8, 8, 8, 8, 8, 8, 8, 8, 8, 8, 8, 8, 8, 8, 8, 8, 8, 8, 8, 8, 8, 8, 8, 8, 8, 8, 8, 8, 8, 8, 8, 8, 8, 8, 8, 8, 8, 8, 8, 8, 8, 8, 8, 8, 8, 8, 8, 8, 8, 8, 8, 8, 8, 8, 8, 8, 8, 8, 8, 8, 8, 8, 8, 8, 8, 8, 8, 8, 8, 8, 8, 8, 8, 8, 8, 8, 8, 8, 8, 8, 8, 8, 8, 8, 8, 8, 8, 8, 8]⟩) ((wu8 x_4).toNat)))] (fun w hM => run_str_index (by kernel_rfl) (by first | exact (wu8_in _).1 | exact Int.lt_of_le_of_lt (wu8_in _).2 (by decide)) (by first | exact (wu8_in _).1 | exact Int.lt_of_le_of_lt (wu8_in _).2 (by decide))) (by kernel_rfl) (by kernel_rfl) ?_
        refine TL.run 7 [] [(2, .int .i64 (w64 (n_3 + (w64 (bat (⟨#[0, 1, 2, 2, 3, 3, 3, 3, 4, 4, 4, 4, 4, 4, 4, 4, 5, 5, 5, 5, 5, 5, 5, 5, 5, 5, 5, 5, 5, 5, 5, 5, 6, 6, 6, 6, 6, 6, 6, 6, 6, 6, 6, 6, 6, 6, 6, 6, 6, 6, 6, 6, 6, 6, 6, 6, 6, 6, 6, 6, 6, 6, 6, 6, 7, 7, 7, 7, 7, 7, 7, 7, 7, 7, 7, 7, 7, 7, 7, 7, 7, 7, 7, 7, 7, 7, 7, 7, 7, 7, 7, 7, 7, 7, 7, 7, 7, 7, 7, 7, 7, 7, 7, 7, 7, 7, 7, 7, 7, 7, 7, 7, 7, 7, 7, 7, 7, 7, 7, 7, 7, 7, 7, 7, 7, 7, 7, 7, 8, 8, 8, 8, 8, 8, 8, 8, 8, 8, 8, 8, 8, 8, 8, 8, 8, 8, 8, 8, 8, 8, 8, 8, 8, 8, 8, 8, 8, 8, 8, 8, 8, 8, 8, 8, 8, 8, 8, 8, 8, 8, 8, 8, 8, 8, 8, 8, 8, 8, 8, 8, 8, 8, 8, 8, 8, 8, 8, 8, 8, 8, 8, 8, 8, 8, 8, 8, 8, 8, 8, 8, 8, 8, 8, 8, 8, 8, 8, 8, 8, 8, 8, 8, 8, 8, 8, 8, 8, 8, 8, 8, 8, 8, 8, 8, 8, 8, 8, 8, 8, 8, 8, 8, 8, 8, 8, 8, 8, 8, 8, 8, 8, 8, 8, 8, 8, 8, 8, 8, 8, 8, 8, 8, 8, 8, 8, 8]⟩) ((wu8 x_4).toNat))))))] rfl ⟨by kernel_rfl, by kernel_rfl⟩ ?_
        generalize hr1 : w64 (n_3 + (w64 (bat (⟨#[0, 1, 2, 2, 3, 3, 3, 3, 4, 4, 4, 4, 4, 4, 4, 4, 5, 5, 5, 5, 5, 5, 5, 5, 5, 5, 5, 5, 5, 5, 5, 5, 6, 6, 6, 6, 6, 6, 6, 6, 6, 6, 6, 6, 6, 6, 6, 6, 6, 6, 6, 6, 6, 6, 6, 6, 6, 6, 6, 6, 6, 6, 6, 6, 7, 7, 7, 7, 7, 7, 7, 7, 7, 7, 7, 7, 7, 7, 7, 7, 7, 7, 7, 7, 7, 7, 7, 7, 7, 7, 7, 7, 7, 7, 7, 7, 7, 7, 7, 7, 7, 7, 7, 7, 7, 7, 7, 7, 7, 7, 7, 7, 7, 7, 7, 7, 7, 7, 7, 7, 7, 7, 7, 7, 7, 7, 7, 7, 8, 8, 8, 8, 8, 8, 8, 8, 8, 8, 8, 8, 8, 8, 8, 8, 8, 8, 8, 8, 8, 8, 8, 8, 8, 8, 8, 8, 8, 8, 8, 8, 8, 8, 8, 8, 8, 8, 8, 8, 8, 8, 8, 8, 8, 8, 8, 8, 8, 8, 8, 8, 8, 8, 8, 8, 8, 8, 8, 8, 8, 8, 8, 8, 8, 8, 8, 8, 8, 8, 8, 8, 8, 8, 8, 8, 8, 8, 8, 8, 8, 8, 8, 8, 8, 8, 8, 8, 8, 8, 8, 8, 8, 8, 8, 8, 8, 8, 8, 8, 8, 8, 8, 8, 8, 8, 8, 8, 8, 8, 8, 8, 8, 8, 8, 8, 8, 8, 8, 8, 8, 8, 8, 8, 8, 8, 8, 8]⟩) ((wu8 x_4).toNat)))) = r1
        refine TL.next rfl ?_
        refine TC.ret ?_
        have e : math_bits_Len64 x = r1 := by subst hr1; unfold math_bits_Len64; exact bindv_eq (hJ) (bindv_eq (hJ_2) (bindv_eq (hJ_3) (rfl)))
        exact TE.ret [] (.int .i64 r1) ⟨by kernel_rfl, by kernel_rfl⟩ (by rw [e]; first | done | kernel_rfl)

def math_bits_LeadingZeros64 (x : Int) : Int :=
  let r1 := math_bits_Len64 x
  w64 (64 - r1)

set_option maxRecDepth 100000 in
theorem math_bits_LeadingZeros64_w (x : Int) (w : World) : Calls Try.prog 97 #[.int .u64 x] w (Ret w (.int .i64 (math_bits_LeadingZeros64 x))) := by
  refine calls_intro (vs := [.int .u64 x]) (w := w) Try.func97 rfl Try.ntmps97 rfl ?_
  refine TC.weak [(0, .int .u64 x)] (by kernel_rfl) ?_
  refine TC.seq ?_
  refine TC.region ?_
  refine TL.run 1 [] [(0, .int .u64 x)] rfl ⟨by kernel_rfl, by kernel_rfl⟩ ?_
  refine TL.next rfl ?_
  refine TC.seq ?_
  refine TC.region ?_
  refine TL.run 1 [] [(3, .int .u64 x)] rfl ⟨by kernel_rfl, by kernel_rfl⟩ ?_
  refine TL.call (some 4) [(4, .int .i64 (math_bits_Len64 x))] (fun w _ => math_bits_Len64_w x w) (by kernel_rfl) (by kernel_rfl) ?_
  generalize hr1 : math_bits_Len64 x = r1
  refine TL.run 4 [] [(2, .int .i64 (w64 (64 - r1)))] rfl ⟨by kernel_rfl, by kernel_rfl⟩ ?_
  refine TL.next rfl ?_
  refine TC.ret ?_
  have e : math_bits_LeadingZeros64 x = (w64 (64 - r1)) := by subst hr1; unfold math_bits_LeadingZeros64; exact rfl
  exact TE.ret [] (.int .i64 (w64 (64 - r1))) ⟨by kernel_rfl, by kernel_rfl⟩ (by rw [e]; first | done | kernel_rfl)

def math_bits_Div64_L1 (r4 : Int) (r5 : Int) (r8 : Int) : Nat → Int → Int → Option Int
  | 0, _, _ => none
  | m + 1, q1, rhat => cond ((decide (q1 ≥ 4294967296)) || (decide ((wu64 (q1 * r5)) > (wu64 ((wu64 (4294967296 * rhat)) + r8))))) (
      let r12 := wu64 (q1 - 1)
      let r13 := wu64 (rhat + r4)
      cond (decide (r13 ≥ 4294967296)) (
        some (r12)) (
        math_bits_Div64_L1 r4 r5 r8 m r12 r13)) (
      some (q1))
def math_bits_Div64_L2 (r4 : Int) (r5 : Int) (r9 : Int) : Nat → Int → Int → Option Int
  | 0, _, _ => none
  | m + 1, rhat_2, q0 => cond ((decide (q0 ≥ 4294967296)) || (decide ((wu64 (q0 * r5)) > (wu64 ((wu64 (4294967296 * rhat_2)) + r9))))) (
      let r17 := wu64 (q0 - 1)
      let r18 := wu64 (rhat_2 + r4)
      cond (decide (r18 ≥ 4294967296)) (
        some (r17)) (
        math_bits_Div64_L2 r4 r5 r9 m r18 r17)) (
      some (q0))
def math_bits_Div64 (hi : Int) (lo : Int) (y : Int) : Int × Int :=
  cond (y == 0) (
    (0, 0)) (
    cond (decide (y ≤ hi)) (
      (0, 0)) (
      cond (hi == 0) (
        (wu64 (lo.tdiv y), lo.tmod y)) (
        let r1 := math_bits_LeadingZeros64 y
        let r2 := wu64 r1
        let r3 := wu64 (y * 2 ^ (min r2.toNat 64))
        let r4 := r3.fdiv (2 ^ 32)
        let r5 := kand .u64 r3 4294967295
        let r6 := kor .u64 (wu64 (hi * 2 ^ (min r2.toNat 64))) (lo.fdiv (2 ^ (min (wu64 (64 - r2)).toNat 64)))
        let r7 := wu64 (lo * 2 ^ (min r2.toNat 64))
        let r8 := r7.fdiv (2 ^ 32)
        let r9 := kand .u64 r7 4294967295
        let r10 := wu64 (r6.tdiv r4)
        let r11 := wu64 (r6 - (wu64 (r10 * r4)))
        bindv ((math_bits_Div64_L1 r4 r5 r8 3 r10 r11).getD 0) (fun q1_2 =>
          let r14 := wu64 ((wu64 ((wu64 (r6 * 4294967296)) + r8)) - (wu64 (q1_2 * r3)))
          let r15 := wu64 (r14.tdiv r4)
          let r16 := wu64 (r14 - (wu64 (r15 * r4)))
          bindv ((math_bits_Div64_L2 r4 r5 r9 3 r16 r15).getD 0) (fun q0_2 =>
            (wu64 ((wu64 (q1_2 * 4294967296)) + q0_2), (wu64 ((wu64 ((wu64 (r14 * 4294967296)) + r9)) - (wu64 (q0_2 * r3)))).fdiv (2 ^ (min r2.toNat 64))))))))

def lenTab : ByteArray := ⟨#[0, 1, 2, 2, 3, 3, 3, 3, 4, 4, 4, 4, 4, 4, 4, 4, 5, 5, 5, 5, 5, 5, 5, 5, 5, 5, 5, 5, 5, 5, 5, 5, 6, 6, 6, 6, 6, 6, 6, 6, 6, 6, 6, 6, 6, 6, 6, 6, 6, 6, 6, 6, 6, 6, 6, 6, 6, 6, 6, 6, 6, 6, 6, 6, 7, 7, 7, 7, 7, 7, 7, 7, 7, 7, 7, 7, 7, 7, 7, 7, 7, 7, 7, 7, 7, 7, 7, 7, 7, 7, 7, 7, 7, 7, 7, 7, 7, 7, 7, 7, 7, 7, 7, 7, 7, 7, 7, 7, 7, 7, 7, 7, 7, 7, 7, 7, 7, 7, 7, 7, 7, 7, 7, 7, 7, 7, 7, 7, 8, 8, 8, 8, 8, 8, 8, 8, 8, 8, 8, 8, 8, 8, 8, 8, 8, 8, 8, 8, 8, 8, 8, 8, 8, 8, 8, 8, 8, 8, 8, 8, 8, 8, 8, 8, 8, 8, 8, 8, 8, 8, 8, 8, 8, 8, 8, 8, 8, 8, 8, 8, 8, 8, 8, 8, 8, 8, 8, 8, 8, 8, 8, 8, 8, 8, 8, 8, 8, 8, 8, 8, 8, 8, 8, 8, 8, 8, 8, 8, 8, 8, 8, 8, 8, 8, 8, 8, 8, 8, 8, 8, 8, 8, 8, 8, 8, 8, 8, 8, 8, 8, 8, 8, 8, 8, 8, 8, 8, 8, 8, 8, 8, 8, 8, 8, 8, 8, 8, 8, 8, 8, 8, 8, 8, 8, 8, 8]⟩
/-! The length of a number in bits. -/
theorem len_tab : (List.range 256).all (fun b => b == 0 || (Nat.ble 1 (bat lenTab b).toNat && Nat.ble (bat lenTab b).toNat 8 && Nat.ble (2 ^ ((bat lenTab b).toNat - 1)) b && Nat.blt b (2 ^ (bat lenTab b).toNat))) = true := by kernel_rfl
theorem len_small {b : Int} (h : 1 ≤ b ∧ b ≤ 255) : ∃ t : Nat, bat lenTab (wu8 b).toNat = (t : Int) ∧ 1 ≤ t ∧ t ≤ 8 ∧ (2 : Int) ^ (t - 1) ≤ b ∧ b < 2 ^ t := by
  have e := List.all_eq_true.1 len_tab b.toNat (List.mem_range.2 (by omega))
  rw [show wu8 b = b by rw [wu8_eq]; omega]
  have hb := bat_in lenTab b.toNat
  simp only [Bool.or_eq_true, Bool.and_eq_true, beq_iff_eq, Nat.ble_eq, Nat.blt_eq] at e
  rcases e with e | ⟨⟨⟨e1, e2⟩, e3⟩, e4⟩
  · omega
  · refine ⟨(bat lenTab b.toNat).toNat, by omega, e1, e2, ?_, ?_⟩
    · have : ((2 ^ ((bat lenTab b.toNat).toNat - 1) : Nat) : Int) ≤ (b.toNat : Int) := by exact_mod_cast e3
      rw [Int.natCast_pow] at this
      have h2 : (b.toNat : Int) = b := by omega
      rw [h2] at this; exact this
    · have : ((b.toNat : Nat) : Int) < ((2 ^ (bat lenTab b.toNat).toNat : Nat) : Int) := by exact_mod_cast e4
      rw [Int.natCast_pow] at this
      have h2 : (b.toNat : Int) = b := by omega
      rw [h2] at this; exact this
theorem pow_cases {t : Nat} (h : 1 ≤ t ∧ t ≤ 8) {b : Int} (hb : (2 : Int) ^ (t - 1) ≤ b ∧ b < 2 ^ t) : (t = 1 ∧ b = 1) ∨ (t = 2 ∧ 2 ≤ b ∧ b < 4) ∨ (t = 3 ∧ 4 ≤ b ∧ b < 8) ∨ (t = 4 ∧ 8 ≤ b ∧ b < 16) ∨ (t = 5 ∧ 16 ≤ b ∧ b < 32) ∨ (t = 6 ∧ 32 ≤ b ∧ b < 64) ∨ (t = 7 ∧ 64 ≤ b ∧ b < 128) ∨ (t = 8 ∧ 128 ≤ b ∧ b < 256) := by
  have : t = 1 ∨ t = 2 ∨ t = 3 ∨ t = 4 ∨ t = 5 ∨ t = 6 ∨ t = 7 ∨ t = 8 := by omega
  rcases this with rfl | rfl | rfl | rfl | rfl | rfl | rfl | rfl <;> simp at hb <;> omega
/-- One halving of the search. -/
theorem len_step {x y : Int} {k n : Nat} (hy : y = x / 2 ^ k) (h : ∃ t : Nat, n = t ∧ 1 ≤ t ∧ (2 : Int) ^ (t - 1) ≤ y ∧ y < 2 ^ t) : (2 : Int) ^ (n + k - 1) ≤ x ∧ x < 2 ^ (n + k) := by
  obtain ⟨t, rfl, h1, h2, h3⟩ := h
  subst hy
  have hp : (0 : Int) < 2 ^ k := Int.pow_pos (by decide)
  constructor
  · rw [show n + k - 1 = (n - 1) + k by omega, Int.pow_add]
    exact (Int.le_ediv_iff_mul_le hp).1 h2
  · rw [Int.pow_add]
    exact (Int.ediv_lt_iff_lt_mul hp).1 h3
theorem len64_spec {x : Int} (h : 1 ≤ x ∧ x < 18446744073709551616) : ∃ n : Nat, math_bits_Len64 x = (n : Int) ∧ 1 ≤ n ∧ n ≤ 64 ∧ (2 : Int) ^ (n - 1) ≤ x ∧ x < 2 ^ n := by
  show ∃ n : Nat, bindv (cond (decide (x ≥ 4294967296)) (x.fdiv (2 ^ 32), 32) (x, 0)) (fun (x_2, n) => bindv (cond (decide (x_2 ≥ 65536)) (x_2.fdiv (2 ^ 16), w64 (n + 16)) (x_2, n)) (fun (x_3, n_2) =>
      bindv (cond (decide (x_3 ≥ 256)) (x_3.fdiv (2 ^ 8), w64 (n_2 + 8)) (x_3, n_2)) (fun (x_4, n_3) => w64 (n_3 + (w64 (bat lenTab (wu8 x_4).toNat)))))) = (n : Int) ∧ _
  obtain ⟨a, k1, ha1, ha2, ha3⟩ : ∃ (a : Int) (k1 : Nat), (cond (decide (x ≥ 4294967296)) (x.fdiv (2 ^ 32), (32 : Int)) (x, 0)) = (a, (k1 : Int)) ∧ a = x / 2 ^ k1 ∧ (k1 ≤ 32 ∧ 1 ≤ a ∧ a < 4294967296) := by
    by_cases c : x ≥ 4294967296
    · exact ⟨x / 2 ^ 32, 32, by rw [decide_eq_true c, cond_true, fdiv_pow]; rfl, rfl, by omega⟩
    · exact ⟨x, 0, by rw [decide_eq_false c, cond_false]; rfl, by simp, by omega⟩
  obtain ⟨b, k2, hb1, hb2, hb3⟩ : ∃ (b : Int) (k2 : Nat), (cond (decide (a ≥ 65536)) (a.fdiv (2 ^ 16), w64 ((k1 : Int) + 16)) (a, (k1 : Int))) = (b, ((k1 + k2 : Nat) : Int)) ∧ b = a / 2 ^ k2 ∧ (k2 ≤ 16 ∧ 1 ≤ b ∧ b < 65536) := by
    by_cases c : a ≥ 65536
    · exact ⟨a / 2 ^ 16, 16, by rw [decide_eq_true c, cond_true, fdiv_pow, w64_id (by omega)]; rfl, rfl, by omega⟩
    · exact ⟨a, 0, by rw [decide_eq_false c, cond_false]; rfl, by simp, by omega⟩
  obtain ⟨d, k3, hd1, hd2, hd3⟩ : ∃ (d : Int) (k3 : Nat), (cond (decide (b ≥ 256)) (b.fdiv (2 ^ 8), w64 (((k1 + k2 : Nat) : Int) + 8)) (b, ((k1 + k2 : Nat) : Int))) = (d, ((k1 + k2 + k3 : Nat) : Int)) ∧ d = b / 2 ^ k3 ∧ (k3 ≤ 8 ∧ 1 ≤ d ∧ d < 256) := by
    by_cases c : b ≥ 256
    · exact ⟨b / 2 ^ 8, 8, by rw [decide_eq_true c, cond_true, fdiv_pow, w64_id (by omega)]; rfl, rfl, by omega⟩
    · exact ⟨b, 0, by rw [decide_eq_false c, cond_false]; rfl, by simp, by omega⟩
  obtain ⟨t, t1, t2, t3, t4, t5⟩ := len_small (b := d) (by omega)
  have s1 := len_step (n := t) hd2 ⟨t, rfl, t2, t4, t5⟩
  have s2 := len_step (n := t + k3) hb2 ⟨t + k3, rfl, by omega, s1⟩
  have s3 := len_step (n := t + k3 + k2) ha2 ⟨t + k3 + k2, rfl, by omega, s2⟩
  refine ⟨t + k3 + k2 + k1, ?_, by omega, by omega, s3⟩
  rw [ha1]
  unfold bindv
  dsimp only
  rw [hb1]
  dsimp only
  rw [hd1]
  dsimp only
  rw [t1, w64_id (x := (t : Int)) (by omega), w64_id (by omega)]
  omega

/-! The divisor with its highest bit set. -/
theorem norm_spec {y r1 r2 r3 : Int} (h : 1 ≤ y ∧ y < 18446744073709551616) (h1 : math_bits_LeadingZeros64 y = r1) (h2 : wu64 r1 = r2) (h3 : wu64 (y * 2 ^ (min r2.toNat 64)) = r3) :
    ∃ s : Nat, s ≤ 63 ∧ r2 = (s : Int) ∧ min r2.toNat 64 = s ∧ r3 = y * 2 ^ s ∧ 9223372036854775808 ≤ r3 ∧ r3 < 18446744073709551616 := by
  obtain ⟨n, l1, l2, l3, l4, l5⟩ := len64_spec h
  have e1 : r1 = 64 - (n : Int) := by
    subst h1
    unfold math_bits_LeadingZeros64
    rw [l1, w64_id (by omega)]
  have e2 : r2 = ((64 - n : Nat) : Int) := by
    subst h2
    rw [e1, wu64_id (by omega)]; omega
  have e4 : min r2.toNat 64 = 64 - n := by omega
  have p0 : (0 : Int) < 2 ^ (64 - n) := Int.pow_pos (by decide)
  have hi : y * 2 ^ (64 - n) < 18446744073709551616 := by
    have := Int.mul_lt_mul_of_pos_right l5 p0
    rw [← Int.pow_add, show n + (64 - n) = 64 by omega] at this
    exact this
  have lo : 9223372036854775808 ≤ y * 2 ^ (64 - n) := by
    have := Int.mul_le_mul_of_nonneg_right l4 (Int.le_of_lt p0)
    rw [← Int.pow_add, show n - 1 + (64 - n) = 63 by omega] at this
    exact this
  refine ⟨64 - n, by omega, e2, e4, ?_, ?_⟩ <;> (rw [← h3, e4, wu64_id (by omega)])
  exact ⟨lo, hi⟩
theorem high_spec {y r1 r2 r3 r4 : Int} (h : 1 ≤ y ∧ y < 18446744073709551616) (h1 : math_bits_LeadingZeros64 y = r1) (h2 : wu64 r1 = r2) (h3 : wu64 (y * 2 ^ (min r2.toNat 64)) = r3) (h4 : r3.fdiv (2 ^ 32) = r4) : 2147483648 ≤ r4 ∧ r4 ≤ 4294967295 := by
  obtain ⟨s, _, _, _, _, a, b⟩ := norm_spec h h1 h2 h3
  rw [fdiv_pow] at h4
  omega
/-- The remainder of a word by a smaller one. -/
theorem word_rem {u v q r : Int} (hu : 0 ≤ u ∧ u < 18446744073709551616) (hv : 0 < v) (hq : wu64 (u.tdiv v) = q) (hr : wu64 (u - wu64 (q * v)) = r) : q = u / v ∧ r = u % v := by
  have d0 : u.tdiv v = u / v := Int.tdiv_eq_ediv_of_nonneg hu.1
  have d1 : 0 ≤ u / v := Int.ediv_nonneg hu.1 (Int.le_of_lt hv)
  have d2 : u / v ≤ u := Int.ediv_le_self _ hu.1
  have m := Int.mul_ediv_add_emod u v
  have m0 := Int.emod_nonneg u (show v ≠ 0 by omega)
  have m1 := Int.emod_lt_of_pos u hv
  have e1 : q = u / v := by rw [← hq, d0, wu64_id (by omega)]
  have c : u / v * v = v * (u / v) := Int.mul_comm ..
  have c0 : 0 ≤ u / v * v := Int.mul_nonneg d1 (Int.le_of_lt hv)
  refine ⟨e1, ?_⟩
  rw [← hr, e1, wu64_id (x := u / v * v) (by omega), wu64_id (by omega)]
  omega
theorem div_total1 {v1 v0 d : Int} (hv : 2147483648 ≤ v1 ∧ v1 ≤ 4294967295) : ∀ (m : Nat) (q r : Int), 0 ≤ r ∧ r < 4294967296 ∧ 4294967296 ≤ r + 2147483648 * (m : Int) → ∃ R, math_bits_Div64_L1 v1 v0 d m q r = some R
  | 0, q, r, h => by omega
  | m + 1, q, r, h => by
    unfold math_bits_Div64_L1
    cases ((decide (q ≥ 4294967296)) || (decide ((wu64 (q * v0)) > (wu64 ((wu64 (4294967296 * r)) + d)))))
    · exact ⟨_, rfl⟩
    · simp only [cond_true]
      rw [wu64_id (x := r + v1) (by omega)]
      by_cases hr : r + v1 ≥ 4294967296
      · rw [decide_eq_true hr]; exact ⟨_, rfl⟩
      · rw [decide_eq_false hr, cond_false]
        exact div_total1 hv m _ _ (by omega)
theorem div_L2 (v1 v0 d : Int) : ∀ (m : Nat) (r q : Int), math_bits_Div64_L2 v1 v0 d m r q = math_bits_Div64_L1 v1 v0 d m q r
  | 0, _, _ => rfl
  | m + 1, r, q => by
    unfold math_bits_Div64_L1 math_bits_Div64_L2
    have ih := div_L2 v1 v0 d m (wu64 (r + v1)) (wu64 (q - 1))
    simp only [ih]
theorem div_total {v1 v0 d u q r : Int} (hv : 2147483648 ≤ v1 ∧ v1 ≤ 4294967295) (hu : 0 ≤ u ∧ u < 18446744073709551616) (hq : wu64 (u.tdiv v1) = q) (hr : wu64 (u - wu64 (q * v1)) = r) : (∃ R, math_bits_Div64_L1 v1 v0 d 3 q r = some R) ∧ ∃ R, math_bits_Div64_L2 v1 v0 d 3 r q = some R := by
  obtain ⟨_, e⟩ := word_rem hu (by omega) hq hr
  have m0 := Int.emod_nonneg u (show v1 ≠ 0 by omega)
  have m1 := Int.emod_lt_of_pos u (show 0 < v1 by omega)
  have t := div_total1 (v0 := v0) (d := d) hv 3 q r (by omega)
  exact ⟨t, by rw [div_L2]; exact t⟩

set_option maxRecDepth 100000 in
theorem math_bits_Div64_w (hi : Int) (lo : Int) (y : Int) (w : World) (hp : (0 ≤ hi ∧ hi < y) ∧ y ≤ 18446744073709551615 ∧ 0 ≤ lo ∧ lo ≤ 18446744073709551615) : Calls Try.prog 73 #[.int .u64 hi, .int .u64 lo, .int .u64 y] w (Ret w (.tuple #[.int .u64 ((math_bits_Div64 hi lo y).1), .int .u64 ((math_bits_Div64 hi lo y).2)])) := by
  refine calls_intro (vs := [.int .u64 hi, .int .u64 lo, .int .u64 y]) (w := w) Try.func73 rfl Try.ntmps73 rfl ?_
  refine TC.weak [(0, .int .u64 hi), (1, .int .u64 lo), (2, .int .u64 y)] (by kernel_rfl) ?_
  refine TC.seq ?_
  refine TC.region ?_
  refine TL.run 2 [] [(0, .int .u64 hi), (1, .int .u64 lo), (2, .int .u64 y)] rfl ⟨by kernel_rfl, by kernel_rfl⟩ ?_
  refine TL.next rfl ?_
  refine TC.seq ?_
  refine TC.seq ?_
  refine TC.region ?_
  refine TL.run 2 [] [(0, .int .u64 hi), (1, .int .u64 lo), (2, .int .u64 y), (20, .bool (y == 0))] rfl ⟨by kernel_rfl, by kernel_rfl⟩ ?_
  refine TL.next rfl ?_
  refine TC.cond (y == 0) rfl (by kernel_rfl) (fun h1 => ?_) (fun h1 => ?_)
  · exact ((by have := beq_t h1; omega) : False).elim
  · refine TC.skip ?_
    refine TE.next ?_
    refine TC.seq ?_
    refine TC.seq ?_
    refine TC.region ?_
    refine TL.run 3 [] [(0, .int .u64 hi), (1, .int .u64 lo), (2, .int .u64 y), (24, .bool (decide (y ≤ hi)))] rfl ⟨by kernel_rfl, by kernel_rfl⟩ ?_
    refine TL.next rfl ?_
    refine TC.cond (decide (y ≤ hi)) rfl (by kernel_rfl) (fun h2 => ?_) (fun h2 => ?_)
    · exact ((by have := dec_t h2; omega) : False).elim
    · refine TC.skip ?_
      refine TE.next ?_
      refine TC.seq ?_
      refine TC.seq ?_
      refine TC.region ?_
      refine TL.run 2 [] [(0, .int .u64 hi), (1, .int .u64 lo), (2, .int .u64 y), (27, .bool (hi == 0))] rfl ⟨by kernel_rfl, by kernel_rfl⟩ ?_
      refine TL.next rfl ?_
      refine TC.cond (hi == 0) rfl (by kernel_rfl) (fun h3 => ?_) (fun h3 => ?_)
      · refine TC.seq ?_
        refine TC.draw 8 (by kernel_rfl) (by kernel_rfl) (by kernel_rfl) ?_
        refine TQ.run 2 [] [(1, .int .u64 lo), (2, .int .u64 y), (28, .int .u64 lo), (29, .int .u64 y)] rfl ⟨by kernel_rfl, by kernel_rfl⟩ ?_
        refine TQ.val (sV (binOp .quo 67 (.int .u64 lo) (.int .u64 y))) (some 30) (.int .u64 (wu64 (lo.tdiv y))) [(1, .int .u64 lo), (2, .int .u64 y), (30, .int .u64 (wu64 (lo.tdiv y)))] (fun w hM => run_quo (by omega)) rfl (by kernel_rfl) (by kernel_rfl) ?_
        refine TQ.run 5 [] [(30, .int .u64 (wu64 (lo.tdiv y))), (31, .int .u64 lo), (32, .int .u64 y)] rfl ⟨by kernel_rfl, by kernel_rfl⟩ ?_
        refine TQ.val (sV (binOp .rem 67 (.int .u64 lo) (.int .u64 y))) (some 33) (.int .u64 (lo.tmod y)) [(30, .int .u64 (wu64 (lo.tdiv y))), (33, .int .u64 (lo.tmod y))] (fun w hM => run_rem (by omega)) rfl (by kernel_rfl) (by kernel_rfl) ?_
        refine TQ.run 8 [] [(6, .int .u64 (wu64 (lo.tdiv y))), (7, .int .u64 (lo.tmod y))] rfl ⟨by kernel_rfl, by kernel_rfl⟩ ?_
        refine TQ.next rfl ?_
        refine TC.ret ?_
        refine TE.ret_then ?_
        have e : math_bits_Div64 hi lo y = (wu64 (lo.tdiv y), lo.tmod y) := by unfold math_bits_Div64; exact cond_f h1 (cond_f h2 (cond_t h3 (rfl)))
        exact TE.ret [] (.tuple #[.int .u64 (wu64 (lo.tdiv y)), .int .u64 (lo.tmod y)]) ⟨by kernel_rfl, by kernel_rfl⟩ (by rw [e]; first | done | kernel_rfl)
      · refine TC.skip ?_
        refine TE.next ?_
        refine TC.seq ?_
        refine TC.region ?_
        refine TL.run 1 [] [(0, .int .u64 hi), (1, .int .u64 lo), (2, .int .u64 y), (34, .int .u64 y)] rfl ⟨by kernel_rfl, by kernel_rfl⟩ ?_
        refine TL.call (some 35) [(0, .int .u64 hi), (1, .int .u64 lo), (2, .int .u64 y), (35, .int .i64 (math_bits_LeadingZeros64 y))] (fun w _ => math_bits_LeadingZeros64_w y w) (by kernel_rfl) (by kernel_rfl) ?_
        generalize hr1 : math_bits_LeadingZeros64 y = r1
        refine TL.run 4 [] [(0, .int .u64 hi), (1, .int .u64 lo), (2, .int .u64 y), (8, .int .u64 (wu64 r1))] rfl ⟨by kernel_rfl, by kernel_rfl⟩ ?_
        generalize hr2 : wu64 r1 = r2
        refine TL.next rfl ?_
        refine TC.seq ?_
        refine TC.region ?_
        refine TL.run 2 [] [(0, .int .u64 hi), (1, .int .u64 lo), (8, .int .u64 r2), (37, .int .u64 y), (38, .int .u64 r2)] rfl ⟨by kernel_rfl, by kernel_rfl⟩ ?_
        refine TL.val (sV (binOp .shl 67 (.int .u64 y) (.int .u64 r2))) (some 39) (.int .u64 (wu64 (y * 2 ^ (min r2.toNat 64)))) [(0, .int .u64 hi), (1, .int .u64 lo), (8, .int .u64 r2), (39, .int .u64 (wu64 (y * 2 ^ (min r2.toNat 64))))] (fun w hM => run_shl (by rw [← hr2]; exact wu64_nn _)) (by kernel_rfl) (by kernel_rfl) ?_
        refine TL.run 4 [] [(0, .int .u64 hi), (1, .int .u64 lo), (2, .int .u64 (wu64 (y * 2 ^ (min r2.toNat 64)))), (8, .int .u64 r2)] rfl ⟨by kernel_rfl, by kernel_rfl⟩ ?_
        generalize hr3 : wu64 (y * 2 ^ (min r2.toNat 64)) = r3
        refine TL.next rfl ?_
        refine TC.seq ?_
        refine TC.region ?_
        refine TL.run 3 [] [(0, .int .u64 hi), (1, .int .u64 lo), (2, .int .u64 r3), (8, .int .u64 r2), (9, .int .u64 (r3.fdiv (2 ^ 32)))] rfl ⟨by kernel_rfl, by kernel_rfl⟩ ?_
        generalize hr4 : r3.fdiv (2 ^ 32) = r4
        refine TL.next rfl ?_
        refine TC.seq ?_
        refine TC.region ?_
        refine TL.run 3 [] [(0, .int .u64 hi), (1, .int .u64 lo), (2, .int .u64 r3), (8, .int .u64 r2), (9, .int .u64 r4), (10, .int .u64 (kand .u64 r3 4294967295))] rfl ⟨by kernel_rfl, by kernel_rfl⟩ ?_
        generalize hr5 : kand .u64 r3 4294967295 = r5
        refine TL.next rfl ?_
        refine TC.seq ?_
        refine TC.region ?_
        refine TL.run 2 [] [(1, .int .u64 lo), (2, .int .u64 r3), (8, .int .u64 r2), (9, .int .u64 r4), (10, .int .u64 r5), (44, .int .u64 hi), (45, .int .u64 r2)] rfl ⟨by kernel_rfl, by kernel_rfl⟩ ?_
        refine TL.val (sV (binOp .shl 67 (.int .u64 hi) (.int .u64 r2))) (some 46) (.int .u64 (wu64 (hi * 2 ^ (min r2.toNat 64)))) [(1, .int .u64 lo), (2, .int .u64 r3), (8, .int .u64 r2), (9, .int .u64 r4), (10, .int .u64 r5), (46, .int .u64 (wu64 (hi * 2 ^ (min r2.toNat 64))))] (fun w hM => run_shl (by rw [← hr2]; exact wu64_nn _)) (by kernel_rfl) (by kernel_rfl) ?_
        refine TL.run 6 [] [(1, .int .u64 lo), (2, .int .u64 r3), (8, .int .u64 r2), (9, .int .u64 r4), (10, .int .u64 r5), (46, .int .u64 (wu64 (hi * 2 ^ (min r2.toNat 64)))), (47, .int .u64 lo), (49, .int .u64 (wu64 (64 - r2)))] rfl ⟨by kernel_rfl, by kernel_rfl⟩ ?_
        refine TL.val (sV (binOp .shr 67 (.int .u64 lo) (.int .u64 (wu64 (64 - r2))))) (some 50) (.int .u64 (lo.fdiv (2 ^ (min (wu64 (64 - r2)).toNat 64)))) [(1, .int .u64 lo), (2, .int .u64 r3), (8, .int .u64 r2), (9, .int .u64 r4), (10, .int .u64 r5), (46, .int .u64 (wu64 (hi * 2 ^ (min r2.toNat 64)))), (50, .int .u64 (lo.fdiv (2 ^ (min (wu64 (64 - r2)).toNat 64))))] (fun w hM => run_shr (wu64_nn _)) (by kernel_rfl) (by kernel_rfl) ?_
        refine TL.run 9 [] [(1, .int .u64 lo), (2, .int .u64 r3), (8, .int .u64 r2), (9, .int .u64 r4), (10, .int .u64 r5), (11, .int .u64 (kor .u64 (wu64 (hi * 2 ^ (min r2.toNat 64))) (lo.fdiv (2 ^ (min (wu64 (64 - r2)).toNat 64)))))] rfl ⟨by kernel_rfl, by kernel_rfl⟩ ?_
        generalize hr6 : kor .u64 (wu64 (hi * 2 ^ (min r2.toNat 64))) (lo.fdiv (2 ^ (min (wu64 (64 - r2)).toNat 64))) = r6
        refine TL.next rfl ?_
        refine TC.seq ?_
        refine TC.region ?_
        refine TL.run 2 [] [(2, .int .u64 r3), (8, .int .u64 r2), (9, .int .u64 r4), (10, .int .u64 r5), (11, .int .u64 r6), (52, .int .u64 lo), (53, .int .u64 r2)] rfl ⟨by kernel_rfl, by kernel_rfl⟩ ?_
        refine TL.val (sV (binOp .shl 67 (.int .u64 lo) (.int .u64 r2))) (some 54) (.int .u64 (wu64 (lo * 2 ^ (min r2.toNat 64)))) [(2, .int .u64 r3), (8, .int .u64 r2), (9, .int .u64 r4), (10, .int .u64 r5), (11, .int .u64 r6), (54, .int .u64 (wu64 (lo * 2 ^ (min r2.toNat 64))))] (fun w hM => run_shl (by rw [← hr2]; exact wu64_nn _)) (by kernel_rfl) (by kernel_rfl) ?_
        refine TL.run 4 [] [(2, .int .u64 r3), (8, .int .u64 r2), (9, .int .u64 r4), (10, .int .u64 r5), (11, .int .u64 r6), (12, .int .u64 (wu64 (lo * 2 ^ (min r2.toNat 64))))] rfl ⟨by kernel_rfl, by kernel_rfl⟩ ?_
        generalize hr7 : wu64 (lo * 2 ^ (min r2.toNat 64)) = r7
        refine TL.next rfl ?_
        refine TC.seq ?_
        refine TC.region ?_
        refine TL.run 3 [] [(2, .int .u64 r3), (8, .int .u64 r2), (9, .int .u64 r4), (10, .int .u64 r5), (11, .int .u64 r6), (12, .int .u64 r7), (13, .int .u64 (r7.fdiv (2 ^ 32)))] rfl ⟨by kernel_rfl, by kernel_rfl⟩ ?_
        generalize hr8 : r7.fdiv (2 ^ 32) = r8
        refine TL.next rfl ?_
        refine TC.seq ?_
        refine TC.region ?_
        refine TL.run 3 [] [(2, .int .u64 r3), (8, .int .u64 r2), (9, .int .u64 r4), (10, .int .u64 r5), (11, .int .u64 r6), (13, .int .u64 r8), (14, .int .u64 (kand .u64 r7 4294967295))] rfl ⟨by kernel_rfl, by kernel_rfl⟩ ?_
        generalize hr9 : kand .u64 r7 4294967295 = r9
        refine TL.next rfl ?_
        refine TC.seq ?_
        refine TC.region ?_
        refine TL.run 2 [] [(2, .int .u64 r3), (8, .int .u64 r2), (9, .int .u64 r4), (10, .int .u64 r5), (11, .int .u64 r6), (13, .int .u64 r8), (14, .int .u64 r9), (59, .int .u64 r6), (60, .int .u64 r4)] rfl ⟨by kernel_rfl, by kernel_rfl⟩ ?_
        refine TL.val (sV (binOp .quo 67 (.int .u64 r6) (.int .u64 r4))) (some 61) (.int .u64 (wu64 (r6.tdiv r4))) [(2, .int .u64 r3), (8, .int .u64 r2), (9, .int .u64 r4), (10, .int .u64 r5), (11, .int .u64 r6), (13, .int .u64 r8), (14, .int .u64 r9), (61, .int .u64 (wu64 (r6.tdiv r4)))] (fun w hM => run_quo (by have := high_spec (by omega) hr1 hr2 hr3 hr4; omega)) (by kernel_rfl) (by kernel_rfl) ?_
        refine TL.run 4 [] [(2, .int .u64 r3), (8, .int .u64 r2), (9, .int .u64 r4), (10, .int .u64 r5), (11, .int .u64 r6), (13, .int .u64 r8), (14, .int .u64 r9), (15, .int .u64 (wu64 (r6.tdiv r4)))] rfl ⟨by kernel_rfl, by kernel_rfl⟩ ?_
        generalize hr10 : wu64 (r6.tdiv r4) = r10
        refine TL.next rfl ?_
        refine TC.seq ?_
        refine TC.region ?_
        refine TL.run 6 [] [(2, .int .u64 r3), (8, .int .u64 r2), (9, .int .u64 r4), (10, .int .u64 r5), (11, .int .u64 r6), (13, .int .u64 r8), (14, .int .u64 r9), (15, .int .u64 r10), (16, .int .u64 (wu64 (r6 - (wu64 (r10 * r4)))))] rfl ⟨by kernel_rfl, by kernel_rfl⟩ ?_
        generalize hr11 : wu64 (r6 - (wu64 (r10 * r4))) = r11
        refine TL.next rfl ?_
        refine TC.seq ?_
        refine TC.weak [(2, .int .u64 r3), (8, .int .u64 r2), (9, .int .u64 r4), (10, .int .u64 r5), (11, .int .u64 r6), (13, .int .u64 r8), (14, .int .u64 r9), (15, .int .u64 r10), (16, .int .u64 r11)] (by kernel_rfl) ?_
        obtain ⟨R1, hR⟩ : ∃ R, math_bits_Div64_L1 r4 r5 r8 3 r10 r11 = some R := (div_total (high_spec (by omega) hr1 hr2 hr3 hr4) (by rw [← hr6]; exact kor_in _ _) hr10 hr11).1
        refine TC.cut (S := Int) (fun q1_2 => [(2, .int .u64 r3), (8, .int .u64 r2), (9, .int .u64 r4), (10, .int .u64 r5), (11, .int .u64 r6), (13, .int .u64 r8), (14, .int .u64 r9), (15, .int .u64 q1_2)]) (fun q1_2 => []) (fun q1_2 => R1 = q1_2) ?_ ?_
        · refine TC.block ?_
          refine TC.loop (X := Nat × Int × Int) (fun (m, q1, rhat) => [(2, .int .u64 r3), (8, .int .u64 r2), (9, .int .u64 r4), (10, .int .u64 r5), (11, .int .u64 r6), (13, .int .u64 r8), (14, .int .u64 r9), (15, .int .u64 q1), (16, .int .u64 rhat)]) (fun (m, q1, rhat) => []) (fun (m, q1, rhat) => m) (fun (m, q1, rhat) => math_bits_Div64_L1 r4 r5 r8 m q1 rhat = some R1) ?_ (3, r10, r11) hR
          rintro ⟨m, q1, rhat⟩ hI
          rcases m with _ | m
          · cases hI
          refine TC.seq ?_
          refine TC.seq ?_
          refine TC.region ?_
          refine TL.run 3 [] [(2, .int .u64 r3), (8, .int .u64 r2), (9, .int .u64 r4), (10, .int .u64 r5), (11, .int .u64 r6), (13, .int .u64 r8), (14, .int .u64 r9), (15, .int .u64 q1), (16, .int .u64 rhat), (69, .bool (decide (q1 ≥ 4294967296)))] rfl ⟨by kernel_rfl, by kernel_rfl⟩ ?_
          refine TL.join 69 (decide (q1 ≥ 4294967296)) 12 [] [] (fun β => [(2, .int .u64 r3), (8, .int .u64 r2), (9, .int .u64 r4), (10, .int .u64 r5), (11, .int .u64 r6), (13, .int .u64 r8), (14, .int .u64 r9), (15, .int .u64 q1), (16, .int .u64 rhat), (78, .bool (β || (decide ((wu64 (q1 * r5)) > (wu64 ((wu64 (4294967296 * rhat)) + r8))))))]) (by kernel_rfl) rfl ⟨by kernel_rfl, by kernel_rfl⟩ ⟨by kernel_rfl, by kernel_rfl⟩ ?_
          refine TL.next rfl ?_
          refine TC.cond ((decide (q1 ≥ 4294967296)) || (decide ((wu64 (q1 * r5)) > (wu64 ((wu64 (4294967296 * rhat)) + r8))))) rfl (by kernel_rfl) (fun h4 => ?_) (fun h4 => ?_)
          · refine TC.skip ?_
            refine TE.next ?_
            refine TC.block ?_
            refine TC.seq ?_
            refine TC.region ?_
            refine TL.run 3 [] [(2, .int .u64 r3), (8, .int .u64 r2), (9, .int .u64 r4), (10, .int .u64 r5), (11, .int .u64 r6), (13, .int .u64 r8), (14, .int .u64 r9), (15, .int .u64 (wu64 (q1 - 1))), (16, .int .u64 rhat)] rfl ⟨by kernel_rfl, by kernel_rfl⟩ ?_
            generalize hr12 : wu64 (q1 - 1) = r12
            refine TL.next rfl ?_
            refine TC.seq ?_
            refine TC.region ?_
            refine TL.run 4 [] [(2, .int .u64 r3), (8, .int .u64 r2), (9, .int .u64 r4), (10, .int .u64 r5), (11, .int .u64 r6), (13, .int .u64 r8), (14, .int .u64 r9), (15, .int .u64 r12), (16, .int .u64 (wu64 (rhat + r4)))] rfl ⟨by kernel_rfl, by kernel_rfl⟩ ?_
            generalize hr13 : wu64 (rhat + r4) = r13
            refine TL.next rfl ?_
            refine TC.seq ?_
            refine TC.region ?_
            refine TL.run 2 [] [(2, .int .u64 r3), (8, .int .u64 r2), (9, .int .u64 r4), (10, .int .u64 r5), (11, .int .u64 r6), (13, .int .u64 r8), (14, .int .u64 r9), (15, .int .u64 r12), (16, .int .u64 r13), (85, .bool (decide (r13 ≥ 4294967296)))] rfl ⟨by kernel_rfl, by kernel_rfl⟩ ?_
            refine TL.next rfl ?_
            refine TC.cond (decide (r13 ≥ 4294967296)) rfl (by kernel_rfl) (fun h5 => ?_) (fun h5 => ?_)
            · refine TC.exit ?_
              refine TE.exit_other rfl (TE.exit_then (TE.exit_same ?_))
              exact TE.cut r12 (Option.some.inj (hI.symm.trans (by subst hr1 hr2 hr3 hr4 hr5 hr6 hr7 hr8 hr9 hr10 hr11 hr12 hr13; exact cond_t h4 (cond_t h5 (rfl))))) (by kernel_rfl) (.slnil)
            · refine TC.skip ?_
              refine TE.normal_block ?_
              exact TE.again (x := (m + 1, q1, rhat)) (m, r12, r13) (by subst hr1 hr2 hr3 hr4 hr5 hr6 hr7 hr8 hr9 hr10 hr11 hr12 hr13; exact (Eq.symm (cond_t h4 (cond_f h5 (rfl)))).trans hI) (Nat.lt_succ_self _) (by kernel_rfl) (.slnil)
          · refine TC.exit ?_
            refine TE.exit_then (TE.exit_then (TE.exit_same ?_))
            exact TE.cut q1 (Option.some.inj (hI.symm.trans (by subst hr1 hr2 hr3 hr4 hr5 hr6 hr7 hr8 hr9 hr10 hr11; exact cond_f h4 (rfl)))) (by kernel_rfl) (.slnil)
        · rintro q1_2 hJ
          refine TE.next ?_
          refine TC.seq ?_
          refine TC.region ?_
          refine TL.run 9 [] [(2, .int .u64 r3), (8, .int .u64 r2), (9, .int .u64 r4), (10, .int .u64 r5), (14, .int .u64 r9), (15, .int .u64 q1_2), (17, .int .u64 (wu64 ((wu64 ((wu64 (r6 * 4294967296)) + r8)) - (wu64 (q1_2 * r3)))))] rfl ⟨by kernel_rfl, by kernel_rfl⟩ ?_
          generalize hr14 : wu64 ((wu64 ((wu64 (r6 * 4294967296)) + r8)) - (wu64 (q1_2 * r3))) = r14
          refine TL.next rfl ?_
          refine TC.seq ?_
          refine TC.region ?_
          refine TL.run 2 [] [(2, .int .u64 r3), (8, .int .u64 r2), (9, .int .u64 r4), (10, .int .u64 r5), (14, .int .u64 r9), (15, .int .u64 q1_2), (17, .int .u64 r14), (94, .int .u64 r14), (95, .int .u64 r4)] rfl ⟨by kernel_rfl, by kernel_rfl⟩ ?_
          refine TL.val (sV (binOp .quo 67 (.int .u64 r14) (.int .u64 r4))) (some 96) (.int .u64 (wu64 (r14.tdiv r4))) [(2, .int .u64 r3), (8, .int .u64 r2), (9, .int .u64 r4), (10, .int .u64 r5), (14, .int .u64 r9), (15, .int .u64 q1_2), (17, .int .u64 r14), (96, .int .u64 (wu64 (r14.tdiv r4)))] (fun w hM => run_quo (by have := high_spec (by omega) hr1 hr2 hr3 hr4; omega)) (by kernel_rfl) (by kernel_rfl) ?_
          refine TL.run 4 [] [(2, .int .u64 r3), (8, .int .u64 r2), (9, .int .u64 r4), (10, .int .u64 r5), (14, .int .u64 r9), (15, .int .u64 q1_2), (17, .int .u64 r14), (18, .int .u64 (wu64 (r14.tdiv r4)))] rfl ⟨by kernel_rfl, by kernel_rfl⟩ ?_
          generalize hr15 : wu64 (r14.tdiv r4) = r15
          refine TL.next rfl ?_
          refine TC.seq ?_
          refine TC.region ?_
          refine TL.run 6 [] [(2, .int .u64 r3), (8, .int .u64 r2), (9, .int .u64 r4), (10, .int .u64 r5), (14, .int .u64 r9), (15, .int .u64 q1_2), (16, .int .u64 (wu64 (r14 - (wu64 (r15 * r4))))), (17, .int .u64 r14), (18, .int .u64 r15)] rfl ⟨by kernel_rfl, by kernel_rfl⟩ ?_
          generalize hr16 : wu64 (r14 - (wu64 (r15 * r4))) = r16
          refine TL.next rfl ?_
          refine TC.seq ?_
          refine TC.weak [(2, .int .u64 r3), (8, .int .u64 r2), (9, .int .u64 r4), (10, .int .u64 r5), (14, .int .u64 r9), (15, .int .u64 q1_2), (16, .int .u64 r16), (17, .int .u64 r14), (18, .int .u64 r15)] (by kernel_rfl) ?_
          obtain ⟨R2, hR_2⟩ : ∃ R, math_bits_Div64_L2 r4 r5 r9 3 r16 r15 = some R := (div_total (high_spec (by omega) hr1 hr2 hr3 hr4) (by rw [← hr14, wu64_eq]; omega) hr15 hr16).2
          refine TC.cut (S := Int) (fun q0_2 => [(2, .int .u64 r3), (8, .int .u64 r2), (14, .int .u64 r9), (15, .int .u64 q1_2), (17, .int .u64 r14), (18, .int .u64 q0_2)]) (fun q0_2 => []) (fun q0_2 => R2 = q0_2) ?_ ?_
          · refine TC.block ?_
            refine TC.loop (X := Nat × Int × Int) (fun (m_2, rhat_2, q0) => [(2, .int .u64 r3), (8, .int .u64 r2), (9, .int .u64 r4), (10, .int .u64 r5), (14, .int .u64 r9), (15, .int .u64 q1_2), (16, .int .u64 rhat_2), (17, .int .u64 r14), (18, .int .u64 q0)]) (fun (m_2, rhat_2, q0) => []) (fun (m_2, rhat_2, q0) => m_2) (fun (m_2, rhat_2, q0) => math_bits_Div64_L2 r4 r5 r9 m_2 rhat_2 q0 = some R2) ?_ (3, r16, r15) hR_2
            rintro ⟨m_2, rhat_2, q0⟩ hI_2
            rcases m_2 with _ | m_2
            · cases hI_2
            refine TC.seq ?_
            refine TC.seq ?_
            refine TC.region ?_
            refine TL.run 3 [] [(2, .int .u64 r3), (8, .int .u64 r2), (9, .int .u64 r4), (10, .int .u64 r5), (14, .int .u64 r9), (15, .int .u64 q1_2), (16, .int .u64 rhat_2), (17, .int .u64 r14), (18, .int .u64 q0), (104, .bool (decide (q0 ≥ 4294967296)))] rfl ⟨by kernel_rfl, by kernel_rfl⟩ ?_
            refine TL.join 104 (decide (q0 ≥ 4294967296)) 12 [] [] (fun β => [(2, .int .u64 r3), (8, .int .u64 r2), (9, .int .u64 r4), (10, .int .u64 r5), (14, .int .u64 r9), (15, .int .u64 q1_2), (16, .int .u64 rhat_2), (17, .int .u64 r14), (18, .int .u64 q0), (113, .bool (β || (decide ((wu64 (q0 * r5)) > (wu64 ((wu64 (4294967296 * rhat_2)) + r9))))))]) (by kernel_rfl) rfl ⟨by kernel_rfl, by kernel_rfl⟩ ⟨by kernel_rfl, by kernel_rfl⟩ ?_
            refine TL.next rfl ?_
            refine TC.cond ((decide (q0 ≥ 4294967296)) || (decide ((wu64 (q0 * r5)) > (wu64 ((wu64 (4294967296 * rhat_2)) + r9))))) rfl (by kernel_rfl) (fun h6 => ?_) (fun h6 => ?_)
            · refine TC.skip ?_
              refine TE.next ?_
              refine TC.block ?_
              refine TC.seq ?_
              refine TC.region ?_
              refine TL.run 3 [] [(2, .int .u64 r3), (8, .int .u64 r2), (9, .int .u64 r4), (10, .int .u64 r5), (14, .int .u64 r9), (15, .int .u64 q1_2), (16, .int .u64 rhat_2), (17, .int .u64 r14), (18, .int .u64 (wu64 (q0 - 1)))] rfl ⟨by kernel_rfl, by kernel_rfl⟩ ?_
              generalize hr17 : wu64 (q0 - 1) = r17
              refine TL.next rfl ?_
              refine TC.seq ?_
              refine TC.region ?_
              refine TL.run 4 [] [(2, .int .u64 r3), (8, .int .u64 r2), (9, .int .u64 r4), (10, .int .u64 r5), (14, .int .u64 r9), (15, .int .u64 q1_2), (16, .int .u64 (wu64 (rhat_2 + r4))), (17, .int .u64 r14), (18, .int .u64 r17)] rfl ⟨by kernel_rfl, by kernel_rfl⟩ ?_
              generalize hr18 : wu64 (rhat_2 + r4) = r18
              refine TL.next rfl ?_
              refine TC.seq ?_
              refine TC.region ?_
              refine TL.run 2 [] [(2, .int .u64 r3), (8, .int .u64 r2), (9, .int .u64 r4), (10, .int .u64 r5), (14, .int .u64 r9), (15, .int .u64 q1_2), (16, .int .u64 r18), (17, .int .u64 r14), (18, .int .u64 r17), (120, .bool (decide (r18 ≥ 4294967296)))] rfl ⟨by kernel_rfl, by kernel_rfl⟩ ?_
              refine TL.next rfl ?_
              refine TC.cond (decide (r18 ≥ 4294967296)) rfl (by kernel_rfl) (fun h7 => ?_) (fun h7 => ?_)
              · refine TC.exit ?_
                refine TE.exit_other rfl (TE.exit_then (TE.exit_same ?_))
                exact TE.cut r17 (Option.some.inj (hI_2.symm.trans (by subst hr1 hr2 hr3 hr4 hr5 hr6 hr7 hr8 hr9 hr10 hr11 hr14 hr15 hr16 hr17 hr18; exact cond_t h6 (cond_t h7 (rfl))))) (by kernel_rfl) (.slnil)
              · refine TC.skip ?_
                refine TE.normal_block ?_
                exact TE.again (x := (m_2 + 1, rhat_2, q0)) (m_2, r18, r17) (by subst hr1 hr2 hr3 hr4 hr5 hr6 hr7 hr8 hr9 hr10 hr11 hr14 hr15 hr16 hr17 hr18; exact (Eq.symm (cond_t h6 (cond_f h7 (rfl)))).trans hI_2) (Nat.lt_succ_self _) (by kernel_rfl) (.slnil)
            · refine TC.exit ?_
              refine TE.exit_then (TE.exit_then (TE.exit_same ?_))
              exact TE.cut q0 (Option.some.inj (hI_2.symm.trans (by subst hr1 hr2 hr3 hr4 hr5 hr6 hr7 hr8 hr9 hr10 hr11 hr14 hr15 hr16; exact cond_f h6 (rfl)))) (by kernel_rfl) (.slnil)
          · rintro q0_2 hJ_2
            refine TE.next ?_
            refine TC.seq ?_
            refine TC.region ?_
            refine TL.run 13 [] [(124, .int .u64 (wu64 ((wu64 (q1_2 * 4294967296)) + q0_2))), (132, .int .u64 (wu64 ((wu64 ((wu64 (r14 * 4294967296)) + r9)) - (wu64 (q0_2 * r3))))), (133, .int .u64 r2)] rfl ⟨by kernel_rfl, by kernel_rfl⟩ ?_
            refine TL.val (sV (binOp .shr 67 (.int .u64 (wu64 ((wu64 ((wu64 (r14 * 4294967296)) + r9)) - (wu64 (q0_2 * r3))))) (.int .u64 r2))) (some 134) (.int .u64 ((wu64 ((wu64 ((wu64 (r14 * 4294967296)) + r9)) - (wu64 (q0_2 * r3)))).fdiv (2 ^ (min r2.toNat 64)))) [(124, .int .u64 (wu64 ((wu64 (q1_2 * 4294967296)) + q0_2))), (134, .int .u64 ((wu64 ((wu64 ((wu64 (r14 * 4294967296)) + r9)) - (wu64 (q0_2 * r3)))).fdiv (2 ^ (min r2.toNat 64))))] (fun w hM => run_shr (by rw [← hr2]; exact wu64_nn _)) (by kernel_rfl) (by kernel_rfl) ?_
            refine TL.run 16 [] [(6, .int .u64 (wu64 ((wu64 (q1_2 * 4294967296)) + q0_2))), (7, .int .u64 ((wu64 ((wu64 ((wu64 (r14 * 4294967296)) + r9)) - (wu64 (q0_2 * r3)))).fdiv (2 ^ (min r2.toNat 64))))] rfl ⟨by kernel_rfl, by kernel_rfl⟩ ?_
            refine TL.next rfl ?_
            refine TC.ret ?_
            have e : math_bits_Div64 hi lo y = (wu64 ((wu64 (q1_2 * 4294967296)) + q0_2), (wu64 ((wu64 ((wu64 (r14 * 4294967296)) + r9)) - (wu64 (q0_2 * r3)))).fdiv (2 ^ (min r2.toNat 64))) := by subst hr1 hr2 hr3 hr4 hr5 hr6 hr7 hr8 hr9 hr10 hr11 hr14 hr15 hr16; unfold math_bits_Div64; exact cond_f h1 (cond_f h2 (cond_f h3 (bindv_eq ((congrArg (Option.getD · _) hR).trans hJ) (bindv_eq ((congrArg (Option.getD · _) hR_2).trans hJ_2) (rfl)))))
            exact TE.ret [] (.tuple #[.int .u64 (wu64 ((wu64 (q1_2 * 4294967296)) + q0_2)), .int .u64 ((wu64 ((wu64 ((wu64 (r14 * 4294967296)) + r9)) - (wu64 (q0_2 * r3)))).fdiv (2 ^ (min r2.toNat 64)))]) ⟨by kernel_rfl, by kernel_rfl⟩ (by rw [e]; first | done | kernel_rfl)

end Go.Sky
