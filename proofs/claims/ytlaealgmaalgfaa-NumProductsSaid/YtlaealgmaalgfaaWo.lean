/- Functions of the program, each with the Lean function that it computes. Conditions: none. -/
import Derived.Test.YtlaealgmaalgfaaWc
namespace Go.Sky
open Go Go.Eng Go.Proofs
def num_MulDiv (a : Int) (b_ : Int) (c : Int) : Int × Int :=
  cond (c == 0) (
    (0, 10)) (
    let r1 := num_magnitude a
    let r2 := num_magnitude b_
    let r3 := math_bits_Mul64 r1 r2
    let r4 := num_magnitude c
    cond (decide (r3.1 ≥ r4)) (
      (0, 2)) (
      let r5 := math_bits_Div64 r3.1 r3.2 r4
      cond (!(!((!((decide (a < 0)) == (decide (b_ < 0)))) == (decide (c < 0))))) (
        cond (decide (r5.1 > 9223372036854775807)) (
          (0, 2)) (
          (w64 r5.1, 0))) (
        cond (r3.1 == 0) (
          cond (r3.2 == 0) (
            cond (decide (r5.1 > 9223372036854775807)) (
              (0, 2)) (
              (w64 r5.1, 0))) (
            cond (decide (r5.2 > 0)) (
              cond ((decide ((wu64 (r5.1 + 1)) > 9223372036854775808)) || ((wu64 (r5.1 + 1)) == 0)) (
                (0, 2)) (
                (w64 (wu64 (0 - (wu64 (r5.1 + 1)))), 0))) (
              cond ((decide (r5.1 > 9223372036854775808)) || (r5.1 == 0)) (
                (0, 2)) (
                (w64 (wu64 (0 - r5.1)), 0))))) (
          cond (decide (r5.2 > 0)) (
            cond ((decide ((wu64 (r5.1 + 1)) > 9223372036854775808)) || ((wu64 (r5.1 + 1)) == 0)) (
              (0, 2)) (
              (w64 (wu64 (0 - (wu64 (r5.1 + 1)))), 0))) (
            cond ((decide (r5.1 > 9223372036854775808)) || (r5.1 == 0)) (
              (0, 2)) (
              (w64 (wu64 (0 - r5.1)), 0)))))))

theorem wu64_in (x : Int) : 0 ≤ wu64 x ∧ wu64 x ≤ 18446744073709551615 := by rw [wu64_eq]; omega
theorem mul64_in {x y : Int} {r : Int × Int} (hr : math_bits_Mul64 x y = r) : (0 ≤ r.1 ∧ r.1 ≤ 18446744073709551615) ∧ 0 ≤ r.2 ∧ r.2 ≤ 18446744073709551615 := by
  subst hr
  exact ⟨wu64_in _, wu64_in _⟩
theorem mag_in {x r : Int} (hr : num_magnitude x = r) : 0 ≤ r ∧ r ≤ 18446744073709551615 := by
  subst hr
  unfold num_magnitude
  cases decide (x < 0)
  · exact wu64_in _
  · exact wu64_in _

set_option maxRecDepth 100000 in
theorem num_MulDiv_w (a : Int) (b_ : Int) (c : Int) (w : World) : Calls Try.prog 33 #[.int .i64 a, .int .i64 b_, .int .i64 c] w (Ret w (.tuple #[.int .i64 ((num_MulDiv a b_ c).1), .int .i64 ((num_MulDiv a b_ c).2)])) := by
  refine calls_intro (vs := [.int .i64 a, .int .i64 b_, .int .i64 c]) (w := w) Try.func33 rfl Try.ntmps33 rfl ?_
  refine TC.weak [(0, .int .i64 a), (1, .int .i64 b_), (2, .int .i64 c)] (by kernel_rfl) ?_
  refine TC.seq ?_
  refine TC.region ?_
  refine TL.run 2 [] [(0, .int .i64 a), (1, .int .i64 b_), (2, .int .i64 c)] rfl ⟨by kernel_rfl, by kernel_rfl⟩ ?_
  refine TL.next rfl ?_
  refine TC.seq ?_
  refine TC.seq ?_
  refine TC.region ?_
  refine TL.run 2 [] [(0, .int .i64 a), (1, .int .i64 b_), (2, .int .i64 c), (15, .bool (c == 0))] rfl ⟨by kernel_rfl, by kernel_rfl⟩ ?_
  refine TL.next rfl ?_
  refine TC.cond (c == 0) rfl (by kernel_rfl) (fun h1 => ?_) (fun h1 => ?_)
  · refine TC.seq ?_
    refine TC.region ?_
    refine TL.run 2 [] [(6, .int .i64 0), (7, .int .i64 10)] rfl ⟨by kernel_rfl, by kernel_rfl⟩ ?_
    refine TL.next rfl ?_
    refine TC.ret ?_
    refine TE.ret_then ?_
    have e : num_MulDiv a b_ c = (0, 10) := by unfold num_MulDiv; exact cond_t h1 (rfl)
    exact TE.ret [] (.tuple #[.int .i64 0, .int .i64 10]) ⟨by kernel_rfl, by kernel_rfl⟩ (by rw [e]; first | done | kernel_rfl)
  · refine TC.skip ?_
    refine TE.next ?_
    refine TC.seq ?_
    refine TC.region ?_
    refine TL.run 1 [] [(0, .int .i64 a), (1, .int .i64 b_), (2, .int .i64 c), (17, .int .i64 a)] rfl ⟨by kernel_rfl, by kernel_rfl⟩ ?_
    refine TL.call (some 18) [(0, .int .i64 a), (1, .int .i64 b_), (2, .int .i64 c), (18, .int .u64 (num_magnitude a))] (fun w _ => num_magnitude_w a w) (by kernel_rfl) (by kernel_rfl) ?_
    generalize hr1 : num_magnitude a = r1
    refine TL.run 3 [] [(0, .int .i64 a), (1, .int .i64 b_), (2, .int .i64 c), (18, .int .u64 r1), (19, .int .i64 b_)] rfl ⟨by kernel_rfl, by kernel_rfl⟩ ?_
    refine TL.call (some 20) [(0, .int .i64 a), (1, .int .i64 b_), (2, .int .i64 c), (18, .int .u64 r1), (20, .int .u64 (num_magnitude b_))] (fun w _ => num_magnitude_w b_ w) (by kernel_rfl) (by kernel_rfl) ?_
    generalize hr2 : num_magnitude b_ = r2
    refine TL.call (some 21) [(0, .int .i64 a), (1, .int .i64 b_), (2, .int .i64 c), (21, .tuple #[.int .u64 ((math_bits_Mul64 r1 r2).1), .int .u64 ((math_bits_Mul64 r1 r2).2)])] (fun w _ => math_bits_Mul64_w r1 r2 w) (by kernel_rfl) (by kernel_rfl) ?_
    generalize hr3 : math_bits_Mul64 r1 r2 = r3
    refine TL.run 10 [] [(0, .int .i64 a), (1, .int .i64 b_), (2, .int .i64 c), (8, .int .u64 r3.1), (9, .int .u64 r3.2)] rfl ⟨by kernel_rfl, by kernel_rfl⟩ ?_
    refine TL.next rfl ?_
    refine TC.seq ?_
    refine TC.region ?_
    refine TL.run 1 [] [(0, .int .i64 a), (1, .int .i64 b_), (2, .int .i64 c), (8, .int .u64 r3.1), (9, .int .u64 r3.2), (24, .int .i64 c)] rfl ⟨by kernel_rfl, by kernel_rfl⟩ ?_
    refine TL.call (some 25) [(0, .int .i64 a), (1, .int .i64 b_), (2, .int .i64 c), (8, .int .u64 r3.1), (9, .int .u64 r3.2), (25, .int .u64 (num_magnitude c))] (fun w _ => num_magnitude_w c w) (by kernel_rfl) (by kernel_rfl) ?_
    generalize hr4 : num_magnitude c = r4
    refine TL.run 3 [] [(0, .int .i64 a), (1, .int .i64 b_), (2, .int .i64 c), (8, .int .u64 r3.1), (9, .int .u64 r3.2), (10, .int .u64 r4)] rfl ⟨by kernel_rfl, by kernel_rfl⟩ ?_
    refine TL.next rfl ?_
    refine TC.seq ?_
    refine TC.seq ?_
    refine TC.region ?_
    refine TL.run 3 [] [(0, .int .i64 a), (1, .int .i64 b_), (2, .int .i64 c), (8, .int .u64 r3.1), (9, .int .u64 r3.2), (10, .int .u64 r4), (28, .bool (decide (r3.1 ≥ r4)))] rfl ⟨by kernel_rfl, by kernel_rfl⟩ ?_
    refine TL.next rfl ?_
    refine TC.cond (decide (r3.1 ≥ r4)) rfl (by kernel_rfl) (fun h2 => ?_) (fun h2 => ?_)
    · refine TC.seq ?_
      refine TC.region ?_
      refine TL.run 2 [] [(6, .int .i64 0), (7, .int .i64 2)] rfl ⟨by kernel_rfl, by kernel_rfl⟩ ?_
      refine TL.next rfl ?_
      refine TC.ret ?_
      refine TE.ret_then ?_
      have e : num_MulDiv a b_ c = (0, 2) := by subst hr1 hr2 hr3 hr4; unfold num_MulDiv; exact cond_f h1 (cond_t h2 (rfl))
      exact TE.ret [] (.tuple #[.int .i64 0, .int .i64 2]) ⟨by kernel_rfl, by kernel_rfl⟩ (by rw [e]; first | done | kernel_rfl)
    · refine TC.skip ?_
      refine TE.next ?_
      refine TC.seq ?_
      refine TC.region ?_
      refine TL.run 3 [] [(0, .int .i64 a), (1, .int .i64 b_), (2, .int .i64 c), (8, .int .u64 r3.1), (9, .int .u64 r3.2), (30, .int .u64 r3.1), (31, .int .u64 r3.2), (32, .int .u64 r4)] rfl ⟨by kernel_rfl, by kernel_rfl⟩ ?_
      refine TL.call (some 33) [(0, .int .i64 a), (1, .int .i64 b_), (2, .int .i64 c), (8, .int .u64 r3.1), (9, .int .u64 r3.2), (33, .tuple #[.int .u64 ((math_bits_Div64 r3.1 r3.2 r4).1), .int .u64 ((math_bits_Div64 r3.1 r3.2 r4).2)])] (fun w _ => math_bits_Div64_w r3.1 r3.2 r4 w (by have a_ := mul64_in hr3; have b_ := mag_in hr4; have c_ := dec_f h2; omega)) (by kernel_rfl) (by kernel_rfl) ?_
      generalize hr5 : math_bits_Div64 r3.1 r3.2 r4 = r5
      refine TL.run 9 [] [(0, .int .i64 a), (1, .int .i64 b_), (2, .int .i64 c), (8, .int .u64 r3.1), (9, .int .u64 r3.2), (11, .int .u64 r5.1), (12, .int .u64 r5.2)] rfl ⟨by kernel_rfl, by kernel_rfl⟩ ?_
      refine TL.next rfl ?_
      refine TC.seq ?_
      refine TC.region ?_
      refine TL.run 9 [] [(8, .int .u64 r3.1), (9, .int .u64 r3.2), (11, .int .u64 r5.1), (12, .int .u64 r5.2), (13, .bool (!((!((decide (a < 0)) == (decide (b_ < 0)))) == (decide (c < 0)))))] rfl ⟨by kernel_rfl, by kernel_rfl⟩ ?_
      refine TL.next rfl ?_
      refine TC.seq ?_
      refine TC.seq ?_
      refine TC.region ?_
      refine TL.run 3 [] [(8, .int .u64 r3.1), (9, .int .u64 r3.2), (11, .int .u64 r5.1), (12, .int .u64 r5.2), (46, .bool (!(!((!((decide (a < 0)) == (decide (b_ < 0)))) == (decide (c < 0))))))] rfl ⟨by kernel_rfl, by kernel_rfl⟩ ?_
      refine TL.split 46 (!(!((!((decide (a < 0)) == (decide (b_ < 0)))) == (decide (c < 0))))) (by kernel_rfl) (fun h3 => ?_) (fun h3 => ?_)
      · refine TL.run 10 [] [(11, .int .u64 r5.1), (12, .int .u64 r5.2), (53, .bool true)] rfl ⟨by kernel_rfl, by kernel_rfl⟩ ?_
        refine TL.next rfl ?_
        refine TC.condT rfl (by kernel_rfl) ?_
        refine TC.seq ?_
        refine TC.seq ?_
        refine TC.region ?_
        refine TL.run 2 [] [(11, .int .u64 r5.1), (55, .bool (decide (r5.1 > 9223372036854775807)))] rfl ⟨by kernel_rfl, by kernel_rfl⟩ ?_
        refine TL.next rfl ?_
        refine TC.cond (decide (r5.1 > 9223372036854775807)) rfl (by kernel_rfl) (fun h4 => ?_) (fun h4 => ?_)
        · refine TC.seq ?_
          refine TC.region ?_
          refine TL.run 2 [] [(6, .int .i64 0), (7, .int .i64 2)] rfl ⟨by kernel_rfl, by kernel_rfl⟩ ?_
          refine TL.next rfl ?_
          refine TC.ret ?_
          refine TE.ret_then (TE.ret_then ?_)
          have e : num_MulDiv a b_ c = (0, 2) := by subst hr1 hr2 hr3 hr4 hr5; unfold num_MulDiv; exact cond_f h1 (cond_f h2 (cond_t h3 (cond_t h4 (rfl))))
          exact TE.ret [] (.tuple #[.int .i64 0, .int .i64 2]) ⟨by kernel_rfl, by kernel_rfl⟩ (by rw [e]; first | done | kernel_rfl)
        · refine TC.skip ?_
          refine TE.next ?_
          refine TC.seq ?_
          refine TC.region ?_
          refine TL.run 4 [] [(6, .int .i64 (w64 r5.1)), (7, .int .i64 0)] rfl ⟨by kernel_rfl, by kernel_rfl⟩ ?_
          refine TL.next rfl ?_
          refine TC.ret ?_
          refine TE.ret_then ?_
          have e : num_MulDiv a b_ c = (w64 r5.1, 0) := by subst hr1 hr2 hr3 hr4 hr5; unfold num_MulDiv; exact cond_f h1 (cond_f h2 (cond_t h3 (cond_f h4 (rfl))))
          exact TE.ret [] (.tuple #[.int .i64 (w64 r5.1), .int .i64 0]) ⟨by kernel_rfl, by kernel_rfl⟩ (by rw [e]; first | done | kernel_rfl)
      · refine TL.run 6 [] [(9, .int .u64 r3.2), (11, .int .u64 r5.1), (12, .int .u64 r5.2), (46, .bool false), (49, .bool (r3.1 == 0))] rfl ⟨by kernel_rfl, by kernel_rfl⟩ ?_
        refine TL.split 49 (r3.1 == 0) (by kernel_rfl) (fun h5 => ?_) (fun h5 => ?_)
        · refine TL.run 10 [] [(11, .int .u64 r5.1), (12, .int .u64 r5.2), (53, .bool (r3.2 == 0))] rfl ⟨by kernel_rfl, by kernel_rfl⟩ ?_
          refine TL.next rfl ?_
          refine TC.cond (r3.2 == 0) rfl (by kernel_rfl) (fun h6 => ?_) (fun h6 => ?_)
          · refine TC.seq ?_
            refine TC.seq ?_
            refine TC.region ?_
            refine TL.run 2 [] [(11, .int .u64 r5.1), (55, .bool (decide (r5.1 > 9223372036854775807)))] rfl ⟨by kernel_rfl, by kernel_rfl⟩ ?_
            refine TL.next rfl ?_
            refine TC.cond (decide (r5.1 > 9223372036854775807)) rfl (by kernel_rfl) (fun h7 => ?_) (fun h7 => ?_)
            · refine TC.seq ?_
              refine TC.region ?_
              refine TL.run 2 [] [(6, .int .i64 0), (7, .int .i64 2)] rfl ⟨by kernel_rfl, by kernel_rfl⟩ ?_
              refine TL.next rfl ?_
              refine TC.ret ?_
              refine TE.ret_then (TE.ret_then ?_)
              have e : num_MulDiv a b_ c = (0, 2) := by subst hr1 hr2 hr3 hr4 hr5; unfold num_MulDiv; exact cond_f h1 (cond_f h2 (cond_f h3 (cond_t h5 (cond_t h6 (cond_t h7 (rfl))))))
              exact TE.ret [] (.tuple #[.int .i64 0, .int .i64 2]) ⟨by kernel_rfl, by kernel_rfl⟩ (by rw [e]; first | done | kernel_rfl)
            · refine TC.skip ?_
              refine TE.next ?_
              refine TC.seq ?_
              refine TC.region ?_
              refine TL.run 4 [] [(6, .int .i64 (w64 r5.1)), (7, .int .i64 0)] rfl ⟨by kernel_rfl, by kernel_rfl⟩ ?_
              refine TL.next rfl ?_
              refine TC.ret ?_
              refine TE.ret_then ?_
              have e : num_MulDiv a b_ c = (w64 r5.1, 0) := by subst hr1 hr2 hr3 hr4 hr5; unfold num_MulDiv; exact cond_f h1 (cond_f h2 (cond_f h3 (cond_t h5 (cond_t h6 (cond_f h7 (rfl))))))
              exact TE.ret [] (.tuple #[.int .i64 (w64 r5.1), .int .i64 0]) ⟨by kernel_rfl, by kernel_rfl⟩ (by rw [e]; first | done | kernel_rfl)
          · refine TC.skip ?_
            refine TE.next ?_
            refine TC.seq ?_
            refine TC.seq ?_
            refine TC.region ?_
            refine TL.run 2 [] [(11, .int .u64 r5.1), (59, .bool (decide (r5.2 > 0)))] rfl ⟨by kernel_rfl, by kernel_rfl⟩ ?_
            refine TL.next rfl ?_
            refine TC.cond (decide (r5.2 > 0)) rfl (by kernel_rfl) (fun h8 => ?_) (fun h8 => ?_)
            · refine TC.region ?_
              refine TL.run 3 [] [(11, .int .u64 (wu64 (r5.1 + 1)))] rfl ⟨by kernel_rfl, by kernel_rfl⟩ ?_
              refine TL.next rfl ?_
              refine TC.seq ?_
              refine TC.seq ?_
              refine TC.region ?_
              refine TL.run 3 [] [(11, .int .u64 (wu64 (r5.1 + 1))), (64, .bool (decide ((wu64 (r5.1 + 1)) > 9223372036854775808)))] rfl ⟨by kernel_rfl, by kernel_rfl⟩ ?_
              refine TL.join 64 (decide ((wu64 (r5.1 + 1)) > 9223372036854775808)) 6 [] [] (fun β => [(11, .int .u64 (wu64 (r5.1 + 1))), (67, .bool (β || ((wu64 (r5.1 + 1)) == 0)))]) (by kernel_rfl) rfl ⟨by kernel_rfl, by kernel_rfl⟩ ⟨by kernel_rfl, by kernel_rfl⟩ ?_
              refine TL.next rfl ?_
              refine TC.cond ((decide ((wu64 (r5.1 + 1)) > 9223372036854775808)) || ((wu64 (r5.1 + 1)) == 0)) rfl (by kernel_rfl) (fun h9 => ?_) (fun h9 => ?_)
              · refine TC.seq ?_
                refine TC.region ?_
                refine TL.run 2 [] [(6, .int .i64 0), (7, .int .i64 2)] rfl ⟨by kernel_rfl, by kernel_rfl⟩ ?_
                refine TL.next rfl ?_
                refine TC.ret ?_
                refine TE.ret_then ?_
                have e : num_MulDiv a b_ c = (0, 2) := by subst hr1 hr2 hr3 hr4 hr5; unfold num_MulDiv; exact cond_f h1 (cond_f h2 (cond_f h3 (cond_t h5 (cond_f h6 (cond_t h8 (cond_t h9 (rfl)))))))
                exact TE.ret [] (.tuple #[.int .i64 0, .int .i64 2]) ⟨by kernel_rfl, by kernel_rfl⟩ (by rw [e]; first | done | kernel_rfl)
              · refine TC.skip ?_
                refine TE.next ?_
                refine TC.seq ?_
                refine TC.region ?_
                refine TL.run 5 [] [(6, .int .i64 (w64 (wu64 (0 - (wu64 (r5.1 + 1)))))), (7, .int .i64 0)] rfl ⟨by kernel_rfl, by kernel_rfl⟩ ?_
                refine TL.next rfl ?_
                refine TC.ret ?_
                have e : num_MulDiv a b_ c = (w64 (wu64 (0 - (wu64 (r5.1 + 1)))), 0) := by subst hr1 hr2 hr3 hr4 hr5; unfold num_MulDiv; exact cond_f h1 (cond_f h2 (cond_f h3 (cond_t h5 (cond_f h6 (cond_t h8 (cond_f h9 (rfl)))))))
                exact TE.ret [] (.tuple #[.int .i64 (w64 (wu64 (0 - (wu64 (r5.1 + 1))))), .int .i64 0]) ⟨by kernel_rfl, by kernel_rfl⟩ (by rw [e]; first | done | kernel_rfl)
            · refine TC.skip ?_
              refine TE.next ?_
              refine TC.seq ?_
              refine TC.seq ?_
              refine TC.region ?_
              refine TL.run 3 [] [(11, .int .u64 r5.1), (64, .bool (decide (r5.1 > 9223372036854775808)))] rfl ⟨by kernel_rfl, by kernel_rfl⟩ ?_
              refine TL.join 64 (decide (r5.1 > 9223372036854775808)) 6 [] [] (fun β => [(11, .int .u64 r5.1), (67, .bool (β || (r5.1 == 0)))]) (by kernel_rfl) rfl ⟨by kernel_rfl, by kernel_rfl⟩ ⟨by kernel_rfl, by kernel_rfl⟩ ?_
              refine TL.next rfl ?_
              refine TC.cond ((decide (r5.1 > 9223372036854775808)) || (r5.1 == 0)) rfl (by kernel_rfl) (fun h10 => ?_) (fun h10 => ?_)
              · refine TC.seq ?_
                refine TC.region ?_
                refine TL.run 2 [] [(6, .int .i64 0), (7, .int .i64 2)] rfl ⟨by kernel_rfl, by kernel_rfl⟩ ?_
                refine TL.next rfl ?_
                refine TC.ret ?_
                refine TE.ret_then ?_
                have e : num_MulDiv a b_ c = (0, 2) := by subst hr1 hr2 hr3 hr4 hr5; unfold num_MulDiv; exact cond_f h1 (cond_f h2 (cond_f h3 (cond_t h5 (cond_f h6 (cond_f h8 (cond_t h10 (rfl)))))))
                exact TE.ret [] (.tuple #[.int .i64 0, .int .i64 2]) ⟨by kernel_rfl, by kernel_rfl⟩ (by rw [e]; first | done | kernel_rfl)
              · refine TC.skip ?_
                refine TE.next ?_
                refine TC.seq ?_
                refine TC.region ?_
                refine TL.run 5 [] [(6, .int .i64 (w64 (wu64 (0 - r5.1)))), (7, .int .i64 0)] rfl ⟨by kernel_rfl, by kernel_rfl⟩ ?_
                refine TL.next rfl ?_
                refine TC.ret ?_
                have e : num_MulDiv a b_ c = (w64 (wu64 (0 - r5.1)), 0) := by subst hr1 hr2 hr3 hr4 hr5; unfold num_MulDiv; exact cond_f h1 (cond_f h2 (cond_f h3 (cond_t h5 (cond_f h6 (cond_f h8 (cond_f h10 (rfl)))))))
                exact TE.ret [] (.tuple #[.int .i64 (w64 (wu64 (0 - r5.1))), .int .i64 0]) ⟨by kernel_rfl, by kernel_rfl⟩ (by rw [e]; first | done | kernel_rfl)
        · refine TL.run 10 [] [(11, .int .u64 r5.1), (12, .int .u64 r5.2), (53, .bool false)] rfl ⟨by kernel_rfl, by kernel_rfl⟩ ?_
          refine TL.next rfl ?_
          refine TC.condF rfl (by kernel_rfl) ?_
          refine TC.skip ?_
          refine TE.next ?_
          refine TC.seq ?_
          refine TC.seq ?_
          refine TC.region ?_
          refine TL.run 2 [] [(11, .int .u64 r5.1), (59, .bool (decide (r5.2 > 0)))] rfl ⟨by kernel_rfl, by kernel_rfl⟩ ?_
          refine TL.next rfl ?_
          refine TC.cond (decide (r5.2 > 0)) rfl (by kernel_rfl) (fun h11 => ?_) (fun h11 => ?_)
          · refine TC.region ?_
            refine TL.run 3 [] [(11, .int .u64 (wu64 (r5.1 + 1)))] rfl ⟨by kernel_rfl, by kernel_rfl⟩ ?_
            refine TL.next rfl ?_
            refine TC.seq ?_
            refine TC.seq ?_
            refine TC.region ?_
            refine TL.run 3 [] [(11, .int .u64 (wu64 (r5.1 + 1))), (64, .bool (decide ((wu64 (r5.1 + 1)) > 9223372036854775808)))] rfl ⟨by kernel_rfl, by kernel_rfl⟩ ?_
            refine TL.join 64 (decide ((wu64 (r5.1 + 1)) > 9223372036854775808)) 6 [] [] (fun β => [(11, .int .u64 (wu64 (r5.1 + 1))), (67, .bool (β || ((wu64 (r5.1 + 1)) == 0)))]) (by kernel_rfl) rfl ⟨by kernel_rfl, by kernel_rfl⟩ ⟨by kernel_rfl, by kernel_rfl⟩ ?_
            refine TL.next rfl ?_
            refine TC.cond ((decide ((wu64 (r5.1 + 1)) > 9223372036854775808)) || ((wu64 (r5.1 + 1)) == 0)) rfl (by kernel_rfl) (fun h12 => ?_) (fun h12 => ?_)
            · refine TC.seq ?_
              refine TC.region ?_
              refine TL.run 2 [] [(6, .int .i64 0), (7, .int .i64 2)] rfl ⟨by kernel_rfl, by kernel_rfl⟩ ?_
              refine TL.next rfl ?_
              refine TC.ret ?_
              refine TE.ret_then ?_
              have e : num_MulDiv a b_ c = (0, 2) := by subst hr1 hr2 hr3 hr4 hr5; unfold num_MulDiv; exact cond_f h1 (cond_f h2 (cond_f h3 (cond_f h5 (cond_t h11 (cond_t h12 (rfl))))))
              exact TE.ret [] (.tuple #[.int .i64 0, .int .i64 2]) ⟨by kernel_rfl, by kernel_rfl⟩ (by rw [e]; first | done | kernel_rfl)
            · refine TC.skip ?_
              refine TE.next ?_
              refine TC.seq ?_
              refine TC.region ?_
              refine TL.run 5 [] [(6, .int .i64 (w64 (wu64 (0 - (wu64 (r5.1 + 1)))))), (7, .int .i64 0)] rfl ⟨by kernel_rfl, by kernel_rfl⟩ ?_
              refine TL.next rfl ?_
              refine TC.ret ?_
              have e : num_MulDiv a b_ c = (w64 (wu64 (0 - (wu64 (r5.1 + 1)))), 0) := by subst hr1 hr2 hr3 hr4 hr5; unfold num_MulDiv; exact cond_f h1 (cond_f h2 (cond_f h3 (cond_f h5 (cond_t h11 (cond_f h12 (rfl))))))
              exact TE.ret [] (.tuple #[.int .i64 (w64 (wu64 (0 - (wu64 (r5.1 + 1))))), .int .i64 0]) ⟨by kernel_rfl, by kernel_rfl⟩ (by rw [e]; first | done | kernel_rfl)
          · refine TC.skip ?_
            refine TE.next ?_
            refine TC.seq ?_
            refine TC.seq ?_
            refine TC.region ?_
            refine TL.run 3 [] [(11, .int .u64 r5.1), (64, .bool (decide (r5.1 > 9223372036854775808)))] rfl ⟨by kernel_rfl, by kernel_rfl⟩ ?_
            refine TL.join 64 (decide (r5.1 > 9223372036854775808)) 6 [] [] (fun β => [(11, .int .u64 r5.1), (67, .bool (β || (r5.1 == 0)))]) (by kernel_rfl) rfl ⟨by kernel_rfl, by kernel_rfl⟩ ⟨by kernel_rfl, by kernel_rfl⟩ ?_
            refine TL.next rfl ?_
            refine TC.cond ((decide (r5.1 > 9223372036854775808)) || (r5.1 == 0)) rfl (by kernel_rfl) (fun h13 => ?_) (fun h13 => ?_)
            · refine TC.seq ?_
              refine TC.region ?_
              refine TL.run 2 [] [(6, .int .i64 0), (7, .int .i64 2)] rfl ⟨by kernel_rfl, by kernel_rfl⟩ ?_
              refine TL.next rfl ?_
              refine TC.ret ?_
              refine TE.ret_then ?_
              have e : num_MulDiv a b_ c = (0, 2) := by subst hr1 hr2 hr3 hr4 hr5; unfold num_MulDiv; exact cond_f h1 (cond_f h2 (cond_f h3 (cond_f h5 (cond_f h11 (cond_t h13 (rfl))))))
              exact TE.ret [] (.tuple #[.int .i64 0, .int .i64 2]) ⟨by kernel_rfl, by kernel_rfl⟩ (by rw [e]; first | done | kernel_rfl)
            · refine TC.skip ?_
              refine TE.next ?_
              refine TC.seq ?_
              refine TC.region ?_
              refine TL.run 5 [] [(6, .int .i64 (w64 (wu64 (0 - r5.1)))), (7, .int .i64 0)] rfl ⟨by kernel_rfl, by kernel_rfl⟩ ?_
              refine TL.next rfl ?_
              refine TC.ret ?_
              have e : num_MulDiv a b_ c = (w64 (wu64 (0 - r5.1)), 0) := by subst hr1 hr2 hr3 hr4 hr5; unfold num_MulDiv; exact cond_f h1 (cond_f h2 (cond_f h3 (cond_f h5 (cond_f h11 (cond_f h13 (rfl))))))
              exact TE.ret [] (.tuple #[.int .i64 (w64 (wu64 (0 - r5.1))), .int .i64 0]) ⟨by kernel_rfl, by kernel_rfl⟩ (by rw [e]; first | done | kernel_rfl)

def skywaylaw1_numWorks : Bool :=
  let r1 := num_MulDiv 1000000000000 1000000000000 999999999999
  let r2 := num_DivDown 1 0
  cond (((r1.2 == 0) && (r1.1 == 1000000000001)) && (r2.2 == 10)) (
    let r3 := num_Root 24
    r3 == 4) (
    false)

set_option maxRecDepth 100000 in
theorem skywaylaw1_numWorks_w (w : World) : Calls Try.prog 30 #[] w (Ret w (.bool (skywaylaw1_numWorks))) := by
  refine calls_intro (vs := []) (w := w) Try.func30 rfl Try.ntmps30 rfl ?_
  refine TC.weak [] (by kernel_rfl) ?_
  refine TC.seq ?_
  refine TC.region ?_
  refine TL.run 1 [] [] rfl ⟨by kernel_rfl, by kernel_rfl⟩ ?_
  refine TL.next rfl ?_
  refine TC.seq ?_
  refine TC.region ?_
  refine TL.call (some 6) [(6, .tuple #[.int .i64 ((num_MulDiv 1000000000000 1000000000000 999999999999).1), .int .i64 ((num_MulDiv 1000000000000 1000000000000 999999999999).2)])] (fun w _ => num_MulDiv_w 1000000000000 1000000000000 999999999999 w) (by kernel_rfl) (by kernel_rfl) ?_
  generalize hr1 : num_MulDiv 1000000000000 1000000000000 999999999999 = r1
  refine TL.run 6 [] [(1, .int .i64 r1.1), (2, .int .i64 r1.2)] rfl ⟨by kernel_rfl, by kernel_rfl⟩ ?_
  refine TL.next rfl ?_
  refine TC.seq ?_
  refine TC.region ?_
  refine TL.call (some 10) [(1, .int .i64 r1.1), (2, .int .i64 r1.2), (10, .tuple #[.int .i64 ((num_DivDown 1 0).1), .int .i64 ((num_DivDown 1 0).2)])] (fun w _ => num_DivDown_w 1 0 w) (by kernel_rfl) (by kernel_rfl) ?_
  generalize hr2 : num_DivDown 1 0 = r2
  refine TL.run 6 [] [(1, .int .i64 r1.1), (2, .int .i64 r1.2), (4, .int .i64 r2.2)] rfl ⟨by kernel_rfl, by kernel_rfl⟩ ?_
  refine TL.next rfl ?_
  refine TC.seq ?_
  refine TC.region ?_
  refine TL.run 3 [] [(1, .int .i64 r1.1), (4, .int .i64 r2.2), (15, .bool (r1.2 == 0))] rfl ⟨by kernel_rfl, by kernel_rfl⟩ ?_
  refine TL.join 15 (r1.2 == 0) 6 [] [] (fun β => [(4, .int .i64 r2.2), (18, .bool (β && (r1.1 == 1000000000001)))]) (by kernel_rfl) rfl ⟨by kernel_rfl, by kernel_rfl⟩ ⟨by kernel_rfl, by kernel_rfl⟩ ?_
  refine TL.run 7 [] [(4, .int .i64 r2.2), (19, .bool ((r1.2 == 0) && (r1.1 == 1000000000001)))] rfl ⟨by kernel_rfl, by kernel_rfl⟩ ?_
  refine TL.join 19 ((r1.2 == 0) && (r1.1 == 1000000000001)) 10 [] [] (fun β => [(22, .bool (β && (r2.2 == 10)))]) (by kernel_rfl) rfl ⟨by kernel_rfl, by kernel_rfl⟩ ⟨by kernel_rfl, by kernel_rfl⟩ ?_
  refine TL.run 11 [] [(23, .bool (((r1.2 == 0) && (r1.1 == 1000000000001)) && (r2.2 == 10)))] rfl ⟨by kernel_rfl, by kernel_rfl⟩ ?_
  refine TL.split 23 (((r1.2 == 0) && (r1.1 == 1000000000001)) && (r2.2 == 10)) (by kernel_rfl) (fun h1 => ?_) (fun h1 => ?_)
  · refine TL.call (some 24) [(23, .bool true), (24, .int .i64 (num_Root 24))] (fun w _ => num_Root_w 24 w) (by kernel_rfl) (by kernel_rfl) ?_
    generalize hr3 : num_Root 24 = r3
    refine TL.run 15 [] [(0, .bool (r3 == 4))] rfl ⟨by kernel_rfl, by kernel_rfl⟩ ?_
    refine TL.next rfl ?_
    refine TC.ret ?_
    have e : skywaylaw1_numWorks = (r3 == 4) := by subst hr1 hr2 hr3; unfold skywaylaw1_numWorks; exact cond_t h1 (rfl)
    exact TE.ret [] (.bool (r3 == 4)) ⟨by kernel_rfl, by kernel_rfl⟩ (by rw [e]; first | done | kernel_rfl)
  · refine TL.run 15 [] [(0, .bool false)] rfl ⟨by kernel_rfl, by kernel_rfl⟩ ?_
    refine TL.next rfl ?_
    refine TC.ret ?_
    have e : skywaylaw1_numWorks = false := by subst hr1 hr2; unfold skywaylaw1_numWorks; exact cond_f h1 (rfl)
    exact TE.ret [] (.bool false) ⟨by kernel_rfl, by kernel_rfl⟩ (by rw [e]; first | done | kernel_rfl)

def skywayref1_Root_L1 (n : Int) : Nat → Nat → Int → Int
  | 0, _, r_ => r_
  | m + 1, k, r_ => cond (((decide (n > 0)) && (decide ((w64 (r_ + (w64 (1 * 2 ^ (min (31 - ((k : Nat) : Int)).toNat 64))))) ≤ 3037000499))) && (decide ((w64 ((w64 (r_ + (w64 (1 * 2 ^ (min (31 - ((k : Nat) : Int)).toNat 64))))) * (w64 (r_ + (w64 (1 * 2 ^ (min (31 - ((k : Nat) : Int)).toNat 64))))))) ≤ n))) (
      skywayref1_Root_L1 n m (k + 1) (w64 (r_ + (w64 (1 * 2 ^ (min (31 - ((k : Nat) : Int)).toNat 64)))))) (
      skywayref1_Root_L1 n m (k + 1) r_)
def skywayref1_Root (n : Int) : Int :=
  bindv (skywayref1_Root_L1 n 32 0 0) (fun r__2 =>
    r__2)

set_option maxRecDepth 100000 in
theorem skywayref1_Root_w (n : Int) (w : World) : Calls Try.prog 32 #[.int .i64 n] w (Ret w (.int .i64 (skywayref1_Root n))) := by
  refine calls_intro (vs := [.int .i64 n]) (w := w) Try.func32 rfl Try.ntmps32 rfl ?_
  refine TC.weak [(0, .int .i64 n)] (by kernel_rfl) ?_
  refine TC.seq ?_
  refine TC.region ?_
  refine TL.run 1 [] [(0, .int .i64 n)] rfl ⟨by kernel_rfl, by kernel_rfl⟩ ?_
  refine TL.next rfl ?_
  refine TC.seq ?_
  refine TC.region ?_
  refine TL.run 1 [] [(0, .int .i64 n), (3, .int .i64 0)] rfl ⟨by kernel_rfl, by kernel_rfl⟩ ?_
  refine TL.next rfl ?_
  refine TC.seq ?_
  refine TC.seq ?_
  refine TC.region ?_
  refine TL.run 1 [] [(0, .int .i64 n), (3, .int .i64 0), (4, .int .i64 31)] rfl ⟨by kernel_rfl, by kernel_rfl⟩ ?_
  refine TL.next rfl ?_
  refine TC.weak [(0, .int .i64 n), (3, .int .i64 0), (4, .int .i64 31)] (by kernel_rfl) ?_
  obtain ⟨R1, hR⟩ : ∃ R, R = skywayref1_Root_L1 n 32 0 0 := ⟨_, rfl⟩
  refine TC.cut (S := Int) (fun r__2 => [(3, .int .i64 r__2)]) (fun r__2 => []) (fun r__2 => R1 = r__2) ?_ ?_
  · refine TC.block ?_
    refine TC.rw 4 (.int .i64 31) (.int .i64 (31 - ((0 : Nat) : Int))) (by kernel_rfl) (int_eq (by first | omega | (rw [w64_id (by omega)]; omega) | (simp only [w64_eq]; omega))) ?_
    refine TC.weak [(0, .int .i64 n), (3, .int .i64 0), (4, .int .i64 (31 - ((0 : Nat) : Int)))] (by kernel_rfl) ?_
    refine TC.loop (X := Nat × Int) (fun (k, r_) => [(0, .int .i64 n), (3, .int .i64 r_), (4, .int .i64 (31 - ((k : Nat) : Int)))]) (fun (k, r_) => []) (fun (k, r_) => 32 - k) (fun (k, r_) => k ≤ 32 ∧ R1 = skywayref1_Root_L1 n (32 - k) k r_) ?_ (0, 0) ⟨Nat.zero_le _, hR⟩
    rintro ⟨k, r_⟩ ⟨hk, hI⟩
    refine TC.seq ?_
    refine TC.seq ?_
    refine TC.region ?_
    refine TL.run 2 [] [(0, .int .i64 n), (3, .int .i64 r_), (4, .int .i64 (31 - ((k : Nat) : Int))), (7, .bool (decide ((31 - ((k : Nat) : Int)) ≥ 0)))] rfl ⟨by kernel_rfl, by kernel_rfl⟩ ?_
    refine TL.next rfl ?_
    refine TC.cond (decide ((31 - ((k : Nat) : Int)) ≥ 0)) rfl (by kernel_rfl) (fun h1 => ?_) (fun h1 => ?_)
    · have hlt : k < 32 := by have p0_ := (dec_t h1); first | omega | (simp only [w64_eq] at *; omega)
      have hd : 32 - k = (32 - (k + 1)) + 1 := by omega
      refine TC.skip ?_
      refine TE.next ?_
      refine TC.seq ?_
      refine TC.block ?_
      refine TC.seq ?_
      refine TC.region ?_
      refine TL.run 2 [] [(0, .int .i64 n), (3, .int .i64 r_), (4, .int .i64 (31 - ((k : Nat) : Int))), (10, .int .i64 r_), (11, .int .i64 (31 - ((k : Nat) : Int)))] rfl ⟨by kernel_rfl, by kernel_rfl⟩ ?_
      refine TL.val (sV (binOp .shl 3 (.int .i64 1) (.int .i64 (31 - ((k : Nat) : Int))))) (some 12) (.int .i64 (w64 (1 * 2 ^ (min (31 - ((k : Nat) : Int)).toNat 64)))) [(0, .int .i64 n), (3, .int .i64 r_), (4, .int .i64 (31 - ((k : Nat) : Int))), (10, .int .i64 r_), (12, .int .i64 (w64 (1 * 2 ^ (min (31 - ((k : Nat) : Int)).toNat 64))))] (fun w hM => run_shl (by have q0_ := (dec_t h1); first | omega | (simp only [List.length_drop]; omega) | (simp only [w64_eq]; omega) | exact (tm_in (by (first | (rw [w64_id (by omega)]; omega) | (simp only [w64_eq]; omega))) (by omega)).1 | exact (tm_in (by (first | (rw [w64_id (by omega)]; omega) | (simp only [w64_eq]; omega))) (by omega)).2.1 | exact (tm_in (by (first | (rw [w64_id (by omega)]; omega) | (simp only [w64_eq]; omega))) (by omega)).2.2 | (simp only [List.length_take] at *; omega) | (simp <;> omega))) (by kernel_rfl) (by kernel_rfl) ?_
      refine TL.run 5 [] [(0, .int .i64 n), (3, .int .i64 r_), (4, .int .i64 (31 - ((k : Nat) : Int))), (5, .int .i64 (w64 (r_ + (w64 (1 * 2 ^ (min (31 - ((k : Nat) : Int)).toNat 64))))))] rfl ⟨by kernel_rfl, by kernel_rfl⟩ ?_
      refine TL.next rfl ?_
      refine TC.seq ?_
      refine TC.region ?_
      refine TL.run 3 [] [(0, .int .i64 n), (3, .int .i64 r_), (4, .int .i64 (31 - ((k : Nat) : Int))), (5, .int .i64 (w64 (r_ + (w64 (1 * 2 ^ (min (31 - ((k : Nat) : Int)).toNat 64)))))), (16, .bool (decide (n > 0)))] rfl ⟨by kernel_rfl, by kernel_rfl⟩ ?_
      refine TL.join 16 (decide (n > 0)) 6 [] [] (fun β => [(0, .int .i64 n), (3, .int .i64 r_), (4, .int .i64 (31 - ((k : Nat) : Int))), (5, .int .i64 (w64 (r_ + (w64 (1 * 2 ^ (min (31 - ((k : Nat) : Int)).toNat 64)))))), (19, .bool (β && (decide ((w64 (r_ + (w64 (1 * 2 ^ (min (31 - ((k : Nat) : Int)).toNat 64))))) ≤ 3037000499))))]) (by kernel_rfl) rfl ⟨by kernel_rfl, by kernel_rfl⟩ ⟨by kernel_rfl, by kernel_rfl⟩ ?_
      refine TL.run 7 [] [(0, .int .i64 n), (3, .int .i64 r_), (4, .int .i64 (31 - ((k : Nat) : Int))), (5, .int .i64 (w64 (r_ + (w64 (1 * 2 ^ (min (31 - ((k : Nat) : Int)).toNat 64)))))), (20, .bool ((decide (n > 0)) && (decide ((w64 (r_ + (w64 (1 * 2 ^ (min (31 - ((k : Nat) : Int)).toNat 64))))) ≤ 3037000499))))] rfl ⟨by kernel_rfl, by kernel_rfl⟩ ?_
      refine TL.join 20 ((decide (n > 0)) && (decide ((w64 (r_ + (w64 (1 * 2 ^ (min (31 - ((k : Nat) : Int)).toNat 64))))) ≤ 3037000499))) 13 [] [] (fun β => [(0, .int .i64 n), (3, .int .i64 r_), (4, .int .i64 (31 - ((k : Nat) : Int))), (5, .int .i64 (w64 (r_ + (w64 (1 * 2 ^ (min (31 - ((k : Nat) : Int)).toNat 64)))))), (26, .bool (β && (decide ((w64 ((w64 (r_ + (w64 (1 * 2 ^ (min (31 - ((k : Nat) : Int)).toNat 64))))) * (w64 (r_ + (w64 (1 * 2 ^ (min (31 - ((k : Nat) : Int)).toNat 64))))))) ≤ n))))]) (by kernel_rfl) rfl ⟨by kernel_rfl, by kernel_rfl⟩ ⟨by kernel_rfl, by kernel_rfl⟩ ?_
      refine TL.next rfl ?_
      refine TC.cond (((decide (n > 0)) && (decide ((w64 (r_ + (w64 (1 * 2 ^ (min (31 - ((k : Nat) : Int)).toNat 64))))) ≤ 3037000499))) && (decide ((w64 ((w64 (r_ + (w64 (1 * 2 ^ (min (31 - ((k : Nat) : Int)).toNat 64))))) * (w64 (r_ + (w64 (1 * 2 ^ (min (31 - ((k : Nat) : Int)).toNat 64))))))) ≤ n))) rfl (by kernel_rfl) (fun h2 => ?_) (fun h2 => ?_)
      · refine TC.region ?_
        refine TL.run 2 [] [(0, .int .i64 n), (3, .int .i64 (w64 (r_ + (w64 (1 * 2 ^ (min (31 - ((k : Nat) : Int)).toNat 64)))))), (4, .int .i64 (31 - ((k : Nat) : Int)))] rfl ⟨by kernel_rfl, by kernel_rfl⟩ ?_
        refine TL.done rfl ?_
        refine TE.normal_block ?_
        refine TE.next ?_
        refine TC.region ?_
        refine TL.run 3 [] [(0, .int .i64 n), (3, .int .i64 (w64 (r_ + (w64 (1 * 2 ^ (min (31 - ((k : Nat) : Int)).toNat 64)))))), (4, .int .i64 (w64 ((31 - ((k : Nat) : Int)) - 1)))] rfl ⟨by kernel_rfl, by kernel_rfl⟩ ?_
        refine TL.done rfl ?_
        refine TE.rw 4 (.int .i64 (w64 ((31 - ((k : Nat) : Int)) - 1))) (.int .i64 (31 - ((k + 1 : Nat) : Int))) (by kernel_rfl) (int_eq (by have q0_ := (dec_t h1); have q1_ := (dec_t (and_t1 (and_t1 h2))); have q2_ := (dec_t (and_t2 (and_t1 h2))); have q3_ := (dec_t (and_t2 h2)); first | omega | (rw [w64_id (by omega)]; omega) | (simp only [w64_eq] at *; omega))) ?_
        exact TE.again (x := (k, r_)) (k + 1, w64 (r_ + (w64 (1 * 2 ^ (min (31 - ((k : Nat) : Int)).toNat 64))))) ⟨by omega, hI.trans (by rw [hd]; exact cond_t h2 (rfl))⟩ (by show 32 - (k + 1) < 32 - k; omega) (by kernel_rfl) (.slnil)
      · refine TC.skip ?_
        refine TE.normal_block ?_
        refine TE.next ?_
        refine TC.region ?_
        refine TL.run 3 [] [(0, .int .i64 n), (3, .int .i64 r_), (4, .int .i64 (w64 ((31 - ((k : Nat) : Int)) - 1)))] rfl ⟨by kernel_rfl, by kernel_rfl⟩ ?_
        refine TL.done rfl ?_
        refine TE.rw 4 (.int .i64 (w64 ((31 - ((k : Nat) : Int)) - 1))) (.int .i64 (31 - ((k + 1 : Nat) : Int))) (by kernel_rfl) (int_eq (by have q0_ := (dec_t h1); have q1_ := ((and_f h2).imp (fun h => ((and_f h).imp (fun h => (dec_f h)) (fun h => (dec_f h)))) (fun h => (dec_f h))); first | omega | (rw [w64_id (by omega)]; omega) | (simp only [w64_eq] at *; omega))) ?_
        exact TE.again (x := (k, r_)) (k + 1, r_) ⟨by omega, hI.trans (by rw [hd]; exact cond_f h2 (rfl))⟩ (by show 32 - (k + 1) < 32 - k; omega) (by kernel_rfl) (.slnil)
    · have hd : 32 - k = 0 := by have p0_ := (dec_f h1); first | omega | (simp only [w64_eq] at *; omega)
      refine TC.exit ?_
      refine TE.exit_then (TE.exit_then (TE.exit_same ?_))
      exact TE.cut r_ (hI.trans (by rw [hd]; exact rfl)) (by kernel_rfl) (.slnil)
  · rintro r__2 hJ
    refine TE.next ?_
    refine TC.seq ?_
    refine TC.region ?_
    refine TL.run 2 [] [(2, .int .i64 r__2)] rfl ⟨by kernel_rfl, by kernel_rfl⟩ ?_
    refine TL.next rfl ?_
    refine TC.ret ?_
    have e : skywayref1_Root n = r__2 := by unfold skywayref1_Root; exact bindv_eq (hR.symm.trans hJ) (rfl)
    exact TE.ret [] (.int .i64 r__2) ⟨by kernel_rfl, by kernel_rfl⟩ (by rw [e]; first | done | kernel_rfl)

def skywaylaw1_NumRoots (n : Int) : Bool :=
  let r1 := skywaylaw1_numWorks
  cond r1 (
    let r2 := num_Root n
    let r3 := skywayref1_Root n
    r2 == r3) (
    false)

set_option maxRecDepth 100000 in
theorem skywaylaw1_NumRoots_w (n : Int) (w : World) : Calls Try.prog 7 #[.int .i64 n] w (Ret w (.bool (skywaylaw1_NumRoots n))) := by
  refine calls_intro (vs := [.int .i64 n]) (w := w) Try.func7 rfl Try.ntmps7 rfl ?_
  refine TC.weak [(0, .int .i64 n)] (by kernel_rfl) ?_
  refine TC.seq ?_
  refine TC.region ?_
  refine TL.run 1 [] [(0, .int .i64 n)] rfl ⟨by kernel_rfl, by kernel_rfl⟩ ?_
  refine TL.next rfl ?_
  refine TC.seq ?_
  refine TC.region ?_
  refine TL.call (some 3) [(0, .int .i64 n), (3, .bool ((skywaylaw1_numWorks)))] (fun w _ => skywaylaw1_numWorks_w w) (by kernel_rfl) (by kernel_rfl) ?_
  generalize hr1 : skywaylaw1_numWorks = r1
  refine TL.run 2 [] [(0, .int .i64 n), (4, .bool r1)] rfl ⟨by kernel_rfl, by kernel_rfl⟩ ?_
  refine TL.split 4 r1 (by kernel_rfl) (fun h1 => ?_) (fun h1 => ?_)
  · refine TL.run 3 [] [(0, .int .i64 n), (4, .bool true), (5, .int .i64 n)] rfl ⟨by kernel_rfl, by kernel_rfl⟩ ?_
    refine TL.call (some 6) [(0, .int .i64 n), (4, .bool true), (6, .int .i64 (num_Root n))] (fun w _ => num_Root_w n w) (by kernel_rfl) (by kernel_rfl) ?_
    generalize hr2 : num_Root n = r2
    refine TL.run 5 [] [(4, .bool true), (6, .int .i64 r2), (7, .int .i64 n)] rfl ⟨by kernel_rfl, by kernel_rfl⟩ ?_
    refine TL.call (some 8) [(4, .bool true), (6, .int .i64 r2), (8, .int .i64 (skywayref1_Root n))] (fun w _ => skywayref1_Root_w n w) (by kernel_rfl) (by kernel_rfl) ?_
    generalize hr3 : skywayref1_Root n = r3
    refine TL.run 9 [] [(2, .bool (r2 == r3))] rfl ⟨by kernel_rfl, by kernel_rfl⟩ ?_
    refine TL.next rfl ?_
    refine TC.ret ?_
    have e : skywaylaw1_NumRoots n = (r2 == r3) := by subst hr1 hr2 hr3; unfold skywaylaw1_NumRoots; exact cond_t h1 (rfl)
    exact TE.ret [] (.bool (r2 == r3)) ⟨by kernel_rfl, by kernel_rfl⟩ (by rw [e]; first | done | kernel_rfl)
  · refine TL.run 9 [] [(2, .bool false)] rfl ⟨by kernel_rfl, by kernel_rfl⟩ ?_
    refine TL.next rfl ?_
    refine TC.ret ?_
    have e : skywaylaw1_NumRoots n = false := by subst hr1; unfold skywaylaw1_NumRoots; exact cond_f h1 (rfl)
    exact TE.ret [] (.bool false) ⟨by kernel_rfl, by kernel_rfl⟩ (by rw [e]; first | done | kernel_rfl)

end Go.Sky
