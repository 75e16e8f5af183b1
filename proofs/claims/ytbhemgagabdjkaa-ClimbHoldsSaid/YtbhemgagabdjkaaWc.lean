/- Functions of the program, each with the Lean function that it computes. Conditions: none. -/
import Derived.Test.YtbhemgagabdjkaaFine
namespace Go.Sky
open Go Go.Eng Go.Proofs
def gray_wrong (code : Int) : Bool :=
  (decide (code < 0)) || (decide (code > 4095))

set_option maxRecDepth 100000 in
theorem gray_wrong_w (code : Int) (w : World) : Calls Try.prog 44 #[.int .i64 code] w (Ret w (.bool (gray_wrong code))) := by
  refine calls_intro (vs := [.int .i64 code]) (w := w) Try.func44 rfl Try.ntmps44 rfl ?_
  refine TC.weak [(0, .int .i64 code)] (by kernel_rfl) ?_
  refine TC.seq ?_
  refine TC.region ?_
  refine TL.run 1 [] [(0, .int .i64 code)] rfl ⟨by kernel_rfl, by kernel_rfl⟩ ?_
  refine TL.next rfl ?_
  refine TC.seq ?_
  refine TC.region ?_
  refine TL.run 3 [] [(0, .int .i64 code), (5, .bool (decide (code < 0)))] rfl ⟨by kernel_rfl, by kernel_rfl⟩ ?_
  refine TL.join 5 (decide (code < 0)) 6 [] [] (fun β => [(8, .bool (β || (decide (code > 4095))))]) (by kernel_rfl) rfl ⟨by kernel_rfl, by kernel_rfl⟩ ⟨by kernel_rfl, by kernel_rfl⟩ ?_
  refine TL.run 7 [] [(2, .bool ((decide (code < 0)) || (decide (code > 4095))))] rfl ⟨by kernel_rfl, by kernel_rfl⟩ ?_
  refine TL.next rfl ?_
  refine TC.ret ?_
  have e : gray_wrong code = ((decide (code < 0)) || (decide (code > 4095))) := by unfold gray_wrong; exact rfl
  exact TE.ret [] (.bool ((decide (code < 0)) || (decide (code > 4095)))) ⟨by kernel_rfl, by kernel_rfl⟩ (by rw [e]; first | done | kernel_rfl)

def math_bits_OnesCount64 (x : Int) : Int :=
  let r1 := wu64 ((kand .u64 ((wu64 ((kand .u64 (x.fdiv (2 ^ 1)) 6148914691236517205) + (kand .u64 x 6148914691236517205))).fdiv (2 ^ 2)) 3689348814741910323) + (kand .u64 (wu64 ((kand .u64 (x.fdiv (2 ^ 1)) 6148914691236517205) + (kand .u64 x 6148914691236517205))) 3689348814741910323))
  let r2 := wu64 ((wu64 ((kand .u64 (wu64 ((r1.fdiv (2 ^ 4)) + r1)) 1085102592571150095) + ((kand .u64 (wu64 ((r1.fdiv (2 ^ 4)) + r1)) 1085102592571150095).fdiv (2 ^ 8)))) + ((wu64 ((kand .u64 (wu64 ((r1.fdiv (2 ^ 4)) + r1)) 1085102592571150095) + ((kand .u64 (wu64 ((r1.fdiv (2 ^ 4)) + r1)) 1085102592571150095).fdiv (2 ^ 8)))).fdiv (2 ^ 16)))
  kand .i64 (w64 (wu64 (r2 + (r2.fdiv (2 ^ 32))))) 127

set_option maxRecDepth 100000 in
theorem math_bits_OnesCount64_w (x : Int) (w : World) : Calls Try.prog 57 #[.int .u64 x] w (Ret w (.int .i64 (math_bits_OnesCount64 x))) := by
  refine calls_intro (vs := [.int .u64 x]) (w := w) Try.func57 rfl Try.ntmps57 rfl ?_
  refine TC.weak [(0, .int .u64 x)] (by kernel_rfl) ?_
  refine TC.seq ?_
  refine TC.region ?_
  refine TL.run 1 [] [(0, .int .u64 x)] rfl ⟨by kernel_rfl, by kernel_rfl⟩ ?_
  refine TL.next rfl ?_
  refine TC.seq ?_
  refine TC.region ?_
  refine TL.run 7 [] [(0, .int .u64 (wu64 ((kand .u64 (x.fdiv (2 ^ 1)) 6148914691236517205) + (kand .u64 x 6148914691236517205))))] rfl ⟨by kernel_rfl, by kernel_rfl⟩ ?_
  refine TL.next rfl ?_
  refine TC.seq ?_
  refine TC.region ?_
  refine TL.run 7 [] [(0, .int .u64 (wu64 ((kand .u64 ((wu64 ((kand .u64 (x.fdiv (2 ^ 1)) 6148914691236517205) + (kand .u64 x 6148914691236517205))).fdiv (2 ^ 2)) 3689348814741910323) + (kand .u64 (wu64 ((kand .u64 (x.fdiv (2 ^ 1)) 6148914691236517205) + (kand .u64 x 6148914691236517205))) 3689348814741910323))))] rfl ⟨by kernel_rfl, by kernel_rfl⟩ ?_
  generalize hr1 : wu64 ((kand .u64 ((wu64 ((kand .u64 (x.fdiv (2 ^ 1)) 6148914691236517205) + (kand .u64 x 6148914691236517205))).fdiv (2 ^ 2)) 3689348814741910323) + (kand .u64 (wu64 ((kand .u64 (x.fdiv (2 ^ 1)) 6148914691236517205) + (kand .u64 x 6148914691236517205))) 3689348814741910323)) = r1
  refine TL.next rfl ?_
  refine TC.seq ?_
  refine TC.region ?_
  refine TL.run 6 [] [(0, .int .u64 (kand .u64 (wu64 ((r1.fdiv (2 ^ 4)) + r1)) 1085102592571150095))] rfl ⟨by kernel_rfl, by kernel_rfl⟩ ?_
  refine TL.next rfl ?_
  refine TC.seq ?_
  refine TC.region ?_
  refine TL.run 5 [] [(0, .int .u64 (wu64 ((kand .u64 (wu64 ((r1.fdiv (2 ^ 4)) + r1)) 1085102592571150095) + ((kand .u64 (wu64 ((r1.fdiv (2 ^ 4)) + r1)) 1085102592571150095).fdiv (2 ^ 8)))))] rfl ⟨by kernel_rfl, by kernel_rfl⟩ ?_
  refine TL.next rfl ?_
  refine TC.seq ?_
  refine TC.region ?_
  refine TL.run 5 [] [(0, .int .u64 (wu64 ((wu64 ((kand .u64 (wu64 ((r1.fdiv (2 ^ 4)) + r1)) 1085102592571150095) + ((kand .u64 (wu64 ((r1.fdiv (2 ^ 4)) + r1)) 1085102592571150095).fdiv (2 ^ 8)))) + ((wu64 ((kand .u64 (wu64 ((r1.fdiv (2 ^ 4)) + r1)) 1085102592571150095) + ((kand .u64 (wu64 ((r1.fdiv (2 ^ 4)) + r1)) 1085102592571150095).fdiv (2 ^ 8)))).fdiv (2 ^ 16)))))] rfl ⟨by kernel_rfl, by kernel_rfl⟩ ?_
  generalize hr2 : wu64 ((wu64 ((kand .u64 (wu64 ((r1.fdiv (2 ^ 4)) + r1)) 1085102592571150095) + ((kand .u64 (wu64 ((r1.fdiv (2 ^ 4)) + r1)) 1085102592571150095).fdiv (2 ^ 8)))) + ((wu64 ((kand .u64 (wu64 ((r1.fdiv (2 ^ 4)) + r1)) 1085102592571150095) + ((kand .u64 (wu64 ((r1.fdiv (2 ^ 4)) + r1)) 1085102592571150095).fdiv (2 ^ 8)))).fdiv (2 ^ 16))) = r2
  refine TL.next rfl ?_
  refine TC.seq ?_
  refine TC.region ?_
  refine TL.run 5 [] [(0, .int .u64 (wu64 (r2 + (r2.fdiv (2 ^ 32)))))] rfl ⟨by kernel_rfl, by kernel_rfl⟩ ?_
  refine TL.next rfl ?_
  refine TC.seq ?_
  refine TC.region ?_
  refine TL.run 4 [] [(2, .int .i64 (kand .i64 (w64 (wu64 (r2 + (r2.fdiv (2 ^ 32))))) 127))] rfl ⟨by kernel_rfl, by kernel_rfl⟩ ?_
  refine TL.next rfl ?_
  refine TC.ret ?_
  have e : math_bits_OnesCount64 x = (kand .i64 (w64 (wu64 (r2 + (r2.fdiv (2 ^ 32))))) 127) := by subst hr1 hr2; unfold math_bits_OnesCount64; exact rfl
  exact TE.ret [] (.int .i64 (kand .i64 (w64 (wu64 (r2 + (r2.fdiv (2 ^ 32))))) 127)) ⟨by kernel_rfl, by kernel_rfl⟩ (by rw [e]; first | done | kernel_rfl)

def math_bits_OnesCount (x : Int) : Int :=
  let r1 := math_bits_OnesCount64 x
  r1

set_option maxRecDepth 100000 in
theorem math_bits_OnesCount_w (x : Int) (w : World) : Calls Try.prog 45 #[.int .u64 x] w (Ret w (.int .i64 (math_bits_OnesCount x))) := by
  refine calls_intro (vs := [.int .u64 x]) (w := w) Try.func45 rfl Try.ntmps45 rfl ?_
  refine TC.weak [(0, .int .u64 x)] (by kernel_rfl) ?_
  refine TC.seq ?_
  refine TC.region ?_
  refine TL.run 1 [] [(0, .int .u64 x)] rfl ⟨by kernel_rfl, by kernel_rfl⟩ ?_
  refine TL.next rfl ?_
  refine TC.seq ?_
  refine TC.condF rfl (by kernel_rfl) ?_
  refine TC.skip ?_
  refine TE.next ?_
  refine TC.seq ?_
  refine TC.region ?_
  refine TL.run 1 [] [(6, .int .u64 x)] rfl ⟨by kernel_rfl, by kernel_rfl⟩ ?_
  refine TL.call (some 7) [(7, .int .i64 (math_bits_OnesCount64 x))] (fun w _ => math_bits_OnesCount64_w x w) (by kernel_rfl) (by kernel_rfl) ?_
  generalize hr1 : math_bits_OnesCount64 x = r1
  refine TL.run 3 [] [(2, .int .i64 r1)] rfl ⟨by kernel_rfl, by kernel_rfl⟩ ?_
  refine TL.next rfl ?_
  refine TC.ret ?_
  have e : math_bits_OnesCount x = r1 := by subst hr1; unfold math_bits_OnesCount; exact rfl
  exact TE.ret [] (.int .i64 r1) ⟨by kernel_rfl, by kernel_rfl⟩ (by rw [e]; first | done | kernel_rfl)

def gray_Change (a : Int) (b_ : Int) : Int × Int :=
  let r1 := gray_wrong a
  cond r1 (
    (0, 4)) (
    let r2 := gray_wrong b_
    cond r2 (
      (0, 4)) (
      let r3 := math_bits_OnesCount (wu64 (kxor .i64 a b_))
      (r3, 0)))

set_option maxRecDepth 100000 in
theorem gray_Change_w (a : Int) (b_ : Int) (w : World) : Calls Try.prog 20 #[.int .i64 a, .int .i64 b_] w (Ret w (.tuple #[.int .i64 ((gray_Change a b_).1), .int .i64 ((gray_Change a b_).2)])) := by
  refine calls_intro (vs := [.int .i64 a, .int .i64 b_]) (w := w) Try.func20 rfl Try.ntmps20 rfl ?_
  refine TC.weak [(0, .int .i64 a), (1, .int .i64 b_)] (by kernel_rfl) ?_
  refine TC.seq ?_
  refine TC.region ?_
  refine TL.run 2 [] [(0, .int .i64 a), (1, .int .i64 b_)] rfl ⟨by kernel_rfl, by kernel_rfl⟩ ?_
  refine TL.next rfl ?_
  refine TC.seq ?_
  refine TC.seq ?_
  refine TC.region ?_
  refine TL.run 1 [] [(0, .int .i64 a), (1, .int .i64 b_), (6, .int .i64 a)] rfl ⟨by kernel_rfl, by kernel_rfl⟩ ?_
  refine TL.call (some 7) [(0, .int .i64 a), (1, .int .i64 b_), (7, .bool ((gray_wrong a)))] (fun w _ => gray_wrong_w a w) (by kernel_rfl) (by kernel_rfl) ?_
  generalize hr1 : gray_wrong a = r1
  refine TL.run 3 [] [(0, .int .i64 a), (1, .int .i64 b_), (8, .bool r1)] rfl ⟨by kernel_rfl, by kernel_rfl⟩ ?_
  refine TL.split 8 r1 (by kernel_rfl) (fun h1 => ?_) (fun h1 => ?_)
  · refine TL.run 6 [] [(0, .int .i64 a), (1, .int .i64 b_), (11, .bool true)] rfl ⟨by kernel_rfl, by kernel_rfl⟩ ?_
    refine TL.next rfl ?_
    refine TC.condT rfl (by kernel_rfl) ?_
    refine TC.seq ?_
    refine TC.region ?_
    refine TL.run 2 [] [(4, .int .i64 0), (5, .int .i64 4)] rfl ⟨by kernel_rfl, by kernel_rfl⟩ ?_
    refine TL.next rfl ?_
    refine TC.ret ?_
    refine TE.ret_then ?_
    have e : gray_Change a b_ = (0, 4) := by subst hr1; unfold gray_Change; exact cond_t h1 (rfl)
    exact TE.ret [] (.tuple #[.int .i64 0, .int .i64 4]) ⟨by kernel_rfl, by kernel_rfl⟩ (by rw [e]; first | done | kernel_rfl)
  · refine TL.run 4 [] [(0, .int .i64 a), (1, .int .i64 b_), (8, .bool false), (9, .int .i64 b_)] rfl ⟨by kernel_rfl, by kernel_rfl⟩ ?_
    refine TL.call (some 10) [(0, .int .i64 a), (1, .int .i64 b_), (8, .bool false), (10, .bool ((gray_wrong b_)))] (fun w _ => gray_wrong_w b_ w) (by kernel_rfl) (by kernel_rfl) ?_
    generalize hr2 : gray_wrong b_ = r2
    refine TL.run 6 [] [(0, .int .i64 a), (1, .int .i64 b_), (11, .bool r2)] rfl ⟨by kernel_rfl, by kernel_rfl⟩ ?_
    refine TL.next rfl ?_
    refine TC.cond r2 rfl (by kernel_rfl) (fun h2 => ?_) (fun h2 => ?_)
    · refine TC.seq ?_
      refine TC.region ?_
      refine TL.run 2 [] [(4, .int .i64 0), (5, .int .i64 4)] rfl ⟨by kernel_rfl, by kernel_rfl⟩ ?_
      refine TL.next rfl ?_
      refine TC.ret ?_
      refine TE.ret_then ?_
      have e : gray_Change a b_ = (0, 4) := by subst hr1 hr2; unfold gray_Change; exact cond_f h1 (cond_t h2 (rfl))
      exact TE.ret [] (.tuple #[.int .i64 0, .int .i64 4]) ⟨by kernel_rfl, by kernel_rfl⟩ (by rw [e]; first | done | kernel_rfl)
    · refine TC.skip ?_
      refine TE.next ?_
      refine TC.seq ?_
      refine TC.region ?_
      refine TL.run 4 [] [(15, .int .u64 (wu64 (kxor .i64 a b_)))] rfl ⟨by kernel_rfl, by kernel_rfl⟩ ?_
      refine TL.call (some 16) [(16, .int .i64 (math_bits_OnesCount (wu64 (kxor .i64 a b_))))] (fun w _ => math_bits_OnesCount_w (wu64 (kxor .i64 a b_)) w) (by kernel_rfl) (by kernel_rfl) ?_
      generalize hr3 : math_bits_OnesCount (wu64 (kxor .i64 a b_)) = r3
      refine TL.run 7 [] [(4, .int .i64 r3), (5, .int .i64 0)] rfl ⟨by kernel_rfl, by kernel_rfl⟩ ?_
      refine TL.next rfl ?_
      refine TC.ret ?_
      have e : gray_Change a b_ = (r3, 0) := by subst hr1 hr2 hr3; unfold gray_Change; exact cond_f h1 (cond_f h2 (rfl))
      exact TE.ret [] (.tuple #[.int .i64 r3, .int .i64 0]) ⟨by kernel_rfl, by kernel_rfl⟩ (by rw [e]; first | done | kernel_rfl)

def skywaykeep2_GrayChange (a : Int) (b_ : Int) (c : Int) : Bool :=
  let r1 := gray_Change 5 6
  cond ((r1.2 != 0) || (r1.1 != 2)) (
    false) (
    let r2 := gray_Change a b_
    let r3 := gray_Change b_ c
    let r4 := gray_Change a c
    let r5 := gray_Change b_ a
    let r6 := skywaykeep2_fine ([r2.2, r3.2, r4.2, r5.2])
    cond (!r6) (
      (((r2.1 == 0) || (r3.1 == 0)) || (r4.1 == 0)) || (r5.1 == 0)) (
      ((((r2.1 == 0) == (a == b_)) && (r2.1 == r5.1)) && (decide (r4.1 ≤ (w64 (r2.1 + r3.1))))) && (decide (r2.1 ≤ 12))))

set_option maxRecDepth 100000 in
theorem skywaykeep2_GrayChange_w (a : Int) (b_ : Int) (c : Int) (w : World) : Calls Try.prog 6 #[.int .i64 a, .int .i64 b_, .int .i64 c] w (Ret w (.bool (skywaykeep2_GrayChange a b_ c))) := by
  refine calls_intro (vs := [.int .i64 a, .int .i64 b_, .int .i64 c]) (w := w) Try.func6 rfl Try.ntmps6 rfl ?_
  refine TC.weak [(0, .int .i64 a), (1, .int .i64 b_), (2, .int .i64 c)] (by kernel_rfl) ?_
  refine TC.seq ?_
  refine TC.region ?_
  refine TL.run 1 [] [(0, .int .i64 a), (1, .int .i64 b_), (2, .int .i64 c)] rfl ⟨by kernel_rfl, by kernel_rfl⟩ ?_
  refine TL.next rfl ?_
  refine TC.seq ?_
  refine TC.seq ?_
  refine TC.region ?_
  refine TL.call (some 18) [(0, .int .i64 a), (1, .int .i64 b_), (2, .int .i64 c), (18, .tuple #[.int .i64 ((gray_Change 5 6).1), .int .i64 ((gray_Change 5 6).2)])] (fun w _ => gray_Change_w 5 6 w) (by kernel_rfl) (by kernel_rfl) ?_
  generalize hr1 : gray_Change 5 6 = r1
  refine TL.run 6 [] [(0, .int .i64 a), (1, .int .i64 b_), (2, .int .i64 c), (7, .int .i64 r1.1), (8, .int .i64 r1.2)] rfl ⟨by kernel_rfl, by kernel_rfl⟩ ?_
  refine TL.next rfl ?_
  refine TC.seq ?_
  refine TC.region ?_
  refine TL.run 3 [] [(0, .int .i64 a), (1, .int .i64 b_), (2, .int .i64 c), (7, .int .i64 r1.1), (23, .bool (r1.2 != 0))] rfl ⟨by kernel_rfl, by kernel_rfl⟩ ?_
  refine TL.join 23 (r1.2 != 0) 6 [] [] (fun β => [(0, .int .i64 a), (1, .int .i64 b_), (2, .int .i64 c), (26, .bool (β || (r1.1 != 2)))]) (by kernel_rfl) rfl ⟨by kernel_rfl, by kernel_rfl⟩ ⟨by kernel_rfl, by kernel_rfl⟩ ?_
  refine TL.next rfl ?_
  refine TC.cond ((r1.2 != 0) || (r1.1 != 2)) rfl (by kernel_rfl) (fun h1 => ?_) (fun h1 => ?_)
  · refine TC.seq ?_
    refine TC.region ?_
    refine TL.run 1 [] [(6, .bool false)] rfl ⟨by kernel_rfl, by kernel_rfl⟩ ?_
    refine TL.next rfl ?_
    refine TC.ret ?_
    refine TE.ret_then ?_
    have e : skywaykeep2_GrayChange a b_ c = false := by subst hr1; unfold skywaykeep2_GrayChange; exact cond_t h1 (rfl)
    exact TE.ret [] (.bool false) ⟨by kernel_rfl, by kernel_rfl⟩ (by rw [e]; first | done | kernel_rfl)
  · refine TC.skip ?_
    refine TE.next ?_
    refine TC.seq ?_
    refine TC.region ?_
    refine TL.run 2 [] [(0, .int .i64 a), (1, .int .i64 b_), (2, .int .i64 c), (28, .int .i64 a), (29, .int .i64 b_)] rfl ⟨by kernel_rfl, by kernel_rfl⟩ ?_
    refine TL.call (some 30) [(0, .int .i64 a), (1, .int .i64 b_), (2, .int .i64 c), (30, .tuple #[.int .i64 ((gray_Change a b_).1), .int .i64 ((gray_Change a b_).2)])] (fun w _ => gray_Change_w a b_ w) (by kernel_rfl) (by kernel_rfl) ?_
    generalize hr2 : gray_Change a b_ = r2
    refine TL.run 8 [] [(0, .int .i64 a), (1, .int .i64 b_), (2, .int .i64 c), (9, .int .i64 r2.1), (10, .int .i64 r2.2)] rfl ⟨by kernel_rfl, by kernel_rfl⟩ ?_
    refine TL.next rfl ?_
    refine TC.seq ?_
    refine TC.region ?_
    refine TL.run 2 [] [(0, .int .i64 a), (1, .int .i64 b_), (2, .int .i64 c), (9, .int .i64 r2.1), (10, .int .i64 r2.2), (34, .int .i64 b_), (35, .int .i64 c)] rfl ⟨by kernel_rfl, by kernel_rfl⟩ ?_
    refine TL.call (some 36) [(0, .int .i64 a), (1, .int .i64 b_), (2, .int .i64 c), (9, .int .i64 r2.1), (10, .int .i64 r2.2), (36, .tuple #[.int .i64 ((gray_Change b_ c).1), .int .i64 ((gray_Change b_ c).2)])] (fun w _ => gray_Change_w b_ c w) (by kernel_rfl) (by kernel_rfl) ?_
    generalize hr3 : gray_Change b_ c = r3
    refine TL.run 8 [] [(0, .int .i64 a), (1, .int .i64 b_), (2, .int .i64 c), (9, .int .i64 r2.1), (10, .int .i64 r2.2), (11, .int .i64 r3.1), (12, .int .i64 r3.2)] rfl ⟨by kernel_rfl, by kernel_rfl⟩ ?_
    refine TL.next rfl ?_
    refine TC.seq ?_
    refine TC.region ?_
    refine TL.run 2 [] [(0, .int .i64 a), (1, .int .i64 b_), (9, .int .i64 r2.1), (10, .int .i64 r2.2), (11, .int .i64 r3.1), (12, .int .i64 r3.2), (40, .int .i64 a), (41, .int .i64 c)] rfl ⟨by kernel_rfl, by kernel_rfl⟩ ?_
    refine TL.call (some 42) [(0, .int .i64 a), (1, .int .i64 b_), (9, .int .i64 r2.1), (10, .int .i64 r2.2), (11, .int .i64 r3.1), (12, .int .i64 r3.2), (42, .tuple #[.int .i64 ((gray_Change a c).1), .int .i64 ((gray_Change a c).2)])] (fun w _ => gray_Change_w a c w) (by kernel_rfl) (by kernel_rfl) ?_
    generalize hr4 : gray_Change a c = r4
    refine TL.run 8 [] [(0, .int .i64 a), (1, .int .i64 b_), (9, .int .i64 r2.1), (10, .int .i64 r2.2), (11, .int .i64 r3.1), (12, .int .i64 r3.2), (13, .int .i64 r4.1), (14, .int .i64 r4.2)] rfl ⟨by kernel_rfl, by kernel_rfl⟩ ?_
    refine TL.next rfl ?_
    refine TC.seq ?_
    refine TC.region ?_
    refine TL.run 2 [] [(0, .int .i64 a), (1, .int .i64 b_), (9, .int .i64 r2.1), (10, .int .i64 r2.2), (11, .int .i64 r3.1), (12, .int .i64 r3.2), (13, .int .i64 r4.1), (14, .int .i64 r4.2), (46, .int .i64 b_), (47, .int .i64 a)] rfl ⟨by kernel_rfl, by kernel_rfl⟩ ?_
    refine TL.call (some 48) [(0, .int .i64 a), (1, .int .i64 b_), (9, .int .i64 r2.1), (10, .int .i64 r2.2), (11, .int .i64 r3.1), (12, .int .i64 r3.2), (13, .int .i64 r4.1), (14, .int .i64 r4.2), (48, .tuple #[.int .i64 ((gray_Change b_ a).1), .int .i64 ((gray_Change b_ a).2)])] (fun w _ => gray_Change_w b_ a w) (by kernel_rfl) (by kernel_rfl) ?_
    generalize hr5 : gray_Change b_ a = r5
    refine TL.run 8 [] [(0, .int .i64 a), (1, .int .i64 b_), (9, .int .i64 r2.1), (10, .int .i64 r2.2), (11, .int .i64 r3.1), (12, .int .i64 r3.2), (13, .int .i64 r4.1), (14, .int .i64 r4.2), (15, .int .i64 r5.1), (16, .int .i64 r5.2)] rfl ⟨by kernel_rfl, by kernel_rfl⟩ ?_
    refine TL.next rfl ?_
    refine TC.seq ?_
    refine TC.seq ?_
    refine TC.region ?_
    refine TL.run 4 [] [(0, .int .i64 a), (1, .int .i64 b_), (9, .int .i64 r2.1), (11, .int .i64 r3.1), (13, .int .i64 r4.1), (15, .int .i64 r5.1), (51, .int .i64 r2.2), (52, .int .i64 r3.2), (53, .int .i64 r4.2), (54, .int .i64 r5.2)] rfl ⟨by kernel_rfl, by kernel_rfl⟩ ?_
    refine TL.write 0 (fun b1 => [(0, .int .i64 a), (1, .int .i64 b_), (9, .int .i64 r2.1), (11, .int .i64 r3.1), (13, .int .i64 r4.1), (15, .int .i64 r5.1), (55, .slice (some ⟨b1, 0, none⟩) 4 4)]) (fun b1 => [.inl (b1, .cells #[.int .i64 r2.2, .int .i64 r3.2, .int .i64 r4.2, .int .i64 r5.2] 22 (0, 0))]) (fun b1 => ⟨by kernel_rfl, by kernel_rfl⟩) (fun b1 => ?_)
    refine TL.call (some 56) [(0, .int .i64 a), (1, .int .i64 b_), (9, .int .i64 r2.1), (11, .int .i64 r3.1), (13, .int .i64 r4.1), (15, .int .i64 r5.1), (56, .bool ((skywaykeep2_fine ([r2.2, r3.2, r4.2, r5.2]))))] (fun w hM => skywaykeep2_fine_w (some ⟨b1, 0, none⟩) 4 ([r2.2, r3.2, r4.2, r5.2]) w (Rd.lit hM 0 _ rfl (by kernel_rfl) (by kernel_rfl) (by kernel_rfl)) (Nat.le_refl _)) (by kernel_rfl) (by kernel_rfl) ?_
    generalize hr6 : skywaykeep2_fine ([r2.2, r3.2, r4.2, r5.2]) = r6
    refine TL.run 7 [] [(0, .int .i64 a), (1, .int .i64 b_), (9, .int .i64 r2.1), (11, .int .i64 r3.1), (13, .int .i64 r4.1), (15, .int .i64 r5.1), (57, .bool (!r6))] rfl ⟨by kernel_rfl, by kernel_rfl⟩ ?_
    refine TL.next rfl ?_
    refine TC.cond (!r6) rfl (by kernel_rfl) (fun h2 => ?_) (fun h2 => ?_)
    · refine TC.seq ?_
      refine TC.region ?_
      refine TL.run 3 [] [(11, .int .i64 r3.1), (13, .int .i64 r4.1), (15, .int .i64 r5.1), (60, .bool (r2.1 == 0))] rfl ⟨by kernel_rfl, by kernel_rfl⟩ ?_
      refine TL.join 60 (r2.1 == 0) 6 [] [] (fun β => [(13, .int .i64 r4.1), (15, .int .i64 r5.1), (63, .bool (β || (r3.1 == 0)))]) (by kernel_rfl) rfl ⟨by kernel_rfl, by kernel_rfl⟩ ⟨by kernel_rfl, by kernel_rfl⟩ ?_
      refine TL.run 7 [] [(13, .int .i64 r4.1), (15, .int .i64 r5.1), (64, .bool ((r2.1 == 0) || (r3.1 == 0)))] rfl ⟨by kernel_rfl, by kernel_rfl⟩ ?_
      refine TL.join 64 ((r2.1 == 0) || (r3.1 == 0)) 10 [] [] (fun β => [(15, .int .i64 r5.1), (67, .bool (β || (r4.1 == 0)))]) (by kernel_rfl) rfl ⟨by kernel_rfl, by kernel_rfl⟩ ⟨by kernel_rfl, by kernel_rfl⟩ ?_
      refine TL.run 11 [] [(15, .int .i64 r5.1), (68, .bool (((r2.1 == 0) || (r3.1 == 0)) || (r4.1 == 0)))] rfl ⟨by kernel_rfl, by kernel_rfl⟩ ?_
      refine TL.join 68 (((r2.1 == 0) || (r3.1 == 0)) || (r4.1 == 0)) 14 [] [] (fun β => [(71, .bool (β || (r5.1 == 0)))]) (by kernel_rfl) rfl ⟨by kernel_rfl, by kernel_rfl⟩ ⟨by kernel_rfl, by kernel_rfl⟩ ?_
      refine TL.run 15 [] [(6, .bool ((((r2.1 == 0) || (r3.1 == 0)) || (r4.1 == 0)) || (r5.1 == 0)))] rfl ⟨by kernel_rfl, by kernel_rfl⟩ ?_
      refine TL.next rfl ?_
      refine TC.ret ?_
      refine TE.ret_then ?_
      have e : skywaykeep2_GrayChange a b_ c = ((((r2.1 == 0) || (r3.1 == 0)) || (r4.1 == 0)) || (r5.1 == 0)) := by subst hr1 hr2 hr3 hr4 hr5 hr6; unfold skywaykeep2_GrayChange; exact cond_f h1 (cond_t h2 (rfl))
      exact TE.ret [] (.bool ((((r2.1 == 0) || (r3.1 == 0)) || (r4.1 == 0)) || (r5.1 == 0))) ⟨by kernel_rfl, by kernel_rfl⟩ (by rw [e]; first | done | kernel_rfl)
    · refine TC.skip ?_
      refine TE.next ?_
      refine TC.seq ?_
      refine TC.region ?_
      refine TL.run 7 [] [(9, .int .i64 r2.1), (11, .int .i64 r3.1), (13, .int .i64 r4.1), (15, .int .i64 r5.1), (78, .bool ((r2.1 == 0) == (a == b_)))] rfl ⟨by kernel_rfl, by kernel_rfl⟩ ?_
      refine TL.join 78 ((r2.1 == 0) == (a == b_)) 11 [] [] (fun β => [(9, .int .i64 r2.1), (11, .int .i64 r3.1), (13, .int .i64 r4.1), (82, .bool (β && (r2.1 == r5.1)))]) (by kernel_rfl) rfl ⟨by kernel_rfl, by kernel_rfl⟩ ⟨by kernel_rfl, by kernel_rfl⟩ ?_
      refine TL.run 12 [] [(9, .int .i64 r2.1), (11, .int .i64 r3.1), (13, .int .i64 r4.1), (83, .bool (((r2.1 == 0) == (a == b_)) && (r2.1 == r5.1)))] rfl ⟨by kernel_rfl, by kernel_rfl⟩ ?_
      refine TL.join 83 (((r2.1 == 0) == (a == b_)) && (r2.1 == r5.1)) 18 [] [] (fun β => [(9, .int .i64 r2.1), (89, .bool (β && (decide (r4.1 ≤ (w64 (r2.1 + r3.1))))))]) (by kernel_rfl) rfl ⟨by kernel_rfl, by kernel_rfl⟩ ⟨by kernel_rfl, by kernel_rfl⟩ ?_
      refine TL.run 19 [] [(9, .int .i64 r2.1), (90, .bool ((((r2.1 == 0) == (a == b_)) && (r2.1 == r5.1)) && (decide (r4.1 ≤ (w64 (r2.1 + r3.1))))))] rfl ⟨by kernel_rfl, by kernel_rfl⟩ ?_
      refine TL.join 90 ((((r2.1 == 0) == (a == b_)) && (r2.1 == r5.1)) && (decide (r4.1 ≤ (w64 (r2.1 + r3.1))))) 22 [] [] (fun β => [(93, .bool (β && (decide (r2.1 ≤ 12))))]) (by kernel_rfl) rfl ⟨by kernel_rfl, by kernel_rfl⟩ ⟨by kernel_rfl, by kernel_rfl⟩ ?_
      refine TL.run 23 [] [(6, .bool (((((r2.1 == 0) == (a == b_)) && (r2.1 == r5.1)) && (decide (r4.1 ≤ (w64 (r2.1 + r3.1))))) && (decide (r2.1 ≤ 12))))] rfl ⟨by kernel_rfl, by kernel_rfl⟩ ?_
      refine TL.next rfl ?_
      refine TC.ret ?_
      have e : skywaykeep2_GrayChange a b_ c = (((((r2.1 == 0) == (a == b_)) && (r2.1 == r5.1)) && (decide (r4.1 ≤ (w64 (r2.1 + r3.1))))) && (decide (r2.1 ≤ 12))) := by subst hr1 hr2 hr3 hr4 hr5 hr6; unfold skywaykeep2_GrayChange; exact cond_f h1 (cond_f h2 (rfl))
      exact TE.ret [] (.bool (((((r2.1 == 0) == (a == b_)) && (r2.1 == r5.1)) && (decide (r4.1 ≤ (w64 (r2.1 + r3.1))))) && (decide (r2.1 ≤ 12)))) ⟨by kernel_rfl, by kernel_rfl⟩ (by rw [e]; first | done | kernel_rfl)

def gray_Encode (height : Int) : Int × Int :=
  cond ((decide (height < (-1000))) || (decide (height > 60000))) (
    (0, 4)) (
    (kxor .i64 (w64 ((w64 (height + 1000)).tdiv 100)) (w64 ((w64 ((w64 (height + 1000)).tdiv 100)).tdiv 2)), 0))

set_option maxRecDepth 100000 in
theorem gray_Encode_w (height : Int) (w : World) : Calls Try.prog 23 #[.int .i64 height] w (Ret w (.tuple #[.int .i64 ((gray_Encode height).1), .int .i64 ((gray_Encode height).2)])) := by
  refine calls_intro (vs := [.int .i64 height]) (w := w) Try.func23 rfl Try.ntmps23 rfl ?_
  refine TC.weak [(0, .int .i64 height)] (by kernel_rfl) ?_
  refine TC.seq ?_
  refine TC.region ?_
  refine TL.run 2 [] [(0, .int .i64 height)] rfl ⟨by kernel_rfl, by kernel_rfl⟩ ?_
  refine TL.next rfl ?_
  refine TC.seq ?_
  refine TC.seq ?_
  refine TC.region ?_
  refine TL.run 3 [] [(0, .int .i64 height), (7, .bool (decide (height < (-1000))))] rfl ⟨by kernel_rfl, by kernel_rfl⟩ ?_
  refine TL.join 7 (decide (height < (-1000))) 6 [] [] (fun β => [(0, .int .i64 height), (10, .bool (β || (decide (height > 60000))))]) (by kernel_rfl) rfl ⟨by kernel_rfl, by kernel_rfl⟩ ⟨by kernel_rfl, by kernel_rfl⟩ ?_
  refine TL.next rfl ?_
  refine TC.cond ((decide (height < (-1000))) || (decide (height > 60000))) rfl (by kernel_rfl) (fun h1 => ?_) (fun h1 => ?_)
  · refine TC.seq ?_
    refine TC.region ?_
    refine TL.run 2 [] [(2, .int .i64 0), (3, .int .i64 4)] rfl ⟨by kernel_rfl, by kernel_rfl⟩ ?_
    refine TL.next rfl ?_
    refine TC.ret ?_
    refine TE.ret_then ?_
    have e : gray_Encode height = (0, 4) := by unfold gray_Encode; exact cond_t h1 (rfl)
    exact TE.ret [] (.tuple #[.int .i64 0, .int .i64 4]) ⟨by kernel_rfl, by kernel_rfl⟩ (by rw [e]; first | done | kernel_rfl)
  · refine TC.skip ?_
    refine TE.next ?_
    refine TC.seq ?_
    refine TC.region ?_
    refine TL.run 4 [] [(4, .int .i64 (w64 ((w64 (height + 1000)).tdiv 100)))] rfl ⟨by kernel_rfl, by kernel_rfl⟩ ?_
    refine TL.next rfl ?_
    refine TC.seq ?_
    refine TC.region ?_
    refine TL.run 6 [] [(2, .int .i64 (kxor .i64 (w64 ((w64 (height + 1000)).tdiv 100)) (w64 ((w64 ((w64 (height + 1000)).tdiv 100)).tdiv 2)))), (3, .int .i64 0)] rfl ⟨by kernel_rfl, by kernel_rfl⟩ ?_
    refine TL.next rfl ?_
    refine TC.ret ?_
    have e : gray_Encode height = (kxor .i64 (w64 ((w64 (height + 1000)).tdiv 100)) (w64 ((w64 ((w64 (height + 1000)).tdiv 100)).tdiv 2)), 0) := by unfold gray_Encode; exact cond_f h1 (rfl)
    exact TE.ret [] (.tuple #[.int .i64 (kxor .i64 (w64 ((w64 (height + 1000)).tdiv 100)) (w64 ((w64 ((w64 (height + 1000)).tdiv 100)).tdiv 2))), .int .i64 0]) ⟨by kernel_rfl, by kernel_rfl⟩ (by rw [e]; first | done | kernel_rfl)

def gray_Decode_L1 : Nat → Int → Int → Option Int
  | 0, _, _ => none
  | m + 1, n, k => cond (decide (k > 0)) (
      gray_Decode_L1 m (kxor .i64 n k) (k.fdiv (2 ^ 1))) (
      some (n))
def gray_Decode (code : Int) : Int × Int :=
  let r1 := gray_wrong code
  cond r1 (
    (0, 4)) (
    bindv ((gray_Decode_L1 13 code (code.fdiv (2 ^ 1))).getD 0) (fun n_2 =>
      cond (decide ((w64 ((w64 (n_2 * 100)) - 1000)) > 60000)) (
        (0, 8)) (
        (w64 ((w64 (n_2 * 100)) - 1000), 0))))

theorem gray_total (j : Nat) (n k : Int) (h : k < 2 ^ j) : ∃ R, gray_Decode_L1 (j + 1) n k = some R := by
  induction j generalizing n k with
  | zero =>
    have hk : (decide (k > 0)) = false := by
      have : (2 : Int) ^ 0 = 1 := rfl
      simp; omega
    exact ⟨n, by simp only [gray_Decode_L1, hk, cond_false]⟩
  | succ j ih =>
    by_cases hk : k > 0
    · have e : k.fdiv (2 ^ 1) < 2 ^ j := by
        rw [Int.pow_succ] at h
        have : k.fdiv (2 ^ 1) = k / 2 := Int.fdiv_eq_ediv_of_nonneg k (by decide)
        rw [this]
        omega
      obtain ⟨R, hR⟩ := ih (kxor .i64 n k) _ e
      exact ⟨R, by unfold gray_Decode_L1; simp only [decide_eq_true hk, cond_true]; exact hR⟩
    · exact ⟨n, by simp only [gray_Decode_L1, decide_eq_false hk, cond_false]⟩
theorem gray_first {code : Int} {r : Bool} (hr : gray_wrong code = r) (h : r = false) : code.fdiv (2 ^ 1) < 2 ^ 12 := by
  subst hr
  simp only [gray_wrong] at h
  have := or_f2 h
  simp at this
  have e : code.fdiv (2 ^ 1) = code / 2 := Int.fdiv_eq_ediv_of_nonneg code (by decide)
  rw [e]
  have : (2 : Int) ^ 12 = 4096 := rfl
  omega

set_option maxRecDepth 100000 in
theorem gray_Decode_w (code : Int) (w : World) : Calls Try.prog 24 #[.int .i64 code] w (Ret w (.tuple #[.int .i64 ((gray_Decode code).1), .int .i64 ((gray_Decode code).2)])) := by
  refine calls_intro (vs := [.int .i64 code]) (w := w) Try.func24 rfl Try.ntmps24 rfl ?_
  refine TC.weak [(0, .int .i64 code)] (by kernel_rfl) ?_
  refine TC.seq ?_
  refine TC.region ?_
  refine TL.run 2 [] [(0, .int .i64 code)] rfl ⟨by kernel_rfl, by kernel_rfl⟩ ?_
  refine TL.next rfl ?_
  refine TC.seq ?_
  refine TC.seq ?_
  refine TC.region ?_
  refine TL.run 1 [] [(0, .int .i64 code), (6, .int .i64 code)] rfl ⟨by kernel_rfl, by kernel_rfl⟩ ?_
  refine TL.call (some 7) [(0, .int .i64 code), (7, .bool ((gray_wrong code)))] (fun w _ => gray_wrong_w code w) (by kernel_rfl) (by kernel_rfl) ?_
  generalize hr1 : gray_wrong code = r1
  refine TL.next rfl ?_
  refine TC.cond r1 rfl (by kernel_rfl) (fun h1 => ?_) (fun h1 => ?_)
  · refine TC.seq ?_
    refine TC.region ?_
    refine TL.run 2 [] [(2, .int .i64 0), (3, .int .i64 4)] rfl ⟨by kernel_rfl, by kernel_rfl⟩ ?_
    refine TL.next rfl ?_
    refine TC.ret ?_
    refine TE.ret_then ?_
    have e : gray_Decode code = (0, 4) := by subst hr1; unfold gray_Decode; exact cond_t h1 (rfl)
    exact TE.ret [] (.tuple #[.int .i64 0, .int .i64 4]) ⟨by kernel_rfl, by kernel_rfl⟩ (by rw [e]; first | done | kernel_rfl)
  · refine TC.skip ?_
    refine TE.next ?_
    refine TC.seq ?_
    refine TC.region ?_
    refine TL.run 2 [] [(0, .int .i64 code), (4, .int .i64 code)] rfl ⟨by kernel_rfl, by kernel_rfl⟩ ?_
    refine TL.next rfl ?_
    refine TC.seq ?_
    refine TC.seq ?_
    refine TC.region ?_
    refine TL.run 3 [] [(4, .int .i64 code), (5, .int .i64 (code.fdiv (2 ^ 1)))] rfl ⟨by kernel_rfl, by kernel_rfl⟩ ?_
    refine TL.next rfl ?_
    refine TC.weak [(4, .int .i64 code), (5, .int .i64 (code.fdiv (2 ^ 1)))] (by kernel_rfl) ?_
    obtain ⟨R1, hR⟩ : ∃ R, gray_Decode_L1 13 code (code.fdiv (2 ^ 1)) = some R := gray_total 12 _ _ (gray_first hr1 h1)
    refine TC.cut (S := Int) (fun n_2 => [(4, .int .i64 n_2)]) (fun n_2 => []) (fun n_2 => R1 = n_2) ?_ ?_
    · refine TC.block ?_
      refine TC.loop (X := Nat × Int × Int) (fun (m, n, k) => [(4, .int .i64 n), (5, .int .i64 k)]) (fun (m, n, k) => []) (fun (m, n, k) => m) (fun (m, n, k) => gray_Decode_L1 m n k = some R1) ?_ (13, code, code.fdiv (2 ^ 1)) hR
      rintro ⟨m, n, k⟩ hI
      rcases m with _ | m
      · cases hI
      refine TC.seq ?_
      refine TC.seq ?_
      refine TC.region ?_
      refine TL.run 2 [] [(4, .int .i64 n), (5, .int .i64 k), (12, .bool (decide (k > 0)))] rfl ⟨by kernel_rfl, by kernel_rfl⟩ ?_
      refine TL.next rfl ?_
      refine TC.cond (decide (k > 0)) rfl (by kernel_rfl) (fun h2 => ?_) (fun h2 => ?_)
      · refine TC.skip ?_
        refine TE.next ?_
        refine TC.seq ?_
        refine TC.block ?_
        refine TC.region ?_
        refine TL.run 4 [] [(4, .int .i64 (kxor .i64 n k)), (5, .int .i64 k)] rfl ⟨by kernel_rfl, by kernel_rfl⟩ ?_
        refine TL.done rfl ?_
        refine TE.normal_block ?_
        refine TE.next ?_
        refine TC.region ?_
        refine TL.run 3 [] [(4, .int .i64 (kxor .i64 n k)), (5, .int .i64 (k.fdiv (2 ^ 1)))] rfl ⟨by kernel_rfl, by kernel_rfl⟩ ?_
        refine TL.done rfl ?_
        exact TE.again (x := (m + 1, n, k)) (m, kxor .i64 n k, k.fdiv (2 ^ 1)) (by subst hr1; exact (Eq.symm (cond_t h2 (rfl))).trans hI) (Nat.lt_succ_self _) (by kernel_rfl) (.slnil)
      · refine TC.exit ?_
        refine TE.exit_then (TE.exit_then (TE.exit_same ?_))
        exact TE.cut n (Option.some.inj (hI.symm.trans (by subst hr1; exact cond_f h2 (rfl)))) (by kernel_rfl) (.slnil)
    · rintro n_2 hJ
      refine TE.next ?_
      refine TC.seq ?_
      refine TC.seq ?_
      refine TC.region ?_
      refine TL.run 4 [] [(4, .int .i64 n_2), (21, .bool (decide ((w64 ((w64 (n_2 * 100)) - 1000)) > 60000)))] rfl ⟨by kernel_rfl, by kernel_rfl⟩ ?_
      refine TL.next rfl ?_
      refine TC.cond (decide ((w64 ((w64 (n_2 * 100)) - 1000)) > 60000)) rfl (by kernel_rfl) (fun h3 => ?_) (fun h3 => ?_)
      · refine TC.seq ?_
        refine TC.region ?_
        refine TL.run 2 [] [(2, .int .i64 0), (3, .int .i64 8)] rfl ⟨by kernel_rfl, by kernel_rfl⟩ ?_
        refine TL.next rfl ?_
        refine TC.ret ?_
        refine TE.ret_then ?_
        have e : gray_Decode code = (0, 8) := by subst hr1; unfold gray_Decode; exact cond_f h1 (bindv_eq ((congrArg (Option.getD · _) hR).trans hJ) (cond_t h3 (rfl)))
        exact TE.ret [] (.tuple #[.int .i64 0, .int .i64 8]) ⟨by kernel_rfl, by kernel_rfl⟩ (by rw [e]; first | done | kernel_rfl)
      · refine TC.skip ?_
        refine TE.next ?_
        refine TC.seq ?_
        refine TC.region ?_
        refine TL.run 5 [] [(2, .int .i64 (w64 ((w64 (n_2 * 100)) - 1000))), (3, .int .i64 0)] rfl ⟨by kernel_rfl, by kernel_rfl⟩ ?_
        refine TL.next rfl ?_
        refine TC.ret ?_
        have e : gray_Decode code = (w64 ((w64 (n_2 * 100)) - 1000), 0) := by subst hr1; unfold gray_Decode; exact cond_f h1 (bindv_eq ((congrArg (Option.getD · _) hR).trans hJ) (cond_f h3 (rfl)))
        exact TE.ret [] (.tuple #[.int .i64 (w64 ((w64 (n_2 * 100)) - 1000)), .int .i64 0]) ⟨by kernel_rfl, by kernel_rfl⟩ (by rw [e]; first | done | kernel_rfl)

def skywaykeep2_GrayNear (height : Int) : Bool :=
  let r1 := gray_Encode 0
  cond ((r1.2 != 0) || (r1.1 != 15)) (
    false) (
    let r2 := gray_Encode height
    cond (r2.2 != 0) (
      r2.1 == 0) (
      let r3 := gray_Decode r2.1
      cond (((r3.2 != 0) || (decide (r3.1 > height))) || (decide ((w64 (height - r3.1)) > 99))) (
        false) (
        let r4 := gray_Encode (w64 (height + 100))
        let r5 := gray_Change r2.1 r4.1
        cond (r4.2 != 0) (
          true) (
          cond (r5.2 == 0) (
            r5.1 == 1) (
            false)))))

set_option maxRecDepth 100000 in
theorem skywaykeep2_GrayNear_w (height : Int) (w : World) : Calls Try.prog 8 #[.int .i64 height] w (Ret w (.bool (skywaykeep2_GrayNear height))) := by
  refine calls_intro (vs := [.int .i64 height]) (w := w) Try.func8 rfl Try.ntmps8 rfl ?_
  refine TC.weak [(0, .int .i64 height)] (by kernel_rfl) ?_
  refine TC.seq ?_
  refine TC.region ?_
  refine TL.run 1 [] [(0, .int .i64 height)] rfl ⟨by kernel_rfl, by kernel_rfl⟩ ?_
  refine TL.next rfl ?_
  refine TC.seq ?_
  refine TC.seq ?_
  refine TC.region ?_
  refine TL.call (some 14) [(0, .int .i64 height), (14, .tuple #[.int .i64 ((gray_Encode 0).1), .int .i64 ((gray_Encode 0).2)])] (fun w _ => gray_Encode_w 0 w) (by kernel_rfl) (by kernel_rfl) ?_
  generalize hr1 : gray_Encode 0 = r1
  refine TL.run 6 [] [(0, .int .i64 height), (3, .int .i64 r1.1), (4, .int .i64 r1.2)] rfl ⟨by kernel_rfl, by kernel_rfl⟩ ?_
  refine TL.next rfl ?_
  refine TC.seq ?_
  refine TC.region ?_
  refine TL.run 3 [] [(0, .int .i64 height), (3, .int .i64 r1.1), (19, .bool (r1.2 != 0))] rfl ⟨by kernel_rfl, by kernel_rfl⟩ ?_
  refine TL.join 19 (r1.2 != 0) 6 [] [] (fun β => [(0, .int .i64 height), (22, .bool (β || (r1.1 != 15)))]) (by kernel_rfl) rfl ⟨by kernel_rfl, by kernel_rfl⟩ ⟨by kernel_rfl, by kernel_rfl⟩ ?_
  refine TL.next rfl ?_
  refine TC.cond ((r1.2 != 0) || (r1.1 != 15)) rfl (by kernel_rfl) (fun h1 => ?_) (fun h1 => ?_)
  · refine TC.seq ?_
    refine TC.region ?_
    refine TL.run 1 [] [(2, .bool false)] rfl ⟨by kernel_rfl, by kernel_rfl⟩ ?_
    refine TL.next rfl ?_
    refine TC.ret ?_
    refine TE.ret_then ?_
    have e : skywaykeep2_GrayNear height = false := by subst hr1; unfold skywaykeep2_GrayNear; exact cond_t h1 (rfl)
    exact TE.ret [] (.bool false) ⟨by kernel_rfl, by kernel_rfl⟩ (by rw [e]; first | done | kernel_rfl)
  · refine TC.skip ?_
    refine TE.next ?_
    refine TC.seq ?_
    refine TC.region ?_
    refine TL.run 1 [] [(0, .int .i64 height), (24, .int .i64 height)] rfl ⟨by kernel_rfl, by kernel_rfl⟩ ?_
    refine TL.call (some 25) [(0, .int .i64 height), (25, .tuple #[.int .i64 ((gray_Encode height).1), .int .i64 ((gray_Encode height).2)])] (fun w _ => gray_Encode_w height w) (by kernel_rfl) (by kernel_rfl) ?_
    generalize hr2 : gray_Encode height = r2
    refine TL.run 7 [] [(0, .int .i64 height), (5, .int .i64 r2.1), (6, .int .i64 r2.2)] rfl ⟨by kernel_rfl, by kernel_rfl⟩ ?_
    refine TL.next rfl ?_
    refine TC.seq ?_
    refine TC.seq ?_
    refine TC.region ?_
    refine TL.run 2 [] [(0, .int .i64 height), (5, .int .i64 r2.1), (29, .bool (r2.2 != 0))] rfl ⟨by kernel_rfl, by kernel_rfl⟩ ?_
    refine TL.next rfl ?_
    refine TC.cond (r2.2 != 0) rfl (by kernel_rfl) (fun h2 => ?_) (fun h2 => ?_)
    · refine TC.seq ?_
      refine TC.region ?_
      refine TL.run 3 [] [(2, .bool (r2.1 == 0))] rfl ⟨by kernel_rfl, by kernel_rfl⟩ ?_
      refine TL.next rfl ?_
      refine TC.ret ?_
      refine TE.ret_then ?_
      have e : skywaykeep2_GrayNear height = (r2.1 == 0) := by subst hr1 hr2; unfold skywaykeep2_GrayNear; exact cond_f h1 (cond_t h2 (rfl))
      exact TE.ret [] (.bool (r2.1 == 0)) ⟨by kernel_rfl, by kernel_rfl⟩ (by rw [e]; first | done | kernel_rfl)
    · refine TC.skip ?_
      refine TE.next ?_
      refine TC.seq ?_
      refine TC.region ?_
      refine TL.run 1 [] [(0, .int .i64 height), (5, .int .i64 r2.1), (33, .int .i64 r2.1)] rfl ⟨by kernel_rfl, by kernel_rfl⟩ ?_
      refine TL.call (some 34) [(0, .int .i64 height), (5, .int .i64 r2.1), (34, .tuple #[.int .i64 ((gray_Decode r2.1).1), .int .i64 ((gray_Decode r2.1).2)])] (fun w _ => gray_Decode_w r2.1 w) (by kernel_rfl) (by kernel_rfl) ?_
      generalize hr3 : gray_Decode r2.1 = r3
      refine TL.run 7 [] [(0, .int .i64 height), (5, .int .i64 r2.1), (7, .int .i64 r3.1), (8, .int .i64 r3.2)] rfl ⟨by kernel_rfl, by kernel_rfl⟩ ?_
      refine TL.next rfl ?_
      refine TC.seq ?_
      refine TC.seq ?_
      refine TC.region ?_
      refine TL.run 3 [] [(0, .int .i64 height), (5, .int .i64 r2.1), (7, .int .i64 r3.1), (39, .bool (r3.2 != 0))] rfl ⟨by kernel_rfl, by kernel_rfl⟩ ?_
      refine TL.join 39 (r3.2 != 0) 7 [] [] (fun β => [(0, .int .i64 height), (5, .int .i64 r2.1), (7, .int .i64 r3.1), (43, .bool (β || (decide (r3.1 > height))))]) (by kernel_rfl) rfl ⟨by kernel_rfl, by kernel_rfl⟩ ⟨by kernel_rfl, by kernel_rfl⟩ ?_
      refine TL.run 8 [] [(0, .int .i64 height), (5, .int .i64 r2.1), (7, .int .i64 r3.1), (44, .bool ((r3.2 != 0) || (decide (r3.1 > height))))] rfl ⟨by kernel_rfl, by kernel_rfl⟩ ?_
      refine TL.join 44 ((r3.2 != 0) || (decide (r3.1 > height))) 13 [] [] (fun β => [(0, .int .i64 height), (5, .int .i64 r2.1), (49, .bool (β || (decide ((w64 (height - r3.1)) > 99))))]) (by kernel_rfl) rfl ⟨by kernel_rfl, by kernel_rfl⟩ ⟨by kernel_rfl, by kernel_rfl⟩ ?_
      refine TL.next rfl ?_
      refine TC.cond (((r3.2 != 0) || (decide (r3.1 > height))) || (decide ((w64 (height - r3.1)) > 99))) rfl (by kernel_rfl) (fun h3 => ?_) (fun h3 => ?_)
      · refine TC.seq ?_
        refine TC.region ?_
        refine TL.run 1 [] [(2, .bool false)] rfl ⟨by kernel_rfl, by kernel_rfl⟩ ?_
        refine TL.next rfl ?_
        refine TC.ret ?_
        refine TE.ret_then ?_
        have e : skywaykeep2_GrayNear height = false := by subst hr1 hr2 hr3; unfold skywaykeep2_GrayNear; exact cond_f h1 (cond_f h2 (cond_t h3 (rfl)))
        exact TE.ret [] (.bool false) ⟨by kernel_rfl, by kernel_rfl⟩ (by rw [e]; first | done | kernel_rfl)
      · refine TC.skip ?_
        refine TE.next ?_
        refine TC.seq ?_
        refine TC.region ?_
        refine TL.run 2 [] [(5, .int .i64 r2.1), (52, .int .i64 (w64 (height + 100)))] rfl ⟨by kernel_rfl, by kernel_rfl⟩ ?_
        refine TL.call (some 53) [(5, .int .i64 r2.1), (53, .tuple #[.int .i64 ((gray_Encode (w64 (height + 100))).1), .int .i64 ((gray_Encode (w64 (height + 100))).2)])] (fun w _ => gray_Encode_w (w64 (height + 100)) w) (by kernel_rfl) (by kernel_rfl) ?_
        generalize hr4 : gray_Encode (w64 (height + 100)) = r4
        refine TL.run 8 [] [(5, .int .i64 r2.1), (9, .int .i64 r4.1), (10, .int .i64 r4.2)] rfl ⟨by kernel_rfl, by kernel_rfl⟩ ?_
        refine TL.next rfl ?_
        refine TC.seq ?_
        refine TC.region ?_
        refine TL.run 2 [] [(10, .int .i64 r4.2), (57, .int .i64 r2.1), (58, .int .i64 r4.1)] rfl ⟨by kernel_rfl, by kernel_rfl⟩ ?_
        refine TL.call (some 59) [(10, .int .i64 r4.2), (59, .tuple #[.int .i64 ((gray_Change r2.1 r4.1).1), .int .i64 ((gray_Change r2.1 r4.1).2)])] (fun w _ => gray_Change_w r2.1 r4.1 w) (by kernel_rfl) (by kernel_rfl) ?_
        generalize hr5 : gray_Change r2.1 r4.1 = r5
        refine TL.run 8 [] [(10, .int .i64 r4.2), (11, .int .i64 r5.1), (12, .int .i64 r5.2)] rfl ⟨by kernel_rfl, by kernel_rfl⟩ ?_
        refine TL.next rfl ?_
        refine TC.seq ?_
        refine TC.region ?_
        refine TL.run 3 [] [(11, .int .i64 r5.1), (12, .int .i64 r5.2), (64, .bool (r4.2 != 0))] rfl ⟨by kernel_rfl, by kernel_rfl⟩ ?_
        refine TL.split 64 (r4.2 != 0) (by kernel_rfl) (fun h4 => ?_) (fun h4 => ?_)
        · refine TL.run 11 [] [(2, .bool true)] rfl ⟨by kernel_rfl, by kernel_rfl⟩ ?_
          refine TL.next rfl ?_
          refine TC.ret ?_
          have e : skywaykeep2_GrayNear height = true := by subst hr1 hr2 hr3 hr4 hr5; unfold skywaykeep2_GrayNear; exact cond_f h1 (cond_f h2 (cond_f h3 (cond_t h4 (rfl))))
          exact TE.ret [] (.bool true) ⟨by kernel_rfl, by kernel_rfl⟩ (by rw [e]; first | done | kernel_rfl)
        · refine TL.run 6 [] [(11, .int .i64 r5.1), (64, .bool false), (67, .bool (r5.2 == 0))] rfl ⟨by kernel_rfl, by kernel_rfl⟩ ?_
          refine TL.split 67 (r5.2 == 0) (by kernel_rfl) (fun h5 => ?_) (fun h5 => ?_)
          · refine TL.run 11 [] [(2, .bool (r5.1 == 1))] rfl ⟨by kernel_rfl, by kernel_rfl⟩ ?_
            refine TL.next rfl ?_
            refine TC.ret ?_
            have e : skywaykeep2_GrayNear height = (r5.1 == 1) := by subst hr1 hr2 hr3 hr4 hr5; unfold skywaykeep2_GrayNear; exact cond_f h1 (cond_f h2 (cond_f h3 (cond_f h4 (cond_t h5 (rfl)))))
            exact TE.ret [] (.bool (r5.1 == 1)) ⟨by kernel_rfl, by kernel_rfl⟩ (by rw [e]; first | done | kernel_rfl)
          · refine TL.run 11 [] [(2, .bool false)] rfl ⟨by kernel_rfl, by kernel_rfl⟩ ?_
            refine TL.next rfl ?_
            refine TC.ret ?_
            have e : skywaykeep2_GrayNear height = false := by subst hr1 hr2 hr3 hr4 hr5; unfold skywaykeep2_GrayNear; exact cond_f h1 (cond_f h2 (cond_f h3 (cond_f h4 (cond_f h5 (rfl)))))
            exact TE.ret [] (.bool false) ⟨by kernel_rfl, by kernel_rfl⟩ (by rw [e]; first | done | kernel_rfl)

end Go.Sky
