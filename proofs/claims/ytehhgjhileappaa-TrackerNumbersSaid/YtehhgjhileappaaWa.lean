/- Functions of the program, each with the Lean function that it computes. Conditions: none. -/
import Derived.Test.YtehhgjhileappaaSa
import Derived.Test.YtehhgjhileappaaFct
import Derived.Test.YtehhgjhileappaaThick
namespace Go.Sky
open Go Go.Eng Go.Proofs
def radar_out (n : Int) (low : Int) (high : Int) : Bool :=
  (decide (n < low)) || (decide (n > high))

set_option maxRecDepth 100000 in
theorem radar_out_w (n : Int) (low : Int) (high : Int) (w : World) : Calls Try.prog 63 #[.int .i64 n, .int .i64 low, .int .i64 high] w (Ret w (.bool (radar_out n low high))) := by
  refine calls_intro (vs := [.i n, .i low, .i high]) (w := w) Try.func63 rfl Try.ntmps63 rfl (TC.weak [(0, .i n), (1, .i low), (2, .i high)] Kr (TC.seq (TC.region (TL.r 1 [] [(6, .b false)] {} (TL.next rfl (TC.seq (TC.region (TL.r 4 [] [(10, .b (decide (n < low)))] {} (TL.j 10 (decide (n < low)) 8 [] [] (fun β => [(14, .b (β || (decide (n > high))))]) Kr {} {} (TL.r 9 [] [(6, .b ((decide (n < low)) || (decide (n > high))))] {} (TL.next rfl (TC.ret ?_))))))))))))
  have e : radar_out n low high = ((decide (n < low)) || (decide (n > high))) := by unfold radar_out; exact rfl
  exact TE.ret [] (.b ((decide (n < low)) || (decide (n > high)))) {} (by rw [e]; first | done | kernel_rfl)

def plane_Check (p : P) : Int :=
  cond ((((decide (p.X < (-1000000))) || (decide (p.X > 1000000))) || (decide (p.Y < (-1000000)))) || (decide (p.Y > 1000000))) (
    4) (
    0)

set_option maxRecDepth 100000 in
theorem plane_Check_w (p : P) (w : World) : Calls Try.prog 64 #[P.v p] w (Ret w (.int .i64 (plane_Check p))) := by
  refine calls_intro (vs := [P.v p]) (w := w) Try.func64 rfl Try.ntmps64 rfl (TC.weak [(0, P.v p)] Kr (TC.seq (TC.region (TL.nw 1 (fun b1 => .p0 b1) (fun b1 => Bk b1 (P.c p) 34) (fun b1 => {}) (fun b1 => TL.r 2 [] [(2, .i 0)] {} (TL.next rfl (TC.seq (TC.seq (TC.region (TL.r 4 [0] [(6, .b (decide (p.X < (-1000000))))] {} (TL.j 6 (decide (p.X < (-1000000))) 8 [] [0] (fun β => [(10, .b (β || (decide (p.X > 1000000))))]) Kr {} {} (TL.r 9 [] [(11, .b ((decide (p.X < (-1000000))) || (decide (p.X > 1000000))))] {} (TL.j 11 ((decide (p.X < (-1000000))) || (decide (p.X > 1000000))) 13 [] [0] (fun β => [(15, .b (β || (decide (p.Y < (-1000000)))))]) Kr {} {} (TL.r 14 [] [(16, .b (((decide (p.X < (-1000000))) || (decide (p.X > 1000000))) || (decide (p.Y < (-1000000)))))] {} (TL.j 16 (((decide (p.X < (-1000000))) || (decide (p.X > 1000000))) || (decide (p.Y < (-1000000)))) 18 [] [0] (fun β => [(20, .b (β || (decide (p.Y > 1000000))))]) Kr {} {} (TL.next rfl (TC.cond ((((decide (p.X < (-1000000))) || (decide (p.X > 1000000))) || (decide (p.Y < (-1000000)))) || (decide (p.Y > 1000000))) rfl Kr (fun h1 => ?_) (fun h1 => ?_))))))))))))))))))
  · refine TC.seq (TC.region (TL.r 1 [] [(2, .i 4)] {} (TL.next rfl (TC.ret (TE.ret_then ?_)))))
    have e : plane_Check p = 4 := by unfold plane_Check; exact cond_t h1 (rfl)
    exact TE.ret [] (.i 4) {} (by rw [e]; first | done | kernel_rfl)
  · refine TC.skip (TE.next (TC.seq (TC.region (TL.r 1 [] [(2, .i 0)] {} (TL.next rfl (TC.ret ?_))))))
    have e : plane_Check p = 0 := by unfold plane_Check; exact cond_f h1 (rfl)
    exact TE.ret [] (.i 0) {} (by rw [e]; first | done | kernel_rfl)

def radar_CheckSpot (s : Spot) : Int :=
  let r1 := radar_out s.Time 0 200000
  cond r1 (
    4) (
    let r2 := plane_Check s.At
    cond (r2 != 0) (
      4) (
      let r3 := radar_out s.Height 0 60000
      cond r3 (
        4) (
        let r4 := radar_out s.Code (-1) 4095
        cond r4 (
          4) (
          let r5 := radar_out s.Error 0 1000000
          cond r5 (
            4) (
            0)))))

set_option maxRecDepth 100000 in
theorem radar_CheckSpot_w (s : Spot) (w : World) : Calls Try.prog 38 #[Spot.v s] w (Ret w (.int .i64 (radar_CheckSpot s))) := by
  refine calls_intro (vs := [Spot.v s]) (w := w) Try.func38 rfl Try.ntmps38 rfl (TC.weak [(0, Spot.v s)] Kr (TC.seq (TC.region (TL.nw 1 (fun b1 => .p0 b1) (fun b1 => Bk b1 (Spot.c s) 36) (fun b1 => {}) (fun b1 => TL.r 2 [] [(2, .i 0)] {} (TL.next rfl (TC.seq (TC.seq (TC.region (TL.r 2 [0] [(4, .i s.Time)] {} (TL.c 5 (radar_out s.Time 0 200000) (fun r1 => .b r1) (fun w _ => radar_out_w s.Time 0 200000 w) {} (fun r1 hr1 => TL.r 4 [] [(6, .b r1)] {} (TL.split 6 r1 Kr (fun h1 => ?_) (fun h1 => ?_))))))))))))))
  · refine TL.r 24 [] [(26, .b true)] {} (TL.next rfl (TC.condT rfl Kr (TC.seq (TC.region (TL.r 1 [] [(2, .i 4)] {} (TL.next rfl (TC.ret (TE.ret_then ?_))))))))
    have e : radar_CheckSpot s = 4 := by subst hr1; unfold radar_CheckSpot; exact cond_t h1 (rfl)
    exact TE.ret [] (.i 4) {} (by rw [e]; first | done | kernel_rfl)
  · refine TL.r 6 [0] [(8, P.v s.At)] {} (TL.c 9 (plane_Check s.At) (fun r2 => .i r2) (fun w _ => plane_Check_w s.At w) {} (fun r2 hr2 => TL.r 10 [] [(12, .b (r2 != 0))] {} (TL.split 12 (r2 != 0) Kr (fun h2 => ?_) (fun h2 => ?_))))
    · refine TL.r 24 [] [(26, .b true)] {} (TL.next rfl (TC.condT rfl Kr (TC.seq (TC.region (TL.r 1 [] [(2, .i 4)] {} (TL.next rfl (TC.ret (TE.ret_then ?_))))))))
      have e : radar_CheckSpot s = 4 := by subst hr1 hr2; unfold radar_CheckSpot; exact cond_f h1 (cond_t h2 (rfl))
      exact TE.ret [] (.i 4) {} (by rw [e]; first | done | kernel_rfl)
    · refine TL.r 12 [0] [(14, .i s.Height)] {} (TL.c 15 (radar_out s.Height 0 60000) (fun r3 => .b r3) (fun w _ => radar_out_w s.Height 0 60000 w) {} (fun r3 hr3 => TL.r 15 [] [(17, .b r3)] {} (TL.split 17 r3 Kr (fun h3 => ?_) (fun h3 => ?_))))
      · refine TL.r 24 [] [(26, .b true)] {} (TL.next rfl (TC.condT rfl Kr (TC.seq (TC.region (TL.r 1 [] [(2, .i 4)] {} (TL.next rfl (TC.ret (TE.ret_then ?_))))))))
        have e : radar_CheckSpot s = 4 := by subst hr1 hr2 hr3; unfold radar_CheckSpot; exact cond_f h1 (cond_f h2 (cond_t h3 (rfl)))
        exact TE.ret [] (.i 4) {} (by rw [e]; first | done | kernel_rfl)
      · refine TL.r 17 [0] [(19, .i s.Code)] {} (TL.c 20 (radar_out s.Code (-1) 4095) (fun r4 => .b r4) (fun w _ => radar_out_w s.Code (-1) 4095 w) {} (fun r4 hr4 => TL.r 20 [] [(22, .b r4)] {} (TL.split 22 r4 Kr (fun h4 => ?_) (fun h4 => ?_))))
        · refine TL.r 24 [] [(26, .b true)] {} (TL.next rfl (TC.condT rfl Kr (TC.seq (TC.region (TL.r 1 [] [(2, .i 4)] {} (TL.next rfl (TC.ret (TE.ret_then ?_))))))))
          have e : radar_CheckSpot s = 4 := by subst hr1 hr2 hr3 hr4; unfold radar_CheckSpot; exact cond_f h1 (cond_f h2 (cond_f h3 (cond_t h4 (rfl))))
          exact TE.ret [] (.i 4) {} (by rw [e]; first | done | kernel_rfl)
        · refine TL.r 22 [0] [(24, .i s.Error)] {} (TL.c 25 (radar_out s.Error 0 1000000) (fun r5 => .b r5) (fun w _ => radar_out_w s.Error 0 1000000 w) {} (fun r5 hr5 => TL.r 24 [] [(26, .b r5)] {} (TL.next rfl (TC.cond r5 rfl Kr (fun h5 => ?_) (fun h5 => ?_)))))
          · refine TC.seq (TC.region (TL.r 1 [] [(2, .i 4)] {} (TL.next rfl (TC.ret (TE.ret_then ?_)))))
            have e : radar_CheckSpot s = 4 := by subst hr1 hr2 hr3 hr4 hr5; unfold radar_CheckSpot; exact cond_f h1 (cond_f h2 (cond_f h3 (cond_f h4 (cond_t h5 (rfl)))))
            exact TE.ret [] (.i 4) {} (by rw [e]; first | done | kernel_rfl)
          · refine TC.skip (TE.next (TC.seq (TC.region (TL.r 1 [] [(2, .i 0)] {} (TL.next rfl (TC.ret ?_))))))
            have e : radar_CheckSpot s = 0 := by subst hr1 hr2 hr3 hr4 hr5; unfold radar_CheckSpot; exact cond_f h1 (cond_f h2 (cond_f h3 (cond_f h4 (cond_f h5 (rfl)))))
            exact TE.ret [] (.i 0) {} (by rw [e]; first | done | kernel_rfl)

def plane_Sub (a : P) (b_ : P) : P :=
  (⟨w64 (a.X - b_.X), w64 (a.Y - b_.Y)⟩ : P)

set_option maxRecDepth 100000 in
theorem plane_Sub_w (a : P) (b_ : P) (w : World) : Calls Try.prog 71 #[P.v a, P.v b_] w (Ret w (P.v (plane_Sub a b_))) := by
  refine calls_intro (vs := [P.v a, P.v b_]) (w := w) Try.func71 rfl Try.ntmps71 rfl (TC.weak [(0, P.v a), (1, P.v b_)] Kr (TC.seq (TC.region (TL.nw 2 (fun b1 => .p0 b1) (fun b1 => Bk b1 (P.c a) 34) (fun b1 => {}) (fun b1 => TL.nw 3 (fun b2 => .p0 b2) (fun b2 => Bk b2 (P.c b_) 34) (fun b2 => {}) (fun b2 => TL.nw 4 (fun b3 => .p0 b3) (fun b3 => Bk b3 (P.c P.zero) 34) (fun b3 => {}) (fun b3 => TL.next rfl (TC.seq (TC.region (TL.r 11 [2, 1, 2, 1] [(15, P.v (⟨w64 (a.X - b_.X), w64 (a.Y - b_.Y)⟩ : P))] {} (TL.s 0 (Bk b3 (P.c (⟨w64 (a.X - b_.X), w64 (a.Y - b_.Y)⟩ : P)) 34) (fun _ => {}) (TL.next rfl (TC.ret ?_)))))))))))))
  have e : plane_Sub a b_ = (⟨w64 (a.X - b_.X), w64 (a.Y - b_.Y)⟩ : P) := by unfold plane_Sub; exact rfl
  exact TE.ret [0] (P.v (⟨w64 (a.X - b_.X), w64 (a.Y - b_.Y)⟩ : P)) {} (by rw [e]; first | done | kernel_rfl)

def plane_Add (a : P) (b_ : P) : P :=
  (⟨w64 (a.X + b_.X), w64 (a.Y + b_.Y)⟩ : P)

set_option maxRecDepth 100000 in
theorem plane_Add_w (a : P) (b_ : P) (w : World) : Calls Try.prog 33 #[P.v a, P.v b_] w (Ret w (P.v (plane_Add a b_))) := by
  refine calls_intro (vs := [P.v a, P.v b_]) (w := w) Try.func33 rfl Try.ntmps33 rfl (TC.weak [(0, P.v a), (1, P.v b_)] Kr (TC.seq (TC.region (TL.nw 2 (fun b1 => .p0 b1) (fun b1 => Bk b1 (P.c a) 34) (fun b1 => {}) (fun b1 => TL.nw 3 (fun b2 => .p0 b2) (fun b2 => Bk b2 (P.c b_) 34) (fun b2 => {}) (fun b2 => TL.nw 4 (fun b3 => .p0 b3) (fun b3 => Bk b3 (P.c P.zero) 34) (fun b3 => {}) (fun b3 => TL.next rfl (TC.seq (TC.region (TL.r 11 [2, 1, 2, 1] [(15, P.v (⟨w64 (a.X + b_.X), w64 (a.Y + b_.Y)⟩ : P))] {} (TL.s 0 (Bk b3 (P.c (⟨w64 (a.X + b_.X), w64 (a.Y + b_.Y)⟩ : P)) 34) (fun _ => {}) (TL.next rfl (TC.ret ?_)))))))))))))
  have e : plane_Add a b_ = (⟨w64 (a.X + b_.X), w64 (a.Y + b_.Y)⟩ : P) := by unfold plane_Add; exact rfl
  exact TE.ret [0] (P.v (⟨w64 (a.X + b_.X), w64 (a.Y + b_.Y)⟩ : P)) {} (by rw [e]; first | done | kernel_rfl)

def plane_Dot (a : P) (b_ : P) : Int :=
  w64 ((w64 (a.X * b_.X)) + (w64 (a.Y * b_.Y)))

set_option maxRecDepth 100000 in
theorem plane_Dot_w (a : P) (b_ : P) (w : World) : Calls Try.prog 72 #[P.v a, P.v b_] w (Ret w (.int .i64 (plane_Dot a b_))) := by
  refine calls_intro (vs := [P.v a, P.v b_]) (w := w) Try.func72 rfl Try.ntmps72 rfl (TC.weak [(0, P.v a), (1, P.v b_)] Kr (TC.seq (TC.region (TL.nw 2 (fun b1 => .p0 b1) (fun b1 => Bk b1 (P.c a) 34) (fun b1 => {}) (fun b1 => TL.nw 3 (fun b2 => .p0 b2) (fun b2 => Bk b2 (P.c b_) 34) (fun b2 => {}) (fun b2 => TL.r 3 [] [(4, .i 0)] {} (TL.next rfl (TC.seq (TC.region (TL.r 12 [1, 0, 1, 0] [(4, .i (w64 ((w64 (a.X * b_.X)) + (w64 (a.Y * b_.Y)))))] {} (TL.next rfl (TC.ret ?_))))))))))))
  have e : plane_Dot a b_ = (w64 ((w64 (a.X * b_.X)) + (w64 (a.Y * b_.Y)))) := by unfold plane_Dot; exact rfl
  exact TE.ret [] (.i (w64 ((w64 (a.X * b_.X)) + (w64 (a.Y * b_.Y))))) {} (by rw [e]; first | done | kernel_rfl)

def plane_Square (a : P) (b_ : P) : Int :=
  let r1 := plane_Sub a b_
  let r2 := plane_Dot r1 r1
  r2

set_option maxRecDepth 100000 in
theorem plane_Square_w (a : P) (b_ : P) (w : World) : Calls Try.prog 48 #[P.v a, P.v b_] w (Ret w (.int .i64 (plane_Square a b_))) := by
  refine calls_intro (vs := [P.v a, P.v b_]) (w := w) Try.func48 rfl Try.ntmps48 rfl (TC.weak [(0, P.v a), (1, P.v b_)] Kr (TC.seq (TC.region (TL.nw 2 (fun b1 => .p0 b1) (fun b1 => Bk b1 (P.c a) 34) (fun b1 => {}) (fun b1 => TL.nw 3 (fun b2 => .p0 b2) (fun b2 => Bk b2 (P.c b_) 34) (fun b2 => {}) (fun b2 => TL.r 3 [] [(4, .i 0)] {} (TL.next rfl (TC.seq (TC.region (TL.r 2 [1, 0] [(6, P.v a), (7, P.v b_)] {} (TL.c 8 (plane_Sub a b_) (fun r1 => P.v r1) (fun w _ => plane_Sub_w a b_ w) {} (fun r1 hr1 => TL.nw 5 (fun b3 => .p0 b3) (fun b3 => Bk b3 (P.c P.zero) 34) (fun b3 => {}) (fun b3 => TL.s 0 (Bk b3 (P.c r1) 34) (fun _ => {}) (TL.next rfl (TC.seq (TC.region (TL.r 2 [0, 0] [(9, P.v r1), (10, P.v r1)] {} (TL.c 11 (plane_Dot r1 r1) (fun r2 => .i r2) (fun w _ => plane_Dot_w r1 r1 w) {} (fun r2 hr2 => TL.r 4 [] [(4, .i r2)] {} (TL.next rfl (TC.ret ?_)))))))))))))))))))))
  have e : plane_Square a b_ = r2 := by subst hr1 hr2; unfold plane_Square; exact rfl
  exact TE.ret [] (.i r2) {} (by rw [e]; first | done | kernel_rfl)

def plane_Within (a : P) (b_ : P) (d : Int) : Bool :=
  cond ((decide (d ≥ 0)) && (decide (d ≤ 8000000))) (
    let r1 := plane_Square a b_
    decide (r1 ≤ (w64 (d * d)))) (
    false)

set_option maxRecDepth 100000 in
theorem plane_Within_w (a : P) (b_ : P) (d : Int) (w : World) : Calls Try.prog 52 #[P.v a, P.v b_, .int .i64 d] w (Ret w (.bool (plane_Within a b_ d))) := by
  refine calls_intro (vs := [P.v a, P.v b_, .i d]) (w := w) Try.func52 rfl Try.ntmps52 rfl (TC.weak [(0, P.v a), (1, P.v b_), (2, .i d)] Kr (TC.seq (TC.region (TL.nw 3 (fun b1 => .p0 b1) (fun b1 => Bk b1 (P.c a) 34) (fun b1 => {}) (fun b1 => TL.nw 4 (fun b2 => .p0 b2) (fun b2 => Bk b2 (P.c b_) 34) (fun b2 => {}) (fun b2 => TL.r 3 [] [(6, .b false)] {} (TL.next rfl (TC.seq (TC.region (TL.r 3 [] [(9, .b (decide (d ≥ 0)))] {} (TL.j 9 (decide (d ≥ 0)) 6 [] [] (fun β => [(12, .b (β && (decide (d ≤ 8000000))))]) Kr {} {} (TL.r 7 [] [(13, .b ((decide (d ≥ 0)) && (decide (d ≤ 8000000))))] {} (TL.split 13 ((decide (d ≥ 0)) && (decide (d ≤ 8000000))) Kr (fun h1 => ?_) (fun h1 => ?_))))))))))))))
  · refine TL.r 9 [1, 0] [(14, P.v a), (15, P.v b_)] {} (TL.c 16 (plane_Square a b_) (fun r1 => .i r1) (fun w _ => plane_Square_w a b_ w) {} (fun r1 hr1 => TL.r 16 [] [(6, .b (decide (r1 ≤ (w64 (d * d)))))] {} (TL.next rfl (TC.ret ?_))))
    have e : plane_Within a b_ d = (decide (r1 ≤ (w64 (d * d)))) := by subst hr1; unfold plane_Within; exact cond_t h1 (rfl)
    exact TE.ret [] (.b (decide (r1 ≤ (w64 (d * d))))) {} (by rw [e]; first | done | kernel_rfl)
  · refine TL.r 16 [] [(6, .b false)] {} (TL.next rfl (TC.ret ?_))
    have e : plane_Within a b_ d = false := by unfold plane_Within; exact cond_f h1 (rfl)
    exact TE.ret [] (.b false) {} (by rw [e]; first | done | kernel_rfl)

def num_DivDown (a : Int) (b_ : Int) : Int × Int :=
  cond (b_ == 0) (
    (0, 10)) (
    cond ((a == (-9223372036854775808)) && (b_ == (-1))) (
      (0, 2)) (
      cond (((a.tmod b_) != 0) && (!((decide (a < 0)) == (decide (b_ < 0))))) (
        (w64 ((w64 (a.tdiv b_)) - 1), 0)) (
        (w64 (a.tdiv b_), 0))))

set_option maxRecDepth 100000 in
theorem num_DivDown_w (a : Int) (b_ : Int) (w : World) : Calls Try.prog 61 #[.int .i64 a, .int .i64 b_] w (Ret w (.tuple #[.int .i64 ((num_DivDown a b_).1), .int .i64 ((num_DivDown a b_).2)])) := by
  refine calls_intro (vs := [.i a, .i b_]) (w := w) Try.func61 rfl Try.ntmps61 rfl (TC.weak [(0, .i a), (1, .i b_)] Kr (TC.seq (TC.region (TL.r 2 [] [(4, .i 0), (5, .i 0)] {} (TL.next rfl (TC.seq (TC.block (TC.seq (TC.region (TL.r 3 [] [(7, .b (b_ == 0))] {} (TL.next rfl (TC.cond (b_ == 0) rfl Kr (fun h1 => ?_) (fun h1 => ?_)))))))))))))
  · refine TC.seq (TC.region (TL.r 2 [] [(4, .i 0), (5, .i 10)] {} (TL.next rfl (TC.ret (TE.ret_block (TE.ret_then ?_))))))
    have e : num_DivDown a b_ = (0, 10) := by unfold num_DivDown; exact cond_t h1 (rfl)
    exact TE.ret [] (.tuple #[.i 0, .i 10]) {} (by rw [e]; first | done | kernel_rfl)
  · refine TC.seq (TC.region (TL.r 3 [] [(13, .b (a == (-9223372036854775808)))] {} (TL.j 13 (a == (-9223372036854775808)) 6 [] [] (fun β => [(16, .b (β && (b_ == (-1))))]) Kr {} {} (TL.r 7 [] [(10, .b ((a == (-9223372036854775808)) && (b_ == (-1))))] {} (TL.next rfl (TC.cond ((a == (-9223372036854775808)) && (b_ == (-1))) rfl Kr (fun h2 => ?_) (fun h2 => ?_)))))))
    · refine TC.seq (TC.region (TL.r 2 [] [(4, .i 0), (5, .i 2)] {} (TL.next rfl (TC.ret (TE.ret_block (TE.ret_then ?_))))))
      have e : num_DivDown a b_ = (0, 2) := by unfold num_DivDown; exact cond_f h1 (cond_t h2 (rfl))
      exact TE.ret [] (.tuple #[.i 0, .i 2]) {} (by rw [e]; first | done | kernel_rfl)
    · refine TC.skip (TE.normal_block (TE.next (TC.seq (TC.region (TL.r 2 [] [(17, .i a), (18, .i b_)] {} (TL.v (sV (binOp .quo 3 (.i a) (.i b_))) 19 (.i (w64 (a.tdiv b_))) (fun w hM => run_quo (by have q0_ := (beq_f h1); have q1_ := ((and_f h2).imp (fun h => (beq_f h)) (fun h => (beq_f h))); exact sdr)) {} (TL.r 4 [] [(6, .i (w64 (a.tdiv b_)))] {} (TL.next rfl (TC.seq (TC.seq (TC.region (TL.r 2 [] [(20, .i a), (21, .i b_)] {} (TL.v (sV (binOp .rem 3 (.i a) (.i b_))) 22 (.i (a.tmod b_)) (fun w hM => run_rem (by have q0_ := (beq_f h1); have q1_ := ((and_f h2).imp (fun h => (beq_f h)) (fun h => (beq_f h))); exact sdr)) {} (TL.r 5 [] [(24, .b ((a.tmod b_) != 0))] {} (TL.j 24 ((a.tmod b_) != 0) 11 [] [] (fun β => [(30, .b (β && (!((decide (a < 0)) == (decide (b_ < 0))))))]) Kr {} {} (TL.next rfl (TC.cond (((a.tmod b_) != 0) && (!((decide (a < 0)) == (decide (b_ < 0))))) rfl Kr (fun h3 => ?_) (fun h3 => ?_))))))))))))))))))
      · refine TC.region (TL.r 3 [] [(6, .i (w64 ((w64 (a.tdiv b_)) - 1)))] {} (TL.next rfl (TC.seq (TC.region (TL.r 3 [] [(4, .i (w64 ((w64 (a.tdiv b_)) - 1))), (5, .i 0)] {} (TL.next rfl (TC.ret ?_)))))))
        have e : num_DivDown a b_ = (w64 ((w64 (a.tdiv b_)) - 1), 0) := by unfold num_DivDown; exact cond_f h1 (cond_f h2 (cond_t h3 (rfl)))
        exact TE.ret [] (.tuple #[.i (w64 ((w64 (a.tdiv b_)) - 1)), .i 0]) {} (by rw [e]; first | done | kernel_rfl)
      · refine TC.skip (TE.next (TC.seq (TC.region (TL.r 3 [] [(4, .i (w64 (a.tdiv b_))), (5, .i 0)] {} (TL.next rfl (TC.ret ?_))))))
        have e : num_DivDown a b_ = (w64 (a.tdiv b_), 0) := by unfold num_DivDown; exact cond_f h1 (cond_f h2 (cond_f h3 (rfl)))
        exact TE.ret [] (.tuple #[.i (w64 (a.tdiv b_)), .i 0]) {} (by rw [e]; first | done | kernel_rfl)

def num_DivUp (a : Int) (b_ : Int) : Int × Int :=
  let r1 := num_DivDown a b_
  cond (r1.2 == 0) (
    cond ((a.tmod b_) != 0) (
      (w64 (r1.1 + 1), r1.2)) (
      (r1.1, r1.2))) (
    (r1.1, r1.2))

theorem divUp_ne {a b : Int} {r : Int × Int} (hr : num_DivDown a b = r) (h : (r.2 == 0) = true) : b ≠ 0 := by
  rintro rfl; subst hr; revert h; simp [num_DivDown]

set_option maxRecDepth 100000 in
theorem num_DivUp_w (a : Int) (b_ : Int) (w : World) : Calls Try.prog 62 #[.int .i64 a, .int .i64 b_] w (Ret w (.tuple #[.int .i64 ((num_DivUp a b_).1), .int .i64 ((num_DivUp a b_).2)])) := by
  refine calls_intro (vs := [.i a, .i b_]) (w := w) Try.func62 rfl Try.ntmps62 rfl (TC.weak [(0, .i a), (1, .i b_)] Kr (TC.seq (TC.region (TL.r 2 [] [(4, .i 0), (5, .i 0)] {} (TL.next rfl (TC.seq (TC.region (TL.r 2 [] [(9, .i a), (10, .i b_)] {} (TL.c 11 (num_DivDown a b_) (fun r1 => .tuple #[.i r1.1, .i r1.2]) (fun w _ => num_DivDown_w a b_ w) {} (fun r1 hr1 => TL.r 8 [] [(6, .i r1.1), (7, .i r1.2)] {} (TL.next rfl (TC.seq (TC.seq (TC.region (TL.r 3 [] [(16, .b (r1.2 == 0))] {} (TL.split 16 (r1.2 == 0) Kr (fun h1 => ?_) (fun h1 => ?_)))))))))))))))))
  · refine TL.r 5 [] [(17, .i a), (18, .i b_)] {} (TL.v (sV (binOp .rem 3 (.i a) (.i b_))) 19 (.i (a.tmod b_)) (fun w hM => run_rem (divUp_ne hr1 h1)) {} (TL.r 8 [] [(21, .b ((a.tmod b_) != 0))] {} (TL.next rfl (TC.cond ((a.tmod b_) != 0) rfl Kr (fun h2 => ?_) (fun h2 => ?_)))))
    · refine TC.region (TL.r 3 [] [(6, .i (w64 (r1.1 + 1)))] {} (TL.next rfl (TC.seq (TC.region (TL.r 4 [] [(4, .i (w64 (r1.1 + 1))), (5, .i r1.2)] {} (TL.next rfl (TC.ret ?_)))))))
      have e : num_DivUp a b_ = (w64 (r1.1 + 1), r1.2) := by subst hr1; unfold num_DivUp; exact cond_t h1 (cond_t h2 (rfl))
      exact TE.ret [] (.tuple #[.i (w64 (r1.1 + 1)), .i r1.2]) {} (by rw [e]; first | done | kernel_rfl)
    · refine TC.skip (TE.next (TC.seq (TC.region (TL.r 4 [] [(4, .i r1.1), (5, .i r1.2)] {} (TL.next rfl (TC.ret ?_))))))
      have e : num_DivUp a b_ = (r1.1, r1.2) := by subst hr1; unfold num_DivUp; exact cond_t h1 (cond_f h2 (rfl))
      exact TE.ret [] (.tuple #[.i r1.1, .i r1.2]) {} (by rw [e]; first | done | kernel_rfl)
  · refine TL.r 8 [] [(21, .b false)] {} (TL.next rfl (TC.condF rfl Kr (TC.skip (TE.next (TC.seq (TC.region (TL.r 4 [] [(4, .i r1.1), (5, .i r1.2)] {} (TL.next rfl (TC.ret ?_)))))))))
    have e : num_DivUp a b_ = (r1.1, r1.2) := by subst hr1; unfold num_DivUp; exact cond_f h1 (rfl)
    exact TE.ret [] (.tuple #[.i r1.1, .i r1.2]) {} (by rw [e]; first | done | kernel_rfl)

def num_Between (n : Int) (low : Int) (high : Int) : Int :=
  cond ((decide (n < low)) || (decide (low > high))) (
    low) (
    cond (decide (n > high)) (
      high) (
      n))

set_option maxRecDepth 100000 in
theorem num_Between_w (n : Int) (low : Int) (high : Int) (w : World) : Calls Try.prog 35 #[.int .i64 n, .int .i64 low, .int .i64 high] w (Ret w (.int .i64 (num_Between n low high))) := by
  refine calls_intro (vs := [.i n, .i low, .i high]) (w := w) Try.func35 rfl Try.ntmps35 rfl (TC.weak [(0, .i n), (1, .i low), (2, .i high)] Kr (TC.seq (TC.region (TL.r 1 [] [(6, .i 0)] {} (TL.next rfl (TC.seq (TC.block (TC.seq (TC.region (TL.r 4 [] [(11, .b (decide (n < low)))] {} (TL.j 11 (decide (n < low)) 8 [] [] (fun β => [(15, .b (β || (decide (low > high))))]) Kr {} {} (TL.r 9 [] [(7, .b ((decide (n < low)) || (decide (low > high))))] {} (TL.next rfl (TC.cond ((decide (n < low)) || (decide (low > high))) rfl Kr (fun h1 => ?_) (fun h1 => ?_)))))))))))))))
  · refine TC.seq (TC.region (TL.r 2 [] [(6, .i low)] {} (TL.next rfl (TC.ret (TE.ret_block (TE.ret_then ?_))))))
    have e : num_Between n low high = low := by unfold num_Between; exact cond_t h1 (rfl)
    exact TE.ret [] (.i low) {} (by rw [e]; first | done | kernel_rfl)
  · refine TC.seq (TC.region (TL.r 4 [] [(17, .b (decide (n > high)))] {} (TL.next rfl (TC.cond (decide (n > high)) rfl Kr (fun h2 => ?_) (fun h2 => ?_)))))
    · refine TC.seq (TC.region (TL.r 2 [] [(6, .i high)] {} (TL.next rfl (TC.ret (TE.ret_block (TE.ret_then ?_))))))
      have e : num_Between n low high = high := by unfold num_Between; exact cond_f h1 (cond_t h2 (rfl))
      exact TE.ret [] (.i high) {} (by rw [e]; first | done | kernel_rfl)
    · refine TC.skip (TE.normal_block (TE.next (TC.seq (TC.region (TL.r 2 [] [(6, .i n)] {} (TL.next rfl (TC.ret ?_)))))))
      have e : num_Between n low high = n := by unfold num_Between; exact cond_f h1 (cond_f h2 (rfl))
      exact TE.ret [] (.i n) {} (by rw [e]; first | done | kernel_rfl)

def gate_CheckTrack (t : Track) : Int :=
  let r1 := radar_CheckSpot (⟨t.Time, t.At, t.Height, t.Code, 0⟩ : Spot)
  cond (((r1 != 0) || (decide (t.Radius < 0))) || (decide (t.Radius > 4000000))) (
    4) (
    0)

set_option maxRecDepth 100000 in
theorem gate_CheckTrack_w (t : Track) (w : World) : Calls Try.prog 37 #[Track.v t] w (Ret w (.int .i64 (gate_CheckTrack t))) := by
  refine calls_intro (vs := [Track.v t]) (w := w) Try.func37 rfl Try.ntmps37 rfl (TC.weak [(0, Track.v t)] Kr (TC.seq (TC.region (TL.nw 1 (fun b1 => .p0 b1) (fun b1 => Bk b1 (Track.c t) 44) (fun b1 => {}) (fun b1 => TL.r 2 [] [(2, .i 0)] {} (TL.next rfl (TC.seq (TC.seq (TC.region (TL.r 9 [0, 0, 0, 0] [(11, Spot.v (⟨t.Time, t.At, t.Height, t.Code, 0⟩ : Spot))] {} (TL.c 12 (radar_CheckSpot (⟨t.Time, t.At, t.Height, t.Code, 0⟩ : Spot)) (fun r1 => .i r1) (fun w _ => radar_CheckSpot_w (⟨t.Time, t.At, t.Height, t.Code, 0⟩ : Spot) w) {} (fun r1 hr1 => TL.r 12 [] [(14, .b (r1 != 0))] {} (TL.j 14 (r1 != 0) 16 [] [0] (fun β => [(18, .b (β || (decide (t.Radius < 0))))]) Kr {} {} (TL.r 17 [] [(19, .b ((r1 != 0) || (decide (t.Radius < 0))))] {} (TL.j 19 ((r1 != 0) || (decide (t.Radius < 0))) 21 [] [0] (fun β => [(23, .b (β || (decide (t.Radius > 4000000))))]) Kr {} {} (TL.next rfl (TC.cond (((r1 != 0) || (decide (t.Radius < 0))) || (decide (t.Radius > 4000000))) rfl Kr (fun h1 => ?_) (fun h1 => ?_))))))))))))))))))
  · refine TC.seq (TC.region (TL.r 1 [] [(2, .i 4)] {} (TL.next rfl (TC.ret (TE.ret_then ?_)))))
    have e : gate_CheckTrack t = 4 := by subst hr1; unfold gate_CheckTrack; exact cond_t h1 (rfl)
    exact TE.ret [] (.i 4) {} (by rw [e]; first | done | kernel_rfl)
  · refine TC.skip (TE.next (TC.seq (TC.region (TL.r 1 [] [(2, .i 0)] {} (TL.next rfl (TC.ret ?_))))))
    have e : gate_CheckTrack t = 0 := by subst hr1; unfold gate_CheckTrack; exact cond_f h1 (rfl)
    exact TE.ret [] (.i 0) {} (by rw [e]; first | done | kernel_rfl)

def gate_Reach (slack : Int) (accel : Int) (seconds : Int) : Int × Int :=
  cond ((((decide (slack < 0)) || (decide (slack > 409600))) || (decide (accel < 0))) || (decide (accel > 20))) (
    (0, 4)) (
    cond ((decide (seconds < 0)) || (decide (seconds > 600))) (
      (0, 12)) (
      cond (seconds == 0) (
        (0, 0)) (
        let r1 := num_DivUp (w64 (slack * seconds)) 16
        let r2 := num_DivUp (w64 ((w64 (accel * seconds)) * seconds)) 2
        (w64 ((w64 (r1.1 + r2.1)) + 2), 0))))

set_option maxRecDepth 100000 in
theorem gate_Reach_w (slack : Int) (accel : Int) (seconds : Int) (w : World) : Calls Try.prog 36 #[.int .i64 slack, .int .i64 accel, .int .i64 seconds] w (Ret w (.tuple #[.int .i64 ((gate_Reach slack accel seconds).1), .int .i64 ((gate_Reach slack accel seconds).2)])) := by
  refine calls_intro (vs := [.i slack, .i accel, .i seconds]) (w := w) Try.func36 rfl Try.ntmps36 rfl (TC.weak [(0, .i slack), (1, .i accel), (2, .i seconds)] Kr (TC.seq (TC.region (TL.r 2 [] [(6, .i 0), (7, .i 0)] {} (TL.next rfl (TC.seq (TC.block (TC.seq (TC.region (TL.r 3 [] [(15, .b (decide (slack < 0)))] {} (TL.j 15 (decide (slack < 0)) 6 [] [] (fun β => [(18, .b (β || (decide (slack > 409600))))]) Kr {} {} (TL.r 7 [] [(19, .b ((decide (slack < 0)) || (decide (slack > 409600))))] {} (TL.j 19 ((decide (slack < 0)) || (decide (slack > 409600))) 10 [] [] (fun β => [(22, .b (β || (decide (accel < 0))))]) Kr {} {} (TL.r 11 [] [(23, .b (((decide (slack < 0)) || (decide (slack > 409600))) || (decide (accel < 0))))] {} (TL.j 23 (((decide (slack < 0)) || (decide (slack > 409600))) || (decide (accel < 0))) 14 [] [] (fun β => [(26, .b (β || (decide (accel > 20))))]) Kr {} {} (TL.r 15 [] [(12, .b ((((decide (slack < 0)) || (decide (slack > 409600))) || (decide (accel < 0))) || (decide (accel > 20))))] {} (TL.next rfl (TC.cond ((((decide (slack < 0)) || (decide (slack > 409600))) || (decide (accel < 0))) || (decide (accel > 20))) rfl Kr (fun h1 => ?_) (fun h1 => ?_)))))))))))))))))))
  · refine TC.seq (TC.region (TL.r 2 [] [(6, .i 0), (7, .i 4)] {} (TL.next rfl (TC.ret (TE.ret_block (TE.ret_then ?_))))))
    have e : gate_Reach slack accel seconds = (0, 4) := by unfold gate_Reach; exact cond_t h1 (rfl)
    exact TE.ret [] (.tuple #[.i 0, .i 4]) {} (by rw [e]; first | done | kernel_rfl)
  · refine TC.seq (TC.region (TL.r 3 [] [(30, .b (decide (seconds < 0)))] {} (TL.j 30 (decide (seconds < 0)) 6 [] [] (fun β => [(33, .b (β || (decide (seconds > 600))))]) Kr {} {} (TL.r 7 [] [(27, .b ((decide (seconds < 0)) || (decide (seconds > 600))))] {} (TL.next rfl (TC.cond ((decide (seconds < 0)) || (decide (seconds > 600))) rfl Kr (fun h2 => ?_) (fun h2 => ?_)))))))
    · refine TC.seq (TC.region (TL.r 2 [] [(6, .i 0), (7, .i 12)] {} (TL.next rfl (TC.ret (TE.ret_block (TE.ret_then ?_))))))
      have e : gate_Reach slack accel seconds = (0, 12) := by unfold gate_Reach; exact cond_f h1 (cond_t h2 (rfl))
      exact TE.ret [] (.tuple #[.i 0, .i 12]) {} (by rw [e]; first | done | kernel_rfl)
    · refine TC.seq (TC.region (TL.r 3 [] [(34, .b (seconds == 0))] {} (TL.next rfl (TC.cond (seconds == 0) rfl Kr (fun h3 => ?_) (fun h3 => ?_)))))
      · refine TC.seq (TC.region (TL.r 2 [] [(6, .i 0), (7, .i 0)] {} (TL.next rfl (TC.ret (TE.ret_block (TE.ret_then ?_))))))
        have e : gate_Reach slack accel seconds = (0, 0) := by unfold gate_Reach; exact cond_f h1 (cond_f h2 (cond_t h3 (rfl)))
        exact TE.ret [] (.tuple #[.i 0, .i 0]) {} (by rw [e]; first | done | kernel_rfl)
      · refine TC.skip (TE.normal_block (TE.next (TC.seq (TC.region (TL.r 3 [] [(40, .i (w64 (slack * seconds)))] {} (TL.c 41 (num_DivUp (w64 (slack * seconds)) 16) (fun r1 => .tuple #[.i r1.1, .i r1.2]) (fun w _ => num_DivUp_w (w64 (slack * seconds)) 16 w) {} (fun r1 hr1 => TL.r 9 [] [(8, .i r1.1)] {} (TL.next rfl (TC.seq (TC.region (TL.r 5 [] [(49, .i (w64 ((w64 (accel * seconds)) * seconds)))] {} (TL.c 50 (num_DivUp (w64 ((w64 (accel * seconds)) * seconds)) 2) (fun r2 => .tuple #[.i r2.1, .i r2.2]) (fun w _ => num_DivUp_w (w64 ((w64 (accel * seconds)) * seconds)) 2 w) {} (fun r2 hr2 => TL.r 11 [] [(10, .i r2.1)] {} (TL.next rfl (TC.seq (TC.region (TL.r 6 [] [(6, .i (w64 ((w64 (r1.1 + r2.1)) + 2))), (7, .i 0)] {} (TL.next rfl (TC.ret ?_)))))))))))))))))))
        have e : gate_Reach slack accel seconds = (w64 ((w64 (r1.1 + r2.1)) + 2), 0) := by subst hr1 hr2; unfold gate_Reach; exact cond_f h1 (cond_f h2 (cond_f h3 (rfl)))
        exact TE.ret [] (.tuple #[.i (w64 ((w64 (r1.1 + r2.1)) + 2)), .i 0]) {} (by rw [e]; first | done | kernel_rfl)

def filter_out (n : Int) (low : Int) (high : Int) : Bool :=
  (decide (n < low)) || (decide (n > high))

set_option maxRecDepth 100000 in
theorem filter_out_w (n : Int) (low : Int) (high : Int) (w : World) : Calls Try.prog 32 #[.int .i64 n, .int .i64 low, .int .i64 high] w (Ret w (.bool (filter_out n low high))) := by
  refine calls_intro (vs := [.i n, .i low, .i high]) (w := w) Try.func32 rfl Try.ntmps32 rfl (TC.weak [(0, .i n), (1, .i low), (2, .i high)] Kr (TC.seq (TC.region (TL.r 1 [] [(6, .b false)] {} (TL.next rfl (TC.seq (TC.region (TL.r 4 [] [(10, .b (decide (n < low)))] {} (TL.j 10 (decide (n < low)) 8 [] [] (fun β => [(14, .b (β || (decide (n > high))))]) Kr {} {} (TL.r 9 [] [(6, .b ((decide (n < low)) || (decide (n > high))))] {} (TL.next rfl (TC.ret ?_))))))))))))
  have e : filter_out n low high = ((decide (n < low)) || (decide (n > high))) := by unfold filter_out; exact rfl
  exact TE.ret [] (.b ((decide (n < low)) || (decide (n > high)))) {} (by rw [e]; first | done | kernel_rfl)

def filter_Check (f : FilterTrack) : Int :=
  let r1 := gate_CheckTrack f.Track
  cond (r1 != 0) (
    r1) (
    let r2 := filter_out f.Track.Speed.X (-12800) 12800
    cond r2 (
      4) (
      let r3 := filter_out f.Track.Speed.Y (-12800) 12800
      cond r3 (
        4) (
        let r4 := filter_out f.Track.Rate (-3200) 3200
        cond r4 (
          4) (
          let r5 := filter_out f.Slack 0 409600
          cond (((r5 || (decide (f.Track.ID < 0))) || (decide (f.Track.Hits < 0))) || (decide (f.Track.Misses < 0))) (
            4) (
            let r6 := filter_out f.Track.State 0 2
            cond r6 (
              1) (
              let r7 := radar_CheckSpot f.Last
              cond (r7 != 0) (
                r7) (
                cond (decide (f.Last.Time > f.Track.Time)) (
                  12) (
                  0))))))))

set_option maxRecDepth 100000 in
theorem filter_Check_w (f : FilterTrack) (w : World) : Calls Try.prog 18 #[FilterTrack.v f] w (Ret w (.int .i64 (filter_Check f))) := by
  refine calls_intro (vs := [FilterTrack.v f]) (w := w) Try.func18 rfl Try.ntmps18 rfl (TC.weak [(0, FilterTrack.v f)] Kr (TC.seq (TC.region (TL.nw 1 (fun b1 => .p0 b1) (fun b1 => Bk b1 (FilterTrack.c f) 48) (fun b1 => {}) (fun b1 => TL.r 2 [] [(2, .i 0)] {} (TL.next rfl (TC.seq (TC.region (TL.r 2 [0] [(7, Track.v f.Track)] {} (TL.nw 3 (fun b2 => .p0 b2) (fun b2 => Bk b2 (Track.c Track.zero) 44) (fun b2 => {}) (fun b2 => TL.s 0 (Bk b2 (Track.c f.Track) 44) (fun _ => {}) (TL.next rfl (TC.seq (TC.seq (TC.region (TL.r 1 [0] [(8, Track.v f.Track)] {} (TL.c 9 (gate_CheckTrack f.Track) (fun r1 => .i r1) (fun w _ => gate_CheckTrack_w f.Track w) {} (fun r1 hr1 => TL.r 3 [] [(4, .i r1)] {} (TL.next rfl (TC.seq (TC.region (TL.r 2 [] [(11, .b (r1 != 0))] {} (TL.next rfl (TC.cond (r1 != 0) rfl Kr (fun h1 => ?_) (fun h1 => ?_)))))))))))))))))))))))))
  · refine TC.seq (TC.region (TL.r 2 [] [(2, .i r1)] {} (TL.next rfl (TC.ret (TE.ret_then ?_)))))
    have e : filter_Check f = r1 := by subst hr1; unfold filter_Check; exact cond_t h1 (rfl)
    exact TE.ret [] (.i r1) {} (by rw [e]; first | done | kernel_rfl)
  · refine TC.skip (TE.next (TC.seq (TC.seq (TC.region (TL.r 3 [0] [(15, .i f.Track.Speed.X)] {} (TL.c 16 (filter_out f.Track.Speed.X (-12800) 12800) (fun r2 => .b r2) (fun w _ => filter_out_w f.Track.Speed.X (-12800) 12800 w) {} (fun r2 hr2 => TL.r 5 [] [(17, .b r2)] {} (TL.split 17 r2 Kr (fun h2 => ?_) (fun h2 => ?_)))))))))
    · refine TL.r 35 [] [(47, .b true)] {} (TL.next rfl (TC.condT rfl Kr (TC.seq (TC.region (TL.r 1 [] [(2, .i 4)] {} (TL.next rfl (TC.ret (TE.ret_then ?_))))))))
      have e : filter_Check f = 4 := by subst hr1 hr2; unfold filter_Check; exact cond_f h1 (cond_t h2 (rfl))
      exact TE.ret [] (.i 4) {} (by rw [e]; first | done | kernel_rfl)
    · refine TL.r 8 [0] [(20, .i f.Track.Speed.Y)] {} (TL.c 21 (filter_out f.Track.Speed.Y (-12800) 12800) (fun r3 => .b r3) (fun w _ => filter_out_w f.Track.Speed.Y (-12800) 12800 w) {} (fun r3 hr3 => TL.r 11 [] [(23, .b r3)] {} (TL.split 23 r3 Kr (fun h3 => ?_) (fun h3 => ?_))))
      · refine TL.r 35 [] [(47, .b true)] {} (TL.next rfl (TC.condT rfl Kr (TC.seq (TC.region (TL.r 1 [] [(2, .i 4)] {} (TL.next rfl (TC.ret (TE.ret_then ?_))))))))
        have e : filter_Check f = 4 := by subst hr1 hr2 hr3; unfold filter_Check; exact cond_f h1 (cond_f h2 (cond_t h3 (rfl)))
        exact TE.ret [] (.i 4) {} (by rw [e]; first | done | kernel_rfl)
      · refine TL.r 13 [0] [(25, .i f.Track.Rate)] {} (TL.c 26 (filter_out f.Track.Rate (-3200) 3200) (fun r4 => .b r4) (fun w _ => filter_out_w f.Track.Rate (-3200) 3200 w) {} (fun r4 hr4 => TL.r 16 [] [(28, .b r4)] {} (TL.split 28 r4 Kr (fun h4 => ?_) (fun h4 => ?_))))
        · refine TL.r 35 [] [(47, .b true)] {} (TL.next rfl (TC.condT rfl Kr (TC.seq (TC.region (TL.r 1 [] [(2, .i 4)] {} (TL.next rfl (TC.ret (TE.ret_then ?_))))))))
          have e : filter_Check f = 4 := by subst hr1 hr2 hr3 hr4; unfold filter_Check; exact cond_f h1 (cond_f h2 (cond_f h3 (cond_t h4 (rfl))))
          exact TE.ret [] (.i 4) {} (by rw [e]; first | done | kernel_rfl)
        · refine TL.r 18 [1] [(30, .i f.Slack)] {} (TL.c 31 (filter_out f.Slack 0 409600) (fun r5 => .b r5) (fun w _ => filter_out_w f.Slack 0 409600 w) {} (fun r5 hr5 => TL.r 21 [] [(33, .b r5)] {} (TL.j 33 r5 25 [] [0] (fun β => [(37, .b (β || (decide (f.Track.ID < 0))))]) Kr {} {} (TL.r 26 [] [(38, .b (r5 || (decide (f.Track.ID < 0))))] {} (TL.j 38 (r5 || (decide (f.Track.ID < 0))) 30 [] [0] (fun β => [(42, .b (β || (decide (f.Track.Hits < 0))))]) Kr {} {} (TL.r 31 [] [(43, .b ((r5 || (decide (f.Track.ID < 0))) || (decide (f.Track.Hits < 0))))] {} (TL.j 43 ((r5 || (decide (f.Track.ID < 0))) || (decide (f.Track.Hits < 0))) 35 [] [0] (fun β => [(47, .b (β || (decide (f.Track.Misses < 0))))]) Kr {} {} (TL.next rfl (TC.cond (((r5 || (decide (f.Track.ID < 0))) || (decide (f.Track.Hits < 0))) || (decide (f.Track.Misses < 0))) rfl Kr (fun h5 => ?_) (fun h5 => ?_))))))))))
          · refine TC.seq (TC.region (TL.r 1 [] [(2, .i 4)] {} (TL.next rfl (TC.ret (TE.ret_then ?_)))))
            have e : filter_Check f = 4 := by subst hr1 hr2 hr3 hr4 hr5; unfold filter_Check; exact cond_f h1 (cond_f h2 (cond_f h3 (cond_f h4 (cond_t h5 (rfl)))))
            exact TE.ret [] (.i 4) {} (by rw [e]; first | done | kernel_rfl)
          · refine TC.skip (TE.next (TC.seq (TC.seq (TC.region (TL.r 2 [0] [(49, .i f.Track.State)] {} (TL.c 50 (filter_out f.Track.State 0 2) (fun r6 => .b r6) (fun w _ => filter_out_w f.Track.State 0 2 w) {} (fun r6 hr6 => TL.next rfl (TC.cond r6 rfl Kr (fun h6 => ?_) (fun h6 => ?_)))))))))
            · refine TC.seq (TC.region (TL.r 1 [] [(2, .i 1)] {} (TL.next rfl (TC.ret (TE.ret_then ?_)))))
              have e : filter_Check f = 1 := by subst hr1 hr2 hr3 hr4 hr5 hr6; unfold filter_Check; exact cond_f h1 (cond_f h2 (cond_f h3 (cond_f h4 (cond_f h5 (cond_t h6 (rfl))))))
              exact TE.ret [] (.i 1) {} (by rw [e]; first | done | kernel_rfl)
            · refine TC.skip (TE.next (TC.seq (TC.seq (TC.region (TL.r 2 [1] [(52, Spot.v f.Last)] {} (TL.c 53 (radar_CheckSpot f.Last) (fun r7 => .i r7) (fun w _ => radar_CheckSpot_w f.Last w) {} (fun r7 hr7 => TL.r 4 [] [(5, .i r7)] {} (TL.next rfl (TC.seq (TC.region (TL.r 2 [] [(55, .b (r7 != 0))] {} (TL.next rfl (TC.cond (r7 != 0) rfl Kr (fun h7 => ?_) (fun h7 => ?_))))))))))))))
              · refine TC.seq (TC.region (TL.r 2 [] [(2, .i r7)] {} (TL.next rfl (TC.ret (TE.ret_then ?_)))))
                have e : filter_Check f = r7 := by subst hr1 hr2 hr3 hr4 hr5 hr6 hr7; unfold filter_Check; exact cond_f h1 (cond_f h2 (cond_f h3 (cond_f h4 (cond_f h5 (cond_f h6 (cond_t h7 (rfl)))))))
                exact TE.ret [] (.i r7) {} (by rw [e]; first | done | kernel_rfl)
              · refine TC.skip (TE.next (TC.seq (TC.seq (TC.region (TL.r 6 [1, 0] [(62, .b (decide (f.Last.Time > f.Track.Time)))] {} (TL.next rfl (TC.cond (decide (f.Last.Time > f.Track.Time)) rfl Kr (fun h8 => ?_) (fun h8 => ?_))))))))
                · refine TC.seq (TC.region (TL.r 1 [] [(2, .i 12)] {} (TL.next rfl (TC.ret (TE.ret_then ?_)))))
                  have e : filter_Check f = 12 := by subst hr1 hr2 hr3 hr4 hr5 hr6 hr7; unfold filter_Check; exact cond_f h1 (cond_f h2 (cond_f h3 (cond_f h4 (cond_f h5 (cond_f h6 (cond_f h7 (cond_t h8 (rfl))))))))
                  exact TE.ret [] (.i 12) {} (by rw [e]; first | done | kernel_rfl)
                · refine TC.skip (TE.next (TC.seq (TC.region (TL.r 1 [] [(2, .i 0)] {} (TL.next rfl (TC.ret ?_))))))
                  have e : filter_Check f = 0 := by subst hr1 hr2 hr3 hr4 hr5 hr6 hr7; unfold filter_Check; exact cond_f h1 (cond_f h2 (cond_f h3 (cond_f h4 (cond_f h5 (cond_f h6 (cond_f h7 (cond_f h8 (rfl))))))))
                  exact TE.ret [] (.i 0) {} (by rw [e]; first | done | kernel_rfl)

def filter_Begin (s : Spot) : FilterTrack × Int :=
  let r1 := radar_CheckSpot s
  cond (r1 != 0) (
    ((⟨⟨0, 0, 0, ⟨0, 0⟩, ⟨0, 0⟩, 0, 0, 0, 0, 0, 0⟩, 0, ⟨0, ⟨0, 0⟩, 0, 0, 0⟩⟩ : FilterTrack), r1)) (
    ((⟨⟨0, 0, s.Time, s.At, ⟨0, 0⟩, s.Height, 0, s.Error, s.Code, 1, 0⟩, 6400, s⟩ : FilterTrack), 0))

set_option maxRecDepth 100000 in
theorem filter_Begin_w (s : Spot) (w : World) : Calls Try.prog 29 #[Spot.v s] w (Ret w (.tuple #[FilterTrack.v ((filter_Begin s).1), .int .i64 ((filter_Begin s).2)])) := by
  refine calls_intro (vs := [Spot.v s]) (w := w) Try.func29 rfl Try.ntmps29 rfl (TC.weak [(0, Spot.v s)] Kr (TC.seq (TC.region (TL.nw 1 (fun b1 => .p0 b1) (fun b1 => Bk b1 (Spot.c s) 36) (fun b1 => {}) (fun b1 => TL.nw 2 (fun b2 => .p0 b2) (fun b2 => Bk b2 (FilterTrack.c FilterTrack.zero) 48) (fun b2 => {}) (fun b2 => TL.r 3 [] [(3, .i 0)] {} (TL.next rfl (TC.seq (TC.seq (TC.region (TL.r 1 [1] [(5, Spot.v s)] {} (TL.c 6 (radar_CheckSpot s) (fun r1 => .i r1) (fun w _ => radar_CheckSpot_w s w) {} (fun r1 hr1 => TL.r 3 [] [(4, .i r1)] {} (TL.next rfl (TC.seq (TC.region (TL.r 2 [] [(8, .b (r1 != 0))] {} (TL.next rfl (TC.cond (r1 != 0) rfl Kr (fun h1 => ?_) (fun h1 => ?_))))))))))))))))))))
  · refine TC.seq (TC.region (TL.r 2 [] [(9, FilterTrack.v FilterTrack.zero), (10, .i r1)] {} (TL.s 0 (Bk b2 (FilterTrack.c FilterTrack.zero) 48) (fun _ => {}) (TL.r 4 [] [(3, .i r1)] {} (TL.next rfl (TC.ret (TE.ret_then ?_)))))))
    have e : filter_Begin s = ((⟨⟨0, 0, 0, ⟨0, 0⟩, ⟨0, 0⟩, 0, 0, 0, 0, 0, 0⟩, 0, ⟨0, ⟨0, 0⟩, 0, 0, 0⟩⟩ : FilterTrack), r1) := by subst hr1; unfold filter_Begin; exact cond_t h1 (rfl)
    exact TE.ret [0] (.tuple #[FilterTrack.v (⟨⟨0, 0, 0, ⟨0, 0⟩, ⟨0, 0⟩, 0, 0, 0, 0, 0, 0⟩, 0, ⟨0, ⟨0, 0⟩, 0, 0, 0⟩⟩ : FilterTrack), .i r1]) {} (by rw [e]; first | done | kernel_rfl)
  · refine TC.skip (TE.next (TC.seq (TC.region (TL.r 13 [1, 1, 1, 1, 1, 1] [(23, FilterTrack.v (⟨⟨0, 0, s.Time, s.At, ⟨0, 0⟩, s.Height, 0, s.Error, s.Code, 1, 0⟩, 6400, s⟩ : FilterTrack))] {} (TL.s 0 (Bk b2 (FilterTrack.c (⟨⟨0, 0, s.Time, s.At, ⟨0, 0⟩, s.Height, 0, s.Error, s.Code, 1, 0⟩, 6400, s⟩ : FilterTrack)) 48) (fun _ => {}) (TL.r 15 [] [(3, .i 0)] {} (TL.next rfl (TC.ret ?_))))))))
    have e : filter_Begin s = ((⟨⟨0, 0, s.Time, s.At, ⟨0, 0⟩, s.Height, 0, s.Error, s.Code, 1, 0⟩, 6400, s⟩ : FilterTrack), 0) := by subst hr1; unfold filter_Begin; exact cond_f h1 (rfl)
    exact TE.ret [0] (.tuple #[FilterTrack.v (⟨⟨0, 0, s.Time, s.At, ⟨0, 0⟩, s.Height, 0, s.Error, s.Code, 1, 0⟩, 6400, s⟩ : FilterTrack), .i 0]) {} (by rw [e]; first | done | kernel_rfl)

def filter_down (a : Int) (b_ : Int) : Int :=
  let r1 := num_DivDown a b_
  r1.1

set_option maxRecDepth 100000 in
theorem filter_down_w (a : Int) (b_ : Int) (w : World) : Calls Try.prog 34 #[.int .i64 a, .int .i64 b_] w (Ret w (.int .i64 (filter_down a b_))) := by
  refine calls_intro (vs := [.i a, .i b_]) (w := w) Try.func34 rfl Try.ntmps34 rfl (TC.weak [(0, .i a), (1, .i b_)] Kr (TC.seq (TC.region (TL.r 1 [] [(4, .i 0)] {} (TL.next rfl (TC.seq (TC.region (TL.r 2 [] [(8, .i a), (9, .i b_)] {} (TL.c 10 (num_DivDown a b_) (fun r1 => .tuple #[.i r1.1, .i r1.2]) (fun w _ => num_DivDown_w a b_ w) {} (fun r1 hr1 => TL.r 8 [] [(5, .i r1.1)] {} (TL.next rfl (TC.seq (TC.region (TL.r 2 [] [(4, .i r1.1)] {} (TL.next rfl (TC.ret ?_))))))))))))))))
  have e : filter_down a b_ = r1.1 := by subst hr1; unfold filter_down; exact rfl
  exact TE.ret [] (.i r1.1) {} (by rw [e]; first | done | kernel_rfl)

def filter_up (a : Int) (b_ : Int) : Int :=
  let r1 := num_DivUp a b_
  r1.1

set_option maxRecDepth 100000 in
theorem filter_up_w (a : Int) (b_ : Int) (w : World) : Calls Try.prog 54 #[.int .i64 a, .int .i64 b_] w (Ret w (.int .i64 (filter_up a b_))) := by
  refine calls_intro (vs := [.i a, .i b_]) (w := w) Try.func54 rfl Try.ntmps54 rfl (TC.weak [(0, .i a), (1, .i b_)] Kr (TC.seq (TC.region (TL.r 1 [] [(4, .i 0)] {} (TL.next rfl (TC.seq (TC.region (TL.r 2 [] [(8, .i a), (9, .i b_)] {} (TL.c 10 (num_DivUp a b_) (fun r1 => .tuple #[.i r1.1, .i r1.2]) (fun w _ => num_DivUp_w a b_ w) {} (fun r1 hr1 => TL.r 8 [] [(5, .i r1.1)] {} (TL.next rfl (TC.seq (TC.region (TL.r 2 [] [(4, .i r1.1)] {} (TL.next rfl (TC.ret ?_))))))))))))))))
  have e : filter_up a b_ = r1.1 := by subst hr1; unfold filter_up; exact rfl
  exact TE.ret [] (.i r1.1) {} (by rw [e]; first | done | kernel_rfl)

def filter_Predict (f : FilterTrack) (time : Int) (accel : Int) : FilterTrack × Int :=
  let r1 := filter_Check f
  cond (r1 != 0) (
    ((⟨⟨0, 0, 0, ⟨0, 0⟩, ⟨0, 0⟩, 0, 0, 0, 0, 0, 0⟩, 0, ⟨0, ⟨0, 0⟩, 0, 0, 0⟩⟩ : FilterTrack), r1)) (
    let r2 := filter_out time 0 200000
    cond r2 (
      ((⟨⟨0, 0, 0, ⟨0, 0⟩, ⟨0, 0⟩, 0, 0, 0, 0, 0, 0⟩, 0, ⟨0, ⟨0, 0⟩, 0, 0, 0⟩⟩ : FilterTrack), 4)) (
      let r3 := filter_out accel 0 20
      cond r3 (
        ((⟨⟨0, 0, 0, ⟨0, 0⟩, ⟨0, 0⟩, 0, 0, 0, 0, 0, 0⟩, 0, ⟨0, ⟨0, 0⟩, 0, 0, 0⟩⟩ : FilterTrack), 4)) (
        let r4 := filter_out (w64 (time - f.Track.Time)) 0 600
        cond r4 (
          ((⟨⟨0, 0, 0, ⟨0, 0⟩, ⟨0, 0⟩, 0, 0, 0, 0, 0, 0⟩, 0, ⟨0, ⟨0, 0⟩, 0, 0, 0⟩⟩ : FilterTrack), 12)) (
          cond ((w64 (time - f.Track.Time)) == 0) (
            (f, 0)) (
            let r5 := filter_down (w64 (f.Track.Speed.X * (w64 (time - f.Track.Time)))) 16
            let r6 := filter_down (w64 (f.Track.Speed.Y * (w64 (time - f.Track.Time)))) 16
            let r7 := plane_Add f.Track.At (⟨r5, r6⟩ : P)
            let r8 := filter_down (w64 (f.Track.Rate * (w64 (time - f.Track.Time)))) 16
            let r9 := num_Between (w64 (f.Track.Height + r8)) 0 60000
            let r10 := gate_Reach f.Slack accel (w64 (time - f.Track.Time))
            let r11 := filter_Check (⟨⟨f.Track.ID, f.Track.State, time, r7, f.Track.Speed, r9, f.Track.Rate, w64 (f.Track.Radius + r10.1), f.Track.Code, f.Track.Hits, f.Track.Misses⟩, w64 (f.Slack + (w64 ((w64 (16 * accel)) * (w64 (time - f.Track.Time))))), f.Last⟩ : FilterTrack)
            cond (r11 != 0) (
              ((⟨⟨0, 0, 0, ⟨0, 0⟩, ⟨0, 0⟩, 0, 0, 0, 0, 0, 0⟩, 0, ⟨0, ⟨0, 0⟩, 0, 0, 0⟩⟩ : FilterTrack), 8)) (
              ((⟨⟨f.Track.ID, f.Track.State, time, r7, f.Track.Speed, r9, f.Track.Rate, w64 (f.Track.Radius + r10.1), f.Track.Code, f.Track.Hits, f.Track.Misses⟩, w64 (f.Slack + (w64 ((w64 (16 * accel)) * (w64 (time - f.Track.Time))))), f.Last⟩ : FilterTrack), 0)))))))

set_option maxRecDepth 100000 in
theorem filter_Predict_w (f : FilterTrack) (time : Int) (accel : Int) (w : World) : Calls Try.prog 17 #[FilterTrack.v f, .int .i64 time, .int .i64 accel] w (Ret w (.tuple #[FilterTrack.v ((filter_Predict f time accel).1), .int .i64 ((filter_Predict f time accel).2)])) := by
  refine calls_intro (vs := [FilterTrack.v f, .i time, .i accel]) (w := w) Try.func17 rfl Try.ntmps17 rfl (TC.weak [(0, FilterTrack.v f), (1, .i time), (2, .i accel)] Kr (TC.seq (TC.region (TL.nw 3 (fun b1 => .p0 b1) (fun b1 => Bk b1 (FilterTrack.c f) 48) (fun b1 => {}) (fun b1 => TL.nw 6 (fun b2 => .p0 b2) (fun b2 => Bk b2 (FilterTrack.c FilterTrack.zero) 48) (fun b2 => {}) (fun b2 => TL.r 3 [] [(7, .i 0)] {} (TL.next rfl (TC.seq (TC.region (TL.r 1 [] [(14, FilterTrack.v FilterTrack.zero)] {} (TL.nw 8 (fun b3 => .p0 b3) (fun b3 => Bk b3 (FilterTrack.c FilterTrack.zero) 48) (fun b3 => {}) (fun b3 => TL.s 0 (Bk b3 (FilterTrack.c FilterTrack.zero) 48) (fun _ => {}) (TL.next rfl (TC.seq (TC.seq (TC.region (TL.r 1 [2] [(15, FilterTrack.v f)] {} (TL.c 16 (filter_Check f) (fun r1 => .i r1) (fun w _ => filter_Check_w f w) {} (fun r1 hr1 => TL.r 3 [] [(9, .i r1)] {} (TL.next rfl (TC.seq (TC.region (TL.r 2 [] [(18, .b (r1 != 0))] {} (TL.next rfl (TC.cond (r1 != 0) rfl Kr (fun h1 => ?_) (fun h1 => ?_))))))))))))))))))))))))))
  · refine TC.seq (TC.region (TL.r 2 [0] [(19, FilterTrack.v (⟨⟨0, 0, 0, ⟨0, 0⟩, ⟨0, 0⟩, 0, 0, 0, 0, 0, 0⟩, 0, ⟨0, ⟨0, 0⟩, 0, 0, 0⟩⟩ : FilterTrack)), (20, .i r1)] {} (TL.s 1 (Bk b2 (FilterTrack.c FilterTrack.zero) 48) (fun _ => {}) (TL.r 4 [] [(7, .i r1)] {} (TL.next rfl (TC.ret (TE.ret_then ?_)))))))
    have e : filter_Predict f time accel = ((⟨⟨0, 0, 0, ⟨0, 0⟩, ⟨0, 0⟩, 0, 0, 0, 0, 0, 0⟩, 0, ⟨0, ⟨0, 0⟩, 0, 0, 0⟩⟩ : FilterTrack), r1) := by subst hr1; unfold filter_Predict; exact cond_t h1 (rfl)
    exact TE.ret [1] (.tuple #[FilterTrack.v (⟨⟨0, 0, 0, ⟨0, 0⟩, ⟨0, 0⟩, 0, 0, 0, 0, 0, 0⟩, 0, ⟨0, ⟨0, 0⟩, 0, 0, 0⟩⟩ : FilterTrack), .i r1]) {} (by rw [e]; first | done | kernel_rfl)
  · refine TC.skip (TE.next (TC.seq (TC.region (TL.r 6 [2] [(10, .i (w64 (time - f.Track.Time)))] {} (TL.next rfl (TC.seq (TC.block (TC.seq (TC.region (TL.r 1 [] [(27, .i time)] {} (TL.c 28 (filter_out time 0 200000) (fun r2 => .b r2) (fun w _ => filter_out_w time 0 200000 w) {} (fun r2 hr2 => TL.r 3 [] [(29, .b r2)] {} (TL.split 29 r2 Kr (fun h2 => ?_) (fun h2 => ?_))))))))))))))
    · refine TL.r 7 [] [(26, .b true)] {} (TL.next rfl (TC.condT rfl Kr (TC.seq (TC.region (TL.r 1 [0] [(33, FilterTrack.v (⟨⟨0, 0, 0, ⟨0, 0⟩, ⟨0, 0⟩, 0, 0, 0, 0, 0, 0⟩, 0, ⟨0, ⟨0, 0⟩, 0, 0, 0⟩⟩ : FilterTrack))] {} (TL.s 1 (Bk b2 (FilterTrack.c FilterTrack.zero) 48) (fun _ => {}) (TL.r 3 [] [(7, .i 4)] {} (TL.next rfl (TC.ret (TE.ret_block (TE.ret_then ?_)))))))))))
      have e : filter_Predict f time accel = ((⟨⟨0, 0, 0, ⟨0, 0⟩, ⟨0, 0⟩, 0, 0, 0, 0, 0, 0⟩, 0, ⟨0, ⟨0, 0⟩, 0, 0, 0⟩⟩ : FilterTrack), 4) := by subst hr1 hr2; unfold filter_Predict; exact cond_f h1 (cond_t h2 (rfl))
      exact TE.ret [1] (.tuple #[FilterTrack.v (⟨⟨0, 0, 0, ⟨0, 0⟩, ⟨0, 0⟩, 0, 0, 0, 0, 0, 0⟩, 0, ⟨0, ⟨0, 0⟩, 0, 0, 0⟩⟩ : FilterTrack), .i 4]) {} (by rw [e]; first | done | kernel_rfl)
    · refine TL.r 4 [] [(30, .i accel)] {} (TL.c 31 (filter_out accel 0 20) (fun r3 => .b r3) (fun w _ => filter_out_w accel 0 20 w) {} (fun r3 hr3 => TL.r 7 [] [(26, .b r3)] {} (TL.next rfl (TC.cond r3 rfl Kr (fun h3 => ?_) (fun h3 => ?_)))))
      · refine TC.seq (TC.region (TL.r 1 [0] [(33, FilterTrack.v (⟨⟨0, 0, 0, ⟨0, 0⟩, ⟨0, 0⟩, 0, 0, 0, 0, 0, 0⟩, 0, ⟨0, ⟨0, 0⟩, 0, 0, 0⟩⟩ : FilterTrack))] {} (TL.s 1 (Bk b2 (FilterTrack.c FilterTrack.zero) 48) (fun _ => {}) (TL.r 3 [] [(7, .i 4)] {} (TL.next rfl (TC.ret (TE.ret_block (TE.ret_then ?_))))))))
        have e : filter_Predict f time accel = ((⟨⟨0, 0, 0, ⟨0, 0⟩, ⟨0, 0⟩, 0, 0, 0, 0, 0, 0⟩, 0, ⟨0, ⟨0, 0⟩, 0, 0, 0⟩⟩ : FilterTrack), 4) := by subst hr1 hr2 hr3; unfold filter_Predict; exact cond_f h1 (cond_f h2 (cond_t h3 (rfl)))
        exact TE.ret [1] (.tuple #[FilterTrack.v (⟨⟨0, 0, 0, ⟨0, 0⟩, ⟨0, 0⟩, 0, 0, 0, 0, 0, 0⟩, 0, ⟨0, ⟨0, 0⟩, 0, 0, 0⟩⟩ : FilterTrack), .i 4]) {} (by rw [e]; first | done | kernel_rfl)
      · refine TC.seq (TC.region (TL.r 1 [] [(35, .i (w64 (time - f.Track.Time)))] {} (TL.c 36 (filter_out (w64 (time - f.Track.Time)) 0 600) (fun r4 => .b r4) (fun w _ => filter_out_w (w64 (time - f.Track.Time)) 0 600 w) {} (fun r4 hr4 => TL.r 3 [] [(34, .b r4)] {} (TL.next rfl (TC.cond r4 rfl Kr (fun h4 => ?_) (fun h4 => ?_)))))))
        · refine TC.seq (TC.region (TL.r 1 [0] [(37, FilterTrack.v (⟨⟨0, 0, 0, ⟨0, 0⟩, ⟨0, 0⟩, 0, 0, 0, 0, 0, 0⟩, 0, ⟨0, ⟨0, 0⟩, 0, 0, 0⟩⟩ : FilterTrack))] {} (TL.s 1 (Bk b2 (FilterTrack.c FilterTrack.zero) 48) (fun _ => {}) (TL.r 3 [] [(7, .i 12)] {} (TL.next rfl (TC.ret (TE.ret_block (TE.ret_then ?_))))))))
          have e : filter_Predict f time accel = ((⟨⟨0, 0, 0, ⟨0, 0⟩, ⟨0, 0⟩, 0, 0, 0, 0, 0, 0⟩, 0, ⟨0, ⟨0, 0⟩, 0, 0, 0⟩⟩ : FilterTrack), 12) := by subst hr1 hr2 hr3 hr4; unfold filter_Predict; exact cond_f h1 (cond_f h2 (cond_f h3 (cond_t h4 (rfl))))
          exact TE.ret [1] (.tuple #[FilterTrack.v (⟨⟨0, 0, 0, ⟨0, 0⟩, ⟨0, 0⟩, 0, 0, 0, 0, 0, 0⟩, 0, ⟨0, ⟨0, 0⟩, 0, 0, 0⟩⟩ : FilterTrack), .i 12]) {} (by rw [e]; first | done | kernel_rfl)
        · refine TC.seq (TC.region (TL.r 3 [] [(38, .b ((w64 (time - f.Track.Time)) == 0))] {} (TL.next rfl (TC.cond ((w64 (time - f.Track.Time)) == 0) rfl Kr (fun h5 => ?_) (fun h5 => ?_)))))
          · refine TC.seq (TC.region (TL.r 1 [2] [(41, FilterTrack.v f)] {} (TL.s 1 (Bk b2 (FilterTrack.c f) 48) (fun _ => {}) (TL.r 3 [] [(7, .i 0)] {} (TL.next rfl (TC.ret (TE.ret_block (TE.ret_then ?_))))))))
            have e : filter_Predict f time accel = (f, 0) := by subst hr1 hr2 hr3 hr4; unfold filter_Predict; exact cond_f h1 (cond_f h2 (cond_f h3 (cond_f h4 (cond_t h5 (rfl)))))
            exact TE.ret [1] (.tuple #[FilterTrack.v f, .i 0]) {} (by rw [e]; first | done | kernel_rfl)
          · refine TC.skip (TE.normal_block (TE.next (TC.seq (TC.region (TL.r 2 [] [(11, .p0 b1)] {} (TL.next rfl (TC.seq (TC.drawTail 25 Kr Kr (TQ.r 12 [2, 2] [(43, .p0 b1), (47, P.v f.Track.At), (54, .i (w64 (f.Track.Speed.X * (w64 (time - f.Track.Time)))))] {} (TQ.c 55 (filter_down (w64 (f.Track.Speed.X * (w64 (time - f.Track.Time)))) 16) (fun r5 => .i r5) (fun w _ => filter_down_w (w64 (f.Track.Speed.X * (w64 (time - f.Track.Time)))) 16 w) rfl {} (fun r5 hr5 => TQ.r 20 [2] [(62, .i (w64 (f.Track.Speed.Y * (w64 (time - f.Track.Time)))))] {} (TQ.c 63 (filter_down (w64 (f.Track.Speed.Y * (w64 (time - f.Track.Time)))) 16) (fun r6 => .i r6) (fun w _ => filter_down_w (w64 (f.Track.Speed.Y * (w64 (time - f.Track.Time)))) 16 w) rfl {} (fun r6 hr6 => TQ.r 22 [] [(64, P.v (⟨r5, r6⟩ : P))] {} (TQ.c 65 (plane_Add f.Track.At (⟨r5, r6⟩ : P)) (fun r7 => P.v r7) (fun w _ => plane_Add_w f.Track.At (⟨r5, r6⟩ : P) w) rfl {} (fun r7 hr7 => TQ.r 25 [] [(67, .pt b1 3)] {} (TQ.tail rfl (TL.s 2 (Bk b1 (FilterTrack.c (⟨⟨f.Track.ID, f.Track.State, f.Track.Time, r7, f.Track.Speed, f.Track.Height, f.Track.Rate, f.Track.Radius, f.Track.Code, f.Track.Hits, f.Track.Misses⟩, f.Slack, f.Last⟩ : FilterTrack)) 48) (fun _ => {}) (TL.next rfl (TC.seq (TC.drawTail 16 Kr Kr (TQ.r 11 [2, 2] [(68, .p0 b1), (72, .i f.Track.Height), (78, .i (w64 (f.Track.Rate * (w64 (time - f.Track.Time)))))] {} (TQ.c 79 (filter_down (w64 (f.Track.Rate * (w64 (time - f.Track.Time)))) 16) (fun r8 => .i r8) (fun w _ => filter_down_w (w64 (f.Track.Rate * (w64 (time - f.Track.Time)))) 16 w) rfl {} (fun r8 hr8 => TQ.r 13 [] [(80, .i (w64 (f.Track.Height + r8)))] {} (TQ.c 81 (num_Between (w64 (f.Track.Height + r8)) 0 60000) (fun r9 => .i r9) (fun w _ => num_Between_w (w64 (f.Track.Height + r8)) 0 60000 w) rfl {} (fun r9 hr9 => TQ.r 16 [] [(83, .pt b1 7)] {} (TQ.tail rfl (TL.s 2 (Bk b1 (FilterTrack.c (⟨⟨f.Track.ID, f.Track.State, f.Track.Time, r7, f.Track.Speed, r9, f.Track.Rate, f.Track.Radius, f.Track.Code, f.Track.Hits, f.Track.Misses⟩, f.Slack, f.Last⟩ : FilterTrack)) 48) (fun _ => {}) (TL.next rfl (TC.seq (TC.region (TL.r 4 [2] [(86, .i f.Slack), (87, .i accel), (88, .i (w64 (time - f.Track.Time)))] {} (TL.c 89 (gate_Reach f.Slack accel (w64 (time - f.Track.Time))) (fun r10 => .tuple #[.i r10.1, .i r10.2]) (fun w _ => gate_Reach_w f.Slack accel (w64 (time - f.Track.Time)) w) {} (fun r10 hr10 => TL.r 10 [] [(12, .i r10.1)] {} (TL.next rfl (TC.seq (TC.region (TL.r 8 [2] [(97, .i (w64 (f.Track.Radius + r10.1))), (99, .pt b1 9)] {} (TL.s 2 (Bk b1 (FilterTrack.c (⟨⟨f.Track.ID, f.Track.State, f.Track.Time, r7, f.Track.Speed, r9, f.Track.Rate, w64 (f.Track.Radius + r10.1), f.Track.Code, f.Track.Hits, f.Track.Misses⟩, f.Slack, f.Last⟩ : FilterTrack)) 48) (fun _ => {}) (TL.next rfl (TC.seq (TC.region (TL.r 4 [] [(101, .i time), (103, .pt b1 2)] {} (TL.s 2 (Bk b1 (FilterTrack.c (⟨⟨f.Track.ID, f.Track.State, time, r7, f.Track.Speed, r9, f.Track.Rate, w64 (f.Track.Radius + r10.1), f.Track.Code, f.Track.Hits, f.Track.Misses⟩, f.Slack, f.Last⟩ : FilterTrack)) 48) (fun _ => {}) (TL.next rfl (TC.seq (TC.region (TL.r 8 [2] [(110, .i (w64 (f.Slack + (w64 ((w64 (16 * accel)) * (w64 (time - f.Track.Time))))))), (111, .pt b1 13)] {} (TL.s 2 (Bk b1 (FilterTrack.c (⟨⟨f.Track.ID, f.Track.State, time, r7, f.Track.Speed, r9, f.Track.Rate, w64 (f.Track.Radius + r10.1), f.Track.Code, f.Track.Hits, f.Track.Misses⟩, w64 (f.Slack + (w64 ((w64 (16 * accel)) * (w64 (time - f.Track.Time))))), f.Last⟩ : FilterTrack)) 48) (fun _ => {}) (TL.next rfl (TC.seq (TC.seq (TC.region (TL.r 1 [2] [(112, FilterTrack.v (⟨⟨f.Track.ID, f.Track.State, time, r7, f.Track.Speed, r9, f.Track.Rate, w64 (f.Track.Radius + r10.1), f.Track.Code, f.Track.Hits, f.Track.Misses⟩, w64 (f.Slack + (w64 ((w64 (16 * accel)) * (w64 (time - f.Track.Time))))), f.Last⟩ : FilterTrack))] {} (TL.c 113 (filter_Check (⟨⟨f.Track.ID, f.Track.State, time, r7, f.Track.Speed, r9, f.Track.Rate, w64 (f.Track.Radius + r10.1), f.Track.Code, f.Track.Hits, f.Track.Misses⟩, w64 (f.Slack + (w64 ((w64 (16 * accel)) * (w64 (time - f.Track.Time))))), f.Last⟩ : FilterTrack)) (fun r11 => .i r11) (fun w _ => filter_Check_w (⟨⟨f.Track.ID, f.Track.State, time, r7, f.Track.Speed, r9, f.Track.Rate, w64 (f.Track.Radius + r10.1), f.Track.Code, f.Track.Hits, f.Track.Misses⟩, w64 (f.Slack + (w64 ((w64 (16 * accel)) * (w64 (time - f.Track.Time))))), f.Last⟩ : FilterTrack) w) {} (fun r11 hr11 => TL.r 3 [] [(114, .b (r11 != 0))] {} (TL.next rfl (TC.cond (r11 != 0) rfl Kr (fun h6 => ?_) (fun h6 => ?_))))))))))))))))))))))))))))))))))))))))))))))))))))))))))
            · refine TC.seq (TC.region (TL.r 1 [0] [(115, FilterTrack.v (⟨⟨0, 0, 0, ⟨0, 0⟩, ⟨0, 0⟩, 0, 0, 0, 0, 0, 0⟩, 0, ⟨0, ⟨0, 0⟩, 0, 0, 0⟩⟩ : FilterTrack))] {} (TL.s 1 (Bk b2 (FilterTrack.c FilterTrack.zero) 48) (fun _ => {}) (TL.r 3 [] [(7, .i 8)] {} (TL.next rfl (TC.ret (TE.ret_then ?_)))))))
              have e : filter_Predict f time accel = ((⟨⟨0, 0, 0, ⟨0, 0⟩, ⟨0, 0⟩, 0, 0, 0, 0, 0, 0⟩, 0, ⟨0, ⟨0, 0⟩, 0, 0, 0⟩⟩ : FilterTrack), 8) := by subst hr1 hr2 hr3 hr4 hr5 hr6 hr7 hr8 hr9 hr10 hr11; unfold filter_Predict; exact cond_f h1 (cond_f h2 (cond_f h3 (cond_f h4 (cond_f h5 (cond_t h6 (rfl))))))
              exact TE.ret [1] (.tuple #[FilterTrack.v (⟨⟨0, 0, 0, ⟨0, 0⟩, ⟨0, 0⟩, 0, 0, 0, 0, 0, 0⟩, 0, ⟨0, ⟨0, 0⟩, 0, 0, 0⟩⟩ : FilterTrack), .i 8]) {} (by rw [e]; first | done | kernel_rfl)
            · refine TC.skip (TE.next (TC.seq (TC.region (TL.r 1 [2] [(116, FilterTrack.v (⟨⟨f.Track.ID, f.Track.State, time, r7, f.Track.Speed, r9, f.Track.Rate, w64 (f.Track.Radius + r10.1), f.Track.Code, f.Track.Hits, f.Track.Misses⟩, w64 (f.Slack + (w64 ((w64 (16 * accel)) * (w64 (time - f.Track.Time))))), f.Last⟩ : FilterTrack))] {} (TL.s 1 (Bk b2 (FilterTrack.c (⟨⟨f.Track.ID, f.Track.State, time, r7, f.Track.Speed, r9, f.Track.Rate, w64 (f.Track.Radius + r10.1), f.Track.Code, f.Track.Hits, f.Track.Misses⟩, w64 (f.Slack + (w64 ((w64 (16 * accel)) * (w64 (time - f.Track.Time))))), f.Last⟩ : FilterTrack)) 48) (fun _ => {}) (TL.r 3 [] [(7, .i 0)] {} (TL.next rfl (TC.ret ?_))))))))
              have e : filter_Predict f time accel = ((⟨⟨f.Track.ID, f.Track.State, time, r7, f.Track.Speed, r9, f.Track.Rate, w64 (f.Track.Radius + r10.1), f.Track.Code, f.Track.Hits, f.Track.Misses⟩, w64 (f.Slack + (w64 ((w64 (16 * accel)) * (w64 (time - f.Track.Time))))), f.Last⟩ : FilterTrack), 0) := by subst hr1 hr2 hr3 hr4 hr5 hr6 hr7 hr8 hr9 hr10 hr11; unfold filter_Predict; exact cond_f h1 (cond_f h2 (cond_f h3 (cond_f h4 (cond_f h5 (cond_f h6 (rfl))))))
              exact TE.ret [1] (.tuple #[FilterTrack.v (⟨⟨f.Track.ID, f.Track.State, time, r7, f.Track.Speed, r9, f.Track.Rate, w64 (f.Track.Radius + r10.1), f.Track.Code, f.Track.Hits, f.Track.Misses⟩, w64 (f.Slack + (w64 ((w64 (16 * accel)) * (w64 (time - f.Track.Time))))), f.Last⟩ : FilterTrack), .i 0]) {} (by rw [e]; first | done | kernel_rfl)

def filter_mix (a : Int) (b_ : Int) (g_ : Int) : Int :=
  let r1 := filter_down (w64 ((w64 (b_ - a)) * g_)) 256
  w64 (a + r1)

set_option maxRecDepth 100000 in
theorem filter_mix_w (a : Int) (b_ : Int) (g_ : Int) (w : World) : Calls Try.prog 53 #[.int .i64 a, .int .i64 b_, .int .i64 g_] w (Ret w (.int .i64 (filter_mix a b_ g_))) := by
  refine calls_intro (vs := [.i a, .i b_, .i g_]) (w := w) Try.func53 rfl Try.ntmps53 rfl (TC.weak [(0, .i a), (1, .i b_), (2, .i g_)] Kr (TC.seq (TC.region (TL.r 1 [] [(6, .i 0)] {} (TL.next rfl (TC.seq (TC.region (TL.r 6 [] [(7, .i a), (12, .i (w64 ((w64 (b_ - a)) * g_)))] {} (TL.c 13 (filter_down (w64 ((w64 (b_ - a)) * g_)) 256) (fun r1 => .i r1) (fun w _ => filter_down_w (w64 ((w64 (b_ - a)) * g_)) 256 w) {} (fun r1 hr1 => TL.r 9 [] [(6, .i (w64 (a + r1)))] {} (TL.next rfl (TC.ret ?_))))))))))))
  have e : filter_mix a b_ g_ = (w64 (a + r1)) := by subst hr1; unfold filter_mix; exact rfl
  exact TE.ret [] (.i (w64 (a + r1))) {} (by rw [e]; first | done | kernel_rfl)

def filter_Update (f : FilterTrack) (s : Spot) (accel : Int) (place : Int) (speed : Int) : FilterTrack × Int :=
  let r1 := filter_Check f
  cond (r1 != 0) (
    ((⟨⟨0, 0, 0, ⟨0, 0⟩, ⟨0, 0⟩, 0, 0, 0, 0, 0, 0⟩, 0, ⟨0, ⟨0, 0⟩, 0, 0, 0⟩⟩ : FilterTrack), r1)) (
    let r2 := radar_CheckSpot s
    cond (r2 != 0) (
      ((⟨⟨0, 0, 0, ⟨0, 0⟩, ⟨0, 0⟩, 0, 0, 0, 0, 0, 0⟩, 0, ⟨0, ⟨0, 0⟩, 0, 0, 0⟩⟩ : FilterTrack), r2)) (
      let r3 := filter_out place 0 256
      cond r3 (
        ((⟨⟨0, 0, 0, ⟨0, 0⟩, ⟨0, 0⟩, 0, 0, 0, 0, 0, 0⟩, 0, ⟨0, ⟨0, 0⟩, 0, 0, 0⟩⟩ : FilterTrack), 4)) (
        let r4 := filter_out speed 0 256
        cond r4 (
          ((⟨⟨0, 0, 0, ⟨0, 0⟩, ⟨0, 0⟩, 0, 0, 0, 0, 0, 0⟩, 0, ⟨0, ⟨0, 0⟩, 0, 0, 0⟩⟩ : FilterTrack), 4)) (
          cond (decide ((w64 (s.Time - f.Last.Time)) ≤ 0)) (
            ((⟨⟨0, 0, 0, ⟨0, 0⟩, ⟨0, 0⟩, 0, 0, 0, 0, 0, 0⟩, 0, ⟨0, ⟨0, 0⟩, 0, 0, 0⟩⟩ : FilterTrack), 12)) (
            let r5 := filter_Predict f s.Time accel
            cond (r5.2 != 0) (
              ((⟨⟨0, 0, 0, ⟨0, 0⟩, ⟨0, 0⟩, 0, 0, 0, 0, 0, 0⟩, 0, ⟨0, ⟨0, 0⟩, 0, 0, 0⟩⟩ : FilterTrack), r5.2)) (
              let r6 := plane_Within r5.1.Track.At s.At (w64 (r5.1.Track.Radius + s.Error))
              cond (!r6) (
                ((⟨⟨0, 0, 0, ⟨0, 0⟩, ⟨0, 0⟩, 0, 0, 0, 0, 0, 0⟩, 0, ⟨0, ⟨0, 0⟩, 0, 0, 0⟩⟩ : FilterTrack), 8)) (
                let r7 := filter_mix r5.1.Track.At.X s.At.X place
                let r8 := filter_mix r5.1.Track.At.Y s.At.Y place
                let r9 := filter_up (w64 ((w64 ((w64 (256 - place)) * r5.1.Track.Radius)) + (w64 (place * s.Error)))) 256
                let r10 := filter_down (w64 (16 * (w64 (s.At.X - f.Last.At.X)))) (w64 (s.Time - f.Last.Time))
                let r11 := filter_down (w64 (16 * (w64 (s.At.Y - f.Last.At.Y)))) (w64 (s.Time - f.Last.Time))
                let r12 := filter_mix r5.1.Track.Speed.X r10 speed
                let r13 := filter_mix r5.1.Track.Speed.Y r11 speed
                let r14 := filter_up (w64 (16 * (w64 (s.Error + f.Last.Error)))) (w64 (s.Time - f.Last.Time))
                let r15 := filter_up (w64 ((w64 ((w64 (256 - speed)) * r5.1.Slack)) + (w64 (speed * (w64 ((w64 (r14 + (w64 ((w64 (16 * accel)) * (w64 (s.Time - f.Last.Time)))))) + 2)))))) 256
                let r16 := filter_down (w64 (16 * (w64 (s.Height - f.Last.Height)))) (w64 (s.Time - f.Last.Time))
                let r17 := num_Between r16 (-3200) 3200
                cond (s.Code != (-1)) (
                  let r18 := filter_Check (⟨⟨r5.1.Track.ID, r5.1.Track.State, r5.1.Track.Time, ⟨r7, r8⟩, ⟨r12, r13⟩, s.Height, r17, w64 (r9 + 2), s.Code, w64 (r5.1.Track.Hits + 1), 0⟩, w64 (r15 + 2), s⟩ : FilterTrack)
                  cond (r18 != 0) (
                    ((⟨⟨0, 0, 0, ⟨0, 0⟩, ⟨0, 0⟩, 0, 0, 0, 0, 0, 0⟩, 0, ⟨0, ⟨0, 0⟩, 0, 0, 0⟩⟩ : FilterTrack), 8)) (
                    ((⟨⟨r5.1.Track.ID, r5.1.Track.State, r5.1.Track.Time, ⟨r7, r8⟩, ⟨r12, r13⟩, s.Height, r17, w64 (r9 + 2), s.Code, w64 (r5.1.Track.Hits + 1), 0⟩, w64 (r15 + 2), s⟩ : FilterTrack), 0))) (
                  let r19 := filter_Check (⟨⟨r5.1.Track.ID, r5.1.Track.State, r5.1.Track.Time, ⟨r7, r8⟩, ⟨r12, r13⟩, s.Height, r17, w64 (r9 + 2), r5.1.Track.Code, w64 (r5.1.Track.Hits + 1), 0⟩, w64 (r15 + 2), s⟩ : FilterTrack)
                  cond (r19 != 0) (
                    ((⟨⟨0, 0, 0, ⟨0, 0⟩, ⟨0, 0⟩, 0, 0, 0, 0, 0, 0⟩, 0, ⟨0, ⟨0, 0⟩, 0, 0, 0⟩⟩ : FilterTrack), 8)) (
                    ((⟨⟨r5.1.Track.ID, r5.1.Track.State, r5.1.Track.Time, ⟨r7, r8⟩, ⟨r12, r13⟩, s.Height, r17, w64 (r9 + 2), r5.1.Track.Code, w64 (r5.1.Track.Hits + 1), 0⟩, w64 (r15 + 2), s⟩ : FilterTrack), 0))))))))))

set_option maxHeartbeats 4000000 in
set_option maxRecDepth 100000 in
theorem filter_Update_w (f : FilterTrack) (s : Spot) (accel : Int) (place : Int) (speed : Int) (w : World) : Calls Try.prog 26 #[FilterTrack.v f, Spot.v s, .int .i64 accel, .int .i64 place, .int .i64 speed] w (Ret w (.tuple #[FilterTrack.v ((filter_Update f s accel place speed).1), .int .i64 ((filter_Update f s accel place speed).2)])) := by
  refine calls_intro (vs := [FilterTrack.v f, Spot.v s, .i accel, .i place, .i speed]) (w := w) Try.func26 rfl Try.ntmps26 rfl (TC.weak [(0, FilterTrack.v f), (1, Spot.v s), (2, .i accel), (3, .i place), (4, .i speed)] Kr (TC.seq (TC.region (TL.nw 5 (fun b1 => .p0 b1) (fun b1 => Bk b1 (FilterTrack.c f) 48) (fun b1 => {}) (fun b1 => TL.nw 6 (fun b2 => .p0 b2) (fun b2 => Bk b2 (Spot.c s) 36) (fun b2 => {}) (fun b2 => TL.nw 10 (fun b3 => .p0 b3) (fun b3 => Bk b3 (FilterTrack.c FilterTrack.zero) 48) (fun b3 => {}) (fun b3 => TL.r 4 [] [(11, .i 0)] {} (TL.next rfl (TC.seq (TC.region (TL.r 1 [] [(22, FilterTrack.v FilterTrack.zero)] {} (TL.nw 12 (fun b4 => .p0 b4) (fun b4 => Bk b4 (FilterTrack.c FilterTrack.zero) 48) (fun b4 => {}) (fun b4 => TL.s 0 (Bk b4 (FilterTrack.c FilterTrack.zero) 48) (fun _ => {}) (TL.next rfl (TC.seq (TC.seq (TC.region (TL.r 1 [3] [(23, FilterTrack.v f)] {} (TL.c 24 (filter_Check f) (fun r1 => .i r1) (fun w _ => filter_Check_w f w) {} (fun r1 hr1 => TL.r 3 [] [(13, .i r1)] {} (TL.next rfl (TC.seq (TC.region (TL.r 2 [] [(26, .b (r1 != 0))] {} (TL.next rfl (TC.cond (r1 != 0) rfl Kr (fun h1 => ?_) (fun h1 => ?_)))))))))))))))))))))))))))
  · refine TC.seq (TC.region (TL.r 2 [0] [(27, FilterTrack.v (⟨⟨0, 0, 0, ⟨0, 0⟩, ⟨0, 0⟩, 0, 0, 0, 0, 0, 0⟩, 0, ⟨0, ⟨0, 0⟩, 0, 0, 0⟩⟩ : FilterTrack)), (28, .i r1)] {} (TL.s 1 (Bk b3 (FilterTrack.c FilterTrack.zero) 48) (fun _ => {}) (TL.r 4 [] [(11, .i r1)] {} (TL.next rfl (TC.ret (TE.ret_then ?_)))))))
    have e : filter_Update f s accel place speed = ((⟨⟨0, 0, 0, ⟨0, 0⟩, ⟨0, 0⟩, 0, 0, 0, 0, 0, 0⟩, 0, ⟨0, ⟨0, 0⟩, 0, 0, 0⟩⟩ : FilterTrack), r1) := by subst hr1; unfold filter_Update; exact cond_t h1 (rfl)
    exact TE.ret [1] (.tuple #[FilterTrack.v (⟨⟨0, 0, 0, ⟨0, 0⟩, ⟨0, 0⟩, 0, 0, 0, 0, 0, 0⟩, 0, ⟨0, ⟨0, 0⟩, 0, 0, 0⟩⟩ : FilterTrack), .i r1]) {} (by rw [e]; first | done | kernel_rfl)
  · refine TC.skip (TE.next (TC.seq (TC.seq (TC.region (TL.r 1 [2] [(29, Spot.v s)] {} (TL.c 30 (radar_CheckSpot s) (fun r2 => .i r2) (fun w _ => radar_CheckSpot_w s w) {} (fun r2 hr2 => TL.r 3 [] [(14, .i r2)] {} (TL.next rfl (TC.seq (TC.region (TL.r 2 [] [(32, .b (r2 != 0))] {} (TL.next rfl (TC.cond (r2 != 0) rfl Kr (fun h2 => ?_) (fun h2 => ?_))))))))))))))
    · refine TC.seq (TC.region (TL.r 2 [0] [(33, FilterTrack.v (⟨⟨0, 0, 0, ⟨0, 0⟩, ⟨0, 0⟩, 0, 0, 0, 0, 0, 0⟩, 0, ⟨0, ⟨0, 0⟩, 0, 0, 0⟩⟩ : FilterTrack)), (34, .i r2)] {} (TL.s 1 (Bk b3 (FilterTrack.c FilterTrack.zero) 48) (fun _ => {}) (TL.r 4 [] [(11, .i r2)] {} (TL.next rfl (TC.ret (TE.ret_then ?_)))))))
      have e : filter_Update f s accel place speed = ((⟨⟨0, 0, 0, ⟨0, 0⟩, ⟨0, 0⟩, 0, 0, 0, 0, 0, 0⟩, 0, ⟨0, ⟨0, 0⟩, 0, 0, 0⟩⟩ : FilterTrack), r2) := by subst hr1 hr2; unfold filter_Update; exact cond_f h1 (cond_t h2 (rfl))
      exact TE.ret [1] (.tuple #[FilterTrack.v (⟨⟨0, 0, 0, ⟨0, 0⟩, ⟨0, 0⟩, 0, 0, 0, 0, 0, 0⟩, 0, ⟨0, ⟨0, 0⟩, 0, 0, 0⟩⟩ : FilterTrack), .i r2]) {} (by rw [e]; first | done | kernel_rfl)
    · refine TC.skip (TE.next (TC.seq (TC.region (TL.r 7 [2, 3] [(15, .i (w64 (s.Time - f.Last.Time)))] {} (TL.next rfl (TC.seq (TC.block (TC.seq (TC.region (TL.r 1 [] [(42, .i place)] {} (TL.c 43 (filter_out place 0 256) (fun r3 => .b r3) (fun w _ => filter_out_w place 0 256 w) {} (fun r3 hr3 => TL.r 3 [] [(44, .b r3)] {} (TL.split 44 r3 Kr (fun h3 => ?_) (fun h3 => ?_))))))))))))))
      · refine TL.r 7 [] [(41, .b true)] {} (TL.next rfl (TC.condT rfl Kr (TC.seq (TC.region (TL.r 1 [0] [(48, FilterTrack.v (⟨⟨0, 0, 0, ⟨0, 0⟩, ⟨0, 0⟩, 0, 0, 0, 0, 0, 0⟩, 0, ⟨0, ⟨0, 0⟩, 0, 0, 0⟩⟩ : FilterTrack))] {} (TL.s 1 (Bk b3 (FilterTrack.c FilterTrack.zero) 48) (fun _ => {}) (TL.r 3 [] [(11, .i 4)] {} (TL.next rfl (TC.ret (TE.ret_block (TE.ret_then ?_)))))))))))
        have e : filter_Update f s accel place speed = ((⟨⟨0, 0, 0, ⟨0, 0⟩, ⟨0, 0⟩, 0, 0, 0, 0, 0, 0⟩, 0, ⟨0, ⟨0, 0⟩, 0, 0, 0⟩⟩ : FilterTrack), 4) := by subst hr1 hr2 hr3; unfold filter_Update; exact cond_f h1 (cond_f h2 (cond_t h3 (rfl)))
        exact TE.ret [1] (.tuple #[FilterTrack.v (⟨⟨0, 0, 0, ⟨0, 0⟩, ⟨0, 0⟩, 0, 0, 0, 0, 0, 0⟩, 0, ⟨0, ⟨0, 0⟩, 0, 0, 0⟩⟩ : FilterTrack), .i 4]) {} (by rw [e]; first | done | kernel_rfl)
      · refine TL.r 4 [] [(45, .i speed)] {} (TL.c 46 (filter_out speed 0 256) (fun r4 => .b r4) (fun w _ => filter_out_w speed 0 256 w) {} (fun r4 hr4 => TL.r 7 [] [(41, .b r4)] {} (TL.next rfl (TC.cond r4 rfl Kr (fun h4 => ?_) (fun h4 => ?_)))))
        · refine TC.seq (TC.region (TL.r 1 [0] [(48, FilterTrack.v (⟨⟨0, 0, 0, ⟨0, 0⟩, ⟨0, 0⟩, 0, 0, 0, 0, 0, 0⟩, 0, ⟨0, ⟨0, 0⟩, 0, 0, 0⟩⟩ : FilterTrack))] {} (TL.s 1 (Bk b3 (FilterTrack.c FilterTrack.zero) 48) (fun _ => {}) (TL.r 3 [] [(11, .i 4)] {} (TL.next rfl (TC.ret (TE.ret_block (TE.ret_then ?_))))))))
          have e : filter_Update f s accel place speed = ((⟨⟨0, 0, 0, ⟨0, 0⟩, ⟨0, 0⟩, 0, 0, 0, 0, 0, 0⟩, 0, ⟨0, ⟨0, 0⟩, 0, 0, 0⟩⟩ : FilterTrack), 4) := by subst hr1 hr2 hr3 hr4; unfold filter_Update; exact cond_f h1 (cond_f h2 (cond_f h3 (cond_t h4 (rfl))))
          exact TE.ret [1] (.tuple #[FilterTrack.v (⟨⟨0, 0, 0, ⟨0, 0⟩, ⟨0, 0⟩, 0, 0, 0, 0, 0, 0⟩, 0, ⟨0, ⟨0, 0⟩, 0, 0, 0⟩⟩ : FilterTrack), .i 4]) {} (by rw [e]; first | done | kernel_rfl)
        · refine TC.seq (TC.region (TL.r 3 [] [(49, .b (decide ((w64 (s.Time - f.Last.Time)) ≤ 0)))] {} (TL.next rfl (TC.cond (decide ((w64 (s.Time - f.Last.Time)) ≤ 0)) rfl Kr (fun h5 => ?_) (fun h5 => ?_)))))
          · refine TC.seq (TC.region (TL.r 1 [0] [(52, FilterTrack.v (⟨⟨0, 0, 0, ⟨0, 0⟩, ⟨0, 0⟩, 0, 0, 0, 0, 0, 0⟩, 0, ⟨0, ⟨0, 0⟩, 0, 0, 0⟩⟩ : FilterTrack))] {} (TL.s 1 (Bk b3 (FilterTrack.c FilterTrack.zero) 48) (fun _ => {}) (TL.r 3 [] [(11, .i 12)] {} (TL.next rfl (TC.ret (TE.ret_block (TE.ret_then ?_))))))))
            have e : filter_Update f s accel place speed = ((⟨⟨0, 0, 0, ⟨0, 0⟩, ⟨0, 0⟩, 0, 0, 0, 0, 0, 0⟩, 0, ⟨0, ⟨0, 0⟩, 0, 0, 0⟩⟩ : FilterTrack), 12) := by subst hr1 hr2 hr3 hr4; unfold filter_Update; exact cond_f h1 (cond_f h2 (cond_f h3 (cond_f h4 (cond_t h5 (rfl)))))
            exact TE.ret [1] (.tuple #[FilterTrack.v (⟨⟨0, 0, 0, ⟨0, 0⟩, ⟨0, 0⟩, 0, 0, 0, 0, 0, 0⟩, 0, ⟨0, ⟨0, 0⟩, 0, 0, 0⟩⟩ : FilterTrack), .i 12]) {} (by rw [e]; first | done | kernel_rfl)
          · refine TC.skip (TE.normal_block (TE.next (TC.seq (TC.region (TL.r 4 [3, 2] [(54, FilterTrack.v f), (56, .i s.Time), (57, .i accel)] {} (TL.c 58 (filter_Predict f s.Time accel) (fun r5 => .tuple #[FilterTrack.v r5.1, .i r5.2]) (fun w _ => filter_Predict_w f s.Time accel w) {} (fun r5 hr5 => TL.r 8 [] [(59, FilterTrack.v r5.1), (60, .i r5.2)] {} (TL.nw 16 (fun b5 => .p0 b5) (fun b5 => Bk b5 (FilterTrack.c FilterTrack.zero) 48) (fun b5 => {}) (fun b5 => TL.s 0 (Bk b5 (FilterTrack.c r5.1) 48) (fun _ => {}) (TL.r 11 [] [(17, .i r5.2)] {} (TL.next rfl (TC.seq (TC.seq (TC.region (TL.r 2 [] [(62, .b (r5.2 != 0))] {} (TL.next rfl (TC.cond (r5.2 != 0) rfl Kr (fun h6 => ?_) (fun h6 => ?_))))))))))))))))))
            · refine TC.seq (TC.region (TL.r 2 [1] [(63, FilterTrack.v (⟨⟨0, 0, 0, ⟨0, 0⟩, ⟨0, 0⟩, 0, 0, 0, 0, 0, 0⟩, 0, ⟨0, ⟨0, 0⟩, 0, 0, 0⟩⟩ : FilterTrack)), (64, .i r5.2)] {} (TL.s 2 (Bk b3 (FilterTrack.c FilterTrack.zero) 48) (fun _ => {}) (TL.r 4 [] [(11, .i r5.2)] {} (TL.next rfl (TC.ret (TE.ret_then ?_)))))))
              have e : filter_Update f s accel place speed = ((⟨⟨0, 0, 0, ⟨0, 0⟩, ⟨0, 0⟩, 0, 0, 0, 0, 0, 0⟩, 0, ⟨0, ⟨0, 0⟩, 0, 0, 0⟩⟩ : FilterTrack), r5.2) := by subst hr1 hr2 hr3 hr4 hr5; unfold filter_Update; exact cond_f h1 (cond_f h2 (cond_f h3 (cond_f h4 (cond_f h5 (cond_t h6 (rfl))))))
              exact TE.ret [2] (.tuple #[FilterTrack.v (⟨⟨0, 0, 0, ⟨0, 0⟩, ⟨0, 0⟩, 0, 0, 0, 0, 0, 0⟩, 0, ⟨0, ⟨0, 0⟩, 0, 0, 0⟩⟩ : FilterTrack), .i r5.2]) {} (by rw [e]; first | done | kernel_rfl)
            · refine TC.skip (TE.next (TC.seq (TC.seq (TC.region (TL.r 11 [0, 3, 0, 3] [(67, P.v r5.1.Track.At), (69, P.v s.At), (75, .i (w64 (r5.1.Track.Radius + s.Error)))] {} (TL.c 76 (plane_Within r5.1.Track.At s.At (w64 (r5.1.Track.Radius + s.Error))) (fun r6 => .b r6) (fun w _ => plane_Within_w r5.1.Track.At s.At (w64 (r5.1.Track.Radius + s.Error)) w) {} (fun r6 hr6 => TL.r 13 [] [(77, .b (!r6))] {} (TL.next rfl (TC.cond (!r6) rfl Kr (fun h7 => ?_) (fun h7 => ?_))))))))))
              · refine TC.seq (TC.region (TL.r 1 [1] [(78, FilterTrack.v (⟨⟨0, 0, 0, ⟨0, 0⟩, ⟨0, 0⟩, 0, 0, 0, 0, 0, 0⟩, 0, ⟨0, ⟨0, 0⟩, 0, 0, 0⟩⟩ : FilterTrack))] {} (TL.s 2 (Bk b3 (FilterTrack.c FilterTrack.zero) 48) (fun _ => {}) (TL.r 3 [] [(11, .i 8)] {} (TL.next rfl (TC.ret (TE.ret_then ?_)))))))
                have e : filter_Update f s accel place speed = ((⟨⟨0, 0, 0, ⟨0, 0⟩, ⟨0, 0⟩, 0, 0, 0, 0, 0, 0⟩, 0, ⟨0, ⟨0, 0⟩, 0, 0, 0⟩⟩ : FilterTrack), 8) := by subst hr1 hr2 hr3 hr4 hr5 hr6; unfold filter_Update; exact cond_f h1 (cond_f h2 (cond_f h3 (cond_f h4 (cond_f h5 (cond_f h6 (cond_t h7 (rfl)))))))
                exact TE.ret [2] (.tuple #[FilterTrack.v (⟨⟨0, 0, 0, ⟨0, 0⟩, ⟨0, 0⟩, 0, 0, 0, 0, 0, 0⟩, 0, ⟨0, ⟨0, 0⟩, 0, 0, 0⟩⟩ : FilterTrack), .i 8]) {} (by rw [e]; first | done | kernel_rfl)
              · refine TC.skip (TE.next (TC.seq (TC.region (TL.r 1 [0] [(79, FilterTrack.v r5.1)] {} (TL.nw 18 (fun b6 => .p0 b6) (fun b6 => Bk b6 (FilterTrack.c FilterTrack.zero) 48) (fun b6 => {}) (fun b6 => TL.s 0 (Bk b6 (FilterTrack.c r5.1) 48) (fun _ => {}) (TL.next rfl (TC.seq (TC.region (TL.r 2 [] [(19, .p0 b6)] {} (TL.next rfl (TC.seq (TC.drawTail 22 Kr Kr (TQ.r 9 [1, 4] [(81, .p0 b6), (85, .i r5.1.Track.At.X), (88, .i s.At.X), (89, .i place)] {} (TQ.c 90 (filter_mix r5.1.Track.At.X s.At.X place) (fun r7 => .i r7) (fun w _ => filter_mix_w r5.1.Track.At.X s.At.X place w) rfl {} (fun r7 hr7 => TQ.r 18 [1, 4] [(94, .i r5.1.Track.At.Y), (97, .i s.At.Y), (98, .i place)] {} (TQ.c 99 (filter_mix r5.1.Track.At.Y s.At.Y place) (fun r8 => .i r8) (fun w _ => filter_mix_w r5.1.Track.At.Y s.At.Y place w) rfl {} (fun r8 hr8 => TQ.r 22 [] [(100, P.v (⟨r7, r8⟩ : P)), (102, .pt b6 3)] {} (TQ.tail rfl (TL.s 0 (Bk b6 (FilterTrack.c (⟨⟨r5.1.Track.ID, r5.1.Track.State, r5.1.Track.Time, ⟨r7, r8⟩, r5.1.Track.Speed, r5.1.Track.Height, r5.1.Track.Rate, r5.1.Track.Radius, r5.1.Track.Code, r5.1.Track.Hits, r5.1.Track.Misses⟩, r5.1.Slack, r5.1.Last⟩ : FilterTrack)) 48) (fun _ => {}) (TL.next rfl (TC.seq (TC.region (TL.r 12 [1, 4] [(103, .p0 b6), (114, .i (w64 ((w64 ((w64 (256 - place)) * r5.1.Track.Radius)) + (w64 (place * s.Error)))))] {} (TL.c 115 (filter_up (w64 ((w64 ((w64 (256 - place)) * r5.1.Track.Radius)) + (w64 (place * s.Error)))) 256) (fun r9 => .i r9) (fun w _ => filter_up_w (w64 ((w64 ((w64 (256 - place)) * r5.1.Track.Radius)) + (w64 (place * s.Error)))) 256 w) {} (fun r9 hr9 => TL.r 16 [] [(116, .i (w64 (r9 + 2))), (118, .pt b6 9)] {} (TL.s 0 (Bk b6 (FilterTrack.c (⟨⟨r5.1.Track.ID, r5.1.Track.State, r5.1.Track.Time, ⟨r7, r8⟩, r5.1.Track.Speed, r5.1.Track.Height, r5.1.Track.Rate, w64 (r9 + 2), r5.1.Track.Code, r5.1.Track.Hits, r5.1.Track.Misses⟩, r5.1.Slack, r5.1.Last⟩ : FilterTrack)) 48) (fun _ => {}) (TL.next rfl (TC.seq ?_)))))))))))))))))))))))))))))
                obtain ⟨r10, hr10⟩ : ∃ r, filter_down (w64 (16 * (w64 (s.At.X - f.Last.At.X)))) (w64 (s.Time - f.Last.Time)) = r := ⟨_, rfl⟩
                obtain ⟨r11, hr11⟩ : ∃ r, filter_down (w64 (16 * (w64 (s.At.Y - f.Last.At.Y)))) (w64 (s.Time - f.Last.Time)) = r := ⟨_, rfl⟩
                refine TC.plan (G := Nat) (base := [(2, .i accel), (4, .i speed), (5, .p0 b1), (6, .p0 b2), (10, .p0 b3), (12, .p0 b4), (15, .i (w64 (s.Time - f.Last.Time))), (16, .p0 b5), (18, .p0 b6), (19, .p0 b6)]) (vals := fun γ => [.pt b2 1, .pt b2 1, .i s.At.X, .pt b1 14, .pt b1 15, .pt b1 15, .i f.Last.At.X, .i (w64 (s.At.X - f.Last.At.X)), .i (w64 (16 * (w64 (s.At.X - f.Last.At.X)))), .i (w64 (s.Time - f.Last.Time)), .i r10, .pt b2 1, .pt b2 2, .i s.At.Y, .pt b1 14, .pt b1 15, .pt b1 16, .i f.Last.At.Y, .i (w64 (s.At.Y - f.Last.At.Y)), .i (w64 (16 * (w64 (s.At.Y - f.Last.At.Y)))), .i (w64 (s.Time - f.Last.Time)), .i r11, P.v (⟨r10, r11⟩ : P), .p0 γ, undef]) (writes := [23, 24]) (mem := fun bs γ => match bs with | [x23_, x24_] => (bif x24_ then [Bk γ (P.c (⟨r10, r11⟩ : P)) 34] else bif x23_ then [Bk γ (P.c P.zero) 34] else []) ++ ([Bk b6 (FilterTrack.c (⟨⟨r5.1.Track.ID, r5.1.Track.State, r5.1.Track.Time, ⟨r7, r8⟩, r5.1.Track.Speed, r5.1.Track.Height, r5.1.Track.Rate, w64 (r9 + 2), r5.1.Track.Code, r5.1.Track.Hits, r5.1.Track.Misses⟩, r5.1.Slack, r5.1.Last⟩ : FilterTrack)) 48, Bk b5 (FilterTrack.c r5.1) 48, Bk b4 (FilterTrack.c FilterTrack.zero) 48, Bk b3 (FilterTrack.c FilterTrack.zero) 48, Bk b2 (Spot.c s) 36, Bk b1 (FilterTrack.c f) 48]) | _ => []) (0) (fun γ => [(2, .i accel), (4, .i speed), (5, .p0 b1), (6, .p0 b2), (10, .p0 b3), (12, .p0 b4), (15, .i (w64 (s.Time - f.Last.Time))), (16, .p0 b5), (18, .p0 b6), (19, .p0 b6), (20, .p0 γ)]) Kr Kr Kr Kr Kr (fun γ => Kr) (fun _ hM => hM) (fun γ => Kr) ?_ ?_
                · skip
                  exact Steps.run (i := 0) 10 [0, 0, 4, 0, 0, 0, 5, 0, 0, 0] [Bk b6 (FilterTrack.c (⟨⟨r5.1.Track.ID, r5.1.Track.State, r5.1.Track.Time, ⟨r7, r8⟩, r5.1.Track.Speed, r5.1.Track.Height, r5.1.Track.Rate, w64 (r9 + 2), r5.1.Track.Code, r5.1.Track.Hits, r5.1.Track.Misses⟩, r5.1.Slack, r5.1.Last⟩ : FilterTrack)) 48, Bk b5 (FilterTrack.c r5.1) 48, Bk b4 (FilterTrack.c FilterTrack.zero) 48, Bk b3 (FilterTrack.c FilterTrack.zero) 48, Bk b2 (Spot.c s) 36, Bk b1 (FilterTrack.c f) 48] Kr Kr (fun S (γ : Nat) w hM => by change Sat _ ((bif S 24 then [Bk γ (P.c (⟨r10, r11⟩ : P)) 34] else bif S 23 then [Bk γ (P.c P.zero) 34] else []) ++ ([Bk b6 (FilterTrack.c (⟨⟨r5.1.Track.ID, r5.1.Track.State, r5.1.Track.Time, ⟨r7, r8⟩, r5.1.Track.Speed, r5.1.Track.Height, r5.1.Track.Rate, w64 (r9 + 2), r5.1.Track.Code, r5.1.Track.Hits, r5.1.Track.Misses⟩, r5.1.Slack, r5.1.Last⟩ : FilterTrack)) 48, Bk b5 (FilterTrack.c r5.1) 48, Bk b4 (FilterTrack.c FilterTrack.zero) 48, Bk b3 (FilterTrack.c FilterTrack.zero) 48, Bk b2 (Spot.c s) 36, Bk b1 (FilterTrack.c f) 48])) w at hM; exact hM.sub (sub_skip (List.Sublist.refl _))) Kr (fun (γ : Nat) => {}) (Steps.call (i := 10) 34 (fun (γ : Nat) => #[.i (w64 (16 * (w64 (s.At.X - f.Last.At.X)))), .i (w64 (s.Time - f.Last.Time))]) (some 129) (fun (γ : Nat) => .i r10) (fun (γ : Nat) => [Bk b6 (FilterTrack.c (⟨⟨r5.1.Track.ID, r5.1.Track.State, r5.1.Track.Time, ⟨r7, r8⟩, r5.1.Track.Speed, r5.1.Track.Height, r5.1.Track.Rate, w64 (r9 + 2), r5.1.Track.Code, r5.1.Track.Hits, r5.1.Track.Misses⟩, r5.1.Slack, r5.1.Last⟩ : FilterTrack)) 48, Bk b5 (FilterTrack.c r5.1) 48, Bk b4 (FilterTrack.c FilterTrack.zero) 48, Bk b3 (FilterTrack.c FilterTrack.zero) 48, Bk b2 (Spot.c s) 36, Bk b1 (FilterTrack.c f) 48]) Kr (fun S (γ : Nat) w _ hM => by change Sat _ ((bif S 24 then [Bk γ (P.c (⟨r10, r11⟩ : P)) 34] else bif S 23 then [Bk γ (P.c P.zero) 34] else []) ++ ([Bk b6 (FilterTrack.c (⟨⟨r5.1.Track.ID, r5.1.Track.State, r5.1.Track.Time, ⟨r7, r8⟩, r5.1.Track.Speed, r5.1.Track.Height, r5.1.Track.Rate, w64 (r9 + 2), r5.1.Track.Code, r5.1.Track.Hits, r5.1.Track.Misses⟩, r5.1.Slack, r5.1.Last⟩ : FilterTrack)) 48, Bk b5 (FilterTrack.c r5.1) 48, Bk b4 (FilterTrack.c FilterTrack.zero) 48, Bk b3 (FilterTrack.c FilterTrack.zero) 48, Bk b2 (Spot.c s) 36, Bk b1 (FilterTrack.c f) 48])) w at hM; exact hM.sub (sub_skip (List.Sublist.refl _))) (fun (γ : Nat) w _ => by have h := filter_down_w (w64 (16 * (w64 (s.At.X - f.Last.At.X)))) (w64 (s.Time - f.Last.Time)) w; rw [hr10] at h; exact h) (fun (γ : Nat) => Kr) (fun (γ : Nat) => Kr) (Steps.run (i := 11) 21 [0, 0, 4, 0, 0, 0, 5, 0, 0, 0] [Bk b6 (FilterTrack.c (⟨⟨r5.1.Track.ID, r5.1.Track.State, r5.1.Track.Time, ⟨r7, r8⟩, r5.1.Track.Speed, r5.1.Track.Height, r5.1.Track.Rate, w64 (r9 + 2), r5.1.Track.Code, r5.1.Track.Hits, r5.1.Track.Misses⟩, r5.1.Slack, r5.1.Last⟩ : FilterTrack)) 48, Bk b5 (FilterTrack.c r5.1) 48, Bk b4 (FilterTrack.c FilterTrack.zero) 48, Bk b3 (FilterTrack.c FilterTrack.zero) 48, Bk b2 (Spot.c s) 36, Bk b1 (FilterTrack.c f) 48] Kr Kr (fun S (γ : Nat) w hM => by change Sat _ ((bif S 24 then [Bk γ (P.c (⟨r10, r11⟩ : P)) 34] else bif S 23 then [Bk γ (P.c P.zero) 34] else []) ++ ([Bk b6 (FilterTrack.c (⟨⟨r5.1.Track.ID, r5.1.Track.State, r5.1.Track.Time, ⟨r7, r8⟩, r5.1.Track.Speed, r5.1.Track.Height, r5.1.Track.Rate, w64 (r9 + 2), r5.1.Track.Code, r5.1.Track.Hits, r5.1.Track.Misses⟩, r5.1.Slack, r5.1.Last⟩ : FilterTrack)) 48, Bk b5 (FilterTrack.c r5.1) 48, Bk b4 (FilterTrack.c FilterTrack.zero) 48, Bk b3 (FilterTrack.c FilterTrack.zero) 48, Bk b2 (Spot.c s) 36, Bk b1 (FilterTrack.c f) 48])) w at hM; exact hM.sub (sub_skip (List.Sublist.refl _))) Kr (fun (γ : Nat) => {}) (Steps.call (i := 21) 34 (fun (γ : Nat) => #[.i (w64 (16 * (w64 (s.At.Y - f.Last.At.Y)))), .i (w64 (s.Time - f.Last.Time))]) (some 140) (fun (γ : Nat) => .i r11) (fun (γ : Nat) => [Bk b6 (FilterTrack.c (⟨⟨r5.1.Track.ID, r5.1.Track.State, r5.1.Track.Time, ⟨r7, r8⟩, r5.1.Track.Speed, r5.1.Track.Height, r5.1.Track.Rate, w64 (r9 + 2), r5.1.Track.Code, r5.1.Track.Hits, r5.1.Track.Misses⟩, r5.1.Slack, r5.1.Last⟩ : FilterTrack)) 48, Bk b5 (FilterTrack.c r5.1) 48, Bk b4 (FilterTrack.c FilterTrack.zero) 48, Bk b3 (FilterTrack.c FilterTrack.zero) 48, Bk b2 (Spot.c s) 36, Bk b1 (FilterTrack.c f) 48]) Kr (fun S (γ : Nat) w _ hM => by change Sat _ ((bif S 24 then [Bk γ (P.c (⟨r10, r11⟩ : P)) 34] else bif S 23 then [Bk γ (P.c P.zero) 34] else []) ++ ([Bk b6 (FilterTrack.c (⟨⟨r5.1.Track.ID, r5.1.Track.State, r5.1.Track.Time, ⟨r7, r8⟩, r5.1.Track.Speed, r5.1.Track.Height, r5.1.Track.Rate, w64 (r9 + 2), r5.1.Track.Code, r5.1.Track.Hits, r5.1.Track.Misses⟩, r5.1.Slack, r5.1.Last⟩ : FilterTrack)) 48, Bk b5 (FilterTrack.c r5.1) 48, Bk b4 (FilterTrack.c FilterTrack.zero) 48, Bk b3 (FilterTrack.c FilterTrack.zero) 48, Bk b2 (Spot.c s) 36, Bk b1 (FilterTrack.c f) 48])) w at hM; exact hM.sub (sub_skip (List.Sublist.refl _))) (fun (γ : Nat) w _ => by have h := filter_down_w (w64 (16 * (w64 (s.At.Y - f.Last.At.Y)))) (w64 (s.Time - f.Last.Time)) w; rw [hr11] at h; exact h) (fun (γ : Nat) => Kr) (fun (γ : Nat) => Kr) (Steps.run (i := 22) 23 [0] [Bk b6 (FilterTrack.c (⟨⟨r5.1.Track.ID, r5.1.Track.State, r5.1.Track.Time, ⟨r7, r8⟩, r5.1.Track.Speed, r5.1.Track.Height, r5.1.Track.Rate, w64 (r9 + 2), r5.1.Track.Code, r5.1.Track.Hits, r5.1.Track.Misses⟩, r5.1.Slack, r5.1.Last⟩ : FilterTrack)) 48, Bk b5 (FilterTrack.c r5.1) 48, Bk b4 (FilterTrack.c FilterTrack.zero) 48, Bk b3 (FilterTrack.c FilterTrack.zero) 48, Bk b2 (Spot.c s) 36, Bk b1 (FilterTrack.c f) 48] Kr Kr (fun S (γ : Nat) w hM => by change Sat _ ((bif S 24 then [Bk γ (P.c (⟨r10, r11⟩ : P)) 34] else bif S 23 then [Bk γ (P.c P.zero) 34] else []) ++ ([Bk b6 (FilterTrack.c (⟨⟨r5.1.Track.ID, r5.1.Track.State, r5.1.Track.Time, ⟨r7, r8⟩, r5.1.Track.Speed, r5.1.Track.Height, r5.1.Track.Rate, w64 (r9 + 2), r5.1.Track.Code, r5.1.Track.Hits, r5.1.Track.Misses⟩, r5.1.Slack, r5.1.Last⟩ : FilterTrack)) 48, Bk b5 (FilterTrack.c r5.1) 48, Bk b4 (FilterTrack.c FilterTrack.zero) 48, Bk b3 (FilterTrack.c FilterTrack.zero) 48, Bk b2 (Spot.c s) 36, Bk b1 (FilterTrack.c f) 48])) w at hM; exact hM.sub (sub_skip (List.Sublist.refl _))) Kr (fun (γ : Nat) => {}) (Steps.op (i := 23) (Γ := Nat) (fun g (γ : Nat) => g) (fun _ => []) (fun b (γ : Nat) => [Bk b (P.c P.zero) 34]) (fun S (γ : Nat) => [Bk b6 (FilterTrack.c (⟨⟨r5.1.Track.ID, r5.1.Track.State, r5.1.Track.Time, ⟨r7, r8⟩, r5.1.Track.Speed, r5.1.Track.Height, r5.1.Track.Rate, w64 (r9 + 2), r5.1.Track.Code, r5.1.Track.Hits, r5.1.Track.Misses⟩, r5.1.Slack, r5.1.Last⟩ : FilterTrack)) 48, Bk b5 (FilterTrack.c r5.1) 48, Bk b4 (FilterTrack.c FilterTrack.zero) 48, Bk b3 (FilterTrack.c FilterTrack.zero) 48, Bk b2 (Spot.c s) 36, Bk b1 (FilterTrack.c f) 48]) [23, 24] (fun (γ : Nat) => sV (Instr.alloc 34 true (.tuple #[]))) (some 20) (fun b (γ : Nat) => .p0 b) (fun S (γ : Nat) hj hd hl => by rw [mS2 hj (hl 24 Kr)]; exact List.Perm.refl _) (fun S (γ : Nat) g hl => by change List.Perm ([Bk g (P.c P.zero) 34] ++ ([Bk b6 (FilterTrack.c (⟨⟨r5.1.Track.ID, r5.1.Track.State, r5.1.Track.Time, ⟨r7, r8⟩, r5.1.Track.Speed, r5.1.Track.Height, r5.1.Track.Rate, w64 (r9 + 2), r5.1.Track.Code, r5.1.Track.Hits, r5.1.Track.Misses⟩, r5.1.Slack, r5.1.Last⟩ : FilterTrack)) 48, Bk b5 (FilterTrack.c r5.1) 48, Bk b4 (FilterTrack.c FilterTrack.zero) 48, Bk b3 (FilterTrack.c FilterTrack.zero) 48, Bk b2 (Spot.c s) 36, Bk b1 (FilterTrack.c f) 48])) (((bif S 24 then [Bk g (P.c (⟨r10, r11⟩ : P)) 34] else bif true then [Bk g (P.c P.zero) 34] else []) ++ ([Bk b6 (FilterTrack.c (⟨⟨r5.1.Track.ID, r5.1.Track.State, r5.1.Track.Time, ⟨r7, r8⟩, r5.1.Track.Speed, r5.1.Track.Height, r5.1.Track.Rate, w64 (r9 + 2), r5.1.Track.Code, r5.1.Track.Hits, r5.1.Track.Misses⟩, r5.1.Slack, r5.1.Last⟩ : FilterTrack)) 48, Bk b5 (FilterTrack.c r5.1) 48, Bk b4 (FilterTrack.c FilterTrack.zero) 48, Bk b3 (FilterTrack.c FilterTrack.zero) 48, Bk b2 (Spot.c s) 36, Bk b1 (FilterTrack.c f) 48])) : Mem); rw [hl 24 Kr]; exact (List.Perm.refl _).symm) (fun (γ : Nat) M' w hM => run_new (v := fun b => .p0 b) (fun b M => Kr) M' w hM) (fun (γ : Nat) => Kr) (fun (γ : Nat) g => Kr) Kr (fun (γ : Nat) g => Kr) (Steps.put (i := 24) (fun (γ : Nat) => [Bk γ (P.c P.zero) 34]) (fun (γ : Nat) => [Bk γ (P.c (⟨r10, r11⟩ : P)) 34]) (fun S (γ : Nat) => [Bk b6 (FilterTrack.c (⟨⟨r5.1.Track.ID, r5.1.Track.State, r5.1.Track.Time, ⟨r7, r8⟩, r5.1.Track.Speed, r5.1.Track.Height, r5.1.Track.Rate, w64 (r9 + 2), r5.1.Track.Code, r5.1.Track.Hits, r5.1.Track.Misses⟩, r5.1.Slack, r5.1.Last⟩ : FilterTrack)) 48, Bk b5 (FilterTrack.c r5.1) 48, Bk b4 (FilterTrack.c FilterTrack.zero) 48, Bk b3 (FilterTrack.c FilterTrack.zero) 48, Bk b2 (Spot.c s) 36, Bk b1 (FilterTrack.c f) 48]) (fun (γ : Nat) => sU (Instr.storeAt 34 (.p0 γ) (P.v (⟨r10, r11⟩ : P)))) none (fun S (γ : Nat) hj hd hl => by rw [mS2 (hd 23 Kr) hj]; exact List.Perm.refl _) (fun S (γ : Nat) _ => (List.Perm.refl _).symm) (fun (γ : Nat) M' w hM => run_put (fun b M => Kr) (fun b M => Kr) M' w hM) (fun (γ : Nat) => Kr) (fun (γ : Nat) => Kr) (Steps.done Kr)))))))
                · rintro b7
                  refine TE.conv [Bk b7 (P.c (⟨r10, r11⟩ : P)) 34, Bk b6 (FilterTrack.c (⟨⟨r5.1.Track.ID, r5.1.Track.State, r5.1.Track.Time, ⟨r7, r8⟩, r5.1.Track.Speed, r5.1.Track.Height, r5.1.Track.Rate, w64 (r9 + 2), r5.1.Track.Code, r5.1.Track.Hits, r5.1.Track.Misses⟩, r5.1.Slack, r5.1.Last⟩ : FilterTrack)) 48, Bk b5 (FilterTrack.c r5.1) 48, Bk b4 (FilterTrack.c FilterTrack.zero) 48, Bk b3 (FilterTrack.c FilterTrack.zero) 48, Bk b2 (Spot.c s) 36, Bk b1 (FilterTrack.c f) 48] (fun _ hM => hM) (TE.next (TC.seq (TC.drawTail 20 Kr Kr (TQ.r 8 [2, 0] [(142, .p0 b6), (146, .i r5.1.Track.Speed.X), (148, .i r10), (149, .i speed)] {} (TQ.c 150 (filter_mix r5.1.Track.Speed.X r10 speed) (fun r12 => .i r12) (fun w _ => filter_mix_w r5.1.Track.Speed.X r10 speed w) rfl {} (fun r12 hr12 => TQ.r 16 [2, 0] [(154, .i r5.1.Track.Speed.Y), (156, .i r11), (157, .i speed)] {} (TQ.c 158 (filter_mix r5.1.Track.Speed.Y r11 speed) (fun r13 => .i r13) (fun w _ => filter_mix_w r5.1.Track.Speed.Y r11 speed w) rfl {} (fun r13 hr13 => TQ.r 20 [] [(159, P.v (⟨r12, r13⟩ : P)), (161, .pt b6 5)] {} (TQ.tail rfl (TL.s 1 (Bk b6 (FilterTrack.c (⟨⟨r5.1.Track.ID, r5.1.Track.State, r5.1.Track.Time, ⟨r7, r8⟩, ⟨r12, r13⟩, r5.1.Track.Height, r5.1.Track.Rate, w64 (r9 + 2), r5.1.Track.Code, r5.1.Track.Hits, r5.1.Track.Misses⟩, r5.1.Slack, r5.1.Last⟩ : FilterTrack)) 48) (fun _ => {}) (TL.next rfl (TC.seq (TC.region (TL.r 8 [5, 6] [(168, .i (w64 (16 * (w64 (s.Error + f.Last.Error))))), (169, .i (w64 (s.Time - f.Last.Time)))] {} (TL.c 170 (filter_up (w64 (16 * (w64 (s.Error + f.Last.Error)))) (w64 (s.Time - f.Last.Time))) (fun r14 => .i r14) (fun w _ => filter_up_w (w64 (16 * (w64 (s.Error + f.Last.Error)))) (w64 (s.Time - f.Last.Time)) w) {} (fun r14 hr14 => TL.r 16 [] [(21, .i (w64 ((w64 (r14 + (w64 ((w64 (16 * accel)) * (w64 (s.Time - f.Last.Time)))))) + 2)))] {} (TL.next rfl (TC.seq (TC.region (TL.r 9 [2] [(185, .i (w64 ((w64 ((w64 (256 - speed)) * r5.1.Slack)) + (w64 (speed * (w64 ((w64 (r14 + (w64 ((w64 (16 * accel)) * (w64 (s.Time - f.Last.Time)))))) + 2)))))))] {} (TL.c 186 (filter_up (w64 ((w64 ((w64 (256 - speed)) * r5.1.Slack)) + (w64 (speed * (w64 ((w64 (r14 + (w64 ((w64 (16 * accel)) * (w64 (s.Time - f.Last.Time)))))) + 2)))))) 256) (fun r15 => .i r15) (fun w _ => filter_up_w (w64 ((w64 ((w64 (256 - speed)) * r5.1.Slack)) + (w64 (speed * (w64 ((w64 (r14 + (w64 ((w64 (16 * accel)) * (w64 (s.Time - f.Last.Time)))))) + 2)))))) 256 w) {} (fun r15 hr15 => TL.r 12 [] [(187, .i (w64 (r15 + 2))), (188, .pt b6 13)] {} (TL.s 1 (Bk b6 (FilterTrack.c (⟨⟨r5.1.Track.ID, r5.1.Track.State, r5.1.Track.Time, ⟨r7, r8⟩, ⟨r12, r13⟩, r5.1.Track.Height, r5.1.Track.Rate, w64 (r9 + 2), r5.1.Track.Code, r5.1.Track.Hits, r5.1.Track.Misses⟩, w64 (r15 + 2), r5.1.Last⟩ : FilterTrack)) 48) (fun _ => {}) (TL.next rfl (TC.seq (TC.region (TL.r 9 [5, 6] [(189, .p0 b6), (196, .i (w64 (16 * (w64 (s.Height - f.Last.Height))))), (197, .i (w64 (s.Time - f.Last.Time)))] {} (TL.c 198 (filter_down (w64 (16 * (w64 (s.Height - f.Last.Height)))) (w64 (s.Time - f.Last.Time))) (fun r16 => .i r16) (fun w _ => filter_down_w (w64 (16 * (w64 (s.Height - f.Last.Height)))) (w64 (s.Time - f.Last.Time)) w) {} (fun r16 hr16 => TL.c 199 (num_Between r16 (-3200) 3200) (fun r17 => .i r17) (fun w _ => num_Between_w r16 (-3200) 3200 w) {} (fun r17 hr17 => TL.r 13 [] [(201, .pt b6 8)] {} (TL.s 1 (Bk b6 (FilterTrack.c (⟨⟨r5.1.Track.ID, r5.1.Track.State, r5.1.Track.Time, ⟨r7, r8⟩, ⟨r12, r13⟩, r5.1.Track.Height, r17, w64 (r9 + 2), r5.1.Track.Code, r5.1.Track.Hits, r5.1.Track.Misses⟩, w64 (r15 + 2), r5.1.Last⟩ : FilterTrack)) 48) (fun _ => {}) (TL.next rfl (TC.seq (TC.region (TL.r 5 [5] [(204, .i s.Height), (206, .pt b6 7)] {} (TL.s 1 (Bk b6 (FilterTrack.c (⟨⟨r5.1.Track.ID, r5.1.Track.State, r5.1.Track.Time, ⟨r7, r8⟩, ⟨r12, r13⟩, s.Height, r17, w64 (r9 + 2), r5.1.Track.Code, r5.1.Track.Hits, r5.1.Track.Misses⟩, w64 (r15 + 2), r5.1.Last⟩ : FilterTrack)) 48) (fun _ => {}) (TL.next rfl (TC.seq (TC.seq (TC.region (TL.r 3 [5] [(209, .b (s.Code != (-1)))] {} (TL.next rfl (TC.cond (s.Code != (-1)) rfl Kr (fun h8 => ?_) (fun h8 => ?_))))))))))))))))))))))))))))))))))))))))))))
                  · refine TC.region (TL.r 5 [5] [(212, .i s.Code), (214, .pt b6 10)] {} (TL.s 1 (Bk b6 (FilterTrack.c (⟨⟨r5.1.Track.ID, r5.1.Track.State, r5.1.Track.Time, ⟨r7, r8⟩, ⟨r12, r13⟩, s.Height, r17, w64 (r9 + 2), s.Code, r5.1.Track.Hits, r5.1.Track.Misses⟩, w64 (r15 + 2), r5.1.Last⟩ : FilterTrack)) 48) (fun _ => {}) (TL.next rfl (TC.seq (TC.region (TL.r 7 [1] [(219, .i (w64 (r5.1.Track.Hits + 1))), (221, .pt b6 11)] {} (TL.s 1 (Bk b6 (FilterTrack.c (⟨⟨r5.1.Track.ID, r5.1.Track.State, r5.1.Track.Time, ⟨r7, r8⟩, ⟨r12, r13⟩, s.Height, r17, w64 (r9 + 2), s.Code, w64 (r5.1.Track.Hits + 1), r5.1.Track.Misses⟩, w64 (r15 + 2), r5.1.Last⟩ : FilterTrack)) 48) (fun _ => {}) (TL.next rfl (TC.seq (TC.region (TL.r 3 [] [(224, .pt b6 12)] {} (TL.s 1 (Bk b6 (FilterTrack.c (⟨⟨r5.1.Track.ID, r5.1.Track.State, r5.1.Track.Time, ⟨r7, r8⟩, ⟨r12, r13⟩, s.Height, r17, w64 (r9 + 2), s.Code, w64 (r5.1.Track.Hits + 1), 0⟩, w64 (r15 + 2), r5.1.Last⟩ : FilterTrack)) 48) (fun _ => {}) (TL.next rfl (TC.seq (TC.region (TL.r 2 [5] [(225, Spot.v s), (226, .pt b6 14)] {} (TL.s 1 (Bk b6 (FilterTrack.c (⟨⟨r5.1.Track.ID, r5.1.Track.State, r5.1.Track.Time, ⟨r7, r8⟩, ⟨r12, r13⟩, s.Height, r17, w64 (r9 + 2), s.Code, w64 (r5.1.Track.Hits + 1), 0⟩, w64 (r15 + 2), s⟩ : FilterTrack)) 48) (fun _ => {}) (TL.next rfl (TC.seq (TC.seq (TC.region (TL.r 1 [1] [(227, FilterTrack.v (⟨⟨r5.1.Track.ID, r5.1.Track.State, r5.1.Track.Time, ⟨r7, r8⟩, ⟨r12, r13⟩, s.Height, r17, w64 (r9 + 2), s.Code, w64 (r5.1.Track.Hits + 1), 0⟩, w64 (r15 + 2), s⟩ : FilterTrack))] {} (TL.c 228 (filter_Check (⟨⟨r5.1.Track.ID, r5.1.Track.State, r5.1.Track.Time, ⟨r7, r8⟩, ⟨r12, r13⟩, s.Height, r17, w64 (r9 + 2), s.Code, w64 (r5.1.Track.Hits + 1), 0⟩, w64 (r15 + 2), s⟩ : FilterTrack)) (fun r18 => .i r18) (fun w _ => filter_Check_w (⟨⟨r5.1.Track.ID, r5.1.Track.State, r5.1.Track.Time, ⟨r7, r8⟩, ⟨r12, r13⟩, s.Height, r17, w64 (r9 + 2), s.Code, w64 (r5.1.Track.Hits + 1), 0⟩, w64 (r15 + 2), s⟩ : FilterTrack) w) {} (fun r18 hr18 => TL.r 3 [] [(229, .b (r18 != 0))] {} (TL.next rfl (TC.cond (r18 != 0) rfl Kr (fun h9 => ?_) (fun h9 => ?_)))))))))))))))))))))))))))
                    · refine TC.seq (TC.region (TL.r 1 [3] [(230, FilterTrack.v (⟨⟨0, 0, 0, ⟨0, 0⟩, ⟨0, 0⟩, 0, 0, 0, 0, 0, 0⟩, 0, ⟨0, ⟨0, 0⟩, 0, 0, 0⟩⟩ : FilterTrack))] {} (TL.s 4 (Bk b3 (FilterTrack.c FilterTrack.zero) 48) (fun _ => {}) (TL.r 3 [] [(11, .i 8)] {} (TL.next rfl (TC.ret (TE.ret_then ?_)))))))
                      have e : filter_Update f s accel place speed = ((⟨⟨0, 0, 0, ⟨0, 0⟩, ⟨0, 0⟩, 0, 0, 0, 0, 0, 0⟩, 0, ⟨0, ⟨0, 0⟩, 0, 0, 0⟩⟩ : FilterTrack), 8) := by subst hr1 hr2 hr3 hr4 hr5 hr6 hr7 hr8 hr9 hr10 hr11 hr12 hr13 hr14 hr15 hr16 hr17 hr18; unfold filter_Update; exact cond_f h1 (cond_f h2 (cond_f h3 (cond_f h4 (cond_f h5 (cond_f h6 (cond_f h7 (cond_t h8 (cond_t h9 (rfl)))))))))
                      exact TE.ret [4] (.tuple #[FilterTrack.v (⟨⟨0, 0, 0, ⟨0, 0⟩, ⟨0, 0⟩, 0, 0, 0, 0, 0, 0⟩, 0, ⟨0, ⟨0, 0⟩, 0, 0, 0⟩⟩ : FilterTrack), .i 8]) {} (by rw [e]; first | done | kernel_rfl)
                    · refine TC.skip (TE.next (TC.seq (TC.region (TL.r 1 [1] [(231, FilterTrack.v (⟨⟨r5.1.Track.ID, r5.1.Track.State, r5.1.Track.Time, ⟨r7, r8⟩, ⟨r12, r13⟩, s.Height, r17, w64 (r9 + 2), s.Code, w64 (r5.1.Track.Hits + 1), 0⟩, w64 (r15 + 2), s⟩ : FilterTrack))] {} (TL.s 4 (Bk b3 (FilterTrack.c (⟨⟨r5.1.Track.ID, r5.1.Track.State, r5.1.Track.Time, ⟨r7, r8⟩, ⟨r12, r13⟩, s.Height, r17, w64 (r9 + 2), s.Code, w64 (r5.1.Track.Hits + 1), 0⟩, w64 (r15 + 2), s⟩ : FilterTrack)) 48) (fun _ => {}) (TL.r 3 [] [(11, .i 0)] {} (TL.next rfl (TC.ret ?_))))))))
                      have e : filter_Update f s accel place speed = ((⟨⟨r5.1.Track.ID, r5.1.Track.State, r5.1.Track.Time, ⟨r7, r8⟩, ⟨r12, r13⟩, s.Height, r17, w64 (r9 + 2), s.Code, w64 (r5.1.Track.Hits + 1), 0⟩, w64 (r15 + 2), s⟩ : FilterTrack), 0) := by subst hr1 hr2 hr3 hr4 hr5 hr6 hr7 hr8 hr9 hr10 hr11 hr12 hr13 hr14 hr15 hr16 hr17 hr18; unfold filter_Update; exact cond_f h1 (cond_f h2 (cond_f h3 (cond_f h4 (cond_f h5 (cond_f h6 (cond_f h7 (cond_t h8 (cond_f h9 (rfl)))))))))
                      exact TE.ret [4] (.tuple #[FilterTrack.v (⟨⟨r5.1.Track.ID, r5.1.Track.State, r5.1.Track.Time, ⟨r7, r8⟩, ⟨r12, r13⟩, s.Height, r17, w64 (r9 + 2), s.Code, w64 (r5.1.Track.Hits + 1), 0⟩, w64 (r15 + 2), s⟩ : FilterTrack), .i 0]) {} (by rw [e]; first | done | kernel_rfl)
                  · refine TC.skip (TE.next (TC.seq (TC.region (TL.r 7 [1] [(219, .i (w64 (r5.1.Track.Hits + 1))), (221, .pt b6 11)] {} (TL.s 1 (Bk b6 (FilterTrack.c (⟨⟨r5.1.Track.ID, r5.1.Track.State, r5.1.Track.Time, ⟨r7, r8⟩, ⟨r12, r13⟩, s.Height, r17, w64 (r9 + 2), r5.1.Track.Code, w64 (r5.1.Track.Hits + 1), r5.1.Track.Misses⟩, w64 (r15 + 2), r5.1.Last⟩ : FilterTrack)) 48) (fun _ => {}) (TL.next rfl (TC.seq (TC.region (TL.r 3 [] [(224, .pt b6 12)] {} (TL.s 1 (Bk b6 (FilterTrack.c (⟨⟨r5.1.Track.ID, r5.1.Track.State, r5.1.Track.Time, ⟨r7, r8⟩, ⟨r12, r13⟩, s.Height, r17, w64 (r9 + 2), r5.1.Track.Code, w64 (r5.1.Track.Hits + 1), 0⟩, w64 (r15 + 2), r5.1.Last⟩ : FilterTrack)) 48) (fun _ => {}) (TL.next rfl (TC.seq (TC.region (TL.r 2 [5] [(225, Spot.v s), (226, .pt b6 14)] {} (TL.s 1 (Bk b6 (FilterTrack.c (⟨⟨r5.1.Track.ID, r5.1.Track.State, r5.1.Track.Time, ⟨r7, r8⟩, ⟨r12, r13⟩, s.Height, r17, w64 (r9 + 2), r5.1.Track.Code, w64 (r5.1.Track.Hits + 1), 0⟩, w64 (r15 + 2), s⟩ : FilterTrack)) 48) (fun _ => {}) (TL.next rfl (TC.seq (TC.seq (TC.region (TL.r 1 [1] [(227, FilterTrack.v (⟨⟨r5.1.Track.ID, r5.1.Track.State, r5.1.Track.Time, ⟨r7, r8⟩, ⟨r12, r13⟩, s.Height, r17, w64 (r9 + 2), r5.1.Track.Code, w64 (r5.1.Track.Hits + 1), 0⟩, w64 (r15 + 2), s⟩ : FilterTrack))] {} (TL.c 228 (filter_Check (⟨⟨r5.1.Track.ID, r5.1.Track.State, r5.1.Track.Time, ⟨r7, r8⟩, ⟨r12, r13⟩, s.Height, r17, w64 (r9 + 2), r5.1.Track.Code, w64 (r5.1.Track.Hits + 1), 0⟩, w64 (r15 + 2), s⟩ : FilterTrack)) (fun r19 => .i r19) (fun w _ => filter_Check_w (⟨⟨r5.1.Track.ID, r5.1.Track.State, r5.1.Track.Time, ⟨r7, r8⟩, ⟨r12, r13⟩, s.Height, r17, w64 (r9 + 2), r5.1.Track.Code, w64 (r5.1.Track.Hits + 1), 0⟩, w64 (r15 + 2), s⟩ : FilterTrack) w) {} (fun r19 hr19 => TL.r 3 [] [(229, .b (r19 != 0))] {} (TL.next rfl (TC.cond (r19 != 0) rfl Kr (fun h10 => ?_) (fun h10 => ?_)))))))))))))))))))))))))
                    · refine TC.seq (TC.region (TL.r 1 [3] [(230, FilterTrack.v (⟨⟨0, 0, 0, ⟨0, 0⟩, ⟨0, 0⟩, 0, 0, 0, 0, 0, 0⟩, 0, ⟨0, ⟨0, 0⟩, 0, 0, 0⟩⟩ : FilterTrack))] {} (TL.s 4 (Bk b3 (FilterTrack.c FilterTrack.zero) 48) (fun _ => {}) (TL.r 3 [] [(11, .i 8)] {} (TL.next rfl (TC.ret (TE.ret_then ?_)))))))
                      have e : filter_Update f s accel place speed = ((⟨⟨0, 0, 0, ⟨0, 0⟩, ⟨0, 0⟩, 0, 0, 0, 0, 0, 0⟩, 0, ⟨0, ⟨0, 0⟩, 0, 0, 0⟩⟩ : FilterTrack), 8) := by subst hr1 hr2 hr3 hr4 hr5 hr6 hr7 hr8 hr9 hr10 hr11 hr12 hr13 hr14 hr15 hr16 hr17 hr19; unfold filter_Update; exact cond_f h1 (cond_f h2 (cond_f h3 (cond_f h4 (cond_f h5 (cond_f h6 (cond_f h7 (cond_f h8 (cond_t h10 (rfl)))))))))
                      exact TE.ret [4] (.tuple #[FilterTrack.v (⟨⟨0, 0, 0, ⟨0, 0⟩, ⟨0, 0⟩, 0, 0, 0, 0, 0, 0⟩, 0, ⟨0, ⟨0, 0⟩, 0, 0, 0⟩⟩ : FilterTrack), .i 8]) {} (by rw [e]; first | done | kernel_rfl)
                    · refine TC.skip (TE.next (TC.seq (TC.region (TL.r 1 [1] [(231, FilterTrack.v (⟨⟨r5.1.Track.ID, r5.1.Track.State, r5.1.Track.Time, ⟨r7, r8⟩, ⟨r12, r13⟩, s.Height, r17, w64 (r9 + 2), r5.1.Track.Code, w64 (r5.1.Track.Hits + 1), 0⟩, w64 (r15 + 2), s⟩ : FilterTrack))] {} (TL.s 4 (Bk b3 (FilterTrack.c (⟨⟨r5.1.Track.ID, r5.1.Track.State, r5.1.Track.Time, ⟨r7, r8⟩, ⟨r12, r13⟩, s.Height, r17, w64 (r9 + 2), r5.1.Track.Code, w64 (r5.1.Track.Hits + 1), 0⟩, w64 (r15 + 2), s⟩ : FilterTrack)) 48) (fun _ => {}) (TL.r 3 [] [(11, .i 0)] {} (TL.next rfl (TC.ret ?_))))))))
                      have e : filter_Update f s accel place speed = ((⟨⟨r5.1.Track.ID, r5.1.Track.State, r5.1.Track.Time, ⟨r7, r8⟩, ⟨r12, r13⟩, s.Height, r17, w64 (r9 + 2), r5.1.Track.Code, w64 (r5.1.Track.Hits + 1), 0⟩, w64 (r15 + 2), s⟩ : FilterTrack), 0) := by subst hr1 hr2 hr3 hr4 hr5 hr6 hr7 hr8 hr9 hr10 hr11 hr12 hr13 hr14 hr15 hr16 hr17 hr19; unfold filter_Update; exact cond_f h1 (cond_f h2 (cond_f h3 (cond_f h4 (cond_f h5 (cond_f h6 (cond_f h7 (cond_f h8 (cond_f h10 (rfl)))))))))
                      exact TE.ret [4] (.tuple #[FilterTrack.v (⟨⟨r5.1.Track.ID, r5.1.Track.State, r5.1.Track.Time, ⟨r7, r8⟩, ⟨r12, r13⟩, s.Height, r17, w64 (r9 + 2), r5.1.Track.Code, w64 (r5.1.Track.Hits + 1), 0⟩, w64 (r15 + 2), s⟩ : FilterTrack), .i 0]) {} (by rw [e]; first | done | kernel_rfl)

end Go.Sky
