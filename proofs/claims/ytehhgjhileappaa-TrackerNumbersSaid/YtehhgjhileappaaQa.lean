/- Functions of the program, each with the Lean function that it computes. Conditions: none. -/
import Derived.Test.YtehhgjhileappaaSa
namespace Go.Sky
open Go Go.Eng Go.Proofs
def fuse_Compare (a : Spot) (b_ : Spot) : Int :=
  let r1 := cmp_Compare_int a.Time b_.Time
  let r2 := cmp_Compare_int a.Error b_.Error
  let r3 := cmp_Compare_int a.At.X b_.At.X
  let r4 := cmp_Compare_int a.At.Y b_.At.Y
  let r5 := cmp_Compare_int a.Height b_.Height
  let r6 := cmp_Compare_int a.Code b_.Code
  let r7 := cmp_Or_int ([r1, r2, r3, r4, r5, r6])
  r7

set_option maxRecDepth 100000 in
theorem fuse_Compare_w (a : Spot) (b_ : Spot) (w : World) : Calls Try.prog 43 #[Spot.v a, Spot.v b_] w (Ret w (.int .i64 (fuse_Compare a b_))) := by
  refine calls_intro (vs := [Spot.v a, Spot.v b_]) (w := w) Try.func43 rfl Try.ntmps43 rfl (TC.weak [(0, Spot.v a), (1, Spot.v b_)] Kr (TC.seq (TC.region (TL.nw 2 (fun b1 => .p0 b1) (fun b1 => Bk b1 (Spot.c a) 36) (fun b1 => {}) (fun b1 => TL.nw 3 (fun b2 => .p0 b2) (fun b2 => Bk b2 (Spot.c b_) 36) (fun b2 => {}) (fun b2 => TL.r 3 [] [(4, .i 0)] {} (TL.next rfl (TC.seq (TC.drawTail 34 Kr Kr (TQ.r 4 [1, 0] [(6, .i a.Time), (8, .i b_.Time)] {} (TQ.c 9 (cmp_Compare_int a.Time b_.Time) (fun r1 => .i r1) (fun w _ => cmp_Compare_int_w a.Time b_.Time w) rfl {} (fun r1 hr1 => TQ.r 9 [1, 0] [(11, .i a.Error), (13, .i b_.Error)] {} (TQ.c 14 (cmp_Compare_int a.Error b_.Error) (fun r2 => .i r2) (fun w _ => cmp_Compare_int_w a.Error b_.Error w) rfl {} (fun r2 hr2 => TQ.r 16 [1, 0] [(17, .i a.At.X), (20, .i b_.At.X)] {} (TQ.c 21 (cmp_Compare_int a.At.X b_.At.X) (fun r3 => .i r3) (fun w _ => cmp_Compare_int_w a.At.X b_.At.X w) rfl {} (fun r3 hr3 => TQ.r 23 [1, 0] [(24, .i a.At.Y), (27, .i b_.At.Y)] {} (TQ.c 28 (cmp_Compare_int a.At.Y b_.At.Y) (fun r4 => .i r4) (fun w _ => cmp_Compare_int_w a.At.Y b_.At.Y w) rfl {} (fun r4 hr4 => TQ.r 28 [1, 0] [(30, .i a.Height), (32, .i b_.Height)] {} (TQ.c 33 (cmp_Compare_int a.Height b_.Height) (fun r5 => .i r5) (fun w _ => cmp_Compare_int_w a.Height b_.Height w) rfl {} (fun r5 hr5 => TQ.r 33 [1, 0] [(35, .i a.Code), (37, .i b_.Code)] {} (TQ.c 38 (cmp_Compare_int a.Code b_.Code) (fun r6 => .i r6) (fun w _ => cmp_Compare_int_w a.Code b_.Code w) rfl {} (fun r6 hr6 => TQ.tail rfl (TL.nw 39 (fun b3 => .slice (Pa b3) 6 6) (fun b3 => Bk b3 #[.i r1, .i r2, .i r3, .i r4, .i r5, .i r6] 3) (fun b3 => {}) (fun b3 => TL.c 40 (cmp_Or_int ([r1, r2, r3, r4, r5, r6])) (fun r7 => .i r7) (fun w hM => cmp_Or_int_w (Pa b3) 6 ([r1, r2, r3, r4, r5, r6]) w (Rd.lit hM 0 _ rfl Kr Kr Kr) (Nat.le_refl _)) {} (fun r7 hr7 => TL.r 37 [] [(4, .i r7)] {} (TL.next rfl (TC.ret ?_)))))))))))))))))))))))))))
  have e : fuse_Compare a b_ = r7 := by subst hr1 hr2 hr3 hr4 hr5 hr6 hr7; unfold fuse_Compare; exact rfl
  exact TE.ret [] (.i r7) {} (by rw [e]; first | done | kernel_rfl)

end Go.Sky
