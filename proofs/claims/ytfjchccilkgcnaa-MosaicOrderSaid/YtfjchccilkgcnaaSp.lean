/- Functions of the program, each with the Lean function that it computes. Conditions: none. -/
import Derived.Test.YtfjchccilkgcnaaSa
namespace Go.Sky
open Go Go.Eng Go.Proofs
def mosaic_Compare (a : Plot) (b_ : Plot) : Int :=
  let r1 := cmp_Compare_int a.Time b_.Time
  let r2 := cmp_Compare_int a.Radar b_.Radar
  let r3 := cmp_Compare_int a.Range b_.Range
  let r4 := cmp_Compare_int a.Azimuth b_.Azimuth
  let r5 := cmp_Compare_int a.Height b_.Height
  let r6 := cmp_Compare_int a.Code b_.Code
  let r7 := cmp_Or_int ([r1, r2, r3, r4, r5, r6])
  r7

set_option maxRecDepth 100000 in
theorem mosaic_Compare_w (a : Plot) (b_ : Plot) (w : World) : Calls Try.prog 33 #[Plot.v a, Plot.v b_] w (Ret w (.int .i64 (mosaic_Compare a b_))) := by
  refine calls_intro (vs := [Plot.v a, Plot.v b_]) (w := w) Try.func33 rfl Try.ntmps33 rfl ?_
  refine TC.weak [(0, Plot.v a), (1, Plot.v b_)] (by kernel_rfl) ?_
  refine TC.seq ?_
  refine TC.region ?_
  refine TL.write 0 (fun b1 => [(1, Plot.v b_), (2, .pointer (some ⟨b1, 0, none⟩))]) (fun b1 => [.inl (b1, .cells (Plot.c a) 58 (0, 0))]) (fun b1 => ⟨by kernel_rfl, by kernel_rfl⟩) (fun b1 => ?_)
  refine TL.write 0 (fun b2 => [(2, .pointer (some ⟨b1, 0, none⟩)), (3, .pointer (some ⟨b2, 0, none⟩))]) (fun b2 => [.inl (b2, .cells (Plot.c b_) 58 (0, 0)), .inl (b1, .cells (Plot.c a) 58 (0, 0))]) (fun b2 => ⟨by kernel_rfl, by kernel_rfl⟩) (fun b2 => ?_)
  refine TL.run 3 [] [(2, .pointer (some ⟨b1, 0, none⟩)), (3, .pointer (some ⟨b2, 0, none⟩))] rfl ⟨by kernel_rfl, by kernel_rfl⟩ ?_
  refine TL.next rfl ?_
  refine TC.seq ?_
  refine TC.drawTail 30 (by kernel_rfl) (by kernel_rfl) ?_
  refine TQ.run 4 [1, 0] [(2, .pointer (some ⟨b1, 0, none⟩)), (3, .pointer (some ⟨b2, 0, none⟩)), (6, .int .i64 a.Time), (8, .int .i64 b_.Time)] rfl ⟨by kernel_rfl, by kernel_rfl⟩ ?_
  refine TQ.call (some 9) [(2, .pointer (some ⟨b1, 0, none⟩)), (3, .pointer (some ⟨b2, 0, none⟩)), (9, .int .i64 (cmp_Compare_int a.Time b_.Time))] (fun w _ => cmp_Compare_int_w a.Time b_.Time w) rfl (by kernel_rfl) (by kernel_rfl) ?_
  generalize hr1 : cmp_Compare_int a.Time b_.Time = r1
  refine TQ.run 9 [1, 0] [(2, .pointer (some ⟨b1, 0, none⟩)), (3, .pointer (some ⟨b2, 0, none⟩)), (9, .int .i64 r1), (11, .int .i64 a.Radar), (13, .int .i64 b_.Radar)] rfl ⟨by kernel_rfl, by kernel_rfl⟩ ?_
  refine TQ.call (some 14) [(2, .pointer (some ⟨b1, 0, none⟩)), (3, .pointer (some ⟨b2, 0, none⟩)), (9, .int .i64 r1), (14, .int .i64 (cmp_Compare_int a.Radar b_.Radar))] (fun w _ => cmp_Compare_int_w a.Radar b_.Radar w) rfl (by kernel_rfl) (by kernel_rfl) ?_
  generalize hr2 : cmp_Compare_int a.Radar b_.Radar = r2
  refine TQ.run 14 [1, 0] [(2, .pointer (some ⟨b1, 0, none⟩)), (3, .pointer (some ⟨b2, 0, none⟩)), (9, .int .i64 r1), (14, .int .i64 r2), (16, .int .i64 a.Range), (18, .int .i64 b_.Range)] rfl ⟨by kernel_rfl, by kernel_rfl⟩ ?_
  refine TQ.call (some 19) [(2, .pointer (some ⟨b1, 0, none⟩)), (3, .pointer (some ⟨b2, 0, none⟩)), (9, .int .i64 r1), (14, .int .i64 r2), (19, .int .i64 (cmp_Compare_int a.Range b_.Range))] (fun w _ => cmp_Compare_int_w a.Range b_.Range w) rfl (by kernel_rfl) (by kernel_rfl) ?_
  generalize hr3 : cmp_Compare_int a.Range b_.Range = r3
  refine TQ.run 19 [1, 0] [(2, .pointer (some ⟨b1, 0, none⟩)), (3, .pointer (some ⟨b2, 0, none⟩)), (9, .int .i64 r1), (14, .int .i64 r2), (19, .int .i64 r3), (21, .int .i64 a.Azimuth), (23, .int .i64 b_.Azimuth)] rfl ⟨by kernel_rfl, by kernel_rfl⟩ ?_
  refine TQ.call (some 24) [(2, .pointer (some ⟨b1, 0, none⟩)), (3, .pointer (some ⟨b2, 0, none⟩)), (9, .int .i64 r1), (14, .int .i64 r2), (19, .int .i64 r3), (24, .int .i64 (cmp_Compare_int a.Azimuth b_.Azimuth))] (fun w _ => cmp_Compare_int_w a.Azimuth b_.Azimuth w) rfl (by kernel_rfl) (by kernel_rfl) ?_
  generalize hr4 : cmp_Compare_int a.Azimuth b_.Azimuth = r4
  refine TQ.run 24 [1, 0] [(2, .pointer (some ⟨b1, 0, none⟩)), (3, .pointer (some ⟨b2, 0, none⟩)), (9, .int .i64 r1), (14, .int .i64 r2), (19, .int .i64 r3), (24, .int .i64 r4), (26, .int .i64 a.Height), (28, .int .i64 b_.Height)] rfl ⟨by kernel_rfl, by kernel_rfl⟩ ?_
  refine TQ.call (some 29) [(2, .pointer (some ⟨b1, 0, none⟩)), (3, .pointer (some ⟨b2, 0, none⟩)), (9, .int .i64 r1), (14, .int .i64 r2), (19, .int .i64 r3), (24, .int .i64 r4), (29, .int .i64 (cmp_Compare_int a.Height b_.Height))] (fun w _ => cmp_Compare_int_w a.Height b_.Height w) rfl (by kernel_rfl) (by kernel_rfl) ?_
  generalize hr5 : cmp_Compare_int a.Height b_.Height = r5
  refine TQ.run 29 [1, 0] [(9, .int .i64 r1), (14, .int .i64 r2), (19, .int .i64 r3), (24, .int .i64 r4), (29, .int .i64 r5), (31, .int .i64 a.Code), (33, .int .i64 b_.Code)] rfl ⟨by kernel_rfl, by kernel_rfl⟩ ?_
  refine TQ.call (some 34) [(9, .int .i64 r1), (14, .int .i64 r2), (19, .int .i64 r3), (24, .int .i64 r4), (29, .int .i64 r5), (34, .int .i64 (cmp_Compare_int a.Code b_.Code))] (fun w _ => cmp_Compare_int_w a.Code b_.Code w) rfl (by kernel_rfl) (by kernel_rfl) ?_
  generalize hr6 : cmp_Compare_int a.Code b_.Code = r6
  refine TQ.tail rfl ?_
  refine TL.write 0 (fun b3 => [(35, .slice (some ⟨b3, 0, none⟩) 6 6)]) (fun b3 => [.inl (b3, .cells #[.int .i64 r1, .int .i64 r2, .int .i64 r3, .int .i64 r4, .int .i64 r5, .int .i64 r6] 3 (0, 0)), .inl (b2, .cells (Plot.c b_) 58 (0, 0)), .inl (b1, .cells (Plot.c a) 58 (0, 0))]) (fun b3 => ⟨by kernel_rfl, by kernel_rfl⟩) (fun b3 => ?_)
  refine TL.call (some 36) [(36, .int .i64 (cmp_Or_int ([r1, r2, r3, r4, r5, r6])))] (fun w hM => cmp_Or_int_w (some ⟨b3, 0, none⟩) 6 ([r1, r2, r3, r4, r5, r6]) w (Rd.lit hM 0 _ rfl (by kernel_rfl) (by kernel_rfl) (by kernel_rfl)) (Nat.le_refl _)) (by kernel_rfl) (by kernel_rfl) ?_
  generalize hr7 : cmp_Or_int ([r1, r2, r3, r4, r5, r6]) = r7
  refine TL.run 33 [] [(4, .int .i64 r7)] rfl ⟨by kernel_rfl, by kernel_rfl⟩ ?_
  refine TL.next rfl ?_
  refine TC.ret ?_
  have e : mosaic_Compare a b_ = r7 := by subst hr1 hr2 hr3 hr4 hr5 hr6 hr7; unfold mosaic_Compare; exact rfl
  exact TE.ret [] (.int .i64 r7) ⟨by kernel_rfl, by kernel_rfl⟩ (by rw [e]; first | done | kernel_rfl)

end Go.Sky
