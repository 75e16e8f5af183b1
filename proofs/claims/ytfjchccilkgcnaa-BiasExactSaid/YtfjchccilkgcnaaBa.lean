/- Functions of the program, each with the Lean function that it computes. Conditions: none. -/
import Derived.Test.YtfjchccilkgcnaaRows
import Derived.Test.YtfjchccilkgcnaaEqb
import Derived.Test.YtfjchccilkgcnaaFct
import Derived.Test.YtfjchccilkgcnaaFacts
import Derived.Test.YtfjchccilkgcnaaStr
namespace Go.Sky
open Go Go.Eng Go.Proofs
def radar_out (n : Int) (low : Int) (high : Int) : Bool :=
  (decide (n < low)) || (decide (n > high))

set_option maxRecDepth 100000 in
theorem radar_out_w (n : Int) (low : Int) (high : Int) (w : World) : Calls Try.prog 63 #[.int .i64 n, .int .i64 low, .int .i64 high] w (Ret w (.bool (radar_out n low high))) := by
  refine calls_intro (vs := [.int .i64 n, .int .i64 low, .int .i64 high]) (w := w) Try.func63 rfl Try.ntmps63 rfl ?_
  refine TC.weak [(0, .int .i64 n), (1, .int .i64 low), (2, .int .i64 high)] (by kernel_rfl) ?_
  refine TC.seq ?_
  refine TC.region ?_
  refine TL.run 1 [] [(0, .int .i64 n), (1, .int .i64 low), (2, .int .i64 high)] rfl ⟨by kernel_rfl, by kernel_rfl⟩ ?_
  refine TL.next rfl ?_
  refine TC.seq ?_
  refine TC.region ?_
  refine TL.run 4 [] [(0, .int .i64 n), (2, .int .i64 high), (10, .bool (decide (n < low)))] rfl ⟨by kernel_rfl, by kernel_rfl⟩ ?_
  refine TL.join 10 (decide (n < low)) 8 [] [] (fun β => [(14, .bool (β || (decide (n > high))))]) (by kernel_rfl) rfl ⟨by kernel_rfl, by kernel_rfl⟩ ⟨by kernel_rfl, by kernel_rfl⟩ ?_
  refine TL.run 9 [] [(6, .bool ((decide (n < low)) || (decide (n > high))))] rfl ⟨by kernel_rfl, by kernel_rfl⟩ ?_
  refine TL.next rfl ?_
  refine TC.ret ?_
  have e : radar_out n low high = ((decide (n < low)) || (decide (n > high))) := by unfold radar_out; exact rfl
  exact TE.ret [] (.bool ((decide (n < low)) || (decide (n > high)))) ⟨by kernel_rfl, by kernel_rfl⟩ (by rw [e]; first | done | kernel_rfl)

def radar_CheckPlot (p : Plot) : Int :=
  let r1 := radar_out p.Radar 0 255
  cond r1 (
    4) (
    let r2 := radar_out p.Time 0 200000
    cond r2 (
      4) (
      let r3 := radar_out p.Range 0 2000000
      cond r3 (
        4) (
        let r4 := radar_out p.Azimuth 0 4095
        cond r4 (
          4) (
          let r5 := radar_out p.Height 0 60000
          cond r5 (
            4) (
            let r6 := radar_out p.Code (-1) 4095
            cond r6 (
              4) (
              0))))))

set_option maxRecDepth 100000 in
theorem radar_CheckPlot_w (p : Plot) (w : World) : Calls Try.prog 30 #[Plot.v p] w (Ret w (.int .i64 (radar_CheckPlot p))) := by
  refine calls_intro (vs := [Plot.v p]) (w := w) Try.func30 rfl Try.ntmps30 rfl ?_
  refine TC.weak [(0, Plot.v p)] (by kernel_rfl) ?_
  refine TC.seq ?_
  refine TC.region ?_
  refine TL.write 0 (fun b1 => [(1, .pointer (some ⟨b1, 0, none⟩))]) (fun b1 => [.inl (b1, .cells (Plot.c p) 58 (0, 0))]) (fun b1 => ⟨by kernel_rfl, by kernel_rfl⟩) (fun b1 => ?_)
  refine TL.run 2 [] [(1, .pointer (some ⟨b1, 0, none⟩))] rfl ⟨by kernel_rfl, by kernel_rfl⟩ ?_
  refine TL.next rfl ?_
  refine TC.seq ?_
  refine TC.seq ?_
  refine TC.region ?_
  refine TL.run 2 [0] [(1, .pointer (some ⟨b1, 0, none⟩)), (4, .int .i64 p.Radar)] rfl ⟨by kernel_rfl, by kernel_rfl⟩ ?_
  refine TL.call (some 5) [(1, .pointer (some ⟨b1, 0, none⟩)), (5, .bool ((radar_out p.Radar 0 255)))] (fun w _ => radar_out_w p.Radar 0 255 w) (by kernel_rfl) (by kernel_rfl) ?_
  generalize hr1 : radar_out p.Radar 0 255 = r1
  refine TL.run 4 [] [(1, .pointer (some ⟨b1, 0, none⟩)), (6, .bool r1)] rfl ⟨by kernel_rfl, by kernel_rfl⟩ ?_
  refine TL.split 6 r1 (by kernel_rfl) (fun h1 => ?_) (fun h1 => ?_)
  · refine TL.run 28 [] [(30, .bool true)] rfl ⟨by kernel_rfl, by kernel_rfl⟩ ?_
    refine TL.next rfl ?_
    refine TC.condT rfl (by kernel_rfl) ?_
    refine TC.seq ?_
    refine TC.region ?_
    refine TL.run 1 [] [(2, .int .i64 4)] rfl ⟨by kernel_rfl, by kernel_rfl⟩ ?_
    refine TL.next rfl ?_
    refine TC.ret ?_
    refine TE.ret_then ?_
    have e : radar_CheckPlot p = 4 := by subst hr1; unfold radar_CheckPlot; exact cond_t h1 (rfl)
    exact TE.ret [] (.int .i64 4) ⟨by kernel_rfl, by kernel_rfl⟩ (by rw [e]; first | done | kernel_rfl)
  · refine TL.run 6 [0] [(1, .pointer (some ⟨b1, 0, none⟩)), (6, .bool false), (8, .int .i64 p.Time)] rfl ⟨by kernel_rfl, by kernel_rfl⟩ ?_
    refine TL.call (some 9) [(1, .pointer (some ⟨b1, 0, none⟩)), (6, .bool false), (9, .bool ((radar_out p.Time 0 200000)))] (fun w _ => radar_out_w p.Time 0 200000 w) (by kernel_rfl) (by kernel_rfl) ?_
    generalize hr2 : radar_out p.Time 0 200000 = r2
    refine TL.run 9 [] [(1, .pointer (some ⟨b1, 0, none⟩)), (11, .bool r2)] rfl ⟨by kernel_rfl, by kernel_rfl⟩ ?_
    refine TL.split 11 r2 (by kernel_rfl) (fun h2 => ?_) (fun h2 => ?_)
    · refine TL.run 28 [] [(30, .bool true)] rfl ⟨by kernel_rfl, by kernel_rfl⟩ ?_
      refine TL.next rfl ?_
      refine TC.condT rfl (by kernel_rfl) ?_
      refine TC.seq ?_
      refine TC.region ?_
      refine TL.run 1 [] [(2, .int .i64 4)] rfl ⟨by kernel_rfl, by kernel_rfl⟩ ?_
      refine TL.next rfl ?_
      refine TC.ret ?_
      refine TE.ret_then ?_
      have e : radar_CheckPlot p = 4 := by subst hr1 hr2; unfold radar_CheckPlot; exact cond_f h1 (cond_t h2 (rfl))
      exact TE.ret [] (.int .i64 4) ⟨by kernel_rfl, by kernel_rfl⟩ (by rw [e]; first | done | kernel_rfl)
    · refine TL.run 11 [0] [(1, .pointer (some ⟨b1, 0, none⟩)), (11, .bool false), (13, .int .i64 p.Range)] rfl ⟨by kernel_rfl, by kernel_rfl⟩ ?_
      refine TL.call (some 14) [(1, .pointer (some ⟨b1, 0, none⟩)), (11, .bool false), (14, .bool ((radar_out p.Range 0 2000000)))] (fun w _ => radar_out_w p.Range 0 2000000 w) (by kernel_rfl) (by kernel_rfl) ?_
      generalize hr3 : radar_out p.Range 0 2000000 = r3
      refine TL.run 14 [] [(1, .pointer (some ⟨b1, 0, none⟩)), (16, .bool r3)] rfl ⟨by kernel_rfl, by kernel_rfl⟩ ?_
      refine TL.split 16 r3 (by kernel_rfl) (fun h3 => ?_) (fun h3 => ?_)
      · refine TL.run 28 [] [(30, .bool true)] rfl ⟨by kernel_rfl, by kernel_rfl⟩ ?_
        refine TL.next rfl ?_
        refine TC.condT rfl (by kernel_rfl) ?_
        refine TC.seq ?_
        refine TC.region ?_
        refine TL.run 1 [] [(2, .int .i64 4)] rfl ⟨by kernel_rfl, by kernel_rfl⟩ ?_
        refine TL.next rfl ?_
        refine TC.ret ?_
        refine TE.ret_then ?_
        have e : radar_CheckPlot p = 4 := by subst hr1 hr2 hr3; unfold radar_CheckPlot; exact cond_f h1 (cond_f h2 (cond_t h3 (rfl)))
        exact TE.ret [] (.int .i64 4) ⟨by kernel_rfl, by kernel_rfl⟩ (by rw [e]; first | done | kernel_rfl)
      · refine TL.run 16 [0] [(1, .pointer (some ⟨b1, 0, none⟩)), (16, .bool false), (18, .int .i64 p.Azimuth)] rfl ⟨by kernel_rfl, by kernel_rfl⟩ ?_
        refine TL.call (some 19) [(1, .pointer (some ⟨b1, 0, none⟩)), (16, .bool false), (19, .bool ((radar_out p.Azimuth 0 4095)))] (fun w _ => radar_out_w p.Azimuth 0 4095 w) (by kernel_rfl) (by kernel_rfl) ?_
        generalize hr4 : radar_out p.Azimuth 0 4095 = r4
        refine TL.run 19 [] [(1, .pointer (some ⟨b1, 0, none⟩)), (21, .bool r4)] rfl ⟨by kernel_rfl, by kernel_rfl⟩ ?_
        refine TL.split 21 r4 (by kernel_rfl) (fun h4 => ?_) (fun h4 => ?_)
        · refine TL.run 28 [] [(30, .bool true)] rfl ⟨by kernel_rfl, by kernel_rfl⟩ ?_
          refine TL.next rfl ?_
          refine TC.condT rfl (by kernel_rfl) ?_
          refine TC.seq ?_
          refine TC.region ?_
          refine TL.run 1 [] [(2, .int .i64 4)] rfl ⟨by kernel_rfl, by kernel_rfl⟩ ?_
          refine TL.next rfl ?_
          refine TC.ret ?_
          refine TE.ret_then ?_
          have e : radar_CheckPlot p = 4 := by subst hr1 hr2 hr3 hr4; unfold radar_CheckPlot; exact cond_f h1 (cond_f h2 (cond_f h3 (cond_t h4 (rfl))))
          exact TE.ret [] (.int .i64 4) ⟨by kernel_rfl, by kernel_rfl⟩ (by rw [e]; first | done | kernel_rfl)
        · refine TL.run 21 [0] [(1, .pointer (some ⟨b1, 0, none⟩)), (21, .bool false), (23, .int .i64 p.Height)] rfl ⟨by kernel_rfl, by kernel_rfl⟩ ?_
          refine TL.call (some 24) [(1, .pointer (some ⟨b1, 0, none⟩)), (21, .bool false), (24, .bool ((radar_out p.Height 0 60000)))] (fun w _ => radar_out_w p.Height 0 60000 w) (by kernel_rfl) (by kernel_rfl) ?_
          generalize hr5 : radar_out p.Height 0 60000 = r5
          refine TL.run 24 [] [(1, .pointer (some ⟨b1, 0, none⟩)), (26, .bool r5)] rfl ⟨by kernel_rfl, by kernel_rfl⟩ ?_
          refine TL.split 26 r5 (by kernel_rfl) (fun h5 => ?_) (fun h5 => ?_)
          · refine TL.run 28 [] [(30, .bool true)] rfl ⟨by kernel_rfl, by kernel_rfl⟩ ?_
            refine TL.next rfl ?_
            refine TC.condT rfl (by kernel_rfl) ?_
            refine TC.seq ?_
            refine TC.region ?_
            refine TL.run 1 [] [(2, .int .i64 4)] rfl ⟨by kernel_rfl, by kernel_rfl⟩ ?_
            refine TL.next rfl ?_
            refine TC.ret ?_
            refine TE.ret_then ?_
            have e : radar_CheckPlot p = 4 := by subst hr1 hr2 hr3 hr4 hr5; unfold radar_CheckPlot; exact cond_f h1 (cond_f h2 (cond_f h3 (cond_f h4 (cond_t h5 (rfl)))))
            exact TE.ret [] (.int .i64 4) ⟨by kernel_rfl, by kernel_rfl⟩ (by rw [e]; first | done | kernel_rfl)
          · refine TL.run 26 [0] [(26, .bool false), (28, .int .i64 p.Code)] rfl ⟨by kernel_rfl, by kernel_rfl⟩ ?_
            refine TL.call (some 29) [(26, .bool false), (29, .bool ((radar_out p.Code (-1) 4095)))] (fun w _ => radar_out_w p.Code (-1) 4095 w) (by kernel_rfl) (by kernel_rfl) ?_
            generalize hr6 : radar_out p.Code (-1) 4095 = r6
            refine TL.run 28 [] [(30, .bool r6)] rfl ⟨by kernel_rfl, by kernel_rfl⟩ ?_
            refine TL.next rfl ?_
            refine TC.cond r6 rfl (by kernel_rfl) (fun h6 => ?_) (fun h6 => ?_)
            · refine TC.seq ?_
              refine TC.region ?_
              refine TL.run 1 [] [(2, .int .i64 4)] rfl ⟨by kernel_rfl, by kernel_rfl⟩ ?_
              refine TL.next rfl ?_
              refine TC.ret ?_
              refine TE.ret_then ?_
              have e : radar_CheckPlot p = 4 := by subst hr1 hr2 hr3 hr4 hr5 hr6; unfold radar_CheckPlot; exact cond_f h1 (cond_f h2 (cond_f h3 (cond_f h4 (cond_f h5 (cond_t h6 (rfl))))))
              exact TE.ret [] (.int .i64 4) ⟨by kernel_rfl, by kernel_rfl⟩ (by rw [e]; first | done | kernel_rfl)
            · refine TC.skip ?_
              refine TE.next ?_
              refine TC.seq ?_
              refine TC.region ?_
              refine TL.run 1 [] [(2, .int .i64 0)] rfl ⟨by kernel_rfl, by kernel_rfl⟩ ?_
              refine TL.next rfl ?_
              refine TC.ret ?_
              have e : radar_CheckPlot p = 0 := by subst hr1 hr2 hr3 hr4 hr5 hr6; unfold radar_CheckPlot; exact cond_f h1 (cond_f h2 (cond_f h3 (cond_f h4 (cond_f h5 (cond_f h6 (rfl))))))
              exact TE.ret [] (.int .i64 0) ⟨by kernel_rfl, by kernel_rfl⟩ (by rw [e]; first | done | kernel_rfl)

def bias_Check (b_ : BiasOffset) : Int :=
  cond ((((((decide (b_.Range < (-10000))) || (decide (b_.Range > 10000))) || (decide (b_.Azimuth < (-2047)))) || (decide (b_.Azimuth > 2048))) || (decide (b_.Time < (-1000)))) || (decide (b_.Time > 1000))) (
    4) (
    0)

set_option maxRecDepth 100000 in
theorem bias_Check_w (b_ : BiasOffset) (w : World) : Calls Try.prog 61 #[BiasOffset.v b_] w (Ret w (.int .i64 (bias_Check b_))) := by
  refine calls_intro (vs := [BiasOffset.v b_]) (w := w) Try.func61 rfl Try.ntmps61 rfl ?_
  refine TC.weak [(0, BiasOffset.v b_)] (by kernel_rfl) ?_
  refine TC.seq ?_
  refine TC.region ?_
  refine TL.write 0 (fun b1 => [(1, .pointer (some ⟨b1, 0, none⟩))]) (fun b1 => [.inl (b1, .cells (BiasOffset.c b_) 54 (0, 0))]) (fun b1 => ⟨by kernel_rfl, by kernel_rfl⟩) (fun b1 => ?_)
  refine TL.run 2 [] [(1, .pointer (some ⟨b1, 0, none⟩))] rfl ⟨by kernel_rfl, by kernel_rfl⟩ ?_
  refine TL.next rfl ?_
  refine TC.seq ?_
  refine TC.seq ?_
  refine TC.region ?_
  refine TL.run 4 [0] [(1, .pointer (some ⟨b1, 0, none⟩)), (6, .bool (decide (b_.Range < (-10000))))] rfl ⟨by kernel_rfl, by kernel_rfl⟩ ?_
  refine TL.join 6 (decide (b_.Range < (-10000))) 8 [] [0] (fun β => [(1, .pointer (some ⟨b1, 0, none⟩)), (10, .bool (β || (decide (b_.Range > 10000))))]) (by kernel_rfl) rfl ⟨by kernel_rfl, by kernel_rfl⟩ ⟨by kernel_rfl, by kernel_rfl⟩ ?_
  refine TL.run 9 [] [(1, .pointer (some ⟨b1, 0, none⟩)), (11, .bool ((decide (b_.Range < (-10000))) || (decide (b_.Range > 10000))))] rfl ⟨by kernel_rfl, by kernel_rfl⟩ ?_
  refine TL.join 11 ((decide (b_.Range < (-10000))) || (decide (b_.Range > 10000))) 13 [] [0] (fun β => [(1, .pointer (some ⟨b1, 0, none⟩)), (15, .bool (β || (decide (b_.Azimuth < (-2047)))))]) (by kernel_rfl) rfl ⟨by kernel_rfl, by kernel_rfl⟩ ⟨by kernel_rfl, by kernel_rfl⟩ ?_
  refine TL.run 14 [] [(1, .pointer (some ⟨b1, 0, none⟩)), (16, .bool (((decide (b_.Range < (-10000))) || (decide (b_.Range > 10000))) || (decide (b_.Azimuth < (-2047)))))] rfl ⟨by kernel_rfl, by kernel_rfl⟩ ?_
  refine TL.join 16 (((decide (b_.Range < (-10000))) || (decide (b_.Range > 10000))) || (decide (b_.Azimuth < (-2047)))) 18 [] [0] (fun β => [(1, .pointer (some ⟨b1, 0, none⟩)), (20, .bool (β || (decide (b_.Azimuth > 2048))))]) (by kernel_rfl) rfl ⟨by kernel_rfl, by kernel_rfl⟩ ⟨by kernel_rfl, by kernel_rfl⟩ ?_
  refine TL.run 19 [] [(1, .pointer (some ⟨b1, 0, none⟩)), (21, .bool ((((decide (b_.Range < (-10000))) || (decide (b_.Range > 10000))) || (decide (b_.Azimuth < (-2047)))) || (decide (b_.Azimuth > 2048))))] rfl ⟨by kernel_rfl, by kernel_rfl⟩ ?_
  refine TL.join 21 ((((decide (b_.Range < (-10000))) || (decide (b_.Range > 10000))) || (decide (b_.Azimuth < (-2047)))) || (decide (b_.Azimuth > 2048))) 23 [] [0] (fun β => [(1, .pointer (some ⟨b1, 0, none⟩)), (25, .bool (β || (decide (b_.Time < (-1000)))))]) (by kernel_rfl) rfl ⟨by kernel_rfl, by kernel_rfl⟩ ⟨by kernel_rfl, by kernel_rfl⟩ ?_
  refine TL.run 24 [] [(1, .pointer (some ⟨b1, 0, none⟩)), (26, .bool (((((decide (b_.Range < (-10000))) || (decide (b_.Range > 10000))) || (decide (b_.Azimuth < (-2047)))) || (decide (b_.Azimuth > 2048))) || (decide (b_.Time < (-1000)))))] rfl ⟨by kernel_rfl, by kernel_rfl⟩ ?_
  refine TL.join 26 (((((decide (b_.Range < (-10000))) || (decide (b_.Range > 10000))) || (decide (b_.Azimuth < (-2047)))) || (decide (b_.Azimuth > 2048))) || (decide (b_.Time < (-1000)))) 28 [] [0] (fun β => [(30, .bool (β || (decide (b_.Time > 1000))))]) (by kernel_rfl) rfl ⟨by kernel_rfl, by kernel_rfl⟩ ⟨by kernel_rfl, by kernel_rfl⟩ ?_
  refine TL.next rfl ?_
  refine TC.cond ((((((decide (b_.Range < (-10000))) || (decide (b_.Range > 10000))) || (decide (b_.Azimuth < (-2047)))) || (decide (b_.Azimuth > 2048))) || (decide (b_.Time < (-1000)))) || (decide (b_.Time > 1000))) rfl (by kernel_rfl) (fun h1 => ?_) (fun h1 => ?_)
  · refine TC.seq ?_
    refine TC.region ?_
    refine TL.run 1 [] [(2, .int .i64 4)] rfl ⟨by kernel_rfl, by kernel_rfl⟩ ?_
    refine TL.next rfl ?_
    refine TC.ret ?_
    refine TE.ret_then ?_
    have e : bias_Check b_ = 4 := by unfold bias_Check; exact cond_t h1 (rfl)
    exact TE.ret [] (.int .i64 4) ⟨by kernel_rfl, by kernel_rfl⟩ (by rw [e]; first | done | kernel_rfl)
  · refine TC.skip ?_
    refine TE.next ?_
    refine TC.seq ?_
    refine TC.region ?_
    refine TL.run 1 [] [(2, .int .i64 0)] rfl ⟨by kernel_rfl, by kernel_rfl⟩ ?_
    refine TL.next rfl ?_
    refine TC.ret ?_
    have e : bias_Check b_ = 0 := by unfold bias_Check; exact cond_f h1 (rfl)
    exact TE.ret [] (.int .i64 0) ⟨by kernel_rfl, by kernel_rfl⟩ (by rw [e]; first | done | kernel_rfl)

def angle_Norm (h_ : Int) : Int :=
  (w64 ((h_.tmod 4096) + 4096)).tmod 4096

set_option maxRecDepth 100000 in
theorem angle_Norm_w (h_ : Int) (w : World) : Calls Try.prog 99 #[.int .i64 h_] w (Ret w (.int .i64 (angle_Norm h_))) := by
  refine calls_intro (vs := [.int .i64 h_]) (w := w) Try.func99 rfl Try.ntmps99 rfl ?_
  refine TC.weak [(0, .int .i64 h_)] (by kernel_rfl) ?_
  refine TC.seq ?_
  refine TC.region ?_
  refine TL.run 1 [] [(0, .int .i64 h_)] rfl ⟨by kernel_rfl, by kernel_rfl⟩ ?_
  refine TL.next rfl ?_
  refine TC.seq ?_
  refine TC.region ?_
  refine TL.run 5 [] [(2, .int .i64 ((w64 ((h_.tmod 4096) + 4096)).tmod 4096))] rfl ⟨by kernel_rfl, by kernel_rfl⟩ ?_
  refine TL.next rfl ?_
  refine TC.ret ?_
  have e : angle_Norm h_ = ((w64 ((h_.tmod 4096) + 4096)).tmod 4096) := by unfold angle_Norm; exact rfl
  exact TE.ret [] (.int .i64 ((w64 ((h_.tmod 4096) + 4096)).tmod 4096)) ⟨by kernel_rfl, by kernel_rfl⟩ (by rw [e]; first | done | kernel_rfl)

def angle_Diff (a : Int) (b_ : Int) : Int :=
  let r1 := angle_Norm (w64 (b_ - a))
  cond (decide (r1 > 2048)) (
    w64 (r1 - 4096)) (
    r1)

set_option maxRecDepth 100000 in
theorem angle_Diff_w (a : Int) (b_ : Int) (w : World) : Calls Try.prog 59 #[.int .i64 a, .int .i64 b_] w (Ret w (.int .i64 (angle_Diff a b_))) := by
  refine calls_intro (vs := [.int .i64 a, .int .i64 b_]) (w := w) Try.func59 rfl Try.ntmps59 rfl ?_
  refine TC.weak [(0, .int .i64 a), (1, .int .i64 b_)] (by kernel_rfl) ?_
  refine TC.seq ?_
  refine TC.region ?_
  refine TL.run 1 [] [(0, .int .i64 a), (1, .int .i64 b_)] rfl ⟨by kernel_rfl, by kernel_rfl⟩ ?_
  refine TL.next rfl ?_
  refine TC.seq ?_
  refine TC.region ?_
  refine TL.run 3 [] [(8, .int .i64 (w64 (b_ - a)))] rfl ⟨by kernel_rfl, by kernel_rfl⟩ ?_
  refine TL.call (some 9) [(9, .int .i64 (angle_Norm (w64 (b_ - a))))] (fun w _ => angle_Norm_w (w64 (b_ - a)) w) (by kernel_rfl) (by kernel_rfl) ?_
  generalize hr1 : angle_Norm (w64 (b_ - a)) = r1
  refine TL.run 5 [] [(5, .int .i64 r1)] rfl ⟨by kernel_rfl, by kernel_rfl⟩ ?_
  refine TL.next rfl ?_
  refine TC.seq ?_
  refine TC.seq ?_
  refine TC.region ?_
  refine TL.run 2 [] [(5, .int .i64 r1), (11, .bool (decide (r1 > 2048)))] rfl ⟨by kernel_rfl, by kernel_rfl⟩ ?_
  refine TL.next rfl ?_
  refine TC.cond (decide (r1 > 2048)) rfl (by kernel_rfl) (fun h1 => ?_) (fun h1 => ?_)
  · refine TC.region ?_
    refine TL.run 3 [] [(5, .int .i64 (w64 (r1 - 4096)))] rfl ⟨by kernel_rfl, by kernel_rfl⟩ ?_
    refine TL.next rfl ?_
    refine TC.seq ?_
    refine TC.region ?_
    refine TL.run 2 [] [(4, .int .i64 (w64 (r1 - 4096)))] rfl ⟨by kernel_rfl, by kernel_rfl⟩ ?_
    refine TL.next rfl ?_
    refine TC.ret ?_
    have e : angle_Diff a b_ = (w64 (r1 - 4096)) := by subst hr1; unfold angle_Diff; exact cond_t h1 (rfl)
    exact TE.ret [] (.int .i64 (w64 (r1 - 4096))) ⟨by kernel_rfl, by kernel_rfl⟩ (by rw [e]; first | done | kernel_rfl)
  · refine TC.skip ?_
    refine TE.next ?_
    refine TC.seq ?_
    refine TC.region ?_
    refine TL.run 2 [] [(4, .int .i64 r1)] rfl ⟨by kernel_rfl, by kernel_rfl⟩ ?_
    refine TL.next rfl ?_
    refine TC.ret ?_
    have e : angle_Diff a b_ = r1 := by subst hr1; unfold angle_Diff; exact cond_f h1 (rfl)
    exact TE.ret [] (.int .i64 r1) ⟨by kernel_rfl, by kernel_rfl⟩ (by rw [e]; first | done | kernel_rfl)

def bias_moved (p : Plot) (b_ : BiasOffset) (sign : Int) : Plot × Int :=
  let r1 := bias_Check b_
  cond (r1 != 0) (
    ((⟨0, 0, 0, 0, 0, 0⟩ : Plot), r1)) (
    let r2 := radar_CheckPlot p
    cond (r2 != 0) (
      ((⟨0, 0, 0, 0, 0, 0⟩ : Plot), r2)) (
      let r3 := angle_Norm (w64 (p.Azimuth + (w64 (sign * b_.Azimuth))))
      let r4 := radar_CheckPlot (⟨p.Radar, w64 (p.Time + (w64 (sign * b_.Time))), w64 (p.Range + (w64 (sign * b_.Range))), r3, p.Height, p.Code⟩ : Plot)
      cond (r4 != 0) (
        ((⟨0, 0, 0, 0, 0, 0⟩ : Plot), 8)) (
        ((⟨p.Radar, w64 (p.Time + (w64 (sign * b_.Time))), w64 (p.Range + (w64 (sign * b_.Range))), r3, p.Height, p.Code⟩ : Plot), 0))))

set_option maxRecDepth 100000 in
theorem bias_moved_w (p : Plot) (b_ : BiasOffset) (sign : Int) (w : World) : Calls Try.prog 62 #[Plot.v p, BiasOffset.v b_, .int .i64 sign] w (Ret w (.tuple #[Plot.v ((bias_moved p b_ sign).1), .int .i64 ((bias_moved p b_ sign).2)])) := by
  refine calls_intro (vs := [Plot.v p, BiasOffset.v b_, .int .i64 sign]) (w := w) Try.func62 rfl Try.ntmps62 rfl ?_
  refine TC.weak [(0, Plot.v p), (1, BiasOffset.v b_), (2, .int .i64 sign)] (by kernel_rfl) ?_
  refine TC.seq ?_
  refine TC.region ?_
  refine TL.write 0 (fun b1 => [(1, BiasOffset.v b_), (2, .int .i64 sign), (3, .pointer (some ⟨b1, 0, none⟩))]) (fun b1 => [.inl (b1, .cells (Plot.c p) 58 (0, 0))]) (fun b1 => ⟨by kernel_rfl, by kernel_rfl⟩) (fun b1 => ?_)
  refine TL.write 0 (fun b2 => [(2, .int .i64 sign), (3, .pointer (some ⟨b1, 0, none⟩)), (4, .pointer (some ⟨b2, 0, none⟩))]) (fun b2 => [.inl (b2, .cells (BiasOffset.c b_) 54 (0, 0)), .inl (b1, .cells (Plot.c p) 58 (0, 0))]) (fun b2 => ⟨by kernel_rfl, by kernel_rfl⟩) (fun b2 => ?_)
  refine TL.write 0 (fun b3 => [(2, .int .i64 sign), (3, .pointer (some ⟨b1, 0, none⟩)), (4, .pointer (some ⟨b2, 0, none⟩)), (6, .pointer (some ⟨b3, 0, none⟩))]) (fun b3 => [.inl (b3, .cells (Plot.c Plot.zero) 58 (0, 0)), .inl (b2, .cells (BiasOffset.c b_) 54 (0, 0)), .inl (b1, .cells (Plot.c p) 58 (0, 0))]) (fun b3 => ⟨by kernel_rfl, by kernel_rfl⟩) (fun b3 => ?_)
  refine TL.run 4 [] [(2, .int .i64 sign), (3, .pointer (some ⟨b1, 0, none⟩)), (4, .pointer (some ⟨b2, 0, none⟩)), (6, .pointer (some ⟨b3, 0, none⟩))] rfl ⟨by kernel_rfl, by kernel_rfl⟩ ?_
  refine TL.next rfl ?_
  refine TC.seq ?_
  refine TC.seq ?_
  refine TC.region ?_
  refine TL.run 1 [1] [(2, .int .i64 sign), (3, .pointer (some ⟨b1, 0, none⟩)), (4, .pointer (some ⟨b2, 0, none⟩)), (6, .pointer (some ⟨b3, 0, none⟩)), (10, BiasOffset.v b_)] rfl ⟨by kernel_rfl, by kernel_rfl⟩ ?_
  refine TL.call (some 11) [(2, .int .i64 sign), (3, .pointer (some ⟨b1, 0, none⟩)), (4, .pointer (some ⟨b2, 0, none⟩)), (6, .pointer (some ⟨b3, 0, none⟩)), (11, .int .i64 (bias_Check b_))] (fun w _ => bias_Check_w b_ w) (by kernel_rfl) (by kernel_rfl) ?_
  generalize hr1 : bias_Check b_ = r1
  refine TL.run 3 [] [(2, .int .i64 sign), (3, .pointer (some ⟨b1, 0, none⟩)), (4, .pointer (some ⟨b2, 0, none⟩)), (6, .pointer (some ⟨b3, 0, none⟩)), (8, .int .i64 r1)] rfl ⟨by kernel_rfl, by kernel_rfl⟩ ?_
  refine TL.next rfl ?_
  refine TC.seq ?_
  refine TC.region ?_
  refine TL.run 2 [] [(2, .int .i64 sign), (3, .pointer (some ⟨b1, 0, none⟩)), (4, .pointer (some ⟨b2, 0, none⟩)), (6, .pointer (some ⟨b3, 0, none⟩)), (8, .int .i64 r1), (13, .bool (r1 != 0))] rfl ⟨by kernel_rfl, by kernel_rfl⟩ ?_
  refine TL.next rfl ?_
  refine TC.cond (r1 != 0) rfl (by kernel_rfl) (fun h1 => ?_) (fun h1 => ?_)
  · refine TC.seq ?_
    refine TC.region ?_
    refine TL.run 2 [] [(6, .pointer (some ⟨b3, 0, none⟩)), (14, Plot.v Plot.zero), (15, .int .i64 r1)] rfl ⟨by kernel_rfl, by kernel_rfl⟩ ?_
    refine TL.write 0 (fun _ => [(6, .pointer (some ⟨b3, 0, none⟩)), (15, .int .i64 r1)]) (fun _ => [.inl (b3, .cells (Plot.c Plot.zero) 58 (0, 0)), .inl (b2, .cells (BiasOffset.c b_) 54 (0, 0)), .inl (b1, .cells (Plot.c p) 58 (0, 0))]) (fun _ => ⟨by kernel_rfl, by kernel_rfl⟩) (fun _ => ?_)
    refine TL.run 4 [] [(6, .pointer (some ⟨b3, 0, none⟩)), (7, .int .i64 r1)] rfl ⟨by kernel_rfl, by kernel_rfl⟩ ?_
    refine TL.next rfl ?_
    refine TC.ret ?_
    refine TE.ret_then ?_
    have e : bias_moved p b_ sign = ((⟨0, 0, 0, 0, 0, 0⟩ : Plot), r1) := by subst hr1; unfold bias_moved; exact cond_t h1 (rfl)
    exact TE.ret [0] (.tuple #[.agg #[.int .i64 0, .int .i64 0, .int .i64 0, .int .i64 0, .int .i64 0, .int .i64 0], .int .i64 r1]) ⟨by kernel_rfl, by kernel_rfl⟩ (by rw [e]; first | done | kernel_rfl)
  · refine TC.skip ?_
    refine TE.next ?_
    refine TC.seq ?_
    refine TC.seq ?_
    refine TC.region ?_
    refine TL.run 1 [2] [(2, .int .i64 sign), (3, .pointer (some ⟨b1, 0, none⟩)), (4, .pointer (some ⟨b2, 0, none⟩)), (6, .pointer (some ⟨b3, 0, none⟩)), (16, Plot.v p)] rfl ⟨by kernel_rfl, by kernel_rfl⟩ ?_
    refine TL.call (some 17) [(2, .int .i64 sign), (3, .pointer (some ⟨b1, 0, none⟩)), (4, .pointer (some ⟨b2, 0, none⟩)), (6, .pointer (some ⟨b3, 0, none⟩)), (17, .int .i64 (radar_CheckPlot p))] (fun w _ => radar_CheckPlot_w p w) (by kernel_rfl) (by kernel_rfl) ?_
    generalize hr2 : radar_CheckPlot p = r2
    refine TL.run 3 [] [(2, .int .i64 sign), (3, .pointer (some ⟨b1, 0, none⟩)), (4, .pointer (some ⟨b2, 0, none⟩)), (6, .pointer (some ⟨b3, 0, none⟩)), (9, .int .i64 r2)] rfl ⟨by kernel_rfl, by kernel_rfl⟩ ?_
    refine TL.next rfl ?_
    refine TC.seq ?_
    refine TC.region ?_
    refine TL.run 2 [] [(2, .int .i64 sign), (3, .pointer (some ⟨b1, 0, none⟩)), (4, .pointer (some ⟨b2, 0, none⟩)), (6, .pointer (some ⟨b3, 0, none⟩)), (9, .int .i64 r2), (19, .bool (r2 != 0))] rfl ⟨by kernel_rfl, by kernel_rfl⟩ ?_
    refine TL.next rfl ?_
    refine TC.cond (r2 != 0) rfl (by kernel_rfl) (fun h2 => ?_) (fun h2 => ?_)
    · refine TC.seq ?_
      refine TC.region ?_
      refine TL.run 2 [] [(6, .pointer (some ⟨b3, 0, none⟩)), (20, Plot.v Plot.zero), (21, .int .i64 r2)] rfl ⟨by kernel_rfl, by kernel_rfl⟩ ?_
      refine TL.write 0 (fun _ => [(6, .pointer (some ⟨b3, 0, none⟩)), (21, .int .i64 r2)]) (fun _ => [.inl (b3, .cells (Plot.c Plot.zero) 58 (0, 0)), .inl (b2, .cells (BiasOffset.c b_) 54 (0, 0)), .inl (b1, .cells (Plot.c p) 58 (0, 0))]) (fun _ => ⟨by kernel_rfl, by kernel_rfl⟩) (fun _ => ?_)
      refine TL.run 4 [] [(6, .pointer (some ⟨b3, 0, none⟩)), (7, .int .i64 r2)] rfl ⟨by kernel_rfl, by kernel_rfl⟩ ?_
      refine TL.next rfl ?_
      refine TC.ret ?_
      refine TE.ret_then ?_
      have e : bias_moved p b_ sign = ((⟨0, 0, 0, 0, 0, 0⟩ : Plot), r2) := by subst hr1 hr2; unfold bias_moved; exact cond_f h1 (cond_t h2 (rfl))
      exact TE.ret [0] (.tuple #[.agg #[.int .i64 0, .int .i64 0, .int .i64 0, .int .i64 0, .int .i64 0, .int .i64 0], .int .i64 r2]) ⟨by kernel_rfl, by kernel_rfl⟩ (by rw [e]; first | done | kernel_rfl)
    · refine TC.skip ?_
      refine TE.next ?_
      refine TC.seq ?_
      refine TC.region ?_
      refine TL.run 8 [2, 1] [(2, .int .i64 sign), (3, .pointer (some ⟨b1, 0, none⟩)), (4, .pointer (some ⟨b2, 0, none⟩)), (6, .pointer (some ⟨b3, 0, none⟩)), (28, .int .i64 (w64 (p.Range + (w64 (sign * b_.Range))))), (29, .pointer (some ⟨b1, 2, none⟩))] rfl ⟨by kernel_rfl, by kernel_rfl⟩ ?_
      refine TL.write 2 (fun _ => [(2, .int .i64 sign), (3, .pointer (some ⟨b1, 0, none⟩)), (4, .pointer (some ⟨b2, 0, none⟩)), (6, .pointer (some ⟨b3, 0, none⟩))]) (fun _ => [.inl (b3, .cells (Plot.c Plot.zero) 58 (0, 0)), .inl (b2, .cells (BiasOffset.c b_) 54 (0, 0)), .inl (b1, .cells #[.int .i64 p.Radar, .int .i64 p.Time, .int .i64 (w64 (p.Range + (w64 (sign * b_.Range)))), .int .i64 p.Azimuth, .int .i64 p.Height, .int .i64 p.Code] 58 (0, 0))]) (fun _ => ⟨by kernel_rfl, by kernel_rfl⟩) (fun _ => ?_)
      refine TL.next rfl ?_
      refine TC.seq ?_
      refine TC.region ?_
      refine TL.run 8 [2, 1] [(2, .int .i64 sign), (3, .pointer (some ⟨b1, 0, none⟩)), (4, .pointer (some ⟨b2, 0, none⟩)), (6, .pointer (some ⟨b3, 0, none⟩)), (36, .int .i64 (w64 (p.Time + (w64 (sign * b_.Time))))), (37, .pointer (some ⟨b1, 1, none⟩))] rfl ⟨by kernel_rfl, by kernel_rfl⟩ ?_
      refine TL.write 2 (fun _ => [(2, .int .i64 sign), (3, .pointer (some ⟨b1, 0, none⟩)), (4, .pointer (some ⟨b2, 0, none⟩)), (6, .pointer (some ⟨b3, 0, none⟩))]) (fun _ => [.inl (b3, .cells (Plot.c Plot.zero) 58 (0, 0)), .inl (b2, .cells (BiasOffset.c b_) 54 (0, 0)), .inl (b1, .cells #[.int .i64 p.Radar, .int .i64 (w64 (p.Time + (w64 (sign * b_.Time)))), .int .i64 (w64 (p.Range + (w64 (sign * b_.Range)))), .int .i64 p.Azimuth, .int .i64 p.Height, .int .i64 p.Code] 58 (0, 0))]) (fun _ => ⟨by kernel_rfl, by kernel_rfl⟩) (fun _ => ?_)
      refine TL.next rfl ?_
      refine TC.seq ?_
      refine TC.region ?_
      refine TL.run 7 [2, 1] [(3, .pointer (some ⟨b1, 0, none⟩)), (6, .pointer (some ⟨b3, 0, none⟩)), (44, .int .i64 (w64 (p.Azimuth + (w64 (sign * b_.Azimuth)))))] rfl ⟨by kernel_rfl, by kernel_rfl⟩ ?_
      refine TL.call (some 45) [(3, .pointer (some ⟨b1, 0, none⟩)), (6, .pointer (some ⟨b3, 0, none⟩)), (45, .int .i64 (angle_Norm (w64 (p.Azimuth + (w64 (sign * b_.Azimuth))))))] (fun w _ => angle_Norm_w (w64 (p.Azimuth + (w64 (sign * b_.Azimuth)))) w) (by kernel_rfl) (by kernel_rfl) ?_
      generalize hr3 : angle_Norm (w64 (p.Azimuth + (w64 (sign * b_.Azimuth)))) = r3
      refine TL.run 9 [] [(3, .pointer (some ⟨b1, 0, none⟩)), (6, .pointer (some ⟨b3, 0, none⟩)), (45, .int .i64 r3), (46, .pointer (some ⟨b1, 3, none⟩))] rfl ⟨by kernel_rfl, by kernel_rfl⟩ ?_
      refine TL.write 2 (fun _ => [(3, .pointer (some ⟨b1, 0, none⟩)), (6, .pointer (some ⟨b3, 0, none⟩))]) (fun _ => [.inl (b3, .cells (Plot.c Plot.zero) 58 (0, 0)), .inl (b2, .cells (BiasOffset.c b_) 54 (0, 0)), .inl (b1, .cells #[.int .i64 p.Radar, .int .i64 (w64 (p.Time + (w64 (sign * b_.Time)))), .int .i64 (w64 (p.Range + (w64 (sign * b_.Range)))), .int .i64 r3, .int .i64 p.Height, .int .i64 p.Code] 58 (0, 0))]) (fun _ => ⟨by kernel_rfl, by kernel_rfl⟩) (fun _ => ?_)
      refine TL.next rfl ?_
      refine TC.seq ?_
      refine TC.seq ?_
      refine TC.region ?_
      refine TL.run 1 [2] [(3, .pointer (some ⟨b1, 0, none⟩)), (6, .pointer (some ⟨b3, 0, none⟩)), (47, .agg #[.int .i64 p.Radar, .int .i64 (w64 (p.Time + (w64 (sign * b_.Time)))), .int .i64 (w64 (p.Range + (w64 (sign * b_.Range)))), .int .i64 r3, .int .i64 p.Height, .int .i64 p.Code])] rfl ⟨by kernel_rfl, by kernel_rfl⟩ ?_
      refine TL.call (some 48) [(3, .pointer (some ⟨b1, 0, none⟩)), (6, .pointer (some ⟨b3, 0, none⟩)), (48, .int .i64 (radar_CheckPlot (⟨p.Radar, w64 (p.Time + (w64 (sign * b_.Time))), w64 (p.Range + (w64 (sign * b_.Range))), r3, p.Height, p.Code⟩ : Plot)))] (fun w _ => radar_CheckPlot_w (⟨p.Radar, w64 (p.Time + (w64 (sign * b_.Time))), w64 (p.Range + (w64 (sign * b_.Range))), r3, p.Height, p.Code⟩ : Plot) w) (by kernel_rfl) (by kernel_rfl) ?_
      generalize hr4 : radar_CheckPlot (⟨p.Radar, w64 (p.Time + (w64 (sign * b_.Time))), w64 (p.Range + (w64 (sign * b_.Range))), r3, p.Height, p.Code⟩ : Plot) = r4
      refine TL.run 3 [] [(3, .pointer (some ⟨b1, 0, none⟩)), (6, .pointer (some ⟨b3, 0, none⟩)), (49, .bool (r4 != 0))] rfl ⟨by kernel_rfl, by kernel_rfl⟩ ?_
      refine TL.next rfl ?_
      refine TC.cond (r4 != 0) rfl (by kernel_rfl) (fun h3 => ?_) (fun h3 => ?_)
      · refine TC.seq ?_
        refine TC.region ?_
        refine TL.run 1 [] [(6, .pointer (some ⟨b3, 0, none⟩)), (50, Plot.v Plot.zero)] rfl ⟨by kernel_rfl, by kernel_rfl⟩ ?_
        refine TL.write 0 (fun _ => [(6, .pointer (some ⟨b3, 0, none⟩))]) (fun _ => [.inl (b3, .cells (Plot.c Plot.zero) 58 (0, 0)), .inl (b2, .cells (BiasOffset.c b_) 54 (0, 0)), .inl (b1, .cells #[.int .i64 p.Radar, .int .i64 (w64 (p.Time + (w64 (sign * b_.Time)))), .int .i64 (w64 (p.Range + (w64 (sign * b_.Range)))), .int .i64 r3, .int .i64 p.Height, .int .i64 p.Code] 58 (0, 0))]) (fun _ => ⟨by kernel_rfl, by kernel_rfl⟩) (fun _ => ?_)
        refine TL.run 3 [] [(6, .pointer (some ⟨b3, 0, none⟩)), (7, .int .i64 8)] rfl ⟨by kernel_rfl, by kernel_rfl⟩ ?_
        refine TL.next rfl ?_
        refine TC.ret ?_
        refine TE.ret_then ?_
        have e : bias_moved p b_ sign = ((⟨0, 0, 0, 0, 0, 0⟩ : Plot), 8) := by subst hr1 hr2 hr3 hr4; unfold bias_moved; exact cond_f h1 (cond_f h2 (cond_t h3 (rfl)))
        exact TE.ret [0] (.tuple #[.agg #[.int .i64 0, .int .i64 0, .int .i64 0, .int .i64 0, .int .i64 0, .int .i64 0], .int .i64 8]) ⟨by kernel_rfl, by kernel_rfl⟩ (by rw [e]; first | done | kernel_rfl)
      · refine TC.skip ?_
        refine TE.next ?_
        refine TC.seq ?_
        refine TC.region ?_
        refine TL.run 1 [2] [(6, .pointer (some ⟨b3, 0, none⟩)), (51, .agg #[.int .i64 p.Radar, .int .i64 (w64 (p.Time + (w64 (sign * b_.Time)))), .int .i64 (w64 (p.Range + (w64 (sign * b_.Range)))), .int .i64 r3, .int .i64 p.Height, .int .i64 p.Code])] rfl ⟨by kernel_rfl, by kernel_rfl⟩ ?_
        refine TL.write 0 (fun _ => [(6, .pointer (some ⟨b3, 0, none⟩))]) (fun _ => [.inl (b3, .cells #[.int .i64 p.Radar, .int .i64 (w64 (p.Time + (w64 (sign * b_.Time)))), .int .i64 (w64 (p.Range + (w64 (sign * b_.Range)))), .int .i64 r3, .int .i64 p.Height, .int .i64 p.Code] 58 (0, 0)), .inl (b2, .cells (BiasOffset.c b_) 54 (0, 0)), .inl (b1, .cells #[.int .i64 p.Radar, .int .i64 (w64 (p.Time + (w64 (sign * b_.Time)))), .int .i64 (w64 (p.Range + (w64 (sign * b_.Range)))), .int .i64 r3, .int .i64 p.Height, .int .i64 p.Code] 58 (0, 0))]) (fun _ => ⟨by kernel_rfl, by kernel_rfl⟩) (fun _ => ?_)
        refine TL.run 3 [] [(6, .pointer (some ⟨b3, 0, none⟩)), (7, .int .i64 0)] rfl ⟨by kernel_rfl, by kernel_rfl⟩ ?_
        refine TL.next rfl ?_
        refine TC.ret ?_
        have e : bias_moved p b_ sign = ((⟨p.Radar, w64 (p.Time + (w64 (sign * b_.Time))), w64 (p.Range + (w64 (sign * b_.Range))), r3, p.Height, p.Code⟩ : Plot), 0) := by subst hr1 hr2 hr3 hr4; unfold bias_moved; exact cond_f h1 (cond_f h2 (cond_f h3 (rfl)))
        exact TE.ret [0] (.tuple #[.agg #[.int .i64 p.Radar, .int .i64 (w64 (p.Time + (w64 (sign * b_.Time)))), .int .i64 (w64 (p.Range + (w64 (sign * b_.Range)))), .int .i64 r3, .int .i64 p.Height, .int .i64 p.Code], .int .i64 0]) ⟨by kernel_rfl, by kernel_rfl⟩ (by rw [e]; first | done | kernel_rfl)

def bias_Apply (p : Plot) (b_ : BiasOffset) : Plot × Int :=
  let r1 := bias_moved p b_ 1
  (r1.1, r1.2)

set_option maxRecDepth 100000 in
theorem bias_Apply_w (p : Plot) (b_ : BiasOffset) (w : World) : Calls Try.prog 29 #[Plot.v p, BiasOffset.v b_] w (Ret w (.tuple #[Plot.v ((bias_Apply p b_).1), .int .i64 ((bias_Apply p b_).2)])) := by
  refine calls_intro (vs := [Plot.v p, BiasOffset.v b_]) (w := w) Try.func29 rfl Try.ntmps29 rfl ?_
  refine TC.weak [(0, Plot.v p), (1, BiasOffset.v b_)] (by kernel_rfl) ?_
  refine TC.seq ?_
  refine TC.region ?_
  refine TL.write 0 (fun b1 => [(1, BiasOffset.v b_), (2, .pointer (some ⟨b1, 0, none⟩))]) (fun b1 => [.inl (b1, .cells (Plot.c p) 58 (0, 0))]) (fun b1 => ⟨by kernel_rfl, by kernel_rfl⟩) (fun b1 => ?_)
  refine TL.write 0 (fun b2 => [(2, .pointer (some ⟨b1, 0, none⟩)), (3, .pointer (some ⟨b2, 0, none⟩))]) (fun b2 => [.inl (b2, .cells (BiasOffset.c b_) 54 (0, 0)), .inl (b1, .cells (Plot.c p) 58 (0, 0))]) (fun b2 => ⟨by kernel_rfl, by kernel_rfl⟩) (fun b2 => ?_)
  refine TL.write 0 (fun b3 => [(2, .pointer (some ⟨b1, 0, none⟩)), (3, .pointer (some ⟨b2, 0, none⟩)), (4, .pointer (some ⟨b3, 0, none⟩))]) (fun b3 => [.inl (b3, .cells (Plot.c Plot.zero) 58 (0, 0)), .inl (b2, .cells (BiasOffset.c b_) 54 (0, 0)), .inl (b1, .cells (Plot.c p) 58 (0, 0))]) (fun b3 => ⟨by kernel_rfl, by kernel_rfl⟩) (fun b3 => ?_)
  refine TL.run 4 [] [(2, .pointer (some ⟨b1, 0, none⟩)), (3, .pointer (some ⟨b2, 0, none⟩)), (4, .pointer (some ⟨b3, 0, none⟩))] rfl ⟨by kernel_rfl, by kernel_rfl⟩ ?_
  refine TL.next rfl ?_
  refine TC.seq ?_
  refine TC.region ?_
  refine TL.run 2 [2, 1] [(4, .pointer (some ⟨b3, 0, none⟩)), (6, Plot.v p), (7, BiasOffset.v b_)] rfl ⟨by kernel_rfl, by kernel_rfl⟩ ?_
  refine TL.call (some 8) [(4, .pointer (some ⟨b3, 0, none⟩)), (8, .tuple #[Plot.v ((bias_moved p b_ 1).1), .int .i64 ((bias_moved p b_ 1).2)])] (fun w _ => bias_moved_w p b_ 1 w) (by kernel_rfl) (by kernel_rfl) ?_
  generalize hr1 : bias_moved p b_ 1 = r1
  refine TL.run 5 [] [(4, .pointer (some ⟨b3, 0, none⟩)), (9, Plot.v r1.1), (10, .int .i64 r1.2)] rfl ⟨by kernel_rfl, by kernel_rfl⟩ ?_
  refine TL.write 0 (fun _ => [(4, .pointer (some ⟨b3, 0, none⟩)), (10, .int .i64 r1.2)]) (fun _ => [.inl (b3, .cells (Plot.c r1.1) 58 (0, 0)), .inl (b2, .cells (BiasOffset.c b_) 54 (0, 0)), .inl (b1, .cells (Plot.c p) 58 (0, 0))]) (fun _ => ⟨by kernel_rfl, by kernel_rfl⟩) (fun _ => ?_)
  refine TL.run 7 [] [(4, .pointer (some ⟨b3, 0, none⟩)), (5, .int .i64 r1.2)] rfl ⟨by kernel_rfl, by kernel_rfl⟩ ?_
  refine TL.next rfl ?_
  refine TC.ret ?_
  have e : bias_Apply p b_ = (r1.1, r1.2) := by subst hr1; unfold bias_Apply; exact rfl
  exact TE.ret [0] (.tuple #[Plot.v r1.1, .int .i64 r1.2]) ⟨by kernel_rfl, by kernel_rfl⟩ (by rw [e]; first | done | kernel_rfl)

end Go.Sky
