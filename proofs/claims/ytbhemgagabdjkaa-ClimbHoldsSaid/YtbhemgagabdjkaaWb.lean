/- Functions of the program, each with the Lean function that it computes. Conditions: none. -/
import Derived.Test.YtbhemgagabdjkaaFine
namespace Go.Sky
open Go Go.Eng Go.Proofs
def bias_Check (b_ : BiasOffset) : Int :=
  cond ((((((decide (b_.Range < (-10000))) || (decide (b_.Range > 10000))) || (decide (b_.Azimuth < (-2047)))) || (decide (b_.Azimuth > 2048))) || (decide (b_.Time < (-1000)))) || (decide (b_.Time > 1000))) (
    4) (
    0)

set_option maxRecDepth 100000 in
theorem bias_Check_w (b_ : BiasOffset) (w : World) : Calls Try.prog 53 #[BiasOffset.v b_] w (Ret w (.int .i64 (bias_Check b_))) := by
  refine calls_intro (vs := [BiasOffset.v b_]) (w := w) Try.func53 rfl Try.ntmps53 rfl ?_
  refine TC.weak [(0, BiasOffset.v b_)] (by kernel_rfl) ?_
  refine TC.seq ?_
  refine TC.region ?_
  refine TL.write 0 (fun b1 => [(1, .pointer (some ⟨b1, 0, none⟩))]) (fun b1 => [.inl (b1, .cells (BiasOffset.c b_) 30 (0, 0))]) (fun b1 => ⟨by kernel_rfl, by kernel_rfl⟩) (fun b1 => ?_)
  refine TL.run 2 [] [(1, .pointer (some ⟨b1, 0, none⟩))] rfl ⟨by kernel_rfl, by kernel_rfl⟩ ?_
  refine TL.next rfl ?_
  refine TC.seq ?_
  refine TC.seq ?_
  refine TC.region ?_
  refine TL.run 4 [0] [(1, .pointer (some ⟨b1, 0, none⟩)), (6, .bool (decide (b_.Range < (-10000))))] rfl ⟨by kernel_rfl, by kernel_rfl⟩ ?_
  refine TL.join 6 (decide (b_.Range < (-10000))) 8 [] [0] (fun β => [(1, .pointer (some ⟨b1, 0, none⟩)), (10, .bool (β || (decide (b_.Range > 10000))))]) (by kernel_rfl) rfl ⟨by kernel_rfl, by kernel_rfl⟩ ⟨by kernel_rfl, by kernel_rfl⟩ ?_
  refine TL.run 9 [] [(1, .pointer (some ⟨b1, 0, none⟩)), (11, .bool ((decide (b_.Range < (-10000))) || (decide (b_.Range > 10000))))] rfl ⟨by kernel_rfl, by kernel_rfl⟩ ?_
  refine TL.join 11 ((decide (b_.Range < (-10000))) || (decide (b_.Range > 10000))) 13 [] [0] (fun β => [(1, .pointer (some ⟨b1, 0, none⟩)), (15, .bool (β || (decide (b_.Azimuth < (-2047)))))]) (by kernel_rfl) rfl ⟨by kernel_rfl, by kernel_rfl⟩ ⟨by kernel_rfl, by kernel_rfl⟩ ?_
  refine TL.run 14 [] [(1, .pointer (some ⟨b1, 0, none⟩)), (16, .bool (((decide (b_.Range < (-10000))) || (decide (b_.Range > 10000))) || (decide (b_.Azimuth < (-2047)))))] rfl ⟨by kernel_rfl, by kernel_rfl⟩ ?_
  refine TL.join 16 (((decide (b_.Range < (-10000))) || (decide (b_.Range > 10000))) || (decide (b_.Azimuth < (-2047)))) 18 [] [0] (fun β => [(1, .pointer (some ⟨b1, 0, none⟩)), (20, .bool (β || (decide (b_.Azimuth > 2048))))]) (by kernel_rfl) rfl ⟨by kernel_rfl, by kernel_rfl⟩ ⟨by kernel_rfl, by kernel_rfl⟩ ?_
  refine TL.run 19 [] [(1, .pointer (some ⟨b1, 0, none⟩)), (21, .bool ((((decide (b_.Range < (-10000))) || (decide (b_.Range > 10000))) || (decide (b_.Azimuth < (-2047)))) || (decide (b_.Azimuth > 2048))))] rfl ⟨by kernel_rfl, by kernel_rfl⟩ ?_
  refine TL.join 21 ((((decide (b_.Range < (-10000))) || (decide (b_.Range > 10000))) || (decide (b_.Azimuth < (-2047)))) || (decide (b_.Azimuth > 2048))) 23 [] [0] (fun β => [(1, .pointer (some ⟨b1, 0, none⟩)), (25, .bool (β || (decide (b_.Time < (-1000)))))]) (by kernel_rfl) rfl ⟨by kernel_rfl, by kernel_rfl⟩ ⟨by kernel_rfl, by kernel_rfl⟩ ?_
  refine TL.run 24 [] [(1, .pointer (some ⟨b1, 0, none⟩)), (26, .bool (((((decide (b_.Range < (-10000))) || (decide (b_.Range > 10000))) || (decide (b_.Azimuth < (-2047)))) || (decide (b_.Azimuth > 2048))) || (decide (b_.Time < (-1000)))))] rfl ⟨by kernel_rfl, by kernel_rfl⟩ ?_
  refine TL.join 26 (((((decide (b_.Range < (-10000))) || (decide (b_.Range > 10000))) || (decide (b_.Azimuth < (-2047)))) || (decide (b_.Azimuth > 2048))) || (decide (b_.Time < (-1000)))) 28 [] [0] (fun β => [(30, .bool (β || (decide (b_.Time > 1000))))]) (by kernel_rfl) rfl ⟨by kernel_rfl, by kernel_rfl⟩ ⟨by kernel_rfl, by kernel_rfl⟩ ?_
  refine TL.next rfl ?_
  refine TC.cond ((((((decide (b_.Range < (-10000))) || (decide (b_.Range > 10000))) || (decide (b_.Azimuth < (-2047)))) || (decide (b_.Azimuth > 2048))) || (decide (b_.Time < (-1000)))) || (decide (b_.Time > 1000))) rfl (by kernel_rfl) (fun h1 => ?_) (fun h1 => ?_)
  · refine TC.seq ?_
    refine TC.region ?_
    refine TL.run 1 [] [(2, .int .i64 4)] rfl ⟨by kernel_rfl, by kernel_rfl⟩ ?_
    refine TL.next rfl ?_
    refine TC.ret ?_
    refine TE.ret_then ?_
    have e : bias_Check b_ = 4 := by unfold bias_Check; exact cond_t h1 (rfl)
    exact TE.ret [] (.int .i64 4) ⟨by kernel_rfl, by kernel_rfl⟩ (by rw [e]; first | done | kernel_rfl)
  · refine TC.skip ?_
    refine TE.next ?_
    refine TC.seq ?_
    refine TC.region ?_
    refine TL.run 1 [] [(2, .int .i64 0)] rfl ⟨by kernel_rfl, by kernel_rfl⟩ ?_
    refine TL.next rfl ?_
    refine TC.ret ?_
    have e : bias_Check b_ = 0 := by unfold bias_Check; exact cond_f h1 (rfl)
    exact TE.ret [] (.int .i64 0) ⟨by kernel_rfl, by kernel_rfl⟩ (by rw [e]; first | done | kernel_rfl)

def radar_Check (s : RadarSite) : Int :=
  let r1 := radar_out s.ID 0 255
  cond r1 (
    4) (
    let r2 := plane_Check s.At
    cond (r2 != 0) (
      4) (
      let r3 := radar_out s.Reach 1 1000000
      cond r3 (
        4) (
        let r4 := radar_out s.RangeError 1 10000
        cond r4 (
          4) (
          let r5 := radar_out s.AzimuthError 1 100
          cond r5 (
            4) (
            0)))))

set_option maxRecDepth 100000 in
theorem radar_Check_w (s : RadarSite) (w : World) : Calls Try.prog 46 #[RadarSite.v s] w (Ret w (.int .i64 (radar_Check s))) := by
  refine calls_intro (vs := [RadarSite.v s]) (w := w) Try.func46 rfl Try.ntmps46 rfl ?_
  refine TC.weak [(0, RadarSite.v s)] (by kernel_rfl) ?_
  refine TC.seq ?_
  refine TC.region ?_
  refine TL.write 0 (fun b1 => [(1, .pointer (some ⟨b1, 0, none⟩))]) (fun b1 => [.inl (b1, .cells (RadarSite.c s) 42 (0, 0))]) (fun b1 => ⟨by kernel_rfl, by kernel_rfl⟩) (fun b1 => ?_)
  refine TL.run 2 [] [(1, .pointer (some ⟨b1, 0, none⟩))] rfl ⟨by kernel_rfl, by kernel_rfl⟩ ?_
  refine TL.next rfl ?_
  refine TC.seq ?_
  refine TC.seq ?_
  refine TC.region ?_
  refine TL.run 2 [0] [(1, .pointer (some ⟨b1, 0, none⟩)), (4, .int .i64 s.ID)] rfl ⟨by kernel_rfl, by kernel_rfl⟩ ?_
  refine TL.call (some 5) [(1, .pointer (some ⟨b1, 0, none⟩)), (5, .bool ((radar_out s.ID 0 255)))] (fun w _ => radar_out_w s.ID 0 255 w) (by kernel_rfl) (by kernel_rfl) ?_
  generalize hr1 : radar_out s.ID 0 255 = r1
  refine TL.run 4 [] [(1, .pointer (some ⟨b1, 0, none⟩)), (6, .bool r1)] rfl ⟨by kernel_rfl, by kernel_rfl⟩ ?_
  refine TL.split 6 r1 (by kernel_rfl) (fun h1 => ?_) (fun h1 => ?_)
  · refine TL.run 24 [] [(26, .bool true)] rfl ⟨by kernel_rfl, by kernel_rfl⟩ ?_
    refine TL.next rfl ?_
    refine TC.condT rfl (by kernel_rfl) ?_
    refine TC.seq ?_
    refine TC.region ?_
    refine TL.run 1 [] [(2, .int .i64 4)] rfl ⟨by kernel_rfl, by kernel_rfl⟩ ?_
    refine TL.next rfl ?_
    refine TC.ret ?_
    refine TE.ret_then ?_
    have e : radar_Check s = 4 := by subst hr1; unfold radar_Check; exact cond_t h1 (rfl)
    exact TE.ret [] (.int .i64 4) ⟨by kernel_rfl, by kernel_rfl⟩ (by rw [e]; first | done | kernel_rfl)
  · refine TL.run 6 [0] [(1, .pointer (some ⟨b1, 0, none⟩)), (6, .bool false), (8, P.v s.At)] rfl ⟨by kernel_rfl, by kernel_rfl⟩ ?_
    refine TL.call (some 9) [(1, .pointer (some ⟨b1, 0, none⟩)), (6, .bool false), (9, .int .i64 (plane_Check s.At))] (fun w _ => plane_Check_w s.At w) (by kernel_rfl) (by kernel_rfl) ?_
    generalize hr2 : plane_Check s.At = r2
    refine TL.run 10 [] [(1, .pointer (some ⟨b1, 0, none⟩)), (12, .bool (r2 != 0))] rfl ⟨by kernel_rfl, by kernel_rfl⟩ ?_
    refine TL.split 12 (r2 != 0) (by kernel_rfl) (fun h2 => ?_) (fun h2 => ?_)
    · refine TL.run 24 [] [(26, .bool true)] rfl ⟨by kernel_rfl, by kernel_rfl⟩ ?_
      refine TL.next rfl ?_
      refine TC.condT rfl (by kernel_rfl) ?_
      refine TC.seq ?_
      refine TC.region ?_
      refine TL.run 1 [] [(2, .int .i64 4)] rfl ⟨by kernel_rfl, by kernel_rfl⟩ ?_
      refine TL.next rfl ?_
      refine TC.ret ?_
      refine TE.ret_then ?_
      have e : radar_Check s = 4 := by subst hr1 hr2; unfold radar_Check; exact cond_f h1 (cond_t h2 (rfl))
      exact TE.ret [] (.int .i64 4) ⟨by kernel_rfl, by kernel_rfl⟩ (by rw [e]; first | done | kernel_rfl)
    · refine TL.run 12 [0] [(1, .pointer (some ⟨b1, 0, none⟩)), (12, .bool false), (14, .int .i64 s.Reach)] rfl ⟨by kernel_rfl, by kernel_rfl⟩ ?_
      refine TL.call (some 15) [(1, .pointer (some ⟨b1, 0, none⟩)), (12, .bool false), (15, .bool ((radar_out s.Reach 1 1000000)))] (fun w _ => radar_out_w s.Reach 1 1000000 w) (by kernel_rfl) (by kernel_rfl) ?_
      generalize hr3 : radar_out s.Reach 1 1000000 = r3
      refine TL.run 15 [] [(1, .pointer (some ⟨b1, 0, none⟩)), (17, .bool r3)] rfl ⟨by kernel_rfl, by kernel_rfl⟩ ?_
      refine TL.split 17 r3 (by kernel_rfl) (fun h3 => ?_) (fun h3 => ?_)
      · refine TL.run 24 [] [(26, .bool true)] rfl ⟨by kernel_rfl, by kernel_rfl⟩ ?_
        refine TL.next rfl ?_
        refine TC.condT rfl (by kernel_rfl) ?_
        refine TC.seq ?_
        refine TC.region ?_
        refine TL.run 1 [] [(2, .int .i64 4)] rfl ⟨by kernel_rfl, by kernel_rfl⟩ ?_
        refine TL.next rfl ?_
        refine TC.ret ?_
        refine TE.ret_then ?_
        have e : radar_Check s = 4 := by subst hr1 hr2 hr3; unfold radar_Check; exact cond_f h1 (cond_f h2 (cond_t h3 (rfl)))
        exact TE.ret [] (.int .i64 4) ⟨by kernel_rfl, by kernel_rfl⟩ (by rw [e]; first | done | kernel_rfl)
      · refine TL.run 17 [0] [(1, .pointer (some ⟨b1, 0, none⟩)), (17, .bool false), (19, .int .i64 s.RangeError)] rfl ⟨by kernel_rfl, by kernel_rfl⟩ ?_
        refine TL.call (some 20) [(1, .pointer (some ⟨b1, 0, none⟩)), (17, .bool false), (20, .bool ((radar_out s.RangeError 1 10000)))] (fun w _ => radar_out_w s.RangeError 1 10000 w) (by kernel_rfl) (by kernel_rfl) ?_
        generalize hr4 : radar_out s.RangeError 1 10000 = r4
        refine TL.run 20 [] [(1, .pointer (some ⟨b1, 0, none⟩)), (22, .bool r4)] rfl ⟨by kernel_rfl, by kernel_rfl⟩ ?_
        refine TL.split 22 r4 (by kernel_rfl) (fun h4 => ?_) (fun h4 => ?_)
        · refine TL.run 24 [] [(26, .bool true)] rfl ⟨by kernel_rfl, by kernel_rfl⟩ ?_
          refine TL.next rfl ?_
          refine TC.condT rfl (by kernel_rfl) ?_
          refine TC.seq ?_
          refine TC.region ?_
          refine TL.run 1 [] [(2, .int .i64 4)] rfl ⟨by kernel_rfl, by kernel_rfl⟩ ?_
          refine TL.next rfl ?_
          refine TC.ret ?_
          refine TE.ret_then ?_
          have e : radar_Check s = 4 := by subst hr1 hr2 hr3 hr4; unfold radar_Check; exact cond_f h1 (cond_f h2 (cond_f h3 (cond_t h4 (rfl))))
          exact TE.ret [] (.int .i64 4) ⟨by kernel_rfl, by kernel_rfl⟩ (by rw [e]; first | done | kernel_rfl)
        · refine TL.run 22 [0] [(22, .bool false), (24, .int .i64 s.AzimuthError)] rfl ⟨by kernel_rfl, by kernel_rfl⟩ ?_
          refine TL.call (some 25) [(22, .bool false), (25, .bool ((radar_out s.AzimuthError 1 100)))] (fun w _ => radar_out_w s.AzimuthError 1 100 w) (by kernel_rfl) (by kernel_rfl) ?_
          generalize hr5 : radar_out s.AzimuthError 1 100 = r5
          refine TL.run 24 [] [(26, .bool r5)] rfl ⟨by kernel_rfl, by kernel_rfl⟩ ?_
          refine TL.next rfl ?_
          refine TC.cond r5 rfl (by kernel_rfl) (fun h5 => ?_) (fun h5 => ?_)
          · refine TC.seq ?_
            refine TC.region ?_
            refine TL.run 1 [] [(2, .int .i64 4)] rfl ⟨by kernel_rfl, by kernel_rfl⟩ ?_
            refine TL.next rfl ?_
            refine TC.ret ?_
            refine TE.ret_then ?_
            have e : radar_Check s = 4 := by subst hr1 hr2 hr3 hr4 hr5; unfold radar_Check; exact cond_f h1 (cond_f h2 (cond_f h3 (cond_f h4 (cond_t h5 (rfl)))))
            exact TE.ret [] (.int .i64 4) ⟨by kernel_rfl, by kernel_rfl⟩ (by rw [e]; first | done | kernel_rfl)
          · refine TC.skip ?_
            refine TE.next ?_
            refine TC.seq ?_
            refine TC.region ?_
            refine TL.run 1 [] [(2, .int .i64 0)] rfl ⟨by kernel_rfl, by kernel_rfl⟩ ?_
            refine TL.next rfl ?_
            refine TC.ret ?_
            have e : radar_Check s = 0 := by subst hr1 hr2 hr3 hr4 hr5; unfold radar_Check; exact cond_f h1 (cond_f h2 (cond_f h3 (cond_f h4 (cond_f h5 (rfl)))))
            exact TE.ret [] (.int .i64 0) ⟨by kernel_rfl, by kernel_rfl⟩ (by rw [e]; first | done | kernel_rfl)

def radar_CheckPlot (p : Plot) : Int :=
  let r1 := radar_out p.Radar 0 255
  cond r1 (
    4) (
    let r2 := radar_out p.Time 0 200000
    cond r2 (
      4) (
      let r3 := radar_out p.Range 0 2000000
      cond r3 (
        4) (
        let r4 := radar_out p.Azimuth 0 4095
        cond r4 (
          4) (
          let r5 := radar_out p.Height 0 60000
          cond r5 (
            4) (
            let r6 := radar_out p.Code (-1) 4095
            cond r6 (
              4) (
              0))))))

set_option maxRecDepth 100000 in
theorem radar_CheckPlot_w (p : Plot) (w : World) : Calls Try.prog 54 #[Plot.v p] w (Ret w (.int .i64 (radar_CheckPlot p))) := by
  refine calls_intro (vs := [Plot.v p]) (w := w) Try.func54 rfl Try.ntmps54 rfl ?_
  refine TC.weak [(0, Plot.v p)] (by kernel_rfl) ?_
  refine TC.seq ?_
  refine TC.region ?_
  refine TL.write 0 (fun b1 => [(1, .pointer (some ⟨b1, 0, none⟩))]) (fun b1 => [.inl (b1, .cells (Plot.c p) 28 (0, 0))]) (fun b1 => ⟨by kernel_rfl, by kernel_rfl⟩) (fun b1 => ?_)
  refine TL.run 2 [] [(1, .pointer (some ⟨b1, 0, none⟩))] rfl ⟨by kernel_rfl, by kernel_rfl⟩ ?_
  refine TL.next rfl ?_
  refine TC.seq ?_
  refine TC.seq ?_
  refine TC.region ?_
  refine TL.run 2 [0] [(1, .pointer (some ⟨b1, 0, none⟩)), (4, .int .i64 p.Radar)] rfl ⟨by kernel_rfl, by kernel_rfl⟩ ?_
  refine TL.call (some 5) [(1, .pointer (some ⟨b1, 0, none⟩)), (5, .bool ((radar_out p.Radar 0 255)))] (fun w _ => radar_out_w p.Radar 0 255 w) (by kernel_rfl) (by kernel_rfl) ?_
  generalize hr1 : radar_out p.Radar 0 255 = r1
  refine TL.run 4 [] [(1, .pointer (some ⟨b1, 0, none⟩)), (6, .bool r1)] rfl ⟨by kernel_rfl, by kernel_rfl⟩ ?_
  refine TL.split 6 r1 (by kernel_rfl) (fun h1 => ?_) (fun h1 => ?_)
  · refine TL.run 28 [] [(30, .bool true)] rfl ⟨by kernel_rfl, by kernel_rfl⟩ ?_
    refine TL.next rfl ?_
    refine TC.condT rfl (by kernel_rfl) ?_
    refine TC.seq ?_
    refine TC.region ?_
    refine TL.run 1 [] [(2, .int .i64 4)] rfl ⟨by kernel_rfl, by kernel_rfl⟩ ?_
    refine TL.next rfl ?_
    refine TC.ret ?_
    refine TE.ret_then ?_
    have e : radar_CheckPlot p = 4 := by subst hr1; unfold radar_CheckPlot; exact cond_t h1 (rfl)
    exact TE.ret [] (.int .i64 4) ⟨by kernel_rfl, by kernel_rfl⟩ (by rw [e]; first | done | kernel_rfl)
  · refine TL.run 6 [0] [(1, .pointer (some ⟨b1, 0, none⟩)), (6, .bool false), (8, .int .i64 p.Time)] rfl ⟨by kernel_rfl, by kernel_rfl⟩ ?_
    refine TL.call (some 9) [(1, .pointer (some ⟨b1, 0, none⟩)), (6, .bool false), (9, .bool ((radar_out p.Time 0 200000)))] (fun w _ => radar_out_w p.Time 0 200000 w) (by kernel_rfl) (by kernel_rfl) ?_
    generalize hr2 : radar_out p.Time 0 200000 = r2
    refine TL.run 9 [] [(1, .pointer (some ⟨b1, 0, none⟩)), (11, .bool r2)] rfl ⟨by kernel_rfl, by kernel_rfl⟩ ?_
    refine TL.split 11 r2 (by kernel_rfl) (fun h2 => ?_) (fun h2 => ?_)
    · refine TL.run 28 [] [(30, .bool true)] rfl ⟨by kernel_rfl, by kernel_rfl⟩ ?_
      refine TL.next rfl ?_
      refine TC.condT rfl (by kernel_rfl) ?_
      refine TC.seq ?_
      refine TC.region ?_
      refine TL.run 1 [] [(2, .int .i64 4)] rfl ⟨by kernel_rfl, by kernel_rfl⟩ ?_
      refine TL.next rfl ?_
      refine TC.ret ?_
      refine TE.ret_then ?_
      have e : radar_CheckPlot p = 4 := by subst hr1 hr2; unfold radar_CheckPlot; exact cond_f h1 (cond_t h2 (rfl))
      exact TE.ret [] (.int .i64 4) ⟨by kernel_rfl, by kernel_rfl⟩ (by rw [e]; first | done | kernel_rfl)
    · refine TL.run 11 [0] [(1, .pointer (some ⟨b1, 0, none⟩)), (11, .bool false), (13, .int .i64 p.Range)] rfl ⟨by kernel_rfl, by kernel_rfl⟩ ?_
      refine TL.call (some 14) [(1, .pointer (some ⟨b1, 0, none⟩)), (11, .bool false), (14, .bool ((radar_out p.Range 0 2000000)))] (fun w _ => radar_out_w p.Range 0 2000000 w) (by kernel_rfl) (by kernel_rfl) ?_
      generalize hr3 : radar_out p.Range 0 2000000 = r3
      refine TL.run 14 [] [(1, .pointer (some ⟨b1, 0, none⟩)), (16, .bool r3)] rfl ⟨by kernel_rfl, by kernel_rfl⟩ ?_
      refine TL.split 16 r3 (by kernel_rfl) (fun h3 => ?_) (fun h3 => ?_)
      · refine TL.run 28 [] [(30, .bool true)] rfl ⟨by kernel_rfl, by kernel_rfl⟩ ?_
        refine TL.next rfl ?_
        refine TC.condT rfl (by kernel_rfl) ?_
        refine TC.seq ?_
        refine TC.region ?_
        refine TL.run 1 [] [(2, .int .i64 4)] rfl ⟨by kernel_rfl, by kernel_rfl⟩ ?_
        refine TL.next rfl ?_
        refine TC.ret ?_
        refine TE.ret_then ?_
        have e : radar_CheckPlot p = 4 := by subst hr1 hr2 hr3; unfold radar_CheckPlot; exact cond_f h1 (cond_f h2 (cond_t h3 (rfl)))
        exact TE.ret [] (.int .i64 4) ⟨by kernel_rfl, by kernel_rfl⟩ (by rw [e]; first | done | kernel_rfl)
      · refine TL.run 16 [0] [(1, .pointer (some ⟨b1, 0, none⟩)), (16, .bool false), (18, .int .i64 p.Azimuth)] rfl ⟨by kernel_rfl, by kernel_rfl⟩ ?_
        refine TL.call (some 19) [(1, .pointer (some ⟨b1, 0, none⟩)), (16, .bool false), (19, .bool ((radar_out p.Azimuth 0 4095)))] (fun w _ => radar_out_w p.Azimuth 0 4095 w) (by kernel_rfl) (by kernel_rfl) ?_
        generalize hr4 : radar_out p.Azimuth 0 4095 = r4
        refine TL.run 19 [] [(1, .pointer (some ⟨b1, 0, none⟩)), (21, .bool r4)] rfl ⟨by kernel_rfl, by kernel_rfl⟩ ?_
        refine TL.split 21 r4 (by kernel_rfl) (fun h4 => ?_) (fun h4 => ?_)
        · refine TL.run 28 [] [(30, .bool true)] rfl ⟨by kernel_rfl, by kernel_rfl⟩ ?_
          refine TL.next rfl ?_
          refine TC.condT rfl (by kernel_rfl) ?_
          refine TC.seq ?_
          refine TC.region ?_
          refine TL.run 1 [] [(2, .int .i64 4)] rfl ⟨by kernel_rfl, by kernel_rfl⟩ ?_
          refine TL.next rfl ?_
          refine TC.ret ?_
          refine TE.ret_then ?_
          have e : radar_CheckPlot p = 4 := by subst hr1 hr2 hr3 hr4; unfold radar_CheckPlot; exact cond_f h1 (cond_f h2 (cond_f h3 (cond_t h4 (rfl))))
          exact TE.ret [] (.int .i64 4) ⟨by kernel_rfl, by kernel_rfl⟩ (by rw [e]; first | done | kernel_rfl)
        · refine TL.run 21 [0] [(1, .pointer (some ⟨b1, 0, none⟩)), (21, .bool false), (23, .int .i64 p.Height)] rfl ⟨by kernel_rfl, by kernel_rfl⟩ ?_
          refine TL.call (some 24) [(1, .pointer (some ⟨b1, 0, none⟩)), (21, .bool false), (24, .bool ((radar_out p.Height 0 60000)))] (fun w _ => radar_out_w p.Height 0 60000 w) (by kernel_rfl) (by kernel_rfl) ?_
          generalize hr5 : radar_out p.Height 0 60000 = r5
          refine TL.run 24 [] [(1, .pointer (some ⟨b1, 0, none⟩)), (26, .bool r5)] rfl ⟨by kernel_rfl, by kernel_rfl⟩ ?_
          refine TL.split 26 r5 (by kernel_rfl) (fun h5 => ?_) (fun h5 => ?_)
          · refine TL.run 28 [] [(30, .bool true)] rfl ⟨by kernel_rfl, by kernel_rfl⟩ ?_
            refine TL.next rfl ?_
            refine TC.condT rfl (by kernel_rfl) ?_
            refine TC.seq ?_
            refine TC.region ?_
            refine TL.run 1 [] [(2, .int .i64 4)] rfl ⟨by kernel_rfl, by kernel_rfl⟩ ?_
            refine TL.next rfl ?_
            refine TC.ret ?_
            refine TE.ret_then ?_
            have e : radar_CheckPlot p = 4 := by subst hr1 hr2 hr3 hr4 hr5; unfold radar_CheckPlot; exact cond_f h1 (cond_f h2 (cond_f h3 (cond_f h4 (cond_t h5 (rfl)))))
            exact TE.ret [] (.int .i64 4) ⟨by kernel_rfl, by kernel_rfl⟩ (by rw [e]; first | done | kernel_rfl)
          · refine TL.run 26 [0] [(26, .bool false), (28, .int .i64 p.Code)] rfl ⟨by kernel_rfl, by kernel_rfl⟩ ?_
            refine TL.call (some 29) [(26, .bool false), (29, .bool ((radar_out p.Code (-1) 4095)))] (fun w _ => radar_out_w p.Code (-1) 4095 w) (by kernel_rfl) (by kernel_rfl) ?_
            generalize hr6 : radar_out p.Code (-1) 4095 = r6
            refine TL.run 28 [] [(30, .bool r6)] rfl ⟨by kernel_rfl, by kernel_rfl⟩ ?_
            refine TL.next rfl ?_
            refine TC.cond r6 rfl (by kernel_rfl) (fun h6 => ?_) (fun h6 => ?_)
            · refine TC.seq ?_
              refine TC.region ?_
              refine TL.run 1 [] [(2, .int .i64 4)] rfl ⟨by kernel_rfl, by kernel_rfl⟩ ?_
              refine TL.next rfl ?_
              refine TC.ret ?_
              refine TE.ret_then ?_
              have e : radar_CheckPlot p = 4 := by subst hr1 hr2 hr3 hr4 hr5 hr6; unfold radar_CheckPlot; exact cond_f h1 (cond_f h2 (cond_f h3 (cond_f h4 (cond_f h5 (cond_t h6 (rfl))))))
              exact TE.ret [] (.int .i64 4) ⟨by kernel_rfl, by kernel_rfl⟩ (by rw [e]; first | done | kernel_rfl)
            · refine TC.skip ?_
              refine TE.next ?_
              refine TC.seq ?_
              refine TC.region ?_
              refine TL.run 1 [] [(2, .int .i64 0)] rfl ⟨by kernel_rfl, by kernel_rfl⟩ ?_
              refine TL.next rfl ?_
              refine TC.ret ?_
              have e : radar_CheckPlot p = 0 := by subst hr1 hr2 hr3 hr4 hr5 hr6; unfold radar_CheckPlot; exact cond_f h1 (cond_f h2 (cond_f h3 (cond_f h4 (cond_f h5 (cond_f h6 (rfl))))))
              exact TE.ret [] (.int .i64 0) ⟨by kernel_rfl, by kernel_rfl⟩ (by rw [e]; first | done | kernel_rfl)

def angle_Norm (h_ : Int) : Int :=
  (w64 ((h_.tmod 4096) + 4096)).tmod 4096

set_option maxRecDepth 100000 in
theorem angle_Norm_w (h_ : Int) (w : World) : Calls Try.prog 55 #[.int .i64 h_] w (Ret w (.int .i64 (angle_Norm h_))) := by
  refine calls_intro (vs := [.int .i64 h_]) (w := w) Try.func55 rfl Try.ntmps55 rfl ?_
  refine TC.weak [(0, .int .i64 h_)] (by kernel_rfl) ?_
  refine TC.seq ?_
  refine TC.region ?_
  refine TL.run 1 [] [(0, .int .i64 h_)] rfl ⟨by kernel_rfl, by kernel_rfl⟩ ?_
  refine TL.next rfl ?_
  refine TC.seq ?_
  refine TC.region ?_
  refine TL.run 5 [] [(2, .int .i64 ((w64 ((h_.tmod 4096) + 4096)).tmod 4096))] rfl ⟨by kernel_rfl, by kernel_rfl⟩ ?_
  refine TL.next rfl ?_
  refine TC.ret ?_
  have e : angle_Norm h_ = ((w64 ((h_.tmod 4096) + 4096)).tmod 4096) := by unfold angle_Norm; exact rfl
  exact TE.ret [] (.int .i64 ((w64 ((h_.tmod 4096) + 4096)).tmod 4096)) ⟨by kernel_rfl, by kernel_rfl⟩ (by rw [e]; first | done | kernel_rfl)

def bias_moved (p : Plot) (b_ : BiasOffset) (sign : Int) : Plot × Int :=
  let r1 := bias_Check b_
  cond (r1 != 0) (
    ((⟨0, 0, 0, 0, 0, 0⟩ : Plot), r1)) (
    let r2 := radar_CheckPlot p
    cond (r2 != 0) (
      ((⟨0, 0, 0, 0, 0, 0⟩ : Plot), r2)) (
      let r3 := angle_Norm (w64 (p.Azimuth + (w64 (sign * b_.Azimuth))))
      let r4 := radar_CheckPlot (⟨p.Radar, w64 (p.Time + (w64 (sign * b_.Time))), w64 (p.Range + (w64 (sign * b_.Range))), r3, p.Height, p.Code⟩ : Plot)
      cond (r4 != 0) (
        ((⟨0, 0, 0, 0, 0, 0⟩ : Plot), 8)) (
        ((⟨p.Radar, w64 (p.Time + (w64 (sign * b_.Time))), w64 (p.Range + (w64 (sign * b_.Range))), r3, p.Height, p.Code⟩ : Plot), 0))))

set_option maxRecDepth 100000 in
theorem bias_moved_w (p : Plot) (b_ : BiasOffset) (sign : Int) (w : World) : Calls Try.prog 40 #[Plot.v p, BiasOffset.v b_, .int .i64 sign] w (Ret w (.tuple #[Plot.v ((bias_moved p b_ sign).1), .int .i64 ((bias_moved p b_ sign).2)])) := by
  refine calls_intro (vs := [Plot.v p, BiasOffset.v b_, .int .i64 sign]) (w := w) Try.func40 rfl Try.ntmps40 rfl ?_
  refine TC.weak [(0, Plot.v p), (1, BiasOffset.v b_), (2, .int .i64 sign)] (by kernel_rfl) ?_
  refine TC.seq ?_
  refine TC.region ?_
  refine TL.write 0 (fun b1 => [(1, BiasOffset.v b_), (2, .int .i64 sign), (3, .pointer (some ⟨b1, 0, none⟩))]) (fun b1 => [.inl (b1, .cells (Plot.c p) 28 (0, 0))]) (fun b1 => ⟨by kernel_rfl, by kernel_rfl⟩) (fun b1 => ?_)
  refine TL.write 0 (fun b2 => [(2, .int .i64 sign), (3, .pointer (some ⟨b1, 0, none⟩)), (4, .pointer (some ⟨b2, 0, none⟩))]) (fun b2 => [.inl (b2, .cells (BiasOffset.c b_) 30 (0, 0)), .inl (b1, .cells (Plot.c p) 28 (0, 0))]) (fun b2 => ⟨by kernel_rfl, by kernel_rfl⟩) (fun b2 => ?_)
  refine TL.write 0 (fun b3 => [(2, .int .i64 sign), (3, .pointer (some ⟨b1, 0, none⟩)), (4, .pointer (some ⟨b2, 0, none⟩)), (6, .pointer (some ⟨b3, 0, none⟩))]) (fun b3 => [.inl (b3, .cells (Plot.c Plot.zero) 28 (0, 0)), .inl (b2, .cells (BiasOffset.c b_) 30 (0, 0)), .inl (b1, .cells (Plot.c p) 28 (0, 0))]) (fun b3 => ⟨by kernel_rfl, by kernel_rfl⟩) (fun b3 => ?_)
  refine TL.run 4 [] [(2, .int .i64 sign), (3, .pointer (some ⟨b1, 0, none⟩)), (4, .pointer (some ⟨b2, 0, none⟩)), (6, .pointer (some ⟨b3, 0, none⟩))] rfl ⟨by kernel_rfl, by kernel_rfl⟩ ?_
  refine TL.next rfl ?_
  refine TC.seq ?_
  refine TC.seq ?_
  refine TC.region ?_
  refine TL.run 1 [1] [(2, .int .i64 sign), (3, .pointer (some ⟨b1, 0, none⟩)), (4, .pointer (some ⟨b2, 0, none⟩)), (6, .pointer (some ⟨b3, 0, none⟩)), (10, BiasOffset.v b_)] rfl ⟨by kernel_rfl, by kernel_rfl⟩ ?_
  refine TL.call (some 11) [(2, .int .i64 sign), (3, .pointer (some ⟨b1, 0, none⟩)), (4, .pointer (some ⟨b2, 0, none⟩)), (6, .pointer (some ⟨b3, 0, none⟩)), (11, .int .i64 (bias_Check b_))] (fun w _ => bias_Check_w b_ w) (by kernel_rfl) (by kernel_rfl) ?_
  generalize hr1 : bias_Check b_ = r1
  refine TL.run 3 [] [(2, .int .i64 sign), (3, .pointer (some ⟨b1, 0, none⟩)), (4, .pointer (some ⟨b2, 0, none⟩)), (6, .pointer (some ⟨b3, 0, none⟩)), (8, .int .i64 r1)] rfl ⟨by kernel_rfl, by kernel_rfl⟩ ?_
  refine TL.next rfl ?_
  refine TC.seq ?_
  refine TC.region ?_
  refine TL.run 2 [] [(2, .int .i64 sign), (3, .pointer (some ⟨b1, 0, none⟩)), (4, .pointer (some ⟨b2, 0, none⟩)), (6, .pointer (some ⟨b3, 0, none⟩)), (8, .int .i64 r1), (13, .bool (r1 != 0))] rfl ⟨by kernel_rfl, by kernel_rfl⟩ ?_
  refine TL.next rfl ?_
  refine TC.cond (r1 != 0) rfl (by kernel_rfl) (fun h1 => ?_) (fun h1 => ?_)
  · refine TC.seq ?_
    refine TC.region ?_
    refine TL.run 2 [] [(6, .pointer (some ⟨b3, 0, none⟩)), (14, Plot.v Plot.zero), (15, .int .i64 r1)] rfl ⟨by kernel_rfl, by kernel_rfl⟩ ?_
    refine TL.write 0 (fun _ => [(6, .pointer (some ⟨b3, 0, none⟩)), (15, .int .i64 r1)]) (fun _ => [.inl (b3, .cells (Plot.c Plot.zero) 28 (0, 0)), .inl (b2, .cells (BiasOffset.c b_) 30 (0, 0)), .inl (b1, .cells (Plot.c p) 28 (0, 0))]) (fun _ => ⟨by kernel_rfl, by kernel_rfl⟩) (fun _ => ?_)
    refine TL.run 4 [] [(6, .pointer (some ⟨b3, 0, none⟩)), (7, .int .i64 r1)] rfl ⟨by kernel_rfl, by kernel_rfl⟩ ?_
    refine TL.next rfl ?_
    refine TC.ret ?_
    refine TE.ret_then ?_
    have e : bias_moved p b_ sign = ((⟨0, 0, 0, 0, 0, 0⟩ : Plot), r1) := by subst hr1; unfold bias_moved; exact cond_t h1 (rfl)
    exact TE.ret [0] (.tuple #[.agg #[.int .i64 0, .int .i64 0, .int .i64 0, .int .i64 0, .int .i64 0, .int .i64 0], .int .i64 r1]) ⟨by kernel_rfl, by kernel_rfl⟩ (by rw [e]; first | done | kernel_rfl)
  · refine TC.skip ?_
    refine TE.next ?_
    refine TC.seq ?_
    refine TC.seq ?_
    refine TC.region ?_
    refine TL.run 1 [2] [(2, .int .i64 sign), (3, .pointer (some ⟨b1, 0, none⟩)), (4, .pointer (some ⟨b2, 0, none⟩)), (6, .pointer (some ⟨b3, 0, none⟩)), (16, Plot.v p)] rfl ⟨by kernel_rfl, by kernel_rfl⟩ ?_
    refine TL.call (some 17) [(2, .int .i64 sign), (3, .pointer (some ⟨b1, 0, none⟩)), (4, .pointer (some ⟨b2, 0, none⟩)), (6, .pointer (some ⟨b3, 0, none⟩)), (17, .int .i64 (radar_CheckPlot p))] (fun w _ => radar_CheckPlot_w p w) (by kernel_rfl) (by kernel_rfl) ?_
    generalize hr2 : radar_CheckPlot p = r2
    refine TL.run 3 [] [(2, .int .i64 sign), (3, .pointer (some ⟨b1, 0, none⟩)), (4, .pointer (some ⟨b2, 0, none⟩)), (6, .pointer (some ⟨b3, 0, none⟩)), (9, .int .i64 r2)] rfl ⟨by kernel_rfl, by kernel_rfl⟩ ?_
    refine TL.next rfl ?_
    refine TC.seq ?_
    refine TC.region ?_
    refine TL.run 2 [] [(2, .int .i64 sign), (3, .pointer (some ⟨b1, 0, none⟩)), (4, .pointer (some ⟨b2, 0, none⟩)), (6, .pointer (some ⟨b3, 0, none⟩)), (9, .int .i64 r2), (19, .bool (r2 != 0))] rfl ⟨by kernel_rfl, by kernel_rfl⟩ ?_
    refine TL.next rfl ?_
    refine TC.cond (r2 != 0) rfl (by kernel_rfl) (fun h2 => ?_) (fun h2 => ?_)
    · refine TC.seq ?_
      refine TC.region ?_
      refine TL.run 2 [] [(6, .pointer (some ⟨b3, 0, none⟩)), (20, Plot.v Plot.zero), (21, .int .i64 r2)] rfl ⟨by kernel_rfl, by kernel_rfl⟩ ?_
      refine TL.write 0 (fun _ => [(6, .pointer (some ⟨b3, 0, none⟩)), (21, .int .i64 r2)]) (fun _ => [.inl (b3, .cells (Plot.c Plot.zero) 28 (0, 0)), .inl (b2, .cells (BiasOffset.c b_) 30 (0, 0)), .inl (b1, .cells (Plot.c p) 28 (0, 0))]) (fun _ => ⟨by kernel_rfl, by kernel_rfl⟩) (fun _ => ?_)
      refine TL.run 4 [] [(6, .pointer (some ⟨b3, 0, none⟩)), (7, .int .i64 r2)] rfl ⟨by kernel_rfl, by kernel_rfl⟩ ?_
      refine TL.next rfl ?_
      refine TC.ret ?_
      refine TE.ret_then ?_
      have e : bias_moved p b_ sign = ((⟨0, 0, 0, 0, 0, 0⟩ : Plot), r2) := by subst hr1 hr2; unfold bias_moved; exact cond_f h1 (cond_t h2 (rfl))
      exact TE.ret [0] (.tuple #[.agg #[.int .i64 0, .int .i64 0, .int .i64 0, .int .i64 0, .int .i64 0, .int .i64 0], .int .i64 r2]) ⟨by kernel_rfl, by kernel_rfl⟩ (by rw [e]; first | done | kernel_rfl)
    · refine TC.skip ?_
      refine TE.next ?_
      refine TC.seq ?_
      refine TC.region ?_
      refine TL.run 8 [2, 1] [(2, .int .i64 sign), (3, .pointer (some ⟨b1, 0, none⟩)), (4, .pointer (some ⟨b2, 0, none⟩)), (6, .pointer (some ⟨b3, 0, none⟩)), (28, .int .i64 (w64 (p.Range + (w64 (sign * b_.Range))))), (29, .pointer (some ⟨b1, 2, none⟩))] rfl ⟨by kernel_rfl, by kernel_rfl⟩ ?_
      refine TL.write 2 (fun _ => [(2, .int .i64 sign), (3, .pointer (some ⟨b1, 0, none⟩)), (4, .pointer (some ⟨b2, 0, none⟩)), (6, .pointer (some ⟨b3, 0, none⟩))]) (fun _ => [.inl (b3, .cells (Plot.c Plot.zero) 28 (0, 0)), .inl (b2, .cells (BiasOffset.c b_) 30 (0, 0)), .inl (b1, .cells #[.int .i64 p.Radar, .int .i64 p.Time, .int .i64 (w64 (p.Range + (w64 (sign * b_.Range)))), .int .i64 p.Azimuth, .int .i64 p.Height, .int .i64 p.Code] 28 (0, 0))]) (fun _ => ⟨by kernel_rfl, by kernel_rfl⟩) (fun _ => ?_)
      refine TL.next rfl ?_
      refine TC.seq ?_
      refine TC.region ?_
      refine TL.run 8 [2, 1] [(2, .int .i64 sign), (3, .pointer (some ⟨b1, 0, none⟩)), (4, .pointer (some ⟨b2, 0, none⟩)), (6, .pointer (some ⟨b3, 0, none⟩)), (36, .int .i64 (w64 (p.Time + (w64 (sign * b_.Time))))), (37, .pointer (some ⟨b1, 1, none⟩))] rfl ⟨by kernel_rfl, by kernel_rfl⟩ ?_
      refine TL.write 2 (fun _ => [(2, .int .i64 sign), (3, .pointer (some ⟨b1, 0, none⟩)), (4, .pointer (some ⟨b2, 0, none⟩)), (6, .pointer (some ⟨b3, 0, none⟩))]) (fun _ => [.inl (b3, .cells (Plot.c Plot.zero) 28 (0, 0)), .inl (b2, .cells (BiasOffset.c b_) 30 (0, 0)), .inl (b1, .cells #[.int .i64 p.Radar, .int .i64 (w64 (p.Time + (w64 (sign * b_.Time)))), .int .i64 (w64 (p.Range + (w64 (sign * b_.Range)))), .int .i64 p.Azimuth, .int .i64 p.Height, .int .i64 p.Code] 28 (0, 0))]) (fun _ => ⟨by kernel_rfl, by kernel_rfl⟩) (fun _ => ?_)
      refine TL.next rfl ?_
      refine TC.seq ?_
      refine TC.region ?_
      refine TL.run 7 [2, 1] [(3, .pointer (some ⟨b1, 0, none⟩)), (6, .pointer (some ⟨b3, 0, none⟩)), (44, .int .i64 (w64 (p.Azimuth + (w64 (sign * b_.Azimuth)))))] rfl ⟨by kernel_rfl, by kernel_rfl⟩ ?_
      refine TL.call (some 45) [(3, .pointer (some ⟨b1, 0, none⟩)), (6, .pointer (some ⟨b3, 0, none⟩)), (45, .int .i64 (angle_Norm (w64 (p.Azimuth + (w64 (sign * b_.Azimuth))))))] (fun w _ => angle_Norm_w (w64 (p.Azimuth + (w64 (sign * b_.Azimuth)))) w) (by kernel_rfl) (by kernel_rfl) ?_
      generalize hr3 : angle_Norm (w64 (p.Azimuth + (w64 (sign * b_.Azimuth)))) = r3
      refine TL.run 9 [] [(3, .pointer (some ⟨b1, 0, none⟩)), (6, .pointer (some ⟨b3, 0, none⟩)), (45, .int .i64 r3), (46, .pointer (some ⟨b1, 3, none⟩))] rfl ⟨by kernel_rfl, by kernel_rfl⟩ ?_
      refine TL.write 2 (fun _ => [(3, .pointer (some ⟨b1, 0, none⟩)), (6, .pointer (some ⟨b3, 0, none⟩))]) (fun _ => [.inl (b3, .cells (Plot.c Plot.zero) 28 (0, 0)), .inl (b2, .cells (BiasOffset.c b_) 30 (0, 0)), .inl (b1, .cells #[.int .i64 p.Radar, .int .i64 (w64 (p.Time + (w64 (sign * b_.Time)))), .int .i64 (w64 (p.Range + (w64 (sign * b_.Range)))), .int .i64 r3, .int .i64 p.Height, .int .i64 p.Code] 28 (0, 0))]) (fun _ => ⟨by kernel_rfl, by kernel_rfl⟩) (fun _ => ?_)
      refine TL.next rfl ?_
      refine TC.seq ?_
      refine TC.seq ?_
      refine TC.region ?_
      refine TL.run 1 [2] [(3, .pointer (some ⟨b1, 0, none⟩)), (6, .pointer (some ⟨b3, 0, none⟩)), (47, .agg #[.int .i64 p.Radar, .int .i64 (w64 (p.Time + (w64 (sign * b_.Time)))), .int .i64 (w64 (p.Range + (w64 (sign * b_.Range)))), .int .i64 r3, .int .i64 p.Height, .int .i64 p.Code])] rfl ⟨by kernel_rfl, by kernel_rfl⟩ ?_
      refine TL.call (some 48) [(3, .pointer (some ⟨b1, 0, none⟩)), (6, .pointer (some ⟨b3, 0, none⟩)), (48, .int .i64 (radar_CheckPlot (⟨p.Radar, w64 (p.Time + (w64 (sign * b_.Time))), w64 (p.Range + (w64 (sign * b_.Range))), r3, p.Height, p.Code⟩ : Plot)))] (fun w _ => radar_CheckPlot_w (⟨p.Radar, w64 (p.Time + (w64 (sign * b_.Time))), w64 (p.Range + (w64 (sign * b_.Range))), r3, p.Height, p.Code⟩ : Plot) w) (by kernel_rfl) (by kernel_rfl) ?_
      generalize hr4 : radar_CheckPlot (⟨p.Radar, w64 (p.Time + (w64 (sign * b_.Time))), w64 (p.Range + (w64 (sign * b_.Range))), r3, p.Height, p.Code⟩ : Plot) = r4
      refine TL.run 3 [] [(3, .pointer (some ⟨b1, 0, none⟩)), (6, .pointer (some ⟨b3, 0, none⟩)), (49, .bool (r4 != 0))] rfl ⟨by kernel_rfl, by kernel_rfl⟩ ?_
      refine TL.next rfl ?_
      refine TC.cond (r4 != 0) rfl (by kernel_rfl) (fun h3 => ?_) (fun h3 => ?_)
      · refine TC.seq ?_
        refine TC.region ?_
        refine TL.run 1 [] [(6, .pointer (some ⟨b3, 0, none⟩)), (50, Plot.v Plot.zero)] rfl ⟨by kernel_rfl, by kernel_rfl⟩ ?_
        refine TL.write 0 (fun _ => [(6, .pointer (some ⟨b3, 0, none⟩))]) (fun _ => [.inl (b3, .cells (Plot.c Plot.zero) 28 (0, 0)), .inl (b2, .cells (BiasOffset.c b_) 30 (0, 0)), .inl (b1, .cells #[.int .i64 p.Radar, .int .i64 (w64 (p.Time + (w64 (sign * b_.Time)))), .int .i64 (w64 (p.Range + (w64 (sign * b_.Range)))), .int .i64 r3, .int .i64 p.Height, .int .i64 p.Code] 28 (0, 0))]) (fun _ => ⟨by kernel_rfl, by kernel_rfl⟩) (fun _ => ?_)
        refine TL.run 3 [] [(6, .pointer (some ⟨b3, 0, none⟩)), (7, .int .i64 8)] rfl ⟨by kernel_rfl, by kernel_rfl⟩ ?_
        refine TL.next rfl ?_
        refine TC.ret ?_
        refine TE.ret_then ?_
        have e : bias_moved p b_ sign = ((⟨0, 0, 0, 0, 0, 0⟩ : Plot), 8) := by subst hr1 hr2 hr3 hr4; unfold bias_moved; exact cond_f h1 (cond_f h2 (cond_t h3 (rfl)))
        exact TE.ret [0] (.tuple #[.agg #[.int .i64 0, .int .i64 0, .int .i64 0, .int .i64 0, .int .i64 0, .int .i64 0], .int .i64 8]) ⟨by kernel_rfl, by kernel_rfl⟩ (by rw [e]; first | done | kernel_rfl)
      · refine TC.skip ?_
        refine TE.next ?_
        refine TC.seq ?_
        refine TC.region ?_
        refine TL.run 1 [2] [(6, .pointer (some ⟨b3, 0, none⟩)), (51, .agg #[.int .i64 p.Radar, .int .i64 (w64 (p.Time + (w64 (sign * b_.Time)))), .int .i64 (w64 (p.Range + (w64 (sign * b_.Range)))), .int .i64 r3, .int .i64 p.Height, .int .i64 p.Code])] rfl ⟨by kernel_rfl, by kernel_rfl⟩ ?_
        refine TL.write 0 (fun _ => [(6, .pointer (some ⟨b3, 0, none⟩))]) (fun _ => [.inl (b3, .cells #[.int .i64 p.Radar, .int .i64 (w64 (p.Time + (w64 (sign * b_.Time)))), .int .i64 (w64 (p.Range + (w64 (sign * b_.Range)))), .int .i64 r3, .int .i64 p.Height, .int .i64 p.Code] 28 (0, 0)), .inl (b2, .cells (BiasOffset.c b_) 30 (0, 0)), .inl (b1, .cells #[.int .i64 p.Radar, .int .i64 (w64 (p.Time + (w64 (sign * b_.Time)))), .int .i64 (w64 (p.Range + (w64 (sign * b_.Range)))), .int .i64 r3, .int .i64 p.Height, .int .i64 p.Code] 28 (0, 0))]) (fun _ => ⟨by kernel_rfl, by kernel_rfl⟩) (fun _ => ?_)
        refine TL.run 3 [] [(6, .pointer (some ⟨b3, 0, none⟩)), (7, .int .i64 0)] rfl ⟨by kernel_rfl, by kernel_rfl⟩ ?_
        refine TL.next rfl ?_
        refine TC.ret ?_
        have e : bias_moved p b_ sign = ((⟨p.Radar, w64 (p.Time + (w64 (sign * b_.Time))), w64 (p.Range + (w64 (sign * b_.Range))), r3, p.Height, p.Code⟩ : Plot), 0) := by subst hr1 hr2 hr3 hr4; unfold bias_moved; exact cond_f h1 (cond_f h2 (cond_f h3 (rfl)))
        exact TE.ret [0] (.tuple #[.agg #[.int .i64 p.Radar, .int .i64 (w64 (p.Time + (w64 (sign * b_.Time)))), .int .i64 (w64 (p.Range + (w64 (sign * b_.Range)))), .int .i64 r3, .int .i64 p.Height, .int .i64 p.Code], .int .i64 0]) ⟨by kernel_rfl, by kernel_rfl⟩ (by rw [e]; first | done | kernel_rfl)

def bias_Apply (p : Plot) (b_ : BiasOffset) : Plot × Int :=
  let r1 := bias_moved p b_ 1
  (r1.1, r1.2)

set_option maxRecDepth 100000 in
theorem bias_Apply_w (p : Plot) (b_ : BiasOffset) (w : World) : Calls Try.prog 17 #[Plot.v p, BiasOffset.v b_] w (Ret w (.tuple #[Plot.v ((bias_Apply p b_).1), .int .i64 ((bias_Apply p b_).2)])) := by
  refine calls_intro (vs := [Plot.v p, BiasOffset.v b_]) (w := w) Try.func17 rfl Try.ntmps17 rfl ?_
  refine TC.weak [(0, Plot.v p), (1, BiasOffset.v b_)] (by kernel_rfl) ?_
  refine TC.seq ?_
  refine TC.region ?_
  refine TL.write 0 (fun b1 => [(1, BiasOffset.v b_), (2, .pointer (some ⟨b1, 0, none⟩))]) (fun b1 => [.inl (b1, .cells (Plot.c p) 28 (0, 0))]) (fun b1 => ⟨by kernel_rfl, by kernel_rfl⟩) (fun b1 => ?_)
  refine TL.write 0 (fun b2 => [(2, .pointer (some ⟨b1, 0, none⟩)), (3, .pointer (some ⟨b2, 0, none⟩))]) (fun b2 => [.inl (b2, .cells (BiasOffset.c b_) 30 (0, 0)), .inl (b1, .cells (Plot.c p) 28 (0, 0))]) (fun b2 => ⟨by kernel_rfl, by kernel_rfl⟩) (fun b2 => ?_)
  refine TL.write 0 (fun b3 => [(2, .pointer (some ⟨b1, 0, none⟩)), (3, .pointer (some ⟨b2, 0, none⟩)), (4, .pointer (some ⟨b3, 0, none⟩))]) (fun b3 => [.inl (b3, .cells (Plot.c Plot.zero) 28 (0, 0)), .inl (b2, .cells (BiasOffset.c b_) 30 (0, 0)), .inl (b1, .cells (Plot.c p) 28 (0, 0))]) (fun b3 => ⟨by kernel_rfl, by kernel_rfl⟩) (fun b3 => ?_)
  refine TL.run 4 [] [(2, .pointer (some ⟨b1, 0, none⟩)), (3, .pointer (some ⟨b2, 0, none⟩)), (4, .pointer (some ⟨b3, 0, none⟩))] rfl ⟨by kernel_rfl, by kernel_rfl⟩ ?_
  refine TL.next rfl ?_
  refine TC.seq ?_
  refine TC.region ?_
  refine TL.run 2 [2, 1] [(4, .pointer (some ⟨b3, 0, none⟩)), (6, Plot.v p), (7, BiasOffset.v b_)] rfl ⟨by kernel_rfl, by kernel_rfl⟩ ?_
  refine TL.call (some 8) [(4, .pointer (some ⟨b3, 0, none⟩)), (8, .tuple #[Plot.v ((bias_moved p b_ 1).1), .int .i64 ((bias_moved p b_ 1).2)])] (fun w _ => bias_moved_w p b_ 1 w) (by kernel_rfl) (by kernel_rfl) ?_
  generalize hr1 : bias_moved p b_ 1 = r1
  refine TL.run 5 [] [(4, .pointer (some ⟨b3, 0, none⟩)), (9, Plot.v r1.1), (10, .int .i64 r1.2)] rfl ⟨by kernel_rfl, by kernel_rfl⟩ ?_
  refine TL.write 0 (fun _ => [(4, .pointer (some ⟨b3, 0, none⟩)), (10, .int .i64 r1.2)]) (fun _ => [.inl (b3, .cells (Plot.c r1.1) 28 (0, 0)), .inl (b2, .cells (BiasOffset.c b_) 30 (0, 0)), .inl (b1, .cells (Plot.c p) 28 (0, 0))]) (fun _ => ⟨by kernel_rfl, by kernel_rfl⟩) (fun _ => ?_)
  refine TL.run 7 [] [(4, .pointer (some ⟨b3, 0, none⟩)), (5, .int .i64 r1.2)] rfl ⟨by kernel_rfl, by kernel_rfl⟩ ?_
  refine TL.next rfl ?_
  refine TC.ret ?_
  have e : bias_Apply p b_ = (r1.1, r1.2) := by subst hr1; unfold bias_Apply; exact rfl
  exact TE.ret [0] (.tuple #[Plot.v r1.1, .int .i64 r1.2]) ⟨by kernel_rfl, by kernel_rfl⟩ (by rw [e]; first | done | kernel_rfl)

def bias_Correct (p : Plot) (b_ : BiasOffset) : Plot × Int :=
  let r1 := bias_moved p b_ (-1)
  (r1.1, r1.2)

set_option maxRecDepth 100000 in
theorem bias_Correct_w (p : Plot) (b_ : BiasOffset) (w : World) : Calls Try.prog 18 #[Plot.v p, BiasOffset.v b_] w (Ret w (.tuple #[Plot.v ((bias_Correct p b_).1), .int .i64 ((bias_Correct p b_).2)])) := by
  refine calls_intro (vs := [Plot.v p, BiasOffset.v b_]) (w := w) Try.func18 rfl Try.ntmps18 rfl ?_
  refine TC.weak [(0, Plot.v p), (1, BiasOffset.v b_)] (by kernel_rfl) ?_
  refine TC.seq ?_
  refine TC.region ?_
  refine TL.write 0 (fun b1 => [(1, BiasOffset.v b_), (2, .pointer (some ⟨b1, 0, none⟩))]) (fun b1 => [.inl (b1, .cells (Plot.c p) 28 (0, 0))]) (fun b1 => ⟨by kernel_rfl, by kernel_rfl⟩) (fun b1 => ?_)
  refine TL.write 0 (fun b2 => [(2, .pointer (some ⟨b1, 0, none⟩)), (3, .pointer (some ⟨b2, 0, none⟩))]) (fun b2 => [.inl (b2, .cells (BiasOffset.c b_) 30 (0, 0)), .inl (b1, .cells (Plot.c p) 28 (0, 0))]) (fun b2 => ⟨by kernel_rfl, by kernel_rfl⟩) (fun b2 => ?_)
  refine TL.write 0 (fun b3 => [(2, .pointer (some ⟨b1, 0, none⟩)), (3, .pointer (some ⟨b2, 0, none⟩)), (4, .pointer (some ⟨b3, 0, none⟩))]) (fun b3 => [.inl (b3, .cells (Plot.c Plot.zero) 28 (0, 0)), .inl (b2, .cells (BiasOffset.c b_) 30 (0, 0)), .inl (b1, .cells (Plot.c p) 28 (0, 0))]) (fun b3 => ⟨by kernel_rfl, by kernel_rfl⟩) (fun b3 => ?_)
  refine TL.run 4 [] [(2, .pointer (some ⟨b1, 0, none⟩)), (3, .pointer (some ⟨b2, 0, none⟩)), (4, .pointer (some ⟨b3, 0, none⟩))] rfl ⟨by kernel_rfl, by kernel_rfl⟩ ?_
  refine TL.next rfl ?_
  refine TC.seq ?_
  refine TC.region ?_
  refine TL.run 2 [2, 1] [(4, .pointer (some ⟨b3, 0, none⟩)), (6, Plot.v p), (7, BiasOffset.v b_)] rfl ⟨by kernel_rfl, by kernel_rfl⟩ ?_
  refine TL.call (some 8) [(4, .pointer (some ⟨b3, 0, none⟩)), (8, .tuple #[Plot.v ((bias_moved p b_ (-1)).1), .int .i64 ((bias_moved p b_ (-1)).2)])] (fun w _ => bias_moved_w p b_ (-1) w) (by kernel_rfl) (by kernel_rfl) ?_
  generalize hr1 : bias_moved p b_ (-1) = r1
  refine TL.run 5 [] [(4, .pointer (some ⟨b3, 0, none⟩)), (9, Plot.v r1.1), (10, .int .i64 r1.2)] rfl ⟨by kernel_rfl, by kernel_rfl⟩ ?_
  refine TL.write 0 (fun _ => [(4, .pointer (some ⟨b3, 0, none⟩)), (10, .int .i64 r1.2)]) (fun _ => [.inl (b3, .cells (Plot.c r1.1) 28 (0, 0)), .inl (b2, .cells (BiasOffset.c b_) 30 (0, 0)), .inl (b1, .cells (Plot.c p) 28 (0, 0))]) (fun _ => ⟨by kernel_rfl, by kernel_rfl⟩) (fun _ => ?_)
  refine TL.run 7 [] [(4, .pointer (some ⟨b3, 0, none⟩)), (5, .int .i64 r1.2)] rfl ⟨by kernel_rfl, by kernel_rfl⟩ ?_
  refine TL.next rfl ?_
  refine TC.ret ?_
  have e : bias_Correct p b_ = (r1.1, r1.2) := by subst hr1; unfold bias_Correct; exact rfl
  exact TE.ret [0] (.tuple #[Plot.v r1.1, .int .i64 r1.2]) ⟨by kernel_rfl, by kernel_rfl⟩ (by rw [e]; first | done | kernel_rfl)

def skywaykeep2_BiasBack (p : Plot) (o : BiasOffset) : Bool :=
  let r1 := bias_Apply (⟨0, 0, 100, 0, 0, 0⟩ : Plot) (⟨5, 0, 0⟩ : BiasOffset)
  cond ((r1.2 != 0) || (r1.1.Range != 105)) (
    false) (
    let r2 := bias_Correct p o
    cond (r2.2 != 0) (
      Plot.eqb r2.1 Plot.zero) (
      let r3 := bias_Apply r2.1 o
      cond (r3.2 == 0) (
        Plot.eqb r3.1 p) (
        false)))

set_option maxRecDepth 100000 in
theorem skywaykeep2_BiasBack_w (p : Plot) (o : BiasOffset) (w : World) : Calls Try.prog 4 #[Plot.v p, BiasOffset.v o] w (Ret w (.bool (skywaykeep2_BiasBack p o))) := by
  refine calls_intro (vs := [Plot.v p, BiasOffset.v o]) (w := w) Try.func4 rfl Try.ntmps4 rfl ?_
  refine TC.weak [(0, Plot.v p), (1, BiasOffset.v o)] (by kernel_rfl) ?_
  refine TC.seq ?_
  refine TC.region ?_
  refine TL.write 0 (fun b1 => [(1, BiasOffset.v o), (2, .pointer (some ⟨b1, 0, none⟩))]) (fun b1 => [.inl (b1, .cells (Plot.c p) 28 (0, 0))]) (fun b1 => ⟨by kernel_rfl, by kernel_rfl⟩) (fun b1 => ?_)
  refine TL.write 0 (fun b2 => [(2, .pointer (some ⟨b1, 0, none⟩)), (3, .pointer (some ⟨b2, 0, none⟩))]) (fun b2 => [.inl (b2, .cells (BiasOffset.c o) 30 (0, 0)), .inl (b1, .cells (Plot.c p) 28 (0, 0))]) (fun b2 => ⟨by kernel_rfl, by kernel_rfl⟩) (fun b2 => ?_)
  refine TL.run 3 [] [(2, .pointer (some ⟨b1, 0, none⟩)), (3, .pointer (some ⟨b2, 0, none⟩))] rfl ⟨by kernel_rfl, by kernel_rfl⟩ ?_
  refine TL.next rfl ?_
  refine TC.seq ?_
  refine TC.seq ?_
  refine TC.region ?_
  refine TL.run 2 [] [(2, .pointer (some ⟨b1, 0, none⟩)), (3, .pointer (some ⟨b2, 0, none⟩)), (12, .agg #[.int .i64 0, .int .i64 0, .int .i64 100, .int .i64 0, .int .i64 0, .int .i64 0]), (13, .agg #[.int .i64 5, .int .i64 0, .int .i64 0])] rfl ⟨by kernel_rfl, by kernel_rfl⟩ ?_
  refine TL.call (some 14) [(2, .pointer (some ⟨b1, 0, none⟩)), (3, .pointer (some ⟨b2, 0, none⟩)), (14, .tuple #[Plot.v ((bias_Apply (⟨0, 0, 100, 0, 0, 0⟩ : Plot) (⟨5, 0, 0⟩ : BiasOffset)).1), .int .i64 ((bias_Apply (⟨0, 0, 100, 0, 0, 0⟩ : Plot) (⟨5, 0, 0⟩ : BiasOffset)).2)])] (fun w _ => bias_Apply_w (⟨0, 0, 100, 0, 0, 0⟩ : Plot) (⟨5, 0, 0⟩ : BiasOffset) w) (by kernel_rfl) (by kernel_rfl) ?_
  generalize hr1 : bias_Apply (⟨0, 0, 100, 0, 0, 0⟩ : Plot) (⟨5, 0, 0⟩ : BiasOffset) = r1
  refine TL.run 6 [] [(2, .pointer (some ⟨b1, 0, none⟩)), (3, .pointer (some ⟨b2, 0, none⟩)), (15, Plot.v r1.1), (16, .int .i64 r1.2)] rfl ⟨by kernel_rfl, by kernel_rfl⟩ ?_
  refine TL.write 0 (fun b3 => [(2, .pointer (some ⟨b1, 0, none⟩)), (3, .pointer (some ⟨b2, 0, none⟩)), (5, .pointer (some ⟨b3, 0, none⟩)), (15, Plot.v r1.1), (16, .int .i64 r1.2)]) (fun b3 => [.inl (b3, .cells (Plot.c Plot.zero) 28 (0, 0)), .inl (b2, .cells (BiasOffset.c o) 30 (0, 0)), .inl (b1, .cells (Plot.c p) 28 (0, 0))]) (fun b3 => ⟨by kernel_rfl, by kernel_rfl⟩) (fun b3 => ?_)
  refine TL.write 0 (fun _ => [(2, .pointer (some ⟨b1, 0, none⟩)), (3, .pointer (some ⟨b2, 0, none⟩)), (5, .pointer (some ⟨b3, 0, none⟩)), (16, .int .i64 r1.2)]) (fun _ => [.inl (b3, .cells (Plot.c r1.1) 28 (0, 0)), .inl (b2, .cells (BiasOffset.c o) 30 (0, 0)), .inl (b1, .cells (Plot.c p) 28 (0, 0))]) (fun _ => ⟨by kernel_rfl, by kernel_rfl⟩) (fun _ => ?_)
  refine TL.run 9 [] [(2, .pointer (some ⟨b1, 0, none⟩)), (3, .pointer (some ⟨b2, 0, none⟩)), (5, .pointer (some ⟨b3, 0, none⟩)), (6, .int .i64 r1.2)] rfl ⟨by kernel_rfl, by kernel_rfl⟩ ?_
  refine TL.next rfl ?_
  refine TC.seq ?_
  refine TC.region ?_
  refine TL.run 3 [] [(2, .pointer (some ⟨b1, 0, none⟩)), (3, .pointer (some ⟨b2, 0, none⟩)), (5, .pointer (some ⟨b3, 0, none⟩)), (19, .bool (r1.2 != 0))] rfl ⟨by kernel_rfl, by kernel_rfl⟩ ?_
  refine TL.join 19 (r1.2 != 0) 7 [] [0] (fun β => [(2, .pointer (some ⟨b1, 0, none⟩)), (3, .pointer (some ⟨b2, 0, none⟩)), (23, .bool (β || (r1.1.Range != 105)))]) (by kernel_rfl) rfl ⟨by kernel_rfl, by kernel_rfl⟩ ⟨by kernel_rfl, by kernel_rfl⟩ ?_
  refine TL.next rfl ?_
  refine TC.cond ((r1.2 != 0) || (r1.1.Range != 105)) rfl (by kernel_rfl) (fun h1 => ?_) (fun h1 => ?_)
  · refine TC.seq ?_
    refine TC.region ?_
    refine TL.run 1 [] [(4, .bool false)] rfl ⟨by kernel_rfl, by kernel_rfl⟩ ?_
    refine TL.next rfl ?_
    refine TC.ret ?_
    refine TE.ret_then ?_
    have e : skywaykeep2_BiasBack p o = false := by subst hr1; unfold skywaykeep2_BiasBack; exact cond_t h1 (rfl)
    exact TE.ret [] (.bool false) ⟨by kernel_rfl, by kernel_rfl⟩ (by rw [e]; first | done | kernel_rfl)
  · refine TC.skip ?_
    refine TE.next ?_
    refine TC.seq ?_
    refine TC.region ?_
    refine TL.run 2 [2, 1] [(2, .pointer (some ⟨b1, 0, none⟩)), (3, .pointer (some ⟨b2, 0, none⟩)), (25, Plot.v p), (26, BiasOffset.v o)] rfl ⟨by kernel_rfl, by kernel_rfl⟩ ?_
    refine TL.call (some 27) [(2, .pointer (some ⟨b1, 0, none⟩)), (3, .pointer (some ⟨b2, 0, none⟩)), (27, .tuple #[Plot.v ((bias_Correct p o).1), .int .i64 ((bias_Correct p o).2)])] (fun w _ => bias_Correct_w p o w) (by kernel_rfl) (by kernel_rfl) ?_
    generalize hr2 : bias_Correct p o = r2
    refine TL.run 6 [] [(2, .pointer (some ⟨b1, 0, none⟩)), (3, .pointer (some ⟨b2, 0, none⟩)), (28, Plot.v r2.1), (29, .int .i64 r2.2)] rfl ⟨by kernel_rfl, by kernel_rfl⟩ ?_
    refine TL.write 0 (fun b4 => [(2, .pointer (some ⟨b1, 0, none⟩)), (3, .pointer (some ⟨b2, 0, none⟩)), (7, .pointer (some ⟨b4, 0, none⟩)), (28, Plot.v r2.1), (29, .int .i64 r2.2)]) (fun b4 => [.inl (b4, .cells (Plot.c Plot.zero) 28 (0, 0)), .inl (b3, .cells (Plot.c r1.1) 28 (0, 0)), .inl (b2, .cells (BiasOffset.c o) 30 (0, 0)), .inl (b1, .cells (Plot.c p) 28 (0, 0))]) (fun b4 => ⟨by kernel_rfl, by kernel_rfl⟩) (fun b4 => ?_)
    refine TL.write 0 (fun _ => [(2, .pointer (some ⟨b1, 0, none⟩)), (3, .pointer (some ⟨b2, 0, none⟩)), (7, .pointer (some ⟨b4, 0, none⟩)), (29, .int .i64 r2.2)]) (fun _ => [.inl (b4, .cells (Plot.c r2.1) 28 (0, 0)), .inl (b3, .cells (Plot.c r1.1) 28 (0, 0)), .inl (b2, .cells (BiasOffset.c o) 30 (0, 0)), .inl (b1, .cells (Plot.c p) 28 (0, 0))]) (fun _ => ⟨by kernel_rfl, by kernel_rfl⟩) (fun _ => ?_)
    refine TL.run 9 [] [(2, .pointer (some ⟨b1, 0, none⟩)), (3, .pointer (some ⟨b2, 0, none⟩)), (7, .pointer (some ⟨b4, 0, none⟩)), (8, .int .i64 r2.2)] rfl ⟨by kernel_rfl, by kernel_rfl⟩ ?_
    refine TL.next rfl ?_
    refine TC.seq ?_
    refine TC.seq ?_
    refine TC.region ?_
    refine TL.run 2 [] [(2, .pointer (some ⟨b1, 0, none⟩)), (3, .pointer (some ⟨b2, 0, none⟩)), (7, .pointer (some ⟨b4, 0, none⟩)), (31, .bool (r2.2 != 0))] rfl ⟨by kernel_rfl, by kernel_rfl⟩ ?_
    refine TL.next rfl ?_
    refine TC.cond (r2.2 != 0) rfl (by kernel_rfl) (fun h2 => ?_) (fun h2 => ?_)
    · refine TC.seq ?_
      refine TC.region ?_
      refine TL.run 2 [0] [(32, Plot.v r2.1), (33, Plot.v Plot.zero)] rfl ⟨by kernel_rfl, by kernel_rfl⟩ ?_
      refine TL.val (sV (do eqGuard .eql 28 (.tmp 32) (.tmp 33) (Plot.v r2.1) (Plot.v Plot.zero); binOp .eql 28 (Plot.v r2.1) (Plot.v Plot.zero))) (some 34) (.bool (Plot.eqb r2.1 Plot.zero)) [(34, .bool (Plot.eqb r2.1 Plot.zero))] (fun w hM => run_eql (b := Plot.eqb r2.1 Plot.zero) (by kernel_rfl) (by kernel_rfl) w) (by kernel_rfl) (by kernel_rfl) ?_
      refine TL.run 4 [] [(4, .bool (Plot.eqb r2.1 Plot.zero))] rfl ⟨by kernel_rfl, by kernel_rfl⟩ ?_
      refine TL.next rfl ?_
      refine TC.ret ?_
      refine TE.ret_then ?_
      have e : skywaykeep2_BiasBack p o = (Plot.eqb r2.1 Plot.zero) := by subst hr1 hr2; unfold skywaykeep2_BiasBack; exact cond_f h1 (cond_t h2 (rfl))
      exact TE.ret [] (.bool (Plot.eqb r2.1 Plot.zero)) ⟨by kernel_rfl, by kernel_rfl⟩ (by rw [e]; first | done | kernel_rfl)
    · refine TC.skip ?_
      refine TE.next ?_
      refine TC.seq ?_
      refine TC.region ?_
      refine TL.run 2 [0, 2] [(2, .pointer (some ⟨b1, 0, none⟩)), (36, Plot.v r2.1), (37, BiasOffset.v o)] rfl ⟨by kernel_rfl, by kernel_rfl⟩ ?_
      refine TL.call (some 38) [(2, .pointer (some ⟨b1, 0, none⟩)), (38, .tuple #[Plot.v ((bias_Apply r2.1 o).1), .int .i64 ((bias_Apply r2.1 o).2)])] (fun w _ => bias_Apply_w r2.1 o w) (by kernel_rfl) (by kernel_rfl) ?_
      generalize hr3 : bias_Apply r2.1 o = r3
      refine TL.run 6 [] [(2, .pointer (some ⟨b1, 0, none⟩)), (39, Plot.v r3.1), (40, .int .i64 r3.2)] rfl ⟨by kernel_rfl, by kernel_rfl⟩ ?_
      refine TL.write 0 (fun b5 => [(2, .pointer (some ⟨b1, 0, none⟩)), (9, .pointer (some ⟨b5, 0, none⟩)), (39, Plot.v r3.1), (40, .int .i64 r3.2)]) (fun b5 => [.inl (b5, .cells (Plot.c Plot.zero) 28 (0, 0)), .inl (b4, .cells (Plot.c r2.1) 28 (0, 0)), .inl (b3, .cells (Plot.c r1.1) 28 (0, 0)), .inl (b2, .cells (BiasOffset.c o) 30 (0, 0)), .inl (b1, .cells (Plot.c p) 28 (0, 0))]) (fun b5 => ⟨by kernel_rfl, by kernel_rfl⟩) (fun b5 => ?_)
      refine TL.write 0 (fun _ => [(2, .pointer (some ⟨b1, 0, none⟩)), (9, .pointer (some ⟨b5, 0, none⟩)), (40, .int .i64 r3.2)]) (fun _ => [.inl (b5, .cells (Plot.c r3.1) 28 (0, 0)), .inl (b4, .cells (Plot.c r2.1) 28 (0, 0)), .inl (b3, .cells (Plot.c r1.1) 28 (0, 0)), .inl (b2, .cells (BiasOffset.c o) 30 (0, 0)), .inl (b1, .cells (Plot.c p) 28 (0, 0))]) (fun _ => ⟨by kernel_rfl, by kernel_rfl⟩) (fun _ => ?_)
      refine TL.run 9 [] [(2, .pointer (some ⟨b1, 0, none⟩)), (9, .pointer (some ⟨b5, 0, none⟩)), (10, .int .i64 r3.2)] rfl ⟨by kernel_rfl, by kernel_rfl⟩ ?_
      refine TL.next rfl ?_
      refine TC.seq ?_
      refine TC.region ?_
      refine TL.run 3 [] [(2, .pointer (some ⟨b1, 0, none⟩)), (9, .pointer (some ⟨b5, 0, none⟩)), (43, .bool (r3.2 == 0))] rfl ⟨by kernel_rfl, by kernel_rfl⟩ ?_
      refine TL.split 43 (r3.2 == 0) (by kernel_rfl) (fun h3 => ?_) (fun h3 => ?_)
      · refine TL.run 5 [0, 4] [(43, .bool true), (44, Plot.v r3.1), (45, Plot.v p)] rfl ⟨by kernel_rfl, by kernel_rfl⟩ ?_
        refine TL.val (sV (do eqGuard .eql 28 (.tmp 44) (.tmp 45) (Plot.v r3.1) (Plot.v p); binOp .eql 28 (Plot.v r3.1) (Plot.v p))) (some 46) (.bool (Plot.eqb r3.1 p)) [(43, .bool true), (46, .bool (Plot.eqb r3.1 p))] (fun w hM => run_eql (b := Plot.eqb r3.1 p) (by kernel_rfl) (by kernel_rfl) w) (by kernel_rfl) (by kernel_rfl) ?_
        refine TL.run 8 [] [(4, .bool (Plot.eqb r3.1 p))] rfl ⟨by kernel_rfl, by kernel_rfl⟩ ?_
        refine TL.next rfl ?_
        refine TC.ret ?_
        have e : skywaykeep2_BiasBack p o = (Plot.eqb r3.1 p) := by subst hr1 hr2 hr3; unfold skywaykeep2_BiasBack; exact cond_f h1 (cond_f h2 (cond_t h3 (rfl)))
        exact TE.ret [] (.bool (Plot.eqb r3.1 p)) ⟨by kernel_rfl, by kernel_rfl⟩ (by rw [e]; first | done | kernel_rfl)
      · refine TL.run 8 [] [(4, .bool false)] rfl ⟨by kernel_rfl, by kernel_rfl⟩ ?_
        refine TL.next rfl ?_
        refine TC.ret ?_
        have e : skywaykeep2_BiasBack p o = false := by subst hr1 hr2 hr3; unfold skywaykeep2_BiasBack; exact cond_f h1 (cond_f h2 (cond_f h3 (rfl)))
        exact TE.ret [] (.bool false) ⟨by kernel_rfl, by kernel_rfl⟩ (by rw [e]; first | done | kernel_rfl)

def skywaykeep2_ClimbNarrows (l : List ClimbReport) : Bool :=
  let r1 := climb_Rates []
  cond (((r1.2.2 != 0) || (r1.1 != (-3200))) || (r1.2.1 != 3200)) (
    false) (
    cond ((l.length : Int) == 0) (
      true) (
      let r2 := climb_Rates (l.take (l.length - 1))
      let r3 := climb_Rates l
      cond (r3.2.2 != 0) (
        (r3.1 == 0) && (r3.2.1 == 0)) (
        (((r2.2.2 == 0) && (decide (r2.1 ≤ r3.1))) && (decide (r3.2.1 ≤ r2.2.1))) && (decide (r3.1 ≤ r3.2.1)))))

set_option maxRecDepth 100000 in
theorem skywaykeep2_ClimbNarrows_w (A_l : Option Addr) (c_l : Nat) (l : List ClimbReport) (w : World) (h_l : Rd w 2 A_l (l.map ClimbReport.c)) (hc_l : l.length ≤ c_l) : Calls Try.prog 5 #[.slice A_l l.length c_l] w (Ret w (.bool (skywaykeep2_ClimbNarrows l))) := by
  have s_l := h_l.short; rw [List.length_map] at s_l
  refine calls_intro (vs := [.slice A_l l.length c_l]) (w := w) Try.func5 rfl Try.ntmps5 rfl ?_
  refine TC.weak [(0, .slice A_l l.length c_l)] (by kernel_rfl) ?_
  refine TC.seq ?_
  refine TC.region ?_
  refine TL.run 1 [] [(0, .slice A_l l.length c_l)] rfl ⟨by kernel_rfl, by kernel_rfl⟩ ?_
  refine TL.next rfl ?_
  refine TC.seq ?_
  refine TC.seq ?_
  refine TC.region ?_
  refine TL.call (some 13) [(0, .slice A_l l.length c_l), (13, .tuple #[.int .i64 ((climb_Rates []).1), .int .i64 ((climb_Rates []).2.1), .int .i64 ((climb_Rates []).2.2)])] (fun w hM => climb_Rates_w none 0 [] w (Rd.nil _ _) (Nat.le_refl _)) (by kernel_rfl) (by kernel_rfl) ?_
  generalize hr1 : climb_Rates [] = r1
  refine TL.run 8 [] [(0, .slice A_l l.length c_l), (3, .int .i64 r1.1), (4, .int .i64 r1.2.1), (5, .int .i64 r1.2.2)] rfl ⟨by kernel_rfl, by kernel_rfl⟩ ?_
  refine TL.next rfl ?_
  refine TC.seq ?_
  refine TC.region ?_
  refine TL.run 3 [] [(0, .slice A_l l.length c_l), (3, .int .i64 r1.1), (4, .int .i64 r1.2.1), (19, .bool (r1.2.2 != 0))] rfl ⟨by kernel_rfl, by kernel_rfl⟩ ?_
  refine TL.join 19 (r1.2.2 != 0) 6 [] [] (fun β => [(0, .slice A_l l.length c_l), (4, .int .i64 r1.2.1), (22, .bool (β || (r1.1 != (-3200))))]) (by kernel_rfl) rfl ⟨by kernel_rfl, by kernel_rfl⟩ ⟨by kernel_rfl, by kernel_rfl⟩ ?_
  refine TL.run 7 [] [(0, .slice A_l l.length c_l), (4, .int .i64 r1.2.1), (23, .bool ((r1.2.2 != 0) || (r1.1 != (-3200))))] rfl ⟨by kernel_rfl, by kernel_rfl⟩ ?_
  refine TL.join 23 ((r1.2.2 != 0) || (r1.1 != (-3200))) 10 [] [] (fun β => [(0, .slice A_l l.length c_l), (26, .bool (β || (r1.2.1 != 3200)))]) (by kernel_rfl) rfl ⟨by kernel_rfl, by kernel_rfl⟩ ⟨by kernel_rfl, by kernel_rfl⟩ ?_
  refine TL.next rfl ?_
  refine TC.cond (((r1.2.2 != 0) || (r1.1 != (-3200))) || (r1.2.1 != 3200)) rfl (by kernel_rfl) (fun h1 => ?_) (fun h1 => ?_)
  · refine TC.seq ?_
    refine TC.region ?_
    refine TL.run 1 [] [(2, .bool false)] rfl ⟨by kernel_rfl, by kernel_rfl⟩ ?_
    refine TL.next rfl ?_
    refine TC.ret ?_
    refine TE.ret_then ?_
    have e : skywaykeep2_ClimbNarrows l = false := by subst hr1; unfold skywaykeep2_ClimbNarrows; exact cond_t h1 (rfl)
    exact TE.ret [] (.bool false) ⟨by kernel_rfl, by kernel_rfl⟩ (by rw [e]; first | done | kernel_rfl)
  · refine TC.skip ?_
    refine TE.next ?_
    refine TC.seq ?_
    refine TC.seq ?_
    refine TC.region ?_
    refine TL.run 3 [] [(0, .slice A_l l.length c_l), (29, .bool ((l.length : Int) == 0))] rfl ⟨by kernel_rfl, by kernel_rfl⟩ ?_
    refine TL.next rfl ?_
    refine TC.cond ((l.length : Int) == 0) rfl (by kernel_rfl) (fun h2 => ?_) (fun h2 => ?_)
    · refine TC.seq ?_
      refine TC.region ?_
      refine TL.run 1 [] [(2, .bool true)] rfl ⟨by kernel_rfl, by kernel_rfl⟩ ?_
      refine TL.next rfl ?_
      refine TC.ret ?_
      refine TE.ret_then ?_
      have e : skywaykeep2_ClimbNarrows l = true := by subst hr1; unfold skywaykeep2_ClimbNarrows; exact cond_f h1 (cond_t h2 (rfl))
      exact TE.ret [] (.bool true) ⟨by kernel_rfl, by kernel_rfl⟩ (by rw [e]; first | done | kernel_rfl)
    · refine TC.skip ?_
      refine TE.next ?_
      refine TC.seq ?_
      refine TC.region ?_
      refine TL.run 4 [] [(0, .slice A_l l.length c_l), (31, .slice A_l l.length c_l), (34, .int .i64 (w64 ((l.length : Int) - 1)))] rfl ⟨by kernel_rfl, by kernel_rfl⟩ ?_
      refine TL.rw 34 (.int .i64 (w64 ((l.length : Int) - 1))) (.int .i64 ((l.length - 1 : Nat) : Int)) (by kernel_rfl) (w64_pred l.length (by have q0_ := (bne_f (or_f1 (or_f1 h1))); have q1_ := (bne_f (or_f2 (or_f1 h1))); have q2_ := (bne_f (or_f2 h1)); have q3_ := (beq_f h2); first | omega | (simp only [List.length_drop]; omega) | (simp only [w64_eq]; omega))) ?_
      obtain ⟨A1, hA1⟩ : ∃ A, A = (if c_l = 0 then A_l else A_l.map (fun a => a.add (0 * 2))) := ⟨_, rfl⟩
      have hR1 : Rd w 2 A1 ((l.take (l.length - 1)).map ClimbReport.c) := by rw [hA1]; exact h_l.cutMap 0 _ hc_l
      have hC1 : (l.take (l.length - 1)).length ≤ (c_l - 0) := by simp only [List.length_take]; omega
      have s_hR1 := hR1.short; rw [List.length_map] at s_hR1
      refine TL.val (sV (Instr.sliceAt 34 (.slice A_l l.length c_l) none (some (.int .i64 ((l.length - 1 : Nat) : Int))) none)) (some 35) (.slice A1 ((l.take (l.length - 1)).length) (c_l - 0)) [(0, .slice A_l l.length c_l), (35, .slice A1 ((l.take (l.length - 1)).length) (c_l - 0))] (fun w hM => (run_slice 0 (l.length - 1) (by kernel_rfl) (.inl ⟨rfl, rfl⟩) (.inr ⟨_, _, rfl, (by have q0_ := (bne_f (or_f1 (or_f1 h1))); have q1_ := (bne_f (or_f2 (or_f1 h1))); have q2_ := (bne_f (or_f2 h1)); have q3_ := (beq_f h2); first | omega | (simp only [List.length_drop]; omega) | (simp only [w64_eq]; omega)), rfl⟩) (by have q0_ := (bne_f (or_f1 (or_f1 h1))); have q1_ := (bne_f (or_f2 (or_f1 h1))); have q2_ := (bne_f (or_f2 h1)); have q3_ := (beq_f h2); first | omega | (simp only [List.length_drop]; omega) | (simp only [w64_eq]; omega)) (by have q0_ := (bne_f (or_f1 (or_f1 h1))); have q1_ := (bne_f (or_f2 (or_f1 h1))); have q2_ := (bne_f (or_f2 h1)); have q3_ := (beq_f h2); first | omega | (simp only [List.length_drop]; omega) | (simp only [w64_eq]; omega))).trans (by rw [hA1]; congr 3; simp only [List.length_take] <;> omega)) (by kernel_rfl) (by kernel_rfl) ?_
      refine TL.call (some 36) [(0, .slice A_l l.length c_l), (36, .tuple #[.int .i64 ((climb_Rates (l.take (l.length - 1))).1), .int .i64 ((climb_Rates (l.take (l.length - 1))).2.1), .int .i64 ((climb_Rates (l.take (l.length - 1))).2.2)])] (fun w hM => climb_Rates_w A1 (c_l - 0) (l.take (l.length - 1)) w (hR1.sat hM) hC1) (by kernel_rfl) (by kernel_rfl) ?_
      generalize hr2 : climb_Rates (l.take (l.length - 1)) = r2
      refine TL.run 13 [] [(0, .slice A_l l.length c_l), (6, .int .i64 r2.1), (7, .int .i64 r2.2.1), (8, .int .i64 r2.2.2)] rfl ⟨by kernel_rfl, by kernel_rfl⟩ ?_
      refine TL.next rfl ?_
      refine TC.seq ?_
      refine TC.region ?_
      refine TL.run 1 [] [(6, .int .i64 r2.1), (7, .int .i64 r2.2.1), (8, .int .i64 r2.2.2), (41, .slice A_l l.length c_l)] rfl ⟨by kernel_rfl, by kernel_rfl⟩ ?_
      refine TL.call (some 42) [(6, .int .i64 r2.1), (7, .int .i64 r2.2.1), (8, .int .i64 r2.2.2), (42, .tuple #[.int .i64 ((climb_Rates l).1), .int .i64 ((climb_Rates l).2.1), .int .i64 ((climb_Rates l).2.2)])] (fun w hM => climb_Rates_w A_l c_l l w (h_l.sat hM) hc_l) (by kernel_rfl) (by kernel_rfl) ?_
      generalize hr3 : climb_Rates l = r3
      refine TL.run 9 [] [(6, .int .i64 r2.1), (7, .int .i64 r2.2.1), (8, .int .i64 r2.2.2), (9, .int .i64 r3.1), (10, .int .i64 r3.2.1), (11, .int .i64 r3.2.2)] rfl ⟨by kernel_rfl, by kernel_rfl⟩ ?_
      refine TL.next rfl ?_
      refine TC.seq ?_
      refine TC.seq ?_
      refine TC.region ?_
      refine TL.run 2 [] [(6, .int .i64 r2.1), (7, .int .i64 r2.2.1), (8, .int .i64 r2.2.2), (9, .int .i64 r3.1), (10, .int .i64 r3.2.1), (47, .bool (r3.2.2 != 0))] rfl ⟨by kernel_rfl, by kernel_rfl⟩ ?_
      refine TL.next rfl ?_
      refine TC.cond (r3.2.2 != 0) rfl (by kernel_rfl) (fun h3 => ?_) (fun h3 => ?_)
      · refine TC.seq ?_
        refine TC.region ?_
        refine TL.run 3 [] [(10, .int .i64 r3.2.1), (50, .bool (r3.1 == 0))] rfl ⟨by kernel_rfl, by kernel_rfl⟩ ?_
        refine TL.join 50 (r3.1 == 0) 6 [] [] (fun β => [(53, .bool (β && (r3.2.1 == 0)))]) (by kernel_rfl) rfl ⟨by kernel_rfl, by kernel_rfl⟩ ⟨by kernel_rfl, by kernel_rfl⟩ ?_
        refine TL.run 7 [] [(2, .bool ((r3.1 == 0) && (r3.2.1 == 0)))] rfl ⟨by kernel_rfl, by kernel_rfl⟩ ?_
        refine TL.next rfl ?_
        refine TC.ret ?_
        refine TE.ret_then ?_
        have e : skywaykeep2_ClimbNarrows l = ((r3.1 == 0) && (r3.2.1 == 0)) := by subst hr1 hr2 hr3; unfold skywaykeep2_ClimbNarrows; exact cond_f h1 (cond_f h2 (cond_t h3 (rfl)))
        exact TE.ret [] (.bool ((r3.1 == 0) && (r3.2.1 == 0))) ⟨by kernel_rfl, by kernel_rfl⟩ (by rw [e]; first | done | kernel_rfl)
      · refine TC.skip ?_
        refine TE.next ?_
        refine TC.seq ?_
        refine TC.region ?_
        refine TL.run 3 [] [(6, .int .i64 r2.1), (7, .int .i64 r2.2.1), (9, .int .i64 r3.1), (10, .int .i64 r3.2.1), (56, .bool (r2.2.2 == 0))] rfl ⟨by kernel_rfl, by kernel_rfl⟩ ?_
        refine TL.join 56 (r2.2.2 == 0) 7 [] [] (fun β => [(7, .int .i64 r2.2.1), (9, .int .i64 r3.1), (10, .int .i64 r3.2.1), (60, .bool (β && (decide (r2.1 ≤ r3.1))))]) (by kernel_rfl) rfl ⟨by kernel_rfl, by kernel_rfl⟩ ⟨by kernel_rfl, by kernel_rfl⟩ ?_
        refine TL.run 8 [] [(7, .int .i64 r2.2.1), (9, .int .i64 r3.1), (10, .int .i64 r3.2.1), (61, .bool ((r2.2.2 == 0) && (decide (r2.1 ≤ r3.1))))] rfl ⟨by kernel_rfl, by kernel_rfl⟩ ?_
        refine TL.join 61 ((r2.2.2 == 0) && (decide (r2.1 ≤ r3.1))) 12 [] [] (fun β => [(9, .int .i64 r3.1), (10, .int .i64 r3.2.1), (65, .bool (β && (decide (r3.2.1 ≤ r2.2.1))))]) (by kernel_rfl) rfl ⟨by kernel_rfl, by kernel_rfl⟩ ⟨by kernel_rfl, by kernel_rfl⟩ ?_
        refine TL.run 13 [] [(9, .int .i64 r3.1), (10, .int .i64 r3.2.1), (66, .bool (((r2.2.2 == 0) && (decide (r2.1 ≤ r3.1))) && (decide (r3.2.1 ≤ r2.2.1))))] rfl ⟨by kernel_rfl, by kernel_rfl⟩ ?_
        refine TL.join 66 (((r2.2.2 == 0) && (decide (r2.1 ≤ r3.1))) && (decide (r3.2.1 ≤ r2.2.1))) 17 [] [] (fun β => [(70, .bool (β && (decide (r3.1 ≤ r3.2.1))))]) (by kernel_rfl) rfl ⟨by kernel_rfl, by kernel_rfl⟩ ⟨by kernel_rfl, by kernel_rfl⟩ ?_
        refine TL.run 18 [] [(2, .bool ((((r2.2.2 == 0) && (decide (r2.1 ≤ r3.1))) && (decide (r3.2.1 ≤ r2.2.1))) && (decide (r3.1 ≤ r3.2.1))))] rfl ⟨by kernel_rfl, by kernel_rfl⟩ ?_
        refine TL.next rfl ?_
        refine TC.ret ?_
        have e : skywaykeep2_ClimbNarrows l = ((((r2.2.2 == 0) && (decide (r2.1 ≤ r3.1))) && (decide (r3.2.1 ≤ r2.2.1))) && (decide (r3.1 ≤ r3.2.1))) := by subst hr1 hr2 hr3; unfold skywaykeep2_ClimbNarrows; exact cond_f h1 (cond_f h2 (cond_f h3 (rfl)))
        exact TE.ret [] (.bool ((((r2.2.2 == 0) && (decide (r2.1 ≤ r3.1))) && (decide (r3.2.1 ≤ r2.2.1))) && (decide (r3.1 ≤ r3.2.1)))) ⟨by kernel_rfl, by kernel_rfl⟩ (by rw [e]; first | done | kernel_rfl)

def radar_Error (s : RadarSite) (far : Int) : Int × Int :=
  let r1 := radar_Check s
  cond (r1 != 0) (
    (0, r1)) (
    let r2 := radar_out far 0 2000000
    cond r2 (
      (0, 4)) (
      let r3 := num_DivUp (w64 (far * s.AzimuthError)) 651
      let r4 := num_DivUp far 23170
      (w64 ((w64 ((w64 (s.RangeError + r3.1)) + r4.1)) + 2), 0)))

set_option maxRecDepth 100000 in
theorem radar_Error_w (s : RadarSite) (far : Int) (w : World) : Calls Try.prog 21 #[RadarSite.v s, .int .i64 far] w (Ret w (.tuple #[.int .i64 ((radar_Error s far).1), .int .i64 ((radar_Error s far).2)])) := by
  refine calls_intro (vs := [RadarSite.v s, .int .i64 far]) (w := w) Try.func21 rfl Try.ntmps21 rfl ?_
  refine TC.weak [(0, RadarSite.v s), (1, .int .i64 far)] (by kernel_rfl) ?_
  refine TC.seq ?_
  refine TC.region ?_
  refine TL.write 0 (fun b1 => [(1, .int .i64 far), (2, .pointer (some ⟨b1, 0, none⟩))]) (fun b1 => [.inl (b1, .cells (RadarSite.c s) 42 (0, 0))]) (fun b1 => ⟨by kernel_rfl, by kernel_rfl⟩) (fun b1 => ?_)
  refine TL.run 3 [] [(1, .int .i64 far), (2, .pointer (some ⟨b1, 0, none⟩))] rfl ⟨by kernel_rfl, by kernel_rfl⟩ ?_
  refine TL.next rfl ?_
  refine TC.seq ?_
  refine TC.seq ?_
  refine TC.region ?_
  refine TL.run 1 [0] [(1, .int .i64 far), (2, .pointer (some ⟨b1, 0, none⟩)), (11, RadarSite.v s)] rfl ⟨by kernel_rfl, by kernel_rfl⟩ ?_
  refine TL.call (some 12) [(1, .int .i64 far), (2, .pointer (some ⟨b1, 0, none⟩)), (12, .int .i64 (radar_Check s))] (fun w _ => radar_Check_w s w) (by kernel_rfl) (by kernel_rfl) ?_
  generalize hr1 : radar_Check s = r1
  refine TL.run 3 [] [(1, .int .i64 far), (2, .pointer (some ⟨b1, 0, none⟩)), (6, .int .i64 r1)] rfl ⟨by kernel_rfl, by kernel_rfl⟩ ?_
  refine TL.next rfl ?_
  refine TC.seq ?_
  refine TC.region ?_
  refine TL.run 2 [] [(1, .int .i64 far), (2, .pointer (some ⟨b1, 0, none⟩)), (6, .int .i64 r1), (14, .bool (r1 != 0))] rfl ⟨by kernel_rfl, by kernel_rfl⟩ ?_
  refine TL.next rfl ?_
  refine TC.cond (r1 != 0) rfl (by kernel_rfl) (fun h1 => ?_) (fun h1 => ?_)
  · refine TC.seq ?_
    refine TC.region ?_
    refine TL.run 3 [] [(4, .int .i64 0), (5, .int .i64 r1)] rfl ⟨by kernel_rfl, by kernel_rfl⟩ ?_
    refine TL.next rfl ?_
    refine TC.ret ?_
    refine TE.ret_then ?_
    have e : radar_Error s far = (0, r1) := by subst hr1; unfold radar_Error; exact cond_t h1 (rfl)
    exact TE.ret [] (.tuple #[.int .i64 0, .int .i64 r1]) ⟨by kernel_rfl, by kernel_rfl⟩ (by rw [e]; first | done | kernel_rfl)
  · refine TC.skip ?_
    refine TE.next ?_
    refine TC.seq ?_
    refine TC.seq ?_
    refine TC.region ?_
    refine TL.run 1 [] [(1, .int .i64 far), (2, .pointer (some ⟨b1, 0, none⟩)), (16, .int .i64 far)] rfl ⟨by kernel_rfl, by kernel_rfl⟩ ?_
    refine TL.call (some 17) [(1, .int .i64 far), (2, .pointer (some ⟨b1, 0, none⟩)), (17, .bool ((radar_out far 0 2000000)))] (fun w _ => radar_out_w far 0 2000000 w) (by kernel_rfl) (by kernel_rfl) ?_
    generalize hr2 : radar_out far 0 2000000 = r2
    refine TL.next rfl ?_
    refine TC.cond r2 rfl (by kernel_rfl) (fun h2 => ?_) (fun h2 => ?_)
    · refine TC.seq ?_
      refine TC.region ?_
      refine TL.run 2 [] [(4, .int .i64 0), (5, .int .i64 4)] rfl ⟨by kernel_rfl, by kernel_rfl⟩ ?_
      refine TL.next rfl ?_
      refine TC.ret ?_
      refine TE.ret_then ?_
      have e : radar_Error s far = (0, 4) := by subst hr1 hr2; unfold radar_Error; exact cond_f h1 (cond_t h2 (rfl))
      exact TE.ret [] (.tuple #[.int .i64 0, .int .i64 4]) ⟨by kernel_rfl, by kernel_rfl⟩ (by rw [e]; first | done | kernel_rfl)
    · refine TC.skip ?_
      refine TE.next ?_
      refine TC.seq ?_
      refine TC.region ?_
      refine TL.run 4 [0] [(1, .int .i64 far), (2, .pointer (some ⟨b1, 0, none⟩)), (22, .int .i64 (w64 (far * s.AzimuthError)))] rfl ⟨by kernel_rfl, by kernel_rfl⟩ ?_
      refine TL.call (some 23) [(1, .int .i64 far), (2, .pointer (some ⟨b1, 0, none⟩)), (23, .tuple #[.int .i64 ((num_DivUp (w64 (far * s.AzimuthError)) 651).1), .int .i64 ((num_DivUp (w64 (far * s.AzimuthError)) 651).2)])] (fun w _ => num_DivUp_w (w64 (far * s.AzimuthError)) 651 w) (by kernel_rfl) (by kernel_rfl) ?_
      generalize hr3 : num_DivUp (w64 (far * s.AzimuthError)) 651 = r3
      refine TL.run 10 [] [(1, .int .i64 far), (2, .pointer (some ⟨b1, 0, none⟩)), (7, .int .i64 r3.1)] rfl ⟨by kernel_rfl, by kernel_rfl⟩ ?_
      refine TL.next rfl ?_
      refine TC.seq ?_
      refine TC.region ?_
      refine TL.run 1 [] [(2, .pointer (some ⟨b1, 0, none⟩)), (7, .int .i64 r3.1), (27, .int .i64 far)] rfl ⟨by kernel_rfl, by kernel_rfl⟩ ?_
      refine TL.call (some 28) [(2, .pointer (some ⟨b1, 0, none⟩)), (7, .int .i64 r3.1), (28, .tuple #[.int .i64 ((num_DivUp far 23170).1), .int .i64 ((num_DivUp far 23170).2)])] (fun w _ => num_DivUp_w far 23170 w) (by kernel_rfl) (by kernel_rfl) ?_
      generalize hr4 : num_DivUp far 23170 = r4
      refine TL.run 7 [] [(2, .pointer (some ⟨b1, 0, none⟩)), (7, .int .i64 r3.1), (9, .int .i64 r4.1)] rfl ⟨by kernel_rfl, by kernel_rfl⟩ ?_
      refine TL.next rfl ?_
      refine TC.seq ?_
      refine TC.region ?_
      refine TL.run 9 [0] [(4, .int .i64 (w64 ((w64 ((w64 (s.RangeError + r3.1)) + r4.1)) + 2))), (5, .int .i64 0)] rfl ⟨by kernel_rfl, by kernel_rfl⟩ ?_
      refine TL.next rfl ?_
      refine TC.ret ?_
      have e : radar_Error s far = (w64 ((w64 ((w64 (s.RangeError + r3.1)) + r4.1)) + 2), 0) := by subst hr1 hr2 hr3 hr4; unfold radar_Error; exact cond_f h1 (cond_f h2 (rfl))
      exact TE.ret [] (.tuple #[.int .i64 (w64 ((w64 ((w64 (s.RangeError + r3.1)) + r4.1)) + 2)), .int .i64 0]) ⟨by kernel_rfl, by kernel_rfl⟩ (by rw [e]; first | done | kernel_rfl)

def skywaykeep2_east : RadarSite :=
  (⟨1, ⟨0, 0⟩, 100000, 1, 1⟩ : RadarSite)

set_option maxRecDepth 100000 in
theorem skywaykeep2_east_w (w : World) : Calls Try.prog 22 #[] w (Ret w (RadarSite.v (skywaykeep2_east))) := by
  refine calls_intro (vs := []) (w := w) Try.func22 rfl Try.ntmps22 rfl ?_
  refine TC.weak [] (by kernel_rfl) ?_
  refine TC.seq ?_
  refine TC.region ?_
  refine TL.write 0 (fun b1 => [(0, .pointer (some ⟨b1, 0, none⟩))]) (fun b1 => [.inl (b1, .cells (RadarSite.c RadarSite.zero) 42 (0, 0))]) (fun b1 => ⟨by kernel_rfl, by kernel_rfl⟩) (fun b1 => ?_)
  refine TL.next rfl ?_
  refine TC.seq ?_
  refine TC.region ?_
  refine TL.run 1 [] [(0, .pointer (some ⟨b1, 0, none⟩)), (1, .agg #[.int .i64 1, .int .i64 0, .int .i64 0, .int .i64 100000, .int .i64 1, .int .i64 1])] rfl ⟨by kernel_rfl, by kernel_rfl⟩ ?_
  refine TL.write 0 (fun _ => [(0, .pointer (some ⟨b1, 0, none⟩))]) (fun _ => [.inl (b1, .cells #[.int .i64 1, .int .i64 0, .int .i64 0, .int .i64 100000, .int .i64 1, .int .i64 1] 42 (0, 0))]) (fun _ => ⟨by kernel_rfl, by kernel_rfl⟩) (fun _ => ?_)
  refine TL.next rfl ?_
  refine TC.ret ?_
  have e : skywaykeep2_east = (⟨1, ⟨0, 0⟩, 100000, 1, 1⟩ : RadarSite) := by unfold skywaykeep2_east; exact rfl
  exact TE.ret [0] (.agg #[.int .i64 1, .int .i64 0, .int .i64 0, .int .i64 100000, .int .i64 1, .int .i64 1]) ⟨by kernel_rfl, by kernel_rfl⟩ (by rw [e]; first | done | kernel_rfl)

def skywaykeep2_RadarGrows (s : RadarSite) (a : Int) (b_ : Int) : Bool :=
  let r1 := skywaykeep2_east
  let r2 := radar_Error r1 0
  cond ((r2.2 != 0) || (r2.1 != 3)) (
    false) (
    let r3 := radar_Error s a
    let r4 := radar_Error s b_
    let r5 := skywaykeep2_fine ([r3.2, r4.2])
    ((!r5) || ((decide (r3.1 ≤ r4.1)) == (decide (a ≤ b_)))) || (r3.1 == r4.1))

set_option maxRecDepth 100000 in
theorem skywaykeep2_RadarGrows_w (s : RadarSite) (a : Int) (b_ : Int) (w : World) : Calls Try.prog 7 #[RadarSite.v s, .int .i64 a, .int .i64 b_] w (Ret w (.bool (skywaykeep2_RadarGrows s a b_))) := by
  refine calls_intro (vs := [RadarSite.v s, .int .i64 a, .int .i64 b_]) (w := w) Try.func7 rfl Try.ntmps7 rfl ?_
  refine TC.weak [(0, RadarSite.v s), (1, .int .i64 a), (2, .int .i64 b_)] (by kernel_rfl) ?_
  refine TC.seq ?_
  refine TC.region ?_
  refine TL.write 0 (fun b1 => [(1, .int .i64 a), (2, .int .i64 b_), (3, .pointer (some ⟨b1, 0, none⟩))]) (fun b1 => [.inl (b1, .cells (RadarSite.c s) 42 (0, 0))]) (fun b1 => ⟨by kernel_rfl, by kernel_rfl⟩) (fun b1 => ?_)
  refine TL.run 2 [] [(1, .int .i64 a), (2, .int .i64 b_), (3, .pointer (some ⟨b1, 0, none⟩))] rfl ⟨by kernel_rfl, by kernel_rfl⟩ ?_
  refine TL.next rfl ?_
  refine TC.seq ?_
  refine TC.seq ?_
  refine TC.region ?_
  refine TL.call (some 14) [(1, .int .i64 a), (2, .int .i64 b_), (3, .pointer (some ⟨b1, 0, none⟩)), (14, RadarSite.v (skywaykeep2_east))] (fun w _ => skywaykeep2_east_w w) (by kernel_rfl) (by kernel_rfl) ?_
  generalize hr1 : skywaykeep2_east = r1
  refine TL.call (some 15) [(1, .int .i64 a), (2, .int .i64 b_), (3, .pointer (some ⟨b1, 0, none⟩)), (15, .tuple #[.int .i64 ((radar_Error r1 0).1), .int .i64 ((radar_Error r1 0).2)])] (fun w _ => radar_Error_w r1 0 w) (by kernel_rfl) (by kernel_rfl) ?_
  generalize hr2 : radar_Error r1 0 = r2
  refine TL.run 7 [] [(1, .int .i64 a), (2, .int .i64 b_), (3, .pointer (some ⟨b1, 0, none⟩)), (7, .int .i64 r2.1), (8, .int .i64 r2.2)] rfl ⟨by kernel_rfl, by kernel_rfl⟩ ?_
  refine TL.next rfl ?_
  refine TC.seq ?_
  refine TC.region ?_
  refine TL.run 3 [] [(1, .int .i64 a), (2, .int .i64 b_), (3, .pointer (some ⟨b1, 0, none⟩)), (7, .int .i64 r2.1), (20, .bool (r2.2 != 0))] rfl ⟨by kernel_rfl, by kernel_rfl⟩ ?_
  refine TL.join 20 (r2.2 != 0) 6 [] [] (fun β => [(1, .int .i64 a), (2, .int .i64 b_), (3, .pointer (some ⟨b1, 0, none⟩)), (23, .bool (β || (r2.1 != 3)))]) (by kernel_rfl) rfl ⟨by kernel_rfl, by kernel_rfl⟩ ⟨by kernel_rfl, by kernel_rfl⟩ ?_
  refine TL.next rfl ?_
  refine TC.cond ((r2.2 != 0) || (r2.1 != 3)) rfl (by kernel_rfl) (fun h1 => ?_) (fun h1 => ?_)
  · refine TC.seq ?_
    refine TC.region ?_
    refine TL.run 1 [] [(6, .bool false)] rfl ⟨by kernel_rfl, by kernel_rfl⟩ ?_
    refine TL.next rfl ?_
    refine TC.ret ?_
    refine TE.ret_then ?_
    have e : skywaykeep2_RadarGrows s a b_ = false := by subst hr1 hr2; unfold skywaykeep2_RadarGrows; exact cond_t h1 (rfl)
    exact TE.ret [] (.bool false) ⟨by kernel_rfl, by kernel_rfl⟩ (by rw [e]; first | done | kernel_rfl)
  · refine TC.skip ?_
    refine TE.next ?_
    refine TC.seq ?_
    refine TC.region ?_
    refine TL.run 2 [0] [(1, .int .i64 a), (2, .int .i64 b_), (3, .pointer (some ⟨b1, 0, none⟩)), (25, RadarSite.v s), (26, .int .i64 a)] rfl ⟨by kernel_rfl, by kernel_rfl⟩ ?_
    refine TL.call (some 27) [(1, .int .i64 a), (2, .int .i64 b_), (3, .pointer (some ⟨b1, 0, none⟩)), (27, .tuple #[.int .i64 ((radar_Error s a).1), .int .i64 ((radar_Error s a).2)])] (fun w _ => radar_Error_w s a w) (by kernel_rfl) (by kernel_rfl) ?_
    generalize hr3 : radar_Error s a = r3
    refine TL.run 8 [] [(1, .int .i64 a), (2, .int .i64 b_), (3, .pointer (some ⟨b1, 0, none⟩)), (9, .int .i64 r3.1), (10, .int .i64 r3.2)] rfl ⟨by kernel_rfl, by kernel_rfl⟩ ?_
    refine TL.next rfl ?_
    refine TC.seq ?_
    refine TC.region ?_
    refine TL.run 2 [0] [(1, .int .i64 a), (2, .int .i64 b_), (9, .int .i64 r3.1), (10, .int .i64 r3.2), (31, RadarSite.v s), (32, .int .i64 b_)] rfl ⟨by kernel_rfl, by kernel_rfl⟩ ?_
    refine TL.call (some 33) [(1, .int .i64 a), (2, .int .i64 b_), (9, .int .i64 r3.1), (10, .int .i64 r3.2), (33, .tuple #[.int .i64 ((radar_Error s b_).1), .int .i64 ((radar_Error s b_).2)])] (fun w _ => radar_Error_w s b_ w) (by kernel_rfl) (by kernel_rfl) ?_
    generalize hr4 : radar_Error s b_ = r4
    refine TL.run 8 [] [(1, .int .i64 a), (2, .int .i64 b_), (9, .int .i64 r3.1), (10, .int .i64 r3.2), (11, .int .i64 r4.1), (12, .int .i64 r4.2)] rfl ⟨by kernel_rfl, by kernel_rfl⟩ ?_
    refine TL.next rfl ?_
    refine TC.seq ?_
    refine TC.region ?_
    refine TL.run 2 [] [(1, .int .i64 a), (2, .int .i64 b_), (9, .int .i64 r3.1), (11, .int .i64 r4.1), (36, .int .i64 r3.2), (37, .int .i64 r4.2)] rfl ⟨by kernel_rfl, by kernel_rfl⟩ ?_
    refine TL.write 0 (fun b2 => [(1, .int .i64 a), (2, .int .i64 b_), (9, .int .i64 r3.1), (11, .int .i64 r4.1), (38, .slice (some ⟨b2, 0, none⟩) 2 2)]) (fun b2 => [.inl (b2, .cells #[.int .i64 r3.2, .int .i64 r4.2] 22 (0, 0)), .inl (b1, .cells (RadarSite.c s) 42 (0, 0))]) (fun b2 => ⟨by kernel_rfl, by kernel_rfl⟩) (fun b2 => ?_)
    refine TL.call (some 39) [(1, .int .i64 a), (2, .int .i64 b_), (9, .int .i64 r3.1), (11, .int .i64 r4.1), (39, .bool ((skywaykeep2_fine ([r3.2, r4.2]))))] (fun w hM => skywaykeep2_fine_w (some ⟨b2, 0, none⟩) 2 ([r3.2, r4.2]) w (Rd.lit hM 0 _ rfl (by kernel_rfl) (by kernel_rfl) (by kernel_rfl)) (Nat.le_refl _)) (by kernel_rfl) (by kernel_rfl) ?_
    generalize hr5 : skywaykeep2_fine ([r3.2, r4.2]) = r5
    refine TL.run 6 [] [(1, .int .i64 a), (2, .int .i64 b_), (9, .int .i64 r3.1), (11, .int .i64 r4.1), (41, .bool (!r5))] rfl ⟨by kernel_rfl, by kernel_rfl⟩ ?_
    refine TL.join 41 (!r5) 14 [] [] (fun β => [(9, .int .i64 r3.1), (11, .int .i64 r4.1), (49, .bool (β || ((decide (r3.1 ≤ r4.1)) == (decide (a ≤ b_)))))]) (by kernel_rfl) rfl ⟨by kernel_rfl, by kernel_rfl⟩ ⟨by kernel_rfl, by kernel_rfl⟩ ?_
    refine TL.run 15 [] [(9, .int .i64 r3.1), (11, .int .i64 r4.1), (50, .bool ((!r5) || ((decide (r3.1 ≤ r4.1)) == (decide (a ≤ b_)))))] rfl ⟨by kernel_rfl, by kernel_rfl⟩ ?_
    refine TL.join 50 ((!r5) || ((decide (r3.1 ≤ r4.1)) == (decide (a ≤ b_)))) 19 [] [] (fun β => [(54, .bool (β || (r3.1 == r4.1)))]) (by kernel_rfl) rfl ⟨by kernel_rfl, by kernel_rfl⟩ ⟨by kernel_rfl, by kernel_rfl⟩ ?_
    refine TL.run 20 [] [(6, .bool (((!r5) || ((decide (r3.1 ≤ r4.1)) == (decide (a ≤ b_)))) || (r3.1 == r4.1)))] rfl ⟨by kernel_rfl, by kernel_rfl⟩ ?_
    refine TL.next rfl ?_
    refine TC.ret ?_
    have e : skywaykeep2_RadarGrows s a b_ = (((!r5) || ((decide (r3.1 ≤ r4.1)) == (decide (a ≤ b_)))) || (r3.1 == r4.1)) := by subst hr1 hr2 hr3 hr4 hr5; unfold skywaykeep2_RadarGrows; exact cond_f h1 (rfl)
    exact TE.ret [] (.bool (((!r5) || ((decide (r3.1 ≤ r4.1)) == (decide (a ≤ b_)))) || (r3.1 == r4.1))) ⟨by kernel_rfl, by kernel_rfl⟩ (by rw [e]; first | done | kernel_rfl)

end Go.Sky
