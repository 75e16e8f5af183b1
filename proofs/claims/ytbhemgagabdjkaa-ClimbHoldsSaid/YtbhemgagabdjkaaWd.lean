/- Functions of the program, each with the Lean function that it computes. Conditions: none. -/
import Derived.Test.YtbhemgagabdjkaaFine
namespace Go.Sky
open Go Go.Eng Go.Proofs
def gate_CheckTrack (t : Track) : Int :=
  let r1 := radar_CheckSpot (⟨t.Time, t.At, t.Height, t.Code, 0⟩ : Spot)
  cond (((r1 != 0) || (decide (t.Radius < 0))) || (decide (t.Radius > 4000000))) (
    4) (
    0)

set_option maxRecDepth 100000 in
theorem gate_CheckTrack_w (t : Track) (w : World) : Calls Try.prog 59 #[Track.v t] w (Ret w (.int .i64 (gate_CheckTrack t))) := by
  refine calls_intro (vs := [Track.v t]) (w := w) Try.func59 rfl Try.ntmps59 rfl ?_
  refine TC.weak [(0, Track.v t)] (by kernel_rfl) ?_
  refine TC.seq ?_
  refine TC.region ?_
  refine TL.write 0 (fun b1 => [(1, .pointer (some ⟨b1, 0, none⟩))]) (fun b1 => [.inl (b1, .cells (Track.c t) 49 (0, 0))]) (fun b1 => ⟨by kernel_rfl, by kernel_rfl⟩) (fun b1 => ?_)
  refine TL.run 2 [] [(1, .pointer (some ⟨b1, 0, none⟩))] rfl ⟨by kernel_rfl, by kernel_rfl⟩ ?_
  refine TL.next rfl ?_
  refine TC.seq ?_
  refine TC.seq ?_
  refine TC.region ?_
  refine TL.run 9 [0, 0, 0, 0] [(1, .pointer (some ⟨b1, 0, none⟩)), (11, .agg #[.int .i64 t.Time, .int .i64 t.At.X, .int .i64 t.At.Y, .int .i64 t.Height, .int .i64 t.Code, .int .i64 0])] rfl ⟨by kernel_rfl, by kernel_rfl⟩ ?_
  refine TL.call (some 12) [(1, .pointer (some ⟨b1, 0, none⟩)), (12, .int .i64 (radar_CheckSpot (⟨t.Time, t.At, t.Height, t.Code, 0⟩ : Spot)))] (fun w _ => radar_CheckSpot_w (⟨t.Time, t.At, t.Height, t.Code, 0⟩ : Spot) w) (by kernel_rfl) (by kernel_rfl) ?_
  generalize hr1 : radar_CheckSpot (⟨t.Time, t.At, t.Height, t.Code, 0⟩ : Spot) = r1
  refine TL.run 12 [] [(1, .pointer (some ⟨b1, 0, none⟩)), (14, .bool (r1 != 0))] rfl ⟨by kernel_rfl, by kernel_rfl⟩ ?_
  refine TL.join 14 (r1 != 0) 16 [] [0] (fun β => [(1, .pointer (some ⟨b1, 0, none⟩)), (18, .bool (β || (decide (t.Radius < 0))))]) (by kernel_rfl) rfl ⟨by kernel_rfl, by kernel_rfl⟩ ⟨by kernel_rfl, by kernel_rfl⟩ ?_
  refine TL.run 17 [] [(1, .pointer (some ⟨b1, 0, none⟩)), (19, .bool ((r1 != 0) || (decide (t.Radius < 0))))] rfl ⟨by kernel_rfl, by kernel_rfl⟩ ?_
  refine TL.join 19 ((r1 != 0) || (decide (t.Radius < 0))) 21 [] [0] (fun β => [(23, .bool (β || (decide (t.Radius > 4000000))))]) (by kernel_rfl) rfl ⟨by kernel_rfl, by kernel_rfl⟩ ⟨by kernel_rfl, by kernel_rfl⟩ ?_
  refine TL.next rfl ?_
  refine TC.cond (((r1 != 0) || (decide (t.Radius < 0))) || (decide (t.Radius > 4000000))) rfl (by kernel_rfl) (fun h1 => ?_) (fun h1 => ?_)
  · refine TC.seq ?_
    refine TC.region ?_
    refine TL.run 1 [] [(2, .int .i64 4)] rfl ⟨by kernel_rfl, by kernel_rfl⟩ ?_
    refine TL.next rfl ?_
    refine TC.ret ?_
    refine TE.ret_then ?_
    have e : gate_CheckTrack t = 4 := by subst hr1; unfold gate_CheckTrack; exact cond_t h1 (rfl)
    exact TE.ret [] (.int .i64 4) ⟨by kernel_rfl, by kernel_rfl⟩ (by rw [e]; first | done | kernel_rfl)
  · refine TC.skip ?_
    refine TE.next ?_
    refine TC.seq ?_
    refine TC.region ?_
    refine TL.run 1 [] [(2, .int .i64 0)] rfl ⟨by kernel_rfl, by kernel_rfl⟩ ?_
    refine TL.next rfl ?_
    refine TC.ret ?_
    have e : gate_CheckTrack t = 0 := by subst hr1; unfold gate_CheckTrack; exact cond_f h1 (rfl)
    exact TE.ret [] (.int .i64 0) ⟨by kernel_rfl, by kernel_rfl⟩ (by rw [e]; first | done | kernel_rfl)

def filter_Check (f : FilterTrack) : Int :=
  let r1 := gate_CheckTrack f.Track
  cond (r1 != 0) (
    r1) (
    let r2 := filter_out f.Track.Speed.X (-12800) 12800
    cond r2 (
      4) (
      let r3 := filter_out f.Track.Speed.Y (-12800) 12800
      cond r3 (
        4) (
        let r4 := filter_out f.Track.Rate (-3200) 3200
        cond r4 (
          4) (
          let r5 := filter_out f.Slack 0 409600
          cond (((r5 || (decide (f.Track.ID < 0))) || (decide (f.Track.Hits < 0))) || (decide (f.Track.Misses < 0))) (
            4) (
            let r6 := filter_out f.Track.State 0 2
            cond r6 (
              1) (
              let r7 := radar_CheckSpot f.Last
              cond (r7 != 0) (
                r7) (
                cond (decide (f.Last.Time > f.Track.Time)) (
                  12) (
                  0))))))))

set_option maxRecDepth 100000 in
theorem filter_Check_w (f : FilterTrack) (w : World) : Calls Try.prog 48 #[FilterTrack.v f] w (Ret w (.int .i64 (filter_Check f))) := by
  refine calls_intro (vs := [FilterTrack.v f]) (w := w) Try.func48 rfl Try.ntmps48 rfl ?_
  refine TC.weak [(0, FilterTrack.v f)] (by kernel_rfl) ?_
  refine TC.seq ?_
  refine TC.region ?_
  refine TL.write 0 (fun b1 => [(1, .pointer (some ⟨b1, 0, none⟩))]) (fun b1 => [.inl (b1, .cells (FilterTrack.c f) 53 (0, 0))]) (fun b1 => ⟨by kernel_rfl, by kernel_rfl⟩) (fun b1 => ?_)
  refine TL.run 2 [] [(1, .pointer (some ⟨b1, 0, none⟩))] rfl ⟨by kernel_rfl, by kernel_rfl⟩ ?_
  refine TL.next rfl ?_
  refine TC.seq ?_
  refine TC.region ?_
  refine TL.run 2 [0] [(1, .pointer (some ⟨b1, 0, none⟩)), (7, Track.v f.Track)] rfl ⟨by kernel_rfl, by kernel_rfl⟩ ?_
  refine TL.write 0 (fun b2 => [(1, .pointer (some ⟨b1, 0, none⟩)), (3, .pointer (some ⟨b2, 0, none⟩)), (7, Track.v f.Track)]) (fun b2 => [.inl (b2, .cells (Track.c Track.zero) 49 (0, 0)), .inl (b1, .cells (FilterTrack.c f) 53 (0, 0))]) (fun b2 => ⟨by kernel_rfl, by kernel_rfl⟩) (fun b2 => ?_)
  refine TL.write 0 (fun _ => [(1, .pointer (some ⟨b1, 0, none⟩)), (3, .pointer (some ⟨b2, 0, none⟩))]) (fun _ => [.inl (b2, .cells (Track.c f.Track) 49 (0, 0)), .inl (b1, .cells (FilterTrack.c f) 53 (0, 0))]) (fun _ => ⟨by kernel_rfl, by kernel_rfl⟩) (fun _ => ?_)
  refine TL.next rfl ?_
  refine TC.seq ?_
  refine TC.seq ?_
  refine TC.region ?_
  refine TL.run 1 [0] [(1, .pointer (some ⟨b1, 0, none⟩)), (3, .pointer (some ⟨b2, 0, none⟩)), (8, Track.v f.Track)] rfl ⟨by kernel_rfl, by kernel_rfl⟩ ?_
  refine TL.call (some 9) [(1, .pointer (some ⟨b1, 0, none⟩)), (3, .pointer (some ⟨b2, 0, none⟩)), (9, .int .i64 (gate_CheckTrack f.Track))] (fun w _ => gate_CheckTrack_w f.Track w) (by kernel_rfl) (by kernel_rfl) ?_
  generalize hr1 : gate_CheckTrack f.Track = r1
  refine TL.run 3 [] [(1, .pointer (some ⟨b1, 0, none⟩)), (3, .pointer (some ⟨b2, 0, none⟩)), (4, .int .i64 r1)] rfl ⟨by kernel_rfl, by kernel_rfl⟩ ?_
  refine TL.next rfl ?_
  refine TC.seq ?_
  refine TC.region ?_
  refine TL.run 2 [] [(1, .pointer (some ⟨b1, 0, none⟩)), (3, .pointer (some ⟨b2, 0, none⟩)), (4, .int .i64 r1), (11, .bool (r1 != 0))] rfl ⟨by kernel_rfl, by kernel_rfl⟩ ?_
  refine TL.next rfl ?_
  refine TC.cond (r1 != 0) rfl (by kernel_rfl) (fun h1 => ?_) (fun h1 => ?_)
  · refine TC.seq ?_
    refine TC.region ?_
    refine TL.run 2 [] [(2, .int .i64 r1)] rfl ⟨by kernel_rfl, by kernel_rfl⟩ ?_
    refine TL.next rfl ?_
    refine TC.ret ?_
    refine TE.ret_then ?_
    have e : filter_Check f = r1 := by subst hr1; unfold filter_Check; exact cond_t h1 (rfl)
    exact TE.ret [] (.int .i64 r1) ⟨by kernel_rfl, by kernel_rfl⟩ (by rw [e]; first | done | kernel_rfl)
  · refine TC.skip ?_
    refine TE.next ?_
    refine TC.seq ?_
    refine TC.seq ?_
    refine TC.region ?_
    refine TL.run 3 [0] [(1, .pointer (some ⟨b1, 0, none⟩)), (3, .pointer (some ⟨b2, 0, none⟩)), (15, .int .i64 f.Track.Speed.X)] rfl ⟨by kernel_rfl, by kernel_rfl⟩ ?_
    refine TL.call (some 16) [(1, .pointer (some ⟨b1, 0, none⟩)), (3, .pointer (some ⟨b2, 0, none⟩)), (16, .bool ((filter_out f.Track.Speed.X (-12800) 12800)))] (fun w _ => filter_out_w f.Track.Speed.X (-12800) 12800 w) (by kernel_rfl) (by kernel_rfl) ?_
    generalize hr2 : filter_out f.Track.Speed.X (-12800) 12800 = r2
    refine TL.run 5 [] [(1, .pointer (some ⟨b1, 0, none⟩)), (3, .pointer (some ⟨b2, 0, none⟩)), (17, .bool r2)] rfl ⟨by kernel_rfl, by kernel_rfl⟩ ?_
    refine TL.split 17 r2 (by kernel_rfl) (fun h2 => ?_) (fun h2 => ?_)
    · refine TL.run 35 [] [(1, .pointer (some ⟨b1, 0, none⟩)), (3, .pointer (some ⟨b2, 0, none⟩)), (47, .bool true)] rfl ⟨by kernel_rfl, by kernel_rfl⟩ ?_
      refine TL.next rfl ?_
      refine TC.condT rfl (by kernel_rfl) ?_
      refine TC.seq ?_
      refine TC.region ?_
      refine TL.run 1 [] [(2, .int .i64 4)] rfl ⟨by kernel_rfl, by kernel_rfl⟩ ?_
      refine TL.next rfl ?_
      refine TC.ret ?_
      refine TE.ret_then ?_
      have e : filter_Check f = 4 := by subst hr1 hr2; unfold filter_Check; exact cond_f h1 (cond_t h2 (rfl))
      exact TE.ret [] (.int .i64 4) ⟨by kernel_rfl, by kernel_rfl⟩ (by rw [e]; first | done | kernel_rfl)
    · refine TL.run 8 [0] [(1, .pointer (some ⟨b1, 0, none⟩)), (3, .pointer (some ⟨b2, 0, none⟩)), (17, .bool false), (20, .int .i64 f.Track.Speed.Y)] rfl ⟨by kernel_rfl, by kernel_rfl⟩ ?_
      refine TL.call (some 21) [(1, .pointer (some ⟨b1, 0, none⟩)), (3, .pointer (some ⟨b2, 0, none⟩)), (17, .bool false), (21, .bool ((filter_out f.Track.Speed.Y (-12800) 12800)))] (fun w _ => filter_out_w f.Track.Speed.Y (-12800) 12800 w) (by kernel_rfl) (by kernel_rfl) ?_
      generalize hr3 : filter_out f.Track.Speed.Y (-12800) 12800 = r3
      refine TL.run 11 [] [(1, .pointer (some ⟨b1, 0, none⟩)), (3, .pointer (some ⟨b2, 0, none⟩)), (23, .bool r3)] rfl ⟨by kernel_rfl, by kernel_rfl⟩ ?_
      refine TL.split 23 r3 (by kernel_rfl) (fun h3 => ?_) (fun h3 => ?_)
      · refine TL.run 35 [] [(1, .pointer (some ⟨b1, 0, none⟩)), (3, .pointer (some ⟨b2, 0, none⟩)), (47, .bool true)] rfl ⟨by kernel_rfl, by kernel_rfl⟩ ?_
        refine TL.next rfl ?_
        refine TC.condT rfl (by kernel_rfl) ?_
        refine TC.seq ?_
        refine TC.region ?_
        refine TL.run 1 [] [(2, .int .i64 4)] rfl ⟨by kernel_rfl, by kernel_rfl⟩ ?_
        refine TL.next rfl ?_
        refine TC.ret ?_
        refine TE.ret_then ?_
        have e : filter_Check f = 4 := by subst hr1 hr2 hr3; unfold filter_Check; exact cond_f h1 (cond_f h2 (cond_t h3 (rfl)))
        exact TE.ret [] (.int .i64 4) ⟨by kernel_rfl, by kernel_rfl⟩ (by rw [e]; first | done | kernel_rfl)
      · refine TL.run 13 [0] [(1, .pointer (some ⟨b1, 0, none⟩)), (3, .pointer (some ⟨b2, 0, none⟩)), (23, .bool false), (25, .int .i64 f.Track.Rate)] rfl ⟨by kernel_rfl, by kernel_rfl⟩ ?_
        refine TL.call (some 26) [(1, .pointer (some ⟨b1, 0, none⟩)), (3, .pointer (some ⟨b2, 0, none⟩)), (23, .bool false), (26, .bool ((filter_out f.Track.Rate (-3200) 3200)))] (fun w _ => filter_out_w f.Track.Rate (-3200) 3200 w) (by kernel_rfl) (by kernel_rfl) ?_
        generalize hr4 : filter_out f.Track.Rate (-3200) 3200 = r4
        refine TL.run 16 [] [(1, .pointer (some ⟨b1, 0, none⟩)), (3, .pointer (some ⟨b2, 0, none⟩)), (28, .bool r4)] rfl ⟨by kernel_rfl, by kernel_rfl⟩ ?_
        refine TL.split 28 r4 (by kernel_rfl) (fun h4 => ?_) (fun h4 => ?_)
        · refine TL.run 35 [] [(1, .pointer (some ⟨b1, 0, none⟩)), (3, .pointer (some ⟨b2, 0, none⟩)), (47, .bool true)] rfl ⟨by kernel_rfl, by kernel_rfl⟩ ?_
          refine TL.next rfl ?_
          refine TC.condT rfl (by kernel_rfl) ?_
          refine TC.seq ?_
          refine TC.region ?_
          refine TL.run 1 [] [(2, .int .i64 4)] rfl ⟨by kernel_rfl, by kernel_rfl⟩ ?_
          refine TL.next rfl ?_
          refine TC.ret ?_
          refine TE.ret_then ?_
          have e : filter_Check f = 4 := by subst hr1 hr2 hr3 hr4; unfold filter_Check; exact cond_f h1 (cond_f h2 (cond_f h3 (cond_t h4 (rfl))))
          exact TE.ret [] (.int .i64 4) ⟨by kernel_rfl, by kernel_rfl⟩ (by rw [e]; first | done | kernel_rfl)
        · refine TL.run 18 [1] [(1, .pointer (some ⟨b1, 0, none⟩)), (3, .pointer (some ⟨b2, 0, none⟩)), (28, .bool false), (30, .int .i64 f.Slack)] rfl ⟨by kernel_rfl, by kernel_rfl⟩ ?_
          refine TL.call (some 31) [(1, .pointer (some ⟨b1, 0, none⟩)), (3, .pointer (some ⟨b2, 0, none⟩)), (28, .bool false), (31, .bool ((filter_out f.Slack 0 409600)))] (fun w _ => filter_out_w f.Slack 0 409600 w) (by kernel_rfl) (by kernel_rfl) ?_
          generalize hr5 : filter_out f.Slack 0 409600 = r5
          refine TL.run 21 [] [(1, .pointer (some ⟨b1, 0, none⟩)), (3, .pointer (some ⟨b2, 0, none⟩)), (33, .bool r5)] rfl ⟨by kernel_rfl, by kernel_rfl⟩ ?_
          refine TL.join 33 r5 25 [] [0] (fun β => [(1, .pointer (some ⟨b1, 0, none⟩)), (3, .pointer (some ⟨b2, 0, none⟩)), (37, .bool (β || (decide (f.Track.ID < 0))))]) (by kernel_rfl) rfl ⟨by kernel_rfl, by kernel_rfl⟩ ⟨by kernel_rfl, by kernel_rfl⟩ ?_
          refine TL.run 26 [] [(1, .pointer (some ⟨b1, 0, none⟩)), (3, .pointer (some ⟨b2, 0, none⟩)), (38, .bool (r5 || (decide (f.Track.ID < 0))))] rfl ⟨by kernel_rfl, by kernel_rfl⟩ ?_
          refine TL.join 38 (r5 || (decide (f.Track.ID < 0))) 30 [] [0] (fun β => [(1, .pointer (some ⟨b1, 0, none⟩)), (3, .pointer (some ⟨b2, 0, none⟩)), (42, .bool (β || (decide (f.Track.Hits < 0))))]) (by kernel_rfl) rfl ⟨by kernel_rfl, by kernel_rfl⟩ ⟨by kernel_rfl, by kernel_rfl⟩ ?_
          refine TL.run 31 [] [(1, .pointer (some ⟨b1, 0, none⟩)), (3, .pointer (some ⟨b2, 0, none⟩)), (43, .bool ((r5 || (decide (f.Track.ID < 0))) || (decide (f.Track.Hits < 0))))] rfl ⟨by kernel_rfl, by kernel_rfl⟩ ?_
          refine TL.join 43 ((r5 || (decide (f.Track.ID < 0))) || (decide (f.Track.Hits < 0))) 35 [] [0] (fun β => [(1, .pointer (some ⟨b1, 0, none⟩)), (3, .pointer (some ⟨b2, 0, none⟩)), (47, .bool (β || (decide (f.Track.Misses < 0))))]) (by kernel_rfl) rfl ⟨by kernel_rfl, by kernel_rfl⟩ ⟨by kernel_rfl, by kernel_rfl⟩ ?_
          refine TL.next rfl ?_
          refine TC.cond (((r5 || (decide (f.Track.ID < 0))) || (decide (f.Track.Hits < 0))) || (decide (f.Track.Misses < 0))) rfl (by kernel_rfl) (fun h5 => ?_) (fun h5 => ?_)
          · refine TC.seq ?_
            refine TC.region ?_
            refine TL.run 1 [] [(2, .int .i64 4)] rfl ⟨by kernel_rfl, by kernel_rfl⟩ ?_
            refine TL.next rfl ?_
            refine TC.ret ?_
            refine TE.ret_then ?_
            have e : filter_Check f = 4 := by subst hr1 hr2 hr3 hr4 hr5; unfold filter_Check; exact cond_f h1 (cond_f h2 (cond_f h3 (cond_f h4 (cond_t h5 (rfl)))))
            exact TE.ret [] (.int .i64 4) ⟨by kernel_rfl, by kernel_rfl⟩ (by rw [e]; first | done | kernel_rfl)
          · refine TC.skip ?_
            refine TE.next ?_
            refine TC.seq ?_
            refine TC.seq ?_
            refine TC.region ?_
            refine TL.run 2 [0] [(1, .pointer (some ⟨b1, 0, none⟩)), (3, .pointer (some ⟨b2, 0, none⟩)), (49, .int .i64 f.Track.State)] rfl ⟨by kernel_rfl, by kernel_rfl⟩ ?_
            refine TL.call (some 50) [(1, .pointer (some ⟨b1, 0, none⟩)), (3, .pointer (some ⟨b2, 0, none⟩)), (50, .bool ((filter_out f.Track.State 0 2)))] (fun w _ => filter_out_w f.Track.State 0 2 w) (by kernel_rfl) (by kernel_rfl) ?_
            generalize hr6 : filter_out f.Track.State 0 2 = r6
            refine TL.next rfl ?_
            refine TC.cond r6 rfl (by kernel_rfl) (fun h6 => ?_) (fun h6 => ?_)
            · refine TC.seq ?_
              refine TC.region ?_
              refine TL.run 1 [] [(2, .int .i64 1)] rfl ⟨by kernel_rfl, by kernel_rfl⟩ ?_
              refine TL.next rfl ?_
              refine TC.ret ?_
              refine TE.ret_then ?_
              have e : filter_Check f = 1 := by subst hr1 hr2 hr3 hr4 hr5 hr6; unfold filter_Check; exact cond_f h1 (cond_f h2 (cond_f h3 (cond_f h4 (cond_f h5 (cond_t h6 (rfl))))))
              exact TE.ret [] (.int .i64 1) ⟨by kernel_rfl, by kernel_rfl⟩ (by rw [e]; first | done | kernel_rfl)
            · refine TC.skip ?_
              refine TE.next ?_
              refine TC.seq ?_
              refine TC.seq ?_
              refine TC.region ?_
              refine TL.run 2 [1] [(1, .pointer (some ⟨b1, 0, none⟩)), (3, .pointer (some ⟨b2, 0, none⟩)), (52, Spot.v f.Last)] rfl ⟨by kernel_rfl, by kernel_rfl⟩ ?_
              refine TL.call (some 53) [(1, .pointer (some ⟨b1, 0, none⟩)), (3, .pointer (some ⟨b2, 0, none⟩)), (53, .int .i64 (radar_CheckSpot f.Last))] (fun w _ => radar_CheckSpot_w f.Last w) (by kernel_rfl) (by kernel_rfl) ?_
              generalize hr7 : radar_CheckSpot f.Last = r7
              refine TL.run 4 [] [(1, .pointer (some ⟨b1, 0, none⟩)), (3, .pointer (some ⟨b2, 0, none⟩)), (5, .int .i64 r7)] rfl ⟨by kernel_rfl, by kernel_rfl⟩ ?_
              refine TL.next rfl ?_
              refine TC.seq ?_
              refine TC.region ?_
              refine TL.run 2 [] [(1, .pointer (some ⟨b1, 0, none⟩)), (3, .pointer (some ⟨b2, 0, none⟩)), (5, .int .i64 r7), (55, .bool (r7 != 0))] rfl ⟨by kernel_rfl, by kernel_rfl⟩ ?_
              refine TL.next rfl ?_
              refine TC.cond (r7 != 0) rfl (by kernel_rfl) (fun h7 => ?_) (fun h7 => ?_)
              · refine TC.seq ?_
                refine TC.region ?_
                refine TL.run 2 [] [(2, .int .i64 r7)] rfl ⟨by kernel_rfl, by kernel_rfl⟩ ?_
                refine TL.next rfl ?_
                refine TC.ret ?_
                refine TE.ret_then ?_
                have e : filter_Check f = r7 := by subst hr1 hr2 hr3 hr4 hr5 hr6 hr7; unfold filter_Check; exact cond_f h1 (cond_f h2 (cond_f h3 (cond_f h4 (cond_f h5 (cond_f h6 (cond_t h7 (rfl)))))))
                exact TE.ret [] (.int .i64 r7) ⟨by kernel_rfl, by kernel_rfl⟩ (by rw [e]; first | done | kernel_rfl)
              · refine TC.skip ?_
                refine TE.next ?_
                refine TC.seq ?_
                refine TC.seq ?_
                refine TC.region ?_
                refine TL.run 6 [1, 0] [(62, .bool (decide (f.Last.Time > f.Track.Time)))] rfl ⟨by kernel_rfl, by kernel_rfl⟩ ?_
                refine TL.next rfl ?_
                refine TC.cond (decide (f.Last.Time > f.Track.Time)) rfl (by kernel_rfl) (fun h8 => ?_) (fun h8 => ?_)
                · refine TC.seq ?_
                  refine TC.region ?_
                  refine TL.run 1 [] [(2, .int .i64 12)] rfl ⟨by kernel_rfl, by kernel_rfl⟩ ?_
                  refine TL.next rfl ?_
                  refine TC.ret ?_
                  refine TE.ret_then ?_
                  have e : filter_Check f = 12 := by subst hr1 hr2 hr3 hr4 hr5 hr6 hr7; unfold filter_Check; exact cond_f h1 (cond_f h2 (cond_f h3 (cond_f h4 (cond_f h5 (cond_f h6 (cond_f h7 (cond_t h8 (rfl))))))))
                  exact TE.ret [] (.int .i64 12) ⟨by kernel_rfl, by kernel_rfl⟩ (by rw [e]; first | done | kernel_rfl)
                · refine TC.skip ?_
                  refine TE.next ?_
                  refine TC.seq ?_
                  refine TC.region ?_
                  refine TL.run 1 [] [(2, .int .i64 0)] rfl ⟨by kernel_rfl, by kernel_rfl⟩ ?_
                  refine TL.next rfl ?_
                  refine TC.ret ?_
                  have e : filter_Check f = 0 := by subst hr1 hr2 hr3 hr4 hr5 hr6 hr7; unfold filter_Check; exact cond_f h1 (cond_f h2 (cond_f h3 (cond_f h4 (cond_f h5 (cond_f h6 (cond_f h7 (cond_f h8 (rfl))))))))
                  exact TE.ret [] (.int .i64 0) ⟨by kernel_rfl, by kernel_rfl⟩ (by rw [e]; first | done | kernel_rfl)

def coast_Miss (f : FilterTrack) (limit : Int) : FilterTrack × Bool × Int :=
  let r1 := filter_Check f
  cond (r1 != 0) (
    ((⟨⟨0, 0, 0, ⟨0, 0⟩, ⟨0, 0⟩, 0, 0, 0, 0, 0, 0⟩, 0, ⟨0, ⟨0, 0⟩, 0, 0, 0⟩⟩ : FilterTrack), false, r1)) (
    cond ((decide (limit < 0)) || (decide (limit > 100))) (
      ((⟨⟨0, 0, 0, ⟨0, 0⟩, ⟨0, 0⟩, 0, 0, 0, 0, 0, 0⟩, 0, ⟨0, ⟨0, 0⟩, 0, 0, 0⟩⟩ : FilterTrack), false, 4)) (
      cond (decide (f.Track.Misses < 101)) (
        cond (f.Track.State == 1) (
          ((⟨⟨f.Track.ID, 2, f.Track.Time, f.Track.At, f.Track.Speed, f.Track.Height, f.Track.Rate, f.Track.Radius, f.Track.Code, f.Track.Hits, w64 (f.Track.Misses + 1)⟩, f.Slack, f.Last⟩ : FilterTrack), decide ((w64 (f.Track.Misses + 1)) > limit), 0)) (
          ((⟨⟨f.Track.ID, f.Track.State, f.Track.Time, f.Track.At, f.Track.Speed, f.Track.Height, f.Track.Rate, f.Track.Radius, f.Track.Code, f.Track.Hits, w64 (f.Track.Misses + 1)⟩, f.Slack, f.Last⟩ : FilterTrack), decide ((w64 (f.Track.Misses + 1)) > limit), 0))) (
        cond (f.Track.State == 1) (
          ((⟨⟨f.Track.ID, 2, f.Track.Time, f.Track.At, f.Track.Speed, f.Track.Height, f.Track.Rate, f.Track.Radius, f.Track.Code, f.Track.Hits, 101⟩, f.Slack, f.Last⟩ : FilterTrack), decide (101 > limit), 0)) (
          ((⟨⟨f.Track.ID, f.Track.State, f.Track.Time, f.Track.At, f.Track.Speed, f.Track.Height, f.Track.Rate, f.Track.Radius, f.Track.Code, f.Track.Hits, 101⟩, f.Slack, f.Last⟩ : FilterTrack), decide (101 > limit), 0)))))

set_option maxRecDepth 100000 in
theorem coast_Miss_w (f : FilterTrack) (limit : Int) (w : World) : Calls Try.prog 25 #[FilterTrack.v f, .int .i64 limit] w (Ret w (.tuple #[FilterTrack.v ((coast_Miss f limit).1), .bool ((coast_Miss f limit).2.1), .int .i64 ((coast_Miss f limit).2.2)])) := by
  refine calls_intro (vs := [FilterTrack.v f, .int .i64 limit]) (w := w) Try.func25 rfl Try.ntmps25 rfl ?_
  refine TC.weak [(0, FilterTrack.v f), (1, .int .i64 limit)] (by kernel_rfl) ?_
  refine TC.seq ?_
  refine TC.region ?_
  refine TL.write 0 (fun b1 => [(1, .int .i64 limit), (2, .pointer (some ⟨b1, 0, none⟩))]) (fun b1 => [.inl (b1, .cells (FilterTrack.c f) 53 (0, 0))]) (fun b1 => ⟨by kernel_rfl, by kernel_rfl⟩) (fun b1 => ?_)
  refine TL.write 0 (fun b2 => [(1, .int .i64 limit), (2, .pointer (some ⟨b1, 0, none⟩)), (4, .pointer (some ⟨b2, 0, none⟩))]) (fun b2 => [.inl (b2, .cells (FilterTrack.c FilterTrack.zero) 53 (0, 0)), .inl (b1, .cells (FilterTrack.c f) 53 (0, 0))]) (fun b2 => ⟨by kernel_rfl, by kernel_rfl⟩) (fun b2 => ?_)
  refine TL.run 4 [] [(1, .int .i64 limit), (2, .pointer (some ⟨b1, 0, none⟩)), (4, .pointer (some ⟨b2, 0, none⟩))] rfl ⟨by kernel_rfl, by kernel_rfl⟩ ?_
  refine TL.next rfl ?_
  refine TC.seq ?_
  refine TC.seq ?_
  refine TC.region ?_
  refine TL.run 1 [1] [(1, .int .i64 limit), (2, .pointer (some ⟨b1, 0, none⟩)), (4, .pointer (some ⟨b2, 0, none⟩)), (8, FilterTrack.v f)] rfl ⟨by kernel_rfl, by kernel_rfl⟩ ?_
  refine TL.call (some 9) [(1, .int .i64 limit), (2, .pointer (some ⟨b1, 0, none⟩)), (4, .pointer (some ⟨b2, 0, none⟩)), (9, .int .i64 (filter_Check f))] (fun w _ => filter_Check_w f w) (by kernel_rfl) (by kernel_rfl) ?_
  generalize hr1 : filter_Check f = r1
  refine TL.run 3 [] [(1, .int .i64 limit), (2, .pointer (some ⟨b1, 0, none⟩)), (4, .pointer (some ⟨b2, 0, none⟩)), (7, .int .i64 r1)] rfl ⟨by kernel_rfl, by kernel_rfl⟩ ?_
  refine TL.next rfl ?_
  refine TC.seq ?_
  refine TC.region ?_
  refine TL.run 2 [] [(1, .int .i64 limit), (2, .pointer (some ⟨b1, 0, none⟩)), (4, .pointer (some ⟨b2, 0, none⟩)), (7, .int .i64 r1), (11, .bool (r1 != 0))] rfl ⟨by kernel_rfl, by kernel_rfl⟩ ?_
  refine TL.next rfl ?_
  refine TC.cond (r1 != 0) rfl (by kernel_rfl) (fun h1 => ?_) (fun h1 => ?_)
  · refine TC.seq ?_
    refine TC.region ?_
    refine TL.run 2 [] [(4, .pointer (some ⟨b2, 0, none⟩)), (12, FilterTrack.v FilterTrack.zero), (13, .int .i64 r1)] rfl ⟨by kernel_rfl, by kernel_rfl⟩ ?_
    refine TL.write 0 (fun _ => [(4, .pointer (some ⟨b2, 0, none⟩)), (13, .int .i64 r1)]) (fun _ => [.inl (b2, .cells (FilterTrack.c FilterTrack.zero) 53 (0, 0)), .inl (b1, .cells (FilterTrack.c f) 53 (0, 0))]) (fun _ => ⟨by kernel_rfl, by kernel_rfl⟩) (fun _ => ?_)
    refine TL.run 5 [] [(4, .pointer (some ⟨b2, 0, none⟩)), (5, .bool false), (6, .int .i64 r1)] rfl ⟨by kernel_rfl, by kernel_rfl⟩ ?_
    refine TL.next rfl ?_
    refine TC.ret ?_
    refine TE.ret_then ?_
    have e : coast_Miss f limit = ((⟨⟨0, 0, 0, ⟨0, 0⟩, ⟨0, 0⟩, 0, 0, 0, 0, 0, 0⟩, 0, ⟨0, ⟨0, 0⟩, 0, 0, 0⟩⟩ : FilterTrack), false, r1) := by subst hr1; unfold coast_Miss; exact cond_t h1 (rfl)
    exact TE.ret [0] (.tuple #[.agg #[.int .i64 0, .int .i64 0, .int .i64 0, .int .i64 0, .int .i64 0, .int .i64 0, .int .i64 0, .int .i64 0, .int .i64 0, .int .i64 0, .int .i64 0, .int .i64 0, .int .i64 0, .int .i64 0, .int .i64 0, .int .i64 0, .int .i64 0, .int .i64 0, .int .i64 0, .int .i64 0], .bool false, .int .i64 r1]) ⟨by kernel_rfl, by kernel_rfl⟩ (by rw [e]; first | done | kernel_rfl)
  · refine TC.skip ?_
    refine TE.next ?_
    refine TC.seq ?_
    refine TC.seq ?_
    refine TC.region ?_
    refine TL.run 3 [] [(1, .int .i64 limit), (2, .pointer (some ⟨b1, 0, none⟩)), (4, .pointer (some ⟨b2, 0, none⟩)), (16, .bool (decide (limit < 0)))] rfl ⟨by kernel_rfl, by kernel_rfl⟩ ?_
    refine TL.join 16 (decide (limit < 0)) 6 [] [] (fun β => [(1, .int .i64 limit), (2, .pointer (some ⟨b1, 0, none⟩)), (4, .pointer (some ⟨b2, 0, none⟩)), (19, .bool (β || (decide (limit > 100))))]) (by kernel_rfl) rfl ⟨by kernel_rfl, by kernel_rfl⟩ ⟨by kernel_rfl, by kernel_rfl⟩ ?_
    refine TL.next rfl ?_
    refine TC.cond ((decide (limit < 0)) || (decide (limit > 100))) rfl (by kernel_rfl) (fun h2 => ?_) (fun h2 => ?_)
    · refine TC.seq ?_
      refine TC.region ?_
      refine TL.run 1 [] [(4, .pointer (some ⟨b2, 0, none⟩)), (20, FilterTrack.v FilterTrack.zero)] rfl ⟨by kernel_rfl, by kernel_rfl⟩ ?_
      refine TL.write 0 (fun _ => [(4, .pointer (some ⟨b2, 0, none⟩))]) (fun _ => [.inl (b2, .cells (FilterTrack.c FilterTrack.zero) 53 (0, 0)), .inl (b1, .cells (FilterTrack.c f) 53 (0, 0))]) (fun _ => ⟨by kernel_rfl, by kernel_rfl⟩) (fun _ => ?_)
      refine TL.run 4 [] [(4, .pointer (some ⟨b2, 0, none⟩)), (5, .bool false), (6, .int .i64 4)] rfl ⟨by kernel_rfl, by kernel_rfl⟩ ?_
      refine TL.next rfl ?_
      refine TC.ret ?_
      refine TE.ret_then ?_
      have e : coast_Miss f limit = ((⟨⟨0, 0, 0, ⟨0, 0⟩, ⟨0, 0⟩, 0, 0, 0, 0, 0, 0⟩, 0, ⟨0, ⟨0, 0⟩, 0, 0, 0⟩⟩ : FilterTrack), false, 4) := by subst hr1; unfold coast_Miss; exact cond_f h1 (cond_t h2 (rfl))
      exact TE.ret [0] (.tuple #[.agg #[.int .i64 0, .int .i64 0, .int .i64 0, .int .i64 0, .int .i64 0, .int .i64 0, .int .i64 0, .int .i64 0, .int .i64 0, .int .i64 0, .int .i64 0, .int .i64 0, .int .i64 0, .int .i64 0, .int .i64 0, .int .i64 0, .int .i64 0, .int .i64 0, .int .i64 0, .int .i64 0], .bool false, .int .i64 4]) ⟨by kernel_rfl, by kernel_rfl⟩ (by rw [e]; first | done | kernel_rfl)
    · refine TC.skip ?_
      refine TE.next ?_
      refine TC.seq ?_
      refine TC.seq ?_
      refine TC.region ?_
      refine TL.run 4 [1] [(1, .int .i64 limit), (2, .pointer (some ⟨b1, 0, none⟩)), (4, .pointer (some ⟨b2, 0, none⟩)), (24, .bool (decide (f.Track.Misses < 101)))] rfl ⟨by kernel_rfl, by kernel_rfl⟩ ?_
      refine TL.next rfl ?_
      refine TC.cond (decide (f.Track.Misses < 101)) rfl (by kernel_rfl) (fun h3 => ?_) (fun h3 => ?_)
      · refine TC.region ?_
        refine TL.run 6 [1] [(1, .int .i64 limit), (2, .pointer (some ⟨b1, 0, none⟩)), (4, .pointer (some ⟨b2, 0, none⟩)), (28, .int .i64 (w64 (f.Track.Misses + 1))), (30, .pointer (some ⟨b1, 12, none⟩))] rfl ⟨by kernel_rfl, by kernel_rfl⟩ ?_
        refine TL.write 1 (fun _ => [(1, .int .i64 limit), (2, .pointer (some ⟨b1, 0, none⟩)), (4, .pointer (some ⟨b2, 0, none⟩))]) (fun _ => [.inl (b2, .cells (FilterTrack.c FilterTrack.zero) 53 (0, 0)), .inl (b1, .cells #[.int .i64 f.Track.ID, .int .i64 f.Track.State, .int .i64 f.Track.Time, .int .i64 f.Track.At.X, .int .i64 f.Track.At.Y, .int .i64 f.Track.Speed.X, .int .i64 f.Track.Speed.Y, .int .i64 f.Track.Height, .int .i64 f.Track.Rate, .int .i64 f.Track.Radius, .int .i64 f.Track.Code, .int .i64 f.Track.Hits, .int .i64 (w64 (f.Track.Misses + 1)), .int .i64 f.Slack, .int .i64 f.Last.Time, .int .i64 f.Last.At.X, .int .i64 f.Last.At.Y, .int .i64 f.Last.Height, .int .i64 f.Last.Code, .int .i64 f.Last.Error] 53 (0, 0))]) (fun _ => ⟨by kernel_rfl, by kernel_rfl⟩) (fun _ => ?_)
        refine TL.next rfl ?_
        refine TC.seq ?_
        refine TC.seq ?_
        refine TC.region ?_
        refine TL.run 4 [1] [(1, .int .i64 limit), (2, .pointer (some ⟨b1, 0, none⟩)), (4, .pointer (some ⟨b2, 0, none⟩)), (36, .bool (f.Track.State == 1))] rfl ⟨by kernel_rfl, by kernel_rfl⟩ ?_
        refine TL.next rfl ?_
        refine TC.cond (f.Track.State == 1) rfl (by kernel_rfl) (fun h4 => ?_) (fun h4 => ?_)
        · refine TC.region ?_
          refine TL.run 2 [] [(1, .int .i64 limit), (2, .pointer (some ⟨b1, 0, none⟩)), (4, .pointer (some ⟨b2, 0, none⟩)), (38, .pointer (some ⟨b1, 1, none⟩))] rfl ⟨by kernel_rfl, by kernel_rfl⟩ ?_
          refine TL.write 1 (fun _ => [(1, .int .i64 limit), (2, .pointer (some ⟨b1, 0, none⟩)), (4, .pointer (some ⟨b2, 0, none⟩))]) (fun _ => [.inl (b2, .cells (FilterTrack.c FilterTrack.zero) 53 (0, 0)), .inl (b1, .cells #[.int .i64 f.Track.ID, .int .i64 2, .int .i64 f.Track.Time, .int .i64 f.Track.At.X, .int .i64 f.Track.At.Y, .int .i64 f.Track.Speed.X, .int .i64 f.Track.Speed.Y, .int .i64 f.Track.Height, .int .i64 f.Track.Rate, .int .i64 f.Track.Radius, .int .i64 f.Track.Code, .int .i64 f.Track.Hits, .int .i64 (w64 (f.Track.Misses + 1)), .int .i64 f.Slack, .int .i64 f.Last.Time, .int .i64 f.Last.At.X, .int .i64 f.Last.At.Y, .int .i64 f.Last.Height, .int .i64 f.Last.Code, .int .i64 f.Last.Error] 53 (0, 0))]) (fun _ => ⟨by kernel_rfl, by kernel_rfl⟩) (fun _ => ?_)
          refine TL.next rfl ?_
          refine TC.seq ?_
          refine TC.drawG 6 [.inl (b1, .cells #[.int .i64 f.Track.ID, .int .i64 2, .int .i64 f.Track.Time, .int .i64 f.Track.At.X, .int .i64 f.Track.At.Y, .int .i64 f.Track.Speed.X, .int .i64 f.Track.Speed.Y, .int .i64 f.Track.Height, .int .i64 f.Track.Rate, .int .i64 f.Track.Radius, .int .i64 f.Track.Code, .int .i64 f.Track.Hits, .int .i64 (w64 (f.Track.Misses + 1)), .int .i64 f.Slack, .int .i64 f.Last.Time, .int .i64 f.Last.At.X, .int .i64 f.Last.At.Y, .int .i64 f.Last.Height, .int .i64 f.Last.Code, .int .i64 f.Last.Error] 53 (0, 0))] [.inl (b2, .cells #[.int .i64 f.Track.ID, .int .i64 2, .int .i64 f.Track.Time, .int .i64 f.Track.At.X, .int .i64 f.Track.At.Y, .int .i64 f.Track.Speed.X, .int .i64 f.Track.Speed.Y, .int .i64 f.Track.Height, .int .i64 f.Track.Rate, .int .i64 f.Track.Radius, .int .i64 f.Track.Code, .int .i64 f.Track.Hits, .int .i64 (w64 (f.Track.Misses + 1)), .int .i64 f.Slack, .int .i64 f.Last.Time, .int .i64 f.Last.At.X, .int .i64 f.Last.At.Y, .int .i64 f.Last.Height, .int .i64 f.Last.Code, .int .i64 f.Last.Error] 53 (0, 0)), .inl (b1, .cells #[.int .i64 f.Track.ID, .int .i64 2, .int .i64 f.Track.Time, .int .i64 f.Track.At.X, .int .i64 f.Track.At.Y, .int .i64 f.Track.Speed.X, .int .i64 f.Track.Speed.Y, .int .i64 f.Track.Height, .int .i64 f.Track.Rate, .int .i64 f.Track.Radius, .int .i64 f.Track.Code, .int .i64 f.Track.Hits, .int .i64 (w64 (f.Track.Misses + 1)), .int .i64 f.Slack, .int .i64 f.Last.Time, .int .i64 f.Last.At.X, .int .i64 f.Last.At.Y, .int .i64 f.Last.Height, .int .i64 f.Last.Code, .int .i64 f.Last.Error] 53 (0, 0))] (.cons _ (.cons_cons _ (.slnil))) (.cons _ (.cons_cons _ (.slnil))) (by kernel_rfl) (by kernel_rfl) ?_
          refine TG.run 6 [0, 0] [(4, .pointer (some ⟨b2, 0, none⟩)), (39, .agg #[.int .i64 f.Track.ID, .int .i64 2, .int .i64 f.Track.Time, .int .i64 f.Track.At.X, .int .i64 f.Track.At.Y, .int .i64 f.Track.Speed.X, .int .i64 f.Track.Speed.Y, .int .i64 f.Track.Height, .int .i64 f.Track.Rate, .int .i64 f.Track.Radius, .int .i64 f.Track.Code, .int .i64 f.Track.Hits, .int .i64 (w64 (f.Track.Misses + 1)), .int .i64 f.Slack, .int .i64 f.Last.Time, .int .i64 f.Last.At.X, .int .i64 f.Last.At.Y, .int .i64 f.Last.Height, .int .i64 f.Last.Code, .int .i64 f.Last.Error]), (44, .bool (decide ((w64 (f.Track.Misses + 1)) > limit)))] rfl rfl rfl ⟨by kernel_rfl, by kernel_rfl⟩ ?_
          refine TG.store 0 rfl (fun _ => ⟨by kernel_rfl, by kernel_rfl⟩) ?_
          refine TG.run 9 [] [(4, .pointer (some ⟨b2, 0, none⟩)), (5, .bool (decide ((w64 (f.Track.Misses + 1)) > limit))), (6, .int .i64 0)] rfl rfl rfl ⟨by kernel_rfl, by kernel_rfl⟩ ?_
          refine TG.next rfl rfl ?_
          refine TC.ret ?_
          have e : coast_Miss f limit = ((⟨⟨f.Track.ID, 2, f.Track.Time, f.Track.At, f.Track.Speed, f.Track.Height, f.Track.Rate, f.Track.Radius, f.Track.Code, f.Track.Hits, w64 (f.Track.Misses + 1)⟩, f.Slack, f.Last⟩ : FilterTrack), decide ((w64 (f.Track.Misses + 1)) > limit), 0) := by subst hr1; unfold coast_Miss; exact cond_f h1 (cond_f h2 (cond_t h3 (cond_t h4 (rfl))))
          exact TE.ret [0] (.tuple #[.agg #[.int .i64 f.Track.ID, .int .i64 2, .int .i64 f.Track.Time, .int .i64 f.Track.At.X, .int .i64 f.Track.At.Y, .int .i64 f.Track.Speed.X, .int .i64 f.Track.Speed.Y, .int .i64 f.Track.Height, .int .i64 f.Track.Rate, .int .i64 f.Track.Radius, .int .i64 f.Track.Code, .int .i64 f.Track.Hits, .int .i64 (w64 (f.Track.Misses + 1)), .int .i64 f.Slack, .int .i64 f.Last.Time, .int .i64 f.Last.At.X, .int .i64 f.Last.At.Y, .int .i64 f.Last.Height, .int .i64 f.Last.Code, .int .i64 f.Last.Error], .bool (decide ((w64 (f.Track.Misses + 1)) > limit)), .int .i64 0]) ⟨by kernel_rfl, by kernel_rfl⟩ (by rw [e]; first | done | kernel_rfl)
        · refine TC.skip ?_
          refine TE.next ?_
          refine TC.seq ?_
          refine TC.drawG 6 [.inl (b1, .cells #[.int .i64 f.Track.ID, .int .i64 f.Track.State, .int .i64 f.Track.Time, .int .i64 f.Track.At.X, .int .i64 f.Track.At.Y, .int .i64 f.Track.Speed.X, .int .i64 f.Track.Speed.Y, .int .i64 f.Track.Height, .int .i64 f.Track.Rate, .int .i64 f.Track.Radius, .int .i64 f.Track.Code, .int .i64 f.Track.Hits, .int .i64 (w64 (f.Track.Misses + 1)), .int .i64 f.Slack, .int .i64 f.Last.Time, .int .i64 f.Last.At.X, .int .i64 f.Last.At.Y, .int .i64 f.Last.Height, .int .i64 f.Last.Code, .int .i64 f.Last.Error] 53 (0, 0))] [.inl (b2, .cells #[.int .i64 f.Track.ID, .int .i64 f.Track.State, .int .i64 f.Track.Time, .int .i64 f.Track.At.X, .int .i64 f.Track.At.Y, .int .i64 f.Track.Speed.X, .int .i64 f.Track.Speed.Y, .int .i64 f.Track.Height, .int .i64 f.Track.Rate, .int .i64 f.Track.Radius, .int .i64 f.Track.Code, .int .i64 f.Track.Hits, .int .i64 (w64 (f.Track.Misses + 1)), .int .i64 f.Slack, .int .i64 f.Last.Time, .int .i64 f.Last.At.X, .int .i64 f.Last.At.Y, .int .i64 f.Last.Height, .int .i64 f.Last.Code, .int .i64 f.Last.Error] 53 (0, 0)), .inl (b1, .cells #[.int .i64 f.Track.ID, .int .i64 f.Track.State, .int .i64 f.Track.Time, .int .i64 f.Track.At.X, .int .i64 f.Track.At.Y, .int .i64 f.Track.Speed.X, .int .i64 f.Track.Speed.Y, .int .i64 f.Track.Height, .int .i64 f.Track.Rate, .int .i64 f.Track.Radius, .int .i64 f.Track.Code, .int .i64 f.Track.Hits, .int .i64 (w64 (f.Track.Misses + 1)), .int .i64 f.Slack, .int .i64 f.Last.Time, .int .i64 f.Last.At.X, .int .i64 f.Last.At.Y, .int .i64 f.Last.Height, .int .i64 f.Last.Code, .int .i64 f.Last.Error] 53 (0, 0))] (.cons _ (.cons_cons _ (.slnil))) (.cons _ (.cons_cons _ (.slnil))) (by kernel_rfl) (by kernel_rfl) ?_
          refine TG.run 6 [0, 0] [(4, .pointer (some ⟨b2, 0, none⟩)), (39, .agg #[.int .i64 f.Track.ID, .int .i64 f.Track.State, .int .i64 f.Track.Time, .int .i64 f.Track.At.X, .int .i64 f.Track.At.Y, .int .i64 f.Track.Speed.X, .int .i64 f.Track.Speed.Y, .int .i64 f.Track.Height, .int .i64 f.Track.Rate, .int .i64 f.Track.Radius, .int .i64 f.Track.Code, .int .i64 f.Track.Hits, .int .i64 (w64 (f.Track.Misses + 1)), .int .i64 f.Slack, .int .i64 f.Last.Time, .int .i64 f.Last.At.X, .int .i64 f.Last.At.Y, .int .i64 f.Last.Height, .int .i64 f.Last.Code, .int .i64 f.Last.Error]), (44, .bool (decide ((w64 (f.Track.Misses + 1)) > limit)))] rfl rfl rfl ⟨by kernel_rfl, by kernel_rfl⟩ ?_
          refine TG.store 0 rfl (fun _ => ⟨by kernel_rfl, by kernel_rfl⟩) ?_
          refine TG.run 9 [] [(4, .pointer (some ⟨b2, 0, none⟩)), (5, .bool (decide ((w64 (f.Track.Misses + 1)) > limit))), (6, .int .i64 0)] rfl rfl rfl ⟨by kernel_rfl, by kernel_rfl⟩ ?_
          refine TG.next rfl rfl ?_
          refine TC.ret ?_
          have e : coast_Miss f limit = ((⟨⟨f.Track.ID, f.Track.State, f.Track.Time, f.Track.At, f.Track.Speed, f.Track.Height, f.Track.Rate, f.Track.Radius, f.Track.Code, f.Track.Hits, w64 (f.Track.Misses + 1)⟩, f.Slack, f.Last⟩ : FilterTrack), decide ((w64 (f.Track.Misses + 1)) > limit), 0) := by subst hr1; unfold coast_Miss; exact cond_f h1 (cond_f h2 (cond_t h3 (cond_f h4 (rfl))))
          exact TE.ret [0] (.tuple #[.agg #[.int .i64 f.Track.ID, .int .i64 f.Track.State, .int .i64 f.Track.Time, .int .i64 f.Track.At.X, .int .i64 f.Track.At.Y, .int .i64 f.Track.Speed.X, .int .i64 f.Track.Speed.Y, .int .i64 f.Track.Height, .int .i64 f.Track.Rate, .int .i64 f.Track.Radius, .int .i64 f.Track.Code, .int .i64 f.Track.Hits, .int .i64 (w64 (f.Track.Misses + 1)), .int .i64 f.Slack, .int .i64 f.Last.Time, .int .i64 f.Last.At.X, .int .i64 f.Last.At.Y, .int .i64 f.Last.Height, .int .i64 f.Last.Code, .int .i64 f.Last.Error], .bool (decide ((w64 (f.Track.Misses + 1)) > limit)), .int .i64 0]) ⟨by kernel_rfl, by kernel_rfl⟩ (by rw [e]; first | done | kernel_rfl)
      · refine TC.region ?_
        refine TL.run 2 [] [(1, .int .i64 limit), (2, .pointer (some ⟨b1, 0, none⟩)), (4, .pointer (some ⟨b2, 0, none⟩)), (32, .pointer (some ⟨b1, 12, none⟩))] rfl ⟨by kernel_rfl, by kernel_rfl⟩ ?_
        refine TL.write 1 (fun _ => [(1, .int .i64 limit), (2, .pointer (some ⟨b1, 0, none⟩)), (4, .pointer (some ⟨b2, 0, none⟩))]) (fun _ => [.inl (b2, .cells (FilterTrack.c FilterTrack.zero) 53 (0, 0)), .inl (b1, .cells #[.int .i64 f.Track.ID, .int .i64 f.Track.State, .int .i64 f.Track.Time, .int .i64 f.Track.At.X, .int .i64 f.Track.At.Y, .int .i64 f.Track.Speed.X, .int .i64 f.Track.Speed.Y, .int .i64 f.Track.Height, .int .i64 f.Track.Rate, .int .i64 f.Track.Radius, .int .i64 f.Track.Code, .int .i64 f.Track.Hits, .int .i64 101, .int .i64 f.Slack, .int .i64 f.Last.Time, .int .i64 f.Last.At.X, .int .i64 f.Last.At.Y, .int .i64 f.Last.Height, .int .i64 f.Last.Code, .int .i64 f.Last.Error] 53 (0, 0))]) (fun _ => ⟨by kernel_rfl, by kernel_rfl⟩) (fun _ => ?_)
        refine TL.next rfl ?_
        refine TC.seq ?_
        refine TC.seq ?_
        refine TC.region ?_
        refine TL.run 4 [1] [(1, .int .i64 limit), (2, .pointer (some ⟨b1, 0, none⟩)), (4, .pointer (some ⟨b2, 0, none⟩)), (36, .bool (f.Track.State == 1))] rfl ⟨by kernel_rfl, by kernel_rfl⟩ ?_
        refine TL.next rfl ?_
        refine TC.cond (f.Track.State == 1) rfl (by kernel_rfl) (fun h5 => ?_) (fun h5 => ?_)
        · refine TC.region ?_
          refine TL.run 2 [] [(1, .int .i64 limit), (2, .pointer (some ⟨b1, 0, none⟩)), (4, .pointer (some ⟨b2, 0, none⟩)), (38, .pointer (some ⟨b1, 1, none⟩))] rfl ⟨by kernel_rfl, by kernel_rfl⟩ ?_
          refine TL.write 1 (fun _ => [(1, .int .i64 limit), (2, .pointer (some ⟨b1, 0, none⟩)), (4, .pointer (some ⟨b2, 0, none⟩))]) (fun _ => [.inl (b2, .cells (FilterTrack.c FilterTrack.zero) 53 (0, 0)), .inl (b1, .cells #[.int .i64 f.Track.ID, .int .i64 2, .int .i64 f.Track.Time, .int .i64 f.Track.At.X, .int .i64 f.Track.At.Y, .int .i64 f.Track.Speed.X, .int .i64 f.Track.Speed.Y, .int .i64 f.Track.Height, .int .i64 f.Track.Rate, .int .i64 f.Track.Radius, .int .i64 f.Track.Code, .int .i64 f.Track.Hits, .int .i64 101, .int .i64 f.Slack, .int .i64 f.Last.Time, .int .i64 f.Last.At.X, .int .i64 f.Last.At.Y, .int .i64 f.Last.Height, .int .i64 f.Last.Code, .int .i64 f.Last.Error] 53 (0, 0))]) (fun _ => ⟨by kernel_rfl, by kernel_rfl⟩) (fun _ => ?_)
          refine TL.next rfl ?_
          refine TC.seq ?_
          refine TC.drawG 6 [.inl (b1, .cells #[.int .i64 f.Track.ID, .int .i64 2, .int .i64 f.Track.Time, .int .i64 f.Track.At.X, .int .i64 f.Track.At.Y, .int .i64 f.Track.Speed.X, .int .i64 f.Track.Speed.Y, .int .i64 f.Track.Height, .int .i64 f.Track.Rate, .int .i64 f.Track.Radius, .int .i64 f.Track.Code, .int .i64 f.Track.Hits, .int .i64 101, .int .i64 f.Slack, .int .i64 f.Last.Time, .int .i64 f.Last.At.X, .int .i64 f.Last.At.Y, .int .i64 f.Last.Height, .int .i64 f.Last.Code, .int .i64 f.Last.Error] 53 (0, 0))] [.inl (b2, .cells #[.int .i64 f.Track.ID, .int .i64 2, .int .i64 f.Track.Time, .int .i64 f.Track.At.X, .int .i64 f.Track.At.Y, .int .i64 f.Track.Speed.X, .int .i64 f.Track.Speed.Y, .int .i64 f.Track.Height, .int .i64 f.Track.Rate, .int .i64 f.Track.Radius, .int .i64 f.Track.Code, .int .i64 f.Track.Hits, .int .i64 101, .int .i64 f.Slack, .int .i64 f.Last.Time, .int .i64 f.Last.At.X, .int .i64 f.Last.At.Y, .int .i64 f.Last.Height, .int .i64 f.Last.Code, .int .i64 f.Last.Error] 53 (0, 0)), .inl (b1, .cells #[.int .i64 f.Track.ID, .int .i64 2, .int .i64 f.Track.Time, .int .i64 f.Track.At.X, .int .i64 f.Track.At.Y, .int .i64 f.Track.Speed.X, .int .i64 f.Track.Speed.Y, .int .i64 f.Track.Height, .int .i64 f.Track.Rate, .int .i64 f.Track.Radius, .int .i64 f.Track.Code, .int .i64 f.Track.Hits, .int .i64 101, .int .i64 f.Slack, .int .i64 f.Last.Time, .int .i64 f.Last.At.X, .int .i64 f.Last.At.Y, .int .i64 f.Last.Height, .int .i64 f.Last.Code, .int .i64 f.Last.Error] 53 (0, 0))] (.cons _ (.cons_cons _ (.slnil))) (.cons _ (.cons_cons _ (.slnil))) (by kernel_rfl) (by kernel_rfl) ?_
          refine TG.run 6 [0, 0] [(4, .pointer (some ⟨b2, 0, none⟩)), (39, .agg #[.int .i64 f.Track.ID, .int .i64 2, .int .i64 f.Track.Time, .int .i64 f.Track.At.X, .int .i64 f.Track.At.Y, .int .i64 f.Track.Speed.X, .int .i64 f.Track.Speed.Y, .int .i64 f.Track.Height, .int .i64 f.Track.Rate, .int .i64 f.Track.Radius, .int .i64 f.Track.Code, .int .i64 f.Track.Hits, .int .i64 101, .int .i64 f.Slack, .int .i64 f.Last.Time, .int .i64 f.Last.At.X, .int .i64 f.Last.At.Y, .int .i64 f.Last.Height, .int .i64 f.Last.Code, .int .i64 f.Last.Error]), (44, .bool (decide (101 > limit)))] rfl rfl rfl ⟨by kernel_rfl, by kernel_rfl⟩ ?_
          refine TG.store 0 rfl (fun _ => ⟨by kernel_rfl, by kernel_rfl⟩) ?_
          refine TG.run 9 [] [(4, .pointer (some ⟨b2, 0, none⟩)), (5, .bool (decide (101 > limit))), (6, .int .i64 0)] rfl rfl rfl ⟨by kernel_rfl, by kernel_rfl⟩ ?_
          refine TG.next rfl rfl ?_
          refine TC.ret ?_
          have e : coast_Miss f limit = ((⟨⟨f.Track.ID, 2, f.Track.Time, f.Track.At, f.Track.Speed, f.Track.Height, f.Track.Rate, f.Track.Radius, f.Track.Code, f.Track.Hits, 101⟩, f.Slack, f.Last⟩ : FilterTrack), decide (101 > limit), 0) := by subst hr1; unfold coast_Miss; exact cond_f h1 (cond_f h2 (cond_f h3 (cond_t h5 (rfl))))
          exact TE.ret [0] (.tuple #[.agg #[.int .i64 f.Track.ID, .int .i64 2, .int .i64 f.Track.Time, .int .i64 f.Track.At.X, .int .i64 f.Track.At.Y, .int .i64 f.Track.Speed.X, .int .i64 f.Track.Speed.Y, .int .i64 f.Track.Height, .int .i64 f.Track.Rate, .int .i64 f.Track.Radius, .int .i64 f.Track.Code, .int .i64 f.Track.Hits, .int .i64 101, .int .i64 f.Slack, .int .i64 f.Last.Time, .int .i64 f.Last.At.X, .int .i64 f.Last.At.Y, .int .i64 f.Last.Height, .int .i64 f.Last.Code, .int .i64 f.Last.Error], .bool (decide (101 > limit)), .int .i64 0]) ⟨by kernel_rfl, by kernel_rfl⟩ (by rw [e]; first | done | kernel_rfl)
        · refine TC.skip ?_
          refine TE.next ?_
          refine TC.seq ?_
          refine TC.drawG 6 [.inl (b1, .cells #[.int .i64 f.Track.ID, .int .i64 f.Track.State, .int .i64 f.Track.Time, .int .i64 f.Track.At.X, .int .i64 f.Track.At.Y, .int .i64 f.Track.Speed.X, .int .i64 f.Track.Speed.Y, .int .i64 f.Track.Height, .int .i64 f.Track.Rate, .int .i64 f.Track.Radius, .int .i64 f.Track.Code, .int .i64 f.Track.Hits, .int .i64 101, .int .i64 f.Slack, .int .i64 f.Last.Time, .int .i64 f.Last.At.X, .int .i64 f.Last.At.Y, .int .i64 f.Last.Height, .int .i64 f.Last.Code, .int .i64 f.Last.Error] 53 (0, 0))] [.inl (b2, .cells #[.int .i64 f.Track.ID, .int .i64 f.Track.State, .int .i64 f.Track.Time, .int .i64 f.Track.At.X, .int .i64 f.Track.At.Y, .int .i64 f.Track.Speed.X, .int .i64 f.Track.Speed.Y, .int .i64 f.Track.Height, .int .i64 f.Track.Rate, .int .i64 f.Track.Radius, .int .i64 f.Track.Code, .int .i64 f.Track.Hits, .int .i64 101, .int .i64 f.Slack, .int .i64 f.Last.Time, .int .i64 f.Last.At.X, .int .i64 f.Last.At.Y, .int .i64 f.Last.Height, .int .i64 f.Last.Code, .int .i64 f.Last.Error] 53 (0, 0)), .inl (b1, .cells #[.int .i64 f.Track.ID, .int .i64 f.Track.State, .int .i64 f.Track.Time, .int .i64 f.Track.At.X, .int .i64 f.Track.At.Y, .int .i64 f.Track.Speed.X, .int .i64 f.Track.Speed.Y, .int .i64 f.Track.Height, .int .i64 f.Track.Rate, .int .i64 f.Track.Radius, .int .i64 f.Track.Code, .int .i64 f.Track.Hits, .int .i64 101, .int .i64 f.Slack, .int .i64 f.Last.Time, .int .i64 f.Last.At.X, .int .i64 f.Last.At.Y, .int .i64 f.Last.Height, .int .i64 f.Last.Code, .int .i64 f.Last.Error] 53 (0, 0))] (.cons _ (.cons_cons _ (.slnil))) (.cons _ (.cons_cons _ (.slnil))) (by kernel_rfl) (by kernel_rfl) ?_
          refine TG.run 6 [0, 0] [(4, .pointer (some ⟨b2, 0, none⟩)), (39, .agg #[.int .i64 f.Track.ID, .int .i64 f.Track.State, .int .i64 f.Track.Time, .int .i64 f.Track.At.X, .int .i64 f.Track.At.Y, .int .i64 f.Track.Speed.X, .int .i64 f.Track.Speed.Y, .int .i64 f.Track.Height, .int .i64 f.Track.Rate, .int .i64 f.Track.Radius, .int .i64 f.Track.Code, .int .i64 f.Track.Hits, .int .i64 101, .int .i64 f.Slack, .int .i64 f.Last.Time, .int .i64 f.Last.At.X, .int .i64 f.Last.At.Y, .int .i64 f.Last.Height, .int .i64 f.Last.Code, .int .i64 f.Last.Error]), (44, .bool (decide (101 > limit)))] rfl rfl rfl ⟨by kernel_rfl, by kernel_rfl⟩ ?_
          refine TG.store 0 rfl (fun _ => ⟨by kernel_rfl, by kernel_rfl⟩) ?_
          refine TG.run 9 [] [(4, .pointer (some ⟨b2, 0, none⟩)), (5, .bool (decide (101 > limit))), (6, .int .i64 0)] rfl rfl rfl ⟨by kernel_rfl, by kernel_rfl⟩ ?_
          refine TG.next rfl rfl ?_
          refine TC.ret ?_
          have e : coast_Miss f limit = ((⟨⟨f.Track.ID, f.Track.State, f.Track.Time, f.Track.At, f.Track.Speed, f.Track.Height, f.Track.Rate, f.Track.Radius, f.Track.Code, f.Track.Hits, 101⟩, f.Slack, f.Last⟩ : FilterTrack), decide (101 > limit), 0) := by subst hr1; unfold coast_Miss; exact cond_f h1 (cond_f h2 (cond_f h3 (cond_f h5 (rfl))))
          exact TE.ret [0] (.tuple #[.agg #[.int .i64 f.Track.ID, .int .i64 f.Track.State, .int .i64 f.Track.Time, .int .i64 f.Track.At.X, .int .i64 f.Track.At.Y, .int .i64 f.Track.Speed.X, .int .i64 f.Track.Speed.Y, .int .i64 f.Track.Height, .int .i64 f.Track.Rate, .int .i64 f.Track.Radius, .int .i64 f.Track.Code, .int .i64 f.Track.Hits, .int .i64 101, .int .i64 f.Slack, .int .i64 f.Last.Time, .int .i64 f.Last.At.X, .int .i64 f.Last.At.Y, .int .i64 f.Last.Height, .int .i64 f.Last.Code, .int .i64 f.Last.Error], .bool (decide (101 > limit)), .int .i64 0]) ⟨by kernel_rfl, by kernel_rfl⟩ (by rw [e]; first | done | kernel_rfl)

def coast_Hit (f : FilterTrack) : FilterTrack × Int :=
  let r1 := filter_Check f
  cond (r1 != 0) (
    ((⟨⟨0, 0, 0, ⟨0, 0⟩, ⟨0, 0⟩, 0, 0, 0, 0, 0, 0⟩, 0, ⟨0, ⟨0, 0⟩, 0, 0, 0⟩⟩ : FilterTrack), r1)) (
    cond (f.Track.State == 2) (
      ((⟨⟨f.Track.ID, 1, f.Track.Time, f.Track.At, f.Track.Speed, f.Track.Height, f.Track.Rate, f.Track.Radius, f.Track.Code, f.Track.Hits, 0⟩, f.Slack, f.Last⟩ : FilterTrack), 0)) (
      ((⟨⟨f.Track.ID, f.Track.State, f.Track.Time, f.Track.At, f.Track.Speed, f.Track.Height, f.Track.Rate, f.Track.Radius, f.Track.Code, f.Track.Hits, 0⟩, f.Slack, f.Last⟩ : FilterTrack), 0)))

set_option maxRecDepth 100000 in
theorem coast_Hit_w (f : FilterTrack) (w : World) : Calls Try.prog 27 #[FilterTrack.v f] w (Ret w (.tuple #[FilterTrack.v ((coast_Hit f).1), .int .i64 ((coast_Hit f).2)])) := by
  refine calls_intro (vs := [FilterTrack.v f]) (w := w) Try.func27 rfl Try.ntmps27 rfl ?_
  refine TC.weak [(0, FilterTrack.v f)] (by kernel_rfl) ?_
  refine TC.seq ?_
  refine TC.region ?_
  refine TL.write 0 (fun b1 => [(1, .pointer (some ⟨b1, 0, none⟩))]) (fun b1 => [.inl (b1, .cells (FilterTrack.c f) 53 (0, 0))]) (fun b1 => ⟨by kernel_rfl, by kernel_rfl⟩) (fun b1 => ?_)
  refine TL.write 0 (fun b2 => [(1, .pointer (some ⟨b1, 0, none⟩)), (2, .pointer (some ⟨b2, 0, none⟩))]) (fun b2 => [.inl (b2, .cells (FilterTrack.c FilterTrack.zero) 53 (0, 0)), .inl (b1, .cells (FilterTrack.c f) 53 (0, 0))]) (fun b2 => ⟨by kernel_rfl, by kernel_rfl⟩) (fun b2 => ?_)
  refine TL.run 3 [] [(1, .pointer (some ⟨b1, 0, none⟩)), (2, .pointer (some ⟨b2, 0, none⟩))] rfl ⟨by kernel_rfl, by kernel_rfl⟩ ?_
  refine TL.next rfl ?_
  refine TC.seq ?_
  refine TC.seq ?_
  refine TC.region ?_
  refine TL.run 1 [1] [(1, .pointer (some ⟨b1, 0, none⟩)), (2, .pointer (some ⟨b2, 0, none⟩)), (5, FilterTrack.v f)] rfl ⟨by kernel_rfl, by kernel_rfl⟩ ?_
  refine TL.call (some 6) [(1, .pointer (some ⟨b1, 0, none⟩)), (2, .pointer (some ⟨b2, 0, none⟩)), (6, .int .i64 (filter_Check f))] (fun w _ => filter_Check_w f w) (by kernel_rfl) (by kernel_rfl) ?_
  generalize hr1 : filter_Check f = r1
  refine TL.run 3 [] [(1, .pointer (some ⟨b1, 0, none⟩)), (2, .pointer (some ⟨b2, 0, none⟩)), (4, .int .i64 r1)] rfl ⟨by kernel_rfl, by kernel_rfl⟩ ?_
  refine TL.next rfl ?_
  refine TC.seq ?_
  refine TC.region ?_
  refine TL.run 2 [] [(1, .pointer (some ⟨b1, 0, none⟩)), (2, .pointer (some ⟨b2, 0, none⟩)), (4, .int .i64 r1), (8, .bool (r1 != 0))] rfl ⟨by kernel_rfl, by kernel_rfl⟩ ?_
  refine TL.next rfl ?_
  refine TC.cond (r1 != 0) rfl (by kernel_rfl) (fun h1 => ?_) (fun h1 => ?_)
  · refine TC.seq ?_
    refine TC.region ?_
    refine TL.run 2 [] [(2, .pointer (some ⟨b2, 0, none⟩)), (9, FilterTrack.v FilterTrack.zero), (10, .int .i64 r1)] rfl ⟨by kernel_rfl, by kernel_rfl⟩ ?_
    refine TL.write 0 (fun _ => [(2, .pointer (some ⟨b2, 0, none⟩)), (10, .int .i64 r1)]) (fun _ => [.inl (b2, .cells (FilterTrack.c FilterTrack.zero) 53 (0, 0)), .inl (b1, .cells (FilterTrack.c f) 53 (0, 0))]) (fun _ => ⟨by kernel_rfl, by kernel_rfl⟩) (fun _ => ?_)
    refine TL.run 4 [] [(2, .pointer (some ⟨b2, 0, none⟩)), (3, .int .i64 r1)] rfl ⟨by kernel_rfl, by kernel_rfl⟩ ?_
    refine TL.next rfl ?_
    refine TC.ret ?_
    refine TE.ret_then ?_
    have e : coast_Hit f = ((⟨⟨0, 0, 0, ⟨0, 0⟩, ⟨0, 0⟩, 0, 0, 0, 0, 0, 0⟩, 0, ⟨0, ⟨0, 0⟩, 0, 0, 0⟩⟩ : FilterTrack), r1) := by subst hr1; unfold coast_Hit; exact cond_t h1 (rfl)
    exact TE.ret [0] (.tuple #[.agg #[.int .i64 0, .int .i64 0, .int .i64 0, .int .i64 0, .int .i64 0, .int .i64 0, .int .i64 0, .int .i64 0, .int .i64 0, .int .i64 0, .int .i64 0, .int .i64 0, .int .i64 0, .int .i64 0, .int .i64 0, .int .i64 0, .int .i64 0, .int .i64 0, .int .i64 0, .int .i64 0], .int .i64 r1]) ⟨by kernel_rfl, by kernel_rfl⟩ (by rw [e]; first | done | kernel_rfl)
  · refine TC.skip ?_
    refine TE.next ?_
    refine TC.seq ?_
    refine TC.region ?_
    refine TL.run 2 [] [(1, .pointer (some ⟨b1, 0, none⟩)), (2, .pointer (some ⟨b2, 0, none⟩)), (12, .pointer (some ⟨b1, 12, none⟩))] rfl ⟨by kernel_rfl, by kernel_rfl⟩ ?_
    refine TL.write 1 (fun _ => [(1, .pointer (some ⟨b1, 0, none⟩)), (2, .pointer (some ⟨b2, 0, none⟩))]) (fun _ => [.inl (b2, .cells (FilterTrack.c FilterTrack.zero) 53 (0, 0)), .inl (b1, .cells #[.int .i64 f.Track.ID, .int .i64 f.Track.State, .int .i64 f.Track.Time, .int .i64 f.Track.At.X, .int .i64 f.Track.At.Y, .int .i64 f.Track.Speed.X, .int .i64 f.Track.Speed.Y, .int .i64 f.Track.Height, .int .i64 f.Track.Rate, .int .i64 f.Track.Radius, .int .i64 f.Track.Code, .int .i64 f.Track.Hits, .int .i64 0, .int .i64 f.Slack, .int .i64 f.Last.Time, .int .i64 f.Last.At.X, .int .i64 f.Last.At.Y, .int .i64 f.Last.Height, .int .i64 f.Last.Code, .int .i64 f.Last.Error] 53 (0, 0))]) (fun _ => ⟨by kernel_rfl, by kernel_rfl⟩) (fun _ => ?_)
    refine TL.next rfl ?_
    refine TC.seq ?_
    refine TC.seq ?_
    refine TC.region ?_
    refine TL.run 4 [1] [(1, .pointer (some ⟨b1, 0, none⟩)), (2, .pointer (some ⟨b2, 0, none⟩)), (16, .bool (f.Track.State == 2))] rfl ⟨by kernel_rfl, by kernel_rfl⟩ ?_
    refine TL.next rfl ?_
    refine TC.cond (f.Track.State == 2) rfl (by kernel_rfl) (fun h2 => ?_) (fun h2 => ?_)
    · refine TC.region ?_
      refine TL.run 2 [] [(1, .pointer (some ⟨b1, 0, none⟩)), (2, .pointer (some ⟨b2, 0, none⟩)), (18, .pointer (some ⟨b1, 1, none⟩))] rfl ⟨by kernel_rfl, by kernel_rfl⟩ ?_
      refine TL.write 1 (fun _ => [(1, .pointer (some ⟨b1, 0, none⟩)), (2, .pointer (some ⟨b2, 0, none⟩))]) (fun _ => [.inl (b2, .cells (FilterTrack.c FilterTrack.zero) 53 (0, 0)), .inl (b1, .cells #[.int .i64 f.Track.ID, .int .i64 1, .int .i64 f.Track.Time, .int .i64 f.Track.At.X, .int .i64 f.Track.At.Y, .int .i64 f.Track.Speed.X, .int .i64 f.Track.Speed.Y, .int .i64 f.Track.Height, .int .i64 f.Track.Rate, .int .i64 f.Track.Radius, .int .i64 f.Track.Code, .int .i64 f.Track.Hits, .int .i64 0, .int .i64 f.Slack, .int .i64 f.Last.Time, .int .i64 f.Last.At.X, .int .i64 f.Last.At.Y, .int .i64 f.Last.Height, .int .i64 f.Last.Code, .int .i64 f.Last.Error] 53 (0, 0))]) (fun _ => ⟨by kernel_rfl, by kernel_rfl⟩) (fun _ => ?_)
      refine TL.next rfl ?_
      refine TC.seq ?_
      refine TC.region ?_
      refine TL.run 1 [1] [(2, .pointer (some ⟨b2, 0, none⟩)), (19, .agg #[.int .i64 f.Track.ID, .int .i64 1, .int .i64 f.Track.Time, .int .i64 f.Track.At.X, .int .i64 f.Track.At.Y, .int .i64 f.Track.Speed.X, .int .i64 f.Track.Speed.Y, .int .i64 f.Track.Height, .int .i64 f.Track.Rate, .int .i64 f.Track.Radius, .int .i64 f.Track.Code, .int .i64 f.Track.Hits, .int .i64 0, .int .i64 f.Slack, .int .i64 f.Last.Time, .int .i64 f.Last.At.X, .int .i64 f.Last.At.Y, .int .i64 f.Last.Height, .int .i64 f.Last.Code, .int .i64 f.Last.Error])] rfl ⟨by kernel_rfl, by kernel_rfl⟩ ?_
      refine TL.write 0 (fun _ => [(2, .pointer (some ⟨b2, 0, none⟩))]) (fun _ => [.inl (b2, .cells #[.int .i64 f.Track.ID, .int .i64 1, .int .i64 f.Track.Time, .int .i64 f.Track.At.X, .int .i64 f.Track.At.Y, .int .i64 f.Track.Speed.X, .int .i64 f.Track.Speed.Y, .int .i64 f.Track.Height, .int .i64 f.Track.Rate, .int .i64 f.Track.Radius, .int .i64 f.Track.Code, .int .i64 f.Track.Hits, .int .i64 0, .int .i64 f.Slack, .int .i64 f.Last.Time, .int .i64 f.Last.At.X, .int .i64 f.Last.At.Y, .int .i64 f.Last.Height, .int .i64 f.Last.Code, .int .i64 f.Last.Error] 53 (0, 0)), .inl (b1, .cells #[.int .i64 f.Track.ID, .int .i64 1, .int .i64 f.Track.Time, .int .i64 f.Track.At.X, .int .i64 f.Track.At.Y, .int .i64 f.Track.Speed.X, .int .i64 f.Track.Speed.Y, .int .i64 f.Track.Height, .int .i64 f.Track.Rate, .int .i64 f.Track.Radius, .int .i64 f.Track.Code, .int .i64 f.Track.Hits, .int .i64 0, .int .i64 f.Slack, .int .i64 f.Last.Time, .int .i64 f.Last.At.X, .int .i64 f.Last.At.Y, .int .i64 f.Last.Height, .int .i64 f.Last.Code, .int .i64 f.Last.Error] 53 (0, 0))]) (fun _ => ⟨by kernel_rfl, by kernel_rfl⟩) (fun _ => ?_)
      refine TL.run 3 [] [(2, .pointer (some ⟨b2, 0, none⟩)), (3, .int .i64 0)] rfl ⟨by kernel_rfl, by kernel_rfl⟩ ?_
      refine TL.next rfl ?_
      refine TC.ret ?_
      have e : coast_Hit f = ((⟨⟨f.Track.ID, 1, f.Track.Time, f.Track.At, f.Track.Speed, f.Track.Height, f.Track.Rate, f.Track.Radius, f.Track.Code, f.Track.Hits, 0⟩, f.Slack, f.Last⟩ : FilterTrack), 0) := by subst hr1; unfold coast_Hit; exact cond_f h1 (cond_t h2 (rfl))
      exact TE.ret [0] (.tuple #[.agg #[.int .i64 f.Track.ID, .int .i64 1, .int .i64 f.Track.Time, .int .i64 f.Track.At.X, .int .i64 f.Track.At.Y, .int .i64 f.Track.Speed.X, .int .i64 f.Track.Speed.Y, .int .i64 f.Track.Height, .int .i64 f.Track.Rate, .int .i64 f.Track.Radius, .int .i64 f.Track.Code, .int .i64 f.Track.Hits, .int .i64 0, .int .i64 f.Slack, .int .i64 f.Last.Time, .int .i64 f.Last.At.X, .int .i64 f.Last.At.Y, .int .i64 f.Last.Height, .int .i64 f.Last.Code, .int .i64 f.Last.Error], .int .i64 0]) ⟨by kernel_rfl, by kernel_rfl⟩ (by rw [e]; first | done | kernel_rfl)
    · refine TC.skip ?_
      refine TE.next ?_
      refine TC.seq ?_
      refine TC.region ?_
      refine TL.run 1 [1] [(2, .pointer (some ⟨b2, 0, none⟩)), (19, .agg #[.int .i64 f.Track.ID, .int .i64 f.Track.State, .int .i64 f.Track.Time, .int .i64 f.Track.At.X, .int .i64 f.Track.At.Y, .int .i64 f.Track.Speed.X, .int .i64 f.Track.Speed.Y, .int .i64 f.Track.Height, .int .i64 f.Track.Rate, .int .i64 f.Track.Radius, .int .i64 f.Track.Code, .int .i64 f.Track.Hits, .int .i64 0, .int .i64 f.Slack, .int .i64 f.Last.Time, .int .i64 f.Last.At.X, .int .i64 f.Last.At.Y, .int .i64 f.Last.Height, .int .i64 f.Last.Code, .int .i64 f.Last.Error])] rfl ⟨by kernel_rfl, by kernel_rfl⟩ ?_
      refine TL.write 0 (fun _ => [(2, .pointer (some ⟨b2, 0, none⟩))]) (fun _ => [.inl (b2, .cells #[.int .i64 f.Track.ID, .int .i64 f.Track.State, .int .i64 f.Track.Time, .int .i64 f.Track.At.X, .int .i64 f.Track.At.Y, .int .i64 f.Track.Speed.X, .int .i64 f.Track.Speed.Y, .int .i64 f.Track.Height, .int .i64 f.Track.Rate, .int .i64 f.Track.Radius, .int .i64 f.Track.Code, .int .i64 f.Track.Hits, .int .i64 0, .int .i64 f.Slack, .int .i64 f.Last.Time, .int .i64 f.Last.At.X, .int .i64 f.Last.At.Y, .int .i64 f.Last.Height, .int .i64 f.Last.Code, .int .i64 f.Last.Error] 53 (0, 0)), .inl (b1, .cells #[.int .i64 f.Track.ID, .int .i64 f.Track.State, .int .i64 f.Track.Time, .int .i64 f.Track.At.X, .int .i64 f.Track.At.Y, .int .i64 f.Track.Speed.X, .int .i64 f.Track.Speed.Y, .int .i64 f.Track.Height, .int .i64 f.Track.Rate, .int .i64 f.Track.Radius, .int .i64 f.Track.Code, .int .i64 f.Track.Hits, .int .i64 0, .int .i64 f.Slack, .int .i64 f.Last.Time, .int .i64 f.Last.At.X, .int .i64 f.Last.At.Y, .int .i64 f.Last.Height, .int .i64 f.Last.Code, .int .i64 f.Last.Error] 53 (0, 0))]) (fun _ => ⟨by kernel_rfl, by kernel_rfl⟩) (fun _ => ?_)
      refine TL.run 3 [] [(2, .pointer (some ⟨b2, 0, none⟩)), (3, .int .i64 0)] rfl ⟨by kernel_rfl, by kernel_rfl⟩ ?_
      refine TL.next rfl ?_
      refine TC.ret ?_
      have e : coast_Hit f = ((⟨⟨f.Track.ID, f.Track.State, f.Track.Time, f.Track.At, f.Track.Speed, f.Track.Height, f.Track.Rate, f.Track.Radius, f.Track.Code, f.Track.Hits, 0⟩, f.Slack, f.Last⟩ : FilterTrack), 0) := by subst hr1; unfold coast_Hit; exact cond_f h1 (cond_f h2 (rfl))
      exact TE.ret [0] (.tuple #[.agg #[.int .i64 f.Track.ID, .int .i64 f.Track.State, .int .i64 f.Track.Time, .int .i64 f.Track.At.X, .int .i64 f.Track.At.Y, .int .i64 f.Track.Speed.X, .int .i64 f.Track.Speed.Y, .int .i64 f.Track.Height, .int .i64 f.Track.Rate, .int .i64 f.Track.Radius, .int .i64 f.Track.Code, .int .i64 f.Track.Hits, .int .i64 0, .int .i64 f.Slack, .int .i64 f.Last.Time, .int .i64 f.Last.At.X, .int .i64 f.Last.At.Y, .int .i64 f.Last.Height, .int .i64 f.Last.Code, .int .i64 f.Last.Error], .int .i64 0]) ⟨by kernel_rfl, by kernel_rfl⟩ (by rw [e]; first | done | kernel_rfl)

def skywaykeep2_within (n : Int) (low : Int) (high : Int) : Int :=
  w64 (low + ((w64 ((n.tmod (w64 ((w64 (high - low)) + 1))) + (w64 ((w64 (high - low)) + 1)))).tmod (w64 ((w64 (high - low)) + 1))))

theorem within_eq {n low high r : Int} (hr : skywaykeep2_within n low high = r) (h : low ≤ high) (h1 : -1000000000000 ≤ low) (h2 : high ≤ 1000000000000) :
    r = low + (n.tmod (high - low + 1) + (high - low + 1)).tmod (high - low + 1) ∧ low ≤ r ∧ r ≤ high := by
  subst hr
  unfold skywaykeep2_within
  have s : w64 ((w64 (high - low)) + 1) = high - low + 1 := by rw [w64_id (x := high - low) (by omega), w64_id (by omega)]
  simp only [s]
  have t1 := Int.tmod_lt_of_pos n (show 0 < high - low + 1 by omega)
  have t2 := Int.lt_tmod_of_pos n (show 0 < high - low + 1 by omega)
  rw [w64_id (x := n.tmod (high - low + 1) + (high - low + 1)) (by omega)]
  have t3 := Int.tmod_lt_of_pos (n.tmod (high - low + 1) + (high - low + 1)) (show 0 < high - low + 1 by omega)
  have t4 := Int.tmod_nonneg (high - low + 1) (show 0 ≤ n.tmod (high - low + 1) + (high - low + 1) by omega)
  rw [w64_id (by omega)]
  omega
theorem within_in {n low high r : Int} (hr : skywaykeep2_within n low high = r) (h : low ≤ high) (h1 : -1000000000000 ≤ low) (h2 : high ≤ 1000000000000) : low ≤ r ∧ r ≤ high := (within_eq hr h h1 h2).2

set_option maxRecDepth 100000 in
theorem skywaykeep2_within_w (n : Int) (low : Int) (high : Int) (w : World) (hs : w64 ((w64 (high - low)) + 1) ≠ 0) : Calls Try.prog 26 #[.int .i64 n, .int .i64 low, .int .i64 high] w (Ret w (.int .i64 (skywaykeep2_within n low high))) := by
  refine calls_intro (vs := [.int .i64 n, .int .i64 low, .int .i64 high]) (w := w) Try.func26 rfl Try.ntmps26 rfl ?_
  refine TC.weak [(0, .int .i64 n), (1, .int .i64 low), (2, .int .i64 high)] (by kernel_rfl) ?_
  refine TC.seq ?_
  refine TC.region ?_
  refine TL.run 1 [] [(0, .int .i64 n), (1, .int .i64 low), (2, .int .i64 high)] rfl ⟨by kernel_rfl, by kernel_rfl⟩ ?_
  refine TL.next rfl ?_
  refine TC.seq ?_
  refine TC.region ?_
  refine TL.run 5 [] [(0, .int .i64 n), (1, .int .i64 low), (7, .int .i64 (w64 ((w64 (high - low)) + 1)))] rfl ⟨by kernel_rfl, by kernel_rfl⟩ ?_
  refine TL.next rfl ?_
  refine TC.seq ?_
  refine TC.region ?_
  refine TL.run 3 [] [(7, .int .i64 (w64 ((w64 (high - low)) + 1))), (12, .int .i64 low), (13, .int .i64 n), (14, .int .i64 (w64 ((w64 (high - low)) + 1)))] rfl ⟨by kernel_rfl, by kernel_rfl⟩ ?_
  refine TL.val (sV (binOp .rem 3 (.int .i64 n) (.int .i64 (w64 ((w64 (high - low)) + 1))))) (some 15) (.int .i64 (n.tmod (w64 ((w64 (high - low)) + 1)))) [(7, .int .i64 (w64 ((w64 (high - low)) + 1))), (12, .int .i64 low), (15, .int .i64 (n.tmod (w64 ((w64 (high - low)) + 1))))] (fun w hM => run_rem (by first | omega | (simp only [List.length_drop]; omega) | (simp only [w64_eq]; omega))) (by kernel_rfl) (by kernel_rfl) ?_
  refine TL.run 7 [] [(12, .int .i64 low), (17, .int .i64 (w64 ((n.tmod (w64 ((w64 (high - low)) + 1))) + (w64 ((w64 (high - low)) + 1))))), (18, .int .i64 (w64 ((w64 (high - low)) + 1)))] rfl ⟨by kernel_rfl, by kernel_rfl⟩ ?_
  refine TL.val (sV (binOp .rem 3 (.int .i64 (w64 ((n.tmod (w64 ((w64 (high - low)) + 1))) + (w64 ((w64 (high - low)) + 1))))) (.int .i64 (w64 ((w64 (high - low)) + 1))))) (some 19) (.int .i64 ((w64 ((n.tmod (w64 ((w64 (high - low)) + 1))) + (w64 ((w64 (high - low)) + 1)))).tmod (w64 ((w64 (high - low)) + 1)))) [(12, .int .i64 low), (19, .int .i64 ((w64 ((n.tmod (w64 ((w64 (high - low)) + 1))) + (w64 ((w64 (high - low)) + 1)))).tmod (w64 ((w64 (high - low)) + 1))))] (fun w hM => run_rem (by first | omega | (simp only [List.length_drop]; omega) | (simp only [w64_eq]; omega))) (by kernel_rfl) (by kernel_rfl) ?_
  refine TL.run 10 [] [(6, .int .i64 (w64 (low + ((w64 ((n.tmod (w64 ((w64 (high - low)) + 1))) + (w64 ((w64 (high - low)) + 1)))).tmod (w64 ((w64 (high - low)) + 1))))))] rfl ⟨by kernel_rfl, by kernel_rfl⟩ ?_
  refine TL.next rfl ?_
  refine TC.ret ?_
  have e : skywaykeep2_within n low high = (w64 (low + ((w64 ((n.tmod (w64 ((w64 (high - low)) + 1))) + (w64 ((w64 (high - low)) + 1)))).tmod (w64 ((w64 (high - low)) + 1))))) := by unfold skywaykeep2_within; exact rfl
  exact TE.ret [] (.int .i64 (w64 (low + ((w64 ((n.tmod (w64 ((w64 (high - low)) + 1))) + (w64 ((w64 (high - low)) + 1)))).tmod (w64 ((w64 (high - low)) + 1)))))) ⟨by kernel_rfl, by kernel_rfl⟩ (by rw [e]; first | done | kernel_rfl)

def skywaykeep2_CoastTurns_L1 (r2 : Int) : Nat → Nat → Bool → FilterTrack → ((Bool × FilterTrack) ⊕ (Bool))
  | 0, _, ends, x => .inl (ends, x)
  | m + 1, k, ends, x => cond ends (
      .inr false) (
      let r4 := coast_Miss x r2
      cond (r4.2.2 != 0) (
        .inr false) (
        skywaykeep2_CoastTurns_L1 r2 m (k + 1) r4.2.1 r4.1))
def skywaykeep2_CoastTurns (f : FilterTrack) (limit : Int) : Bool :=
  let r1 := coast_Miss (⟨⟨0, 1, 0, ⟨0, 0⟩, ⟨0, 0⟩, 0, 0, 0, 0, 0, 0⟩, 0, ⟨0, ⟨0, 0⟩, 0, 0, 0⟩⟩ : FilterTrack) 5
  cond (((r1.2.2 != 0) || r1.2.1) || (r1.1.Track.State != 2)) (
    false) (
    let r2 := skywaykeep2_within limit 0 20
    let r3 := coast_Hit f
    cond (r3.2 != 0) (
      FilterTrack.eqb r3.1 FilterTrack.zero) (
      Sum.elim (fun (ends_2, x_2) =>
        let r5 := coast_Hit x_2
        cond (ends_2 && (r5.2 == 0)) (
          FilterTrack.eqb r5.1 r3.1) (
          false)) (fun r => r) (skywaykeep2_CoastTurns_L1 r2 ((r2 + 1).toNat) 0 false r3.1)))

set_option maxRecDepth 100000 in
theorem skywaykeep2_CoastTurns_w (f : FilterTrack) (limit : Int) (w : World) : Calls Try.prog 9 #[FilterTrack.v f, .int .i64 limit] w (Ret w (.bool (skywaykeep2_CoastTurns f limit))) := by
  refine calls_intro (vs := [FilterTrack.v f, .int .i64 limit]) (w := w) Try.func9 rfl Try.ntmps9 rfl ?_
  refine TC.weak [(0, FilterTrack.v f), (1, .int .i64 limit)] (by kernel_rfl) ?_
  refine TC.seq ?_
  refine TC.region ?_
  refine TL.write 0 (fun b1 => [(1, .int .i64 limit), (2, .pointer (some ⟨b1, 0, none⟩))]) (fun b1 => [.inl (b1, .cells (FilterTrack.c f) 53 (0, 0))]) (fun b1 => ⟨by kernel_rfl, by kernel_rfl⟩) (fun b1 => ?_)
  refine TL.run 2 [] [(1, .int .i64 limit), (2, .pointer (some ⟨b1, 0, none⟩))] rfl ⟨by kernel_rfl, by kernel_rfl⟩ ?_
  refine TL.next rfl ?_
  refine TC.seq ?_
  refine TC.region ?_
  refine TL.run 2 [] [(1, .int .i64 limit), (2, .pointer (some ⟨b1, 0, none⟩)), (19, .agg #[.int .i64 0, .int .i64 1, .int .i64 0, .int .i64 0, .int .i64 0, .int .i64 0, .int .i64 0, .int .i64 0, .int .i64 0, .int .i64 0, .int .i64 0, .int .i64 0, .int .i64 0, .int .i64 0, .int .i64 0, .int .i64 0, .int .i64 0, .int .i64 0, .int .i64 0, .int .i64 0])] rfl ⟨by kernel_rfl, by kernel_rfl⟩ ?_
  refine TL.write 0 (fun b2 => [(1, .int .i64 limit), (2, .pointer (some ⟨b1, 0, none⟩)), (5, .pointer (some ⟨b2, 0, none⟩)), (19, .agg #[.int .i64 0, .int .i64 1, .int .i64 0, .int .i64 0, .int .i64 0, .int .i64 0, .int .i64 0, .int .i64 0, .int .i64 0, .int .i64 0, .int .i64 0, .int .i64 0, .int .i64 0, .int .i64 0, .int .i64 0, .int .i64 0, .int .i64 0, .int .i64 0, .int .i64 0, .int .i64 0])]) (fun b2 => [.inl (b2, .cells (FilterTrack.c FilterTrack.zero) 53 (0, 0)), .inl (b1, .cells (FilterTrack.c f) 53 (0, 0))]) (fun b2 => ⟨by kernel_rfl, by kernel_rfl⟩) (fun b2 => ?_)
  refine TL.write 0 (fun _ => [(1, .int .i64 limit), (2, .pointer (some ⟨b1, 0, none⟩)), (5, .pointer (some ⟨b2, 0, none⟩))]) (fun _ => [.inl (b2, .cells #[.int .i64 0, .int .i64 1, .int .i64 0, .int .i64 0, .int .i64 0, .int .i64 0, .int .i64 0, .int .i64 0, .int .i64 0, .int .i64 0, .int .i64 0, .int .i64 0, .int .i64 0, .int .i64 0, .int .i64 0, .int .i64 0, .int .i64 0, .int .i64 0, .int .i64 0, .int .i64 0] 53 (0, 0)), .inl (b1, .cells (FilterTrack.c f) 53 (0, 0))]) (fun _ => ⟨by kernel_rfl, by kernel_rfl⟩) (fun _ => ?_)
  refine TL.next rfl ?_
  refine TC.seq ?_
  refine TC.seq ?_
  refine TC.region ?_
  refine TL.run 1 [0] [(1, .int .i64 limit), (2, .pointer (some ⟨b1, 0, none⟩)), (21, .agg #[.int .i64 0, .int .i64 1, .int .i64 0, .int .i64 0, .int .i64 0, .int .i64 0, .int .i64 0, .int .i64 0, .int .i64 0, .int .i64 0, .int .i64 0, .int .i64 0, .int .i64 0, .int .i64 0, .int .i64 0, .int .i64 0, .int .i64 0, .int .i64 0, .int .i64 0, .int .i64 0])] rfl ⟨by kernel_rfl, by kernel_rfl⟩ ?_
  refine TL.call (some 22) [(1, .int .i64 limit), (2, .pointer (some ⟨b1, 0, none⟩)), (22, .tuple #[FilterTrack.v ((coast_Miss (⟨⟨0, 1, 0, ⟨0, 0⟩, ⟨0, 0⟩, 0, 0, 0, 0, 0, 0⟩, 0, ⟨0, ⟨0, 0⟩, 0, 0, 0⟩⟩ : FilterTrack) 5).1), .bool ((coast_Miss (⟨⟨0, 1, 0, ⟨0, 0⟩, ⟨0, 0⟩, 0, 0, 0, 0, 0, 0⟩, 0, ⟨0, ⟨0, 0⟩, 0, 0, 0⟩⟩ : FilterTrack) 5).2.1), .int .i64 ((coast_Miss (⟨⟨0, 1, 0, ⟨0, 0⟩, ⟨0, 0⟩, 0, 0, 0, 0, 0, 0⟩, 0, ⟨0, ⟨0, 0⟩, 0, 0, 0⟩⟩ : FilterTrack) 5).2.2)])] (fun w _ => coast_Miss_w (⟨⟨0, 1, 0, ⟨0, 0⟩, ⟨0, 0⟩, 0, 0, 0, 0, 0, 0⟩, 0, ⟨0, ⟨0, 0⟩, 0, 0, 0⟩⟩ : FilterTrack) 5 w) (by kernel_rfl) (by kernel_rfl) ?_
  generalize hr1 : coast_Miss (⟨⟨0, 1, 0, ⟨0, 0⟩, ⟨0, 0⟩, 0, 0, 0, 0, 0, 0⟩, 0, ⟨0, ⟨0, 0⟩, 0, 0, 0⟩⟩ : FilterTrack) 5 = r1
  refine TL.run 6 [] [(1, .int .i64 limit), (2, .pointer (some ⟨b1, 0, none⟩)), (23, FilterTrack.v r1.1), (24, .bool r1.2.1), (25, .int .i64 r1.2.2)] rfl ⟨by kernel_rfl, by kernel_rfl⟩ ?_
  refine TL.write 0 (fun b3 => [(1, .int .i64 limit), (2, .pointer (some ⟨b1, 0, none⟩)), (6, .pointer (some ⟨b3, 0, none⟩)), (23, FilterTrack.v r1.1), (24, .bool r1.2.1), (25, .int .i64 r1.2.2)]) (fun b3 => [.inl (b3, .cells (FilterTrack.c FilterTrack.zero) 53 (0, 0)), .inl (b2, .cells #[.int .i64 0, .int .i64 1, .int .i64 0, .int .i64 0, .int .i64 0, .int .i64 0, .int .i64 0, .int .i64 0, .int .i64 0, .int .i64 0, .int .i64 0, .int .i64 0, .int .i64 0, .int .i64 0, .int .i64 0, .int .i64 0, .int .i64 0, .int .i64 0, .int .i64 0, .int .i64 0] 53 (0, 0)), .inl (b1, .cells (FilterTrack.c f) 53 (0, 0))]) (fun b3 => ⟨by kernel_rfl, by kernel_rfl⟩) (fun b3 => ?_)
  refine TL.write 0 (fun _ => [(1, .int .i64 limit), (2, .pointer (some ⟨b1, 0, none⟩)), (6, .pointer (some ⟨b3, 0, none⟩)), (24, .bool r1.2.1), (25, .int .i64 r1.2.2)]) (fun _ => [.inl (b3, .cells (FilterTrack.c r1.1) 53 (0, 0)), .inl (b2, .cells #[.int .i64 0, .int .i64 1, .int .i64 0, .int .i64 0, .int .i64 0, .int .i64 0, .int .i64 0, .int .i64 0, .int .i64 0, .int .i64 0, .int .i64 0, .int .i64 0, .int .i64 0, .int .i64 0, .int .i64 0, .int .i64 0, .int .i64 0, .int .i64 0, .int .i64 0, .int .i64 0] 53 (0, 0)), .inl (b1, .cells (FilterTrack.c f) 53 (0, 0))]) (fun _ => ⟨by kernel_rfl, by kernel_rfl⟩) (fun _ => ?_)
  refine TL.run 10 [] [(1, .int .i64 limit), (2, .pointer (some ⟨b1, 0, none⟩)), (6, .pointer (some ⟨b3, 0, none⟩)), (7, .bool r1.2.1), (8, .int .i64 r1.2.2)] rfl ⟨by kernel_rfl, by kernel_rfl⟩ ?_
  refine TL.next rfl ?_
  refine TC.seq ?_
  refine TC.region ?_
  refine TL.run 3 [] [(1, .int .i64 limit), (2, .pointer (some ⟨b1, 0, none⟩)), (6, .pointer (some ⟨b3, 0, none⟩)), (7, .bool r1.2.1), (28, .bool (r1.2.2 != 0))] rfl ⟨by kernel_rfl, by kernel_rfl⟩ ?_
  refine TL.join 28 (r1.2.2 != 0) 5 [] [] (fun β => [(1, .int .i64 limit), (2, .pointer (some ⟨b1, 0, none⟩)), (6, .pointer (some ⟨b3, 0, none⟩)), (30, .bool (β || r1.2.1))]) (by kernel_rfl) rfl ⟨by kernel_rfl, by kernel_rfl⟩ ⟨by kernel_rfl, by kernel_rfl⟩ ?_
  refine TL.run 6 [] [(1, .int .i64 limit), (2, .pointer (some ⟨b1, 0, none⟩)), (6, .pointer (some ⟨b3, 0, none⟩)), (31, .bool ((r1.2.2 != 0) || r1.2.1))] rfl ⟨by kernel_rfl, by kernel_rfl⟩ ?_
  refine TL.join 31 ((r1.2.2 != 0) || r1.2.1) 11 [] [0] (fun β => [(1, .int .i64 limit), (2, .pointer (some ⟨b1, 0, none⟩)), (36, .bool (β || (r1.1.Track.State != 2)))]) (by kernel_rfl) rfl ⟨by kernel_rfl, by kernel_rfl⟩ ⟨by kernel_rfl, by kernel_rfl⟩ ?_
  refine TL.next rfl ?_
  refine TC.cond (((r1.2.2 != 0) || r1.2.1) || (r1.1.Track.State != 2)) rfl (by kernel_rfl) (fun h1 => ?_) (fun h1 => ?_)
  · refine TC.seq ?_
    refine TC.region ?_
    refine TL.run 1 [] [(4, .bool false)] rfl ⟨by kernel_rfl, by kernel_rfl⟩ ?_
    refine TL.next rfl ?_
    refine TC.ret ?_
    refine TE.ret_then ?_
    have e : skywaykeep2_CoastTurns f limit = false := by subst hr1; unfold skywaykeep2_CoastTurns; exact cond_t h1 (rfl)
    exact TE.ret [] (.bool false) ⟨by kernel_rfl, by kernel_rfl⟩ (by rw [e]; first | done | kernel_rfl)
  · refine TC.skip ?_
    refine TE.next ?_
    refine TC.seq ?_
    refine TC.region ?_
    refine TL.run 1 [] [(2, .pointer (some ⟨b1, 0, none⟩)), (37, .int .i64 limit)] rfl ⟨by kernel_rfl, by kernel_rfl⟩ ?_
    refine TL.call (some 38) [(2, .pointer (some ⟨b1, 0, none⟩)), (38, .int .i64 (skywaykeep2_within limit 0 20))] (fun w _ => skywaykeep2_within_w limit 0 20 w (by have q0_ := (bne_f (or_f1 (or_f1 h1))); have q1_ := (bne_f (or_f2 h1)); first | omega | first | decide | omega | (simp only [w64_eq]; omega) | (simp only [List.length_append, List.length_cons, List.length_nil, List.length_set, List.length_replicate, List.length_map, List.length_take, List.length_drop, Nat.zero_add, Nat.add_zero]; omega))) (by kernel_rfl) (by kernel_rfl) ?_
    generalize hr2 : skywaykeep2_within limit 0 20 = r2
    refine TL.run 3 [] [(1, .int .i64 r2), (2, .pointer (some ⟨b1, 0, none⟩))] rfl ⟨by kernel_rfl, by kernel_rfl⟩ ?_
    refine TL.next rfl ?_
    refine TC.seq ?_
    refine TC.region ?_
    refine TL.run 1 [2] [(1, .int .i64 r2), (40, FilterTrack.v f)] rfl ⟨by kernel_rfl, by kernel_rfl⟩ ?_
    refine TL.call (some 41) [(1, .int .i64 r2), (41, .tuple #[FilterTrack.v ((coast_Hit f).1), .int .i64 ((coast_Hit f).2)])] (fun w _ => coast_Hit_w f w) (by kernel_rfl) (by kernel_rfl) ?_
    generalize hr3 : coast_Hit f = r3
    refine TL.run 5 [] [(1, .int .i64 r2), (42, FilterTrack.v r3.1), (43, .int .i64 r3.2)] rfl ⟨by kernel_rfl, by kernel_rfl⟩ ?_
    refine TL.write 0 (fun b4 => [(1, .int .i64 r2), (9, .pointer (some ⟨b4, 0, none⟩)), (42, FilterTrack.v r3.1), (43, .int .i64 r3.2)]) (fun b4 => [.inl (b4, .cells (FilterTrack.c FilterTrack.zero) 53 (0, 0)), .inl (b3, .cells (FilterTrack.c r1.1) 53 (0, 0)), .inl (b2, .cells #[.int .i64 0, .int .i64 1, .int .i64 0, .int .i64 0, .int .i64 0, .int .i64 0, .int .i64 0, .int .i64 0, .int .i64 0, .int .i64 0, .int .i64 0, .int .i64 0, .int .i64 0, .int .i64 0, .int .i64 0, .int .i64 0, .int .i64 0, .int .i64 0, .int .i64 0, .int .i64 0] 53 (0, 0)), .inl (b1, .cells (FilterTrack.c f) 53 (0, 0))]) (fun b4 => ⟨by kernel_rfl, by kernel_rfl⟩) (fun b4 => ?_)
    refine TL.write 0 (fun _ => [(1, .int .i64 r2), (9, .pointer (some ⟨b4, 0, none⟩)), (43, .int .i64 r3.2)]) (fun _ => [.inl (b4, .cells (FilterTrack.c r3.1) 53 (0, 0)), .inl (b3, .cells (FilterTrack.c r1.1) 53 (0, 0)), .inl (b2, .cells #[.int .i64 0, .int .i64 1, .int .i64 0, .int .i64 0, .int .i64 0, .int .i64 0, .int .i64 0, .int .i64 0, .int .i64 0, .int .i64 0, .int .i64 0, .int .i64 0, .int .i64 0, .int .i64 0, .int .i64 0, .int .i64 0, .int .i64 0, .int .i64 0, .int .i64 0, .int .i64 0] 53 (0, 0)), .inl (b1, .cells (FilterTrack.c f) 53 (0, 0))]) (fun _ => ⟨by kernel_rfl, by kernel_rfl⟩) (fun _ => ?_)
    refine TL.run 8 [] [(1, .int .i64 r2), (9, .pointer (some ⟨b4, 0, none⟩)), (10, .int .i64 r3.2)] rfl ⟨by kernel_rfl, by kernel_rfl⟩ ?_
    refine TL.next rfl ?_
    refine TC.seq ?_
    refine TC.seq ?_
    refine TC.region ?_
    refine TL.run 2 [] [(1, .int .i64 r2), (9, .pointer (some ⟨b4, 0, none⟩)), (45, .bool (r3.2 != 0))] rfl ⟨by kernel_rfl, by kernel_rfl⟩ ?_
    refine TL.next rfl ?_
    refine TC.cond (r3.2 != 0) rfl (by kernel_rfl) (fun h2 => ?_) (fun h2 => ?_)
    · refine TC.seq ?_
      refine TC.region ?_
      refine TL.run 2 [0] [(46, FilterTrack.v r3.1), (47, FilterTrack.v FilterTrack.zero)] rfl ⟨by kernel_rfl, by kernel_rfl⟩ ?_
      refine TL.val (sV (do eqGuard .eql 53 (.tmp 46) (.tmp 47) (FilterTrack.v r3.1) (FilterTrack.v FilterTrack.zero); binOp .eql 53 (FilterTrack.v r3.1) (FilterTrack.v FilterTrack.zero))) (some 48) (.bool (FilterTrack.eqb r3.1 FilterTrack.zero)) [(48, .bool (FilterTrack.eqb r3.1 FilterTrack.zero))] (fun w hM => run_eql (b := FilterTrack.eqb r3.1 FilterTrack.zero) (by kernel_rfl) (by kernel_rfl) w) (by kernel_rfl) (by kernel_rfl) ?_
      refine TL.run 4 [] [(4, .bool (FilterTrack.eqb r3.1 FilterTrack.zero))] rfl ⟨by kernel_rfl, by kernel_rfl⟩ ?_
      refine TL.next rfl ?_
      refine TC.ret ?_
      refine TE.ret_then ?_
      have e : skywaykeep2_CoastTurns f limit = (FilterTrack.eqb r3.1 FilterTrack.zero) := by subst hr1 hr2 hr3; unfold skywaykeep2_CoastTurns; exact cond_f h1 (cond_t h2 (rfl))
      exact TE.ret [] (.bool (FilterTrack.eqb r3.1 FilterTrack.zero)) ⟨by kernel_rfl, by kernel_rfl⟩ (by rw [e]; first | done | kernel_rfl)
    · refine TC.skip ?_
      refine TE.next ?_
      refine TC.seq ?_
      refine TC.region ?_
      refine TL.run 1 [0] [(1, .int .i64 r2), (9, .pointer (some ⟨b4, 0, none⟩)), (49, FilterTrack.v r3.1)] rfl ⟨by kernel_rfl, by kernel_rfl⟩ ?_
      refine TL.write 0 (fun b5 => [(1, .int .i64 r2), (9, .pointer (some ⟨b4, 0, none⟩)), (11, .pointer (some ⟨b5, 0, none⟩)), (49, FilterTrack.v r3.1)]) (fun b5 => [.inl (b5, .cells (FilterTrack.c FilterTrack.zero) 53 (0, 0)), .inl (b4, .cells (FilterTrack.c r3.1) 53 (0, 0)), .inl (b3, .cells (FilterTrack.c r1.1) 53 (0, 0)), .inl (b2, .cells #[.int .i64 0, .int .i64 1, .int .i64 0, .int .i64 0, .int .i64 0, .int .i64 0, .int .i64 0, .int .i64 0, .int .i64 0, .int .i64 0, .int .i64 0, .int .i64 0, .int .i64 0, .int .i64 0, .int .i64 0, .int .i64 0, .int .i64 0, .int .i64 0, .int .i64 0, .int .i64 0] 53 (0, 0)), .inl (b1, .cells (FilterTrack.c f) 53 (0, 0))]) (fun b5 => ⟨by kernel_rfl, by kernel_rfl⟩) (fun b5 => ?_)
      refine TL.write 0 (fun _ => [(1, .int .i64 r2), (9, .pointer (some ⟨b4, 0, none⟩)), (11, .pointer (some ⟨b5, 0, none⟩))]) (fun _ => [.inl (b5, .cells (FilterTrack.c r3.1) 53 (0, 0)), .inl (b4, .cells (FilterTrack.c r3.1) 53 (0, 0)), .inl (b3, .cells (FilterTrack.c r1.1) 53 (0, 0)), .inl (b2, .cells #[.int .i64 0, .int .i64 1, .int .i64 0, .int .i64 0, .int .i64 0, .int .i64 0, .int .i64 0, .int .i64 0, .int .i64 0, .int .i64 0, .int .i64 0, .int .i64 0, .int .i64 0, .int .i64 0, .int .i64 0, .int .i64 0, .int .i64 0, .int .i64 0, .int .i64 0, .int .i64 0] 53 (0, 0)), .inl (b1, .cells (FilterTrack.c f) 53 (0, 0))]) (fun _ => ⟨by kernel_rfl, by kernel_rfl⟩) (fun _ => ?_)
      refine TL.run 4 [] [(1, .int .i64 r2), (9, .pointer (some ⟨b4, 0, none⟩)), (11, .pointer (some ⟨b5, 0, none⟩)), (12, .bool false)] rfl ⟨by kernel_rfl, by kernel_rfl⟩ ?_
      refine TL.next rfl ?_
      refine TC.seq ?_
      refine TC.seq ?_
      refine TC.region ?_
      refine TL.run 1 [] [(1, .int .i64 r2), (9, .pointer (some ⟨b4, 0, none⟩)), (11, .pointer (some ⟨b5, 0, none⟩)), (12, .bool false), (13, .int .i64 0)] rfl ⟨by kernel_rfl, by kernel_rfl⟩ ?_
      refine TL.next rfl ?_
      refine TC.weak [(1, .int .i64 r2), (9, .pointer (some ⟨b4, 0, none⟩)), (11, .pointer (some ⟨b5, 0, none⟩)), (12, .bool false), (13, .int .i64 0)] (by kernel_rfl) ?_
      refine TC.forget [.inl (b5, .cells (FilterTrack.c r3.1) 53 (0, 0)), .inl (b4, .cells (FilterTrack.c r3.1) 53 (0, 0))] (.cons_cons _ (.cons_cons _ (.cons _ (.cons _ (.cons _ (.slnil)))))) ?_
      obtain ⟨R1, hR⟩ : ∃ R, R = skywaykeep2_CoastTurns_L1 r2 ((r2 + 1).toNat) 0 false r3.1 := ⟨_, rfl⟩
      refine TC.cut (S := Bool × FilterTrack) (fun (ends_2, x_2) => [(9, .pointer (some ⟨b4, 0, none⟩)), (11, .pointer (some ⟨b5, 0, none⟩)), (12, .bool ends_2)]) (fun (ends_2, x_2) => [.inl (b5, .cells (FilterTrack.c x_2) 53 (0, 0)), .inl (b4, .cells (FilterTrack.c r3.1) 53 (0, 0))]) (fun (ends_2, x_2) => R1 = .inl (ends_2, x_2)) ?_ ?_
      · refine TC.block ?_
        refine TC.loop (X := Nat × Bool × FilterTrack) (fun (k, ends, x) => [(1, .int .i64 r2), (9, .pointer (some ⟨b4, 0, none⟩)), (11, .pointer (some ⟨b5, 0, none⟩)), (12, .bool ends), (13, .int .i64 (k : Int))]) (fun (k, ends, x) => [.inl (b5, .cells (FilterTrack.c x) 53 (0, 0)), .inl (b4, .cells (FilterTrack.c r3.1) 53 (0, 0))]) (fun (k, ends, x) => ((r2 + 1).toNat) - k) (fun (k, ends, x) => k ≤ ((r2 + 1).toNat) ∧ R1 = skywaykeep2_CoastTurns_L1 r2 (((r2 + 1).toNat) - k) k ends x) ?_ (0, false, r3.1) ⟨Nat.zero_le _, hR⟩
        rintro ⟨k, ends, x⟩ ⟨hk, hI⟩
        refine TC.seq ?_
        refine TC.seq ?_
        refine TC.region ?_
        refine TL.run 3 [] [(1, .int .i64 r2), (9, .pointer (some ⟨b4, 0, none⟩)), (11, .pointer (some ⟨b5, 0, none⟩)), (12, .bool ends), (13, .int .i64 (k : Int)), (52, .bool (decide ((k : Int) ≤ r2)))] rfl ⟨by kernel_rfl, by kernel_rfl⟩ ?_
        refine TL.next rfl ?_
        refine TC.cond (decide ((k : Int) ≤ r2)) rfl (by kernel_rfl) (fun h3 => ?_) (fun h3 => ?_)
        · have hlt : k < ((r2 + 1).toNat) := by have q0_ := (bne_f (or_f1 (or_f1 h1))); have q1_ := (bne_f (or_f2 h1)); have q2_ := (bne_f h2); have p0_ := (dec_t h3); have u1_ := within_in hr2 (by omega) (by omega) (by omega); first | omega | (simp only [w64_eq] at *; omega)
          have hd : ((r2 + 1).toNat) - k = (((r2 + 1).toNat) - (k + 1)) + 1 := by omega
          refine TC.skip ?_
          refine TE.next ?_
          refine TC.seq ?_
          refine TC.block ?_
          refine TC.seq ?_
          refine TC.seq ?_
          refine TC.region ?_
          refine TL.run 1 [] [(1, .int .i64 r2), (9, .pointer (some ⟨b4, 0, none⟩)), (11, .pointer (some ⟨b5, 0, none⟩)), (13, .int .i64 (k : Int)), (55, .bool ends)] rfl ⟨by kernel_rfl, by kernel_rfl⟩ ?_
          refine TL.next rfl ?_
          refine TC.cond ends rfl (by kernel_rfl) (fun h4 => ?_) (fun h4 => ?_)
          · refine TC.seq ?_
            refine TC.region ?_
            refine TL.run 1 [] [(4, .bool false)] rfl ⟨by kernel_rfl, by kernel_rfl⟩ ?_
            refine TL.next rfl ?_
            refine TC.ret ?_
            refine TE.ret_then (TE.ret_block (TE.ret_then (TE.ret_then (TE.ret_block (TE.ret_then (TE.ret_then ?_))))))
            have e : skywaykeep2_CoastTurns f limit = false := by subst hr1 hr2 hr3; unfold skywaykeep2_CoastTurns; exact cond_f h1 (cond_f h2 (elim_r (hR.symm.trans (hI.trans (by rw [hd]; exact cond_t h4 (rfl)))) rfl))
            exact TE.ret [] (.bool false) ⟨by kernel_rfl, by kernel_rfl⟩ (by rw [e]; first | done | kernel_rfl)
          · refine TC.skip ?_
            refine TE.next ?_
            refine TC.seq ?_
            refine TC.region ?_
            refine TL.run 2 [0] [(1, .int .i64 r2), (9, .pointer (some ⟨b4, 0, none⟩)), (11, .pointer (some ⟨b5, 0, none⟩)), (13, .int .i64 (k : Int)), (57, FilterTrack.v x), (58, .int .i64 r2)] rfl ⟨by kernel_rfl, by kernel_rfl⟩ ?_
            refine TL.call (some 59) [(1, .int .i64 r2), (9, .pointer (some ⟨b4, 0, none⟩)), (11, .pointer (some ⟨b5, 0, none⟩)), (13, .int .i64 (k : Int)), (59, .tuple #[FilterTrack.v ((coast_Miss x r2).1), .bool ((coast_Miss x r2).2.1), .int .i64 ((coast_Miss x r2).2.2)])] (fun w _ => coast_Miss_w x r2 w) (by kernel_rfl) (by kernel_rfl) ?_
            generalize hr4 : coast_Miss x r2 = r4
            refine TL.run 7 [] [(1, .int .i64 r2), (9, .pointer (some ⟨b4, 0, none⟩)), (11, .pointer (some ⟨b5, 0, none⟩)), (13, .int .i64 (k : Int)), (60, FilterTrack.v r4.1), (61, .bool r4.2.1), (62, .int .i64 r4.2.2)] rfl ⟨by kernel_rfl, by kernel_rfl⟩ ?_
            refine TL.write 0 (fun b6 => [(1, .int .i64 r2), (9, .pointer (some ⟨b4, 0, none⟩)), (11, .pointer (some ⟨b5, 0, none⟩)), (13, .int .i64 (k : Int)), (14, .pointer (some ⟨b6, 0, none⟩)), (60, FilterTrack.v r4.1), (61, .bool r4.2.1), (62, .int .i64 r4.2.2)]) (fun b6 => [.inl (b6, .cells (FilterTrack.c FilterTrack.zero) 53 (0, 0)), .inl (b5, .cells (FilterTrack.c x) 53 (0, 0)), .inl (b4, .cells (FilterTrack.c r3.1) 53 (0, 0))]) (fun b6 => ⟨by kernel_rfl, by kernel_rfl⟩) (fun b6 => ?_)
            refine TL.write 0 (fun _ => [(1, .int .i64 r2), (9, .pointer (some ⟨b4, 0, none⟩)), (11, .pointer (some ⟨b5, 0, none⟩)), (13, .int .i64 (k : Int)), (14, .pointer (some ⟨b6, 0, none⟩)), (61, .bool r4.2.1), (62, .int .i64 r4.2.2)]) (fun _ => [.inl (b6, .cells (FilterTrack.c r4.1) 53 (0, 0)), .inl (b5, .cells (FilterTrack.c x) 53 (0, 0)), .inl (b4, .cells (FilterTrack.c r3.1) 53 (0, 0))]) (fun _ => ⟨by kernel_rfl, by kernel_rfl⟩) (fun _ => ?_)
            refine TL.run 11 [] [(1, .int .i64 r2), (9, .pointer (some ⟨b4, 0, none⟩)), (11, .pointer (some ⟨b5, 0, none⟩)), (13, .int .i64 (k : Int)), (14, .pointer (some ⟨b6, 0, none⟩)), (15, .bool r4.2.1), (16, .int .i64 r4.2.2)] rfl ⟨by kernel_rfl, by kernel_rfl⟩ ?_
            refine TL.next rfl ?_
            refine TC.seq ?_
            refine TC.seq ?_
            refine TC.region ?_
            refine TL.run 2 [] [(1, .int .i64 r2), (9, .pointer (some ⟨b4, 0, none⟩)), (11, .pointer (some ⟨b5, 0, none⟩)), (13, .int .i64 (k : Int)), (14, .pointer (some ⟨b6, 0, none⟩)), (15, .bool r4.2.1), (64, .bool (r4.2.2 != 0))] rfl ⟨by kernel_rfl, by kernel_rfl⟩ ?_
            refine TL.next rfl ?_
            refine TC.cond (r4.2.2 != 0) rfl (by kernel_rfl) (fun h5 => ?_) (fun h5 => ?_)
            · refine TC.seq ?_
              refine TC.region ?_
              refine TL.run 1 [] [(4, .bool false)] rfl ⟨by kernel_rfl, by kernel_rfl⟩ ?_
              refine TL.next rfl ?_
              refine TC.ret ?_
              refine TE.ret_then (TE.ret_block (TE.ret_then (TE.ret_then (TE.ret_block (TE.ret_then (TE.ret_then ?_))))))
              have e : skywaykeep2_CoastTurns f limit = false := by subst hr1 hr2 hr3 hr4; unfold skywaykeep2_CoastTurns; exact cond_f h1 (cond_f h2 (elim_r (hR.symm.trans (hI.trans (by rw [hd]; exact cond_f h4 (cond_t h5 (rfl))))) rfl))
              exact TE.ret [] (.bool false) ⟨by kernel_rfl, by kernel_rfl⟩ (by rw [e]; first | done | kernel_rfl)
            · refine TC.skip ?_
              refine TE.next ?_
              refine TC.region ?_
              refine TL.run 2 [0] [(1, .int .i64 r2), (9, .pointer (some ⟨b4, 0, none⟩)), (11, .pointer (some ⟨b5, 0, none⟩)), (13, .int .i64 (k : Int)), (65, FilterTrack.v r4.1), (66, .bool r4.2.1)] rfl ⟨by kernel_rfl, by kernel_rfl⟩ ?_
              refine TL.write 1 (fun _ => [(1, .int .i64 r2), (9, .pointer (some ⟨b4, 0, none⟩)), (11, .pointer (some ⟨b5, 0, none⟩)), (13, .int .i64 (k : Int)), (66, .bool r4.2.1)]) (fun _ => [.inl (b6, .cells (FilterTrack.c r4.1) 53 (0, 0)), .inl (b5, .cells (FilterTrack.c r4.1) 53 (0, 0)), .inl (b4, .cells (FilterTrack.c r3.1) 53 (0, 0))]) (fun _ => ⟨by kernel_rfl, by kernel_rfl⟩) (fun _ => ?_)
              refine TL.run 4 [] [(1, .int .i64 r2), (9, .pointer (some ⟨b4, 0, none⟩)), (11, .pointer (some ⟨b5, 0, none⟩)), (12, .bool r4.2.1), (13, .int .i64 (k : Int))] rfl ⟨by kernel_rfl, by kernel_rfl⟩ ?_
              refine TL.done rfl ?_
              refine TE.normal_block ?_
              refine TE.next ?_
              refine TC.region ?_
              refine TL.run 3 [] [(1, .int .i64 r2), (9, .pointer (some ⟨b4, 0, none⟩)), (11, .pointer (some ⟨b5, 0, none⟩)), (12, .bool r4.2.1), (13, .int .i64 (w64 ((k : Int) + 1)))] rfl ⟨by kernel_rfl, by kernel_rfl⟩ ?_
              refine TL.done rfl ?_
              refine TE.rw 13 (.int .i64 (w64 ((k : Int) + 1))) (.int .i64 ((k + 1 : Nat) : Int)) (by kernel_rfl) (int_eq (by have q0_ := (bne_f (or_f1 (or_f1 h1))); have q1_ := (bne_f (or_f2 h1)); have q2_ := (bne_f h2); have q3_ := (dec_t h3); have q4_ := (bne_f h5); have u1_ := within_in hr2 (by omega) (by omega) (by omega); first | omega | (rw [w64_id (by omega)]; omega) | (simp only [w64_eq] at *; omega))) ?_
              exact TE.again (x := (k, ends, x)) (k + 1, r4.2.1, r4.1) ⟨by omega, hI.trans (by subst hr1 hr2 hr3 hr4; rw [hd]; exact cond_f h4 (cond_f h5 (rfl)))⟩ (by show ((r2 + 1).toNat) - (k + 1) < ((r2 + 1).toNat) - k; omega) (by kernel_rfl) (.cons _ (.cons_cons _ (.cons_cons _ (.slnil))))
        · have hd : ((r2 + 1).toNat) - k = 0 := by have q0_ := (bne_f (or_f1 (or_f1 h1))); have q1_ := (bne_f (or_f2 h1)); have q2_ := (bne_f h2); have p0_ := (dec_f h3); have u1_ := within_in hr2 (by omega) (by omega) (by omega); first | omega | (simp only [w64_eq] at *; omega)
          refine TC.exit ?_
          refine TE.exit_then (TE.exit_then (TE.exit_same ?_))
          exact TE.cut (ends, x) (hI.trans (by subst hr1 hr2 hr3; rw [hd]; exact rfl)) (by kernel_rfl) (.cons_cons _ (.cons_cons _ (.slnil)))
      · rintro ⟨ends_2, x_2⟩ hJ
        refine TE.next ?_
        refine TC.seq ?_
        refine TC.region ?_
        refine TL.run 1 [0] [(9, .pointer (some ⟨b4, 0, none⟩)), (12, .bool ends_2), (68, FilterTrack.v x_2)] rfl ⟨by kernel_rfl, by kernel_rfl⟩ ?_
        refine TL.call (some 69) [(9, .pointer (some ⟨b4, 0, none⟩)), (12, .bool ends_2), (69, .tuple #[FilterTrack.v ((coast_Hit x_2).1), .int .i64 ((coast_Hit x_2).2)])] (fun w _ => coast_Hit_w x_2 w) (by kernel_rfl) (by kernel_rfl) ?_
        generalize hr5 : coast_Hit x_2 = r5
        refine TL.run 5 [] [(9, .pointer (some ⟨b4, 0, none⟩)), (12, .bool ends_2), (70, FilterTrack.v r5.1), (71, .int .i64 r5.2)] rfl ⟨by kernel_rfl, by kernel_rfl⟩ ?_
        refine TL.write 0 (fun b7 => [(9, .pointer (some ⟨b4, 0, none⟩)), (12, .bool ends_2), (17, .pointer (some ⟨b7, 0, none⟩)), (70, FilterTrack.v r5.1), (71, .int .i64 r5.2)]) (fun b7 => [.inl (b7, .cells (FilterTrack.c FilterTrack.zero) 53 (0, 0)), .inl (b5, .cells (FilterTrack.c x_2) 53 (0, 0)), .inl (b4, .cells (FilterTrack.c r3.1) 53 (0, 0))]) (fun b7 => ⟨by kernel_rfl, by kernel_rfl⟩) (fun b7 => ?_)
        refine TL.write 0 (fun _ => [(9, .pointer (some ⟨b4, 0, none⟩)), (12, .bool ends_2), (17, .pointer (some ⟨b7, 0, none⟩)), (71, .int .i64 r5.2)]) (fun _ => [.inl (b7, .cells (FilterTrack.c r5.1) 53 (0, 0)), .inl (b5, .cells (FilterTrack.c x_2) 53 (0, 0)), .inl (b4, .cells (FilterTrack.c r3.1) 53 (0, 0))]) (fun _ => ⟨by kernel_rfl, by kernel_rfl⟩) (fun _ => ?_)
        refine TL.run 8 [] [(9, .pointer (some ⟨b4, 0, none⟩)), (10, .int .i64 r5.2), (12, .bool ends_2), (17, .pointer (some ⟨b7, 0, none⟩))] rfl ⟨by kernel_rfl, by kernel_rfl⟩ ?_
        refine TL.next rfl ?_
        refine TC.seq ?_
        refine TC.region ?_
        refine TL.run 2 [] [(9, .pointer (some ⟨b4, 0, none⟩)), (10, .int .i64 r5.2), (17, .pointer (some ⟨b7, 0, none⟩)), (73, .bool ends_2)] rfl ⟨by kernel_rfl, by kernel_rfl⟩ ?_
        refine TL.join 73 ends_2 5 [] [] (fun β => [(9, .pointer (some ⟨b4, 0, none⟩)), (17, .pointer (some ⟨b7, 0, none⟩)), (76, .bool (β && (r5.2 == 0)))]) (by kernel_rfl) rfl ⟨by kernel_rfl, by kernel_rfl⟩ ⟨by kernel_rfl, by kernel_rfl⟩ ?_
        refine TL.run 6 [] [(9, .pointer (some ⟨b4, 0, none⟩)), (17, .pointer (some ⟨b7, 0, none⟩)), (77, .bool (ends_2 && (r5.2 == 0)))] rfl ⟨by kernel_rfl, by kernel_rfl⟩ ?_
        refine TL.split 77 (ends_2 && (r5.2 == 0)) (by kernel_rfl) (fun h6 => ?_) (fun h6 => ?_)
        · refine TL.run 8 [0, 2] [(77, .bool true), (78, FilterTrack.v r5.1), (79, FilterTrack.v r3.1)] rfl ⟨by kernel_rfl, by kernel_rfl⟩ ?_
          refine TL.val (sV (do eqGuard .eql 53 (.tmp 78) (.tmp 79) (FilterTrack.v r5.1) (FilterTrack.v r3.1); binOp .eql 53 (FilterTrack.v r5.1) (FilterTrack.v r3.1))) (some 80) (.bool (FilterTrack.eqb r5.1 r3.1)) [(77, .bool true), (80, .bool (FilterTrack.eqb r5.1 r3.1))] (fun w hM => run_eql (b := FilterTrack.eqb r5.1 r3.1) (by kernel_rfl) (by kernel_rfl) w) (by kernel_rfl) (by kernel_rfl) ?_
          refine TL.run 11 [] [(4, .bool (FilterTrack.eqb r5.1 r3.1))] rfl ⟨by kernel_rfl, by kernel_rfl⟩ ?_
          refine TL.next rfl ?_
          refine TC.ret ?_
          have e : skywaykeep2_CoastTurns f limit = (FilterTrack.eqb r5.1 r3.1) := by subst hr1 hr2 hr3 hr5; unfold skywaykeep2_CoastTurns; exact cond_f h1 (cond_f h2 (elim_l (hR.symm.trans hJ) (cond_t h6 (rfl))))
          exact TE.ret [] (.bool (FilterTrack.eqb r5.1 r3.1)) ⟨by kernel_rfl, by kernel_rfl⟩ (by rw [e]; first | done | kernel_rfl)
        · refine TL.run 11 [] [(4, .bool false)] rfl ⟨by kernel_rfl, by kernel_rfl⟩ ?_
          refine TL.next rfl ?_
          refine TC.ret ?_
          have e : skywaykeep2_CoastTurns f limit = false := by subst hr1 hr2 hr3 hr5; unfold skywaykeep2_CoastTurns; exact cond_f h1 (cond_f h2 (elim_l (hR.symm.trans hJ) (cond_f h6 (rfl))))
          exact TE.ret [] (.bool false) ⟨by kernel_rfl, by kernel_rfl⟩ (by rw [e]; first | done | kernel_rfl)

end Go.Sky
