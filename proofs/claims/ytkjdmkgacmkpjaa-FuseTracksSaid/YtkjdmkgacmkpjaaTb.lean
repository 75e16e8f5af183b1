/- Functions of the program, each with the Lean function that it computes. Conditions: none. -/
import Derived.Test.YtkjdmkgacmkpjaaGeo
import Derived.Test.YtkjdmkgacmkpjaaThick
namespace Go.Sky
open Go Go.Eng Go.Proofs
def filter_out (n : Int) (low : Int) (high : Int) : Bool :=
  (decide (n < low)) || (decide (n > high))

set_option maxRecDepth 100000 in
theorem filter_out_w (n : Int) (low : Int) (high : Int) (w : World) : Calls Try.prog 51 #[.int .i64 n, .int .i64 low, .int .i64 high] w (Ret w (.bool (filter_out n low high))) := by
  refine calls_intro (vs := [.int .i64 n, .int .i64 low, .int .i64 high]) (w := w) Try.func51 rfl Try.ntmps51 rfl ?_
  refine TC.weak [(0, .int .i64 n), (1, .int .i64 low), (2, .int .i64 high)] (by kernel_rfl) ?_
  refine TC.seq ?_
  refine TC.region ?_
  refine TL.run 1 [] [(0, .int .i64 n), (1, .int .i64 low), (2, .int .i64 high)] rfl ⟨by kernel_rfl, by kernel_rfl⟩ ?_
  refine TL.next rfl ?_
  refine TC.seq ?_
  refine TC.region ?_
  refine TL.run 4 [] [(0, .int .i64 n), (2, .int .i64 high), (10, .bool (decide (n < low)))] rfl ⟨by kernel_rfl, by kernel_rfl⟩ ?_
  refine TL.join 10 (decide (n < low)) 8 [] [] (fun β => [(14, .bool (β || (decide (n > high))))]) (by kernel_rfl) rfl ⟨by kernel_rfl, by kernel_rfl⟩ ⟨by kernel_rfl, by kernel_rfl⟩ ?_
  refine TL.run 9 [] [(6, .bool ((decide (n < low)) || (decide (n > high))))] rfl ⟨by kernel_rfl, by kernel_rfl⟩ ?_
  refine TL.next rfl ?_
  refine TC.ret ?_
  have e : filter_out n low high = ((decide (n < low)) || (decide (n > high))) := by unfold filter_out; exact rfl
  exact TE.ret [] (.bool ((decide (n < low)) || (decide (n > high)))) ⟨by kernel_rfl, by kernel_rfl⟩ (by rw [e]; first | done | kernel_rfl)

def filter_Check (f : FilterTrack) : Int :=
  let r1 := gate_CheckTrack f.Track
  cond (r1 != 0) (
    r1) (
    let r2 := filter_out f.Track.Speed.X (-12800) 12800
    cond r2 (
      4) (
      let r3 := filter_out f.Track.Speed.Y (-12800) 12800
      cond r3 (
        4) (
        let r4 := filter_out f.Track.Rate (-3200) 3200
        cond r4 (
          4) (
          let r5 := filter_out f.Slack 0 409600
          cond (((r5 || (decide (f.Track.ID < 0))) || (decide (f.Track.Hits < 0))) || (decide (f.Track.Misses < 0))) (
            4) (
            let r6 := filter_out f.Track.State 0 2
            cond r6 (
              1) (
              let r7 := radar_CheckSpot f.Last
              cond (r7 != 0) (
                r7) (
                cond (decide (f.Last.Time > f.Track.Time)) (
                  12) (
                  0))))))))

set_option maxRecDepth 100000 in
theorem filter_Check_w (f : FilterTrack) (w : World) : Calls Try.prog 50 #[FilterTrack.v f] w (Ret w (.int .i64 (filter_Check f))) := by
  refine calls_intro (vs := [FilterTrack.v f]) (w := w) Try.func50 rfl Try.ntmps50 rfl ?_
  refine TC.weak [(0, FilterTrack.v f)] (by kernel_rfl) ?_
  refine TC.seq ?_
  refine TC.region ?_
  refine TL.write 0 (fun b1 => [(1, .pointer (some ⟨b1, 0, none⟩))]) (fun b1 => [.inl (b1, .cells (FilterTrack.c f) 29 (0, 0))]) (fun b1 => ⟨by kernel_rfl, by kernel_rfl⟩) (fun b1 => ?_)
  refine TL.run 2 [] [(1, .pointer (some ⟨b1, 0, none⟩))] rfl ⟨by kernel_rfl, by kernel_rfl⟩ ?_
  refine TL.next rfl ?_
  refine TC.seq ?_
  refine TC.region ?_
  refine TL.run 2 [0] [(1, .pointer (some ⟨b1, 0, none⟩)), (7, Track.v f.Track)] rfl ⟨by kernel_rfl, by kernel_rfl⟩ ?_
  refine TL.write 0 (fun b2 => [(1, .pointer (some ⟨b1, 0, none⟩)), (3, .pointer (some ⟨b2, 0, none⟩)), (7, Track.v f.Track)]) (fun b2 => [.inl (b2, .cells (Track.c Track.zero) 25 (0, 0)), .inl (b1, .cells (FilterTrack.c f) 29 (0, 0))]) (fun b2 => ⟨by kernel_rfl, by kernel_rfl⟩) (fun b2 => ?_)
  refine TL.write 0 (fun _ => [(1, .pointer (some ⟨b1, 0, none⟩)), (3, .pointer (some ⟨b2, 0, none⟩))]) (fun _ => [.inl (b2, .cells (Track.c f.Track) 25 (0, 0)), .inl (b1, .cells (FilterTrack.c f) 29 (0, 0))]) (fun _ => ⟨by kernel_rfl, by kernel_rfl⟩) (fun _ => ?_)
  refine TL.next rfl ?_
  refine TC.seq ?_
  refine TC.seq ?_
  refine TC.region ?_
  refine TL.run 1 [0] [(1, .pointer (some ⟨b1, 0, none⟩)), (3, .pointer (some ⟨b2, 0, none⟩)), (8, Track.v f.Track)] rfl ⟨by kernel_rfl, by kernel_rfl⟩ ?_
  refine TL.call (some 9) [(1, .pointer (some ⟨b1, 0, none⟩)), (3, .pointer (some ⟨b2, 0, none⟩)), (9, .int .i64 (gate_CheckTrack f.Track))] (fun w _ => gate_CheckTrack_w f.Track w) (by kernel_rfl) (by kernel_rfl) ?_
  generalize hr1 : gate_CheckTrack f.Track = r1
  refine TL.run 3 [] [(1, .pointer (some ⟨b1, 0, none⟩)), (3, .pointer (some ⟨b2, 0, none⟩)), (4, .int .i64 r1)] rfl ⟨by kernel_rfl, by kernel_rfl⟩ ?_
  refine TL.next rfl ?_
  refine TC.seq ?_
  refine TC.region ?_
  refine TL.run 2 [] [(1, .pointer (some ⟨b1, 0, none⟩)), (3, .pointer (some ⟨b2, 0, none⟩)), (4, .int .i64 r1), (11, .bool (r1 != 0))] rfl ⟨by kernel_rfl, by kernel_rfl⟩ ?_
  refine TL.next rfl ?_
  refine TC.cond (r1 != 0) rfl (by kernel_rfl) (fun h1 => ?_) (fun h1 => ?_)
  · refine TC.seq ?_
    refine TC.region ?_
    refine TL.run 2 [] [(2, .int .i64 r1)] rfl ⟨by kernel_rfl, by kernel_rfl⟩ ?_
    refine TL.next rfl ?_
    refine TC.ret ?_
    refine TE.ret_then ?_
    have e : filter_Check f = r1 := by subst hr1; unfold filter_Check; exact cond_t h1 (rfl)
    exact TE.ret [] (.int .i64 r1) ⟨by kernel_rfl, by kernel_rfl⟩ (by rw [e]; first | done | kernel_rfl)
  · refine TC.skip ?_
    refine TE.next ?_
    refine TC.seq ?_
    refine TC.seq ?_
    refine TC.region ?_
    refine TL.run 3 [0] [(1, .pointer (some ⟨b1, 0, none⟩)), (3, .pointer (some ⟨b2, 0, none⟩)), (15, .int .i64 f.Track.Speed.X)] rfl ⟨by kernel_rfl, by kernel_rfl⟩ ?_
    refine TL.call (some 16) [(1, .pointer (some ⟨b1, 0, none⟩)), (3, .pointer (some ⟨b2, 0, none⟩)), (16, .bool ((filter_out f.Track.Speed.X (-12800) 12800)))] (fun w _ => filter_out_w f.Track.Speed.X (-12800) 12800 w) (by kernel_rfl) (by kernel_rfl) ?_
    generalize hr2 : filter_out f.Track.Speed.X (-12800) 12800 = r2
    refine TL.run 5 [] [(1, .pointer (some ⟨b1, 0, none⟩)), (3, .pointer (some ⟨b2, 0, none⟩)), (17, .bool r2)] rfl ⟨by kernel_rfl, by kernel_rfl⟩ ?_
    refine TL.split 17 r2 (by kernel_rfl) (fun h2 => ?_) (fun h2 => ?_)
    · refine TL.run 35 [] [(1, .pointer (some ⟨b1, 0, none⟩)), (3, .pointer (some ⟨b2, 0, none⟩)), (47, .bool true)] rfl ⟨by kernel_rfl, by kernel_rfl⟩ ?_
      refine TL.next rfl ?_
      refine TC.condT rfl (by kernel_rfl) ?_
      refine TC.seq ?_
      refine TC.region ?_
      refine TL.run 1 [] [(2, .int .i64 4)] rfl ⟨by kernel_rfl, by kernel_rfl⟩ ?_
      refine TL.next rfl ?_
      refine TC.ret ?_
      refine TE.ret_then ?_
      have e : filter_Check f = 4 := by subst hr1 hr2; unfold filter_Check; exact cond_f h1 (cond_t h2 (rfl))
      exact TE.ret [] (.int .i64 4) ⟨by kernel_rfl, by kernel_rfl⟩ (by rw [e]; first | done | kernel_rfl)
    · refine TL.run 8 [0] [(1, .pointer (some ⟨b1, 0, none⟩)), (3, .pointer (some ⟨b2, 0, none⟩)), (17, .bool false), (20, .int .i64 f.Track.Speed.Y)] rfl ⟨by kernel_rfl, by kernel_rfl⟩ ?_
      refine TL.call (some 21) [(1, .pointer (some ⟨b1, 0, none⟩)), (3, .pointer (some ⟨b2, 0, none⟩)), (17, .bool false), (21, .bool ((filter_out f.Track.Speed.Y (-12800) 12800)))] (fun w _ => filter_out_w f.Track.Speed.Y (-12800) 12800 w) (by kernel_rfl) (by kernel_rfl) ?_
      generalize hr3 : filter_out f.Track.Speed.Y (-12800) 12800 = r3
      refine TL.run 11 [] [(1, .pointer (some ⟨b1, 0, none⟩)), (3, .pointer (some ⟨b2, 0, none⟩)), (23, .bool r3)] rfl ⟨by kernel_rfl, by kernel_rfl⟩ ?_
      refine TL.split 23 r3 (by kernel_rfl) (fun h3 => ?_) (fun h3 => ?_)
      · refine TL.run 35 [] [(1, .pointer (some ⟨b1, 0, none⟩)), (3, .pointer (some ⟨b2, 0, none⟩)), (47, .bool true)] rfl ⟨by kernel_rfl, by kernel_rfl⟩ ?_
        refine TL.next rfl ?_
        refine TC.condT rfl (by kernel_rfl) ?_
        refine TC.seq ?_
        refine TC.region ?_
        refine TL.run 1 [] [(2, .int .i64 4)] rfl ⟨by kernel_rfl, by kernel_rfl⟩ ?_
        refine TL.next rfl ?_
        refine TC.ret ?_
        refine TE.ret_then ?_
        have e : filter_Check f = 4 := by subst hr1 hr2 hr3; unfold filter_Check; exact cond_f h1 (cond_f h2 (cond_t h3 (rfl)))
        exact TE.ret [] (.int .i64 4) ⟨by kernel_rfl, by kernel_rfl⟩ (by rw [e]; first | done | kernel_rfl)
      · refine TL.run 13 [0] [(1, .pointer (some ⟨b1, 0, none⟩)), (3, .pointer (some ⟨b2, 0, none⟩)), (23, .bool false), (25, .int .i64 f.Track.Rate)] rfl ⟨by kernel_rfl, by kernel_rfl⟩ ?_
        refine TL.call (some 26) [(1, .pointer (some ⟨b1, 0, none⟩)), (3, .pointer (some ⟨b2, 0, none⟩)), (23, .bool false), (26, .bool ((filter_out f.Track.Rate (-3200) 3200)))] (fun w _ => filter_out_w f.Track.Rate (-3200) 3200 w) (by kernel_rfl) (by kernel_rfl) ?_
        generalize hr4 : filter_out f.Track.Rate (-3200) 3200 = r4
        refine TL.run 16 [] [(1, .pointer (some ⟨b1, 0, none⟩)), (3, .pointer (some ⟨b2, 0, none⟩)), (28, .bool r4)] rfl ⟨by kernel_rfl, by kernel_rfl⟩ ?_
        refine TL.split 28 r4 (by kernel_rfl) (fun h4 => ?_) (fun h4 => ?_)
        · refine TL.run 35 [] [(1, .pointer (some ⟨b1, 0, none⟩)), (3, .pointer (some ⟨b2, 0, none⟩)), (47, .bool true)] rfl ⟨by kernel_rfl, by kernel_rfl⟩ ?_
          refine TL.next rfl ?_
          refine TC.condT rfl (by kernel_rfl) ?_
          refine TC.seq ?_
          refine TC.region ?_
          refine TL.run 1 [] [(2, .int .i64 4)] rfl ⟨by kernel_rfl, by kernel_rfl⟩ ?_
          refine TL.next rfl ?_
          refine TC.ret ?_
          refine TE.ret_then ?_
          have e : filter_Check f = 4 := by subst hr1 hr2 hr3 hr4; unfold filter_Check; exact cond_f h1 (cond_f h2 (cond_f h3 (cond_t h4 (rfl))))
          exact TE.ret [] (.int .i64 4) ⟨by kernel_rfl, by kernel_rfl⟩ (by rw [e]; first | done | kernel_rfl)
        · refine TL.run 18 [1] [(1, .pointer (some ⟨b1, 0, none⟩)), (3, .pointer (some ⟨b2, 0, none⟩)), (28, .bool false), (30, .int .i64 f.Slack)] rfl ⟨by kernel_rfl, by kernel_rfl⟩ ?_
          refine TL.call (some 31) [(1, .pointer (some ⟨b1, 0, none⟩)), (3, .pointer (some ⟨b2, 0, none⟩)), (28, .bool false), (31, .bool ((filter_out f.Slack 0 409600)))] (fun w _ => filter_out_w f.Slack 0 409600 w) (by kernel_rfl) (by kernel_rfl) ?_
          generalize hr5 : filter_out f.Slack 0 409600 = r5
          refine TL.run 21 [] [(1, .pointer (some ⟨b1, 0, none⟩)), (3, .pointer (some ⟨b2, 0, none⟩)), (33, .bool r5)] rfl ⟨by kernel_rfl, by kernel_rfl⟩ ?_
          refine TL.join 33 r5 25 [] [0] (fun β => [(1, .pointer (some ⟨b1, 0, none⟩)), (3, .pointer (some ⟨b2, 0, none⟩)), (37, .bool (β || (decide (f.Track.ID < 0))))]) (by kernel_rfl) rfl ⟨by kernel_rfl, by kernel_rfl⟩ ⟨by kernel_rfl, by kernel_rfl⟩ ?_
          refine TL.run 26 [] [(1, .pointer (some ⟨b1, 0, none⟩)), (3, .pointer (some ⟨b2, 0, none⟩)), (38, .bool (r5 || (decide (f.Track.ID < 0))))] rfl ⟨by kernel_rfl, by kernel_rfl⟩ ?_
          refine TL.join 38 (r5 || (decide (f.Track.ID < 0))) 30 [] [0] (fun β => [(1, .pointer (some ⟨b1, 0, none⟩)), (3, .pointer (some ⟨b2, 0, none⟩)), (42, .bool (β || (decide (f.Track.Hits < 0))))]) (by kernel_rfl) rfl ⟨by kernel_rfl, by kernel_rfl⟩ ⟨by kernel_rfl, by kernel_rfl⟩ ?_
          refine TL.run 31 [] [(1, .pointer (some ⟨b1, 0, none⟩)), (3, .pointer (some ⟨b2, 0, none⟩)), (43, .bool ((r5 || (decide (f.Track.ID < 0))) || (decide (f.Track.Hits < 0))))] rfl ⟨by kernel_rfl, by kernel_rfl⟩ ?_
          refine TL.join 43 ((r5 || (decide (f.Track.ID < 0))) || (decide (f.Track.Hits < 0))) 35 [] [0] (fun β => [(1, .pointer (some ⟨b1, 0, none⟩)), (3, .pointer (some ⟨b2, 0, none⟩)), (47, .bool (β || (decide (f.Track.Misses < 0))))]) (by kernel_rfl) rfl ⟨by kernel_rfl, by kernel_rfl⟩ ⟨by kernel_rfl, by kernel_rfl⟩ ?_
          refine TL.next rfl ?_
          refine TC.cond (((r5 || (decide (f.Track.ID < 0))) || (decide (f.Track.Hits < 0))) || (decide (f.Track.Misses < 0))) rfl (by kernel_rfl) (fun h5 => ?_) (fun h5 => ?_)
          · refine TC.seq ?_
            refine TC.region ?_
            refine TL.run 1 [] [(2, .int .i64 4)] rfl ⟨by kernel_rfl, by kernel_rfl⟩ ?_
            refine TL.next rfl ?_
            refine TC.ret ?_
            refine TE.ret_then ?_
            have e : filter_Check f = 4 := by subst hr1 hr2 hr3 hr4 hr5; unfold filter_Check; exact cond_f h1 (cond_f h2 (cond_f h3 (cond_f h4 (cond_t h5 (rfl)))))
            exact TE.ret [] (.int .i64 4) ⟨by kernel_rfl, by kernel_rfl⟩ (by rw [e]; first | done | kernel_rfl)
          · refine TC.skip ?_
            refine TE.next ?_
            refine TC.seq ?_
            refine TC.seq ?_
            refine TC.region ?_
            refine TL.run 2 [0] [(1, .pointer (some ⟨b1, 0, none⟩)), (3, .pointer (some ⟨b2, 0, none⟩)), (49, .int .i64 f.Track.State)] rfl ⟨by kernel_rfl, by kernel_rfl⟩ ?_
            refine TL.call (some 50) [(1, .pointer (some ⟨b1, 0, none⟩)), (3, .pointer (some ⟨b2, 0, none⟩)), (50, .bool ((filter_out f.Track.State 0 2)))] (fun w _ => filter_out_w f.Track.State 0 2 w) (by kernel_rfl) (by kernel_rfl) ?_
            generalize hr6 : filter_out f.Track.State 0 2 = r6
            refine TL.next rfl ?_
            refine TC.cond r6 rfl (by kernel_rfl) (fun h6 => ?_) (fun h6 => ?_)
            · refine TC.seq ?_
              refine TC.region ?_
              refine TL.run 1 [] [(2, .int .i64 1)] rfl ⟨by kernel_rfl, by kernel_rfl⟩ ?_
              refine TL.next rfl ?_
              refine TC.ret ?_
              refine TE.ret_then ?_
              have e : filter_Check f = 1 := by subst hr1 hr2 hr3 hr4 hr5 hr6; unfold filter_Check; exact cond_f h1 (cond_f h2 (cond_f h3 (cond_f h4 (cond_f h5 (cond_t h6 (rfl))))))
              exact TE.ret [] (.int .i64 1) ⟨by kernel_rfl, by kernel_rfl⟩ (by rw [e]; first | done | kernel_rfl)
            · refine TC.skip ?_
              refine TE.next ?_
              refine TC.seq ?_
              refine TC.seq ?_
              refine TC.region ?_
              refine TL.run 2 [1] [(1, .pointer (some ⟨b1, 0, none⟩)), (3, .pointer (some ⟨b2, 0, none⟩)), (52, Spot.v f.Last)] rfl ⟨by kernel_rfl, by kernel_rfl⟩ ?_
              refine TL.call (some 53) [(1, .pointer (some ⟨b1, 0, none⟩)), (3, .pointer (some ⟨b2, 0, none⟩)), (53, .int .i64 (radar_CheckSpot f.Last))] (fun w _ => radar_CheckSpot_w f.Last w) (by kernel_rfl) (by kernel_rfl) ?_
              generalize hr7 : radar_CheckSpot f.Last = r7
              refine TL.run 4 [] [(1, .pointer (some ⟨b1, 0, none⟩)), (3, .pointer (some ⟨b2, 0, none⟩)), (5, .int .i64 r7)] rfl ⟨by kernel_rfl, by kernel_rfl⟩ ?_
              refine TL.next rfl ?_
              refine TC.seq ?_
              refine TC.region ?_
              refine TL.run 2 [] [(1, .pointer (some ⟨b1, 0, none⟩)), (3, .pointer (some ⟨b2, 0, none⟩)), (5, .int .i64 r7), (55, .bool (r7 != 0))] rfl ⟨by kernel_rfl, by kernel_rfl⟩ ?_
              refine TL.next rfl ?_
              refine TC.cond (r7 != 0) rfl (by kernel_rfl) (fun h7 => ?_) (fun h7 => ?_)
              · refine TC.seq ?_
                refine TC.region ?_
                refine TL.run 2 [] [(2, .int .i64 r7)] rfl ⟨by kernel_rfl, by kernel_rfl⟩ ?_
                refine TL.next rfl ?_
                refine TC.ret ?_
                refine TE.ret_then ?_
                have e : filter_Check f = r7 := by subst hr1 hr2 hr3 hr4 hr5 hr6 hr7; unfold filter_Check; exact cond_f h1 (cond_f h2 (cond_f h3 (cond_f h4 (cond_f h5 (cond_f h6 (cond_t h7 (rfl)))))))
                exact TE.ret [] (.int .i64 r7) ⟨by kernel_rfl, by kernel_rfl⟩ (by rw [e]; first | done | kernel_rfl)
              · refine TC.skip ?_
                refine TE.next ?_
                refine TC.seq ?_
                refine TC.seq ?_
                refine TC.region ?_
                refine TL.run 6 [1, 0] [(62, .bool (decide (f.Last.Time > f.Track.Time)))] rfl ⟨by kernel_rfl, by kernel_rfl⟩ ?_
                refine TL.next rfl ?_
                refine TC.cond (decide (f.Last.Time > f.Track.Time)) rfl (by kernel_rfl) (fun h8 => ?_) (fun h8 => ?_)
                · refine TC.seq ?_
                  refine TC.region ?_
                  refine TL.run 1 [] [(2, .int .i64 12)] rfl ⟨by kernel_rfl, by kernel_rfl⟩ ?_
                  refine TL.next rfl ?_
                  refine TC.ret ?_
                  refine TE.ret_then ?_
                  have e : filter_Check f = 12 := by subst hr1 hr2 hr3 hr4 hr5 hr6 hr7; unfold filter_Check; exact cond_f h1 (cond_f h2 (cond_f h3 (cond_f h4 (cond_f h5 (cond_f h6 (cond_f h7 (cond_t h8 (rfl))))))))
                  exact TE.ret [] (.int .i64 12) ⟨by kernel_rfl, by kernel_rfl⟩ (by rw [e]; first | done | kernel_rfl)
                · refine TC.skip ?_
                  refine TE.next ?_
                  refine TC.seq ?_
                  refine TC.region ?_
                  refine TL.run 1 [] [(2, .int .i64 0)] rfl ⟨by kernel_rfl, by kernel_rfl⟩ ?_
                  refine TL.next rfl ?_
                  refine TC.ret ?_
                  have e : filter_Check f = 0 := by subst hr1 hr2 hr3 hr4 hr5 hr6 hr7; unfold filter_Check; exact cond_f h1 (cond_f h2 (cond_f h3 (cond_f h4 (cond_f h5 (cond_f h6 (cond_f h7 (cond_f h8 (rfl))))))))
                  exact TE.ret [] (.int .i64 0) ⟨by kernel_rfl, by kernel_rfl⟩ (by rw [e]; first | done | kernel_rfl)

def fuse_wrong (band : Int) : Bool :=
  (decide (band < 0)) || (decide (band > 60000))

set_option maxRecDepth 100000 in
theorem fuse_wrong_w (band : Int) (w : World) : Calls Try.prog 64 #[.int .i64 band] w (Ret w (.bool (fuse_wrong band))) := by
  refine calls_intro (vs := [.int .i64 band]) (w := w) Try.func64 rfl Try.ntmps64 rfl ?_
  refine TC.weak [(0, .int .i64 band)] (by kernel_rfl) ?_
  refine TC.seq ?_
  refine TC.region ?_
  refine TL.run 1 [] [(0, .int .i64 band)] rfl ⟨by kernel_rfl, by kernel_rfl⟩ ?_
  refine TL.next rfl ?_
  refine TC.seq ?_
  refine TC.region ?_
  refine TL.run 3 [] [(0, .int .i64 band), (5, .bool (decide (band < 0)))] rfl ⟨by kernel_rfl, by kernel_rfl⟩ ?_
  refine TL.join 5 (decide (band < 0)) 6 [] [] (fun β => [(8, .bool (β || (decide (band > 60000))))]) (by kernel_rfl) rfl ⟨by kernel_rfl, by kernel_rfl⟩ ⟨by kernel_rfl, by kernel_rfl⟩ ?_
  refine TL.run 7 [] [(2, .bool ((decide (band < 0)) || (decide (band > 60000))))] rfl ⟨by kernel_rfl, by kernel_rfl⟩ ?_
  refine TL.next rfl ?_
  refine TC.ret ?_
  have e : fuse_wrong band = ((decide (band < 0)) || (decide (band > 60000))) := by unfold fuse_wrong; exact rfl
  exact TE.ret [] (.bool ((decide (band < 0)) || (decide (band > 60000)))) ⟨by kernel_rfl, by kernel_rfl⟩ (by rw [e]; first | done | kernel_rfl)

def cmp_isNaN_int (x : Int) : Bool :=
  x != x

set_option maxRecDepth 100000 in
theorem cmp_isNaN_int_w (x : Int) (w : World) : Calls Try.prog 91 #[.int .i64 x] w (Ret w (.bool (cmp_isNaN_int x))) := by
  refine calls_intro (vs := [.int .i64 x]) (w := w) Try.func91 rfl Try.ntmps91 rfl ?_
  refine TC.weak [(0, .int .i64 x)] (by kernel_rfl) ?_
  refine TC.seq ?_
  refine TC.region ?_
  refine TL.run 1 [] [(0, .int .i64 x)] rfl ⟨by kernel_rfl, by kernel_rfl⟩ ?_
  refine TL.next rfl ?_
  refine TC.seq ?_
  refine TC.region ?_
  refine TL.run 4 [] [(2, .bool (x != x))] rfl ⟨by kernel_rfl, by kernel_rfl⟩ ?_
  refine TL.next rfl ?_
  refine TC.ret ?_
  have e : cmp_isNaN_int x = (x != x) := by unfold cmp_isNaN_int; exact rfl
  exact TE.ret [] (.bool (x != x)) ⟨by kernel_rfl, by kernel_rfl⟩ (by rw [e]; first | done | kernel_rfl)

def cmp_Compare_int (x : Int) (y : Int) : Int :=
  let r1 := cmp_isNaN_int x
  let r2 := cmp_isNaN_int y
  cond r1 (
    cond r2 (
      0) (
      (-1))) (
    cond r2 (
      1) (
      cond (decide (x < y)) (
        (-1)) (
        cond (decide (x > y)) (
          1) (
          0))))

set_option maxRecDepth 100000 in
theorem cmp_Compare_int_w (x : Int) (y : Int) (w : World) : Calls Try.prog 67 #[.int .i64 x, .int .i64 y] w (Ret w (.int .i64 (cmp_Compare_int x y))) := by
  refine calls_intro (vs := [.int .i64 x, .int .i64 y]) (w := w) Try.func67 rfl Try.ntmps67 rfl ?_
  refine TC.weak [(0, .int .i64 x), (1, .int .i64 y)] (by kernel_rfl) ?_
  refine TC.seq ?_
  refine TC.region ?_
  refine TL.run 1 [] [(0, .int .i64 x), (1, .int .i64 y)] rfl ⟨by kernel_rfl, by kernel_rfl⟩ ?_
  refine TL.next rfl ?_
  refine TC.seq ?_
  refine TC.region ?_
  refine TL.run 1 [] [(0, .int .i64 x), (1, .int .i64 y), (7, .int .i64 x)] rfl ⟨by kernel_rfl, by kernel_rfl⟩ ?_
  refine TL.call (some 8) [(0, .int .i64 x), (1, .int .i64 y), (8, .bool ((cmp_isNaN_int x)))] (fun w _ => cmp_isNaN_int_w x w) (by kernel_rfl) (by kernel_rfl) ?_
  generalize hr1 : cmp_isNaN_int x = r1
  refine TL.run 3 [] [(0, .int .i64 x), (1, .int .i64 y), (5, .bool r1)] rfl ⟨by kernel_rfl, by kernel_rfl⟩ ?_
  refine TL.next rfl ?_
  refine TC.seq ?_
  refine TC.region ?_
  refine TL.run 1 [] [(0, .int .i64 x), (1, .int .i64 y), (5, .bool r1), (9, .int .i64 y)] rfl ⟨by kernel_rfl, by kernel_rfl⟩ ?_
  refine TL.call (some 10) [(0, .int .i64 x), (1, .int .i64 y), (5, .bool r1), (10, .bool ((cmp_isNaN_int y)))] (fun w _ => cmp_isNaN_int_w y w) (by kernel_rfl) (by kernel_rfl) ?_
  generalize hr2 : cmp_isNaN_int y = r2
  refine TL.run 3 [] [(0, .int .i64 x), (1, .int .i64 y), (5, .bool r1), (6, .bool r2)] rfl ⟨by kernel_rfl, by kernel_rfl⟩ ?_
  refine TL.next rfl ?_
  refine TC.seq ?_
  refine TC.seq ?_
  refine TC.region ?_
  refine TL.run 1 [] [(0, .int .i64 x), (1, .int .i64 y), (6, .bool r2), (11, .bool r1)] rfl ⟨by kernel_rfl, by kernel_rfl⟩ ?_
  refine TL.next rfl ?_
  refine TC.cond r1 rfl (by kernel_rfl) (fun h1 => ?_) (fun h1 => ?_)
  · refine TC.seq ?_
    refine TC.seq ?_
    refine TC.region ?_
    refine TL.run 1 [] [(12, .bool r2)] rfl ⟨by kernel_rfl, by kernel_rfl⟩ ?_
    refine TL.next rfl ?_
    refine TC.cond r2 rfl (by kernel_rfl) (fun h2 => ?_) (fun h2 => ?_)
    · refine TC.seq ?_
      refine TC.region ?_
      refine TL.run 1 [] [(4, .int .i64 0)] rfl ⟨by kernel_rfl, by kernel_rfl⟩ ?_
      refine TL.next rfl ?_
      refine TC.ret ?_
      refine TE.ret_then (TE.ret_then ?_)
      have e : cmp_Compare_int x y = 0 := by subst hr1 hr2; unfold cmp_Compare_int; exact cond_t h1 (cond_t h2 (rfl))
      exact TE.ret [] (.int .i64 0) ⟨by kernel_rfl, by kernel_rfl⟩ (by rw [e]; first | done | kernel_rfl)
    · refine TC.skip ?_
      refine TE.next ?_
      refine TC.seq ?_
      refine TC.region ?_
      refine TL.run 1 [] [(4, .int .i64 (-1))] rfl ⟨by kernel_rfl, by kernel_rfl⟩ ?_
      refine TL.next rfl ?_
      refine TC.ret ?_
      refine TE.ret_then ?_
      have e : cmp_Compare_int x y = (-1) := by subst hr1 hr2; unfold cmp_Compare_int; exact cond_t h1 (cond_f h2 (rfl))
      exact TE.ret [] (.int .i64 (-1)) ⟨by kernel_rfl, by kernel_rfl⟩ (by rw [e]; first | done | kernel_rfl)
  · refine TC.skip ?_
    refine TE.next ?_
    refine TC.seq ?_
    refine TC.seq ?_
    refine TC.region ?_
    refine TL.run 1 [] [(0, .int .i64 x), (1, .int .i64 y), (13, .bool r2)] rfl ⟨by kernel_rfl, by kernel_rfl⟩ ?_
    refine TL.next rfl ?_
    refine TC.cond r2 rfl (by kernel_rfl) (fun h3 => ?_) (fun h3 => ?_)
    · refine TC.seq ?_
      refine TC.region ?_
      refine TL.run 1 [] [(4, .int .i64 1)] rfl ⟨by kernel_rfl, by kernel_rfl⟩ ?_
      refine TL.next rfl ?_
      refine TC.ret ?_
      refine TE.ret_then ?_
      have e : cmp_Compare_int x y = 1 := by subst hr1 hr2; unfold cmp_Compare_int; exact cond_f h1 (cond_t h3 (rfl))
      exact TE.ret [] (.int .i64 1) ⟨by kernel_rfl, by kernel_rfl⟩ (by rw [e]; first | done | kernel_rfl)
    · refine TC.skip ?_
      refine TE.next ?_
      refine TC.seq ?_
      refine TC.seq ?_
      refine TC.region ?_
      refine TL.run 3 [] [(0, .int .i64 x), (1, .int .i64 y), (16, .bool (decide (x < y)))] rfl ⟨by kernel_rfl, by kernel_rfl⟩ ?_
      refine TL.next rfl ?_
      refine TC.cond (decide (x < y)) rfl (by kernel_rfl) (fun h4 => ?_) (fun h4 => ?_)
      · refine TC.seq ?_
        refine TC.region ?_
        refine TL.run 1 [] [(4, .int .i64 (-1))] rfl ⟨by kernel_rfl, by kernel_rfl⟩ ?_
        refine TL.next rfl ?_
        refine TC.ret ?_
        refine TE.ret_then ?_
        have e : cmp_Compare_int x y = (-1) := by subst hr1 hr2; unfold cmp_Compare_int; exact cond_f h1 (cond_f h3 (cond_t h4 (rfl)))
        exact TE.ret [] (.int .i64 (-1)) ⟨by kernel_rfl, by kernel_rfl⟩ (by rw [e]; first | done | kernel_rfl)
      · refine TC.skip ?_
        refine TE.next ?_
        refine TC.seq ?_
        refine TC.seq ?_
        refine TC.region ?_
        refine TL.run 3 [] [(19, .bool (decide (x > y)))] rfl ⟨by kernel_rfl, by kernel_rfl⟩ ?_
        refine TL.next rfl ?_
        refine TC.cond (decide (x > y)) rfl (by kernel_rfl) (fun h5 => ?_) (fun h5 => ?_)
        · refine TC.seq ?_
          refine TC.region ?_
          refine TL.run 1 [] [(4, .int .i64 1)] rfl ⟨by kernel_rfl, by kernel_rfl⟩ ?_
          refine TL.next rfl ?_
          refine TC.ret ?_
          refine TE.ret_then ?_
          have e : cmp_Compare_int x y = 1 := by subst hr1 hr2; unfold cmp_Compare_int; exact cond_f h1 (cond_f h3 (cond_f h4 (cond_t h5 (rfl))))
          exact TE.ret [] (.int .i64 1) ⟨by kernel_rfl, by kernel_rfl⟩ (by rw [e]; first | done | kernel_rfl)
        · refine TC.skip ?_
          refine TE.next ?_
          refine TC.seq ?_
          refine TC.region ?_
          refine TL.run 1 [] [(4, .int .i64 0)] rfl ⟨by kernel_rfl, by kernel_rfl⟩ ?_
          refine TL.next rfl ?_
          refine TC.ret ?_
          have e : cmp_Compare_int x y = 0 := by subst hr1 hr2; unfold cmp_Compare_int; exact cond_f h1 (cond_f h3 (cond_f h4 (cond_f h5 (rfl))))
          exact TE.ret [] (.int .i64 0) ⟨by kernel_rfl, by kernel_rfl⟩ (by rw [e]; first | done | kernel_rfl)

def cmp_Or_int_L1 : List Int → Nat → ((Unit) ⊕ (Int))
  | [], _ => .inl ()
  | x :: xs, k => cond (x != 0) (
      .inr x) (
      cmp_Or_int_L1 xs (k + 1))
def cmp_Or_int (vals : List Int) : Int :=
  Sum.elim (fun _ =>
    0) (fun r => r) (cmp_Or_int_L1 vals 0)

set_option maxRecDepth 100000 in
theorem cmp_Or_int_w (A_vals : Option Addr) (c_vals : Nat) (vals : List Int) (w : World) (h_vals : Rd w 1 A_vals (vals.map ic)) (_hc_vals : vals.length ≤ c_vals) : Calls Try.prog 66 #[.slice A_vals vals.length c_vals] w (Ret w (.int .i64 (cmp_Or_int vals))) := by
  have s_vals := h_vals.short; rw [List.length_map] at s_vals
  refine calls_intro (vs := [.slice A_vals vals.length c_vals]) (w := w) Try.func66 rfl Try.ntmps66 rfl ?_
  refine TC.weak [(0, .slice A_vals vals.length c_vals)] (by kernel_rfl) ?_
  refine TC.seq ?_
  refine TC.region ?_
  refine TL.run 1 [] [(0, .slice A_vals vals.length c_vals)] rfl ⟨by kernel_rfl, by kernel_rfl⟩ ?_
  refine TL.next rfl ?_
  refine TC.seq ?_
  refine TC.region ?_
  refine TL.run 1 [] [(0, .slice A_vals vals.length c_vals), (3, .int .i64 0)] rfl ⟨by kernel_rfl, by kernel_rfl⟩ ?_
  refine TL.next rfl ?_
  refine TC.seq ?_
  refine TC.seq ?_
  refine TC.region ?_
  refine TL.run 3 [] [(3, .int .i64 0), (6, .slice A_vals vals.length c_vals), (7, .int .i64 (vals.length : Int)), (8, .int .i64 0)] rfl ⟨by kernel_rfl, by kernel_rfl⟩ ?_
  refine TL.next rfl ?_
  refine TC.weak [(3, .int .i64 0), (6, .slice A_vals vals.length c_vals), (7, .int .i64 (vals.length : Int)), (8, .int .i64 0)] (by kernel_rfl) ?_
  obtain ⟨R1, hR⟩ : ∃ R, R = cmp_Or_int_L1 vals 0 := ⟨_, rfl⟩
  refine TC.cut (S := Unit) (fun (_ : Unit) => [(3, .int .i64 0)]) (fun (_ : Unit) => []) (fun (_ : Unit) => R1 = .inl ()) ?_ ?_
  · refine TC.block ?_
    refine TC.loop (X := Nat) (fun k => [(3, .int .i64 0), (6, .slice A_vals vals.length c_vals), (7, .int .i64 (vals.length : Int)), (8, .int .i64 (k : Int))]) (fun k => []) (fun k => vals.length - k) (fun k => k ≤ vals.length ∧ R1 = cmp_Or_int_L1 (vals.drop k) k) ?_ 0 ⟨Nat.zero_le _, hR⟩
    rintro k ⟨hk, hI⟩
    refine TC.seq ?_
    refine TC.region ?_
    refine TL.run 1 [] [(3, .int .i64 0), (6, .slice A_vals vals.length c_vals), (7, .int .i64 (vals.length : Int)), (8, .int .i64 (k : Int)), (9, .bool (decide ((k : Int) < (vals.length : Int))))] rfl ⟨by kernel_rfl, by kernel_rfl⟩ ?_
    refine TL.next rfl ?_
    refine TC.seq ?_
    refine TC.cond (decide ((k : Int) < (vals.length : Int))) rfl (by kernel_rfl) (fun h1 => ?_) (fun h1 => ?_)
    · have hlt : k < vals.length := by have := of_decide_eq_true h1; first | omega | (simp at this; omega)
      obtain ⟨x, hx⟩ : ∃ e_, vals[k]? = some e_ := ⟨_, List.getElem?_eq_getElem hlt⟩
      have hd := drop_at hx
      refine TC.skip ?_
      refine TE.next ?_
      refine TC.seq ?_
      refine TC.block ?_
      refine TC.seq ?_
      refine TC.region ?_
      refine TL.val (sV (Instr.indexAt 62 (.slice A_vals vals.length c_vals) (.int .i64 (k : Int)))) (some 10) (.pointer (some ((A_vals.getD noAddr).add (k * 1)))) [(3, .int .i64 0), (6, .slice A_vals vals.length c_vals), (7, .int .i64 (vals.length : Int)), (8, .int .i64 (k : Int)), (10, .pointer (some ((A_vals.getD noAddr).add (k * 1))))] (fun w hM => run_index (h_vals.sat hM) (by simp) (by kernel_rfl) (by first | omega | (rw [List.length_set]; omega) | (dsimp only; omega) | (rw [List.length_drop]; omega) | (simp only [w64_eq]; omega) | exact (tm_in (by (first | (rw [w64_id (by omega)]; omega) | (simp only [w64_eq]; omega))) (by omega)).1 | exact (tm_in (by (first | (rw [w64_id (by omega)]; omega) | (simp only [w64_eq]; omega))) (by omega)).2.1 | exact (tm_in (by (first | (rw [w64_id (by omega)]; omega) | (simp only [w64_eq]; omega))) (by omega)).2.2 | (simp only [List.length_take] at *; omega) | (simp <;> omega)) (by first | omega | (rw [List.length_set]; omega) | (dsimp only; omega) | (rw [List.length_drop]; omega) | (simp only [w64_eq]; omega) | exact (tm_in (by (first | (rw [w64_id (by omega)]; omega) | (simp only [w64_eq]; omega))) (by omega)).1 | exact (tm_in (by (first | (rw [w64_id (by omega)]; omega) | (simp only [w64_eq]; omega))) (by omega)).2.1 | exact (tm_in (by (first | (rw [w64_id (by omega)]; omega) | (simp only [w64_eq]; omega))) (by omega)).2.2 | (simp only [List.length_take] at *; omega) | (simp <;> omega))) (by kernel_rfl) (by kernel_rfl) ?_
      refine TL.val (sV (Instr.loadAt 3 (.pointer (some ((A_vals.getD noAddr).add (k * 1)))))) (some 11) (.int .i64 x) [(3, .int .i64 0), (6, .slice A_vals vals.length c_vals), (7, .int .i64 (vals.length : Int)), (8, .int .i64 (k : Int)), (11, .int .i64 x)] (fun w hM => run_load_one (off := 0) (i := k) (.int .i64 x) (h_vals.sat hM) (map_at hx) (by kernel_rfl) (by kernel_rfl)) (by kernel_rfl) (by kernel_rfl) ?_
      refine TL.run 3 [] [(3, .int .i64 0), (5, .int .i64 x), (6, .slice A_vals vals.length c_vals), (7, .int .i64 (vals.length : Int)), (8, .int .i64 (k : Int))] rfl ⟨by kernel_rfl, by kernel_rfl⟩ ?_
      refine TL.next rfl ?_
      refine TC.seq ?_
      refine TC.region ?_
      refine TL.run 3 [] [(3, .int .i64 0), (5, .int .i64 x), (6, .slice A_vals vals.length c_vals), (7, .int .i64 (vals.length : Int)), (8, .int .i64 (k : Int)), (14, .bool (x != 0))] rfl ⟨by kernel_rfl, by kernel_rfl⟩ ?_
      refine TL.next rfl ?_
      refine TC.cond (x != 0) rfl (by kernel_rfl) (fun h2 => ?_) (fun h2 => ?_)
      · refine TC.seq ?_
        refine TC.region ?_
        refine TL.run 2 [] [(2, .int .i64 x)] rfl ⟨by kernel_rfl, by kernel_rfl⟩ ?_
        refine TL.next rfl ?_
        refine TC.ret ?_
        refine TE.ret_block (TE.ret_then (TE.ret_then (TE.ret_block (TE.ret_then (TE.ret_then ?_)))))
        have e : cmp_Or_int vals = x := by unfold cmp_Or_int; exact elim_r (hR.symm.trans (hI.trans (by rw [hd]; exact cond_t h2 (rfl)))) rfl
        exact TE.ret [] (.int .i64 x) ⟨by kernel_rfl, by kernel_rfl⟩ (by rw [e]; first | done | kernel_rfl)
      · refine TC.skip ?_
        refine TE.normal_block ?_
        refine TE.next ?_
        refine TC.region ?_
        refine TL.run 2 [] [(3, .int .i64 0), (6, .slice A_vals vals.length c_vals), (7, .int .i64 (vals.length : Int)), (8, .int .i64 (w64 ((k : Int) + 1)))] rfl ⟨by kernel_rfl, by kernel_rfl⟩ ?_
        refine TL.done rfl ?_
        refine TE.rw 8 (.int .i64 (w64 ((k : Int) + 1))) (.int .i64 ((k + 1 : Nat) : Int)) (by kernel_rfl) (w64_cast k (by omega)) ?_
        exact TE.again (x := k) (k + 1) ⟨by omega, hI.trans (by rw [hd]; exact cond_f h2 (rfl))⟩ (by show vals.length - (k + 1) < vals.length - k; omega) (by kernel_rfl) (.slnil)
    · have hd : vals.drop k = [] := List.drop_eq_nil_of_le (by have := of_decide_eq_false h1; first | omega | (simp at this; omega))
      refine TC.exit ?_
      refine TE.exit_then (TE.exit_then (TE.exit_same ?_))
      exact TE.cut () (hI.trans (by rw [hd]; exact rfl)) (by kernel_rfl) (.slnil)
  · intro _ hJ
    refine TE.next ?_
    refine TC.seq ?_
    refine TC.region ?_
    refine TL.run 2 [] [(2, .int .i64 0)] rfl ⟨by kernel_rfl, by kernel_rfl⟩ ?_
    refine TL.next rfl ?_
    refine TC.ret ?_
    have e : cmp_Or_int vals = 0 := by unfold cmp_Or_int; exact elim_l (hR.symm.trans hJ) (rfl)
    exact TE.ret [] (.int .i64 0) ⟨by kernel_rfl, by kernel_rfl⟩ (by rw [e]; first | done | kernel_rfl)

def fuse_near (a : Int) (b_ : Int) (band : Int) : Bool :=
  decide ((imax (w64 (a - b_)) (w64 (b_ - a))) ≤ band)

set_option maxRecDepth 100000 in
theorem fuse_near_w (a : Int) (b_ : Int) (band : Int) (w : World) : Calls Try.prog 92 #[.int .i64 a, .int .i64 b_, .int .i64 band] w (Ret w (.bool (fuse_near a b_ band))) := by
  refine calls_intro (vs := [.int .i64 a, .int .i64 b_, .int .i64 band]) (w := w) Try.func92 rfl Try.ntmps92 rfl ?_
  refine TC.weak [(0, .int .i64 a), (1, .int .i64 b_), (2, .int .i64 band)] (by kernel_rfl) ?_
  refine TC.seq ?_
  refine TC.region ?_
  refine TL.run 1 [] [(0, .int .i64 a), (1, .int .i64 b_), (2, .int .i64 band)] rfl ⟨by kernel_rfl, by kernel_rfl⟩ ?_
  refine TL.next rfl ?_
  refine TC.seq ?_
  refine TC.region ?_
  refine TL.run 10 [] [(6, .bool (decide ((imax (w64 (a - b_)) (w64 (b_ - a))) ≤ band)))] rfl ⟨by kernel_rfl, by kernel_rfl⟩ ?_
  refine TL.next rfl ?_
  refine TC.ret ?_
  have e : fuse_near a b_ band = (decide ((imax (w64 (a - b_)) (w64 (b_ - a))) ≤ band)) := by unfold fuse_near; exact rfl
  exact TE.ret [] (.bool (decide ((imax (w64 (a - b_)) (w64 (b_ - a))) ≤ band))) ⟨by kernel_rfl, by kernel_rfl⟩ (by rw [e]; first | done | kernel_rfl)

def fuse_same (a : FilterTrack) (b_ : FilterTrack) (band : Int) : Bool :=
  cond (a.Track.Time == b_.Track.Time) (
    let r1 := plane_Within a.Track.At b_.Track.At (w64 (a.Track.Radius + b_.Track.Radius))
    cond r1 (
      let r2 := fuse_near a.Track.Height b_.Track.Height band
      cond r2 (
        cond (a.Track.Code == b_.Track.Code) (
          true) (
          cond (a.Track.Code == (-1)) (
            true) (
            b_.Track.Code == (-1)))) (
        false)) (
      false)) (
    false)

set_option maxRecDepth 100000 in
theorem fuse_same_w (a : FilterTrack) (b_ : FilterTrack) (band : Int) (w : World) : Calls Try.prog 68 #[FilterTrack.v a, FilterTrack.v b_, .int .i64 band] w (Ret w (.bool (fuse_same a b_ band))) := by
  refine calls_intro (vs := [FilterTrack.v a, FilterTrack.v b_, .int .i64 band]) (w := w) Try.func68 rfl Try.ntmps68 rfl ?_
  refine TC.weak [(0, FilterTrack.v a), (1, FilterTrack.v b_), (2, .int .i64 band)] (by kernel_rfl) ?_
  refine TC.seq ?_
  refine TC.region ?_
  refine TL.write 0 (fun b1 => [(1, FilterTrack.v b_), (2, .int .i64 band), (3, .pointer (some ⟨b1, 0, none⟩))]) (fun b1 => [.inl (b1, .cells (FilterTrack.c a) 29 (0, 0))]) (fun b1 => ⟨by kernel_rfl, by kernel_rfl⟩) (fun b1 => ?_)
  refine TL.write 0 (fun b2 => [(2, .int .i64 band), (3, .pointer (some ⟨b1, 0, none⟩)), (4, .pointer (some ⟨b2, 0, none⟩))]) (fun b2 => [.inl (b2, .cells (FilterTrack.c b_) 29 (0, 0)), .inl (b1, .cells (FilterTrack.c a) 29 (0, 0))]) (fun b2 => ⟨by kernel_rfl, by kernel_rfl⟩) (fun b2 => ?_)
  refine TL.run 3 [] [(2, .int .i64 band), (3, .pointer (some ⟨b1, 0, none⟩)), (4, .pointer (some ⟨b2, 0, none⟩))] rfl ⟨by kernel_rfl, by kernel_rfl⟩ ?_
  refine TL.next rfl ?_
  refine TC.seq ?_
  refine TC.plan (G := Nat × Nat) (base := [(2, .int .i64 band), (3, .pointer (some ⟨b1, 0, none⟩)), (4, .pointer (some ⟨b2, 0, none⟩))]) (vals := fun γ => [.pointer (some ⟨b1, 0, none⟩), Track.v a.Track, .pointer (some ⟨b2, 0, none⟩), Track.v b_.Track, .pointer (some ⟨γ.1, 0, none⟩), .pointer (some ⟨γ.2, 0, none⟩), undef, undef]) (writes := [4, 5, 6, 7]) (mem := fun bs γ => match bs with | [x4_, x5_, x6_, x7_] => (bif x6_ then [.inl (γ.1, .cells (Track.c a.Track) 25 (0, 0))] else bif x4_ then [.inl (γ.1, .cells (Track.c Track.zero) 25 (0, 0))] else []) ++ ((bif x7_ then [.inl (γ.2, .cells (Track.c b_.Track) 25 (0, 0))] else bif x5_ then [.inl (γ.2, .cells (Track.c Track.zero) 25 (0, 0))] else []) ++ ([.inl (b2, .cells (FilterTrack.c b_) 29 (0, 0)), .inl (b1, .cells (FilterTrack.c a) 29 (0, 0))])) | _ => []) (0, 0) (fun γ => [(2, .int .i64 band), (7, .pointer (some ⟨γ.1, 0, none⟩)), (8, .pointer (some ⟨γ.2, 0, none⟩))]) (by kernel_rfl) (by kernel_rfl) (by kernel_rfl) (by kernel_rfl) (by kernel_rfl) (fun γ => by kernel_rfl) (fun _ hM => hM) (fun γ => by kernel_rfl) ?_ ?_
  · skip
    refine Steps.run (i := 0) 4 [0, 1, 0, 0] [.inl (b2, .cells (FilterTrack.c b_) 29 (0, 0)), .inl (b1, .cells (FilterTrack.c a) 29 (0, 0))] (by kernel_rfl) (by kernel_rfl) (fun S (γ : Nat × Nat) w hM => by change Sat _ ((bif S 6 then [.inl (γ.1, .cells (Track.c a.Track) 25 (0, 0))] else bif S 4 then [.inl (γ.1, .cells (Track.c Track.zero) 25 (0, 0))] else []) ++ ((bif S 7 then [.inl (γ.2, .cells (Track.c b_.Track) 25 (0, 0))] else bif S 5 then [.inl (γ.2, .cells (Track.c Track.zero) 25 (0, 0))] else []) ++ ([.inl (b2, .cells (FilterTrack.c b_) 29 (0, 0)), .inl (b1, .cells (FilterTrack.c a) 29 (0, 0))]))) w at hM; exact hM.sub (sub_skip (sub_skip (List.Sublist.refl _)))) (by kernel_rfl) (fun (γ : Nat × Nat) => ⟨by kernel_rfl, by kernel_rfl⟩) ?_
    refine Steps.op (i := 4) (Γ := Nat) (fun g (γ : Nat × Nat) => (g, γ.2)) (fun _ => []) (fun b (γ : Nat × Nat) => [.inl (b, .cells (Track.c Track.zero) 25 (0, 0))]) (fun S (γ : Nat × Nat) => (bif S 7 then [.inl (γ.2, .cells (Track.c b_.Track) 25 (0, 0))] else bif S 5 then [.inl (γ.2, .cells (Track.c Track.zero) 25 (0, 0))] else []) ++ ([.inl (b2, .cells (FilterTrack.c b_) 29 (0, 0)), .inl (b1, .cells (FilterTrack.c a) 29 (0, 0))])) [4, 6, 7] (fun (γ : Nat × Nat) => sV (Instr.alloc 25 true (.tuple #[]))) (some 7) (fun b (γ : Nat × Nat) => .pointer (some ⟨b, 0, none⟩)) (fun S (γ : Nat × Nat) hj hd hl => by change List.Perm (((bif S 6 then [.inl (γ.1, .cells (Track.c a.Track) 25 (0, 0))] else bif S 4 then [.inl (γ.1, .cells (Track.c Track.zero) 25 (0, 0))] else []) ++ ((bif S 7 then [.inl (γ.2, .cells (Track.c b_.Track) 25 (0, 0))] else bif S 5 then [.inl (γ.2, .cells (Track.c Track.zero) 25 (0, 0))] else []) ++ ([.inl (b2, .cells (FilterTrack.c b_) 29 (0, 0)), .inl (b1, .cells (FilterTrack.c a) 29 (0, 0))]))) : Mem) _; rw [hj, hl 6 (by kernel_rfl)]; exact List.Perm.refl _) (fun S (γ : Nat × Nat) g hl => by change List.Perm ([.inl (g, .cells (Track.c Track.zero) 25 (0, 0))] ++ ((bif S 7 then [.inl (γ.2, .cells (Track.c b_.Track) 25 (0, 0))] else bif S 5 then [.inl (γ.2, .cells (Track.c Track.zero) 25 (0, 0))] else []) ++ ([.inl (b2, .cells (FilterTrack.c b_) 29 (0, 0)), .inl (b1, .cells (FilterTrack.c a) 29 (0, 0))]))) (((bif S 6 then [.inl (g, .cells (Track.c a.Track) 25 (0, 0))] else bif true then [.inl (g, .cells (Track.c Track.zero) 25 (0, 0))] else []) ++ ((bif S 7 then [.inl (γ.2, .cells (Track.c b_.Track) 25 (0, 0))] else bif S 5 then [.inl (γ.2, .cells (Track.c Track.zero) 25 (0, 0))] else []) ++ ([.inl (b2, .cells (FilterTrack.c b_) 29 (0, 0)), .inl (b1, .cells (FilterTrack.c a) 29 (0, 0))]))) : Mem); rw [hl 6 (by kernel_rfl)]; exact (List.Perm.refl _).symm) (fun (γ : Nat × Nat) M' w hM => run_new (v := fun b => .pointer (some ⟨b, 0, none⟩)) (fun b M => by kernel_rfl) M' w hM) (fun (γ : Nat × Nat) => by kernel_rfl) (fun (γ : Nat × Nat) g => by kernel_rfl) (by kernel_rfl) (fun (γ : Nat × Nat) g => by kernel_rfl) ?_
    refine Steps.op (i := 5) (Γ := Nat) (fun g (γ : Nat × Nat) => (γ.1, g)) (fun _ => []) (fun b (γ : Nat × Nat) => [.inl (b, .cells (Track.c Track.zero) 25 (0, 0))]) (fun S (γ : Nat × Nat) => (bif S 6 then [.inl (γ.1, .cells (Track.c a.Track) 25 (0, 0))] else bif S 4 then [.inl (γ.1, .cells (Track.c Track.zero) 25 (0, 0))] else []) ++ ([.inl (b2, .cells (FilterTrack.c b_) 29 (0, 0)), .inl (b1, .cells (FilterTrack.c a) 29 (0, 0))])) [5, 6, 7] (fun (γ : Nat × Nat) => sV (Instr.alloc 25 true (.tuple #[]))) (some 8) (fun b (γ : Nat × Nat) => .pointer (some ⟨b, 0, none⟩)) (fun S (γ : Nat × Nat) hj hd hl => by change List.Perm (((bif S 6 then [.inl (γ.1, .cells (Track.c a.Track) 25 (0, 0))] else bif S 4 then [.inl (γ.1, .cells (Track.c Track.zero) 25 (0, 0))] else []) ++ ((bif S 7 then [.inl (γ.2, .cells (Track.c b_.Track) 25 (0, 0))] else bif S 5 then [.inl (γ.2, .cells (Track.c Track.zero) 25 (0, 0))] else []) ++ ([.inl (b2, .cells (FilterTrack.c b_) 29 (0, 0)), .inl (b1, .cells (FilterTrack.c a) 29 (0, 0))]))) : Mem) _; rw [hj, hl 7 (by kernel_rfl)]; exact (List.Perm.append_left _ (List.Perm.refl _)).trans (perm_mid _ _ _)) (fun S (γ : Nat × Nat) g hl => by change List.Perm ([.inl (g, .cells (Track.c Track.zero) 25 (0, 0))] ++ ((bif S 6 then [.inl (γ.1, .cells (Track.c a.Track) 25 (0, 0))] else bif S 4 then [.inl (γ.1, .cells (Track.c Track.zero) 25 (0, 0))] else []) ++ ([.inl (b2, .cells (FilterTrack.c b_) 29 (0, 0)), .inl (b1, .cells (FilterTrack.c a) 29 (0, 0))]))) (((bif S 6 then [.inl (γ.1, .cells (Track.c a.Track) 25 (0, 0))] else bif S 4 then [.inl (γ.1, .cells (Track.c Track.zero) 25 (0, 0))] else []) ++ ((bif S 7 then [.inl (g, .cells (Track.c b_.Track) 25 (0, 0))] else bif true then [.inl (g, .cells (Track.c Track.zero) 25 (0, 0))] else []) ++ ([.inl (b2, .cells (FilterTrack.c b_) 29 (0, 0)), .inl (b1, .cells (FilterTrack.c a) 29 (0, 0))]))) : Mem); rw [hl 7 (by kernel_rfl)]; exact ((List.Perm.append_left _ (List.Perm.refl _)).trans (perm_mid _ _ _)).symm) (fun (γ : Nat × Nat) M' w hM => run_new (v := fun b => .pointer (some ⟨b, 0, none⟩)) (fun b M => by kernel_rfl) M' w hM) (fun (γ : Nat × Nat) => by kernel_rfl) (fun (γ : Nat × Nat) g => by kernel_rfl) (by kernel_rfl) (fun (γ : Nat × Nat) g => by kernel_rfl) ?_
    refine Steps.put (i := 6) (fun (γ : Nat × Nat) => [.inl (γ.1, .cells (Track.c Track.zero) 25 (0, 0))]) (fun (γ : Nat × Nat) => [.inl (γ.1, .cells (Track.c a.Track) 25 (0, 0))]) (fun S (γ : Nat × Nat) => (bif S 7 then [.inl (γ.2, .cells (Track.c b_.Track) 25 (0, 0))] else bif S 5 then [.inl (γ.2, .cells (Track.c Track.zero) 25 (0, 0))] else []) ++ ([.inl (b2, .cells (FilterTrack.c b_) 29 (0, 0)), .inl (b1, .cells (FilterTrack.c a) 29 (0, 0))])) (fun (γ : Nat × Nat) => sU (Instr.storeAt 25 (.pointer (some ⟨γ.1, 0, none⟩)) (Track.v a.Track))) none (fun S (γ : Nat × Nat) hj hd hl => by change List.Perm (((bif S 6 then [.inl (γ.1, .cells (Track.c a.Track) 25 (0, 0))] else bif S 4 then [.inl (γ.1, .cells (Track.c Track.zero) 25 (0, 0))] else []) ++ ((bif S 7 then [.inl (γ.2, .cells (Track.c b_.Track) 25 (0, 0))] else bif S 5 then [.inl (γ.2, .cells (Track.c Track.zero) 25 (0, 0))] else []) ++ ([.inl (b2, .cells (FilterTrack.c b_) 29 (0, 0)), .inl (b1, .cells (FilterTrack.c a) 29 (0, 0))]))) : Mem) _; rw [hj, hd 4 (by kernel_rfl)]; exact List.Perm.refl _) (fun S (γ : Nat × Nat) _ => (List.Perm.refl _).symm) (fun (γ : Nat × Nat) M' w hM => run_put (fun b M => by kernel_rfl) (fun b M => by kernel_rfl) M' w hM) (fun (γ : Nat × Nat) => by kernel_rfl) (fun (γ : Nat × Nat) => by kernel_rfl) ?_
    refine Steps.put (i := 7) (fun (γ : Nat × Nat) => [.inl (γ.2, .cells (Track.c Track.zero) 25 (0, 0))]) (fun (γ : Nat × Nat) => [.inl (γ.2, .cells (Track.c b_.Track) 25 (0, 0))]) (fun S (γ : Nat × Nat) => (bif S 6 then [.inl (γ.1, .cells (Track.c a.Track) 25 (0, 0))] else bif S 4 then [.inl (γ.1, .cells (Track.c Track.zero) 25 (0, 0))] else []) ++ ([.inl (b2, .cells (FilterTrack.c b_) 29 (0, 0)), .inl (b1, .cells (FilterTrack.c a) 29 (0, 0))])) (fun (γ : Nat × Nat) => sU (Instr.storeAt 25 (.pointer (some ⟨γ.2, 0, none⟩)) (Track.v b_.Track))) none (fun S (γ : Nat × Nat) hj hd hl => by change List.Perm (((bif S 6 then [.inl (γ.1, .cells (Track.c a.Track) 25 (0, 0))] else bif S 4 then [.inl (γ.1, .cells (Track.c Track.zero) 25 (0, 0))] else []) ++ ((bif S 7 then [.inl (γ.2, .cells (Track.c b_.Track) 25 (0, 0))] else bif S 5 then [.inl (γ.2, .cells (Track.c Track.zero) 25 (0, 0))] else []) ++ ([.inl (b2, .cells (FilterTrack.c b_) 29 (0, 0)), .inl (b1, .cells (FilterTrack.c a) 29 (0, 0))]))) : Mem) _; rw [hj, hd 5 (by kernel_rfl)]; exact (List.Perm.append_left _ (List.Perm.refl _)).trans (perm_mid _ _ _)) (fun S (γ : Nat × Nat) _ => ((List.Perm.append_left _ (List.Perm.refl _)).trans (perm_mid _ _ _)).symm) (fun (γ : Nat × Nat) M' w hM => run_put (fun b M => by kernel_rfl) (fun b M => by kernel_rfl) M' w hM) (fun (γ : Nat × Nat) => by kernel_rfl) (fun (γ : Nat × Nat) => by kernel_rfl) ?_
    exact Steps.done (by kernel_rfl)
  · rintro ⟨b3, b4⟩
    refine TE.conv [.inl (b3, .cells (Track.c a.Track) 25 (0, 0)), .inl (b4, .cells (Track.c b_.Track) 25 (0, 0)), .inl (b2, .cells (FilterTrack.c b_) 29 (0, 0)), .inl (b1, .cells (FilterTrack.c a) 29 (0, 0))] (fun _ hM => hM) ?_
    refine TE.next ?_
    refine TC.seq ?_
    refine TC.region ?_
    refine TL.run 6 [0, 1] [(2, .int .i64 band), (7, .pointer (some ⟨b3, 0, none⟩)), (8, .pointer (some ⟨b4, 0, none⟩)), (18, .bool (a.Track.Time == b_.Track.Time))] rfl ⟨by kernel_rfl, by kernel_rfl⟩ ?_
    refine TL.split 18 (a.Track.Time == b_.Track.Time) (by kernel_rfl) (fun h1 => ?_) (fun h1 => ?_)
    · refine TL.run 15 [0, 1, 0, 1] [(2, .int .i64 band), (7, .pointer (some ⟨b3, 0, none⟩)), (8, .pointer (some ⟨b4, 0, none⟩)), (18, .bool true), (20, P.v a.Track.At), (22, P.v b_.Track.At), (27, .int .i64 (w64 (a.Track.Radius + b_.Track.Radius)))] rfl ⟨by kernel_rfl, by kernel_rfl⟩ ?_
      refine TL.call (some 28) [(2, .int .i64 band), (7, .pointer (some ⟨b3, 0, none⟩)), (8, .pointer (some ⟨b4, 0, none⟩)), (18, .bool true), (28, .bool ((plane_Within a.Track.At b_.Track.At (w64 (a.Track.Radius + b_.Track.Radius)))))] (fun w _ => plane_Within_w a.Track.At b_.Track.At (w64 (a.Track.Radius + b_.Track.Radius)) w) (by kernel_rfl) (by kernel_rfl) ?_
      generalize hr1 : plane_Within a.Track.At b_.Track.At (w64 (a.Track.Radius + b_.Track.Radius)) = r1
      refine TL.run 18 [] [(2, .int .i64 band), (7, .pointer (some ⟨b3, 0, none⟩)), (8, .pointer (some ⟨b4, 0, none⟩)), (30, .bool r1)] rfl ⟨by kernel_rfl, by kernel_rfl⟩ ?_
      refine TL.split 30 r1 (by kernel_rfl) (fun h2 => ?_) (fun h2 => ?_)
      · refine TL.run 23 [0, 1] [(7, .pointer (some ⟨b3, 0, none⟩)), (8, .pointer (some ⟨b4, 0, none⟩)), (30, .bool true), (32, .int .i64 a.Track.Height), (34, .int .i64 b_.Track.Height), (35, .int .i64 band)] rfl ⟨by kernel_rfl, by kernel_rfl⟩ ?_
        refine TL.call (some 36) [(7, .pointer (some ⟨b3, 0, none⟩)), (8, .pointer (some ⟨b4, 0, none⟩)), (30, .bool true), (36, .bool ((fuse_near a.Track.Height b_.Track.Height band)))] (fun w _ => fuse_near_w a.Track.Height b_.Track.Height band w) (by kernel_rfl) (by kernel_rfl) ?_
        generalize hr2 : fuse_near a.Track.Height b_.Track.Height band = r2
        refine TL.run 26 [] [(7, .pointer (some ⟨b3, 0, none⟩)), (8, .pointer (some ⟨b4, 0, none⟩)), (38, .bool r2)] rfl ⟨by kernel_rfl, by kernel_rfl⟩ ?_
        refine TL.split 38 r2 (by kernel_rfl) (fun h3 => ?_) (fun h3 => ?_)
        · refine TL.run 32 [0, 1] [(7, .pointer (some ⟨b3, 0, none⟩)), (8, .pointer (some ⟨b4, 0, none⟩)), (38, .bool true), (44, .bool (a.Track.Code == b_.Track.Code))] rfl ⟨by kernel_rfl, by kernel_rfl⟩ ?_
          refine TL.split 44 (a.Track.Code == b_.Track.Code) (by kernel_rfl) (fun h4 => ?_) (fun h4 => ?_)
          · refine TL.run 43 [] [(6, .bool true)] rfl ⟨by kernel_rfl, by kernel_rfl⟩ ?_
            refine TL.next rfl ?_
            refine TC.ret ?_
            have e : fuse_same a b_ band = true := by subst hr1 hr2; unfold fuse_same; exact cond_t h1 (cond_t h2 (cond_t h3 (cond_t h4 (rfl))))
            exact TE.ret [] (.bool true) ⟨by kernel_rfl, by kernel_rfl⟩ (by rw [e]; first | done | kernel_rfl)
          · refine TL.run 37 [0] [(8, .pointer (some ⟨b4, 0, none⟩)), (38, .bool true), (49, .bool (a.Track.Code == (-1)))] rfl ⟨by kernel_rfl, by kernel_rfl⟩ ?_
            refine TL.split 49 (a.Track.Code == (-1)) (by kernel_rfl) (fun h5 => ?_) (fun h5 => ?_)
            · refine TL.run 43 [] [(6, .bool true)] rfl ⟨by kernel_rfl, by kernel_rfl⟩ ?_
              refine TL.next rfl ?_
              refine TC.ret ?_
              have e : fuse_same a b_ band = true := by subst hr1 hr2; unfold fuse_same; exact cond_t h1 (cond_t h2 (cond_t h3 (cond_f h4 (cond_t h5 (rfl)))))
              exact TE.ret [] (.bool true) ⟨by kernel_rfl, by kernel_rfl⟩ (by rw [e]; first | done | kernel_rfl)
            · refine TL.run 43 [1] [(6, .bool (b_.Track.Code == (-1)))] rfl ⟨by kernel_rfl, by kernel_rfl⟩ ?_
              refine TL.next rfl ?_
              refine TC.ret ?_
              have e : fuse_same a b_ band = (b_.Track.Code == (-1)) := by subst hr1 hr2; unfold fuse_same; exact cond_t h1 (cond_t h2 (cond_t h3 (cond_f h4 (cond_f h5 (rfl)))))
              exact TE.ret [] (.bool (b_.Track.Code == (-1))) ⟨by kernel_rfl, by kernel_rfl⟩ (by rw [e]; first | done | kernel_rfl)
        · refine TL.run 43 [] [(6, .bool false)] rfl ⟨by kernel_rfl, by kernel_rfl⟩ ?_
          refine TL.next rfl ?_
          refine TC.ret ?_
          have e : fuse_same a b_ band = false := by subst hr1 hr2; unfold fuse_same; exact cond_t h1 (cond_t h2 (cond_f h3 (rfl)))
          exact TE.ret [] (.bool false) ⟨by kernel_rfl, by kernel_rfl⟩ (by rw [e]; first | done | kernel_rfl)
      · refine TL.run 43 [] [(6, .bool false)] rfl ⟨by kernel_rfl, by kernel_rfl⟩ ?_
        refine TL.next rfl ?_
        refine TC.ret ?_
        have e : fuse_same a b_ band = false := by subst hr1; unfold fuse_same; exact cond_t h1 (cond_f h2 (rfl))
        exact TE.ret [] (.bool false) ⟨by kernel_rfl, by kernel_rfl⟩ (by rw [e]; first | done | kernel_rfl)
    · refine TL.run 43 [] [(6, .bool false)] rfl ⟨by kernel_rfl, by kernel_rfl⟩ ?_
      refine TL.next rfl ?_
      refine TC.ret ?_
      have e : fuse_same a b_ band = false := by unfold fuse_same; exact cond_f h1 (rfl)
      exact TE.ret [] (.bool false) ⟨by kernel_rfl, by kernel_rfl⟩ (by rw [e]; first | done | kernel_rfl)

end Go.Sky
