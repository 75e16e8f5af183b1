/- Functions of the program, each with the Lean function that it computes. Conditions: none. -/
import Derived.Test.YtfmaklicdchnoaaDoorWr
namespace Go.Sky
open Go Go.Eng Go.Proofs
def skywaykeep2_RadarBack (s : RadarSite) (t : Spot) : Bool :=
  let r1 := skywaykeep2_eastSees
  cond (!r1) (
    false) (
    let r2 := radar_Plot s t
    cond (r2.2 != 0) (
      Plot.eqb r2.1 Plot.zero) (
      let r3 := radar_Spot s r2.1
      cond (r3.2 != 0) (
        r3.2 == 8) (
        let r4 := skywaykeep2_square r3.1.At t.At
        (((decide (r4 ≤ (w64 (r3.1.Error * r3.1.Error)))) && (r3.1.Time == t.Time)) && (r3.1.Height == t.Height)) && (r3.1.Code == t.Code))))

set_option maxRecDepth 100000 in
theorem skywaykeep2_RadarBack_w (s : RadarSite) (t : Spot) (w : World) (hT : Tabs w) : Calls Tryd.prog 3 #[RadarSite.v s, Spot.v t] w (Ret w (.bool (skywaykeep2_RadarBack s t))) := by
  refine calls_intro (vs := [RadarSite.v s, Spot.v t]) (w := w) Tryd.func3 rfl Tryd.ntmps3 rfl ?_
  refine TC.weak [(0, RadarSite.v s), (1, Spot.v t)] (by kernel_rfl) ?_
  refine TC.seq ?_
  refine TC.region ?_
  refine TL.write 0 (fun b1 => [(1, Spot.v t), (2, .pointer (some ⟨b1, 0, none⟩))]) (fun b1 => [.inl (b1, .cells (RadarSite.c s) 25 (0, 0))]) (fun b1 => ⟨by kernel_rfl, by kernel_rfl⟩) (fun b1 => ?_)
  refine TL.write 0 (fun b2 => [(2, .pointer (some ⟨b1, 0, none⟩)), (3, .pointer (some ⟨b2, 0, none⟩))]) (fun b2 => [.inl (b2, .cells (Spot.c t) 27 (0, 0)), .inl (b1, .cells (RadarSite.c s) 25 (0, 0))]) (fun b2 => ⟨by kernel_rfl, by kernel_rfl⟩) (fun b2 => ?_)
  refine TL.run 3 [] [(2, .pointer (some ⟨b1, 0, none⟩)), (3, .pointer (some ⟨b2, 0, none⟩))] rfl ⟨by kernel_rfl, by kernel_rfl⟩ ?_
  refine TL.next rfl ?_
  refine TC.seq ?_
  refine TC.seq ?_
  refine TC.region ?_
  refine TL.call (some 9) [(2, .pointer (some ⟨b1, 0, none⟩)), (3, .pointer (some ⟨b2, 0, none⟩)), (9, .bool ((skywaykeep2_eastSees)))] (fun w hM => skywaykeep2_eastSees_w w (hT.sat hM)) (by kernel_rfl) (by kernel_rfl) ?_
  generalize hr1 : skywaykeep2_eastSees = r1
  refine TL.run 2 [] [(2, .pointer (some ⟨b1, 0, none⟩)), (3, .pointer (some ⟨b2, 0, none⟩)), (10, .bool (!r1))] rfl ⟨by kernel_rfl, by kernel_rfl⟩ ?_
  refine TL.next rfl ?_
  refine TC.cond (!r1) rfl (by kernel_rfl) (fun h1 => ?_) (fun h1 => ?_)
  · refine TC.seq ?_
    refine TC.region ?_
    refine TL.run 1 [] [(4, .bool false)] rfl ⟨by kernel_rfl, by kernel_rfl⟩ ?_
    refine TL.next rfl ?_
    refine TC.ret ?_
    refine TE.ret_then ?_
    have e : skywaykeep2_RadarBack s t = false := by subst hr1; unfold skywaykeep2_RadarBack; exact cond_t h1 (rfl)
    exact TE.ret [] (.bool false) ⟨by kernel_rfl, by kernel_rfl⟩ (by rw [e]; first | done | kernel_rfl)
  · refine TC.skip ?_
    refine TE.next ?_
    refine TC.seq ?_
    refine TC.region ?_
    refine TL.run 2 [1, 0] [(2, .pointer (some ⟨b1, 0, none⟩)), (3, .pointer (some ⟨b2, 0, none⟩)), (12, RadarSite.v s), (13, Spot.v t)] rfl ⟨by kernel_rfl, by kernel_rfl⟩ ?_
    refine TL.call (some 14) [(2, .pointer (some ⟨b1, 0, none⟩)), (3, .pointer (some ⟨b2, 0, none⟩)), (14, .tuple #[Plot.v ((radar_Plot s t).1), .int .i64 ((radar_Plot s t).2)])] (fun w hM => radar_Plot_w s t w (hT.sat hM)) (by kernel_rfl) (by kernel_rfl) ?_
    generalize hr2 : radar_Plot s t = r2
    refine TL.run 6 [] [(2, .pointer (some ⟨b1, 0, none⟩)), (3, .pointer (some ⟨b2, 0, none⟩)), (15, Plot.v r2.1), (16, .int .i64 r2.2)] rfl ⟨by kernel_rfl, by kernel_rfl⟩ ?_
    refine TL.write 0 (fun b3 => [(2, .pointer (some ⟨b1, 0, none⟩)), (3, .pointer (some ⟨b2, 0, none⟩)), (5, .pointer (some ⟨b3, 0, none⟩)), (15, Plot.v r2.1), (16, .int .i64 r2.2)]) (fun b3 => [.inl (b3, .cells (Plot.c Plot.zero) 30 (0, 0)), .inl (b2, .cells (Spot.c t) 27 (0, 0)), .inl (b1, .cells (RadarSite.c s) 25 (0, 0))]) (fun b3 => ⟨by kernel_rfl, by kernel_rfl⟩) (fun b3 => ?_)
    refine TL.write 0 (fun _ => [(2, .pointer (some ⟨b1, 0, none⟩)), (3, .pointer (some ⟨b2, 0, none⟩)), (5, .pointer (some ⟨b3, 0, none⟩)), (16, .int .i64 r2.2)]) (fun _ => [.inl (b3, .cells (Plot.c r2.1) 30 (0, 0)), .inl (b2, .cells (Spot.c t) 27 (0, 0)), .inl (b1, .cells (RadarSite.c s) 25 (0, 0))]) (fun _ => ⟨by kernel_rfl, by kernel_rfl⟩) (fun _ => ?_)
    refine TL.run 9 [] [(2, .pointer (some ⟨b1, 0, none⟩)), (3, .pointer (some ⟨b2, 0, none⟩)), (5, .pointer (some ⟨b3, 0, none⟩)), (6, .int .i64 r2.2)] rfl ⟨by kernel_rfl, by kernel_rfl⟩ ?_
    refine TL.next rfl ?_
    refine TC.seq ?_
    refine TC.seq ?_
    refine TC.region ?_
    refine TL.run 2 [] [(2, .pointer (some ⟨b1, 0, none⟩)), (3, .pointer (some ⟨b2, 0, none⟩)), (5, .pointer (some ⟨b3, 0, none⟩)), (18, .bool (r2.2 != 0))] rfl ⟨by kernel_rfl, by kernel_rfl⟩ ?_
    refine TL.next rfl ?_
    refine TC.cond (r2.2 != 0) rfl (by kernel_rfl) (fun h2 => ?_) (fun h2 => ?_)
    · refine TC.seq ?_
      refine TC.region ?_
      refine TL.run 2 [0] [(19, Plot.v r2.1), (20, Plot.v Plot.zero)] rfl ⟨by kernel_rfl, by kernel_rfl⟩ ?_
      refine TL.val (sV (do eqGuard .eql 30 (.tmp 19) (.tmp 20) (Plot.v r2.1) (Plot.v Plot.zero); binOp .eql 30 (Plot.v r2.1) (Plot.v Plot.zero))) (some 21) (.bool (Plot.eqb r2.1 Plot.zero)) [(21, .bool (Plot.eqb r2.1 Plot.zero))] (fun w hM => run_eql (b := Plot.eqb r2.1 Plot.zero) (by kernel_rfl) (by kernel_rfl) w) (by kernel_rfl) (by kernel_rfl) ?_
      refine TL.run 4 [] [(4, .bool (Plot.eqb r2.1 Plot.zero))] rfl ⟨by kernel_rfl, by kernel_rfl⟩ ?_
      refine TL.next rfl ?_
      refine TC.ret ?_
      refine TE.ret_then ?_
      have e : skywaykeep2_RadarBack s t = (Plot.eqb r2.1 Plot.zero) := by subst hr1 hr2; unfold skywaykeep2_RadarBack; exact cond_f h1 (cond_t h2 (rfl))
      exact TE.ret [] (.bool (Plot.eqb r2.1 Plot.zero)) ⟨by kernel_rfl, by kernel_rfl⟩ (by rw [e]; first | done | kernel_rfl)
    · refine TC.skip ?_
      refine TE.next ?_
      refine TC.seq ?_
      refine TC.region ?_
      refine TL.run 2 [2, 0] [(3, .pointer (some ⟨b2, 0, none⟩)), (23, RadarSite.v s), (24, Plot.v r2.1)] rfl ⟨by kernel_rfl, by kernel_rfl⟩ ?_
      refine TL.call (some 25) [(3, .pointer (some ⟨b2, 0, none⟩)), (25, .tuple #[Spot.v ((radar_Spot s r2.1).1), .int .i64 ((radar_Spot s r2.1).2)])] (fun w hM => radar_Spot_w s r2.1 w (hT.sat hM)) (by kernel_rfl) (by kernel_rfl) ?_
      generalize hr3 : radar_Spot s r2.1 = r3
      refine TL.run 6 [] [(3, .pointer (some ⟨b2, 0, none⟩)), (26, Spot.v r3.1), (27, .int .i64 r3.2)] rfl ⟨by kernel_rfl, by kernel_rfl⟩ ?_
      refine TL.write 0 (fun b4 => [(3, .pointer (some ⟨b2, 0, none⟩)), (7, .pointer (some ⟨b4, 0, none⟩)), (26, Spot.v r3.1), (27, .int .i64 r3.2)]) (fun b4 => [.inl (b4, .cells (Spot.c Spot.zero) 27 (0, 0)), .inl (b3, .cells (Plot.c r2.1) 30 (0, 0)), .inl (b2, .cells (Spot.c t) 27 (0, 0)), .inl (b1, .cells (RadarSite.c s) 25 (0, 0))]) (fun b4 => ⟨by kernel_rfl, by kernel_rfl⟩) (fun b4 => ?_)
      refine TL.write 0 (fun _ => [(3, .pointer (some ⟨b2, 0, none⟩)), (7, .pointer (some ⟨b4, 0, none⟩)), (27, .int .i64 r3.2)]) (fun _ => [.inl (b4, .cells (Spot.c r3.1) 27 (0, 0)), .inl (b3, .cells (Plot.c r2.1) 30 (0, 0)), .inl (b2, .cells (Spot.c t) 27 (0, 0)), .inl (b1, .cells (RadarSite.c s) 25 (0, 0))]) (fun _ => ⟨by kernel_rfl, by kernel_rfl⟩) (fun _ => ?_)
      refine TL.run 9 [] [(3, .pointer (some ⟨b2, 0, none⟩)), (7, .pointer (some ⟨b4, 0, none⟩)), (8, .int .i64 r3.2)] rfl ⟨by kernel_rfl, by kernel_rfl⟩ ?_
      refine TL.next rfl ?_
      refine TC.seq ?_
      refine TC.seq ?_
      refine TC.region ?_
      refine TL.run 2 [] [(3, .pointer (some ⟨b2, 0, none⟩)), (7, .pointer (some ⟨b4, 0, none⟩)), (8, .int .i64 r3.2), (29, .bool (r3.2 != 0))] rfl ⟨by kernel_rfl, by kernel_rfl⟩ ?_
      refine TL.next rfl ?_
      refine TC.cond (r3.2 != 0) rfl (by kernel_rfl) (fun h3 => ?_) (fun h3 => ?_)
      · refine TC.seq ?_
        refine TC.region ?_
        refine TL.run 3 [] [(4, .bool (r3.2 == 8))] rfl ⟨by kernel_rfl, by kernel_rfl⟩ ?_
        refine TL.next rfl ?_
        refine TC.ret ?_
        refine TE.ret_then ?_
        have e : skywaykeep2_RadarBack s t = (r3.2 == 8) := by subst hr1 hr2 hr3; unfold skywaykeep2_RadarBack; exact cond_f h1 (cond_f h2 (cond_t h3 (rfl)))
        exact TE.ret [] (.bool (r3.2 == 8)) ⟨by kernel_rfl, by kernel_rfl⟩ (by rw [e]; first | done | kernel_rfl)
      · refine TC.skip ?_
        refine TE.next ?_
        refine TC.seq ?_
        refine TC.draw 33 (by kernel_rfl) (by kernel_rfl) (by kernel_rfl) ?_
        refine TQ.run 4 [0, 2] [(3, .pointer (some ⟨b2, 0, none⟩)), (7, .pointer (some ⟨b4, 0, none⟩)), (33, P.v r3.1.At), (35, P.v t.At)] rfl ⟨by kernel_rfl, by kernel_rfl⟩ ?_
        refine TQ.call (some 36) [(3, .pointer (some ⟨b2, 0, none⟩)), (7, .pointer (some ⟨b4, 0, none⟩)), (36, .int .i64 (skywaykeep2_square r3.1.At t.At))] (fun w _ => skywaykeep2_square_w r3.1.At t.At w) rfl (by kernel_rfl) (by kernel_rfl) ?_
        generalize hr4 : skywaykeep2_square r3.1.At t.At = r4
        refine TQ.run 12 [0, 0] [(3, .pointer (some ⟨b2, 0, none⟩)), (7, .pointer (some ⟨b4, 0, none⟩)), (43, .bool (decide (r4 ≤ (w64 (r3.1.Error * r3.1.Error)))))] rfl ⟨by kernel_rfl, by kernel_rfl⟩ ?_
        refine TQ.join 43 (decide (r4 ≤ (w64 (r3.1.Error * r3.1.Error)))) 18 [0, 2] [] (fun β => [(3, .pointer (some ⟨b2, 0, none⟩)), (7, .pointer (some ⟨b4, 0, none⟩)), (49, .bool (β && (r3.1.Time == t.Time)))]) (by kernel_rfl) rfl ⟨by kernel_rfl, by kernel_rfl⟩ ⟨by kernel_rfl, by kernel_rfl⟩ ?_
        refine TQ.run 19 [] [(3, .pointer (some ⟨b2, 0, none⟩)), (7, .pointer (some ⟨b4, 0, none⟩)), (50, .bool ((decide (r4 ≤ (w64 (r3.1.Error * r3.1.Error)))) && (r3.1.Time == t.Time)))] rfl ⟨by kernel_rfl, by kernel_rfl⟩ ?_
        refine TQ.join 50 ((decide (r4 ≤ (w64 (r3.1.Error * r3.1.Error)))) && (r3.1.Time == t.Time)) 25 [0, 2] [] (fun β => [(3, .pointer (some ⟨b2, 0, none⟩)), (7, .pointer (some ⟨b4, 0, none⟩)), (56, .bool (β && (r3.1.Height == t.Height)))]) (by kernel_rfl) rfl ⟨by kernel_rfl, by kernel_rfl⟩ ⟨by kernel_rfl, by kernel_rfl⟩ ?_
        refine TQ.run 26 [] [(3, .pointer (some ⟨b2, 0, none⟩)), (7, .pointer (some ⟨b4, 0, none⟩)), (57, .bool (((decide (r4 ≤ (w64 (r3.1.Error * r3.1.Error)))) && (r3.1.Time == t.Time)) && (r3.1.Height == t.Height)))] rfl ⟨by kernel_rfl, by kernel_rfl⟩ ?_
        refine TQ.join 57 (((decide (r4 ≤ (w64 (r3.1.Error * r3.1.Error)))) && (r3.1.Time == t.Time)) && (r3.1.Height == t.Height)) 32 [0, 2] [] (fun β => [(63, .bool (β && (r3.1.Code == t.Code)))]) (by kernel_rfl) rfl ⟨by kernel_rfl, by kernel_rfl⟩ ⟨by kernel_rfl, by kernel_rfl⟩ ?_
        refine TQ.run 33 [] [(4, .bool ((((decide (r4 ≤ (w64 (r3.1.Error * r3.1.Error)))) && (r3.1.Time == t.Time)) && (r3.1.Height == t.Height)) && (r3.1.Code == t.Code)))] rfl ⟨by kernel_rfl, by kernel_rfl⟩ ?_
        refine TQ.next rfl ?_
        refine TC.ret ?_
        have e : skywaykeep2_RadarBack s t = ((((decide (r4 ≤ (w64 (r3.1.Error * r3.1.Error)))) && (r3.1.Time == t.Time)) && (r3.1.Height == t.Height)) && (r3.1.Code == t.Code)) := by subst hr1 hr2 hr3 hr4; unfold skywaykeep2_RadarBack; exact cond_f h1 (cond_f h2 (cond_f h3 (rfl)))
        exact TE.ret [] (.bool ((((decide (r4 ≤ (w64 (r3.1.Error * r3.1.Error)))) && (r3.1.Time == t.Time)) && (r3.1.Height == t.Height)) && (r3.1.Code == t.Code))) ⟨by kernel_rfl, by kernel_rfl⟩ (by rw [e]; first | done | kernel_rfl)

def skywaykeep2_RadarErrors (s : RadarSite) (t : Spot) (far : Int) (turn : Int) : Bool :=
  let r1 := skywaykeep2_eastSees
  cond (!r1) (
    false) (
    let r2 := radar_Plot s t
    cond (r2.2 != 0) (
      true) (
      cond (P.eqb t.At s.At) (
        true) (
        let r3 := skywaykeep2_within far (w64 (1 - s.RangeError)) (w64 (s.RangeError - 1))
        let r4 := skywaykeep2_within turn (w64 (1 - s.AzimuthError)) (w64 (s.AzimuthError - 1))
        let r5 := radar_Spot s (⟨r2.1.Radar, r2.1.Time, imax 0 (w64 (r2.1.Range + r3)), (w64 ((w64 (r2.1.Azimuth + r4)) + 4096)).tmod 4096, r2.1.Height, r2.1.Code⟩ : Plot)
        cond (r5.2 != 0) (
          true) (
          let r6 := skywaykeep2_square r5.1.At t.At
          decide (r6 ≤ (w64 (r5.1.Error * r5.1.Error)))))))

set_option maxHeartbeats 4000000 in
set_option maxRecDepth 100000 in
theorem skywaykeep2_RadarErrors_w (s : RadarSite) (t : Spot) (far : Int) (turn : Int) (w : World) (hT : Tabs w) : Calls Tryd.prog 4 #[RadarSite.v s, Spot.v t, .int .i64 far, .int .i64 turn] w (Ret w (.bool (skywaykeep2_RadarErrors s t far turn))) := by
  refine calls_intro (vs := [RadarSite.v s, Spot.v t, .int .i64 far, .int .i64 turn]) (w := w) Tryd.func4 rfl Tryd.ntmps4 rfl ?_
  refine TC.weak [(0, RadarSite.v s), (1, Spot.v t), (2, .int .i64 far), (3, .int .i64 turn)] (by kernel_rfl) ?_
  refine TC.seq ?_
  refine TC.region ?_
  refine TL.write 0 (fun b1 => [(1, Spot.v t), (2, .int .i64 far), (3, .int .i64 turn), (4, .pointer (some ⟨b1, 0, none⟩))]) (fun b1 => [.inl (b1, .cells (RadarSite.c s) 25 (0, 0))]) (fun b1 => ⟨by kernel_rfl, by kernel_rfl⟩) (fun b1 => ?_)
  refine TL.write 0 (fun b2 => [(2, .int .i64 far), (3, .int .i64 turn), (4, .pointer (some ⟨b1, 0, none⟩)), (5, .pointer (some ⟨b2, 0, none⟩))]) (fun b2 => [.inl (b2, .cells (Spot.c t) 27 (0, 0)), .inl (b1, .cells (RadarSite.c s) 25 (0, 0))]) (fun b2 => ⟨by kernel_rfl, by kernel_rfl⟩) (fun b2 => ?_)
  refine TL.run 3 [] [(2, .int .i64 far), (3, .int .i64 turn), (4, .pointer (some ⟨b1, 0, none⟩)), (5, .pointer (some ⟨b2, 0, none⟩))] rfl ⟨by kernel_rfl, by kernel_rfl⟩ ?_
  refine TL.next rfl ?_
  refine TC.seq ?_
  refine TC.seq ?_
  refine TC.region ?_
  refine TL.call (some 13) [(2, .int .i64 far), (3, .int .i64 turn), (4, .pointer (some ⟨b1, 0, none⟩)), (5, .pointer (some ⟨b2, 0, none⟩)), (13, .bool ((skywaykeep2_eastSees)))] (fun w hM => skywaykeep2_eastSees_w w (hT.sat hM)) (by kernel_rfl) (by kernel_rfl) ?_
  generalize hr1 : skywaykeep2_eastSees = r1
  refine TL.run 2 [] [(2, .int .i64 far), (3, .int .i64 turn), (4, .pointer (some ⟨b1, 0, none⟩)), (5, .pointer (some ⟨b2, 0, none⟩)), (14, .bool (!r1))] rfl ⟨by kernel_rfl, by kernel_rfl⟩ ?_
  refine TL.next rfl ?_
  refine TC.cond (!r1) rfl (by kernel_rfl) (fun h1 => ?_) (fun h1 => ?_)
  · refine TC.seq ?_
    refine TC.region ?_
    refine TL.run 1 [] [(8, .bool false)] rfl ⟨by kernel_rfl, by kernel_rfl⟩ ?_
    refine TL.next rfl ?_
    refine TC.ret ?_
    refine TE.ret_then ?_
    have e : skywaykeep2_RadarErrors s t far turn = false := by subst hr1; unfold skywaykeep2_RadarErrors; exact cond_t h1 (rfl)
    exact TE.ret [] (.bool false) ⟨by kernel_rfl, by kernel_rfl⟩ (by rw [e]; first | done | kernel_rfl)
  · refine TC.skip ?_
    refine TE.next ?_
    refine TC.seq ?_
    refine TC.region ?_
    refine TL.run 2 [1, 0] [(2, .int .i64 far), (3, .int .i64 turn), (4, .pointer (some ⟨b1, 0, none⟩)), (5, .pointer (some ⟨b2, 0, none⟩)), (16, RadarSite.v s), (17, Spot.v t)] rfl ⟨by kernel_rfl, by kernel_rfl⟩ ?_
    refine TL.call (some 18) [(2, .int .i64 far), (3, .int .i64 turn), (4, .pointer (some ⟨b1, 0, none⟩)), (5, .pointer (some ⟨b2, 0, none⟩)), (18, .tuple #[Plot.v ((radar_Plot s t).1), .int .i64 ((radar_Plot s t).2)])] (fun w hM => radar_Plot_w s t w (hT.sat hM)) (by kernel_rfl) (by kernel_rfl) ?_
    generalize hr2 : radar_Plot s t = r2
    refine TL.run 6 [] [(2, .int .i64 far), (3, .int .i64 turn), (4, .pointer (some ⟨b1, 0, none⟩)), (5, .pointer (some ⟨b2, 0, none⟩)), (19, Plot.v r2.1), (20, .int .i64 r2.2)] rfl ⟨by kernel_rfl, by kernel_rfl⟩ ?_
    refine TL.write 0 (fun b3 => [(2, .int .i64 far), (3, .int .i64 turn), (4, .pointer (some ⟨b1, 0, none⟩)), (5, .pointer (some ⟨b2, 0, none⟩)), (9, .pointer (some ⟨b3, 0, none⟩)), (19, Plot.v r2.1), (20, .int .i64 r2.2)]) (fun b3 => [.inl (b3, .cells (Plot.c Plot.zero) 30 (0, 0)), .inl (b2, .cells (Spot.c t) 27 (0, 0)), .inl (b1, .cells (RadarSite.c s) 25 (0, 0))]) (fun b3 => ⟨by kernel_rfl, by kernel_rfl⟩) (fun b3 => ?_)
    refine TL.write 0 (fun _ => [(2, .int .i64 far), (3, .int .i64 turn), (4, .pointer (some ⟨b1, 0, none⟩)), (5, .pointer (some ⟨b2, 0, none⟩)), (9, .pointer (some ⟨b3, 0, none⟩)), (20, .int .i64 r2.2)]) (fun _ => [.inl (b3, .cells (Plot.c r2.1) 30 (0, 0)), .inl (b2, .cells (Spot.c t) 27 (0, 0)), .inl (b1, .cells (RadarSite.c s) 25 (0, 0))]) (fun _ => ⟨by kernel_rfl, by kernel_rfl⟩) (fun _ => ?_)
    refine TL.run 9 [] [(2, .int .i64 far), (3, .int .i64 turn), (4, .pointer (some ⟨b1, 0, none⟩)), (5, .pointer (some ⟨b2, 0, none⟩)), (9, .pointer (some ⟨b3, 0, none⟩)), (10, .int .i64 r2.2)] rfl ⟨by kernel_rfl, by kernel_rfl⟩ ?_
    refine TL.next rfl ?_
    refine TC.seq ?_
    refine TC.seq ?_
    refine TC.region ?_
    refine TL.run 3 [] [(2, .int .i64 far), (3, .int .i64 turn), (4, .pointer (some ⟨b1, 0, none⟩)), (5, .pointer (some ⟨b2, 0, none⟩)), (9, .pointer (some ⟨b3, 0, none⟩)), (23, .bool (r2.2 != 0))] rfl ⟨by kernel_rfl, by kernel_rfl⟩ ?_
    refine TL.split 23 (r2.2 != 0) (by kernel_rfl) (fun h2 => ?_) (fun h2 => ?_)
    · refine TL.run 9 [] [(2, .int .i64 far), (3, .int .i64 turn), (4, .pointer (some ⟨b1, 0, none⟩)), (5, .pointer (some ⟨b2, 0, none⟩)), (9, .pointer (some ⟨b3, 0, none⟩)), (29, .bool true)] rfl ⟨by kernel_rfl, by kernel_rfl⟩ ?_
      refine TL.next rfl ?_
      refine TC.condT rfl (by kernel_rfl) ?_
      refine TC.seq ?_
      refine TC.region ?_
      refine TL.run 1 [] [(8, .bool true)] rfl ⟨by kernel_rfl, by kernel_rfl⟩ ?_
      refine TL.next rfl ?_
      refine TC.ret ?_
      refine TE.ret_then ?_
      have e : skywaykeep2_RadarErrors s t far turn = true := by subst hr1 hr2; unfold skywaykeep2_RadarErrors; exact cond_f h1 (cond_t h2 (rfl))
      exact TE.ret [] (.bool true) ⟨by kernel_rfl, by kernel_rfl⟩ (by rw [e]; first | done | kernel_rfl)
    · refine TL.run 7 [1, 2] [(2, .int .i64 far), (3, .int .i64 turn), (4, .pointer (some ⟨b1, 0, none⟩)), (5, .pointer (some ⟨b2, 0, none⟩)), (9, .pointer (some ⟨b3, 0, none⟩)), (23, .bool false), (25, P.v t.At), (27, P.v s.At)] rfl ⟨by kernel_rfl, by kernel_rfl⟩ ?_
      refine TL.val (sV (do eqGuard .eql 23 (.tmp 25) (.tmp 27) (P.v t.At) (P.v s.At); binOp .eql 23 (P.v t.At) (P.v s.At))) (some 28) (.bool (P.eqb t.At s.At)) [(2, .int .i64 far), (3, .int .i64 turn), (4, .pointer (some ⟨b1, 0, none⟩)), (5, .pointer (some ⟨b2, 0, none⟩)), (9, .pointer (some ⟨b3, 0, none⟩)), (23, .bool false), (28, .bool (P.eqb t.At s.At))] (fun w hM => run_eql (b := P.eqb t.At s.At) (by kernel_rfl) (by kernel_rfl) w) (by kernel_rfl) (by kernel_rfl) ?_
      refine TL.run 9 [] [(2, .int .i64 far), (3, .int .i64 turn), (4, .pointer (some ⟨b1, 0, none⟩)), (5, .pointer (some ⟨b2, 0, none⟩)), (9, .pointer (some ⟨b3, 0, none⟩)), (29, .bool (P.eqb t.At s.At))] rfl ⟨by kernel_rfl, by kernel_rfl⟩ ?_
      refine TL.next rfl ?_
      refine TC.cond (P.eqb t.At s.At) rfl (by kernel_rfl) (fun h3 => ?_) (fun h3 => ?_)
      · refine TC.seq ?_
        refine TC.region ?_
        refine TL.run 1 [] [(8, .bool true)] rfl ⟨by kernel_rfl, by kernel_rfl⟩ ?_
        refine TL.next rfl ?_
        refine TC.ret ?_
        refine TE.ret_then ?_
        have e : skywaykeep2_RadarErrors s t far turn = true := by subst hr1 hr2; unfold skywaykeep2_RadarErrors; exact cond_f h1 (cond_f h2 (cond_t h3 (rfl)))
        exact TE.ret [] (.bool true) ⟨by kernel_rfl, by kernel_rfl⟩ (by rw [e]; first | done | kernel_rfl)
      · refine TC.skip ?_
        refine TE.next ?_
        refine TC.seq ?_
        refine TC.drawTail 13 (by kernel_rfl) (by kernel_rfl) ?_
        refine TQ.run 9 [0, 2, 2] [(3, .int .i64 turn), (4, .pointer (some ⟨b1, 0, none⟩)), (5, .pointer (some ⟨b2, 0, none⟩)), (9, .pointer (some ⟨b3, 0, none⟩)), (31, .int .i64 r2.1.Range), (32, .int .i64 far), (35, .int .i64 (w64 (1 - s.RangeError))), (38, .int .i64 (w64 (s.RangeError - 1)))] rfl ⟨by kernel_rfl, by kernel_rfl⟩ ?_
        refine TQ.call (some 39) [(3, .int .i64 turn), (4, .pointer (some ⟨b1, 0, none⟩)), (5, .pointer (some ⟨b2, 0, none⟩)), (9, .pointer (some ⟨b3, 0, none⟩)), (31, .int .i64 r2.1.Range), (39, .int .i64 (skywaykeep2_within far (w64 (1 - s.RangeError)) (w64 (s.RangeError - 1))))] (fun w _ => skywaykeep2_within_w far (w64 (1 - s.RangeError)) (w64 (s.RangeError - 1)) w (by have q0_ := (bne_f h2); first | omega | first | decide | omega | (simp only [w64_eq]; omega) | (simp <;> omega))) rfl (by kernel_rfl) (by kernel_rfl) ?_
        generalize hr3 : skywaykeep2_within far (w64 (1 - s.RangeError)) (w64 (s.RangeError - 1)) = r3
        refine TQ.run 13 [] [(3, .int .i64 turn), (4, .pointer (some ⟨b1, 0, none⟩)), (5, .pointer (some ⟨b2, 0, none⟩)), (9, .pointer (some ⟨b3, 0, none⟩)), (41, .int .i64 (imax 0 (w64 (r2.1.Range + r3)))), (42, .pointer (some ⟨b3, 2, none⟩))] rfl ⟨by kernel_rfl, by kernel_rfl⟩ ?_
        refine TQ.tail rfl ?_
        refine TL.write 0 (fun _ => [(3, .int .i64 turn), (4, .pointer (some ⟨b1, 0, none⟩)), (5, .pointer (some ⟨b2, 0, none⟩)), (9, .pointer (some ⟨b3, 0, none⟩))]) (fun _ => [.inl (b3, .cells #[.int .i64 r2.1.Radar, .int .i64 r2.1.Time, .int .i64 (imax 0 (w64 (r2.1.Range + r3))), .int .i64 r2.1.Azimuth, .int .i64 r2.1.Height, .int .i64 r2.1.Code] 30 (0, 0)), .inl (b2, .cells (Spot.c t) 27 (0, 0)), .inl (b1, .cells (RadarSite.c s) 25 (0, 0))]) (fun _ => ⟨by kernel_rfl, by kernel_rfl⟩) (fun _ => ?_)
        refine TL.next rfl ?_
        refine TC.seq ?_
        refine TC.drawTail 14 (by kernel_rfl) (by kernel_rfl) ?_
        refine TQ.run 9 [0, 2, 2] [(4, .pointer (some ⟨b1, 0, none⟩)), (5, .pointer (some ⟨b2, 0, none⟩)), (9, .pointer (some ⟨b3, 0, none⟩)), (44, .int .i64 r2.1.Azimuth), (45, .int .i64 turn), (48, .int .i64 (w64 (1 - s.AzimuthError))), (51, .int .i64 (w64 (s.AzimuthError - 1)))] rfl ⟨by kernel_rfl, by kernel_rfl⟩ ?_
        refine TQ.call (some 52) [(4, .pointer (some ⟨b1, 0, none⟩)), (5, .pointer (some ⟨b2, 0, none⟩)), (9, .pointer (some ⟨b3, 0, none⟩)), (44, .int .i64 r2.1.Azimuth), (52, .int .i64 (skywaykeep2_within turn (w64 (1 - s.AzimuthError)) (w64 (s.AzimuthError - 1))))] (fun w _ => skywaykeep2_within_w turn (w64 (1 - s.AzimuthError)) (w64 (s.AzimuthError - 1)) w (by have q0_ := (bne_f h2); first | omega | first | decide | omega | (simp only [w64_eq]; omega) | (simp <;> omega))) rfl (by kernel_rfl) (by kernel_rfl) ?_
        generalize hr4 : skywaykeep2_within turn (w64 (1 - s.AzimuthError)) (w64 (s.AzimuthError - 1)) = r4
        refine TQ.run 14 [] [(4, .pointer (some ⟨b1, 0, none⟩)), (5, .pointer (some ⟨b2, 0, none⟩)), (9, .pointer (some ⟨b3, 0, none⟩)), (55, .int .i64 ((w64 ((w64 (r2.1.Azimuth + r4)) + 4096)).tmod 4096)), (56, .pointer (some ⟨b3, 3, none⟩))] rfl ⟨by kernel_rfl, by kernel_rfl⟩ ?_
        refine TQ.tail rfl ?_
        refine TL.write 0 (fun _ => [(4, .pointer (some ⟨b1, 0, none⟩)), (5, .pointer (some ⟨b2, 0, none⟩)), (9, .pointer (some ⟨b3, 0, none⟩))]) (fun _ => [.inl (b3, .cells #[.int .i64 r2.1.Radar, .int .i64 r2.1.Time, .int .i64 (imax 0 (w64 (r2.1.Range + r3))), .int .i64 ((w64 ((w64 (r2.1.Azimuth + r4)) + 4096)).tmod 4096), .int .i64 r2.1.Height, .int .i64 r2.1.Code] 30 (0, 0)), .inl (b2, .cells (Spot.c t) 27 (0, 0)), .inl (b1, .cells (RadarSite.c s) 25 (0, 0))]) (fun _ => ⟨by kernel_rfl, by kernel_rfl⟩) (fun _ => ?_)
        refine TL.next rfl ?_
        refine TC.seq ?_
        refine TC.region ?_
        refine TL.run 2 [2, 0] [(5, .pointer (some ⟨b2, 0, none⟩)), (58, RadarSite.v s), (59, .agg #[.int .i64 r2.1.Radar, .int .i64 r2.1.Time, .int .i64 (imax 0 (w64 (r2.1.Range + r3))), .int .i64 ((w64 ((w64 (r2.1.Azimuth + r4)) + 4096)).tmod 4096), .int .i64 r2.1.Height, .int .i64 r2.1.Code])] rfl ⟨by kernel_rfl, by kernel_rfl⟩ ?_
        refine TL.call (some 60) [(5, .pointer (some ⟨b2, 0, none⟩)), (60, .tuple #[Spot.v ((radar_Spot s (⟨r2.1.Radar, r2.1.Time, imax 0 (w64 (r2.1.Range + r3)), (w64 ((w64 (r2.1.Azimuth + r4)) + 4096)).tmod 4096, r2.1.Height, r2.1.Code⟩ : Plot)).1), .int .i64 ((radar_Spot s (⟨r2.1.Radar, r2.1.Time, imax 0 (w64 (r2.1.Range + r3)), (w64 ((w64 (r2.1.Azimuth + r4)) + 4096)).tmod 4096, r2.1.Height, r2.1.Code⟩ : Plot)).2)])] (fun w hM => radar_Spot_w s (⟨r2.1.Radar, r2.1.Time, imax 0 (w64 (r2.1.Range + r3)), (w64 ((w64 (r2.1.Azimuth + r4)) + 4096)).tmod 4096, r2.1.Height, r2.1.Code⟩ : Plot) w (hT.sat hM)) (by kernel_rfl) (by kernel_rfl) ?_
        generalize hr5 : radar_Spot s (⟨r2.1.Radar, r2.1.Time, imax 0 (w64 (r2.1.Range + r3)), (w64 ((w64 (r2.1.Azimuth + r4)) + 4096)).tmod 4096, r2.1.Height, r2.1.Code⟩ : Plot) = r5
        refine TL.run 6 [] [(5, .pointer (some ⟨b2, 0, none⟩)), (61, Spot.v r5.1), (62, .int .i64 r5.2)] rfl ⟨by kernel_rfl, by kernel_rfl⟩ ?_
        refine TL.write 0 (fun b4 => [(5, .pointer (some ⟨b2, 0, none⟩)), (11, .pointer (some ⟨b4, 0, none⟩)), (61, Spot.v r5.1), (62, .int .i64 r5.2)]) (fun b4 => [.inl (b4, .cells (Spot.c Spot.zero) 27 (0, 0)), .inl (b3, .cells #[.int .i64 r2.1.Radar, .int .i64 r2.1.Time, .int .i64 (imax 0 (w64 (r2.1.Range + r3))), .int .i64 ((w64 ((w64 (r2.1.Azimuth + r4)) + 4096)).tmod 4096), .int .i64 r2.1.Height, .int .i64 r2.1.Code] 30 (0, 0)), .inl (b2, .cells (Spot.c t) 27 (0, 0)), .inl (b1, .cells (RadarSite.c s) 25 (0, 0))]) (fun b4 => ⟨by kernel_rfl, by kernel_rfl⟩) (fun b4 => ?_)
        refine TL.write 0 (fun _ => [(5, .pointer (some ⟨b2, 0, none⟩)), (11, .pointer (some ⟨b4, 0, none⟩)), (62, .int .i64 r5.2)]) (fun _ => [.inl (b4, .cells (Spot.c r5.1) 27 (0, 0)), .inl (b3, .cells #[.int .i64 r2.1.Radar, .int .i64 r2.1.Time, .int .i64 (imax 0 (w64 (r2.1.Range + r3))), .int .i64 ((w64 ((w64 (r2.1.Azimuth + r4)) + 4096)).tmod 4096), .int .i64 r2.1.Height, .int .i64 r2.1.Code] 30 (0, 0)), .inl (b2, .cells (Spot.c t) 27 (0, 0)), .inl (b1, .cells (RadarSite.c s) 25 (0, 0))]) (fun _ => ⟨by kernel_rfl, by kernel_rfl⟩) (fun _ => ?_)
        refine TL.run 9 [] [(5, .pointer (some ⟨b2, 0, none⟩)), (11, .pointer (some ⟨b4, 0, none⟩)), (12, .int .i64 r5.2)] rfl ⟨by kernel_rfl, by kernel_rfl⟩ ?_
        refine TL.next rfl ?_
        refine TC.seq ?_
        refine TC.draw 16 (by kernel_rfl) (by kernel_rfl) (by kernel_rfl) ?_
        refine TQ.run 3 [] [(5, .pointer (some ⟨b2, 0, none⟩)), (11, .pointer (some ⟨b4, 0, none⟩)), (65, .bool (r5.2 != 0))] rfl ⟨by kernel_rfl, by kernel_rfl⟩ ?_
        refine TQ.split 65 (r5.2 != 0) (by kernel_rfl) (fun h4 => ?_) (fun h4 => ?_)
        · refine TQ.run 16 [] [(8, .bool true)] rfl ⟨by kernel_rfl, by kernel_rfl⟩ ?_
          refine TQ.next rfl ?_
          refine TC.ret ?_
          have e : skywaykeep2_RadarErrors s t far turn = true := by subst hr1 hr2 hr3 hr4 hr5; unfold skywaykeep2_RadarErrors; exact cond_f h1 (cond_f h2 (cond_f h3 (cond_t h4 (rfl))))
          exact TE.ret [] (.bool true) ⟨by kernel_rfl, by kernel_rfl⟩ (by rw [e]; first | done | kernel_rfl)
        · refine TQ.run 7 [0, 2] [(11, .pointer (some ⟨b4, 0, none⟩)), (65, .bool false), (67, P.v r5.1.At), (69, P.v t.At)] rfl ⟨by kernel_rfl, by kernel_rfl⟩ ?_
          refine TQ.call (some 70) [(11, .pointer (some ⟨b4, 0, none⟩)), (65, .bool false), (70, .int .i64 (skywaykeep2_square r5.1.At t.At))] (fun w _ => skywaykeep2_square_w r5.1.At t.At w) rfl (by kernel_rfl) (by kernel_rfl) ?_
          generalize hr6 : skywaykeep2_square r5.1.At t.At = r6
          refine TQ.run 16 [0, 0] [(8, .bool (decide (r6 ≤ (w64 (r5.1.Error * r5.1.Error)))))] rfl ⟨by kernel_rfl, by kernel_rfl⟩ ?_
          refine TQ.next rfl ?_
          refine TC.ret ?_
          have e : skywaykeep2_RadarErrors s t far turn = (decide (r6 ≤ (w64 (r5.1.Error * r5.1.Error)))) := by subst hr1 hr2 hr3 hr4 hr5 hr6; unfold skywaykeep2_RadarErrors; exact cond_f h1 (cond_f h2 (cond_f h3 (cond_f h4 (rfl))))
          exact TE.ret [] (.bool (decide (r6 ≤ (w64 (r5.1.Error * r5.1.Error))))) ⟨by kernel_rfl, by kernel_rfl⟩ (by rw [e]; first | done | kernel_rfl)

end Go.Sky
