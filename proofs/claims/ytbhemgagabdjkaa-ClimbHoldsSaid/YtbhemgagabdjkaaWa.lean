/- Functions of the program, each with the Lean function that it computes. Conditions: none. -/
import Derived.Test.YtbhemgagabdjkaaRows
import Derived.Test.YtbhemgagabdjkaaEqb
import Derived.Test.YtbhemgagabdjkaaRow
namespace Go.Sky
open Go Go.Eng Go.Proofs
def alert_out (n : Int) (high : Int) : Bool :=
  (decide (n < 0)) || (decide (n > high))

set_option maxRecDepth 100000 in
theorem alert_out_w (n : Int) (high : Int) (w : World) : Calls Try.prog 37 #[.int .i64 n, .int .i64 high] w (Ret w (.bool (alert_out n high))) := by
  refine calls_intro (vs := [.int .i64 n, .int .i64 high]) (w := w) Try.func37 rfl Try.ntmps37 rfl ?_
  refine TC.weak [(0, .int .i64 n), (1, .int .i64 high)] (by kernel_rfl) ?_
  refine TC.seq ?_
  refine TC.region ?_
  refine TL.run 1 [] [(0, .int .i64 n), (1, .int .i64 high)] rfl ⟨by kernel_rfl, by kernel_rfl⟩ ?_
  refine TL.next rfl ?_
  refine TC.seq ?_
  refine TC.region ?_
  refine TL.run 3 [] [(0, .int .i64 n), (1, .int .i64 high), (7, .bool (decide (n < 0)))] rfl ⟨by kernel_rfl, by kernel_rfl⟩ ?_
  refine TL.join 7 (decide (n < 0)) 7 [] [] (fun β => [(11, .bool (β || (decide (n > high))))]) (by kernel_rfl) rfl ⟨by kernel_rfl, by kernel_rfl⟩ ⟨by kernel_rfl, by kernel_rfl⟩ ?_
  refine TL.run 8 [] [(4, .bool ((decide (n < 0)) || (decide (n > high))))] rfl ⟨by kernel_rfl, by kernel_rfl⟩ ?_
  refine TL.next rfl ?_
  refine TC.ret ?_
  have e : alert_out n high = ((decide (n < 0)) || (decide (n > high))) := by unfold alert_out; exact rfl
  exact TE.ret [] (.bool ((decide (n < 0)) || (decide (n > high)))) ⟨by kernel_rfl, by kernel_rfl⟩ (by rw [e]; first | done | kernel_rfl)

def alert_Band (seconds : Int) (climb : Int) : Int × Int :=
  let r1 := alert_out seconds 600
  cond r1 (
    (0, 4)) (
    let r2 := alert_out climb 200
    cond r2 (
      (0, 4)) (
      (w64 (100 + (w64 (climb * seconds))), 0)))

set_option maxRecDepth 100000 in
theorem alert_Band_w (seconds : Int) (climb : Int) (w : World) : Calls Try.prog 15 #[.int .i64 seconds, .int .i64 climb] w (Ret w (.tuple #[.int .i64 ((alert_Band seconds climb).1), .int .i64 ((alert_Band seconds climb).2)])) := by
  refine calls_intro (vs := [.int .i64 seconds, .int .i64 climb]) (w := w) Try.func15 rfl Try.ntmps15 rfl ?_
  refine TC.weak [(0, .int .i64 seconds), (1, .int .i64 climb)] (by kernel_rfl) ?_
  refine TC.seq ?_
  refine TC.region ?_
  refine TL.run 2 [] [(0, .int .i64 seconds), (1, .int .i64 climb)] rfl ⟨by kernel_rfl, by kernel_rfl⟩ ?_
  refine TL.next rfl ?_
  refine TC.seq ?_
  refine TC.seq ?_
  refine TC.region ?_
  refine TL.run 1 [] [(0, .int .i64 seconds), (1, .int .i64 climb), (6, .int .i64 seconds)] rfl ⟨by kernel_rfl, by kernel_rfl⟩ ?_
  refine TL.call (some 7) [(0, .int .i64 seconds), (1, .int .i64 climb), (7, .bool ((alert_out seconds 600)))] (fun w _ => alert_out_w seconds 600 w) (by kernel_rfl) (by kernel_rfl) ?_
  generalize hr1 : alert_out seconds 600 = r1
  refine TL.run 3 [] [(0, .int .i64 seconds), (1, .int .i64 climb), (8, .bool r1)] rfl ⟨by kernel_rfl, by kernel_rfl⟩ ?_
  refine TL.split 8 r1 (by kernel_rfl) (fun h1 => ?_) (fun h1 => ?_)
  · refine TL.run 6 [] [(0, .int .i64 seconds), (1, .int .i64 climb), (11, .bool true)] rfl ⟨by kernel_rfl, by kernel_rfl⟩ ?_
    refine TL.next rfl ?_
    refine TC.condT rfl (by kernel_rfl) ?_
    refine TC.seq ?_
    refine TC.region ?_
    refine TL.run 2 [] [(4, .int .i64 0), (5, .int .i64 4)] rfl ⟨by kernel_rfl, by kernel_rfl⟩ ?_
    refine TL.next rfl ?_
    refine TC.ret ?_
    refine TE.ret_then ?_
    have e : alert_Band seconds climb = (0, 4) := by subst hr1; unfold alert_Band; exact cond_t h1 (rfl)
    exact TE.ret [] (.tuple #[.int .i64 0, .int .i64 4]) ⟨by kernel_rfl, by kernel_rfl⟩ (by rw [e]; first | done | kernel_rfl)
  · refine TL.run 4 [] [(0, .int .i64 seconds), (1, .int .i64 climb), (8, .bool false), (9, .int .i64 climb)] rfl ⟨by kernel_rfl, by kernel_rfl⟩ ?_
    refine TL.call (some 10) [(0, .int .i64 seconds), (1, .int .i64 climb), (8, .bool false), (10, .bool ((alert_out climb 200)))] (fun w _ => alert_out_w climb 200 w) (by kernel_rfl) (by kernel_rfl) ?_
    generalize hr2 : alert_out climb 200 = r2
    refine TL.run 6 [] [(0, .int .i64 seconds), (1, .int .i64 climb), (11, .bool r2)] rfl ⟨by kernel_rfl, by kernel_rfl⟩ ?_
    refine TL.next rfl ?_
    refine TC.cond r2 rfl (by kernel_rfl) (fun h2 => ?_) (fun h2 => ?_)
    · refine TC.seq ?_
      refine TC.region ?_
      refine TL.run 2 [] [(4, .int .i64 0), (5, .int .i64 4)] rfl ⟨by kernel_rfl, by kernel_rfl⟩ ?_
      refine TL.next rfl ?_
      refine TC.ret ?_
      refine TE.ret_then ?_
      have e : alert_Band seconds climb = (0, 4) := by subst hr1 hr2; unfold alert_Band; exact cond_f h1 (cond_t h2 (rfl))
      exact TE.ret [] (.tuple #[.int .i64 0, .int .i64 4]) ⟨by kernel_rfl, by kernel_rfl⟩ (by rw [e]; first | done | kernel_rfl)
    · refine TC.skip ?_
      refine TE.next ?_
      refine TC.seq ?_
      refine TC.region ?_
      refine TL.run 6 [] [(4, .int .i64 (w64 (100 + (w64 (climb * seconds))))), (5, .int .i64 0)] rfl ⟨by kernel_rfl, by kernel_rfl⟩ ?_
      refine TL.next rfl ?_
      refine TC.ret ?_
      have e : alert_Band seconds climb = (w64 (100 + (w64 (climb * seconds))), 0) := by subst hr1 hr2; unfold alert_Band; exact cond_f h1 (cond_f h2 (rfl))
      exact TE.ret [] (.tuple #[.int .i64 (w64 (100 + (w64 (climb * seconds)))), .int .i64 0]) ⟨by kernel_rfl, by kernel_rfl⟩ (by rw [e]; first | done | kernel_rfl)

def radar_out (n : Int) (low : Int) (high : Int) : Bool :=
  (decide (n < low)) || (decide (n > high))

set_option maxRecDepth 100000 in
theorem radar_out_w (n : Int) (low : Int) (high : Int) (w : World) : Calls Try.prog 47 #[.int .i64 n, .int .i64 low, .int .i64 high] w (Ret w (.bool (radar_out n low high))) := by
  refine calls_intro (vs := [.int .i64 n, .int .i64 low, .int .i64 high]) (w := w) Try.func47 rfl Try.ntmps47 rfl ?_
  refine TC.weak [(0, .int .i64 n), (1, .int .i64 low), (2, .int .i64 high)] (by kernel_rfl) ?_
  refine TC.seq ?_
  refine TC.region ?_
  refine TL.run 1 [] [(0, .int .i64 n), (1, .int .i64 low), (2, .int .i64 high)] rfl ⟨by kernel_rfl, by kernel_rfl⟩ ?_
  refine TL.next rfl ?_
  refine TC.seq ?_
  refine TC.region ?_
  refine TL.run 4 [] [(0, .int .i64 n), (2, .int .i64 high), (10, .bool (decide (n < low)))] rfl ⟨by kernel_rfl, by kernel_rfl⟩ ?_
  refine TL.join 10 (decide (n < low)) 8 [] [] (fun β => [(14, .bool (β || (decide (n > high))))]) (by kernel_rfl) rfl ⟨by kernel_rfl, by kernel_rfl⟩ ⟨by kernel_rfl, by kernel_rfl⟩ ?_
  refine TL.run 9 [] [(6, .bool ((decide (n < low)) || (decide (n > high))))] rfl ⟨by kernel_rfl, by kernel_rfl⟩ ?_
  refine TL.next rfl ?_
  refine TC.ret ?_
  have e : radar_out n low high = ((decide (n < low)) || (decide (n > high))) := by unfold radar_out; exact rfl
  exact TE.ret [] (.bool ((decide (n < low)) || (decide (n > high)))) ⟨by kernel_rfl, by kernel_rfl⟩ (by rw [e]; first | done | kernel_rfl)

def filter_out (n : Int) (low : Int) (high : Int) : Bool :=
  (decide (n < low)) || (decide (n > high))

set_option maxRecDepth 100000 in
theorem filter_out_w (n : Int) (low : Int) (high : Int) (w : World) : Calls Try.prog 60 #[.int .i64 n, .int .i64 low, .int .i64 high] w (Ret w (.bool (filter_out n low high))) := by
  refine calls_intro (vs := [.int .i64 n, .int .i64 low, .int .i64 high]) (w := w) Try.func60 rfl Try.ntmps60 rfl ?_
  refine TC.weak [(0, .int .i64 n), (1, .int .i64 low), (2, .int .i64 high)] (by kernel_rfl) ?_
  refine TC.seq ?_
  refine TC.region ?_
  refine TL.run 1 [] [(0, .int .i64 n), (1, .int .i64 low), (2, .int .i64 high)] rfl ⟨by kernel_rfl, by kernel_rfl⟩ ?_
  refine TL.next rfl ?_
  refine TC.seq ?_
  refine TC.region ?_
  refine TL.run 4 [] [(0, .int .i64 n), (2, .int .i64 high), (10, .bool (decide (n < low)))] rfl ⟨by kernel_rfl, by kernel_rfl⟩ ?_
  refine TL.join 10 (decide (n < low)) 8 [] [] (fun β => [(14, .bool (β || (decide (n > high))))]) (by kernel_rfl) rfl ⟨by kernel_rfl, by kernel_rfl⟩ ⟨by kernel_rfl, by kernel_rfl⟩ ?_
  refine TL.run 9 [] [(6, .bool ((decide (n < low)) || (decide (n > high))))] rfl ⟨by kernel_rfl, by kernel_rfl⟩ ?_
  refine TL.next rfl ?_
  refine TC.ret ?_
  have e : filter_out n low high = ((decide (n < low)) || (decide (n > high))) := by unfold filter_out; exact rfl
  exact TE.ret [] (.bool ((decide (n < low)) || (decide (n > high)))) ⟨by kernel_rfl, by kernel_rfl⟩ (by rw [e]; first | done | kernel_rfl)

def plane_Check (p : P) : Int :=
  cond ((((decide (p.X < (-1000000))) || (decide (p.X > 1000000))) || (decide (p.Y < (-1000000)))) || (decide (p.Y > 1000000))) (
    4) (
    0)

set_option maxRecDepth 100000 in
theorem plane_Check_w (p : P) (w : World) : Calls Try.prog 58 #[P.v p] w (Ret w (.int .i64 (plane_Check p))) := by
  refine calls_intro (vs := [P.v p]) (w := w) Try.func58 rfl Try.ntmps58 rfl ?_
  refine TC.weak [(0, P.v p)] (by kernel_rfl) ?_
  refine TC.seq ?_
  refine TC.region ?_
  refine TL.write 0 (fun b1 => [(1, .pointer (some ⟨b1, 0, none⟩))]) (fun b1 => [.inl (b1, .cells (P.c p) 40 (0, 0))]) (fun b1 => ⟨by kernel_rfl, by kernel_rfl⟩) (fun b1 => ?_)
  refine TL.run 2 [] [(1, .pointer (some ⟨b1, 0, none⟩))] rfl ⟨by kernel_rfl, by kernel_rfl⟩ ?_
  refine TL.next rfl ?_
  refine TC.seq ?_
  refine TC.seq ?_
  refine TC.region ?_
  refine TL.run 4 [0] [(1, .pointer (some ⟨b1, 0, none⟩)), (6, .bool (decide (p.X < (-1000000))))] rfl ⟨by kernel_rfl, by kernel_rfl⟩ ?_
  refine TL.join 6 (decide (p.X < (-1000000))) 8 [] [0] (fun β => [(1, .pointer (some ⟨b1, 0, none⟩)), (10, .bool (β || (decide (p.X > 1000000))))]) (by kernel_rfl) rfl ⟨by kernel_rfl, by kernel_rfl⟩ ⟨by kernel_rfl, by kernel_rfl⟩ ?_
  refine TL.run 9 [] [(1, .pointer (some ⟨b1, 0, none⟩)), (11, .bool ((decide (p.X < (-1000000))) || (decide (p.X > 1000000))))] rfl ⟨by kernel_rfl, by kernel_rfl⟩ ?_
  refine TL.join 11 ((decide (p.X < (-1000000))) || (decide (p.X > 1000000))) 13 [] [0] (fun β => [(1, .pointer (some ⟨b1, 0, none⟩)), (15, .bool (β || (decide (p.Y < (-1000000)))))]) (by kernel_rfl) rfl ⟨by kernel_rfl, by kernel_rfl⟩ ⟨by kernel_rfl, by kernel_rfl⟩ ?_
  refine TL.run 14 [] [(1, .pointer (some ⟨b1, 0, none⟩)), (16, .bool (((decide (p.X < (-1000000))) || (decide (p.X > 1000000))) || (decide (p.Y < (-1000000)))))] rfl ⟨by kernel_rfl, by kernel_rfl⟩ ?_
  refine TL.join 16 (((decide (p.X < (-1000000))) || (decide (p.X > 1000000))) || (decide (p.Y < (-1000000)))) 18 [] [0] (fun β => [(20, .bool (β || (decide (p.Y > 1000000))))]) (by kernel_rfl) rfl ⟨by kernel_rfl, by kernel_rfl⟩ ⟨by kernel_rfl, by kernel_rfl⟩ ?_
  refine TL.next rfl ?_
  refine TC.cond ((((decide (p.X < (-1000000))) || (decide (p.X > 1000000))) || (decide (p.Y < (-1000000)))) || (decide (p.Y > 1000000))) rfl (by kernel_rfl) (fun h1 => ?_) (fun h1 => ?_)
  · refine TC.seq ?_
    refine TC.region ?_
    refine TL.run 1 [] [(2, .int .i64 4)] rfl ⟨by kernel_rfl, by kernel_rfl⟩ ?_
    refine TL.next rfl ?_
    refine TC.ret ?_
    refine TE.ret_then ?_
    have e : plane_Check p = 4 := by unfold plane_Check; exact cond_t h1 (rfl)
    exact TE.ret [] (.int .i64 4) ⟨by kernel_rfl, by kernel_rfl⟩ (by rw [e]; first | done | kernel_rfl)
  · refine TC.skip ?_
    refine TE.next ?_
    refine TC.seq ?_
    refine TC.region ?_
    refine TL.run 1 [] [(2, .int .i64 0)] rfl ⟨by kernel_rfl, by kernel_rfl⟩ ?_
    refine TL.next rfl ?_
    refine TC.ret ?_
    have e : plane_Check p = 0 := by unfold plane_Check; exact cond_f h1 (rfl)
    exact TE.ret [] (.int .i64 0) ⟨by kernel_rfl, by kernel_rfl⟩ (by rw [e]; first | done | kernel_rfl)

def radar_CheckSpot (s : Spot) : Int :=
  let r1 := radar_out s.Time 0 200000
  cond r1 (
    4) (
    let r2 := plane_Check s.At
    cond (r2 != 0) (
      4) (
      let r3 := radar_out s.Height 0 60000
      cond r3 (
        4) (
        let r4 := radar_out s.Code (-1) 4095
        cond r4 (
          4) (
          let r5 := radar_out s.Error 0 1000000
          cond r5 (
            4) (
            0)))))

set_option maxRecDepth 100000 in
theorem radar_CheckSpot_w (s : Spot) (w : World) : Calls Try.prog 61 #[Spot.v s] w (Ret w (.int .i64 (radar_CheckSpot s))) := by
  refine calls_intro (vs := [Spot.v s]) (w := w) Try.func61 rfl Try.ntmps61 rfl ?_
  refine TC.weak [(0, Spot.v s)] (by kernel_rfl) ?_
  refine TC.seq ?_
  refine TC.region ?_
  refine TL.write 0 (fun b1 => [(1, .pointer (some ⟨b1, 0, none⟩))]) (fun b1 => [.inl (b1, .cells (Spot.c s) 51 (0, 0))]) (fun b1 => ⟨by kernel_rfl, by kernel_rfl⟩) (fun b1 => ?_)
  refine TL.run 2 [] [(1, .pointer (some ⟨b1, 0, none⟩))] rfl ⟨by kernel_rfl, by kernel_rfl⟩ ?_
  refine TL.next rfl ?_
  refine TC.seq ?_
  refine TC.seq ?_
  refine TC.region ?_
  refine TL.run 2 [0] [(1, .pointer (some ⟨b1, 0, none⟩)), (4, .int .i64 s.Time)] rfl ⟨by kernel_rfl, by kernel_rfl⟩ ?_
  refine TL.call (some 5) [(1, .pointer (some ⟨b1, 0, none⟩)), (5, .bool ((radar_out s.Time 0 200000)))] (fun w _ => radar_out_w s.Time 0 200000 w) (by kernel_rfl) (by kernel_rfl) ?_
  generalize hr1 : radar_out s.Time 0 200000 = r1
  refine TL.run 4 [] [(1, .pointer (some ⟨b1, 0, none⟩)), (6, .bool r1)] rfl ⟨by kernel_rfl, by kernel_rfl⟩ ?_
  refine TL.split 6 r1 (by kernel_rfl) (fun h1 => ?_) (fun h1 => ?_)
  · refine TL.run 24 [] [(26, .bool true)] rfl ⟨by kernel_rfl, by kernel_rfl⟩ ?_
    refine TL.next rfl ?_
    refine TC.condT rfl (by kernel_rfl) ?_
    refine TC.seq ?_
    refine TC.region ?_
    refine TL.run 1 [] [(2, .int .i64 4)] rfl ⟨by kernel_rfl, by kernel_rfl⟩ ?_
    refine TL.next rfl ?_
    refine TC.ret ?_
    refine TE.ret_then ?_
    have e : radar_CheckSpot s = 4 := by subst hr1; unfold radar_CheckSpot; exact cond_t h1 (rfl)
    exact TE.ret [] (.int .i64 4) ⟨by kernel_rfl, by kernel_rfl⟩ (by rw [e]; first | done | kernel_rfl)
  · refine TL.run 6 [0] [(1, .pointer (some ⟨b1, 0, none⟩)), (6, .bool false), (8, P.v s.At)] rfl ⟨by kernel_rfl, by kernel_rfl⟩ ?_
    refine TL.call (some 9) [(1, .pointer (some ⟨b1, 0, none⟩)), (6, .bool false), (9, .int .i64 (plane_Check s.At))] (fun w _ => plane_Check_w s.At w) (by kernel_rfl) (by kernel_rfl) ?_
    generalize hr2 : plane_Check s.At = r2
    refine TL.run 10 [] [(1, .pointer (some ⟨b1, 0, none⟩)), (12, .bool (r2 != 0))] rfl ⟨by kernel_rfl, by kernel_rfl⟩ ?_
    refine TL.split 12 (r2 != 0) (by kernel_rfl) (fun h2 => ?_) (fun h2 => ?_)
    · refine TL.run 24 [] [(26, .bool true)] rfl ⟨by kernel_rfl, by kernel_rfl⟩ ?_
      refine TL.next rfl ?_
      refine TC.condT rfl (by kernel_rfl) ?_
      refine TC.seq ?_
      refine TC.region ?_
      refine TL.run 1 [] [(2, .int .i64 4)] rfl ⟨by kernel_rfl, by kernel_rfl⟩ ?_
      refine TL.next rfl ?_
      refine TC.ret ?_
      refine TE.ret_then ?_
      have e : radar_CheckSpot s = 4 := by subst hr1 hr2; unfold radar_CheckSpot; exact cond_f h1 (cond_t h2 (rfl))
      exact TE.ret [] (.int .i64 4) ⟨by kernel_rfl, by kernel_rfl⟩ (by rw [e]; first | done | kernel_rfl)
    · refine TL.run 12 [0] [(1, .pointer (some ⟨b1, 0, none⟩)), (12, .bool false), (14, .int .i64 s.Height)] rfl ⟨by kernel_rfl, by kernel_rfl⟩ ?_
      refine TL.call (some 15) [(1, .pointer (some ⟨b1, 0, none⟩)), (12, .bool false), (15, .bool ((radar_out s.Height 0 60000)))] (fun w _ => radar_out_w s.Height 0 60000 w) (by kernel_rfl) (by kernel_rfl) ?_
      generalize hr3 : radar_out s.Height 0 60000 = r3
      refine TL.run 15 [] [(1, .pointer (some ⟨b1, 0, none⟩)), (17, .bool r3)] rfl ⟨by kernel_rfl, by kernel_rfl⟩ ?_
      refine TL.split 17 r3 (by kernel_rfl) (fun h3 => ?_) (fun h3 => ?_)
      · refine TL.run 24 [] [(26, .bool true)] rfl ⟨by kernel_rfl, by kernel_rfl⟩ ?_
        refine TL.next rfl ?_
        refine TC.condT rfl (by kernel_rfl) ?_
        refine TC.seq ?_
        refine TC.region ?_
        refine TL.run 1 [] [(2, .int .i64 4)] rfl ⟨by kernel_rfl, by kernel_rfl⟩ ?_
        refine TL.next rfl ?_
        refine TC.ret ?_
        refine TE.ret_then ?_
        have e : radar_CheckSpot s = 4 := by subst hr1 hr2 hr3; unfold radar_CheckSpot; exact cond_f h1 (cond_f h2 (cond_t h3 (rfl)))
        exact TE.ret [] (.int .i64 4) ⟨by kernel_rfl, by kernel_rfl⟩ (by rw [e]; first | done | kernel_rfl)
      · refine TL.run 17 [0] [(1, .pointer (some ⟨b1, 0, none⟩)), (17, .bool false), (19, .int .i64 s.Code)] rfl ⟨by kernel_rfl, by kernel_rfl⟩ ?_
        refine TL.call (some 20) [(1, .pointer (some ⟨b1, 0, none⟩)), (17, .bool false), (20, .bool ((radar_out s.Code (-1) 4095)))] (fun w _ => radar_out_w s.Code (-1) 4095 w) (by kernel_rfl) (by kernel_rfl) ?_
        generalize hr4 : radar_out s.Code (-1) 4095 = r4
        refine TL.run 20 [] [(1, .pointer (some ⟨b1, 0, none⟩)), (22, .bool r4)] rfl ⟨by kernel_rfl, by kernel_rfl⟩ ?_
        refine TL.split 22 r4 (by kernel_rfl) (fun h4 => ?_) (fun h4 => ?_)
        · refine TL.run 24 [] [(26, .bool true)] rfl ⟨by kernel_rfl, by kernel_rfl⟩ ?_
          refine TL.next rfl ?_
          refine TC.condT rfl (by kernel_rfl) ?_
          refine TC.seq ?_
          refine TC.region ?_
          refine TL.run 1 [] [(2, .int .i64 4)] rfl ⟨by kernel_rfl, by kernel_rfl⟩ ?_
          refine TL.next rfl ?_
          refine TC.ret ?_
          refine TE.ret_then ?_
          have e : radar_CheckSpot s = 4 := by subst hr1 hr2 hr3 hr4; unfold radar_CheckSpot; exact cond_f h1 (cond_f h2 (cond_f h3 (cond_t h4 (rfl))))
          exact TE.ret [] (.int .i64 4) ⟨by kernel_rfl, by kernel_rfl⟩ (by rw [e]; first | done | kernel_rfl)
        · refine TL.run 22 [0] [(22, .bool false), (24, .int .i64 s.Error)] rfl ⟨by kernel_rfl, by kernel_rfl⟩ ?_
          refine TL.call (some 25) [(22, .bool false), (25, .bool ((radar_out s.Error 0 1000000)))] (fun w _ => radar_out_w s.Error 0 1000000 w) (by kernel_rfl) (by kernel_rfl) ?_
          generalize hr5 : radar_out s.Error 0 1000000 = r5
          refine TL.run 24 [] [(26, .bool r5)] rfl ⟨by kernel_rfl, by kernel_rfl⟩ ?_
          refine TL.next rfl ?_
          refine TC.cond r5 rfl (by kernel_rfl) (fun h5 => ?_) (fun h5 => ?_)
          · refine TC.seq ?_
            refine TC.region ?_
            refine TL.run 1 [] [(2, .int .i64 4)] rfl ⟨by kernel_rfl, by kernel_rfl⟩ ?_
            refine TL.next rfl ?_
            refine TC.ret ?_
            refine TE.ret_then ?_
            have e : radar_CheckSpot s = 4 := by subst hr1 hr2 hr3 hr4 hr5; unfold radar_CheckSpot; exact cond_f h1 (cond_f h2 (cond_f h3 (cond_f h4 (cond_t h5 (rfl)))))
            exact TE.ret [] (.int .i64 4) ⟨by kernel_rfl, by kernel_rfl⟩ (by rw [e]; first | done | kernel_rfl)
          · refine TC.skip ?_
            refine TE.next ?_
            refine TC.seq ?_
            refine TC.region ?_
            refine TL.run 1 [] [(2, .int .i64 0)] rfl ⟨by kernel_rfl, by kernel_rfl⟩ ?_
            refine TL.next rfl ?_
            refine TC.ret ?_
            have e : radar_CheckSpot s = 0 := by subst hr1 hr2 hr3 hr4 hr5; unfold radar_CheckSpot; exact cond_f h1 (cond_f h2 (cond_f h3 (cond_f h4 (cond_f h5 (rfl)))))
            exact TE.ret [] (.int .i64 0) ⟨by kernel_rfl, by kernel_rfl⟩ (by rw [e]; first | done | kernel_rfl)

def climb_Check_L1 (l : List ClimbReport) : List ClimbReport → Nat → ((Unit) ⊕ (Int))
  | [], _ => .inl ()
  | x :: xs, k => cond ((((decide (x.Time < 0)) || (decide (x.Time > 200000))) || (decide (x.Level < 0))) || (decide (x.Level > 600))) (
      .inr 4) (
      cond (decide ((k : Int) > 0)) (
        cond (decide (x.Time ≤ ((l[(k - 1)]?.getD ClimbReport.zero).Time))) (
          .inr 12) (
          climb_Check_L1 l xs (k + 1))) (
        climb_Check_L1 l xs (k + 1)))
def climb_Check (l : List ClimbReport) : Int :=
  cond (decide ((l.length : Int) > 64)) (
    2) (
    Sum.elim (fun _ =>
      0) (fun r => r) (climb_Check_L1 l l 0))

set_option maxRecDepth 100000 in
theorem climb_Check_w (A_l : Option Addr) (c_l : Nat) (l : List ClimbReport) (w : World) (h_l : Rd w 2 A_l (l.map ClimbReport.c)) (_hc_l : l.length ≤ c_l) : Calls Try.prog 41 #[.slice A_l l.length c_l] w (Ret w (.int .i64 (climb_Check l))) := by
  have s_l := h_l.short; rw [List.length_map] at s_l
  refine calls_intro (vs := [.slice A_l l.length c_l]) (w := w) Try.func41 rfl Try.ntmps41 rfl ?_
  refine TC.weak [(0, .slice A_l l.length c_l)] (by kernel_rfl) ?_
  refine TC.seq ?_
  refine TC.region ?_
  refine TL.run 1 [] [(0, .slice A_l l.length c_l)] rfl ⟨by kernel_rfl, by kernel_rfl⟩ ?_
  refine TL.next rfl ?_
  refine TC.seq ?_
  refine TC.seq ?_
  refine TC.region ?_
  refine TL.run 3 [] [(0, .slice A_l l.length c_l), (7, .bool (decide ((l.length : Int) > 64)))] rfl ⟨by kernel_rfl, by kernel_rfl⟩ ?_
  refine TL.next rfl ?_
  refine TC.cond (decide ((l.length : Int) > 64)) rfl (by kernel_rfl) (fun h1 => ?_) (fun h1 => ?_)
  · refine TC.seq ?_
    refine TC.region ?_
    refine TL.run 1 [] [(2, .int .i64 2)] rfl ⟨by kernel_rfl, by kernel_rfl⟩ ?_
    refine TL.next rfl ?_
    refine TC.ret ?_
    refine TE.ret_then ?_
    have e : climb_Check l = 2 := by unfold climb_Check; exact cond_t h1 (rfl)
    exact TE.ret [] (.int .i64 2) ⟨by kernel_rfl, by kernel_rfl⟩ (by rw [e]; first | done | kernel_rfl)
  · refine TC.skip ?_
    refine TE.next ?_
    refine TC.seq ?_
    refine TC.seq ?_
    refine TC.region ?_
    refine TL.run 3 [] [(0, .slice A_l l.length c_l), (8, .slice A_l l.length c_l), (9, .int .i64 (l.length : Int)), (10, .int .i64 0)] rfl ⟨by kernel_rfl, by kernel_rfl⟩ ?_
    refine TL.next rfl ?_
    refine TC.weak [(0, .slice A_l l.length c_l), (8, .slice A_l l.length c_l), (9, .int .i64 (l.length : Int)), (10, .int .i64 0)] (by kernel_rfl) ?_
    obtain ⟨R1, hR⟩ : ∃ R, R = climb_Check_L1 l l 0 := ⟨_, rfl⟩
    refine TC.cut (S := Unit) (fun (_ : Unit) => []) (fun (_ : Unit) => []) (fun (_ : Unit) => R1 = .inl ()) ?_ ?_
    · refine TC.block ?_
      refine TC.loop (X := Nat) (fun k => [(0, .slice A_l l.length c_l), (8, .slice A_l l.length c_l), (9, .int .i64 (l.length : Int)), (10, .int .i64 (k : Int))]) (fun k => []) (fun k => l.length - k) (fun k => k ≤ l.length ∧ R1 = climb_Check_L1 l (l.drop k) k) ?_ 0 ⟨Nat.zero_le _, hR⟩
      rintro k ⟨hk, hI⟩
      refine TC.seq ?_
      refine TC.region ?_
      refine TL.run 1 [] [(0, .slice A_l l.length c_l), (8, .slice A_l l.length c_l), (9, .int .i64 (l.length : Int)), (10, .int .i64 (k : Int)), (11, .bool (decide ((k : Int) < (l.length : Int))))] rfl ⟨by kernel_rfl, by kernel_rfl⟩ ?_
      refine TL.next rfl ?_
      refine TC.seq ?_
      refine TC.cond (decide ((k : Int) < (l.length : Int))) rfl (by kernel_rfl) (fun h2 => ?_) (fun h2 => ?_)
      · have hlt : k < l.length := by have := of_decide_eq_true h2; first | omega | (simp only [List.length_append, List.length_cons, List.length_nil, List.length_set, List.length_replicate, List.length_map, List.length_take, List.length_drop, Nat.zero_add, Nat.add_zero] at this; omega)
        obtain ⟨x, hx⟩ : ∃ x, l[k]? = some x := ⟨_, List.getElem?_eq_getElem hlt⟩
        have hd := drop_at hx
        refine TC.skip ?_
        refine TE.next ?_
        refine TC.seq ?_
        refine TC.block ?_
        refine TC.seq ?_
        refine TC.region ?_
        refine TL.run 1 [] [(0, .slice A_l l.length c_l), (8, .slice A_l l.length c_l), (9, .int .i64 (l.length : Int)), (10, .int .i64 (k : Int)), (12, .int .i64 (k : Int))] rfl ⟨by kernel_rfl, by kernel_rfl⟩ ?_
        refine TL.val (sV (Instr.indexAt 34 (.slice A_l l.length c_l) (.int .i64 (k : Int)))) (some 13) (.pointer (some ((A_l.getD noAddr).add (k * 2)))) [(0, .slice A_l l.length c_l), (8, .slice A_l l.length c_l), (9, .int .i64 (l.length : Int)), (10, .int .i64 (k : Int)), (12, .int .i64 (k : Int)), (13, .pointer (some ((A_l.getD noAddr).add (k * 2))))] (fun w hM => run_index (h_l.sat hM) (by simp) (by kernel_rfl) (by have q0_ := (dec_f h1); first | omega | (simp only [List.length_drop]; omega) | (simp only [w64_eq]; omega)) (by have q0_ := (dec_f h1); first | omega | (simp only [List.length_drop]; omega) | (simp only [w64_eq]; omega))) (by kernel_rfl) (by kernel_rfl) ?_
        refine TL.val (sV (Instr.loadAt 71 (.pointer (some ((A_l.getD noAddr).add (k * 2)))))) (some 14) (ClimbReport.v x) [(0, .slice A_l l.length c_l), (8, .slice A_l l.length c_l), (9, .int .i64 (l.length : Int)), (10, .int .i64 (k : Int)), (12, .int .i64 (k : Int)), (14, ClimbReport.v x)] (fun w hM => run_load_agg (n := 2) (off := 0) (ClimbReport.v x) (h_l.sat hM) (map_at hx) (by kernel_rfl) (by kernel_rfl) (by kernel_rfl)) (by kernel_rfl) (by kernel_rfl) ?_
        refine TL.write 0 (fun b1 => [(0, .slice A_l l.length c_l), (4, .pointer (some ⟨b1, 0, none⟩)), (8, .slice A_l l.length c_l), (9, .int .i64 (l.length : Int)), (10, .int .i64 (k : Int)), (12, .int .i64 (k : Int)), (14, ClimbReport.v x)]) (fun b1 => [.inl (b1, .cells (ClimbReport.c ClimbReport.zero) 71 (0, 0))]) (fun b1 => ⟨by kernel_rfl, by kernel_rfl⟩) (fun b1 => ?_)
        refine TL.run 5 [] [(0, .slice A_l l.length c_l), (3, .int .i64 (k : Int)), (4, .pointer (some ⟨b1, 0, none⟩)), (8, .slice A_l l.length c_l), (9, .int .i64 (l.length : Int)), (10, .int .i64 (k : Int)), (14, ClimbReport.v x)] rfl ⟨by kernel_rfl, by kernel_rfl⟩ ?_
        refine TL.write 0 (fun _ => [(0, .slice A_l l.length c_l), (3, .int .i64 (k : Int)), (4, .pointer (some ⟨b1, 0, none⟩)), (8, .slice A_l l.length c_l), (9, .int .i64 (l.length : Int)), (10, .int .i64 (k : Int))]) (fun _ => [.inl (b1, .cells (ClimbReport.c x) 71 (0, 0))]) (fun _ => ⟨by kernel_rfl, by kernel_rfl⟩) (fun _ => ?_)
        refine TL.next rfl ?_
        refine TC.seq ?_
        refine TC.seq ?_
        refine TC.region ?_
        refine TL.run 4 [0] [(0, .slice A_l l.length c_l), (3, .int .i64 (k : Int)), (4, .pointer (some ⟨b1, 0, none⟩)), (8, .slice A_l l.length c_l), (9, .int .i64 (l.length : Int)), (10, .int .i64 (k : Int)), (18, .bool (decide (x.Time < 0)))] rfl ⟨by kernel_rfl, by kernel_rfl⟩ ?_
        refine TL.join 18 (decide (x.Time < 0)) 8 [] [0] (fun β => [(0, .slice A_l l.length c_l), (3, .int .i64 (k : Int)), (4, .pointer (some ⟨b1, 0, none⟩)), (8, .slice A_l l.length c_l), (9, .int .i64 (l.length : Int)), (10, .int .i64 (k : Int)), (22, .bool (β || (decide (x.Time > 200000))))]) (by kernel_rfl) rfl ⟨by kernel_rfl, by kernel_rfl⟩ ⟨by kernel_rfl, by kernel_rfl⟩ ?_
        refine TL.run 9 [] [(0, .slice A_l l.length c_l), (3, .int .i64 (k : Int)), (4, .pointer (some ⟨b1, 0, none⟩)), (8, .slice A_l l.length c_l), (9, .int .i64 (l.length : Int)), (10, .int .i64 (k : Int)), (23, .bool ((decide (x.Time < 0)) || (decide (x.Time > 200000))))] rfl ⟨by kernel_rfl, by kernel_rfl⟩ ?_
        refine TL.join 23 ((decide (x.Time < 0)) || (decide (x.Time > 200000))) 13 [] [0] (fun β => [(0, .slice A_l l.length c_l), (3, .int .i64 (k : Int)), (4, .pointer (some ⟨b1, 0, none⟩)), (8, .slice A_l l.length c_l), (9, .int .i64 (l.length : Int)), (10, .int .i64 (k : Int)), (27, .bool (β || (decide (x.Level < 0))))]) (by kernel_rfl) rfl ⟨by kernel_rfl, by kernel_rfl⟩ ⟨by kernel_rfl, by kernel_rfl⟩ ?_
        refine TL.run 14 [] [(0, .slice A_l l.length c_l), (3, .int .i64 (k : Int)), (4, .pointer (some ⟨b1, 0, none⟩)), (8, .slice A_l l.length c_l), (9, .int .i64 (l.length : Int)), (10, .int .i64 (k : Int)), (28, .bool (((decide (x.Time < 0)) || (decide (x.Time > 200000))) || (decide (x.Level < 0))))] rfl ⟨by kernel_rfl, by kernel_rfl⟩ ?_
        refine TL.join 28 (((decide (x.Time < 0)) || (decide (x.Time > 200000))) || (decide (x.Level < 0))) 18 [] [0] (fun β => [(0, .slice A_l l.length c_l), (3, .int .i64 (k : Int)), (4, .pointer (some ⟨b1, 0, none⟩)), (8, .slice A_l l.length c_l), (9, .int .i64 (l.length : Int)), (10, .int .i64 (k : Int)), (32, .bool (β || (decide (x.Level > 600))))]) (by kernel_rfl) rfl ⟨by kernel_rfl, by kernel_rfl⟩ ⟨by kernel_rfl, by kernel_rfl⟩ ?_
        refine TL.next rfl ?_
        refine TC.cond ((((decide (x.Time < 0)) || (decide (x.Time > 200000))) || (decide (x.Level < 0))) || (decide (x.Level > 600))) rfl (by kernel_rfl) (fun h3 => ?_) (fun h3 => ?_)
        · refine TC.seq ?_
          refine TC.region ?_
          refine TL.run 1 [] [(2, .int .i64 4)] rfl ⟨by kernel_rfl, by kernel_rfl⟩ ?_
          refine TL.next rfl ?_
          refine TC.ret ?_
          refine TE.ret_then (TE.ret_block (TE.ret_then (TE.ret_then (TE.ret_block (TE.ret_then (TE.ret_then ?_))))))
          have e : climb_Check l = 4 := by unfold climb_Check; exact cond_f h1 (elim_r (hR.symm.trans (hI.trans (by rw [hd]; exact cond_t h3 (rfl)))) rfl)
          exact TE.ret [] (.int .i64 4) ⟨by kernel_rfl, by kernel_rfl⟩ (by rw [e]; first | done | kernel_rfl)
        · refine TC.skip ?_
          refine TE.next ?_
          refine TC.seq ?_
          refine TC.draw 13 (by kernel_rfl) (by kernel_rfl) (by kernel_rfl) ?_
          refine TQ.run 3 [] [(0, .slice A_l l.length c_l), (3, .int .i64 (k : Int)), (4, .pointer (some ⟨b1, 0, none⟩)), (8, .slice A_l l.length c_l), (9, .int .i64 (l.length : Int)), (10, .int .i64 (k : Int)), (35, .bool (decide ((k : Int) > 0)))] rfl ⟨by kernel_rfl, by kernel_rfl⟩ ?_
          refine TQ.split 35 (decide ((k : Int) > 0)) (by kernel_rfl) (fun h4 => ?_) (fun h4 => ?_)
          · refine TQ.run 8 [0] [(0, .slice A_l l.length c_l), (8, .slice A_l l.length c_l), (9, .int .i64 (l.length : Int)), (10, .int .i64 (k : Int)), (35, .bool true), (37, .int .i64 x.Time), (38, .slice A_l l.length c_l), (40, .int .i64 (w64 ((k : Int) - 1)))] rfl ⟨by kernel_rfl, by kernel_rfl⟩ ?_
            refine TQ.rw 40 (.int .i64 (w64 ((k : Int) - 1))) (.int .i64 ((k - 1 : Nat) : Int)) (by kernel_rfl) (w64_pred k (by have q0_ := (dec_f h1); have q1_ := (dec_f (or_f1 (or_f1 (or_f1 h3)))); have q2_ := (dec_f (or_f2 (or_f1 (or_f1 h3)))); have q3_ := (dec_f (or_f2 (or_f1 h3))); have q4_ := (dec_f (or_f2 h3)); have q5_ := (dec_t h4); first | omega | (simp only [List.length_drop]; omega) | (simp only [w64_eq]; omega))) ?_
            refine TQ.val (sV (Instr.indexAt 34 (.slice A_l l.length c_l) (.int .i64 ((k - 1 : Nat) : Int)))) (some 41) (.pointer (some ((A_l.getD noAddr).add ((k - 1) * 2)))) [(0, .slice A_l l.length c_l), (8, .slice A_l l.length c_l), (9, .int .i64 (l.length : Int)), (10, .int .i64 (k : Int)), (35, .bool true), (37, .int .i64 x.Time), (41, .pointer (some ((A_l.getD noAddr).add ((k - 1) * 2))))] (fun w hM => run_index (h_l.sat hM) (by simp) (by kernel_rfl) (by have q0_ := (dec_f h1); have q1_ := (dec_f (or_f1 (or_f1 (or_f1 h3)))); have q2_ := (dec_f (or_f2 (or_f1 (or_f1 h3)))); have q3_ := (dec_f (or_f2 (or_f1 h3))); have q4_ := (dec_f (or_f2 h3)); have q5_ := (dec_t h4); first | omega | (simp only [List.length_drop]; omega) | (simp only [w64_eq]; omega)) (by have q0_ := (dec_f h1); have q1_ := (dec_f (or_f1 (or_f1 (or_f1 h3)))); have q2_ := (dec_f (or_f2 (or_f1 (or_f1 h3)))); have q3_ := (dec_f (or_f2 (or_f1 h3))); have q4_ := (dec_f (or_f2 h3)); have q5_ := (dec_t h4); first | omega | (simp only [List.length_drop]; omega) | (simp only [w64_eq]; omega))) rfl (by kernel_rfl) (by kernel_rfl) ?_
            refine TQ.run 10 [] [(0, .slice A_l l.length c_l), (8, .slice A_l l.length c_l), (9, .int .i64 (l.length : Int)), (10, .int .i64 (k : Int)), (35, .bool true), (37, .int .i64 x.Time), (42, .pointer (some ((A_l.getD noAddr).add ((k - 1) * 2))))] rfl ⟨by kernel_rfl, by kernel_rfl⟩ ?_
            refine TQ.val (sV (Instr.loadAt 3 (.pointer (some ((A_l.getD noAddr).add ((k - 1) * 2)))))) (some 43) (.int .i64 ((l[(k - 1)]?.getD ClimbReport.zero).Time)) [(0, .slice A_l l.length c_l), (8, .slice A_l l.length c_l), (9, .int .i64 (l.length : Int)), (10, .int .i64 (k : Int)), (35, .bool true), (37, .int .i64 x.Time), (43, .int .i64 ((l[(k - 1)]?.getD ClimbReport.zero).Time))] (fun w hM => run_load_one (off := 0) (.int .i64 ((l[(k - 1)]?.getD ClimbReport.zero).Time)) (h_l.sat hM) (map_at (getD_at _ _ ClimbReport.zero (by have q0_ := (dec_f h1); have q1_ := (dec_f (or_f1 (or_f1 (or_f1 h3)))); have q2_ := (dec_f (or_f2 (or_f1 (or_f1 h3)))); have q3_ := (dec_f (or_f2 (or_f1 h3))); have q4_ := (dec_f (or_f2 h3)); have q5_ := (dec_t h4); first | omega | (simp only [List.length_drop]; omega) | (simp only [w64_eq]; omega)))) (by kernel_rfl) (by kernel_rfl)) rfl (by kernel_rfl) (by kernel_rfl) ?_
            refine TQ.run 13 [] [(0, .slice A_l l.length c_l), (8, .slice A_l l.length c_l), (9, .int .i64 (l.length : Int)), (10, .int .i64 (k : Int)), (45, .bool (decide (x.Time ≤ ((l[(k - 1)]?.getD ClimbReport.zero).Time))))] rfl ⟨by kernel_rfl, by kernel_rfl⟩ ?_
            refine TQ.next rfl ?_
            refine TC.cond (decide (x.Time ≤ ((l[(k - 1)]?.getD ClimbReport.zero).Time))) rfl (by kernel_rfl) (fun h5 => ?_) (fun h5 => ?_)
            · refine TC.seq ?_
              refine TC.region ?_
              refine TL.run 1 [] [(2, .int .i64 12)] rfl ⟨by kernel_rfl, by kernel_rfl⟩ ?_
              refine TL.next rfl ?_
              refine TC.ret ?_
              refine TE.ret_block (TE.ret_then (TE.ret_then (TE.ret_block (TE.ret_then (TE.ret_then ?_)))))
              have e : climb_Check l = 12 := by unfold climb_Check; exact cond_f h1 (elim_r (hR.symm.trans (hI.trans (by rw [hd]; exact cond_f h3 (cond_t h4 (cond_t h5 (rfl)))))) rfl)
              exact TE.ret [] (.int .i64 12) ⟨by kernel_rfl, by kernel_rfl⟩ (by rw [e]; first | done | kernel_rfl)
            · refine TC.skip ?_
              refine TE.normal_block ?_
              refine TE.next ?_
              refine TC.region ?_
              refine TL.run 2 [] [(0, .slice A_l l.length c_l), (8, .slice A_l l.length c_l), (9, .int .i64 (l.length : Int)), (10, .int .i64 (w64 ((k : Int) + 1)))] rfl ⟨by kernel_rfl, by kernel_rfl⟩ ?_
              refine TL.done rfl ?_
              refine TE.rw 10 (.int .i64 (w64 ((k : Int) + 1))) (.int .i64 ((k + 1 : Nat) : Int)) (by kernel_rfl) (w64_cast k (by omega)) ?_
              exact TE.again (x := k) (k + 1) ⟨by omega, hI.trans (by rw [hd]; exact cond_f h3 (cond_t h4 (cond_f h5 (rfl))))⟩ (by show l.length - (k + 1) < l.length - k; omega) (by kernel_rfl) (.cons _ (.slnil))
          · refine TQ.run 13 [] [(0, .slice A_l l.length c_l), (8, .slice A_l l.length c_l), (9, .int .i64 (l.length : Int)), (10, .int .i64 (k : Int)), (45, .bool false)] rfl ⟨by kernel_rfl, by kernel_rfl⟩ ?_
            refine TQ.next rfl ?_
            refine TC.condF rfl (by kernel_rfl) ?_
            refine TC.skip ?_
            refine TE.normal_block ?_
            refine TE.next ?_
            refine TC.region ?_
            refine TL.run 2 [] [(0, .slice A_l l.length c_l), (8, .slice A_l l.length c_l), (9, .int .i64 (l.length : Int)), (10, .int .i64 (w64 ((k : Int) + 1)))] rfl ⟨by kernel_rfl, by kernel_rfl⟩ ?_
            refine TL.done rfl ?_
            refine TE.rw 10 (.int .i64 (w64 ((k : Int) + 1))) (.int .i64 ((k + 1 : Nat) : Int)) (by kernel_rfl) (w64_cast k (by omega)) ?_
            exact TE.again (x := k) (k + 1) ⟨by omega, hI.trans (by rw [hd]; exact cond_f h3 (cond_f h4 (rfl)))⟩ (by show l.length - (k + 1) < l.length - k; omega) (by kernel_rfl) (.cons _ (.slnil))
      · have hd : l.drop k = [] := List.drop_eq_nil_of_le (by have := of_decide_eq_false h2; first | omega | (simp at this; omega))
        refine TC.exit ?_
        refine TE.exit_then (TE.exit_then (TE.exit_same ?_))
        exact TE.cut () (hI.trans (by rw [hd]; exact rfl)) (by kernel_rfl) (.slnil)
    · intro _ hJ
      refine TE.next ?_
      refine TC.seq ?_
      refine TC.region ?_
      refine TL.run 1 [] [(2, .int .i64 0)] rfl ⟨by kernel_rfl, by kernel_rfl⟩ ?_
      refine TL.next rfl ?_
      refine TC.ret ?_
      have e : climb_Check l = 0 := by unfold climb_Check; exact cond_f h1 (elim_l (hR.symm.trans hJ) (rfl))
      exact TE.ret [] (.int .i64 0) ⟨by kernel_rfl, by kernel_rfl⟩ (by rw [e]; first | done | kernel_rfl)

def num_DivDown (a : Int) (b_ : Int) : Int × Int :=
  cond (b_ == 0) (
    (0, 10)) (
    cond ((a == (-9223372036854775808)) && (b_ == (-1))) (
      (0, 2)) (
      cond (((a.tmod b_) != 0) && (!((decide (a < 0)) == (decide (b_ < 0))))) (
        (w64 ((w64 (a.tdiv b_)) - 1), 0)) (
        (w64 (a.tdiv b_), 0))))

set_option maxRecDepth 100000 in
theorem num_DivDown_w (a : Int) (b_ : Int) (w : World) : Calls Try.prog 42 #[.int .i64 a, .int .i64 b_] w (Ret w (.tuple #[.int .i64 ((num_DivDown a b_).1), .int .i64 ((num_DivDown a b_).2)])) := by
  refine calls_intro (vs := [.int .i64 a, .int .i64 b_]) (w := w) Try.func42 rfl Try.ntmps42 rfl ?_
  refine TC.weak [(0, .int .i64 a), (1, .int .i64 b_)] (by kernel_rfl) ?_
  refine TC.seq ?_
  refine TC.region ?_
  refine TL.run 2 [] [(0, .int .i64 a), (1, .int .i64 b_)] rfl ⟨by kernel_rfl, by kernel_rfl⟩ ?_
  refine TL.next rfl ?_
  refine TC.seq ?_
  refine TC.block ?_
  refine TC.seq ?_
  refine TC.region ?_
  refine TL.run 3 [] [(0, .int .i64 a), (1, .int .i64 b_), (7, .bool (b_ == 0))] rfl ⟨by kernel_rfl, by kernel_rfl⟩ ?_
  refine TL.next rfl ?_
  refine TC.cond (b_ == 0) rfl (by kernel_rfl) (fun h1 => ?_) (fun h1 => ?_)
  · refine TC.seq ?_
    refine TC.region ?_
    refine TL.run 2 [] [(4, .int .i64 0), (5, .int .i64 10)] rfl ⟨by kernel_rfl, by kernel_rfl⟩ ?_
    refine TL.next rfl ?_
    refine TC.ret ?_
    refine TE.ret_block (TE.ret_then ?_)
    have e : num_DivDown a b_ = (0, 10) := by unfold num_DivDown; exact cond_t h1 (rfl)
    exact TE.ret [] (.tuple #[.int .i64 0, .int .i64 10]) ⟨by kernel_rfl, by kernel_rfl⟩ (by rw [e]; first | done | kernel_rfl)
  · refine TC.seq ?_
    refine TC.region ?_
    refine TL.run 3 [] [(0, .int .i64 a), (1, .int .i64 b_), (13, .bool (a == (-9223372036854775808)))] rfl ⟨by kernel_rfl, by kernel_rfl⟩ ?_
    refine TL.join 13 (a == (-9223372036854775808)) 6 [] [] (fun β => [(0, .int .i64 a), (1, .int .i64 b_), (16, .bool (β && (b_ == (-1))))]) (by kernel_rfl) rfl ⟨by kernel_rfl, by kernel_rfl⟩ ⟨by kernel_rfl, by kernel_rfl⟩ ?_
    refine TL.run 7 [] [(0, .int .i64 a), (1, .int .i64 b_), (10, .bool ((a == (-9223372036854775808)) && (b_ == (-1))))] rfl ⟨by kernel_rfl, by kernel_rfl⟩ ?_
    refine TL.next rfl ?_
    refine TC.cond ((a == (-9223372036854775808)) && (b_ == (-1))) rfl (by kernel_rfl) (fun h2 => ?_) (fun h2 => ?_)
    · refine TC.seq ?_
      refine TC.region ?_
      refine TL.run 2 [] [(4, .int .i64 0), (5, .int .i64 2)] rfl ⟨by kernel_rfl, by kernel_rfl⟩ ?_
      refine TL.next rfl ?_
      refine TC.ret ?_
      refine TE.ret_block (TE.ret_then ?_)
      have e : num_DivDown a b_ = (0, 2) := by unfold num_DivDown; exact cond_f h1 (cond_t h2 (rfl))
      exact TE.ret [] (.tuple #[.int .i64 0, .int .i64 2]) ⟨by kernel_rfl, by kernel_rfl⟩ (by rw [e]; first | done | kernel_rfl)
    · refine TC.skip ?_
      refine TE.normal_block ?_
      refine TE.next ?_
      refine TC.seq ?_
      refine TC.region ?_
      refine TL.run 2 [] [(0, .int .i64 a), (1, .int .i64 b_), (17, .int .i64 a), (18, .int .i64 b_)] rfl ⟨by kernel_rfl, by kernel_rfl⟩ ?_
      refine TL.val (sV (binOp .quo 3 (.int .i64 a) (.int .i64 b_))) (some 19) (.int .i64 (w64 (a.tdiv b_))) [(0, .int .i64 a), (1, .int .i64 b_), (19, .int .i64 (w64 (a.tdiv b_)))] (fun w hM => run_quo (by have q0_ := (beq_f h1); have q1_ := ((and_f h2).imp (fun h => (beq_f h)) (fun h => (beq_f h))); first | omega | (simp only [List.length_drop]; omega) | (simp only [w64_eq]; omega))) (by kernel_rfl) (by kernel_rfl) ?_
      refine TL.run 4 [] [(0, .int .i64 a), (1, .int .i64 b_), (6, .int .i64 (w64 (a.tdiv b_)))] rfl ⟨by kernel_rfl, by kernel_rfl⟩ ?_
      refine TL.next rfl ?_
      refine TC.seq ?_
      refine TC.seq ?_
      refine TC.region ?_
      refine TL.run 2 [] [(0, .int .i64 a), (1, .int .i64 b_), (6, .int .i64 (w64 (a.tdiv b_))), (20, .int .i64 a), (21, .int .i64 b_)] rfl ⟨by kernel_rfl, by kernel_rfl⟩ ?_
      refine TL.val (sV (binOp .rem 3 (.int .i64 a) (.int .i64 b_))) (some 22) (.int .i64 (a.tmod b_)) [(0, .int .i64 a), (1, .int .i64 b_), (6, .int .i64 (w64 (a.tdiv b_))), (22, .int .i64 (a.tmod b_))] (fun w hM => run_rem (by have q0_ := (beq_f h1); have q1_ := ((and_f h2).imp (fun h => (beq_f h)) (fun h => (beq_f h))); first | omega | (simp only [List.length_drop]; omega) | (simp only [w64_eq]; omega))) (by kernel_rfl) (by kernel_rfl) ?_
      refine TL.run 5 [] [(0, .int .i64 a), (1, .int .i64 b_), (6, .int .i64 (w64 (a.tdiv b_))), (24, .bool ((a.tmod b_) != 0))] rfl ⟨by kernel_rfl, by kernel_rfl⟩ ?_
      refine TL.join 24 ((a.tmod b_) != 0) 11 [] [] (fun β => [(6, .int .i64 (w64 (a.tdiv b_))), (30, .bool (β && (!((decide (a < 0)) == (decide (b_ < 0))))))]) (by kernel_rfl) rfl ⟨by kernel_rfl, by kernel_rfl⟩ ⟨by kernel_rfl, by kernel_rfl⟩ ?_
      refine TL.next rfl ?_
      refine TC.cond (((a.tmod b_) != 0) && (!((decide (a < 0)) == (decide (b_ < 0))))) rfl (by kernel_rfl) (fun h3 => ?_) (fun h3 => ?_)
      · refine TC.region ?_
        refine TL.run 3 [] [(6, .int .i64 (w64 ((w64 (a.tdiv b_)) - 1)))] rfl ⟨by kernel_rfl, by kernel_rfl⟩ ?_
        refine TL.next rfl ?_
        refine TC.seq ?_
        refine TC.region ?_
        refine TL.run 3 [] [(4, .int .i64 (w64 ((w64 (a.tdiv b_)) - 1))), (5, .int .i64 0)] rfl ⟨by kernel_rfl, by kernel_rfl⟩ ?_
        refine TL.next rfl ?_
        refine TC.ret ?_
        have e : num_DivDown a b_ = (w64 ((w64 (a.tdiv b_)) - 1), 0) := by unfold num_DivDown; exact cond_f h1 (cond_f h2 (cond_t h3 (rfl)))
        exact TE.ret [] (.tuple #[.int .i64 (w64 ((w64 (a.tdiv b_)) - 1)), .int .i64 0]) ⟨by kernel_rfl, by kernel_rfl⟩ (by rw [e]; first | done | kernel_rfl)
      · refine TC.skip ?_
        refine TE.next ?_
        refine TC.seq ?_
        refine TC.region ?_
        refine TL.run 3 [] [(4, .int .i64 (w64 (a.tdiv b_))), (5, .int .i64 0)] rfl ⟨by kernel_rfl, by kernel_rfl⟩ ?_
        refine TL.next rfl ?_
        refine TC.ret ?_
        have e : num_DivDown a b_ = (w64 (a.tdiv b_), 0) := by unfold num_DivDown; exact cond_f h1 (cond_f h2 (cond_f h3 (rfl)))
        exact TE.ret [] (.tuple #[.int .i64 (w64 (a.tdiv b_)), .int .i64 0]) ⟨by kernel_rfl, by kernel_rfl⟩ (by rw [e]; first | done | kernel_rfl)

def num_DivUp (a : Int) (b_ : Int) : Int × Int :=
  let r1 := num_DivDown a b_
  cond (r1.2 == 0) (
    cond ((a.tmod b_) != 0) (
      (w64 (r1.1 + 1), r1.2)) (
      (r1.1, r1.2))) (
    (r1.1, r1.2))

theorem divUp_ne {a b : Int} {r : Int × Int} (hr : num_DivDown a b = r) (h : (r.2 == 0) = true) : b ≠ 0 := by
  rintro rfl; subst hr; revert h; simp [num_DivDown]

set_option maxRecDepth 100000 in
theorem num_DivUp_w (a : Int) (b_ : Int) (w : World) : Calls Try.prog 43 #[.int .i64 a, .int .i64 b_] w (Ret w (.tuple #[.int .i64 ((num_DivUp a b_).1), .int .i64 ((num_DivUp a b_).2)])) := by
  refine calls_intro (vs := [.int .i64 a, .int .i64 b_]) (w := w) Try.func43 rfl Try.ntmps43 rfl ?_
  refine TC.weak [(0, .int .i64 a), (1, .int .i64 b_)] (by kernel_rfl) ?_
  refine TC.seq ?_
  refine TC.region ?_
  refine TL.run 2 [] [(0, .int .i64 a), (1, .int .i64 b_)] rfl ⟨by kernel_rfl, by kernel_rfl⟩ ?_
  refine TL.next rfl ?_
  refine TC.seq ?_
  refine TC.region ?_
  refine TL.run 2 [] [(0, .int .i64 a), (1, .int .i64 b_), (9, .int .i64 a), (10, .int .i64 b_)] rfl ⟨by kernel_rfl, by kernel_rfl⟩ ?_
  refine TL.call (some 11) [(0, .int .i64 a), (1, .int .i64 b_), (11, .tuple #[.int .i64 ((num_DivDown a b_).1), .int .i64 ((num_DivDown a b_).2)])] (fun w _ => num_DivDown_w a b_ w) (by kernel_rfl) (by kernel_rfl) ?_
  generalize hr1 : num_DivDown a b_ = r1
  refine TL.run 8 [] [(0, .int .i64 a), (1, .int .i64 b_), (6, .int .i64 r1.1), (7, .int .i64 r1.2)] rfl ⟨by kernel_rfl, by kernel_rfl⟩ ?_
  refine TL.next rfl ?_
  refine TC.seq ?_
  refine TC.seq ?_
  refine TC.region ?_
  refine TL.run 3 [] [(0, .int .i64 a), (1, .int .i64 b_), (6, .int .i64 r1.1), (7, .int .i64 r1.2), (16, .bool (r1.2 == 0))] rfl ⟨by kernel_rfl, by kernel_rfl⟩ ?_
  refine TL.split 16 (r1.2 == 0) (by kernel_rfl) (fun h1 => ?_) (fun h1 => ?_)
  · refine TL.run 5 [] [(6, .int .i64 r1.1), (7, .int .i64 r1.2), (16, .bool true), (17, .int .i64 a), (18, .int .i64 b_)] rfl ⟨by kernel_rfl, by kernel_rfl⟩ ?_
    refine TL.val (sV (binOp .rem 3 (.int .i64 a) (.int .i64 b_))) (some 19) (.int .i64 (a.tmod b_)) [(6, .int .i64 r1.1), (7, .int .i64 r1.2), (16, .bool true), (19, .int .i64 (a.tmod b_))] (fun w hM => run_rem (divUp_ne hr1 h1)) (by kernel_rfl) (by kernel_rfl) ?_
    refine TL.run 8 [] [(6, .int .i64 r1.1), (7, .int .i64 r1.2), (21, .bool ((a.tmod b_) != 0))] rfl ⟨by kernel_rfl, by kernel_rfl⟩ ?_
    refine TL.next rfl ?_
    refine TC.cond ((a.tmod b_) != 0) rfl (by kernel_rfl) (fun h2 => ?_) (fun h2 => ?_)
    · refine TC.region ?_
      refine TL.run 3 [] [(6, .int .i64 (w64 (r1.1 + 1))), (7, .int .i64 r1.2)] rfl ⟨by kernel_rfl, by kernel_rfl⟩ ?_
      refine TL.next rfl ?_
      refine TC.seq ?_
      refine TC.region ?_
      refine TL.run 4 [] [(4, .int .i64 (w64 (r1.1 + 1))), (5, .int .i64 r1.2)] rfl ⟨by kernel_rfl, by kernel_rfl⟩ ?_
      refine TL.next rfl ?_
      refine TC.ret ?_
      have e : num_DivUp a b_ = (w64 (r1.1 + 1), r1.2) := by subst hr1; unfold num_DivUp; exact cond_t h1 (cond_t h2 (rfl))
      exact TE.ret [] (.tuple #[.int .i64 (w64 (r1.1 + 1)), .int .i64 r1.2]) ⟨by kernel_rfl, by kernel_rfl⟩ (by rw [e]; first | done | kernel_rfl)
    · refine TC.skip ?_
      refine TE.next ?_
      refine TC.seq ?_
      refine TC.region ?_
      refine TL.run 4 [] [(4, .int .i64 r1.1), (5, .int .i64 r1.2)] rfl ⟨by kernel_rfl, by kernel_rfl⟩ ?_
      refine TL.next rfl ?_
      refine TC.ret ?_
      have e : num_DivUp a b_ = (r1.1, r1.2) := by subst hr1; unfold num_DivUp; exact cond_t h1 (cond_f h2 (rfl))
      exact TE.ret [] (.tuple #[.int .i64 r1.1, .int .i64 r1.2]) ⟨by kernel_rfl, by kernel_rfl⟩ (by rw [e]; first | done | kernel_rfl)
  · refine TL.run 8 [] [(6, .int .i64 r1.1), (7, .int .i64 r1.2), (21, .bool false)] rfl ⟨by kernel_rfl, by kernel_rfl⟩ ?_
    refine TL.next rfl ?_
    refine TC.condF rfl (by kernel_rfl) ?_
    refine TC.skip ?_
    refine TE.next ?_
    refine TC.seq ?_
    refine TC.region ?_
    refine TL.run 4 [] [(4, .int .i64 r1.1), (5, .int .i64 r1.2)] rfl ⟨by kernel_rfl, by kernel_rfl⟩ ?_
    refine TL.next rfl ?_
    refine TC.ret ?_
    have e : num_DivUp a b_ = (r1.1, r1.2) := by subst hr1; unfold num_DivUp; exact cond_f h1 (rfl)
    exact TE.ret [] (.tuple #[.int .i64 r1.1, .int .i64 r1.2]) ⟨by kernel_rfl, by kernel_rfl⟩ (by rw [e]; first | done | kernel_rfl)

def climb_Rates_L2 (x : ClimbReport) : List ClimbReport → Nat → Int → Int → (Int × Int)
  | [], _, low_3, high_3 => (low_3, high_3)
  | x_2 :: xs, k_2, low_3, high_3 => let r2 := num_DivDown (w64 (16 * (w64 ((w64 (100 * (w64 (x_2.Level - x.Level)))) - 99)))) (w64 (x_2.Time - x.Time))
    let r3 := num_DivUp (w64 (16 * (w64 ((w64 (100 * (w64 (x_2.Level - x.Level)))) + 99)))) (w64 (x_2.Time - x.Time))
    climb_Rates_L2 x xs (k_2 + 1) (imax low_3 r2.1) (imin high_3 r3.1)
def climb_Rates_L1 (l : List ClimbReport) : List ClimbReport → Nat → Int → Int → (Int × Int)
  | [], _, low, high => (low, high)
  | x :: xs, k, low, high => bindv (climb_Rates_L2 x (l.drop (k + 1)) 0 low high) (fun (low_4, high_4) =>
      climb_Rates_L1 l xs (k + 1) low_4 high_4)
def climb_Rates (l : List ClimbReport) : Int × Int × Int :=
  let r1 := climb_Check l
  cond (r1 != 0) (
    (0, 0, r1)) (
    bindv (climb_Rates_L1 l l 0 (-3200) 3200) (fun (low_2, high_2) =>
      cond (decide (low_2 > high_2)) (
        (0, 0, 8)) (
        (low_2, high_2, 0))))

set_option maxRecDepth 100000 in
theorem climb_Rates_w (A_l : Option Addr) (c_l : Nat) (l : List ClimbReport) (w : World) (h_l : Rd w 2 A_l (l.map ClimbReport.c)) (hc_l : l.length ≤ c_l) : Calls Try.prog 19 #[.slice A_l l.length c_l] w (Ret w (.tuple #[.int .i64 ((climb_Rates l).1), .int .i64 ((climb_Rates l).2.1), .int .i64 ((climb_Rates l).2.2)])) := by
  have s_l := h_l.short; rw [List.length_map] at s_l
  refine calls_intro (vs := [.slice A_l l.length c_l]) (w := w) Try.func19 rfl Try.ntmps19 rfl ?_
  refine TC.weak [(0, .slice A_l l.length c_l)] (by kernel_rfl) ?_
  refine TC.seq ?_
  refine TC.region ?_
  refine TL.run 3 [] [(0, .slice A_l l.length c_l)] rfl ⟨by kernel_rfl, by kernel_rfl⟩ ?_
  refine TL.next rfl ?_
  refine TC.seq ?_
  refine TC.seq ?_
  refine TC.region ?_
  refine TL.run 1 [] [(0, .slice A_l l.length c_l), (18, .slice A_l l.length c_l)] rfl ⟨by kernel_rfl, by kernel_rfl⟩ ?_
  refine TL.call (some 19) [(0, .slice A_l l.length c_l), (19, .int .i64 (climb_Check l))] (fun w hM => climb_Check_w A_l c_l l w (h_l.sat hM) hc_l) (by kernel_rfl) (by kernel_rfl) ?_
  generalize hr1 : climb_Check l = r1
  refine TL.run 3 [] [(0, .slice A_l l.length c_l), (5, .int .i64 r1)] rfl ⟨by kernel_rfl, by kernel_rfl⟩ ?_
  refine TL.next rfl ?_
  refine TC.seq ?_
  refine TC.region ?_
  refine TL.run 2 [] [(0, .slice A_l l.length c_l), (5, .int .i64 r1), (21, .bool (r1 != 0))] rfl ⟨by kernel_rfl, by kernel_rfl⟩ ?_
  refine TL.next rfl ?_
  refine TC.cond (r1 != 0) rfl (by kernel_rfl) (fun h1 => ?_) (fun h1 => ?_)
  · refine TC.seq ?_
    refine TC.region ?_
    refine TL.run 4 [] [(2, .int .i64 0), (3, .int .i64 0), (4, .int .i64 r1)] rfl ⟨by kernel_rfl, by kernel_rfl⟩ ?_
    refine TL.next rfl ?_
    refine TC.ret ?_
    refine TE.ret_then ?_
    have e : climb_Rates l = (0, 0, r1) := by subst hr1; unfold climb_Rates; exact cond_t h1 (rfl)
    exact TE.ret [] (.tuple #[.int .i64 0, .int .i64 0, .int .i64 r1]) ⟨by kernel_rfl, by kernel_rfl⟩ (by rw [e]; first | done | kernel_rfl)
  · refine TC.skip ?_
    refine TE.next ?_
    refine TC.seq ?_
    refine TC.region ?_
    refine TL.run 2 [] [(0, .slice A_l l.length c_l), (6, .int .i64 (-3200)), (7, .int .i64 3200)] rfl ⟨by kernel_rfl, by kernel_rfl⟩ ?_
    refine TL.next rfl ?_
    refine TC.seq ?_
    refine TC.seq ?_
    refine TC.region ?_
    refine TL.run 3 [] [(0, .slice A_l l.length c_l), (6, .int .i64 (-3200)), (7, .int .i64 3200), (23, .slice A_l l.length c_l), (24, .int .i64 (l.length : Int)), (25, .int .i64 0)] rfl ⟨by kernel_rfl, by kernel_rfl⟩ ?_
    refine TL.next rfl ?_
    refine TC.weak [(0, .slice A_l l.length c_l), (6, .int .i64 (-3200)), (7, .int .i64 3200), (23, .slice A_l l.length c_l), (24, .int .i64 (l.length : Int)), (25, .int .i64 0)] (by kernel_rfl) ?_
    obtain ⟨R1, hR⟩ : ∃ R, R = climb_Rates_L1 l l 0 (-3200) 3200 := ⟨_, rfl⟩
    refine TC.cut (S := Int × Int) (fun (low_2, high_2) => [(6, .int .i64 low_2), (7, .int .i64 high_2)]) (fun (low_2, high_2) => []) (fun (low_2, high_2) => R1 = (low_2, high_2)) ?_ ?_
    · refine TC.block ?_
      refine TC.loop (X := Nat × Int × Int) (fun (k, low, high) => [(0, .slice A_l l.length c_l), (6, .int .i64 low), (7, .int .i64 high), (23, .slice A_l l.length c_l), (24, .int .i64 (l.length : Int)), (25, .int .i64 (k : Int))]) (fun (k, low, high) => []) (fun (k, low, high) => l.length - k) (fun (k, low, high) => k ≤ l.length ∧ R1 = climb_Rates_L1 l (l.drop k) k low high) ?_ (0, (-3200), 3200) ⟨Nat.zero_le _, hR⟩
      rintro ⟨k, low, high⟩ ⟨hk, hI⟩
      refine TC.seq ?_
      refine TC.region ?_
      refine TL.run 1 [] [(0, .slice A_l l.length c_l), (6, .int .i64 low), (7, .int .i64 high), (23, .slice A_l l.length c_l), (24, .int .i64 (l.length : Int)), (25, .int .i64 (k : Int)), (26, .bool (decide ((k : Int) < (l.length : Int))))] rfl ⟨by kernel_rfl, by kernel_rfl⟩ ?_
      refine TL.next rfl ?_
      refine TC.seq ?_
      refine TC.cond (decide ((k : Int) < (l.length : Int))) rfl (by kernel_rfl) (fun h2 => ?_) (fun h2 => ?_)
      · have hlt : k < l.length := by have := of_decide_eq_true h2; first | omega | (simp only [List.length_append, List.length_cons, List.length_nil, List.length_set, List.length_replicate, List.length_map, List.length_take, List.length_drop, Nat.zero_add, Nat.add_zero] at this; omega)
        obtain ⟨x, hx⟩ : ∃ x, l[k]? = some x := ⟨_, List.getElem?_eq_getElem hlt⟩
        have hd := drop_at hx
        refine TC.skip ?_
        refine TE.next ?_
        refine TC.seq ?_
        refine TC.block ?_
        refine TC.seq ?_
        refine TC.region ?_
        refine TL.run 1 [] [(0, .slice A_l l.length c_l), (6, .int .i64 low), (7, .int .i64 high), (23, .slice A_l l.length c_l), (24, .int .i64 (l.length : Int)), (25, .int .i64 (k : Int)), (27, .int .i64 (k : Int))] rfl ⟨by kernel_rfl, by kernel_rfl⟩ ?_
        refine TL.val (sV (Instr.indexAt 34 (.slice A_l l.length c_l) (.int .i64 (k : Int)))) (some 28) (.pointer (some ((A_l.getD noAddr).add (k * 2)))) [(0, .slice A_l l.length c_l), (6, .int .i64 low), (7, .int .i64 high), (23, .slice A_l l.length c_l), (24, .int .i64 (l.length : Int)), (25, .int .i64 (k : Int)), (27, .int .i64 (k : Int)), (28, .pointer (some ((A_l.getD noAddr).add (k * 2))))] (fun w hM => run_index (h_l.sat hM) (by simp) (by kernel_rfl) (by have q0_ := (bne_f h1); first | omega | (simp only [List.length_drop]; omega) | (simp only [w64_eq]; omega)) (by have q0_ := (bne_f h1); first | omega | (simp only [List.length_drop]; omega) | (simp only [w64_eq]; omega))) (by kernel_rfl) (by kernel_rfl) ?_
        refine TL.val (sV (Instr.loadAt 71 (.pointer (some ((A_l.getD noAddr).add (k * 2)))))) (some 29) (ClimbReport.v x) [(0, .slice A_l l.length c_l), (6, .int .i64 low), (7, .int .i64 high), (23, .slice A_l l.length c_l), (24, .int .i64 (l.length : Int)), (25, .int .i64 (k : Int)), (27, .int .i64 (k : Int)), (29, ClimbReport.v x)] (fun w hM => run_load_agg (n := 2) (off := 0) (ClimbReport.v x) (h_l.sat hM) (map_at hx) (by kernel_rfl) (by kernel_rfl) (by kernel_rfl)) (by kernel_rfl) (by kernel_rfl) ?_
        refine TL.write 0 (fun b1 => [(0, .slice A_l l.length c_l), (6, .int .i64 low), (7, .int .i64 high), (9, .pointer (some ⟨b1, 0, none⟩)), (23, .slice A_l l.length c_l), (24, .int .i64 (l.length : Int)), (25, .int .i64 (k : Int)), (27, .int .i64 (k : Int)), (29, ClimbReport.v x)]) (fun b1 => [.inl (b1, .cells (ClimbReport.c ClimbReport.zero) 71 (0, 0))]) (fun b1 => ⟨by kernel_rfl, by kernel_rfl⟩) (fun b1 => ?_)
        refine TL.run 5 [] [(0, .slice A_l l.length c_l), (6, .int .i64 low), (7, .int .i64 high), (8, .int .i64 (k : Int)), (9, .pointer (some ⟨b1, 0, none⟩)), (23, .slice A_l l.length c_l), (24, .int .i64 (l.length : Int)), (25, .int .i64 (k : Int)), (29, ClimbReport.v x)] rfl ⟨by kernel_rfl, by kernel_rfl⟩ ?_
        refine TL.write 0 (fun _ => [(0, .slice A_l l.length c_l), (6, .int .i64 low), (7, .int .i64 high), (8, .int .i64 (k : Int)), (9, .pointer (some ⟨b1, 0, none⟩)), (23, .slice A_l l.length c_l), (24, .int .i64 (l.length : Int)), (25, .int .i64 (k : Int))]) (fun _ => [.inl (b1, .cells (ClimbReport.c x) 71 (0, 0))]) (fun _ => ⟨by kernel_rfl, by kernel_rfl⟩) (fun _ => ?_)
        refine TL.next rfl ?_
        refine TC.seq ?_
        refine TC.region ?_
        refine TL.run 3 [] [(0, .slice A_l l.length c_l), (6, .int .i64 low), (7, .int .i64 high), (9, .pointer (some ⟨b1, 0, none⟩)), (23, .slice A_l l.length c_l), (24, .int .i64 (l.length : Int)), (25, .int .i64 (k : Int)), (30, .slice A_l l.length c_l), (32, .int .i64 (w64 ((k : Int) + 1)))] rfl ⟨by kernel_rfl, by kernel_rfl⟩ ?_
        refine TL.rw 32 (.int .i64 (w64 ((k : Int) + 1))) (.int .i64 ((k + 1 : Nat) : Int)) (by kernel_rfl) (w64_cast k (by omega)) ?_
        obtain ⟨A1, hA1⟩ : ∃ A, A = (if c_l = (k + 1) then A_l else A_l.map (fun a => a.add ((k + 1) * 2))) := ⟨_, rfl⟩
        have hR1 : Rd w 2 A1 ((l.drop (k + 1)).map ClimbReport.c) := by rw [hA1]; exact h_l.dropMap _ hc_l
        have hC1 : (l.drop (k + 1)).length ≤ (c_l - (k + 1)) := by simp only [List.length_drop]; omega
        have s_hR1 := hR1.short; rw [List.length_map] at s_hR1
        refine TL.val (sV (Instr.sliceAt 34 (.slice A_l l.length c_l) (some (.int .i64 ((k + 1 : Nat) : Int))) none none)) (some 33) (.slice A1 ((l.drop (k + 1)).length) (c_l - (k + 1))) [(0, .slice A_l l.length c_l), (6, .int .i64 low), (7, .int .i64 high), (9, .pointer (some ⟨b1, 0, none⟩)), (23, .slice A_l l.length c_l), (24, .int .i64 (l.length : Int)), (25, .int .i64 (k : Int)), (33, .slice A1 ((l.drop (k + 1)).length) (c_l - (k + 1)))] (fun w hM => (run_slice (k + 1) l.length (by kernel_rfl) (.inr ⟨_, _, rfl, (by have q0_ := (bne_f h1); first | omega | (simp only [List.length_drop]; omega) | (simp only [w64_eq]; omega)), rfl⟩) (.inl ⟨rfl, rfl⟩) (by have q0_ := (bne_f h1); first | omega | (simp only [List.length_drop]; omega) | (simp only [w64_eq]; omega)) (by omega)).trans (by rw [hA1]; congr 3; simp only [List.length_drop])) (by kernel_rfl) (by kernel_rfl) ?_
        refine TL.run 6 [] [(0, .slice A_l l.length c_l), (6, .int .i64 low), (7, .int .i64 high), (9, .pointer (some ⟨b1, 0, none⟩)), (23, .slice A_l l.length c_l), (24, .int .i64 (l.length : Int)), (25, .int .i64 (k : Int)), (33, .slice A1 ((l.drop (k + 1)).length) (c_l - (k + 1))), (34, .int .i64 ((l.drop (k + 1)).length : Int)), (35, .int .i64 0)] rfl ⟨by kernel_rfl, by kernel_rfl⟩ ?_
        refine TL.next rfl ?_
        refine TC.weak [(0, .slice A_l l.length c_l), (6, .int .i64 low), (7, .int .i64 high), (9, .pointer (some ⟨b1, 0, none⟩)), (23, .slice A_l l.length c_l), (24, .int .i64 (l.length : Int)), (25, .int .i64 (k : Int)), (33, .slice A1 ((l.drop (k + 1)).length) (c_l - (k + 1))), (34, .int .i64 ((l.drop (k + 1)).length : Int)), (35, .int .i64 0)] (by kernel_rfl) ?_
        obtain ⟨R2, hR_2⟩ : ∃ R, R = climb_Rates_L2 x (l.drop (k + 1)) 0 low high := ⟨_, rfl⟩
        refine TC.cut (S := Int × Int) (fun (low_4, high_4) => [(0, .slice A_l l.length c_l), (6, .int .i64 low_4), (7, .int .i64 high_4), (23, .slice A_l l.length c_l), (24, .int .i64 (l.length : Int)), (25, .int .i64 (k : Int))]) (fun (low_4, high_4) => []) (fun (low_4, high_4) => R2 = (low_4, high_4)) ?_ ?_
        · refine TC.block ?_
          refine TC.loop (X := Nat × Int × Int) (fun (k_2, low_3, high_3) => [(0, .slice A_l l.length c_l), (6, .int .i64 low_3), (7, .int .i64 high_3), (9, .pointer (some ⟨b1, 0, none⟩)), (23, .slice A_l l.length c_l), (24, .int .i64 (l.length : Int)), (25, .int .i64 (k : Int)), (33, .slice A1 ((l.drop (k + 1)).length) (c_l - (k + 1))), (34, .int .i64 ((l.drop (k + 1)).length : Int)), (35, .int .i64 (k_2 : Int))]) (fun (k_2, low_3, high_3) => [.inl (b1, .cells (ClimbReport.c x) 71 (0, 0))]) (fun (k_2, low_3, high_3) => (l.drop (k + 1)).length - k_2) (fun (k_2, low_3, high_3) => k_2 ≤ (l.drop (k + 1)).length ∧ R2 = climb_Rates_L2 x ((l.drop (k + 1)).drop k_2) k_2 low_3 high_3) ?_ (0, low, high) ⟨Nat.zero_le _, hR_2⟩
          rintro ⟨k_2, low_3, high_3⟩ ⟨hk_2, hI_2⟩
          refine TC.seq ?_
          refine TC.region ?_
          refine TL.run 1 [] [(0, .slice A_l l.length c_l), (6, .int .i64 low_3), (7, .int .i64 high_3), (9, .pointer (some ⟨b1, 0, none⟩)), (23, .slice A_l l.length c_l), (24, .int .i64 (l.length : Int)), (25, .int .i64 (k : Int)), (33, .slice A1 ((l.drop (k + 1)).length) (c_l - (k + 1))), (34, .int .i64 ((l.drop (k + 1)).length : Int)), (35, .int .i64 (k_2 : Int)), (36, .bool (decide ((k_2 : Int) < ((l.drop (k + 1)).length : Int))))] rfl ⟨by kernel_rfl, by kernel_rfl⟩ ?_
          refine TL.next rfl ?_
          refine TC.seq ?_
          refine TC.cond (decide ((k_2 : Int) < ((l.drop (k + 1)).length : Int))) rfl (by kernel_rfl) (fun h3 => ?_) (fun h3 => ?_)
          · have hlt_2 : k_2 < (l.drop (k + 1)).length := by have := of_decide_eq_true h3; first | omega | (simp only [List.length_append, List.length_cons, List.length_nil, List.length_set, List.length_replicate, List.length_map, List.length_take, List.length_drop, Nat.zero_add, Nat.add_zero] at this; omega)
            obtain ⟨x_2, hx_2⟩ : ∃ x, (l.drop (k + 1))[k_2]? = some x := ⟨_, List.getElem?_eq_getElem hlt_2⟩
            have hd_2 := drop_at hx_2
            refine TC.skip ?_
            refine TE.next ?_
            refine TC.seq ?_
            refine TC.block ?_
            refine TC.seq ?_
            refine TC.region ?_
            refine TL.val (sV (Instr.indexAt 34 (.slice A1 ((l.drop (k + 1)).length) (c_l - (k + 1))) (.int .i64 (k_2 : Int)))) (some 37) (.pointer (some ((A1.getD noAddr).add (k_2 * 2)))) [(0, .slice A_l l.length c_l), (6, .int .i64 low_3), (7, .int .i64 high_3), (9, .pointer (some ⟨b1, 0, none⟩)), (23, .slice A_l l.length c_l), (24, .int .i64 (l.length : Int)), (25, .int .i64 (k : Int)), (33, .slice A1 ((l.drop (k + 1)).length) (c_l - (k + 1))), (34, .int .i64 ((l.drop (k + 1)).length : Int)), (35, .int .i64 (k_2 : Int)), (37, .pointer (some ((A1.getD noAddr).add (k_2 * 2))))] (fun w hM => run_index (hR1.sat hM) (by simp) (by kernel_rfl) (by have q0_ := (bne_f h1); first | omega | (simp only [List.length_drop]; omega) | (simp only [w64_eq]; omega)) (by have q0_ := (bne_f h1); first | omega | (simp only [List.length_drop]; omega) | (simp only [w64_eq]; omega))) (by kernel_rfl) (by kernel_rfl) ?_
            refine TL.val (sV (Instr.loadAt 71 (.pointer (some ((A1.getD noAddr).add (k_2 * 2)))))) (some 38) (ClimbReport.v x_2) [(0, .slice A_l l.length c_l), (6, .int .i64 low_3), (7, .int .i64 high_3), (9, .pointer (some ⟨b1, 0, none⟩)), (23, .slice A_l l.length c_l), (24, .int .i64 (l.length : Int)), (25, .int .i64 (k : Int)), (33, .slice A1 ((l.drop (k + 1)).length) (c_l - (k + 1))), (34, .int .i64 ((l.drop (k + 1)).length : Int)), (35, .int .i64 (k_2 : Int)), (38, ClimbReport.v x_2)] (fun w hM => run_load_agg (n := 2) (off := 0) (ClimbReport.v x_2) (hR1.sat hM) (map_at hx_2) (by kernel_rfl) (by kernel_rfl) (by kernel_rfl)) (by kernel_rfl) (by kernel_rfl) ?_
            refine TL.write 0 (fun b2 => [(0, .slice A_l l.length c_l), (6, .int .i64 low_3), (7, .int .i64 high_3), (9, .pointer (some ⟨b1, 0, none⟩)), (11, .pointer (some ⟨b2, 0, none⟩)), (23, .slice A_l l.length c_l), (24, .int .i64 (l.length : Int)), (25, .int .i64 (k : Int)), (33, .slice A1 ((l.drop (k + 1)).length) (c_l - (k + 1))), (34, .int .i64 ((l.drop (k + 1)).length : Int)), (35, .int .i64 (k_2 : Int)), (38, ClimbReport.v x_2)]) (fun b2 => [.inl (b2, .cells (ClimbReport.c ClimbReport.zero) 71 (0, 0)), .inl (b1, .cells (ClimbReport.c x) 71 (0, 0))]) (fun b2 => ⟨by kernel_rfl, by kernel_rfl⟩) (fun b2 => ?_)
            refine TL.write 0 (fun _ => [(0, .slice A_l l.length c_l), (6, .int .i64 low_3), (7, .int .i64 high_3), (9, .pointer (some ⟨b1, 0, none⟩)), (11, .pointer (some ⟨b2, 0, none⟩)), (23, .slice A_l l.length c_l), (24, .int .i64 (l.length : Int)), (25, .int .i64 (k : Int)), (33, .slice A1 ((l.drop (k + 1)).length) (c_l - (k + 1))), (34, .int .i64 ((l.drop (k + 1)).length : Int)), (35, .int .i64 (k_2 : Int))]) (fun _ => [.inl (b2, .cells (ClimbReport.c x_2) 71 (0, 0)), .inl (b1, .cells (ClimbReport.c x) 71 (0, 0))]) (fun _ => ⟨by kernel_rfl, by kernel_rfl⟩) (fun _ => ?_)
            refine TL.next rfl ?_
            refine TC.seq ?_
            refine TC.draw 13 (by kernel_rfl) (by kernel_rfl) (by kernel_rfl) ?_
            refine TQ.run 13 [0, 1, 0, 1] [(0, .slice A_l l.length c_l), (6, .int .i64 low_3), (7, .int .i64 high_3), (9, .pointer (some ⟨b1, 0, none⟩)), (12, .int .i64 (w64 (x_2.Time - x.Time))), (13, .int .i64 (w64 (100 * (w64 (x_2.Level - x.Level))))), (23, .slice A_l l.length c_l), (24, .int .i64 (l.length : Int)), (25, .int .i64 (k : Int)), (33, .slice A1 ((l.drop (k + 1)).length) (c_l - (k + 1))), (34, .int .i64 ((l.drop (k + 1)).length : Int)), (35, .int .i64 (k_2 : Int))] rfl ⟨by kernel_rfl, by kernel_rfl⟩ ?_
            refine TQ.next rfl ?_
            refine TC.seq ?_
            refine TC.region ?_
            refine TL.run 4 [] [(0, .slice A_l l.length c_l), (6, .int .i64 low_3), (7, .int .i64 high_3), (9, .pointer (some ⟨b1, 0, none⟩)), (12, .int .i64 (w64 (x_2.Time - x.Time))), (13, .int .i64 (w64 (100 * (w64 (x_2.Level - x.Level))))), (23, .slice A_l l.length c_l), (24, .int .i64 (l.length : Int)), (25, .int .i64 (k : Int)), (33, .slice A1 ((l.drop (k + 1)).length) (c_l - (k + 1))), (34, .int .i64 ((l.drop (k + 1)).length : Int)), (35, .int .i64 (k_2 : Int)), (53, .int .i64 (w64 (16 * (w64 ((w64 (100 * (w64 (x_2.Level - x.Level)))) - 99))))), (54, .int .i64 (w64 (x_2.Time - x.Time)))] rfl ⟨by kernel_rfl, by kernel_rfl⟩ ?_
            refine TL.call (some 55) [(0, .slice A_l l.length c_l), (6, .int .i64 low_3), (7, .int .i64 high_3), (9, .pointer (some ⟨b1, 0, none⟩)), (12, .int .i64 (w64 (x_2.Time - x.Time))), (13, .int .i64 (w64 (100 * (w64 (x_2.Level - x.Level))))), (23, .slice A_l l.length c_l), (24, .int .i64 (l.length : Int)), (25, .int .i64 (k : Int)), (33, .slice A1 ((l.drop (k + 1)).length) (c_l - (k + 1))), (34, .int .i64 ((l.drop (k + 1)).length : Int)), (35, .int .i64 (k_2 : Int)), (55, .tuple #[.int .i64 ((num_DivDown (w64 (16 * (w64 ((w64 (100 * (w64 (x_2.Level - x.Level)))) - 99)))) (w64 (x_2.Time - x.Time))).1), .int .i64 ((num_DivDown (w64 (16 * (w64 ((w64 (100 * (w64 (x_2.Level - x.Level)))) - 99)))) (w64 (x_2.Time - x.Time))).2)])] (fun w _ => num_DivDown_w (w64 (16 * (w64 ((w64 (100 * (w64 (x_2.Level - x.Level)))) - 99)))) (w64 (x_2.Time - x.Time)) w) (by kernel_rfl) (by kernel_rfl) ?_
            generalize hr2 : num_DivDown (w64 (16 * (w64 ((w64 (100 * (w64 (x_2.Level - x.Level)))) - 99)))) (w64 (x_2.Time - x.Time)) = r2
            refine TL.run 10 [] [(0, .slice A_l l.length c_l), (6, .int .i64 low_3), (7, .int .i64 high_3), (9, .pointer (some ⟨b1, 0, none⟩)), (12, .int .i64 (w64 (x_2.Time - x.Time))), (13, .int .i64 (w64 (100 * (w64 (x_2.Level - x.Level))))), (14, .int .i64 r2.1), (23, .slice A_l l.length c_l), (24, .int .i64 (l.length : Int)), (25, .int .i64 (k : Int)), (33, .slice A1 ((l.drop (k + 1)).length) (c_l - (k + 1))), (34, .int .i64 ((l.drop (k + 1)).length : Int)), (35, .int .i64 (k_2 : Int))] rfl ⟨by kernel_rfl, by kernel_rfl⟩ ?_
            refine TL.next rfl ?_
            refine TC.seq ?_
            refine TC.region ?_
            refine TL.run 4 [] [(0, .slice A_l l.length c_l), (6, .int .i64 low_3), (7, .int .i64 high_3), (9, .pointer (some ⟨b1, 0, none⟩)), (14, .int .i64 r2.1), (23, .slice A_l l.length c_l), (24, .int .i64 (l.length : Int)), (25, .int .i64 (k : Int)), (33, .slice A1 ((l.drop (k + 1)).length) (c_l - (k + 1))), (34, .int .i64 ((l.drop (k + 1)).length : Int)), (35, .int .i64 (k_2 : Int)), (61, .int .i64 (w64 (16 * (w64 ((w64 (100 * (w64 (x_2.Level - x.Level)))) + 99))))), (62, .int .i64 (w64 (x_2.Time - x.Time)))] rfl ⟨by kernel_rfl, by kernel_rfl⟩ ?_
            refine TL.call (some 63) [(0, .slice A_l l.length c_l), (6, .int .i64 low_3), (7, .int .i64 high_3), (9, .pointer (some ⟨b1, 0, none⟩)), (14, .int .i64 r2.1), (23, .slice A_l l.length c_l), (24, .int .i64 (l.length : Int)), (25, .int .i64 (k : Int)), (33, .slice A1 ((l.drop (k + 1)).length) (c_l - (k + 1))), (34, .int .i64 ((l.drop (k + 1)).length : Int)), (35, .int .i64 (k_2 : Int)), (63, .tuple #[.int .i64 ((num_DivUp (w64 (16 * (w64 ((w64 (100 * (w64 (x_2.Level - x.Level)))) + 99)))) (w64 (x_2.Time - x.Time))).1), .int .i64 ((num_DivUp (w64 (16 * (w64 ((w64 (100 * (w64 (x_2.Level - x.Level)))) + 99)))) (w64 (x_2.Time - x.Time))).2)])] (fun w _ => num_DivUp_w (w64 (16 * (w64 ((w64 (100 * (w64 (x_2.Level - x.Level)))) + 99)))) (w64 (x_2.Time - x.Time)) w) (by kernel_rfl) (by kernel_rfl) ?_
            generalize hr3 : num_DivUp (w64 (16 * (w64 ((w64 (100 * (w64 (x_2.Level - x.Level)))) + 99)))) (w64 (x_2.Time - x.Time)) = r3
            refine TL.run 10 [] [(0, .slice A_l l.length c_l), (6, .int .i64 low_3), (7, .int .i64 high_3), (9, .pointer (some ⟨b1, 0, none⟩)), (14, .int .i64 r2.1), (16, .int .i64 r3.1), (23, .slice A_l l.length c_l), (24, .int .i64 (l.length : Int)), (25, .int .i64 (k : Int)), (33, .slice A1 ((l.drop (k + 1)).length) (c_l - (k + 1))), (34, .int .i64 ((l.drop (k + 1)).length : Int)), (35, .int .i64 (k_2 : Int))] rfl ⟨by kernel_rfl, by kernel_rfl⟩ ?_
            refine TL.next rfl ?_
            refine TC.region ?_
            refine TL.run 8 [] [(0, .slice A_l l.length c_l), (6, .int .i64 (imax low_3 r2.1)), (7, .int .i64 (imin high_3 r3.1)), (9, .pointer (some ⟨b1, 0, none⟩)), (23, .slice A_l l.length c_l), (24, .int .i64 (l.length : Int)), (25, .int .i64 (k : Int)), (33, .slice A1 ((l.drop (k + 1)).length) (c_l - (k + 1))), (34, .int .i64 ((l.drop (k + 1)).length : Int)), (35, .int .i64 (k_2 : Int))] rfl ⟨by kernel_rfl, by kernel_rfl⟩ ?_
            refine TL.done rfl ?_
            refine TE.normal_block ?_
            refine TE.next ?_
            refine TC.region ?_
            refine TL.run 2 [] [(0, .slice A_l l.length c_l), (6, .int .i64 (imax low_3 r2.1)), (7, .int .i64 (imin high_3 r3.1)), (9, .pointer (some ⟨b1, 0, none⟩)), (23, .slice A_l l.length c_l), (24, .int .i64 (l.length : Int)), (25, .int .i64 (k : Int)), (33, .slice A1 ((l.drop (k + 1)).length) (c_l - (k + 1))), (34, .int .i64 ((l.drop (k + 1)).length : Int)), (35, .int .i64 (w64 ((k_2 : Int) + 1)))] rfl ⟨by kernel_rfl, by kernel_rfl⟩ ?_
            refine TL.done rfl ?_
            refine TE.rw 35 (.int .i64 (w64 ((k_2 : Int) + 1))) (.int .i64 ((k_2 + 1 : Nat) : Int)) (by kernel_rfl) (w64_cast k_2 (by omega)) ?_
            exact TE.again (x := (k_2, low_3, high_3)) (k_2 + 1, imax low_3 r2.1, imin high_3 r3.1) ⟨by omega, hI_2.trans (by subst hr1 hr2 hr3; rw [hd_2]; exact rfl)⟩ (by show (l.drop (k + 1)).length - (k_2 + 1) < (l.drop (k + 1)).length - k_2; omega) (by kernel_rfl) (.cons _ (.cons_cons _ (.slnil)))
          · have hd_2 : (l.drop (k + 1)).drop k_2 = [] := List.drop_eq_nil_of_le (by have := of_decide_eq_false h3; first | omega | (simp at this; omega))
            refine TC.exit ?_
            refine TE.exit_then (TE.exit_then (TE.exit_same ?_))
            exact TE.cut (low_3, high_3) (hI_2.trans (by subst hr1; rw [hd_2]; exact rfl)) (by kernel_rfl) (.cons _ (.slnil))
        · rintro ⟨low_4, high_4⟩ hJ_2
          refine TE.normal_block ?_
          refine TE.next ?_
          refine TC.region ?_
          refine TL.run 2 [] [(0, .slice A_l l.length c_l), (6, .int .i64 low_4), (7, .int .i64 high_4), (23, .slice A_l l.length c_l), (24, .int .i64 (l.length : Int)), (25, .int .i64 (w64 ((k : Int) + 1)))] rfl ⟨by kernel_rfl, by kernel_rfl⟩ ?_
          refine TL.done rfl ?_
          refine TE.rw 25 (.int .i64 (w64 ((k : Int) + 1))) (.int .i64 ((k + 1 : Nat) : Int)) (by kernel_rfl) (w64_cast k (by omega)) ?_
          exact TE.again (x := (k, low, high)) (k + 1, low_4, high_4) ⟨by omega, hI.trans (by subst hr1; rw [hd]; exact bindv_eq (hR_2.symm.trans hJ_2) (rfl))⟩ (by show l.length - (k + 1) < l.length - k; omega) (by kernel_rfl) (.slnil)
      · have hd : l.drop k = [] := List.drop_eq_nil_of_le (by have := of_decide_eq_false h2; first | omega | (simp at this; omega))
        refine TC.exit ?_
        refine TE.exit_then (TE.exit_then (TE.exit_same ?_))
        exact TE.cut (low, high) (hI.trans (by subst hr1; rw [hd]; exact rfl)) (by kernel_rfl) (.slnil)
    · rintro ⟨low_2, high_2⟩ hJ
      refine TE.next ?_
      refine TC.seq ?_
      refine TC.seq ?_
      refine TC.region ?_
      refine TL.run 3 [] [(6, .int .i64 low_2), (7, .int .i64 high_2), (76, .bool (decide (low_2 > high_2)))] rfl ⟨by kernel_rfl, by kernel_rfl⟩ ?_
      refine TL.next rfl ?_
      refine TC.cond (decide (low_2 > high_2)) rfl (by kernel_rfl) (fun h4 => ?_) (fun h4 => ?_)
      · refine TC.seq ?_
        refine TC.region ?_
        refine TL.run 3 [] [(2, .int .i64 0), (3, .int .i64 0), (4, .int .i64 8)] rfl ⟨by kernel_rfl, by kernel_rfl⟩ ?_
        refine TL.next rfl ?_
        refine TC.ret ?_
        refine TE.ret_then ?_
        have e : climb_Rates l = (0, 0, 8) := by subst hr1; unfold climb_Rates; exact cond_f h1 (bindv_eq (hR.symm.trans hJ) (cond_t h4 (rfl)))
        exact TE.ret [] (.tuple #[.int .i64 0, .int .i64 0, .int .i64 8]) ⟨by kernel_rfl, by kernel_rfl⟩ (by rw [e]; first | done | kernel_rfl)
      · refine TC.skip ?_
        refine TE.next ?_
        refine TC.seq ?_
        refine TC.region ?_
        refine TL.run 5 [] [(2, .int .i64 low_2), (3, .int .i64 high_2), (4, .int .i64 0)] rfl ⟨by kernel_rfl, by kernel_rfl⟩ ?_
        refine TL.next rfl ?_
        refine TC.ret ?_
        have e : climb_Rates l = (low_2, high_2, 0) := by subst hr1; unfold climb_Rates; exact cond_f h1 (bindv_eq (hR.symm.trans hJ) (cond_f h4 (rfl)))
        exact TE.ret [] (.tuple #[.int .i64 low_2, .int .i64 high_2, .int .i64 0]) ⟨by kernel_rfl, by kernel_rfl⟩ (by rw [e]; first | done | kernel_rfl)

def climb_Heights_L1 (time : Int) (r1 : Int × Int × Int) : List ClimbReport → Nat → Int → Int → (Int × Int)
  | [], _, low, high => (low, high)
  | x :: xs, k, low, high => let r2 := num_DivDown (imin (w64 (r1.1 * (w64 (time - x.Time)))) (w64 (r1.2.1 * (w64 (time - x.Time))))) 16
    let r3 := num_DivUp (imax (w64 (r1.1 * (w64 (time - x.Time)))) (w64 (r1.2.1 * (w64 (time - x.Time))))) 16
    climb_Heights_L1 time r1 xs (k + 1) (imax low (w64 ((w64 (100 * x.Level)) + r2.1))) (imin high (w64 ((w64 ((w64 (100 * x.Level)) + 99)) + r3.1)))
def climb_Heights (l : List ClimbReport) (time : Int) : Int × Int × Int :=
  let r1 := climb_Rates l
  cond (r1.2.2 != 0) (
    (0, 0, r1.2.2)) (
    cond ((decide (time < 0)) || (decide (time > 200000))) (
      (0, 0, 4)) (
      bindv (climb_Heights_L1 time r1 l 0 0 60000) (fun (low_2, high_2) =>
        cond (decide (low_2 > high_2)) (
          (0, 0, 8)) (
          (low_2, high_2, 0)))))

set_option maxRecDepth 100000 in
theorem climb_Heights_w (A_l : Option Addr) (c_l : Nat) (l : List ClimbReport) (time : Int) (w : World) (h_l : Rd w 2 A_l (l.map ClimbReport.c)) (hc_l : l.length ≤ c_l) : Calls Try.prog 33 #[.slice A_l l.length c_l, .int .i64 time] w (Ret w (.tuple #[.int .i64 ((climb_Heights l time).1), .int .i64 ((climb_Heights l time).2.1), .int .i64 ((climb_Heights l time).2.2)])) := by
  have s_l := h_l.short; rw [List.length_map] at s_l
  refine calls_intro (vs := [.slice A_l l.length c_l, .int .i64 time]) (w := w) Try.func33 rfl Try.ntmps33 rfl ?_
  refine TC.weak [(0, .slice A_l l.length c_l), (1, .int .i64 time)] (by kernel_rfl) ?_
  refine TC.seq ?_
  refine TC.region ?_
  refine TL.run 3 [] [(0, .slice A_l l.length c_l), (1, .int .i64 time)] rfl ⟨by kernel_rfl, by kernel_rfl⟩ ?_
  refine TL.next rfl ?_
  refine TC.seq ?_
  refine TC.region ?_
  refine TL.run 1 [] [(0, .slice A_l l.length c_l), (1, .int .i64 time), (20, .slice A_l l.length c_l)] rfl ⟨by kernel_rfl, by kernel_rfl⟩ ?_
  refine TL.call (some 21) [(0, .slice A_l l.length c_l), (1, .int .i64 time), (21, .tuple #[.int .i64 ((climb_Rates l).1), .int .i64 ((climb_Rates l).2.1), .int .i64 ((climb_Rates l).2.2)])] (fun w hM => climb_Rates_w A_l c_l l w (h_l.sat hM) hc_l) (by kernel_rfl) (by kernel_rfl) ?_
  generalize hr1 : climb_Rates l = r1
  refine TL.run 9 [] [(0, .slice A_l l.length c_l), (1, .int .i64 time), (7, .int .i64 r1.1), (8, .int .i64 r1.2.1), (9, .int .i64 r1.2.2)] rfl ⟨by kernel_rfl, by kernel_rfl⟩ ?_
  refine TL.next rfl ?_
  refine TC.seq ?_
  refine TC.seq ?_
  refine TC.region ?_
  refine TL.run 2 [] [(0, .slice A_l l.length c_l), (1, .int .i64 time), (7, .int .i64 r1.1), (8, .int .i64 r1.2.1), (9, .int .i64 r1.2.2), (26, .bool (r1.2.2 != 0))] rfl ⟨by kernel_rfl, by kernel_rfl⟩ ?_
  refine TL.next rfl ?_
  refine TC.cond (r1.2.2 != 0) rfl (by kernel_rfl) (fun h1 => ?_) (fun h1 => ?_)
  · refine TC.seq ?_
    refine TC.region ?_
    refine TL.run 4 [] [(4, .int .i64 0), (5, .int .i64 0), (6, .int .i64 r1.2.2)] rfl ⟨by kernel_rfl, by kernel_rfl⟩ ?_
    refine TL.next rfl ?_
    refine TC.ret ?_
    refine TE.ret_then ?_
    have e : climb_Heights l time = (0, 0, r1.2.2) := by subst hr1; unfold climb_Heights; exact cond_t h1 (rfl)
    exact TE.ret [] (.tuple #[.int .i64 0, .int .i64 0, .int .i64 r1.2.2]) ⟨by kernel_rfl, by kernel_rfl⟩ (by rw [e]; first | done | kernel_rfl)
  · refine TC.skip ?_
    refine TE.next ?_
    refine TC.seq ?_
    refine TC.seq ?_
    refine TC.region ?_
    refine TL.run 3 [] [(0, .slice A_l l.length c_l), (1, .int .i64 time), (7, .int .i64 r1.1), (8, .int .i64 r1.2.1), (30, .bool (decide (time < 0)))] rfl ⟨by kernel_rfl, by kernel_rfl⟩ ?_
    refine TL.join 30 (decide (time < 0)) 6 [] [] (fun β => [(0, .slice A_l l.length c_l), (1, .int .i64 time), (7, .int .i64 r1.1), (8, .int .i64 r1.2.1), (33, .bool (β || (decide (time > 200000))))]) (by kernel_rfl) rfl ⟨by kernel_rfl, by kernel_rfl⟩ ⟨by kernel_rfl, by kernel_rfl⟩ ?_
    refine TL.next rfl ?_
    refine TC.cond ((decide (time < 0)) || (decide (time > 200000))) rfl (by kernel_rfl) (fun h2 => ?_) (fun h2 => ?_)
    · refine TC.seq ?_
      refine TC.region ?_
      refine TL.run 3 [] [(4, .int .i64 0), (5, .int .i64 0), (6, .int .i64 4)] rfl ⟨by kernel_rfl, by kernel_rfl⟩ ?_
      refine TL.next rfl ?_
      refine TC.ret ?_
      refine TE.ret_then ?_
      have e : climb_Heights l time = (0, 0, 4) := by subst hr1; unfold climb_Heights; exact cond_f h1 (cond_t h2 (rfl))
      exact TE.ret [] (.tuple #[.int .i64 0, .int .i64 0, .int .i64 4]) ⟨by kernel_rfl, by kernel_rfl⟩ (by rw [e]; first | done | kernel_rfl)
    · refine TC.skip ?_
      refine TE.next ?_
      refine TC.seq ?_
      refine TC.region ?_
      refine TL.run 2 [] [(0, .slice A_l l.length c_l), (1, .int .i64 time), (7, .int .i64 r1.1), (8, .int .i64 r1.2.1), (10, .int .i64 0), (11, .int .i64 60000)] rfl ⟨by kernel_rfl, by kernel_rfl⟩ ?_
      refine TL.next rfl ?_
      refine TC.seq ?_
      refine TC.seq ?_
      refine TC.region ?_
      refine TL.run 3 [] [(1, .int .i64 time), (7, .int .i64 r1.1), (8, .int .i64 r1.2.1), (10, .int .i64 0), (11, .int .i64 60000), (34, .slice A_l l.length c_l), (35, .int .i64 (l.length : Int)), (36, .int .i64 0)] rfl ⟨by kernel_rfl, by kernel_rfl⟩ ?_
      refine TL.next rfl ?_
      refine TC.weak [(1, .int .i64 time), (7, .int .i64 r1.1), (8, .int .i64 r1.2.1), (10, .int .i64 0), (11, .int .i64 60000), (34, .slice A_l l.length c_l), (35, .int .i64 (l.length : Int)), (36, .int .i64 0)] (by kernel_rfl) ?_
      obtain ⟨R1, hR⟩ : ∃ R, R = climb_Heights_L1 time r1 l 0 0 60000 := ⟨_, rfl⟩
      refine TC.cut (S := Int × Int) (fun (low_2, high_2) => [(10, .int .i64 low_2), (11, .int .i64 high_2)]) (fun (low_2, high_2) => []) (fun (low_2, high_2) => R1 = (low_2, high_2)) ?_ ?_
      · refine TC.block ?_
        refine TC.loop (X := Nat × Int × Int) (fun (k, low, high) => [(1, .int .i64 time), (7, .int .i64 r1.1), (8, .int .i64 r1.2.1), (10, .int .i64 low), (11, .int .i64 high), (34, .slice A_l l.length c_l), (35, .int .i64 (l.length : Int)), (36, .int .i64 (k : Int))]) (fun (k, low, high) => []) (fun (k, low, high) => l.length - k) (fun (k, low, high) => k ≤ l.length ∧ R1 = climb_Heights_L1 time r1 (l.drop k) k low high) ?_ (0, 0, 60000) ⟨Nat.zero_le _, hR⟩
        rintro ⟨k, low, high⟩ ⟨hk, hI⟩
        refine TC.seq ?_
        refine TC.region ?_
        refine TL.run 1 [] [(1, .int .i64 time), (7, .int .i64 r1.1), (8, .int .i64 r1.2.1), (10, .int .i64 low), (11, .int .i64 high), (34, .slice A_l l.length c_l), (35, .int .i64 (l.length : Int)), (36, .int .i64 (k : Int)), (37, .bool (decide ((k : Int) < (l.length : Int))))] rfl ⟨by kernel_rfl, by kernel_rfl⟩ ?_
        refine TL.next rfl ?_
        refine TC.seq ?_
        refine TC.cond (decide ((k : Int) < (l.length : Int))) rfl (by kernel_rfl) (fun h3 => ?_) (fun h3 => ?_)
        · have hlt : k < l.length := by have := of_decide_eq_true h3; first | omega | (simp only [List.length_append, List.length_cons, List.length_nil, List.length_set, List.length_replicate, List.length_map, List.length_take, List.length_drop, Nat.zero_add, Nat.add_zero] at this; omega)
          obtain ⟨x, hx⟩ : ∃ x, l[k]? = some x := ⟨_, List.getElem?_eq_getElem hlt⟩
          have hd := drop_at hx
          refine TC.skip ?_
          refine TE.next ?_
          refine TC.seq ?_
          refine TC.block ?_
          refine TC.seq ?_
          refine TC.region ?_
          refine TL.val (sV (Instr.indexAt 34 (.slice A_l l.length c_l) (.int .i64 (k : Int)))) (some 38) (.pointer (some ((A_l.getD noAddr).add (k * 2)))) [(1, .int .i64 time), (7, .int .i64 r1.1), (8, .int .i64 r1.2.1), (10, .int .i64 low), (11, .int .i64 high), (34, .slice A_l l.length c_l), (35, .int .i64 (l.length : Int)), (36, .int .i64 (k : Int)), (38, .pointer (some ((A_l.getD noAddr).add (k * 2))))] (fun w hM => run_index (h_l.sat hM) (by simp) (by kernel_rfl) (by have q0_ := (bne_f h1); have q1_ := (dec_f (or_f1 h2)); have q2_ := (dec_f (or_f2 h2)); first | omega | (simp only [List.length_drop]; omega) | (simp only [w64_eq]; omega)) (by have q0_ := (bne_f h1); have q1_ := (dec_f (or_f1 h2)); have q2_ := (dec_f (or_f2 h2)); first | omega | (simp only [List.length_drop]; omega) | (simp only [w64_eq]; omega))) (by kernel_rfl) (by kernel_rfl) ?_
          refine TL.val (sV (Instr.loadAt 71 (.pointer (some ((A_l.getD noAddr).add (k * 2)))))) (some 39) (ClimbReport.v x) [(1, .int .i64 time), (7, .int .i64 r1.1), (8, .int .i64 r1.2.1), (10, .int .i64 low), (11, .int .i64 high), (34, .slice A_l l.length c_l), (35, .int .i64 (l.length : Int)), (36, .int .i64 (k : Int)), (39, ClimbReport.v x)] (fun w hM => run_load_agg (n := 2) (off := 0) (ClimbReport.v x) (h_l.sat hM) (map_at hx) (by kernel_rfl) (by kernel_rfl) (by kernel_rfl)) (by kernel_rfl) (by kernel_rfl) ?_
          refine TL.write 0 (fun b1 => [(1, .int .i64 time), (7, .int .i64 r1.1), (8, .int .i64 r1.2.1), (10, .int .i64 low), (11, .int .i64 high), (13, .pointer (some ⟨b1, 0, none⟩)), (34, .slice A_l l.length c_l), (35, .int .i64 (l.length : Int)), (36, .int .i64 (k : Int)), (39, ClimbReport.v x)]) (fun b1 => [.inl (b1, .cells (ClimbReport.c ClimbReport.zero) 71 (0, 0))]) (fun b1 => ⟨by kernel_rfl, by kernel_rfl⟩) (fun b1 => ?_)
          refine TL.write 0 (fun _ => [(1, .int .i64 time), (7, .int .i64 r1.1), (8, .int .i64 r1.2.1), (10, .int .i64 low), (11, .int .i64 high), (13, .pointer (some ⟨b1, 0, none⟩)), (34, .slice A_l l.length c_l), (35, .int .i64 (l.length : Int)), (36, .int .i64 (k : Int))]) (fun _ => [.inl (b1, .cells (ClimbReport.c x) 71 (0, 0))]) (fun _ => ⟨by kernel_rfl, by kernel_rfl⟩) (fun _ => ?_)
          refine TL.next rfl ?_
          refine TC.seq ?_
          refine TC.region ?_
          refine TL.run 5 [0] [(1, .int .i64 time), (7, .int .i64 r1.1), (8, .int .i64 r1.2.1), (10, .int .i64 low), (11, .int .i64 high), (13, .pointer (some ⟨b1, 0, none⟩)), (14, .int .i64 (w64 (time - x.Time))), (34, .slice A_l l.length c_l), (35, .int .i64 (l.length : Int)), (36, .int .i64 (k : Int))] rfl ⟨by kernel_rfl, by kernel_rfl⟩ ?_
          refine TL.next rfl ?_
          refine TC.seq ?_
          refine TC.region ?_
          refine TL.run 7 [] [(1, .int .i64 time), (7, .int .i64 r1.1), (8, .int .i64 r1.2.1), (10, .int .i64 low), (11, .int .i64 high), (13, .pointer (some ⟨b1, 0, none⟩)), (14, .int .i64 (w64 (time - x.Time))), (34, .slice A_l l.length c_l), (35, .int .i64 (l.length : Int)), (36, .int .i64 (k : Int)), (51, .int .i64 (imin (w64 (r1.1 * (w64 (time - x.Time)))) (w64 (r1.2.1 * (w64 (time - x.Time))))))] rfl ⟨by kernel_rfl, by kernel_rfl⟩ ?_
          refine TL.call (some 52) [(1, .int .i64 time), (7, .int .i64 r1.1), (8, .int .i64 r1.2.1), (10, .int .i64 low), (11, .int .i64 high), (13, .pointer (some ⟨b1, 0, none⟩)), (14, .int .i64 (w64 (time - x.Time))), (34, .slice A_l l.length c_l), (35, .int .i64 (l.length : Int)), (36, .int .i64 (k : Int)), (52, .tuple #[.int .i64 ((num_DivDown (imin (w64 (r1.1 * (w64 (time - x.Time)))) (w64 (r1.2.1 * (w64 (time - x.Time))))) 16).1), .int .i64 ((num_DivDown (imin (w64 (r1.1 * (w64 (time - x.Time)))) (w64 (r1.2.1 * (w64 (time - x.Time))))) 16).2)])] (fun w _ => num_DivDown_w (imin (w64 (r1.1 * (w64 (time - x.Time)))) (w64 (r1.2.1 * (w64 (time - x.Time))))) 16 w) (by kernel_rfl) (by kernel_rfl) ?_
          generalize hr2 : num_DivDown (imin (w64 (r1.1 * (w64 (time - x.Time)))) (w64 (r1.2.1 * (w64 (time - x.Time))))) 16 = r2
          refine TL.run 13 [] [(1, .int .i64 time), (7, .int .i64 r1.1), (8, .int .i64 r1.2.1), (10, .int .i64 low), (11, .int .i64 high), (13, .pointer (some ⟨b1, 0, none⟩)), (14, .int .i64 (w64 (time - x.Time))), (15, .int .i64 r2.1), (34, .slice A_l l.length c_l), (35, .int .i64 (l.length : Int)), (36, .int .i64 (k : Int))] rfl ⟨by kernel_rfl, by kernel_rfl⟩ ?_
          refine TL.next rfl ?_
          refine TC.seq ?_
          refine TC.region ?_
          refine TL.run 7 [] [(1, .int .i64 time), (7, .int .i64 r1.1), (8, .int .i64 r1.2.1), (10, .int .i64 low), (11, .int .i64 high), (13, .pointer (some ⟨b1, 0, none⟩)), (15, .int .i64 r2.1), (34, .slice A_l l.length c_l), (35, .int .i64 (l.length : Int)), (36, .int .i64 (k : Int)), (62, .int .i64 (imax (w64 (r1.1 * (w64 (time - x.Time)))) (w64 (r1.2.1 * (w64 (time - x.Time))))))] rfl ⟨by kernel_rfl, by kernel_rfl⟩ ?_
          refine TL.call (some 63) [(1, .int .i64 time), (7, .int .i64 r1.1), (8, .int .i64 r1.2.1), (10, .int .i64 low), (11, .int .i64 high), (13, .pointer (some ⟨b1, 0, none⟩)), (15, .int .i64 r2.1), (34, .slice A_l l.length c_l), (35, .int .i64 (l.length : Int)), (36, .int .i64 (k : Int)), (63, .tuple #[.int .i64 ((num_DivUp (imax (w64 (r1.1 * (w64 (time - x.Time)))) (w64 (r1.2.1 * (w64 (time - x.Time))))) 16).1), .int .i64 ((num_DivUp (imax (w64 (r1.1 * (w64 (time - x.Time)))) (w64 (r1.2.1 * (w64 (time - x.Time))))) 16).2)])] (fun w _ => num_DivUp_w (imax (w64 (r1.1 * (w64 (time - x.Time)))) (w64 (r1.2.1 * (w64 (time - x.Time))))) 16 w) (by kernel_rfl) (by kernel_rfl) ?_
          generalize hr3 : num_DivUp (imax (w64 (r1.1 * (w64 (time - x.Time)))) (w64 (r1.2.1 * (w64 (time - x.Time))))) 16 = r3
          refine TL.run 13 [] [(1, .int .i64 time), (7, .int .i64 r1.1), (8, .int .i64 r1.2.1), (10, .int .i64 low), (11, .int .i64 high), (13, .pointer (some ⟨b1, 0, none⟩)), (15, .int .i64 r2.1), (17, .int .i64 r3.1), (34, .slice A_l l.length c_l), (35, .int .i64 (l.length : Int)), (36, .int .i64 (k : Int))] rfl ⟨by kernel_rfl, by kernel_rfl⟩ ?_
          refine TL.next rfl ?_
          refine TC.draw 17 (by kernel_rfl) (by kernel_rfl) (by kernel_rfl) ?_
          refine TQ.run 17 [0, 0] [(1, .int .i64 time), (7, .int .i64 r1.1), (8, .int .i64 r1.2.1), (10, .int .i64 (imax low (w64 ((w64 (100 * x.Level)) + r2.1)))), (11, .int .i64 (imin high (w64 ((w64 ((w64 (100 * x.Level)) + 99)) + r3.1)))), (34, .slice A_l l.length c_l), (35, .int .i64 (l.length : Int)), (36, .int .i64 (k : Int))] rfl ⟨by kernel_rfl, by kernel_rfl⟩ ?_
          refine TQ.done rfl ?_
          refine TE.normal_block ?_
          refine TE.next ?_
          refine TC.region ?_
          refine TL.run 2 [] [(1, .int .i64 time), (7, .int .i64 r1.1), (8, .int .i64 r1.2.1), (10, .int .i64 (imax low (w64 ((w64 (100 * x.Level)) + r2.1)))), (11, .int .i64 (imin high (w64 ((w64 ((w64 (100 * x.Level)) + 99)) + r3.1)))), (34, .slice A_l l.length c_l), (35, .int .i64 (l.length : Int)), (36, .int .i64 (w64 ((k : Int) + 1)))] rfl ⟨by kernel_rfl, by kernel_rfl⟩ ?_
          refine TL.done rfl ?_
          refine TE.rw 36 (.int .i64 (w64 ((k : Int) + 1))) (.int .i64 ((k + 1 : Nat) : Int)) (by kernel_rfl) (w64_cast k (by omega)) ?_
          exact TE.again (x := (k, low, high)) (k + 1, imax low (w64 ((w64 (100 * x.Level)) + r2.1)), imin high (w64 ((w64 ((w64 (100 * x.Level)) + 99)) + r3.1))) ⟨by omega, hI.trans (by subst hr1 hr2 hr3; rw [hd]; exact rfl)⟩ (by show l.length - (k + 1) < l.length - k; omega) (by kernel_rfl) (.cons _ (.slnil))
        · have hd : l.drop k = [] := List.drop_eq_nil_of_le (by have := of_decide_eq_false h3; first | omega | (simp at this; omega))
          refine TC.exit ?_
          refine TE.exit_then (TE.exit_then (TE.exit_same ?_))
          exact TE.cut (low, high) (hI.trans (by subst hr1; rw [hd]; exact rfl)) (by kernel_rfl) (.slnil)
      · rintro ⟨low_2, high_2⟩ hJ
        refine TE.next ?_
        refine TC.seq ?_
        refine TC.seq ?_
        refine TC.region ?_
        refine TL.run 3 [] [(10, .int .i64 low_2), (11, .int .i64 high_2), (84, .bool (decide (low_2 > high_2)))] rfl ⟨by kernel_rfl, by kernel_rfl⟩ ?_
        refine TL.next rfl ?_
        refine TC.cond (decide (low_2 > high_2)) rfl (by kernel_rfl) (fun h4 => ?_) (fun h4 => ?_)
        · refine TC.seq ?_
          refine TC.region ?_
          refine TL.run 3 [] [(4, .int .i64 0), (5, .int .i64 0), (6, .int .i64 8)] rfl ⟨by kernel_rfl, by kernel_rfl⟩ ?_
          refine TL.next rfl ?_
          refine TC.ret ?_
          refine TE.ret_then ?_
          have e : climb_Heights l time = (0, 0, 8) := by subst hr1; unfold climb_Heights; exact cond_f h1 (cond_f h2 (bindv_eq (hR.symm.trans hJ) (cond_t h4 (rfl))))
          exact TE.ret [] (.tuple #[.int .i64 0, .int .i64 0, .int .i64 8]) ⟨by kernel_rfl, by kernel_rfl⟩ (by rw [e]; first | done | kernel_rfl)
        · refine TC.skip ?_
          refine TE.next ?_
          refine TC.seq ?_
          refine TC.region ?_
          refine TL.run 5 [] [(4, .int .i64 low_2), (5, .int .i64 high_2), (6, .int .i64 0)] rfl ⟨by kernel_rfl, by kernel_rfl⟩ ?_
          refine TL.next rfl ?_
          refine TC.ret ?_
          have e : climb_Heights l time = (low_2, high_2, 0) := by subst hr1; unfold climb_Heights; exact cond_f h1 (cond_f h2 (bindv_eq (hR.symm.trans hJ) (cond_f h4 (rfl))))
          exact TE.ret [] (.tuple #[.int .i64 low_2, .int .i64 high_2, .int .i64 0]) ⟨by kernel_rfl, by kernel_rfl⟩ (by rw [e]; first | done | kernel_rfl)

def climb_Level (height : Int) : Int × Int :=
  cond ((decide (height < 0)) || (decide (height > 60000))) (
    (0, 4)) (
    (w64 (height.tdiv 100), 0))

set_option maxRecDepth 100000 in
theorem climb_Level_w (height : Int) (w : World) : Calls Try.prog 30 #[.int .i64 height] w (Ret w (.tuple #[.int .i64 ((climb_Level height).1), .int .i64 ((climb_Level height).2)])) := by
  refine calls_intro (vs := [.int .i64 height]) (w := w) Try.func30 rfl Try.ntmps30 rfl ?_
  refine TC.weak [(0, .int .i64 height)] (by kernel_rfl) ?_
  refine TC.seq ?_
  refine TC.region ?_
  refine TL.run 2 [] [(0, .int .i64 height)] rfl ⟨by kernel_rfl, by kernel_rfl⟩ ?_
  refine TL.next rfl ?_
  refine TC.seq ?_
  refine TC.seq ?_
  refine TC.region ?_
  refine TL.run 3 [] [(0, .int .i64 height), (6, .bool (decide (height < 0)))] rfl ⟨by kernel_rfl, by kernel_rfl⟩ ?_
  refine TL.join 6 (decide (height < 0)) 6 [] [] (fun β => [(0, .int .i64 height), (9, .bool (β || (decide (height > 60000))))]) (by kernel_rfl) rfl ⟨by kernel_rfl, by kernel_rfl⟩ ⟨by kernel_rfl, by kernel_rfl⟩ ?_
  refine TL.next rfl ?_
  refine TC.cond ((decide (height < 0)) || (decide (height > 60000))) rfl (by kernel_rfl) (fun h1 => ?_) (fun h1 => ?_)
  · refine TC.seq ?_
    refine TC.region ?_
    refine TL.run 2 [] [(2, .int .i64 0), (3, .int .i64 4)] rfl ⟨by kernel_rfl, by kernel_rfl⟩ ?_
    refine TL.next rfl ?_
    refine TC.ret ?_
    refine TE.ret_then ?_
    have e : climb_Level height = (0, 4) := by unfold climb_Level; exact cond_t h1 (rfl)
    exact TE.ret [] (.tuple #[.int .i64 0, .int .i64 4]) ⟨by kernel_rfl, by kernel_rfl⟩ (by rw [e]; first | done | kernel_rfl)
  · refine TC.skip ?_
    refine TE.next ?_
    refine TC.seq ?_
    refine TC.region ?_
    refine TL.run 4 [] [(2, .int .i64 (w64 (height.tdiv 100))), (3, .int .i64 0)] rfl ⟨by kernel_rfl, by kernel_rfl⟩ ?_
    refine TL.next rfl ?_
    refine TC.ret ?_
    have e : climb_Level height = (w64 (height.tdiv 100), 0) := by unfold climb_Level; exact cond_f h1 (rfl)
    exact TE.ret [] (.tuple #[.int .i64 (w64 (height.tdiv 100)), .int .i64 0]) ⟨by kernel_rfl, by kernel_rfl⟩ (by rw [e]; first | done | kernel_rfl)

def skywaykeep2_fine_1 (e_ : Int) : Bool :=
  e_ != 0

set_option maxRecDepth 100000 in
theorem skywaykeep2_fine_1_w (e_ : Int) (w : World) : Calls Try.prog 39 #[.int .i64 e_] w (Ret w (.bool (skywaykeep2_fine_1 e_))) := by
  refine calls_intro (vs := [.int .i64 e_]) (w := w) Try.func39 rfl Try.ntmps39 rfl ?_
  refine TC.weak [(0, .int .i64 e_)] (by kernel_rfl) ?_
  refine TC.seq ?_
  refine TC.region ?_
  refine TL.run 1 [] [(0, .int .i64 e_)] rfl ⟨by kernel_rfl, by kernel_rfl⟩ ?_
  refine TL.next rfl ?_
  refine TC.seq ?_
  refine TC.region ?_
  refine TL.run 3 [] [(2, .bool (e_ != 0))] rfl ⟨by kernel_rfl, by kernel_rfl⟩ ?_
  refine TL.next rfl ?_
  refine TC.ret ?_
  have e : skywaykeep2_fine_1 e_ = (e_ != 0) := by unfold skywaykeep2_fine_1; exact rfl
  exact TE.ret [] (.bool (e_ != 0)) ⟨by kernel_rfl, by kernel_rfl⟩ (by rw [e]; first | done | kernel_rfl)

def IndexFunc_fine_L1 : List Int → Nat → ((Unit) ⊕ (Int))
  | [], _ => .inl ()
  | x :: xs, k => let r1 := skywaykeep2_fine_1 x
    cond r1 (
      .inr (k : Int)) (
      IndexFunc_fine_L1 xs (k + 1))
def IndexFunc_fine (s : List Int) : Int :=
  Sum.elim (fun _ =>
    (-1)) (fun r => r) (IndexFunc_fine_L1 s 0)

set_option maxRecDepth 100000 in
theorem IndexFunc_fine_w (A_s : Option Addr) (c_s : Nat) (s : List Int) (w : World) (h_s : Rd w 1 A_s (s.map ic)) (_hc_s : s.length ≤ c_s) : Calls Try.prog 52 #[.slice A_s s.length c_s, .func (.func 39) #[] #[]] w (Ret w (.int .i64 (IndexFunc_fine s))) := by
  have s_s := h_s.short; rw [List.length_map] at s_s
  refine calls_intro (vs := [.slice A_s s.length c_s, .func (.func 39) #[] #[]]) (w := w) Try.func52 rfl Try.ntmps52 rfl ?_
  refine TC.weak [(0, .slice A_s s.length c_s), (1, .func (.func 39) #[] #[])] (by kernel_rfl) ?_
  refine TC.seq ?_
  refine TC.region ?_
  refine TL.run 1 [] [(0, .slice A_s s.length c_s), (1, .func (.func 39) #[] #[])] rfl ⟨by kernel_rfl, by kernel_rfl⟩ ?_
  refine TL.next rfl ?_
  refine TC.seq ?_
  refine TC.seq ?_
  refine TC.region ?_
  refine TL.run 3 [] [(0, .slice A_s s.length c_s), (1, .func (.func 39) #[] #[]), (7, .int .i64 (s.length : Int)), (8, .int .i64 0)] rfl ⟨by kernel_rfl, by kernel_rfl⟩ ?_
  refine TL.next rfl ?_
  refine TC.weak [(0, .slice A_s s.length c_s), (1, .func (.func 39) #[] #[]), (7, .int .i64 (s.length : Int)), (8, .int .i64 0)] (by kernel_rfl) ?_
  obtain ⟨R1, hR⟩ : ∃ R, R = IndexFunc_fine_L1 s 0 := ⟨_, rfl⟩
  refine TC.cut (S := Unit) (fun (_ : Unit) => []) (fun (_ : Unit) => []) (fun (_ : Unit) => R1 = .inl ()) ?_ ?_
  · refine TC.block ?_
    refine TC.loop (X := Nat) (fun k => [(0, .slice A_s s.length c_s), (1, .func (.func 39) #[] #[]), (7, .int .i64 (s.length : Int)), (8, .int .i64 (k : Int))]) (fun k => []) (fun k => s.length - k) (fun k => k ≤ s.length ∧ R1 = IndexFunc_fine_L1 (s.drop k) k) ?_ 0 ⟨Nat.zero_le _, hR⟩
    rintro k ⟨hk, hI⟩
    refine TC.seq ?_
    refine TC.region ?_
    refine TL.run 1 [] [(0, .slice A_s s.length c_s), (1, .func (.func 39) #[] #[]), (7, .int .i64 (s.length : Int)), (8, .int .i64 (k : Int)), (9, .bool (decide ((k : Int) < (s.length : Int))))] rfl ⟨by kernel_rfl, by kernel_rfl⟩ ?_
    refine TL.next rfl ?_
    refine TC.seq ?_
    refine TC.cond (decide ((k : Int) < (s.length : Int))) rfl (by kernel_rfl) (fun h1 => ?_) (fun h1 => ?_)
    · have hlt : k < s.length := by have := of_decide_eq_true h1; first | omega | (simp only [List.length_append, List.length_cons, List.length_nil, List.length_set, List.length_replicate, List.length_map, List.length_take, List.length_drop, Nat.zero_add, Nat.add_zero] at this; omega)
      obtain ⟨x, hx⟩ : ∃ x, s[k]? = some x := ⟨_, List.getElem?_eq_getElem hlt⟩
      have hd := drop_at hx
      refine TC.skip ?_
      refine TE.next ?_
      refine TC.seq ?_
      refine TC.block ?_
      refine TC.seq ?_
      refine TC.region ?_
      refine TL.run 2 [] [(0, .slice A_s s.length c_s), (1, .func (.func 39) #[] #[]), (5, .int .i64 (k : Int)), (7, .int .i64 (s.length : Int)), (8, .int .i64 (k : Int))] rfl ⟨by kernel_rfl, by kernel_rfl⟩ ?_
      refine TL.next rfl ?_
      refine TC.seq ?_
      refine TC.region ?_
      refine TL.run 3 [] [(0, .slice A_s s.length c_s), (1, .func (.func 39) #[] #[]), (5, .int .i64 (k : Int)), (7, .int .i64 (s.length : Int)), (8, .int .i64 (k : Int)), (11, .func (.func 39) #[] #[]), (12, .slice A_s s.length c_s), (13, .int .i64 (k : Int))] rfl ⟨by kernel_rfl, by kernel_rfl⟩ ?_
      refine TL.val (sV (Instr.indexAt 79 (.slice A_s s.length c_s) (.int .i64 (k : Int)))) (some 14) (.pointer (some ((A_s.getD noAddr).add (k * 1)))) [(0, .slice A_s s.length c_s), (1, .func (.func 39) #[] #[]), (5, .int .i64 (k : Int)), (7, .int .i64 (s.length : Int)), (8, .int .i64 (k : Int)), (11, .func (.func 39) #[] #[]), (14, .pointer (some ((A_s.getD noAddr).add (k * 1))))] (fun w hM => run_index (h_s.sat hM) (by simp) (by kernel_rfl) (by first | omega | (simp only [List.length_drop]; omega) | (simp only [w64_eq]; omega)) (by first | omega | (simp only [List.length_drop]; omega) | (simp only [w64_eq]; omega))) (by kernel_rfl) (by kernel_rfl) ?_
      refine TL.val (sV (Instr.loadAt 22 (.pointer (some ((A_s.getD noAddr).add (k * 1)))))) (some 15) (.int .i64 x) [(0, .slice A_s s.length c_s), (1, .func (.func 39) #[] #[]), (5, .int .i64 (k : Int)), (7, .int .i64 (s.length : Int)), (8, .int .i64 (k : Int)), (11, .func (.func 39) #[] #[]), (15, .int .i64 x)] (fun w hM => run_load_one (off := 0) (.int .i64 x) (h_s.sat hM) (map_at hx) (by kernel_rfl) (by kernel_rfl)) (by kernel_rfl) (by kernel_rfl) ?_
      refine TL.call (some 16) [(0, .slice A_s s.length c_s), (1, .func (.func 39) #[] #[]), (5, .int .i64 (k : Int)), (7, .int .i64 (s.length : Int)), (8, .int .i64 (k : Int)), (16, .bool ((skywaykeep2_fine_1 x)))] (fun w _ => skywaykeep2_fine_1_w x w) (by kernel_rfl) (by kernel_rfl) ?_
      generalize hr1 : skywaykeep2_fine_1 x = r1
      refine TL.next rfl ?_
      refine TC.cond r1 rfl (by kernel_rfl) (fun h2 => ?_) (fun h2 => ?_)
      · refine TC.seq ?_
        refine TC.region ?_
        refine TL.run 2 [] [(4, .int .i64 (k : Int))] rfl ⟨by kernel_rfl, by kernel_rfl⟩ ?_
        refine TL.next rfl ?_
        refine TC.ret ?_
        refine TE.ret_block (TE.ret_then (TE.ret_then (TE.ret_block (TE.ret_then (TE.ret_then ?_)))))
        have e : IndexFunc_fine s = (k : Int) := by subst hr1; unfold IndexFunc_fine; exact elim_r (hR.symm.trans (hI.trans (by rw [hd]; exact cond_t h2 (rfl)))) rfl
        exact TE.ret [] (.int .i64 (k : Int)) ⟨by kernel_rfl, by kernel_rfl⟩ (by rw [e]; first | done | kernel_rfl)
      · refine TC.skip ?_
        refine TE.normal_block ?_
        refine TE.next ?_
        refine TC.region ?_
        refine TL.run 2 [] [(0, .slice A_s s.length c_s), (1, .func (.func 39) #[] #[]), (7, .int .i64 (s.length : Int)), (8, .int .i64 (w64 ((k : Int) + 1)))] rfl ⟨by kernel_rfl, by kernel_rfl⟩ ?_
        refine TL.done rfl ?_
        refine TE.rw 8 (.int .i64 (w64 ((k : Int) + 1))) (.int .i64 ((k + 1 : Nat) : Int)) (by kernel_rfl) (w64_cast k (by omega)) ?_
        exact TE.again (x := k) (k + 1) ⟨by omega, hI.trans (by subst hr1; rw [hd]; exact cond_f h2 (rfl))⟩ (by show s.length - (k + 1) < s.length - k; omega) (by kernel_rfl) (.slnil)
    · have hd : s.drop k = [] := List.drop_eq_nil_of_le (by have := of_decide_eq_false h1; first | omega | (simp at this; omega))
      refine TC.exit ?_
      refine TE.exit_then (TE.exit_then (TE.exit_same ?_))
      exact TE.cut () (hI.trans (by rw [hd]; exact rfl)) (by kernel_rfl) (.slnil)
  · intro _ hJ
    refine TE.next ?_
    refine TC.seq ?_
    refine TC.region ?_
    refine TL.run 1 [] [(4, .int .i64 (-1))] rfl ⟨by kernel_rfl, by kernel_rfl⟩ ?_
    refine TL.next rfl ?_
    refine TC.ret ?_
    have e : IndexFunc_fine s = (-1) := by unfold IndexFunc_fine; exact elim_l (hR.symm.trans hJ) (rfl)
    exact TE.ret [] (.int .i64 (-1)) ⟨by kernel_rfl, by kernel_rfl⟩ (by rw [e]; first | done | kernel_rfl)

def ContainsFunc_fine (s : List Int) : Bool :=
  let r1 := IndexFunc_fine s
  decide (r1 ≥ 0)

set_option maxRecDepth 100000 in
theorem ContainsFunc_fine_w (A_s : Option Addr) (c_s : Nat) (s : List Int) (w : World) (h_s : Rd w 1 A_s (s.map ic)) (hc_s : s.length ≤ c_s) : Calls Try.prog 38 #[.slice A_s s.length c_s, .func (.func 39) #[] #[]] w (Ret w (.bool (ContainsFunc_fine s))) := by
  have s_s := h_s.short; rw [List.length_map] at s_s
  refine calls_intro (vs := [.slice A_s s.length c_s, .func (.func 39) #[] #[]]) (w := w) Try.func38 rfl Try.ntmps38 rfl ?_
  refine TC.weak [(0, .slice A_s s.length c_s), (1, .func (.func 39) #[] #[])] (by kernel_rfl) ?_
  refine TC.seq ?_
  refine TC.region ?_
  refine TL.run 1 [] [(0, .slice A_s s.length c_s), (1, .func (.func 39) #[] #[])] rfl ⟨by kernel_rfl, by kernel_rfl⟩ ?_
  refine TL.next rfl ?_
  refine TC.seq ?_
  refine TC.region ?_
  refine TL.run 2 [] [(5, .slice A_s s.length c_s), (6, .func (.func 39) #[] #[])] rfl ⟨by kernel_rfl, by kernel_rfl⟩ ?_
  refine TL.call (some 7) [(7, .int .i64 (IndexFunc_fine s))] (fun w hM => IndexFunc_fine_w A_s c_s s w (h_s.sat hM) hc_s) (by kernel_rfl) (by kernel_rfl) ?_
  generalize hr1 : IndexFunc_fine s = r1
  refine TL.run 5 [] [(4, .bool (decide (r1 ≥ 0)))] rfl ⟨by kernel_rfl, by kernel_rfl⟩ ?_
  refine TL.next rfl ?_
  refine TC.ret ?_
  have e : ContainsFunc_fine s = (decide (r1 ≥ 0)) := by subst hr1; unfold ContainsFunc_fine; exact rfl
  exact TE.ret [] (.bool (decide (r1 ≥ 0))) ⟨by kernel_rfl, by kernel_rfl⟩ (by rw [e]; first | done | kernel_rfl)

def skywaykeep2_fine (l : List Int) : Bool :=
  let r1 := ContainsFunc_fine l
  !r1

set_option maxRecDepth 100000 in
theorem skywaykeep2_fine_w (A_l : Option Addr) (c_l : Nat) (l : List Int) (w : World) (h_l : Rd w 1 A_l (l.map ic)) (hc_l : l.length ≤ c_l) : Calls Try.prog 16 #[.slice A_l l.length c_l] w (Ret w (.bool (skywaykeep2_fine l))) := by
  have s_l := h_l.short; rw [List.length_map] at s_l
  refine calls_intro (vs := [.slice A_l l.length c_l]) (w := w) Try.func16 rfl Try.ntmps16 rfl ?_
  refine TC.weak [(0, .slice A_l l.length c_l)] (by kernel_rfl) ?_
  refine TC.seq ?_
  refine TC.region ?_
  refine TL.run 1 [] [(0, .slice A_l l.length c_l)] rfl ⟨by kernel_rfl, by kernel_rfl⟩ ?_
  refine TL.next rfl ?_
  refine TC.seq ?_
  refine TC.region ?_
  refine TL.run 1 [] [(3, .slice A_l l.length c_l)] rfl ⟨by kernel_rfl, by kernel_rfl⟩ ?_
  refine TL.call (some 4) [(4, .bool ((ContainsFunc_fine l)))] (fun w hM => ContainsFunc_fine_w A_l c_l l w (h_l.sat hM) hc_l) (by kernel_rfl) (by kernel_rfl) ?_
  generalize hr1 : ContainsFunc_fine l = r1
  refine TL.run 4 [] [(2, .bool (!r1))] rfl ⟨by kernel_rfl, by kernel_rfl⟩ ?_
  refine TL.next rfl ?_
  refine TC.ret ?_
  have e : skywaykeep2_fine l = (!r1) := by subst hr1; unfold skywaykeep2_fine; exact rfl
  exact TE.ret [] (.bool (!r1)) ⟨by kernel_rfl, by kernel_rfl⟩ (by rw [e]; first | done | kernel_rfl)

def skywaykeep2_AlertBand (seconds : Int) (rate : Int) : Bool :=
  let r1 := alert_Band 0 5
  cond ((r1.2 != 0) || (r1.1 != 100)) (
    false) (
    let r2 := alert_Band seconds rate
    let r3 := alert_Band (w64 (seconds + 1)) rate
    let r4 := skywaykeep2_fine ([r2.2, r3.2])
    cond (!r4) (
      true) (
      cond ((w64 (r3.1 - r2.1)) == rate) (
        decide (r2.1 ≥ 100)) (
        false)))

set_option maxRecDepth 100000 in
theorem skywaykeep2_AlertBand_w (seconds : Int) (rate : Int) (w : World) : Calls Try.prog 3 #[.int .i64 seconds, .int .i64 rate] w (Ret w (.bool (skywaykeep2_AlertBand seconds rate))) := by
  refine calls_intro (vs := [.int .i64 seconds, .int .i64 rate]) (w := w) Try.func3 rfl Try.ntmps3 rfl ?_
  refine TC.weak [(0, .int .i64 seconds), (1, .int .i64 rate)] (by kernel_rfl) ?_
  refine TC.seq ?_
  refine TC.region ?_
  refine TL.run 1 [] [(0, .int .i64 seconds), (1, .int .i64 rate)] rfl ⟨by kernel_rfl, by kernel_rfl⟩ ?_
  refine TL.next rfl ?_
  refine TC.seq ?_
  refine TC.seq ?_
  refine TC.region ?_
  refine TL.call (some 12) [(0, .int .i64 seconds), (1, .int .i64 rate), (12, .tuple #[.int .i64 ((alert_Band 0 5).1), .int .i64 ((alert_Band 0 5).2)])] (fun w _ => alert_Band_w 0 5 w) (by kernel_rfl) (by kernel_rfl) ?_
  generalize hr1 : alert_Band 0 5 = r1
  refine TL.run 6 [] [(0, .int .i64 seconds), (1, .int .i64 rate), (5, .int .i64 r1.1), (6, .int .i64 r1.2)] rfl ⟨by kernel_rfl, by kernel_rfl⟩ ?_
  refine TL.next rfl ?_
  refine TC.seq ?_
  refine TC.region ?_
  refine TL.run 3 [] [(0, .int .i64 seconds), (1, .int .i64 rate), (5, .int .i64 r1.1), (17, .bool (r1.2 != 0))] rfl ⟨by kernel_rfl, by kernel_rfl⟩ ?_
  refine TL.join 17 (r1.2 != 0) 6 [] [] (fun β => [(0, .int .i64 seconds), (1, .int .i64 rate), (20, .bool (β || (r1.1 != 100)))]) (by kernel_rfl) rfl ⟨by kernel_rfl, by kernel_rfl⟩ ⟨by kernel_rfl, by kernel_rfl⟩ ?_
  refine TL.next rfl ?_
  refine TC.cond ((r1.2 != 0) || (r1.1 != 100)) rfl (by kernel_rfl) (fun h1 => ?_) (fun h1 => ?_)
  · refine TC.seq ?_
    refine TC.region ?_
    refine TL.run 1 [] [(4, .bool false)] rfl ⟨by kernel_rfl, by kernel_rfl⟩ ?_
    refine TL.next rfl ?_
    refine TC.ret ?_
    refine TE.ret_then ?_
    have e : skywaykeep2_AlertBand seconds rate = false := by subst hr1; unfold skywaykeep2_AlertBand; exact cond_t h1 (rfl)
    exact TE.ret [] (.bool false) ⟨by kernel_rfl, by kernel_rfl⟩ (by rw [e]; first | done | kernel_rfl)
  · refine TC.skip ?_
    refine TE.next ?_
    refine TC.seq ?_
    refine TC.region ?_
    refine TL.run 2 [] [(0, .int .i64 seconds), (1, .int .i64 rate), (22, .int .i64 seconds), (23, .int .i64 rate)] rfl ⟨by kernel_rfl, by kernel_rfl⟩ ?_
    refine TL.call (some 24) [(0, .int .i64 seconds), (1, .int .i64 rate), (24, .tuple #[.int .i64 ((alert_Band seconds rate).1), .int .i64 ((alert_Band seconds rate).2)])] (fun w _ => alert_Band_w seconds rate w) (by kernel_rfl) (by kernel_rfl) ?_
    generalize hr2 : alert_Band seconds rate = r2
    refine TL.run 8 [] [(0, .int .i64 seconds), (1, .int .i64 rate), (7, .int .i64 r2.1), (8, .int .i64 r2.2)] rfl ⟨by kernel_rfl, by kernel_rfl⟩ ?_
    refine TL.next rfl ?_
    refine TC.seq ?_
    refine TC.region ?_
    refine TL.run 3 [] [(1, .int .i64 rate), (7, .int .i64 r2.1), (8, .int .i64 r2.2), (29, .int .i64 (w64 (seconds + 1))), (30, .int .i64 rate)] rfl ⟨by kernel_rfl, by kernel_rfl⟩ ?_
    refine TL.call (some 31) [(1, .int .i64 rate), (7, .int .i64 r2.1), (8, .int .i64 r2.2), (31, .tuple #[.int .i64 ((alert_Band (w64 (seconds + 1)) rate).1), .int .i64 ((alert_Band (w64 (seconds + 1)) rate).2)])] (fun w _ => alert_Band_w (w64 (seconds + 1)) rate w) (by kernel_rfl) (by kernel_rfl) ?_
    generalize hr3 : alert_Band (w64 (seconds + 1)) rate = r3
    refine TL.run 9 [] [(1, .int .i64 rate), (7, .int .i64 r2.1), (8, .int .i64 r2.2), (9, .int .i64 r3.1), (10, .int .i64 r3.2)] rfl ⟨by kernel_rfl, by kernel_rfl⟩ ?_
    refine TL.next rfl ?_
    refine TC.seq ?_
    refine TC.region ?_
    refine TL.run 2 [] [(1, .int .i64 rate), (7, .int .i64 r2.1), (9, .int .i64 r3.1), (34, .int .i64 r2.2), (35, .int .i64 r3.2)] rfl ⟨by kernel_rfl, by kernel_rfl⟩ ?_
    refine TL.write 0 (fun b1 => [(1, .int .i64 rate), (7, .int .i64 r2.1), (9, .int .i64 r3.1), (36, .slice (some ⟨b1, 0, none⟩) 2 2)]) (fun b1 => [.inl (b1, .cells #[.int .i64 r2.2, .int .i64 r3.2] 22 (0, 0))]) (fun b1 => ⟨by kernel_rfl, by kernel_rfl⟩) (fun b1 => ?_)
    refine TL.call (some 37) [(1, .int .i64 rate), (7, .int .i64 r2.1), (9, .int .i64 r3.1), (37, .bool ((skywaykeep2_fine ([r2.2, r3.2]))))] (fun w hM => skywaykeep2_fine_w (some ⟨b1, 0, none⟩) 2 ([r2.2, r3.2]) w (Rd.lit hM 0 _ rfl (by kernel_rfl) (by kernel_rfl) (by kernel_rfl)) (Nat.le_refl _)) (by kernel_rfl) (by kernel_rfl) ?_
    generalize hr4 : skywaykeep2_fine ([r2.2, r3.2]) = r4
    refine TL.run 6 [] [(1, .int .i64 rate), (7, .int .i64 r2.1), (9, .int .i64 r3.1), (39, .bool (!r4))] rfl ⟨by kernel_rfl, by kernel_rfl⟩ ?_
    refine TL.split 39 (!r4) (by kernel_rfl) (fun h2 => ?_) (fun h2 => ?_)
    · refine TL.run 17 [] [(4, .bool true)] rfl ⟨by kernel_rfl, by kernel_rfl⟩ ?_
      refine TL.next rfl ?_
      refine TC.ret ?_
      have e : skywaykeep2_AlertBand seconds rate = true := by subst hr1 hr2 hr3 hr4; unfold skywaykeep2_AlertBand; exact cond_f h1 (cond_t h2 (rfl))
      exact TE.ret [] (.bool true) ⟨by kernel_rfl, by kernel_rfl⟩ (by rw [e]; first | done | kernel_rfl)
    · refine TL.run 12 [] [(7, .int .i64 r2.1), (39, .bool false), (45, .bool ((w64 (r3.1 - r2.1)) == rate))] rfl ⟨by kernel_rfl, by kernel_rfl⟩ ?_
      refine TL.split 45 ((w64 (r3.1 - r2.1)) == rate) (by kernel_rfl) (fun h3 => ?_) (fun h3 => ?_)
      · refine TL.run 17 [] [(4, .bool (decide (r2.1 ≥ 100)))] rfl ⟨by kernel_rfl, by kernel_rfl⟩ ?_
        refine TL.next rfl ?_
        refine TC.ret ?_
        have e : skywaykeep2_AlertBand seconds rate = (decide (r2.1 ≥ 100)) := by subst hr1 hr2 hr3 hr4; unfold skywaykeep2_AlertBand; exact cond_f h1 (cond_f h2 (cond_t h3 (rfl)))
        exact TE.ret [] (.bool (decide (r2.1 ≥ 100))) ⟨by kernel_rfl, by kernel_rfl⟩ (by rw [e]; first | done | kernel_rfl)
      · refine TL.run 17 [] [(4, .bool false)] rfl ⟨by kernel_rfl, by kernel_rfl⟩ ?_
        refine TL.next rfl ?_
        refine TC.ret ?_
        have e : skywaykeep2_AlertBand seconds rate = false := by subst hr1 hr2 hr3 hr4; unfold skywaykeep2_AlertBand; exact cond_f h1 (cond_f h2 (cond_f h3 (rfl)))
        exact TE.ret [] (.bool false) ⟨by kernel_rfl, by kernel_rfl⟩ (by rw [e]; first | done | kernel_rfl)

end Go.Sky
