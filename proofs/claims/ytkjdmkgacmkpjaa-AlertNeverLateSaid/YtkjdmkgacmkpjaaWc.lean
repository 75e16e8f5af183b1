/- Functions of the program, each with the Lean function that it computes. Conditions: none. -/
import Derived.Test.YtkjdmkgacmkpjaaWb
namespace Go.Sky
open Go Go.Eng Go.Proofs
def alert_out (n : Int) (high : Int) : Bool :=
  (decide (n < 0)) || (decide (n > high))

set_option maxRecDepth 100000 in
theorem alert_out_w (n : Int) (high : Int) (w : World) : Calls Try.prog 88 #[.int .i64 n, .int .i64 high] w (Ret w (.bool (alert_out n high))) := by
  refine calls_intro (vs := [.int .i64 n, .int .i64 high]) (w := w) Try.func88 rfl Try.ntmps88 rfl ?_
  refine TC.weak [(0, .int .i64 n), (1, .int .i64 high)] (by kernel_rfl) ?_
  refine TC.seq ?_
  refine TC.region ?_
  refine TL.run 1 [] [(0, .int .i64 n), (1, .int .i64 high)] rfl ⟨by kernel_rfl, by kernel_rfl⟩ ?_
  refine TL.next rfl ?_
  refine TC.seq ?_
  refine TC.region ?_
  refine TL.run 3 [] [(0, .int .i64 n), (1, .int .i64 high), (7, .bool (decide (n < 0)))] rfl ⟨by kernel_rfl, by kernel_rfl⟩ ?_
  refine TL.join 7 (decide (n < 0)) 7 [] [] (fun β => [(11, .bool (β || (decide (n > high))))]) (by kernel_rfl) rfl ⟨by kernel_rfl, by kernel_rfl⟩ ⟨by kernel_rfl, by kernel_rfl⟩ ?_
  refine TL.run 8 [] [(4, .bool ((decide (n < 0)) || (decide (n > high))))] rfl ⟨by kernel_rfl, by kernel_rfl⟩ ?_
  refine TL.next rfl ?_
  refine TC.ret ?_
  have e : alert_out n high = ((decide (n < 0)) || (decide (n > high))) := by unfold alert_out; exact rfl
  exact TE.ret [] (.bool ((decide (n < 0)) || (decide (n > high)))) ⟨by kernel_rfl, by kernel_rfl⟩ (by rw [e]; first | done | kernel_rfl)

def alert_First_1 (square : Int) (radii : Int) (height : Int) (bands : Int) (x : Sep) : Bool :=
  cond (decide (square < (w64 ((w64 (x.Lateral + radii)) * (w64 (x.Lateral + radii)))))) (
    decide (height < (w64 (x.Vertical + bands)))) (
    false)

set_option maxRecDepth 100000 in
theorem alert_First_1_w (square : Int) (radii : Int) (height : Int) (bands : Int) (a_x : Addr) (x : Sep) (w : World) (h_x : Rd w 2 (some a_x) [Sep.c x]) : Calls Try.prog 58 #[.int .i64 square, .int .i64 radii, .int .i64 height, .int .i64 bands, .pointer (some a_x)] w (Ret w (.bool (alert_First_1 square radii height bands x))) := by
  refine calls_intro (vs := [.int .i64 square, .int .i64 radii, .int .i64 height, .int .i64 bands, .pointer (some a_x)]) (w := w) Try.func58 rfl Try.ntmps58 rfl ?_
  refine TC.weak [(0, .int .i64 square), (1, .int .i64 radii), (2, .int .i64 height), (3, .int .i64 bands), (4, .pointer (some a_x))] (by kernel_rfl) ?_
  refine TC.seq ?_
  refine TC.region ?_
  refine TL.run 1 [] [(0, .int .i64 square), (1, .int .i64 radii), (2, .int .i64 height), (3, .int .i64 bands), (4, .pointer (some a_x))] rfl ⟨by kernel_rfl, by kernel_rfl⟩ ?_
  refine TL.next rfl ?_
  refine TC.seq ?_
  refine TC.region ?_
  refine TL.run 1 [] [(0, .int .i64 square), (1, .int .i64 radii), (2, .int .i64 height), (3, .int .i64 bands), (4, .pointer (some a_x)), (11, .pointer (some a_x))] rfl ⟨by kernel_rfl, by kernel_rfl⟩ ?_
  refine TL.val (sV (Instr.loadAt 3 (.pointer (some a_x)))) (some 12) (.int .i64 x.Lateral) [(0, .int .i64 square), (1, .int .i64 radii), (2, .int .i64 height), (3, .int .i64 bands), (4, .pointer (some a_x)), (12, .int .i64 x.Lateral)] (fun w hM => run_load_one (off := 0) (.int .i64 x.Lateral) (h_x.sat hM) (rows_one _) (by kernel_rfl) (by kernel_rfl)) (by kernel_rfl) (by kernel_rfl) ?_
  refine TL.run 5 [] [(0, .int .i64 square), (2, .int .i64 height), (3, .int .i64 bands), (4, .pointer (some a_x)), (10, .int .i64 (w64 (x.Lateral + radii)))] rfl ⟨by kernel_rfl, by kernel_rfl⟩ ?_
  refine TL.next rfl ?_
  refine TC.seq ?_
  refine TC.region ?_
  refine TL.run 6 [] [(2, .int .i64 height), (3, .int .i64 bands), (4, .pointer (some a_x)), (20, .bool (decide (square < (w64 ((w64 (x.Lateral + radii)) * (w64 (x.Lateral + radii)))))))] rfl ⟨by kernel_rfl, by kernel_rfl⟩ ?_
  refine TL.split 20 (decide (square < (w64 ((w64 (x.Lateral + radii)) * (w64 (x.Lateral + radii)))))) (by kernel_rfl) (fun h1 => ?_) (fun h1 => ?_)
  · refine TL.run 8 [] [(3, .int .i64 bands), (20, .bool true), (21, .int .i64 height), (22, .pointer (some (a_x.add 1)))] rfl ⟨by kernel_rfl, by kernel_rfl⟩ ?_
    refine TL.val (sV (Instr.loadAt 3 (.pointer (some (a_x.add 1))))) (some 23) (.int .i64 x.Vertical) [(3, .int .i64 bands), (20, .bool true), (21, .int .i64 height), (23, .int .i64 x.Vertical)] (fun w hM => run_load_one (off := 1) (.int .i64 x.Vertical) (h_x.sat hM) (rows_one _) (by kernel_rfl) (by kernel_rfl)) (by kernel_rfl) (by kernel_rfl) ?_
    refine TL.run 14 [] [(9, .bool (decide (height < (w64 (x.Vertical + bands)))))] rfl ⟨by kernel_rfl, by kernel_rfl⟩ ?_
    refine TL.next rfl ?_
    refine TC.ret ?_
    have e : alert_First_1 square radii height bands x = (decide (height < (w64 (x.Vertical + bands)))) := by unfold alert_First_1; exact cond_t h1 (rfl)
    exact TE.ret [] (.bool (decide (height < (w64 (x.Vertical + bands))))) ⟨by kernel_rfl, by kernel_rfl⟩ (by rw [e]; first | done | kernel_rfl)
  · refine TL.run 14 [] [(9, .bool false)] rfl ⟨by kernel_rfl, by kernel_rfl⟩ ?_
    refine TL.next rfl ?_
    refine TC.ret ?_
    have e : alert_First_1 square radii height bands x = false := by unfold alert_First_1; exact cond_f h1 (rfl)
    exact TE.ret [] (.bool false) ⟨by kernel_rfl, by kernel_rfl⟩ (by rw [e]; first | done | kernel_rfl)

def alert_Certain_1 (square : Int) (radii : Int) (height : Int) (bands : Int) (x : Sep) : Bool :=
  cond ((decide ((w64 (x.Lateral - radii)) > 0)) && (decide (square < (w64 ((w64 (x.Lateral - radii)) * (w64 (x.Lateral - radii))))))) (
    decide (height < (w64 (x.Vertical - bands)))) (
    false)

set_option maxRecDepth 100000 in
theorem alert_Certain_1_w (square : Int) (radii : Int) (height : Int) (bands : Int) (a_x : Addr) (x : Sep) (w : World) (h_x : Rd w 2 (some a_x) [Sep.c x]) : Calls Try.prog 57 #[.int .i64 square, .int .i64 radii, .int .i64 height, .int .i64 bands, .pointer (some a_x)] w (Ret w (.bool (alert_Certain_1 square radii height bands x))) := by
  refine calls_intro (vs := [.int .i64 square, .int .i64 radii, .int .i64 height, .int .i64 bands, .pointer (some a_x)]) (w := w) Try.func57 rfl Try.ntmps57 rfl ?_
  refine TC.weak [(0, .int .i64 square), (1, .int .i64 radii), (2, .int .i64 height), (3, .int .i64 bands), (4, .pointer (some a_x))] (by kernel_rfl) ?_
  refine TC.seq ?_
  refine TC.region ?_
  refine TL.run 1 [] [(0, .int .i64 square), (1, .int .i64 radii), (2, .int .i64 height), (3, .int .i64 bands), (4, .pointer (some a_x))] rfl ⟨by kernel_rfl, by kernel_rfl⟩ ?_
  refine TL.next rfl ?_
  refine TC.seq ?_
  refine TC.region ?_
  refine TL.run 1 [] [(0, .int .i64 square), (1, .int .i64 radii), (2, .int .i64 height), (3, .int .i64 bands), (4, .pointer (some a_x)), (11, .pointer (some a_x))] rfl ⟨by kernel_rfl, by kernel_rfl⟩ ?_
  refine TL.val (sV (Instr.loadAt 3 (.pointer (some a_x)))) (some 12) (.int .i64 x.Lateral) [(0, .int .i64 square), (1, .int .i64 radii), (2, .int .i64 height), (3, .int .i64 bands), (4, .pointer (some a_x)), (12, .int .i64 x.Lateral)] (fun w hM => run_load_one (off := 0) (.int .i64 x.Lateral) (h_x.sat hM) (rows_one _) (by kernel_rfl) (by kernel_rfl)) (by kernel_rfl) (by kernel_rfl) ?_
  refine TL.run 5 [] [(0, .int .i64 square), (2, .int .i64 height), (3, .int .i64 bands), (4, .pointer (some a_x)), (10, .int .i64 (w64 (x.Lateral - radii)))] rfl ⟨by kernel_rfl, by kernel_rfl⟩ ?_
  refine TL.next rfl ?_
  refine TC.seq ?_
  refine TC.region ?_
  refine TL.run 3 [] [(0, .int .i64 square), (2, .int .i64 height), (3, .int .i64 bands), (4, .pointer (some a_x)), (10, .int .i64 (w64 (x.Lateral - radii))), (17, .bool (decide ((w64 (x.Lateral - radii)) > 0)))] rfl ⟨by kernel_rfl, by kernel_rfl⟩ ?_
  refine TL.join 17 (decide ((w64 (x.Lateral - radii)) > 0)) 9 [] [] (fun β => [(2, .int .i64 height), (3, .int .i64 bands), (4, .pointer (some a_x)), (23, .bool (β && (decide (square < (w64 ((w64 (x.Lateral - radii)) * (w64 (x.Lateral - radii))))))))]) (by kernel_rfl) rfl ⟨by kernel_rfl, by kernel_rfl⟩ ⟨by kernel_rfl, by kernel_rfl⟩ ?_
  refine TL.run 10 [] [(2, .int .i64 height), (3, .int .i64 bands), (4, .pointer (some a_x)), (24, .bool ((decide ((w64 (x.Lateral - radii)) > 0)) && (decide (square < (w64 ((w64 (x.Lateral - radii)) * (w64 (x.Lateral - radii))))))))] rfl ⟨by kernel_rfl, by kernel_rfl⟩ ?_
  refine TL.split 24 ((decide ((w64 (x.Lateral - radii)) > 0)) && (decide (square < (w64 ((w64 (x.Lateral - radii)) * (w64 (x.Lateral - radii))))))) (by kernel_rfl) (fun h1 => ?_) (fun h1 => ?_)
  · refine TL.run 12 [] [(3, .int .i64 bands), (24, .bool true), (25, .int .i64 height), (26, .pointer (some (a_x.add 1)))] rfl ⟨by kernel_rfl, by kernel_rfl⟩ ?_
    refine TL.val (sV (Instr.loadAt 3 (.pointer (some (a_x.add 1))))) (some 27) (.int .i64 x.Vertical) [(3, .int .i64 bands), (24, .bool true), (25, .int .i64 height), (27, .int .i64 x.Vertical)] (fun w hM => run_load_one (off := 1) (.int .i64 x.Vertical) (h_x.sat hM) (rows_one _) (by kernel_rfl) (by kernel_rfl)) (by kernel_rfl) (by kernel_rfl) ?_
    refine TL.run 18 [] [(9, .bool (decide (height < (w64 (x.Vertical - bands)))))] rfl ⟨by kernel_rfl, by kernel_rfl⟩ ?_
    refine TL.next rfl ?_
    refine TC.ret ?_
    have e : alert_Certain_1 square radii height bands x = (decide (height < (w64 (x.Vertical - bands)))) := by unfold alert_Certain_1; exact cond_t h1 (rfl)
    exact TE.ret [] (.bool (decide (height < (w64 (x.Vertical - bands))))) ⟨by kernel_rfl, by kernel_rfl⟩ (by rw [e]; first | done | kernel_rfl)
  · refine TL.run 18 [] [(9, .bool false)] rfl ⟨by kernel_rfl, by kernel_rfl⟩ ?_
    refine TL.next rfl ?_
    refine TC.ret ?_
    have e : alert_Certain_1 square radii height bands x = false := by unfold alert_Certain_1; exact cond_f h1 (rfl)
    exact TE.ret [] (.bool false) ⟨by kernel_rfl, by kernel_rfl⟩ (by rw [e]; first | done | kernel_rfl)

def search_first_L1 (a : FilterTrack) (b_ : FilterTrack) : Nat → Nat → ((Unit) ⊕ (Int × Int))
  | 0, _ => .inl ()
  | m + 1, k => let r1 := filter_Check (([a, b_] : List FilterTrack)[k]?.getD FilterTrack.zero)
    cond (r1 != 0) (
      .inr (0, r1)) (
      search_first_L1 a b_ m (k + 1))
def search_first_L2 (a : FilterTrack) (b_ : FilterTrack) (accel : Int) (climb : Int) (c0 : Sep) : Nat → Nat → ((Unit) ⊕ (Int × Int))
  | 0, _ => .inl ()
  | m + 1, k_2 => let r7 := filter_Predict a (w64 ((imax a.Track.Time b_.Track.Time) + (k_2 : Int))) accel
    let r8 := filter_Predict b_ (w64 ((imax a.Track.Time b_.Track.Time) + (k_2 : Int))) accel
    cond ((r7.2 != 0) || (r8.2 != 0)) (
      .inr (0, 12)) (
      let r9 := plane_Square r7.1.Track.At r8.1.Track.At
      let r10 := alert_First_1 r9 (w64 (r7.1.Track.Radius + r8.1.Track.Radius)) (imax (w64 (r7.1.Track.Height - r8.1.Track.Height)) (w64 (r8.1.Track.Height - r7.1.Track.Height))) (w64 (200 + (w64 (climb * (w64 ((w64 ((w64 (2 * (w64 ((imax a.Track.Time b_.Track.Time) + (k_2 : Int))))) - a.Track.Time)) - b_.Track.Time)))))) c0
      cond r10 (
        .inr ((k_2 : Int), 0)) (
        search_first_L2 a b_ accel climb c0 m (k_2 + 1)))
def search_first (a : FilterTrack) (b_ : FilterTrack) (s : Sep) (seconds : Int) (accel : Int) (climb : Int) (c0 : Sep) : Int × Int :=
  Sum.elim (fun _ =>
    let r2 := alert_out s.Lateral 1000000
    cond r2 (
      (0, 4)) (
      let r3 := alert_out s.Vertical 60000
      cond r3 (
        (0, 4)) (
        let r4 := alert_out seconds 300
        cond r4 (
          (0, 4)) (
          let r5 := alert_out accel 20
          cond r5 (
            (0, 4)) (
            let r6 := alert_out climb 200
            cond r6 (
              (0, 4)) (
              Sum.elim (fun _ =>
                (0, 8)) (fun r => r) (search_first_L2 a b_ accel climb c0 ((seconds + 1).toNat) 0))))))) (fun r => r) (search_first_L1 a b_ ((2 : Int).toNat) 0)

theorem alert_out_in {n high : Int} {r : Bool} (hr : alert_out n high = r) (h : r = false) : 0 ≤ n ∧ n ≤ high := by
  subst hr; unfold alert_out at h
  by_cases h1 : n < 0
  · rw [decide_eq_true h1] at h; cases h
  · rw [decide_eq_false h1] at h; have := of_decide_eq_false h; omega

set_option maxRecDepth 100000 in
theorem search_first_w (a : FilterTrack) (b_ : FilterTrack) (s : Sep) (seconds : Int) (accel : Int) (climb : Int) (a_c0 : Addr) (c0 : Sep) (w : World) (h_c0 : Rd w 2 (some a_c0) [Sep.c c0]) : Calls Try.prog 56 #[FilterTrack.v a, FilterTrack.v b_, Sep.v s, .int .i64 seconds, .int .i64 accel, .int .i64 climb, .func (.func 58) #[] #[.pointer (some a_c0)]] w (Ret w (.tuple #[.int .i64 ((search_first a b_ s seconds accel climb c0).1), .int .i64 ((search_first a b_ s seconds accel climb c0).2)])) := by
  refine calls_intro (vs := [FilterTrack.v a, FilterTrack.v b_, Sep.v s, .int .i64 seconds, .int .i64 accel, .int .i64 climb, .func (.func 58) #[] #[.pointer (some a_c0)]]) (w := w) Try.func56 rfl Try.ntmps56 rfl ?_
  refine TC.weak [(0, FilterTrack.v a), (1, FilterTrack.v b_), (2, Sep.v s), (3, .int .i64 seconds), (4, .int .i64 accel), (5, .int .i64 climb), (6, .func (.func 58) #[] #[.pointer (some a_c0)])] (by kernel_rfl) ?_
  refine TC.seq ?_
  refine TC.region ?_
  refine TL.write 0 (fun b1 => [(1, FilterTrack.v b_), (2, Sep.v s), (3, .int .i64 seconds), (4, .int .i64 accel), (5, .int .i64 climb), (6, .func (.func 58) #[] #[.pointer (some a_c0)]), (7, .pointer (some ⟨b1, 0, none⟩))]) (fun b1 => [.inl (b1, .cells (FilterTrack.c a) 29 (0, 0))]) (fun b1 => ⟨by kernel_rfl, by kernel_rfl⟩) (fun b1 => ?_)
  refine TL.write 0 (fun b2 => [(2, Sep.v s), (3, .int .i64 seconds), (4, .int .i64 accel), (5, .int .i64 climb), (6, .func (.func 58) #[] #[.pointer (some a_c0)]), (7, .pointer (some ⟨b1, 0, none⟩)), (8, .pointer (some ⟨b2, 0, none⟩))]) (fun b2 => [.inl (b2, .cells (FilterTrack.c b_) 29 (0, 0)), .inl (b1, .cells (FilterTrack.c a) 29 (0, 0))]) (fun b2 => ⟨by kernel_rfl, by kernel_rfl⟩) (fun b2 => ?_)
  refine TL.write 0 (fun b3 => [(3, .int .i64 seconds), (4, .int .i64 accel), (5, .int .i64 climb), (6, .func (.func 58) #[] #[.pointer (some a_c0)]), (7, .pointer (some ⟨b1, 0, none⟩)), (8, .pointer (some ⟨b2, 0, none⟩)), (9, .pointer (some ⟨b3, 0, none⟩))]) (fun b3 => [.inl (b3, .cells (Sep.c s) 41 (0, 0)), .inl (b2, .cells (FilterTrack.c b_) 29 (0, 0)), .inl (b1, .cells (FilterTrack.c a) 29 (0, 0))]) (fun b3 => ⟨by kernel_rfl, by kernel_rfl⟩) (fun b3 => ?_)
  refine TL.run 5 [] [(3, .int .i64 seconds), (4, .int .i64 accel), (5, .int .i64 climb), (6, .func (.func 58) #[] #[.pointer (some a_c0)]), (7, .pointer (some ⟨b1, 0, none⟩)), (8, .pointer (some ⟨b2, 0, none⟩)), (9, .pointer (some ⟨b3, 0, none⟩))] rfl ⟨by kernel_rfl, by kernel_rfl⟩ ?_
  refine TL.next rfl ?_
  refine TC.seq ?_
  refine TC.seq ?_
  refine TC.region ?_
  refine TL.run 2 [2, 1] [(3, .int .i64 seconds), (4, .int .i64 accel), (5, .int .i64 climb), (6, .func (.func 58) #[] #[.pointer (some a_c0)]), (7, .pointer (some ⟨b1, 0, none⟩)), (8, .pointer (some ⟨b2, 0, none⟩)), (9, .pointer (some ⟨b3, 0, none⟩)), (28, FilterTrack.v a), (29, FilterTrack.v b_)] rfl ⟨by kernel_rfl, by kernel_rfl⟩ ?_
  refine TL.write 0 (fun b4 => [(3, .int .i64 seconds), (4, .int .i64 accel), (5, .int .i64 climb), (6, .func (.func 58) #[] #[.pointer (some a_c0)]), (7, .pointer (some ⟨b1, 0, none⟩)), (8, .pointer (some ⟨b2, 0, none⟩)), (9, .pointer (some ⟨b3, 0, none⟩)), (30, .slice (some ⟨b4, 0, none⟩) 2 2)]) (fun b4 => [.inl (b4, .cells #[.int .i64 a.Track.ID, .int .i64 a.Track.State, .int .i64 a.Track.Time, .int .i64 a.Track.At.X, .int .i64 a.Track.At.Y, .int .i64 a.Track.Speed.X, .int .i64 a.Track.Speed.Y, .int .i64 a.Track.Height, .int .i64 a.Track.Rate, .int .i64 a.Track.Radius, .int .i64 a.Track.Code, .int .i64 a.Track.Hits, .int .i64 a.Track.Misses, .int .i64 a.Slack, .int .i64 a.Last.Time, .int .i64 a.Last.At.X, .int .i64 a.Last.At.Y, .int .i64 a.Last.Height, .int .i64 a.Last.Code, .int .i64 a.Last.Error, .int .i64 b_.Track.ID, .int .i64 b_.Track.State, .int .i64 b_.Track.Time, .int .i64 b_.Track.At.X, .int .i64 b_.Track.At.Y, .int .i64 b_.Track.Speed.X, .int .i64 b_.Track.Speed.Y, .int .i64 b_.Track.Height, .int .i64 b_.Track.Rate, .int .i64 b_.Track.Radius, .int .i64 b_.Track.Code, .int .i64 b_.Track.Hits, .int .i64 b_.Track.Misses, .int .i64 b_.Slack, .int .i64 b_.Last.Time, .int .i64 b_.Last.At.X, .int .i64 b_.Last.At.Y, .int .i64 b_.Last.Height, .int .i64 b_.Last.Code, .int .i64 b_.Last.Error] 29 (0, 0)), .inl (b3, .cells (Sep.c s) 41 (0, 0)), .inl (b2, .cells (FilterTrack.c b_) 29 (0, 0)), .inl (b1, .cells (FilterTrack.c a) 29 (0, 0))]) (fun b4 => ⟨by kernel_rfl, by kernel_rfl⟩) (fun b4 => ?_)
  refine TL.run 5 [] [(3, .int .i64 seconds), (4, .int .i64 accel), (5, .int .i64 climb), (6, .func (.func 58) #[] #[.pointer (some a_c0)]), (7, .pointer (some ⟨b1, 0, none⟩)), (8, .pointer (some ⟨b2, 0, none⟩)), (9, .pointer (some ⟨b3, 0, none⟩)), (30, .slice (some ⟨b4, 0, none⟩) 2 2), (31, .int .i64 2), (32, .int .i64 0)] rfl ⟨by kernel_rfl, by kernel_rfl⟩ ?_
  refine TL.next rfl ?_
  refine TC.conv [.inr (Own (some ⟨b4, 0, none⟩) 2 29 20 (([a, b_] : List FilterTrack).map FilterTrack.c)), .inl (b3, .cells (Sep.c s) 41 (0, 0)), .inl (b2, .cells (FilterTrack.c b_) 29 (0, 0)), .inl (b1, .cells (FilterTrack.c a) 29 (0, 0))] (fun _ hM => by exact hM.litrow 0 (([a, b_] : List FilterTrack).map FilterTrack.c) rfl (by kernel_rfl) (by kernel_rfl) (by kernel_rfl) (by kernel_rfl)) ?_
  refine TC.weak [(3, .int .i64 seconds), (4, .int .i64 accel), (5, .int .i64 climb), (6, .func (.func 58) #[] #[.pointer (some a_c0)]), (7, .pointer (some ⟨b1, 0, none⟩)), (8, .pointer (some ⟨b2, 0, none⟩)), (9, .pointer (some ⟨b3, 0, none⟩)), (30, .slice (some ⟨b4, 0, none⟩) (([a, b_] : List FilterTrack).length) 2), (31, .int .i64 2), (32, .int .i64 0)] (by kernel_rfl) ?_
  obtain ⟨R2, hR⟩ : ∃ R, R = search_first_L1 a b_ ((2 : Int).toNat) 0 := ⟨_, rfl⟩
  refine TC.cut (S := Unit) (fun (_ : Unit) => [(3, .int .i64 seconds), (4, .int .i64 accel), (5, .int .i64 climb), (6, .func (.func 58) #[] #[.pointer (some a_c0)]), (7, .pointer (some ⟨b1, 0, none⟩)), (8, .pointer (some ⟨b2, 0, none⟩)), (9, .pointer (some ⟨b3, 0, none⟩))]) (fun (_ : Unit) => [.inl (b3, .cells (Sep.c s) 41 (0, 0)), .inl (b2, .cells (FilterTrack.c b_) 29 (0, 0)), .inl (b1, .cells (FilterTrack.c a) 29 (0, 0))]) (fun (_ : Unit) => R2 = .inl ()) ?_ ?_
  · refine TC.block ?_
    refine TC.loop (X := Nat) (fun k => [(3, .int .i64 seconds), (4, .int .i64 accel), (5, .int .i64 climb), (6, .func (.func 58) #[] #[.pointer (some a_c0)]), (7, .pointer (some ⟨b1, 0, none⟩)), (8, .pointer (some ⟨b2, 0, none⟩)), (9, .pointer (some ⟨b3, 0, none⟩)), (30, .slice (some ⟨b4, 0, none⟩) (([a, b_] : List FilterTrack).length) 2), (31, .int .i64 2), (32, .int .i64 (k : Int))]) (fun k => [.inr (Own (some ⟨b4, 0, none⟩) 2 29 20 (([a, b_] : List FilterTrack).map FilterTrack.c)), .inl (b3, .cells (Sep.c s) 41 (0, 0)), .inl (b2, .cells (FilterTrack.c b_) 29 (0, 0)), .inl (b1, .cells (FilterTrack.c a) 29 (0, 0))]) (fun k => (2 : Int).toNat - k) (fun k => k ≤ (2 : Int).toNat ∧ R2 = search_first_L1 a b_ ((2 : Int).toNat - k) k) ?_ 0 ⟨Nat.zero_le _, hR⟩
    rintro k ⟨hk, hI⟩
    refine TC.seq ?_
    refine TC.region ?_
    refine TL.run 1 [] [(3, .int .i64 seconds), (4, .int .i64 accel), (5, .int .i64 climb), (6, .func (.func 58) #[] #[.pointer (some a_c0)]), (7, .pointer (some ⟨b1, 0, none⟩)), (8, .pointer (some ⟨b2, 0, none⟩)), (9, .pointer (some ⟨b3, 0, none⟩)), (30, .slice (some ⟨b4, 0, none⟩) (([a, b_] : List FilterTrack).length) 2), (31, .int .i64 2), (32, .int .i64 (k : Int)), (33, .bool (decide ((k : Int) < 2)))] rfl ⟨by kernel_rfl, by kernel_rfl⟩ ?_
    refine TL.next rfl ?_
    refine TC.seq ?_
    refine TC.cond (decide ((k : Int) < 2)) rfl (by kernel_rfl) (fun h1 => ?_) (fun h1 => ?_)
    · have hlt : k < (2 : Int).toNat := by have := of_decide_eq_true h1; first | omega | (simp at this; omega)
      have hd : (2 : Int).toNat - k = ((2 : Int).toNat - (k + 1)) + 1 := by omega
      refine TC.skip ?_
      refine TE.next ?_
      refine TC.seq ?_
      refine TC.block ?_
      refine TC.seq ?_
      refine TC.region ?_
      refine TL.val (sV (Instr.indexAt 30 (.slice (some ⟨b4, 0, none⟩) (([a, b_] : List FilterTrack).length) 2) (.int .i64 (k : Int)))) (some 34) (.pointer (some (((some ⟨b4, 0, none⟩).getD noAddr).add (k * 20)))) [(3, .int .i64 seconds), (4, .int .i64 accel), (5, .int .i64 climb), (6, .func (.func 58) #[] #[.pointer (some a_c0)]), (7, .pointer (some ⟨b1, 0, none⟩)), (8, .pointer (some ⟨b2, 0, none⟩)), (9, .pointer (some ⟨b3, 0, none⟩)), (30, .slice (some ⟨b4, 0, none⟩) (([a, b_] : List FilterTrack).length) 2), (31, .int .i64 2), (32, .int .i64 (k : Int)), (34, .pointer (some (((some ⟨b4, 0, none⟩).getD noAddr).add (k * 20))))] (fun w hM => run_index (hM.rd_at 0 rfl) (by simp) (by kernel_rfl) (by first | omega | (simp only [List.length_drop]; omega) | (simp only [w64_eq]; omega) | exact (tm_in (by (first | (rw [w64_id (by omega)]; omega) | (simp only [w64_eq]; omega))) (by omega)).1 | exact (tm_in (by (first | (rw [w64_id (by omega)]; omega) | (simp only [w64_eq]; omega))) (by omega)).2.1 | exact (tm_in (by (first | (rw [w64_id (by omega)]; omega) | (simp only [w64_eq]; omega))) (by omega)).2.2 | (simp <;> omega)) (by first | omega | (simp only [List.length_drop]; omega) | (simp only [w64_eq]; omega) | exact (tm_in (by (first | (rw [w64_id (by omega)]; omega) | (simp only [w64_eq]; omega))) (by omega)).1 | exact (tm_in (by (first | (rw [w64_id (by omega)]; omega) | (simp only [w64_eq]; omega))) (by omega)).2.1 | exact (tm_in (by (first | (rw [w64_id (by omega)]; omega) | (simp only [w64_eq]; omega))) (by omega)).2.2 | (simp <;> omega))) (by kernel_rfl) (by kernel_rfl) ?_
      refine TL.val (sV (Instr.loadAt 29 (.pointer (some (((some ⟨b4, 0, none⟩).getD noAddr).add (k * 20)))))) (some 35) (FilterTrack.v (([a, b_] : List FilterTrack)[k]?.getD FilterTrack.zero)) [(3, .int .i64 seconds), (4, .int .i64 accel), (5, .int .i64 climb), (6, .func (.func 58) #[] #[.pointer (some a_c0)]), (7, .pointer (some ⟨b1, 0, none⟩)), (8, .pointer (some ⟨b2, 0, none⟩)), (9, .pointer (some ⟨b3, 0, none⟩)), (30, .slice (some ⟨b4, 0, none⟩) (([a, b_] : List FilterTrack).length) 2), (31, .int .i64 2), (32, .int .i64 (k : Int)), (35, FilterTrack.v (([a, b_] : List FilterTrack)[k]?.getD FilterTrack.zero))] (fun w hM => run_load_agg (n := 20) (off := 0) (i := k) (FilterTrack.v (([a, b_] : List FilterTrack)[k]?.getD FilterTrack.zero)) (hM.rd_at 0 rfl) (map_at (getD_at _ _ FilterTrack.zero (by first | omega | (simp only [List.length_drop]; omega) | (simp only [w64_eq]; omega) | exact (tm_in (by (first | (rw [w64_id (by omega)]; omega) | (simp only [w64_eq]; omega))) (by omega)).1 | exact (tm_in (by (first | (rw [w64_id (by omega)]; omega) | (simp only [w64_eq]; omega))) (by omega)).2.1 | exact (tm_in (by (first | (rw [w64_id (by omega)]; omega) | (simp only [w64_eq]; omega))) (by omega)).2.2 | (simp <;> omega)))) (by kernel_rfl) (by kernel_rfl) (by kernel_rfl)) (by kernel_rfl) (by kernel_rfl) ?_
      refine TL.write 0 (fun b5 => [(3, .int .i64 seconds), (4, .int .i64 accel), (5, .int .i64 climb), (6, .func (.func 58) #[] #[.pointer (some a_c0)]), (7, .pointer (some ⟨b1, 0, none⟩)), (8, .pointer (some ⟨b2, 0, none⟩)), (9, .pointer (some ⟨b3, 0, none⟩)), (17, .pointer (some ⟨b5, 0, none⟩)), (30, .slice (some ⟨b4, 0, none⟩) (([a, b_] : List FilterTrack).length) 2), (31, .int .i64 2), (32, .int .i64 (k : Int)), (35, FilterTrack.v (([a, b_] : List FilterTrack)[k]?.getD FilterTrack.zero))]) (fun b5 => [.inl (b5, .cells (FilterTrack.c FilterTrack.zero) 29 (0, 0)), .inr (Own (some ⟨b4, 0, none⟩) 2 29 20 (([a, b_] : List FilterTrack).map FilterTrack.c)), .inl (b3, .cells (Sep.c s) 41 (0, 0)), .inl (b2, .cells (FilterTrack.c b_) 29 (0, 0)), .inl (b1, .cells (FilterTrack.c a) 29 (0, 0))]) (fun b5 => ⟨by kernel_rfl, by kernel_rfl⟩) (fun b5 => ?_)
      refine TL.write 0 (fun _ => [(3, .int .i64 seconds), (4, .int .i64 accel), (5, .int .i64 climb), (6, .func (.func 58) #[] #[.pointer (some a_c0)]), (7, .pointer (some ⟨b1, 0, none⟩)), (8, .pointer (some ⟨b2, 0, none⟩)), (9, .pointer (some ⟨b3, 0, none⟩)), (17, .pointer (some ⟨b5, 0, none⟩)), (30, .slice (some ⟨b4, 0, none⟩) (([a, b_] : List FilterTrack).length) 2), (31, .int .i64 2), (32, .int .i64 (k : Int))]) (fun _ => [.inl (b5, .cells (FilterTrack.c (([a, b_] : List FilterTrack)[k]?.getD FilterTrack.zero)) 29 (0, 0)), .inr (Own (some ⟨b4, 0, none⟩) 2 29 20 (([a, b_] : List FilterTrack).map FilterTrack.c)), .inl (b3, .cells (Sep.c s) 41 (0, 0)), .inl (b2, .cells (FilterTrack.c b_) 29 (0, 0)), .inl (b1, .cells (FilterTrack.c a) 29 (0, 0))]) (fun _ => ⟨by kernel_rfl, by kernel_rfl⟩) (fun _ => ?_)
      refine TL.next rfl ?_
      refine TC.seq ?_
      refine TC.region ?_
      refine TL.run 1 [0] [(3, .int .i64 seconds), (4, .int .i64 accel), (5, .int .i64 climb), (6, .func (.func 58) #[] #[.pointer (some a_c0)]), (7, .pointer (some ⟨b1, 0, none⟩)), (8, .pointer (some ⟨b2, 0, none⟩)), (9, .pointer (some ⟨b3, 0, none⟩)), (30, .slice (some ⟨b4, 0, none⟩) (([a, b_] : List FilterTrack).length) 2), (31, .int .i64 2), (32, .int .i64 (k : Int)), (36, FilterTrack.v (([a, b_] : List FilterTrack)[k]?.getD FilterTrack.zero))] rfl ⟨by kernel_rfl, by kernel_rfl⟩ ?_
      refine TL.call (some 37) [(3, .int .i64 seconds), (4, .int .i64 accel), (5, .int .i64 climb), (6, .func (.func 58) #[] #[.pointer (some a_c0)]), (7, .pointer (some ⟨b1, 0, none⟩)), (8, .pointer (some ⟨b2, 0, none⟩)), (9, .pointer (some ⟨b3, 0, none⟩)), (30, .slice (some ⟨b4, 0, none⟩) (([a, b_] : List FilterTrack).length) 2), (31, .int .i64 2), (32, .int .i64 (k : Int)), (37, .int .i64 (filter_Check (([a, b_] : List FilterTrack)[k]?.getD FilterTrack.zero)))] (fun w _ => filter_Check_w (([a, b_] : List FilterTrack)[k]?.getD FilterTrack.zero) w) (by kernel_rfl) (by kernel_rfl) ?_
      generalize hr1 : filter_Check (([a, b_] : List FilterTrack)[k]?.getD FilterTrack.zero) = r1
      refine TL.run 3 [] [(3, .int .i64 seconds), (4, .int .i64 accel), (5, .int .i64 climb), (6, .func (.func 58) #[] #[.pointer (some a_c0)]), (7, .pointer (some ⟨b1, 0, none⟩)), (8, .pointer (some ⟨b2, 0, none⟩)), (9, .pointer (some ⟨b3, 0, none⟩)), (18, .int .i64 r1), (30, .slice (some ⟨b4, 0, none⟩) (([a, b_] : List FilterTrack).length) 2), (31, .int .i64 2), (32, .int .i64 (k : Int))] rfl ⟨by kernel_rfl, by kernel_rfl⟩ ?_
      refine TL.next rfl ?_
      refine TC.seq ?_
      refine TC.region ?_
      refine TL.run 2 [] [(3, .int .i64 seconds), (4, .int .i64 accel), (5, .int .i64 climb), (6, .func (.func 58) #[] #[.pointer (some a_c0)]), (7, .pointer (some ⟨b1, 0, none⟩)), (8, .pointer (some ⟨b2, 0, none⟩)), (9, .pointer (some ⟨b3, 0, none⟩)), (18, .int .i64 r1), (30, .slice (some ⟨b4, 0, none⟩) (([a, b_] : List FilterTrack).length) 2), (31, .int .i64 2), (32, .int .i64 (k : Int)), (39, .bool (r1 != 0))] rfl ⟨by kernel_rfl, by kernel_rfl⟩ ?_
      refine TL.next rfl ?_
      refine TC.cond (r1 != 0) rfl (by kernel_rfl) (fun h2 => ?_) (fun h2 => ?_)
      · refine TC.seq ?_
        refine TC.region ?_
        refine TL.run 3 [] [(14, .int .i64 0), (15, .int .i64 r1)] rfl ⟨by kernel_rfl, by kernel_rfl⟩ ?_
        refine TL.next rfl ?_
        refine TC.ret ?_
        refine TE.ret_block (TE.ret_then (TE.ret_then (TE.ret_block (TE.ret_then (TE.ret_then ?_)))))
        have e : search_first a b_ s seconds accel climb c0 = (0, r1) := by subst hr1; unfold search_first; exact elim_r (hR.symm.trans (hI.trans (by rw [hd]; exact cond_t h2 (rfl)))) rfl
        exact TE.ret [] (.tuple #[.int .i64 0, .int .i64 r1]) ⟨by kernel_rfl, by kernel_rfl⟩ (by rw [e]; first | done | kernel_rfl)
      · refine TC.skip ?_
        refine TE.normal_block ?_
        refine TE.next ?_
        refine TC.region ?_
        refine TL.run 2 [] [(3, .int .i64 seconds), (4, .int .i64 accel), (5, .int .i64 climb), (6, .func (.func 58) #[] #[.pointer (some a_c0)]), (7, .pointer (some ⟨b1, 0, none⟩)), (8, .pointer (some ⟨b2, 0, none⟩)), (9, .pointer (some ⟨b3, 0, none⟩)), (30, .slice (some ⟨b4, 0, none⟩) (([a, b_] : List FilterTrack).length) 2), (31, .int .i64 2), (32, .int .i64 (w64 ((k : Int) + 1)))] rfl ⟨by kernel_rfl, by kernel_rfl⟩ ?_
        refine TL.done rfl ?_
        refine TE.rw 32 (.int .i64 (w64 ((k : Int) + 1))) (.int .i64 ((k + 1 : Nat) : Int)) (by kernel_rfl) (w64_cast k (by omega)) ?_
        exact TE.again (x := k) (k + 1) ⟨by omega, hI.trans (by subst hr1; rw [hd]; exact cond_f h2 (rfl))⟩ (by show (2 : Int).toNat - (k + 1) < (2 : Int).toNat - k; omega) (by kernel_rfl) (.cons _ (.cons_cons _ (.cons_cons _ (.cons_cons _ (.cons_cons _ (.slnil))))))
    · have hd : (2 : Int).toNat - k = 0 := by have := of_decide_eq_false h1; first | omega | (simp at this; omega)
      refine TC.exit ?_
      refine TE.exit_then (TE.exit_then (TE.exit_same ?_))
      exact TE.cut () (hI.trans (by rw [hd]; exact rfl)) (by kernel_rfl) (.cons _ (.cons_cons _ (.cons_cons _ (.cons_cons _ (.slnil)))))
  · intro _ hJ
    refine TE.next ?_
    refine TC.seq ?_
    refine TC.seq ?_
    refine TC.region ?_
    refine TL.run 2 [0] [(3, .int .i64 seconds), (4, .int .i64 accel), (5, .int .i64 climb), (6, .func (.func 58) #[] #[.pointer (some a_c0)]), (7, .pointer (some ⟨b1, 0, none⟩)), (8, .pointer (some ⟨b2, 0, none⟩)), (9, .pointer (some ⟨b3, 0, none⟩)), (43, .int .i64 s.Lateral)] rfl ⟨by kernel_rfl, by kernel_rfl⟩ ?_
    refine TL.call (some 44) [(3, .int .i64 seconds), (4, .int .i64 accel), (5, .int .i64 climb), (6, .func (.func 58) #[] #[.pointer (some a_c0)]), (7, .pointer (some ⟨b1, 0, none⟩)), (8, .pointer (some ⟨b2, 0, none⟩)), (9, .pointer (some ⟨b3, 0, none⟩)), (44, .bool ((alert_out s.Lateral 1000000)))] (fun w _ => alert_out_w s.Lateral 1000000 w) (by kernel_rfl) (by kernel_rfl) ?_
    generalize hr2 : alert_out s.Lateral 1000000 = r2
    refine TL.run 4 [] [(3, .int .i64 seconds), (4, .int .i64 accel), (5, .int .i64 climb), (6, .func (.func 58) #[] #[.pointer (some a_c0)]), (7, .pointer (some ⟨b1, 0, none⟩)), (8, .pointer (some ⟨b2, 0, none⟩)), (9, .pointer (some ⟨b3, 0, none⟩)), (45, .bool r2)] rfl ⟨by kernel_rfl, by kernel_rfl⟩ ?_
    refine TL.split 45 r2 (by kernel_rfl) (fun h3 => ?_) (fun h3 => ?_)
    · refine TL.run 20 [] [(3, .int .i64 seconds), (4, .int .i64 accel), (5, .int .i64 climb), (6, .func (.func 58) #[] #[.pointer (some a_c0)]), (7, .pointer (some ⟨b1, 0, none⟩)), (8, .pointer (some ⟨b2, 0, none⟩)), (61, .bool true)] rfl ⟨by kernel_rfl, by kernel_rfl⟩ ?_
      refine TL.next rfl ?_
      refine TC.condT rfl (by kernel_rfl) ?_
      refine TC.seq ?_
      refine TC.region ?_
      refine TL.run 2 [] [(14, .int .i64 0), (15, .int .i64 4)] rfl ⟨by kernel_rfl, by kernel_rfl⟩ ?_
      refine TL.next rfl ?_
      refine TC.ret ?_
      refine TE.ret_then ?_
      have e : search_first a b_ s seconds accel climb c0 = (0, 4) := by subst hr2; unfold search_first; exact elim_l (hR.symm.trans hJ) (cond_t h3 (rfl))
      exact TE.ret [] (.tuple #[.int .i64 0, .int .i64 4]) ⟨by kernel_rfl, by kernel_rfl⟩ (by rw [e]; first | done | kernel_rfl)
    · refine TL.run 6 [0] [(3, .int .i64 seconds), (4, .int .i64 accel), (5, .int .i64 climb), (6, .func (.func 58) #[] #[.pointer (some a_c0)]), (7, .pointer (some ⟨b1, 0, none⟩)), (8, .pointer (some ⟨b2, 0, none⟩)), (45, .bool false), (47, .int .i64 s.Vertical)] rfl ⟨by kernel_rfl, by kernel_rfl⟩ ?_
      refine TL.call (some 48) [(3, .int .i64 seconds), (4, .int .i64 accel), (5, .int .i64 climb), (6, .func (.func 58) #[] #[.pointer (some a_c0)]), (7, .pointer (some ⟨b1, 0, none⟩)), (8, .pointer (some ⟨b2, 0, none⟩)), (45, .bool false), (48, .bool ((alert_out s.Vertical 60000)))] (fun w _ => alert_out_w s.Vertical 60000 w) (by kernel_rfl) (by kernel_rfl) ?_
      generalize hr3 : alert_out s.Vertical 60000 = r3
      refine TL.run 9 [] [(3, .int .i64 seconds), (4, .int .i64 accel), (5, .int .i64 climb), (6, .func (.func 58) #[] #[.pointer (some a_c0)]), (7, .pointer (some ⟨b1, 0, none⟩)), (8, .pointer (some ⟨b2, 0, none⟩)), (50, .bool r3)] rfl ⟨by kernel_rfl, by kernel_rfl⟩ ?_
      refine TL.split 50 r3 (by kernel_rfl) (fun h4 => ?_) (fun h4 => ?_)
      · refine TL.run 20 [] [(3, .int .i64 seconds), (4, .int .i64 accel), (5, .int .i64 climb), (6, .func (.func 58) #[] #[.pointer (some a_c0)]), (7, .pointer (some ⟨b1, 0, none⟩)), (8, .pointer (some ⟨b2, 0, none⟩)), (61, .bool true)] rfl ⟨by kernel_rfl, by kernel_rfl⟩ ?_
        refine TL.next rfl ?_
        refine TC.condT rfl (by kernel_rfl) ?_
        refine TC.seq ?_
        refine TC.region ?_
        refine TL.run 2 [] [(14, .int .i64 0), (15, .int .i64 4)] rfl ⟨by kernel_rfl, by kernel_rfl⟩ ?_
        refine TL.next rfl ?_
        refine TC.ret ?_
        refine TE.ret_then ?_
        have e : search_first a b_ s seconds accel climb c0 = (0, 4) := by subst hr2 hr3; unfold search_first; exact elim_l (hR.symm.trans hJ) (cond_f h3 (cond_t h4 (rfl)))
        exact TE.ret [] (.tuple #[.int .i64 0, .int .i64 4]) ⟨by kernel_rfl, by kernel_rfl⟩ (by rw [e]; first | done | kernel_rfl)
      · refine TL.run 10 [] [(3, .int .i64 seconds), (4, .int .i64 accel), (5, .int .i64 climb), (6, .func (.func 58) #[] #[.pointer (some a_c0)]), (7, .pointer (some ⟨b1, 0, none⟩)), (8, .pointer (some ⟨b2, 0, none⟩)), (50, .bool false), (51, .int .i64 seconds)] rfl ⟨by kernel_rfl, by kernel_rfl⟩ ?_
        refine TL.call (some 52) [(3, .int .i64 seconds), (4, .int .i64 accel), (5, .int .i64 climb), (6, .func (.func 58) #[] #[.pointer (some a_c0)]), (7, .pointer (some ⟨b1, 0, none⟩)), (8, .pointer (some ⟨b2, 0, none⟩)), (50, .bool false), (52, .bool ((alert_out seconds 300)))] (fun w _ => alert_out_w seconds 300 w) (by kernel_rfl) (by kernel_rfl) ?_
        generalize hr4 : alert_out seconds 300 = r4
        refine TL.run 13 [] [(3, .int .i64 seconds), (4, .int .i64 accel), (5, .int .i64 climb), (6, .func (.func 58) #[] #[.pointer (some a_c0)]), (7, .pointer (some ⟨b1, 0, none⟩)), (8, .pointer (some ⟨b2, 0, none⟩)), (54, .bool r4)] rfl ⟨by kernel_rfl, by kernel_rfl⟩ ?_
        refine TL.split 54 r4 (by kernel_rfl) (fun h5 => ?_) (fun h5 => ?_)
        · refine TL.run 20 [] [(3, .int .i64 seconds), (4, .int .i64 accel), (5, .int .i64 climb), (6, .func (.func 58) #[] #[.pointer (some a_c0)]), (7, .pointer (some ⟨b1, 0, none⟩)), (8, .pointer (some ⟨b2, 0, none⟩)), (61, .bool true)] rfl ⟨by kernel_rfl, by kernel_rfl⟩ ?_
          refine TL.next rfl ?_
          refine TC.condT rfl (by kernel_rfl) ?_
          refine TC.seq ?_
          refine TC.region ?_
          refine TL.run 2 [] [(14, .int .i64 0), (15, .int .i64 4)] rfl ⟨by kernel_rfl, by kernel_rfl⟩ ?_
          refine TL.next rfl ?_
          refine TC.ret ?_
          refine TE.ret_then ?_
          have e : search_first a b_ s seconds accel climb c0 = (0, 4) := by subst hr2 hr3 hr4; unfold search_first; exact elim_l (hR.symm.trans hJ) (cond_f h3 (cond_f h4 (cond_t h5 (rfl))))
          exact TE.ret [] (.tuple #[.int .i64 0, .int .i64 4]) ⟨by kernel_rfl, by kernel_rfl⟩ (by rw [e]; first | done | kernel_rfl)
        · refine TL.run 14 [] [(3, .int .i64 seconds), (4, .int .i64 accel), (5, .int .i64 climb), (6, .func (.func 58) #[] #[.pointer (some a_c0)]), (7, .pointer (some ⟨b1, 0, none⟩)), (8, .pointer (some ⟨b2, 0, none⟩)), (54, .bool false), (55, .int .i64 accel)] rfl ⟨by kernel_rfl, by kernel_rfl⟩ ?_
          refine TL.call (some 56) [(3, .int .i64 seconds), (4, .int .i64 accel), (5, .int .i64 climb), (6, .func (.func 58) #[] #[.pointer (some a_c0)]), (7, .pointer (some ⟨b1, 0, none⟩)), (8, .pointer (some ⟨b2, 0, none⟩)), (54, .bool false), (56, .bool ((alert_out accel 20)))] (fun w _ => alert_out_w accel 20 w) (by kernel_rfl) (by kernel_rfl) ?_
          generalize hr5 : alert_out accel 20 = r5
          refine TL.run 17 [] [(3, .int .i64 seconds), (4, .int .i64 accel), (5, .int .i64 climb), (6, .func (.func 58) #[] #[.pointer (some a_c0)]), (7, .pointer (some ⟨b1, 0, none⟩)), (8, .pointer (some ⟨b2, 0, none⟩)), (58, .bool r5)] rfl ⟨by kernel_rfl, by kernel_rfl⟩ ?_
          refine TL.split 58 r5 (by kernel_rfl) (fun h6 => ?_) (fun h6 => ?_)
          · refine TL.run 20 [] [(3, .int .i64 seconds), (4, .int .i64 accel), (5, .int .i64 climb), (6, .func (.func 58) #[] #[.pointer (some a_c0)]), (7, .pointer (some ⟨b1, 0, none⟩)), (8, .pointer (some ⟨b2, 0, none⟩)), (61, .bool true)] rfl ⟨by kernel_rfl, by kernel_rfl⟩ ?_
            refine TL.next rfl ?_
            refine TC.condT rfl (by kernel_rfl) ?_
            refine TC.seq ?_
            refine TC.region ?_
            refine TL.run 2 [] [(14, .int .i64 0), (15, .int .i64 4)] rfl ⟨by kernel_rfl, by kernel_rfl⟩ ?_
            refine TL.next rfl ?_
            refine TC.ret ?_
            refine TE.ret_then ?_
            have e : search_first a b_ s seconds accel climb c0 = (0, 4) := by subst hr2 hr3 hr4 hr5; unfold search_first; exact elim_l (hR.symm.trans hJ) (cond_f h3 (cond_f h4 (cond_f h5 (cond_t h6 (rfl)))))
            exact TE.ret [] (.tuple #[.int .i64 0, .int .i64 4]) ⟨by kernel_rfl, by kernel_rfl⟩ (by rw [e]; first | done | kernel_rfl)
          · refine TL.run 18 [] [(3, .int .i64 seconds), (4, .int .i64 accel), (5, .int .i64 climb), (6, .func (.func 58) #[] #[.pointer (some a_c0)]), (7, .pointer (some ⟨b1, 0, none⟩)), (8, .pointer (some ⟨b2, 0, none⟩)), (58, .bool false), (59, .int .i64 climb)] rfl ⟨by kernel_rfl, by kernel_rfl⟩ ?_
            refine TL.call (some 60) [(3, .int .i64 seconds), (4, .int .i64 accel), (5, .int .i64 climb), (6, .func (.func 58) #[] #[.pointer (some a_c0)]), (7, .pointer (some ⟨b1, 0, none⟩)), (8, .pointer (some ⟨b2, 0, none⟩)), (58, .bool false), (60, .bool ((alert_out climb 200)))] (fun w _ => alert_out_w climb 200 w) (by kernel_rfl) (by kernel_rfl) ?_
            generalize hr6 : alert_out climb 200 = r6
            refine TL.run 20 [] [(3, .int .i64 seconds), (4, .int .i64 accel), (5, .int .i64 climb), (6, .func (.func 58) #[] #[.pointer (some a_c0)]), (7, .pointer (some ⟨b1, 0, none⟩)), (8, .pointer (some ⟨b2, 0, none⟩)), (61, .bool r6)] rfl ⟨by kernel_rfl, by kernel_rfl⟩ ?_
            refine TL.next rfl ?_
            refine TC.cond r6 rfl (by kernel_rfl) (fun h7 => ?_) (fun h7 => ?_)
            · refine TC.seq ?_
              refine TC.region ?_
              refine TL.run 2 [] [(14, .int .i64 0), (15, .int .i64 4)] rfl ⟨by kernel_rfl, by kernel_rfl⟩ ?_
              refine TL.next rfl ?_
              refine TC.ret ?_
              refine TE.ret_then ?_
              have e : search_first a b_ s seconds accel climb c0 = (0, 4) := by subst hr2 hr3 hr4 hr5 hr6; unfold search_first; exact elim_l (hR.symm.trans hJ) (cond_f h3 (cond_f h4 (cond_f h5 (cond_f h6 (cond_t h7 (rfl))))))
              exact TE.ret [] (.tuple #[.int .i64 0, .int .i64 4]) ⟨by kernel_rfl, by kernel_rfl⟩ (by rw [e]; first | done | kernel_rfl)
            · refine TC.skip ?_
              refine TE.next ?_
              refine TC.seq ?_
              refine TC.region ?_
              refine TL.run 8 [2, 1] [(3, .int .i64 seconds), (4, .int .i64 accel), (5, .int .i64 climb), (6, .func (.func 58) #[] #[.pointer (some a_c0)]), (7, .pointer (some ⟨b1, 0, none⟩)), (8, .pointer (some ⟨b2, 0, none⟩)), (19, .int .i64 (imax a.Track.Time b_.Track.Time))] rfl ⟨by kernel_rfl, by kernel_rfl⟩ ?_
              refine TL.next rfl ?_
              refine TC.seq ?_
              refine TC.seq ?_
              refine TC.region ?_
              refine TL.run 1 [] [(3, .int .i64 seconds), (4, .int .i64 accel), (5, .int .i64 climb), (6, .func (.func 58) #[] #[.pointer (some a_c0)]), (7, .pointer (some ⟨b1, 0, none⟩)), (8, .pointer (some ⟨b2, 0, none⟩)), (19, .int .i64 (imax a.Track.Time b_.Track.Time)), (20, .int .i64 0)] rfl ⟨by kernel_rfl, by kernel_rfl⟩ ?_
              refine TL.next rfl ?_
              refine TC.weak [(3, .int .i64 seconds), (4, .int .i64 accel), (5, .int .i64 climb), (6, .func (.func 58) #[] #[.pointer (some a_c0)]), (7, .pointer (some ⟨b1, 0, none⟩)), (8, .pointer (some ⟨b2, 0, none⟩)), (19, .int .i64 (imax a.Track.Time b_.Track.Time)), (20, .int .i64 0)] (by kernel_rfl) ?_
              refine TC.forget [.inl (b2, .cells (FilterTrack.c b_) 29 (0, 0)), .inl (b1, .cells (FilterTrack.c a) 29 (0, 0))] (.cons _ (.cons_cons _ (.cons_cons _ (.slnil)))) ?_
              obtain ⟨R3, hR_2⟩ : ∃ R, R = search_first_L2 a b_ accel climb c0 ((seconds + 1).toNat) 0 := ⟨_, rfl⟩
              refine TC.cut (S := Unit) (fun (_ : Unit) => []) (fun (_ : Unit) => []) (fun (_ : Unit) => R3 = .inl ()) ?_ ?_
              · refine TC.block ?_
                refine TC.loop (X := Nat) (fun k_2 => [(3, .int .i64 seconds), (4, .int .i64 accel), (5, .int .i64 climb), (6, .func (.func 58) #[] #[.pointer (some a_c0)]), (7, .pointer (some ⟨b1, 0, none⟩)), (8, .pointer (some ⟨b2, 0, none⟩)), (19, .int .i64 (imax a.Track.Time b_.Track.Time)), (20, .int .i64 (k_2 : Int))]) (fun k_2 => [.inl (b2, .cells (FilterTrack.c b_) 29 (0, 0)), .inl (b1, .cells (FilterTrack.c a) 29 (0, 0))]) (fun k_2 => ((seconds + 1).toNat) - k_2) (fun k_2 => k_2 ≤ ((seconds + 1).toNat) ∧ R3 = search_first_L2 a b_ accel climb c0 (((seconds + 1).toNat) - k_2) k_2) ?_ 0 ⟨Nat.zero_le _, hR_2⟩
                rintro k_2 ⟨hk_2, hI_2⟩
                refine TC.seq ?_
                refine TC.seq ?_
                refine TC.region ?_
                refine TL.run 3 [] [(3, .int .i64 seconds), (4, .int .i64 accel), (5, .int .i64 climb), (6, .func (.func 58) #[] #[.pointer (some a_c0)]), (7, .pointer (some ⟨b1, 0, none⟩)), (8, .pointer (some ⟨b2, 0, none⟩)), (19, .int .i64 (imax a.Track.Time b_.Track.Time)), (20, .int .i64 (k_2 : Int)), (71, .bool (decide ((k_2 : Int) ≤ seconds)))] rfl ⟨by kernel_rfl, by kernel_rfl⟩ ?_
                refine TL.next rfl ?_
                refine TC.cond (decide ((k_2 : Int) ≤ seconds)) rfl (by kernel_rfl) (fun h8 => ?_) (fun h8 => ?_)
                · have hlt_2 : k_2 < ((seconds + 1).toNat) := by have p0_ := (dec_t h8); have u1_ := alert_out_in hr4 h5; first | omega | (simp only [w64_eq] at *; omega)
                  have hd_2 : ((seconds + 1).toNat) - k_2 = (((seconds + 1).toNat) - (k_2 + 1)) + 1 := by omega
                  refine TC.skip ?_
                  refine TE.next ?_
                  refine TC.seq ?_
                  refine TC.block ?_
                  refine TC.seq ?_
                  refine TC.region ?_
                  refine TL.run 5 [1] [(3, .int .i64 seconds), (4, .int .i64 accel), (5, .int .i64 climb), (6, .func (.func 58) #[] #[.pointer (some a_c0)]), (7, .pointer (some ⟨b1, 0, none⟩)), (8, .pointer (some ⟨b2, 0, none⟩)), (19, .int .i64 (imax a.Track.Time b_.Track.Time)), (20, .int .i64 (k_2 : Int)), (75, FilterTrack.v a), (78, .int .i64 (w64 ((imax a.Track.Time b_.Track.Time) + (k_2 : Int)))), (79, .int .i64 accel)] rfl ⟨by kernel_rfl, by kernel_rfl⟩ ?_
                  refine TL.call (some 80) [(3, .int .i64 seconds), (4, .int .i64 accel), (5, .int .i64 climb), (6, .func (.func 58) #[] #[.pointer (some a_c0)]), (7, .pointer (some ⟨b1, 0, none⟩)), (8, .pointer (some ⟨b2, 0, none⟩)), (19, .int .i64 (imax a.Track.Time b_.Track.Time)), (20, .int .i64 (k_2 : Int)), (80, .tuple #[FilterTrack.v ((filter_Predict a (w64 ((imax a.Track.Time b_.Track.Time) + (k_2 : Int))) accel).1), .int .i64 ((filter_Predict a (w64 ((imax a.Track.Time b_.Track.Time) + (k_2 : Int))) accel).2)])] (fun w _ => filter_Predict_w a (w64 ((imax a.Track.Time b_.Track.Time) + (k_2 : Int))) accel w) (by kernel_rfl) (by kernel_rfl) ?_
                  generalize hr7 : filter_Predict a (w64 ((imax a.Track.Time b_.Track.Time) + (k_2 : Int))) accel = r7
                  refine TL.run 9 [] [(3, .int .i64 seconds), (4, .int .i64 accel), (5, .int .i64 climb), (6, .func (.func 58) #[] #[.pointer (some a_c0)]), (7, .pointer (some ⟨b1, 0, none⟩)), (8, .pointer (some ⟨b2, 0, none⟩)), (19, .int .i64 (imax a.Track.Time b_.Track.Time)), (20, .int .i64 (k_2 : Int)), (81, FilterTrack.v r7.1), (82, .int .i64 r7.2)] rfl ⟨by kernel_rfl, by kernel_rfl⟩ ?_
                  refine TL.write 0 (fun b6 => [(3, .int .i64 seconds), (4, .int .i64 accel), (5, .int .i64 climb), (6, .func (.func 58) #[] #[.pointer (some a_c0)]), (7, .pointer (some ⟨b1, 0, none⟩)), (8, .pointer (some ⟨b2, 0, none⟩)), (19, .int .i64 (imax a.Track.Time b_.Track.Time)), (20, .int .i64 (k_2 : Int)), (21, .pointer (some ⟨b6, 0, none⟩)), (81, FilterTrack.v r7.1), (82, .int .i64 r7.2)]) (fun b6 => [.inl (b6, .cells (FilterTrack.c FilterTrack.zero) 29 (0, 0)), .inl (b2, .cells (FilterTrack.c b_) 29 (0, 0)), .inl (b1, .cells (FilterTrack.c a) 29 (0, 0))]) (fun b6 => ⟨by kernel_rfl, by kernel_rfl⟩) (fun b6 => ?_)
                  refine TL.write 0 (fun _ => [(3, .int .i64 seconds), (4, .int .i64 accel), (5, .int .i64 climb), (6, .func (.func 58) #[] #[.pointer (some a_c0)]), (7, .pointer (some ⟨b1, 0, none⟩)), (8, .pointer (some ⟨b2, 0, none⟩)), (19, .int .i64 (imax a.Track.Time b_.Track.Time)), (20, .int .i64 (k_2 : Int)), (21, .pointer (some ⟨b6, 0, none⟩)), (82, .int .i64 r7.2)]) (fun _ => [.inl (b6, .cells (FilterTrack.c r7.1) 29 (0, 0)), .inl (b2, .cells (FilterTrack.c b_) 29 (0, 0)), .inl (b1, .cells (FilterTrack.c a) 29 (0, 0))]) (fun _ => ⟨by kernel_rfl, by kernel_rfl⟩) (fun _ => ?_)
                  refine TL.run 12 [] [(3, .int .i64 seconds), (4, .int .i64 accel), (5, .int .i64 climb), (6, .func (.func 58) #[] #[.pointer (some a_c0)]), (7, .pointer (some ⟨b1, 0, none⟩)), (8, .pointer (some ⟨b2, 0, none⟩)), (19, .int .i64 (imax a.Track.Time b_.Track.Time)), (20, .int .i64 (k_2 : Int)), (21, .pointer (some ⟨b6, 0, none⟩)), (22, .int .i64 r7.2)] rfl ⟨by kernel_rfl, by kernel_rfl⟩ ?_
                  refine TL.next rfl ?_
                  refine TC.seq ?_
                  refine TC.region ?_
                  refine TL.run 5 [1] [(3, .int .i64 seconds), (4, .int .i64 accel), (5, .int .i64 climb), (6, .func (.func 58) #[] #[.pointer (some a_c0)]), (7, .pointer (some ⟨b1, 0, none⟩)), (8, .pointer (some ⟨b2, 0, none⟩)), (19, .int .i64 (imax a.Track.Time b_.Track.Time)), (20, .int .i64 (k_2 : Int)), (21, .pointer (some ⟨b6, 0, none⟩)), (22, .int .i64 r7.2), (84, FilterTrack.v b_), (87, .int .i64 (w64 ((imax a.Track.Time b_.Track.Time) + (k_2 : Int)))), (88, .int .i64 accel)] rfl ⟨by kernel_rfl, by kernel_rfl⟩ ?_
                  refine TL.call (some 89) [(3, .int .i64 seconds), (4, .int .i64 accel), (5, .int .i64 climb), (6, .func (.func 58) #[] #[.pointer (some a_c0)]), (7, .pointer (some ⟨b1, 0, none⟩)), (8, .pointer (some ⟨b2, 0, none⟩)), (19, .int .i64 (imax a.Track.Time b_.Track.Time)), (20, .int .i64 (k_2 : Int)), (21, .pointer (some ⟨b6, 0, none⟩)), (22, .int .i64 r7.2), (89, .tuple #[FilterTrack.v ((filter_Predict b_ (w64 ((imax a.Track.Time b_.Track.Time) + (k_2 : Int))) accel).1), .int .i64 ((filter_Predict b_ (w64 ((imax a.Track.Time b_.Track.Time) + (k_2 : Int))) accel).2)])] (fun w _ => filter_Predict_w b_ (w64 ((imax a.Track.Time b_.Track.Time) + (k_2 : Int))) accel w) (by kernel_rfl) (by kernel_rfl) ?_
                  generalize hr8 : filter_Predict b_ (w64 ((imax a.Track.Time b_.Track.Time) + (k_2 : Int))) accel = r8
                  refine TL.run 9 [] [(3, .int .i64 seconds), (4, .int .i64 accel), (5, .int .i64 climb), (6, .func (.func 58) #[] #[.pointer (some a_c0)]), (7, .pointer (some ⟨b1, 0, none⟩)), (8, .pointer (some ⟨b2, 0, none⟩)), (19, .int .i64 (imax a.Track.Time b_.Track.Time)), (20, .int .i64 (k_2 : Int)), (21, .pointer (some ⟨b6, 0, none⟩)), (22, .int .i64 r7.2), (90, FilterTrack.v r8.1), (91, .int .i64 r8.2)] rfl ⟨by kernel_rfl, by kernel_rfl⟩ ?_
                  refine TL.write 0 (fun b7 => [(3, .int .i64 seconds), (4, .int .i64 accel), (5, .int .i64 climb), (6, .func (.func 58) #[] #[.pointer (some a_c0)]), (7, .pointer (some ⟨b1, 0, none⟩)), (8, .pointer (some ⟨b2, 0, none⟩)), (19, .int .i64 (imax a.Track.Time b_.Track.Time)), (20, .int .i64 (k_2 : Int)), (21, .pointer (some ⟨b6, 0, none⟩)), (22, .int .i64 r7.2), (23, .pointer (some ⟨b7, 0, none⟩)), (90, FilterTrack.v r8.1), (91, .int .i64 r8.2)]) (fun b7 => [.inl (b7, .cells (FilterTrack.c FilterTrack.zero) 29 (0, 0)), .inl (b6, .cells (FilterTrack.c r7.1) 29 (0, 0)), .inl (b2, .cells (FilterTrack.c b_) 29 (0, 0)), .inl (b1, .cells (FilterTrack.c a) 29 (0, 0))]) (fun b7 => ⟨by kernel_rfl, by kernel_rfl⟩) (fun b7 => ?_)
                  refine TL.write 0 (fun _ => [(3, .int .i64 seconds), (4, .int .i64 accel), (5, .int .i64 climb), (6, .func (.func 58) #[] #[.pointer (some a_c0)]), (7, .pointer (some ⟨b1, 0, none⟩)), (8, .pointer (some ⟨b2, 0, none⟩)), (19, .int .i64 (imax a.Track.Time b_.Track.Time)), (20, .int .i64 (k_2 : Int)), (21, .pointer (some ⟨b6, 0, none⟩)), (22, .int .i64 r7.2), (23, .pointer (some ⟨b7, 0, none⟩)), (91, .int .i64 r8.2)]) (fun _ => [.inl (b7, .cells (FilterTrack.c r8.1) 29 (0, 0)), .inl (b6, .cells (FilterTrack.c r7.1) 29 (0, 0)), .inl (b2, .cells (FilterTrack.c b_) 29 (0, 0)), .inl (b1, .cells (FilterTrack.c a) 29 (0, 0))]) (fun _ => ⟨by kernel_rfl, by kernel_rfl⟩) (fun _ => ?_)
                  refine TL.run 12 [] [(3, .int .i64 seconds), (4, .int .i64 accel), (5, .int .i64 climb), (6, .func (.func 58) #[] #[.pointer (some a_c0)]), (7, .pointer (some ⟨b1, 0, none⟩)), (8, .pointer (some ⟨b2, 0, none⟩)), (19, .int .i64 (imax a.Track.Time b_.Track.Time)), (20, .int .i64 (k_2 : Int)), (21, .pointer (some ⟨b6, 0, none⟩)), (22, .int .i64 r7.2), (23, .pointer (some ⟨b7, 0, none⟩)), (24, .int .i64 r8.2)] rfl ⟨by kernel_rfl, by kernel_rfl⟩ ?_
                  refine TL.next rfl ?_
                  refine TC.seq ?_
                  refine TC.seq ?_
                  refine TC.region ?_
                  refine TL.run 3 [] [(3, .int .i64 seconds), (4, .int .i64 accel), (5, .int .i64 climb), (6, .func (.func 58) #[] #[.pointer (some a_c0)]), (7, .pointer (some ⟨b1, 0, none⟩)), (8, .pointer (some ⟨b2, 0, none⟩)), (19, .int .i64 (imax a.Track.Time b_.Track.Time)), (20, .int .i64 (k_2 : Int)), (21, .pointer (some ⟨b6, 0, none⟩)), (23, .pointer (some ⟨b7, 0, none⟩)), (24, .int .i64 r8.2), (94, .bool (r7.2 != 0))] rfl ⟨by kernel_rfl, by kernel_rfl⟩ ?_
                  refine TL.join 94 (r7.2 != 0) 6 [] [] (fun β => [(3, .int .i64 seconds), (4, .int .i64 accel), (5, .int .i64 climb), (6, .func (.func 58) #[] #[.pointer (some a_c0)]), (7, .pointer (some ⟨b1, 0, none⟩)), (8, .pointer (some ⟨b2, 0, none⟩)), (19, .int .i64 (imax a.Track.Time b_.Track.Time)), (20, .int .i64 (k_2 : Int)), (21, .pointer (some ⟨b6, 0, none⟩)), (23, .pointer (some ⟨b7, 0, none⟩)), (97, .bool (β || (r8.2 != 0)))]) (by kernel_rfl) rfl ⟨by kernel_rfl, by kernel_rfl⟩ ⟨by kernel_rfl, by kernel_rfl⟩ ?_
                  refine TL.next rfl ?_
                  refine TC.cond ((r7.2 != 0) || (r8.2 != 0)) rfl (by kernel_rfl) (fun h9 => ?_) (fun h9 => ?_)
                  · refine TC.seq ?_
                    refine TC.region ?_
                    refine TL.run 2 [] [(14, .int .i64 0), (15, .int .i64 12)] rfl ⟨by kernel_rfl, by kernel_rfl⟩ ?_
                    refine TL.next rfl ?_
                    refine TC.ret ?_
                    refine TE.ret_then (TE.ret_block (TE.ret_then (TE.ret_then (TE.ret_block (TE.ret_then (TE.ret_then ?_))))))
                    have e : search_first a b_ s seconds accel climb c0 = (0, 12) := by subst hr2 hr3 hr4 hr5 hr6 hr7 hr8; unfold search_first; exact elim_l (hR.symm.trans hJ) (cond_f h3 (cond_f h4 (cond_f h5 (cond_f h6 (cond_f h7 (elim_r (hR_2.symm.trans (hI_2.trans (by rw [hd_2]; exact cond_t h9 (rfl)))) rfl))))))
                    exact TE.ret [] (.tuple #[.int .i64 0, .int .i64 12]) ⟨by kernel_rfl, by kernel_rfl⟩ (by rw [e]; first | done | kernel_rfl)
                  · refine TC.skip ?_
                    refine TE.next ?_
                    refine TC.seq ?_
                    refine TC.plan (G := Nat × Nat) (base := [(3, .int .i64 seconds), (4, .int .i64 accel), (5, .int .i64 climb), (6, .func (.func 58) #[] #[.pointer (some a_c0)]), (7, .pointer (some ⟨b1, 0, none⟩)), (8, .pointer (some ⟨b2, 0, none⟩)), (19, .int .i64 (imax a.Track.Time b_.Track.Time)), (20, .int .i64 (k_2 : Int)), (21, .pointer (some ⟨b6, 0, none⟩)), (23, .pointer (some ⟨b7, 0, none⟩))]) (vals := fun γ => [.pointer (some ⟨b6, 0, none⟩), Track.v r7.1.Track, .pointer (some ⟨b7, 0, none⟩), Track.v r8.1.Track, .pointer (some ⟨γ.1, 0, none⟩), .pointer (some ⟨γ.2, 0, none⟩), undef, undef]) (writes := [4, 5, 6, 7]) (mem := fun bs γ => match bs with | [x4_, x5_, x6_, x7_] => (bif x6_ then [.inl (γ.1, .cells (Track.c r7.1.Track) 25 (0, 0))] else bif x4_ then [.inl (γ.1, .cells (Track.c Track.zero) 25 (0, 0))] else []) ++ ((bif x7_ then [.inl (γ.2, .cells (Track.c r8.1.Track) 25 (0, 0))] else bif x5_ then [.inl (γ.2, .cells (Track.c Track.zero) 25 (0, 0))] else []) ++ ([.inl (b7, .cells (FilterTrack.c r8.1) 29 (0, 0)), .inl (b6, .cells (FilterTrack.c r7.1) 29 (0, 0)), .inl (b2, .cells (FilterTrack.c b_) 29 (0, 0)), .inl (b1, .cells (FilterTrack.c a) 29 (0, 0))])) | _ => []) (0, 0) (fun γ => [(3, .int .i64 seconds), (4, .int .i64 accel), (5, .int .i64 climb), (6, .func (.func 58) #[] #[.pointer (some a_c0)]), (7, .pointer (some ⟨b1, 0, none⟩)), (8, .pointer (some ⟨b2, 0, none⟩)), (19, .int .i64 (imax a.Track.Time b_.Track.Time)), (20, .int .i64 (k_2 : Int)), (25, .pointer (some ⟨γ.1, 0, none⟩)), (26, .pointer (some ⟨γ.2, 0, none⟩))]) (by kernel_rfl) (by kernel_rfl) (by kernel_rfl) (by kernel_rfl) (by kernel_rfl) (fun γ => by kernel_rfl) (fun _ hM => hM) (fun γ => by kernel_rfl) ?_ ?_
                    · skip
                      refine Steps.run (i := 0) 4 [0, 1, 0, 0] [.inl (b7, .cells (FilterTrack.c r8.1) 29 (0, 0)), .inl (b6, .cells (FilterTrack.c r7.1) 29 (0, 0)), .inl (b2, .cells (FilterTrack.c b_) 29 (0, 0)), .inl (b1, .cells (FilterTrack.c a) 29 (0, 0))] (by kernel_rfl) (by kernel_rfl) (fun S (γ : Nat × Nat) w hM => by change Sat _ ((bif S 6 then [.inl (γ.1, .cells (Track.c r7.1.Track) 25 (0, 0))] else bif S 4 then [.inl (γ.1, .cells (Track.c Track.zero) 25 (0, 0))] else []) ++ ((bif S 7 then [.inl (γ.2, .cells (Track.c r8.1.Track) 25 (0, 0))] else bif S 5 then [.inl (γ.2, .cells (Track.c Track.zero) 25 (0, 0))] else []) ++ ([.inl (b7, .cells (FilterTrack.c r8.1) 29 (0, 0)), .inl (b6, .cells (FilterTrack.c r7.1) 29 (0, 0)), .inl (b2, .cells (FilterTrack.c b_) 29 (0, 0)), .inl (b1, .cells (FilterTrack.c a) 29 (0, 0))]))) w at hM; exact hM.sub (sub_skip (sub_skip (List.Sublist.refl _)))) (by kernel_rfl) (fun (γ : Nat × Nat) => ⟨by kernel_rfl, by kernel_rfl⟩) ?_
                      refine Steps.op (i := 4) (Γ := Nat) (fun g (γ : Nat × Nat) => (g, γ.2)) (fun _ => []) (fun b (γ : Nat × Nat) => [.inl (b, .cells (Track.c Track.zero) 25 (0, 0))]) (fun S (γ : Nat × Nat) => (bif S 7 then [.inl (γ.2, .cells (Track.c r8.1.Track) 25 (0, 0))] else bif S 5 then [.inl (γ.2, .cells (Track.c Track.zero) 25 (0, 0))] else []) ++ ([.inl (b7, .cells (FilterTrack.c r8.1) 29 (0, 0)), .inl (b6, .cells (FilterTrack.c r7.1) 29 (0, 0)), .inl (b2, .cells (FilterTrack.c b_) 29 (0, 0)), .inl (b1, .cells (FilterTrack.c a) 29 (0, 0))])) [4, 6, 7] (fun (γ : Nat × Nat) => sV (Instr.alloc 25 true (.tuple #[]))) (some 25) (fun b (γ : Nat × Nat) => .pointer (some ⟨b, 0, none⟩)) (fun S (γ : Nat × Nat) hj hd hl => by change List.Perm (((bif S 6 then [.inl (γ.1, .cells (Track.c r7.1.Track) 25 (0, 0))] else bif S 4 then [.inl (γ.1, .cells (Track.c Track.zero) 25 (0, 0))] else []) ++ ((bif S 7 then [.inl (γ.2, .cells (Track.c r8.1.Track) 25 (0, 0))] else bif S 5 then [.inl (γ.2, .cells (Track.c Track.zero) 25 (0, 0))] else []) ++ ([.inl (b7, .cells (FilterTrack.c r8.1) 29 (0, 0)), .inl (b6, .cells (FilterTrack.c r7.1) 29 (0, 0)), .inl (b2, .cells (FilterTrack.c b_) 29 (0, 0)), .inl (b1, .cells (FilterTrack.c a) 29 (0, 0))]))) : Mem) _; rw [hj, hl 6 (by kernel_rfl)]; exact List.Perm.refl _) (fun S (γ : Nat × Nat) g hl => by change List.Perm _ (((bif S 6 then [.inl (g, .cells (Track.c r7.1.Track) 25 (0, 0))] else bif true then [.inl (g, .cells (Track.c Track.zero) 25 (0, 0))] else []) ++ ((bif S 7 then [.inl (γ.2, .cells (Track.c r8.1.Track) 25 (0, 0))] else bif S 5 then [.inl (γ.2, .cells (Track.c Track.zero) 25 (0, 0))] else []) ++ ([.inl (b7, .cells (FilterTrack.c r8.1) 29 (0, 0)), .inl (b6, .cells (FilterTrack.c r7.1) 29 (0, 0)), .inl (b2, .cells (FilterTrack.c b_) 29 (0, 0)), .inl (b1, .cells (FilterTrack.c a) 29 (0, 0))]))) : Mem); rw [hl 6 (by kernel_rfl)]; exact (List.Perm.refl _).symm) (fun (γ : Nat × Nat) M' w hM => run_new (v := fun b => .pointer (some ⟨b, 0, none⟩)) (fun b M => by kernel_rfl) M' w hM) (fun (γ : Nat × Nat) => by kernel_rfl) (fun (γ : Nat × Nat) g => by kernel_rfl) (by kernel_rfl) (fun (γ : Nat × Nat) g => by kernel_rfl) ?_
                      refine Steps.op (i := 5) (Γ := Nat) (fun g (γ : Nat × Nat) => (γ.1, g)) (fun _ => []) (fun b (γ : Nat × Nat) => [.inl (b, .cells (Track.c Track.zero) 25 (0, 0))]) (fun S (γ : Nat × Nat) => (bif S 6 then [.inl (γ.1, .cells (Track.c r7.1.Track) 25 (0, 0))] else bif S 4 then [.inl (γ.1, .cells (Track.c Track.zero) 25 (0, 0))] else []) ++ ([.inl (b7, .cells (FilterTrack.c r8.1) 29 (0, 0)), .inl (b6, .cells (FilterTrack.c r7.1) 29 (0, 0)), .inl (b2, .cells (FilterTrack.c b_) 29 (0, 0)), .inl (b1, .cells (FilterTrack.c a) 29 (0, 0))])) [5, 6, 7] (fun (γ : Nat × Nat) => sV (Instr.alloc 25 true (.tuple #[]))) (some 26) (fun b (γ : Nat × Nat) => .pointer (some ⟨b, 0, none⟩)) (fun S (γ : Nat × Nat) hj hd hl => by change List.Perm (((bif S 6 then [.inl (γ.1, .cells (Track.c r7.1.Track) 25 (0, 0))] else bif S 4 then [.inl (γ.1, .cells (Track.c Track.zero) 25 (0, 0))] else []) ++ ((bif S 7 then [.inl (γ.2, .cells (Track.c r8.1.Track) 25 (0, 0))] else bif S 5 then [.inl (γ.2, .cells (Track.c Track.zero) 25 (0, 0))] else []) ++ ([.inl (b7, .cells (FilterTrack.c r8.1) 29 (0, 0)), .inl (b6, .cells (FilterTrack.c r7.1) 29 (0, 0)), .inl (b2, .cells (FilterTrack.c b_) 29 (0, 0)), .inl (b1, .cells (FilterTrack.c a) 29 (0, 0))]))) : Mem) _; rw [hj, hl 7 (by kernel_rfl)]; exact (List.Perm.append_left _ (List.Perm.refl _)).trans (perm_mid _ _ _)) (fun S (γ : Nat × Nat) g hl => by change List.Perm _ (((bif S 6 then [.inl (γ.1, .cells (Track.c r7.1.Track) 25 (0, 0))] else bif S 4 then [.inl (γ.1, .cells (Track.c Track.zero) 25 (0, 0))] else []) ++ ((bif S 7 then [.inl (g, .cells (Track.c r8.1.Track) 25 (0, 0))] else bif true then [.inl (g, .cells (Track.c Track.zero) 25 (0, 0))] else []) ++ ([.inl (b7, .cells (FilterTrack.c r8.1) 29 (0, 0)), .inl (b6, .cells (FilterTrack.c r7.1) 29 (0, 0)), .inl (b2, .cells (FilterTrack.c b_) 29 (0, 0)), .inl (b1, .cells (FilterTrack.c a) 29 (0, 0))]))) : Mem); rw [hl 7 (by kernel_rfl)]; exact ((List.Perm.append_left _ (List.Perm.refl _)).trans (perm_mid _ _ _)).symm) (fun (γ : Nat × Nat) M' w hM => run_new (v := fun b => .pointer (some ⟨b, 0, none⟩)) (fun b M => by kernel_rfl) M' w hM) (fun (γ : Nat × Nat) => by kernel_rfl) (fun (γ : Nat × Nat) g => by kernel_rfl) (by kernel_rfl) (fun (γ : Nat × Nat) g => by kernel_rfl) ?_
                      refine Steps.put (i := 6) (fun (γ : Nat × Nat) => [.inl (γ.1, .cells (Track.c Track.zero) 25 (0, 0))]) (fun (γ : Nat × Nat) => [.inl (γ.1, .cells (Track.c r7.1.Track) 25 (0, 0))]) (fun S (γ : Nat × Nat) => (bif S 7 then [.inl (γ.2, .cells (Track.c r8.1.Track) 25 (0, 0))] else bif S 5 then [.inl (γ.2, .cells (Track.c Track.zero) 25 (0, 0))] else []) ++ ([.inl (b7, .cells (FilterTrack.c r8.1) 29 (0, 0)), .inl (b6, .cells (FilterTrack.c r7.1) 29 (0, 0)), .inl (b2, .cells (FilterTrack.c b_) 29 (0, 0)), .inl (b1, .cells (FilterTrack.c a) 29 (0, 0))])) (fun (γ : Nat × Nat) => sU (Instr.storeAt 25 (.pointer (some ⟨γ.1, 0, none⟩)) (Track.v r7.1.Track))) none (fun S (γ : Nat × Nat) hj hd hl => by change List.Perm (((bif S 6 then [.inl (γ.1, .cells (Track.c r7.1.Track) 25 (0, 0))] else bif S 4 then [.inl (γ.1, .cells (Track.c Track.zero) 25 (0, 0))] else []) ++ ((bif S 7 then [.inl (γ.2, .cells (Track.c r8.1.Track) 25 (0, 0))] else bif S 5 then [.inl (γ.2, .cells (Track.c Track.zero) 25 (0, 0))] else []) ++ ([.inl (b7, .cells (FilterTrack.c r8.1) 29 (0, 0)), .inl (b6, .cells (FilterTrack.c r7.1) 29 (0, 0)), .inl (b2, .cells (FilterTrack.c b_) 29 (0, 0)), .inl (b1, .cells (FilterTrack.c a) 29 (0, 0))]))) : Mem) _; rw [hj, hd 4 (by kernel_rfl)]; exact List.Perm.refl _) (fun S (γ : Nat × Nat) _ => (List.Perm.refl _).symm) (fun (γ : Nat × Nat) M' w hM => run_put (fun b M => by kernel_rfl) (fun b M => by kernel_rfl) M' w hM) (fun (γ : Nat × Nat) => by kernel_rfl) (fun (γ : Nat × Nat) => by kernel_rfl) ?_
                      refine Steps.put (i := 7) (fun (γ : Nat × Nat) => [.inl (γ.2, .cells (Track.c Track.zero) 25 (0, 0))]) (fun (γ : Nat × Nat) => [.inl (γ.2, .cells (Track.c r8.1.Track) 25 (0, 0))]) (fun S (γ : Nat × Nat) => (bif S 6 then [.inl (γ.1, .cells (Track.c r7.1.Track) 25 (0, 0))] else bif S 4 then [.inl (γ.1, .cells (Track.c Track.zero) 25 (0, 0))] else []) ++ ([.inl (b7, .cells (FilterTrack.c r8.1) 29 (0, 0)), .inl (b6, .cells (FilterTrack.c r7.1) 29 (0, 0)), .inl (b2, .cells (FilterTrack.c b_) 29 (0, 0)), .inl (b1, .cells (FilterTrack.c a) 29 (0, 0))])) (fun (γ : Nat × Nat) => sU (Instr.storeAt 25 (.pointer (some ⟨γ.2, 0, none⟩)) (Track.v r8.1.Track))) none (fun S (γ : Nat × Nat) hj hd hl => by change List.Perm (((bif S 6 then [.inl (γ.1, .cells (Track.c r7.1.Track) 25 (0, 0))] else bif S 4 then [.inl (γ.1, .cells (Track.c Track.zero) 25 (0, 0))] else []) ++ ((bif S 7 then [.inl (γ.2, .cells (Track.c r8.1.Track) 25 (0, 0))] else bif S 5 then [.inl (γ.2, .cells (Track.c Track.zero) 25 (0, 0))] else []) ++ ([.inl (b7, .cells (FilterTrack.c r8.1) 29 (0, 0)), .inl (b6, .cells (FilterTrack.c r7.1) 29 (0, 0)), .inl (b2, .cells (FilterTrack.c b_) 29 (0, 0)), .inl (b1, .cells (FilterTrack.c a) 29 (0, 0))]))) : Mem) _; rw [hj, hd 5 (by kernel_rfl)]; exact (List.Perm.append_left _ (List.Perm.refl _)).trans (perm_mid _ _ _)) (fun S (γ : Nat × Nat) _ => ((List.Perm.append_left _ (List.Perm.refl _)).trans (perm_mid _ _ _)).symm) (fun (γ : Nat × Nat) M' w hM => run_put (fun b M => by kernel_rfl) (fun b M => by kernel_rfl) M' w hM) (fun (γ : Nat × Nat) => by kernel_rfl) (fun (γ : Nat × Nat) => by kernel_rfl) ?_
                      exact Steps.done (by kernel_rfl)
                    · rintro ⟨b8, b9⟩
                      refine TE.conv [.inl (b8, .cells (Track.c r7.1.Track) 25 (0, 0)), .inl (b9, .cells (Track.c r8.1.Track) 25 (0, 0)), .inl (b7, .cells (FilterTrack.c r8.1) 29 (0, 0)), .inl (b6, .cells (FilterTrack.c r7.1) 29 (0, 0)), .inl (b2, .cells (FilterTrack.c b_) 29 (0, 0)), .inl (b1, .cells (FilterTrack.c a) 29 (0, 0))] (fun _ hM => hM) ?_
                      refine TE.next ?_
                      refine TC.seq ?_
                      refine TC.region ?_
                      refine TL.run 16 [5, 4] [(3, .int .i64 seconds), (4, .int .i64 accel), (5, .int .i64 climb), (6, .func (.func 58) #[] #[.pointer (some a_c0)]), (7, .pointer (some ⟨b1, 0, none⟩)), (8, .pointer (some ⟨b2, 0, none⟩)), (19, .int .i64 (imax a.Track.Time b_.Track.Time)), (20, .int .i64 (k_2 : Int)), (25, .pointer (some ⟨b8, 0, none⟩)), (26, .pointer (some ⟨b9, 0, none⟩)), (27, .int .i64 (w64 (200 + (w64 (climb * (w64 ((w64 ((w64 (2 * (w64 ((imax a.Track.Time b_.Track.Time) + (k_2 : Int))))) - a.Track.Time)) - b_.Track.Time)))))))] rfl ⟨by kernel_rfl, by kernel_rfl⟩ ?_
                      refine TL.next rfl ?_
                      refine TC.seq ?_
                      refine TC.draw 24 (by kernel_rfl) (by kernel_rfl) (by kernel_rfl) ?_
                      refine TQ.run 5 [0, 1] [(3, .int .i64 seconds), (4, .int .i64 accel), (5, .int .i64 climb), (6, .func (.func 58) #[] #[.pointer (some a_c0)]), (7, .pointer (some ⟨b1, 0, none⟩)), (8, .pointer (some ⟨b2, 0, none⟩)), (19, .int .i64 (imax a.Track.Time b_.Track.Time)), (20, .int .i64 (k_2 : Int)), (25, .pointer (some ⟨b8, 0, none⟩)), (26, .pointer (some ⟨b9, 0, none⟩)), (27, .int .i64 (w64 (200 + (w64 (climb * (w64 ((w64 ((w64 (2 * (w64 ((imax a.Track.Time b_.Track.Time) + (k_2 : Int))))) - a.Track.Time)) - b_.Track.Time))))))), (117, .func (.func 58) #[] #[.pointer (some a_c0)]), (119, P.v r7.1.Track.At), (121, P.v r8.1.Track.At)] rfl ⟨by kernel_rfl, by kernel_rfl⟩ ?_
                      refine TQ.call (some 122) [(3, .int .i64 seconds), (4, .int .i64 accel), (5, .int .i64 climb), (6, .func (.func 58) #[] #[.pointer (some a_c0)]), (7, .pointer (some ⟨b1, 0, none⟩)), (8, .pointer (some ⟨b2, 0, none⟩)), (19, .int .i64 (imax a.Track.Time b_.Track.Time)), (20, .int .i64 (k_2 : Int)), (25, .pointer (some ⟨b8, 0, none⟩)), (26, .pointer (some ⟨b9, 0, none⟩)), (27, .int .i64 (w64 (200 + (w64 (climb * (w64 ((w64 ((w64 (2 * (w64 ((imax a.Track.Time b_.Track.Time) + (k_2 : Int))))) - a.Track.Time)) - b_.Track.Time))))))), (117, .func (.func 58) #[] #[.pointer (some a_c0)]), (122, .int .i64 (plane_Square r7.1.Track.At r8.1.Track.At))] (fun w _ => plane_Square_w r7.1.Track.At r8.1.Track.At w) rfl (by kernel_rfl) (by kernel_rfl) ?_
                      generalize hr9 : plane_Square r7.1.Track.At r8.1.Track.At = r9
                      refine TQ.run 23 [0, 1, 0, 1, 1, 0] [(3, .int .i64 seconds), (4, .int .i64 accel), (5, .int .i64 climb), (6, .func (.func 58) #[] #[.pointer (some a_c0)]), (7, .pointer (some ⟨b1, 0, none⟩)), (8, .pointer (some ⟨b2, 0, none⟩)), (19, .int .i64 (imax a.Track.Time b_.Track.Time)), (20, .int .i64 (k_2 : Int)), (117, .func (.func 58) #[] #[.pointer (some a_c0)]), (122, .int .i64 r9), (127, .int .i64 (w64 (r7.1.Track.Radius + r8.1.Track.Radius))), (138, .int .i64 (imax (w64 (r7.1.Track.Height - r8.1.Track.Height)) (w64 (r8.1.Track.Height - r7.1.Track.Height)))), (139, .int .i64 (w64 (200 + (w64 (climb * (w64 ((w64 ((w64 (2 * (w64 ((imax a.Track.Time b_.Track.Time) + (k_2 : Int))))) - a.Track.Time)) - b_.Track.Time)))))))] rfl ⟨by kernel_rfl, by kernel_rfl⟩ ?_
                      refine TQ.call (some 140) [(3, .int .i64 seconds), (4, .int .i64 accel), (5, .int .i64 climb), (6, .func (.func 58) #[] #[.pointer (some a_c0)]), (7, .pointer (some ⟨b1, 0, none⟩)), (8, .pointer (some ⟨b2, 0, none⟩)), (19, .int .i64 (imax a.Track.Time b_.Track.Time)), (20, .int .i64 (k_2 : Int)), (140, .bool ((alert_First_1 r9 (w64 (r7.1.Track.Radius + r8.1.Track.Radius)) (imax (w64 (r7.1.Track.Height - r8.1.Track.Height)) (w64 (r8.1.Track.Height - r7.1.Track.Height))) (w64 (200 + (w64 (climb * (w64 ((w64 ((w64 (2 * (w64 ((imax a.Track.Time b_.Track.Time) + (k_2 : Int))))) - a.Track.Time)) - b_.Track.Time)))))) c0)))] (fun w hM => alert_First_1_w r9 (w64 (r7.1.Track.Radius + r8.1.Track.Radius)) (imax (w64 (r7.1.Track.Height - r8.1.Track.Height)) (w64 (r8.1.Track.Height - r7.1.Track.Height))) (w64 (200 + (w64 (climb * (w64 ((w64 ((w64 (2 * (w64 ((imax a.Track.Time b_.Track.Time) + (k_2 : Int))))) - a.Track.Time)) - b_.Track.Time)))))) a_c0 c0 w (h_c0.sat hM)) rfl (by kernel_rfl) (by kernel_rfl) ?_
                      generalize hr10 : alert_First_1 r9 (w64 (r7.1.Track.Radius + r8.1.Track.Radius)) (imax (w64 (r7.1.Track.Height - r8.1.Track.Height)) (w64 (r8.1.Track.Height - r7.1.Track.Height))) (w64 (200 + (w64 (climb * (w64 ((w64 ((w64 (2 * (w64 ((imax a.Track.Time b_.Track.Time) + (k_2 : Int))))) - a.Track.Time)) - b_.Track.Time)))))) c0 = r10
                      refine TQ.next rfl ?_
                      refine TC.cond r10 rfl (by kernel_rfl) (fun h10 => ?_) (fun h10 => ?_)
                      · refine TC.seq ?_
                        refine TC.region ?_
                        refine TL.run 3 [] [(14, .int .i64 (k_2 : Int)), (15, .int .i64 0)] rfl ⟨by kernel_rfl, by kernel_rfl⟩ ?_
                        refine TL.next rfl ?_
                        refine TC.ret ?_
                        refine TE.ret_block (TE.ret_then (TE.ret_then (TE.ret_block (TE.ret_then (TE.ret_then ?_)))))
                        have e : search_first a b_ s seconds accel climb c0 = ((k_2 : Int), 0) := by subst hr2 hr3 hr4 hr5 hr6 hr7 hr8 hr9 hr10; unfold search_first; exact elim_l (hR.symm.trans hJ) (cond_f h3 (cond_f h4 (cond_f h5 (cond_f h6 (cond_f h7 (elim_r (hR_2.symm.trans (hI_2.trans (by rw [hd_2]; exact cond_f h9 (cond_t h10 (rfl))))) rfl))))))
                        exact TE.ret [] (.tuple #[.int .i64 (k_2 : Int), .int .i64 0]) ⟨by kernel_rfl, by kernel_rfl⟩ (by rw [e]; first | done | kernel_rfl)
                      · refine TC.skip ?_
                        refine TE.normal_block ?_
                        refine TE.next ?_
                        refine TC.region ?_
                        refine TL.run 3 [] [(3, .int .i64 seconds), (4, .int .i64 accel), (5, .int .i64 climb), (6, .func (.func 58) #[] #[.pointer (some a_c0)]), (7, .pointer (some ⟨b1, 0, none⟩)), (8, .pointer (some ⟨b2, 0, none⟩)), (19, .int .i64 (imax a.Track.Time b_.Track.Time)), (20, .int .i64 (w64 ((k_2 : Int) + 1)))] rfl ⟨by kernel_rfl, by kernel_rfl⟩ ?_
                        refine TL.done rfl ?_
                        refine TE.rw 20 (.int .i64 (w64 ((k_2 : Int) + 1))) (.int .i64 ((k_2 + 1 : Nat) : Int)) (by kernel_rfl) (int_eq (by have q0_ := (dec_t h8); have q1_ := (bne_f (or_f1 h9)); have q2_ := (bne_f (or_f2 h9)); have u1_ := alert_out_in hr4 h5; first | omega | (rw [w64_id (by omega)]; omega) | (simp only [w64_eq] at *; omega))) ?_
                        exact TE.again (x := k_2) (k_2 + 1) ⟨by omega, hI_2.trans (by subst hr2 hr3 hr4 hr5 hr6 hr7 hr8 hr9 hr10; rw [hd_2]; exact cond_f h9 (cond_f h10 (rfl)))⟩ (by show ((seconds + 1).toNat) - (k_2 + 1) < ((seconds + 1).toNat) - k_2; omega) (by kernel_rfl) (.cons _ (.cons _ (.cons _ (.cons _ (.cons_cons _ (.cons_cons _ (.slnil)))))))
                · have hd_2 : ((seconds + 1).toNat) - k_2 = 0 := by have p0_ := (dec_f h8); have u1_ := alert_out_in hr4 h5; first | omega | (simp only [w64_eq] at *; omega)
                  refine TC.exit ?_
                  refine TE.exit_then (TE.exit_then (TE.exit_same ?_))
                  exact TE.cut () (hI_2.trans (by subst hr2 hr3 hr4 hr5 hr6; rw [hd_2]; exact rfl)) (by kernel_rfl) (.cons _ (.cons _ (.slnil)))
              · intro _ hJ_2
                refine TE.next ?_
                refine TC.seq ?_
                refine TC.region ?_
                refine TL.run 2 [] [(14, .int .i64 0), (15, .int .i64 8)] rfl ⟨by kernel_rfl, by kernel_rfl⟩ ?_
                refine TL.next rfl ?_
                refine TC.ret ?_
                have e : search_first a b_ s seconds accel climb c0 = (0, 8) := by subst hr2 hr3 hr4 hr5 hr6; unfold search_first; exact elim_l (hR.symm.trans hJ) (cond_f h3 (cond_f h4 (cond_f h5 (cond_f h6 (cond_f h7 (elim_l (hR_2.symm.trans hJ_2) (rfl)))))))
                exact TE.ret [] (.tuple #[.int .i64 0, .int .i64 8]) ⟨by kernel_rfl, by kernel_rfl⟩ (by rw [e]; first | done | kernel_rfl)

def search_certain_L1 (a : FilterTrack) (b_ : FilterTrack) : Nat → Nat → ((Unit) ⊕ (Int × Int))
  | 0, _ => .inl ()
  | m + 1, k => let r1 := filter_Check (([a, b_] : List FilterTrack)[k]?.getD FilterTrack.zero)
    cond (r1 != 0) (
      .inr (0, r1)) (
      search_certain_L1 a b_ m (k + 1))
def search_certain_L2 (a : FilterTrack) (b_ : FilterTrack) (accel : Int) (climb : Int) (c0 : Sep) : Nat → Nat → ((Unit) ⊕ (Int × Int))
  | 0, _ => .inl ()
  | m + 1, k_2 => let r7 := filter_Predict a (w64 ((imax a.Track.Time b_.Track.Time) + (k_2 : Int))) accel
    let r8 := filter_Predict b_ (w64 ((imax a.Track.Time b_.Track.Time) + (k_2 : Int))) accel
    cond ((r7.2 != 0) || (r8.2 != 0)) (
      .inr (0, 12)) (
      let r9 := plane_Square r7.1.Track.At r8.1.Track.At
      let r10 := alert_Certain_1 r9 (w64 (r7.1.Track.Radius + r8.1.Track.Radius)) (imax (w64 (r7.1.Track.Height - r8.1.Track.Height)) (w64 (r8.1.Track.Height - r7.1.Track.Height))) (w64 (200 + (w64 (climb * (w64 ((w64 ((w64 (2 * (w64 ((imax a.Track.Time b_.Track.Time) + (k_2 : Int))))) - a.Track.Time)) - b_.Track.Time)))))) c0
      cond r10 (
        .inr ((k_2 : Int), 0)) (
        search_certain_L2 a b_ accel climb c0 m (k_2 + 1)))
def search_certain (a : FilterTrack) (b_ : FilterTrack) (s : Sep) (seconds : Int) (accel : Int) (climb : Int) (c0 : Sep) : Int × Int :=
  Sum.elim (fun _ =>
    let r2 := alert_out s.Lateral 1000000
    cond r2 (
      (0, 4)) (
      let r3 := alert_out s.Vertical 60000
      cond r3 (
        (0, 4)) (
        let r4 := alert_out seconds 300
        cond r4 (
          (0, 4)) (
          let r5 := alert_out accel 20
          cond r5 (
            (0, 4)) (
            let r6 := alert_out climb 200
            cond r6 (
              (0, 4)) (
              Sum.elim (fun _ =>
                (0, 8)) (fun r => r) (search_certain_L2 a b_ accel climb c0 ((seconds + 1).toNat) 0))))))) (fun r => r) (search_certain_L1 a b_ ((2 : Int).toNat) 0)

set_option maxRecDepth 100000 in
theorem search_certain_w (a : FilterTrack) (b_ : FilterTrack) (s : Sep) (seconds : Int) (accel : Int) (climb : Int) (a_c0 : Addr) (c0 : Sep) (w : World) (h_c0 : Rd w 2 (some a_c0) [Sep.c c0]) : Calls Try.prog 56 #[FilterTrack.v a, FilterTrack.v b_, Sep.v s, .int .i64 seconds, .int .i64 accel, .int .i64 climb, .func (.func 57) #[] #[.pointer (some a_c0)]] w (Ret w (.tuple #[.int .i64 ((search_certain a b_ s seconds accel climb c0).1), .int .i64 ((search_certain a b_ s seconds accel climb c0).2)])) := by
  refine calls_intro (vs := [FilterTrack.v a, FilterTrack.v b_, Sep.v s, .int .i64 seconds, .int .i64 accel, .int .i64 climb, .func (.func 57) #[] #[.pointer (some a_c0)]]) (w := w) Try.func56 rfl Try.ntmps56 rfl ?_
  refine TC.weak [(0, FilterTrack.v a), (1, FilterTrack.v b_), (2, Sep.v s), (3, .int .i64 seconds), (4, .int .i64 accel), (5, .int .i64 climb), (6, .func (.func 57) #[] #[.pointer (some a_c0)])] (by kernel_rfl) ?_
  refine TC.seq ?_
  refine TC.region ?_
  refine TL.write 0 (fun b1 => [(1, FilterTrack.v b_), (2, Sep.v s), (3, .int .i64 seconds), (4, .int .i64 accel), (5, .int .i64 climb), (6, .func (.func 57) #[] #[.pointer (some a_c0)]), (7, .pointer (some ⟨b1, 0, none⟩))]) (fun b1 => [.inl (b1, .cells (FilterTrack.c a) 29 (0, 0))]) (fun b1 => ⟨by kernel_rfl, by kernel_rfl⟩) (fun b1 => ?_)
  refine TL.write 0 (fun b2 => [(2, Sep.v s), (3, .int .i64 seconds), (4, .int .i64 accel), (5, .int .i64 climb), (6, .func (.func 57) #[] #[.pointer (some a_c0)]), (7, .pointer (some ⟨b1, 0, none⟩)), (8, .pointer (some ⟨b2, 0, none⟩))]) (fun b2 => [.inl (b2, .cells (FilterTrack.c b_) 29 (0, 0)), .inl (b1, .cells (FilterTrack.c a) 29 (0, 0))]) (fun b2 => ⟨by kernel_rfl, by kernel_rfl⟩) (fun b2 => ?_)
  refine TL.write 0 (fun b3 => [(3, .int .i64 seconds), (4, .int .i64 accel), (5, .int .i64 climb), (6, .func (.func 57) #[] #[.pointer (some a_c0)]), (7, .pointer (some ⟨b1, 0, none⟩)), (8, .pointer (some ⟨b2, 0, none⟩)), (9, .pointer (some ⟨b3, 0, none⟩))]) (fun b3 => [.inl (b3, .cells (Sep.c s) 41 (0, 0)), .inl (b2, .cells (FilterTrack.c b_) 29 (0, 0)), .inl (b1, .cells (FilterTrack.c a) 29 (0, 0))]) (fun b3 => ⟨by kernel_rfl, by kernel_rfl⟩) (fun b3 => ?_)
  refine TL.run 5 [] [(3, .int .i64 seconds), (4, .int .i64 accel), (5, .int .i64 climb), (6, .func (.func 57) #[] #[.pointer (some a_c0)]), (7, .pointer (some ⟨b1, 0, none⟩)), (8, .pointer (some ⟨b2, 0, none⟩)), (9, .pointer (some ⟨b3, 0, none⟩))] rfl ⟨by kernel_rfl, by kernel_rfl⟩ ?_
  refine TL.next rfl ?_
  refine TC.seq ?_
  refine TC.seq ?_
  refine TC.region ?_
  refine TL.run 2 [2, 1] [(3, .int .i64 seconds), (4, .int .i64 accel), (5, .int .i64 climb), (6, .func (.func 57) #[] #[.pointer (some a_c0)]), (7, .pointer (some ⟨b1, 0, none⟩)), (8, .pointer (some ⟨b2, 0, none⟩)), (9, .pointer (some ⟨b3, 0, none⟩)), (28, FilterTrack.v a), (29, FilterTrack.v b_)] rfl ⟨by kernel_rfl, by kernel_rfl⟩ ?_
  refine TL.write 0 (fun b4 => [(3, .int .i64 seconds), (4, .int .i64 accel), (5, .int .i64 climb), (6, .func (.func 57) #[] #[.pointer (some a_c0)]), (7, .pointer (some ⟨b1, 0, none⟩)), (8, .pointer (some ⟨b2, 0, none⟩)), (9, .pointer (some ⟨b3, 0, none⟩)), (30, .slice (some ⟨b4, 0, none⟩) 2 2)]) (fun b4 => [.inl (b4, .cells #[.int .i64 a.Track.ID, .int .i64 a.Track.State, .int .i64 a.Track.Time, .int .i64 a.Track.At.X, .int .i64 a.Track.At.Y, .int .i64 a.Track.Speed.X, .int .i64 a.Track.Speed.Y, .int .i64 a.Track.Height, .int .i64 a.Track.Rate, .int .i64 a.Track.Radius, .int .i64 a.Track.Code, .int .i64 a.Track.Hits, .int .i64 a.Track.Misses, .int .i64 a.Slack, .int .i64 a.Last.Time, .int .i64 a.Last.At.X, .int .i64 a.Last.At.Y, .int .i64 a.Last.Height, .int .i64 a.Last.Code, .int .i64 a.Last.Error, .int .i64 b_.Track.ID, .int .i64 b_.Track.State, .int .i64 b_.Track.Time, .int .i64 b_.Track.At.X, .int .i64 b_.Track.At.Y, .int .i64 b_.Track.Speed.X, .int .i64 b_.Track.Speed.Y, .int .i64 b_.Track.Height, .int .i64 b_.Track.Rate, .int .i64 b_.Track.Radius, .int .i64 b_.Track.Code, .int .i64 b_.Track.Hits, .int .i64 b_.Track.Misses, .int .i64 b_.Slack, .int .i64 b_.Last.Time, .int .i64 b_.Last.At.X, .int .i64 b_.Last.At.Y, .int .i64 b_.Last.Height, .int .i64 b_.Last.Code, .int .i64 b_.Last.Error] 29 (0, 0)), .inl (b3, .cells (Sep.c s) 41 (0, 0)), .inl (b2, .cells (FilterTrack.c b_) 29 (0, 0)), .inl (b1, .cells (FilterTrack.c a) 29 (0, 0))]) (fun b4 => ⟨by kernel_rfl, by kernel_rfl⟩) (fun b4 => ?_)
  refine TL.run 5 [] [(3, .int .i64 seconds), (4, .int .i64 accel), (5, .int .i64 climb), (6, .func (.func 57) #[] #[.pointer (some a_c0)]), (7, .pointer (some ⟨b1, 0, none⟩)), (8, .pointer (some ⟨b2, 0, none⟩)), (9, .pointer (some ⟨b3, 0, none⟩)), (30, .slice (some ⟨b4, 0, none⟩) 2 2), (31, .int .i64 2), (32, .int .i64 0)] rfl ⟨by kernel_rfl, by kernel_rfl⟩ ?_
  refine TL.next rfl ?_
  refine TC.conv [.inr (Own (some ⟨b4, 0, none⟩) 2 29 20 (([a, b_] : List FilterTrack).map FilterTrack.c)), .inl (b3, .cells (Sep.c s) 41 (0, 0)), .inl (b2, .cells (FilterTrack.c b_) 29 (0, 0)), .inl (b1, .cells (FilterTrack.c a) 29 (0, 0))] (fun _ hM => by exact hM.litrow 0 (([a, b_] : List FilterTrack).map FilterTrack.c) rfl (by kernel_rfl) (by kernel_rfl) (by kernel_rfl) (by kernel_rfl)) ?_
  refine TC.weak [(3, .int .i64 seconds), (4, .int .i64 accel), (5, .int .i64 climb), (6, .func (.func 57) #[] #[.pointer (some a_c0)]), (7, .pointer (some ⟨b1, 0, none⟩)), (8, .pointer (some ⟨b2, 0, none⟩)), (9, .pointer (some ⟨b3, 0, none⟩)), (30, .slice (some ⟨b4, 0, none⟩) (([a, b_] : List FilterTrack).length) 2), (31, .int .i64 2), (32, .int .i64 0)] (by kernel_rfl) ?_
  obtain ⟨R2, hR⟩ : ∃ R, R = search_certain_L1 a b_ ((2 : Int).toNat) 0 := ⟨_, rfl⟩
  refine TC.cut (S := Unit) (fun (_ : Unit) => [(3, .int .i64 seconds), (4, .int .i64 accel), (5, .int .i64 climb), (6, .func (.func 57) #[] #[.pointer (some a_c0)]), (7, .pointer (some ⟨b1, 0, none⟩)), (8, .pointer (some ⟨b2, 0, none⟩)), (9, .pointer (some ⟨b3, 0, none⟩))]) (fun (_ : Unit) => [.inl (b3, .cells (Sep.c s) 41 (0, 0)), .inl (b2, .cells (FilterTrack.c b_) 29 (0, 0)), .inl (b1, .cells (FilterTrack.c a) 29 (0, 0))]) (fun (_ : Unit) => R2 = .inl ()) ?_ ?_
  · refine TC.block ?_
    refine TC.loop (X := Nat) (fun k => [(3, .int .i64 seconds), (4, .int .i64 accel), (5, .int .i64 climb), (6, .func (.func 57) #[] #[.pointer (some a_c0)]), (7, .pointer (some ⟨b1, 0, none⟩)), (8, .pointer (some ⟨b2, 0, none⟩)), (9, .pointer (some ⟨b3, 0, none⟩)), (30, .slice (some ⟨b4, 0, none⟩) (([a, b_] : List FilterTrack).length) 2), (31, .int .i64 2), (32, .int .i64 (k : Int))]) (fun k => [.inr (Own (some ⟨b4, 0, none⟩) 2 29 20 (([a, b_] : List FilterTrack).map FilterTrack.c)), .inl (b3, .cells (Sep.c s) 41 (0, 0)), .inl (b2, .cells (FilterTrack.c b_) 29 (0, 0)), .inl (b1, .cells (FilterTrack.c a) 29 (0, 0))]) (fun k => (2 : Int).toNat - k) (fun k => k ≤ (2 : Int).toNat ∧ R2 = search_certain_L1 a b_ ((2 : Int).toNat - k) k) ?_ 0 ⟨Nat.zero_le _, hR⟩
    rintro k ⟨hk, hI⟩
    refine TC.seq ?_
    refine TC.region ?_
    refine TL.run 1 [] [(3, .int .i64 seconds), (4, .int .i64 accel), (5, .int .i64 climb), (6, .func (.func 57) #[] #[.pointer (some a_c0)]), (7, .pointer (some ⟨b1, 0, none⟩)), (8, .pointer (some ⟨b2, 0, none⟩)), (9, .pointer (some ⟨b3, 0, none⟩)), (30, .slice (some ⟨b4, 0, none⟩) (([a, b_] : List FilterTrack).length) 2), (31, .int .i64 2), (32, .int .i64 (k : Int)), (33, .bool (decide ((k : Int) < 2)))] rfl ⟨by kernel_rfl, by kernel_rfl⟩ ?_
    refine TL.next rfl ?_
    refine TC.seq ?_
    refine TC.cond (decide ((k : Int) < 2)) rfl (by kernel_rfl) (fun h1 => ?_) (fun h1 => ?_)
    · have hlt : k < (2 : Int).toNat := by have := of_decide_eq_true h1; first | omega | (simp at this; omega)
      have hd : (2 : Int).toNat - k = ((2 : Int).toNat - (k + 1)) + 1 := by omega
      refine TC.skip ?_
      refine TE.next ?_
      refine TC.seq ?_
      refine TC.block ?_
      refine TC.seq ?_
      refine TC.region ?_
      refine TL.val (sV (Instr.indexAt 30 (.slice (some ⟨b4, 0, none⟩) (([a, b_] : List FilterTrack).length) 2) (.int .i64 (k : Int)))) (some 34) (.pointer (some (((some ⟨b4, 0, none⟩).getD noAddr).add (k * 20)))) [(3, .int .i64 seconds), (4, .int .i64 accel), (5, .int .i64 climb), (6, .func (.func 57) #[] #[.pointer (some a_c0)]), (7, .pointer (some ⟨b1, 0, none⟩)), (8, .pointer (some ⟨b2, 0, none⟩)), (9, .pointer (some ⟨b3, 0, none⟩)), (30, .slice (some ⟨b4, 0, none⟩) (([a, b_] : List FilterTrack).length) 2), (31, .int .i64 2), (32, .int .i64 (k : Int)), (34, .pointer (some (((some ⟨b4, 0, none⟩).getD noAddr).add (k * 20))))] (fun w hM => run_index (hM.rd_at 0 rfl) (by simp) (by kernel_rfl) (by first | omega | (simp only [List.length_drop]; omega) | (simp only [w64_eq]; omega) | exact (tm_in (by (first | (rw [w64_id (by omega)]; omega) | (simp only [w64_eq]; omega))) (by omega)).1 | exact (tm_in (by (first | (rw [w64_id (by omega)]; omega) | (simp only [w64_eq]; omega))) (by omega)).2.1 | exact (tm_in (by (first | (rw [w64_id (by omega)]; omega) | (simp only [w64_eq]; omega))) (by omega)).2.2 | (simp <;> omega)) (by first | omega | (simp only [List.length_drop]; omega) | (simp only [w64_eq]; omega) | exact (tm_in (by (first | (rw [w64_id (by omega)]; omega) | (simp only [w64_eq]; omega))) (by omega)).1 | exact (tm_in (by (first | (rw [w64_id (by omega)]; omega) | (simp only [w64_eq]; omega))) (by omega)).2.1 | exact (tm_in (by (first | (rw [w64_id (by omega)]; omega) | (simp only [w64_eq]; omega))) (by omega)).2.2 | (simp <;> omega))) (by kernel_rfl) (by kernel_rfl) ?_
      refine TL.val (sV (Instr.loadAt 29 (.pointer (some (((some ⟨b4, 0, none⟩).getD noAddr).add (k * 20)))))) (some 35) (FilterTrack.v (([a, b_] : List FilterTrack)[k]?.getD FilterTrack.zero)) [(3, .int .i64 seconds), (4, .int .i64 accel), (5, .int .i64 climb), (6, .func (.func 57) #[] #[.pointer (some a_c0)]), (7, .pointer (some ⟨b1, 0, none⟩)), (8, .pointer (some ⟨b2, 0, none⟩)), (9, .pointer (some ⟨b3, 0, none⟩)), (30, .slice (some ⟨b4, 0, none⟩) (([a, b_] : List FilterTrack).length) 2), (31, .int .i64 2), (32, .int .i64 (k : Int)), (35, FilterTrack.v (([a, b_] : List FilterTrack)[k]?.getD FilterTrack.zero))] (fun w hM => run_load_agg (n := 20) (off := 0) (i := k) (FilterTrack.v (([a, b_] : List FilterTrack)[k]?.getD FilterTrack.zero)) (hM.rd_at 0 rfl) (map_at (getD_at _ _ FilterTrack.zero (by first | omega | (simp only [List.length_drop]; omega) | (simp only [w64_eq]; omega) | exact (tm_in (by (first | (rw [w64_id (by omega)]; omega) | (simp only [w64_eq]; omega))) (by omega)).1 | exact (tm_in (by (first | (rw [w64_id (by omega)]; omega) | (simp only [w64_eq]; omega))) (by omega)).2.1 | exact (tm_in (by (first | (rw [w64_id (by omega)]; omega) | (simp only [w64_eq]; omega))) (by omega)).2.2 | (simp <;> omega)))) (by kernel_rfl) (by kernel_rfl) (by kernel_rfl)) (by kernel_rfl) (by kernel_rfl) ?_
      refine TL.write 0 (fun b5 => [(3, .int .i64 seconds), (4, .int .i64 accel), (5, .int .i64 climb), (6, .func (.func 57) #[] #[.pointer (some a_c0)]), (7, .pointer (some ⟨b1, 0, none⟩)), (8, .pointer (some ⟨b2, 0, none⟩)), (9, .pointer (some ⟨b3, 0, none⟩)), (17, .pointer (some ⟨b5, 0, none⟩)), (30, .slice (some ⟨b4, 0, none⟩) (([a, b_] : List FilterTrack).length) 2), (31, .int .i64 2), (32, .int .i64 (k : Int)), (35, FilterTrack.v (([a, b_] : List FilterTrack)[k]?.getD FilterTrack.zero))]) (fun b5 => [.inl (b5, .cells (FilterTrack.c FilterTrack.zero) 29 (0, 0)), .inr (Own (some ⟨b4, 0, none⟩) 2 29 20 (([a, b_] : List FilterTrack).map FilterTrack.c)), .inl (b3, .cells (Sep.c s) 41 (0, 0)), .inl (b2, .cells (FilterTrack.c b_) 29 (0, 0)), .inl (b1, .cells (FilterTrack.c a) 29 (0, 0))]) (fun b5 => ⟨by kernel_rfl, by kernel_rfl⟩) (fun b5 => ?_)
      refine TL.write 0 (fun _ => [(3, .int .i64 seconds), (4, .int .i64 accel), (5, .int .i64 climb), (6, .func (.func 57) #[] #[.pointer (some a_c0)]), (7, .pointer (some ⟨b1, 0, none⟩)), (8, .pointer (some ⟨b2, 0, none⟩)), (9, .pointer (some ⟨b3, 0, none⟩)), (17, .pointer (some ⟨b5, 0, none⟩)), (30, .slice (some ⟨b4, 0, none⟩) (([a, b_] : List FilterTrack).length) 2), (31, .int .i64 2), (32, .int .i64 (k : Int))]) (fun _ => [.inl (b5, .cells (FilterTrack.c (([a, b_] : List FilterTrack)[k]?.getD FilterTrack.zero)) 29 (0, 0)), .inr (Own (some ⟨b4, 0, none⟩) 2 29 20 (([a, b_] : List FilterTrack).map FilterTrack.c)), .inl (b3, .cells (Sep.c s) 41 (0, 0)), .inl (b2, .cells (FilterTrack.c b_) 29 (0, 0)), .inl (b1, .cells (FilterTrack.c a) 29 (0, 0))]) (fun _ => ⟨by kernel_rfl, by kernel_rfl⟩) (fun _ => ?_)
      refine TL.next rfl ?_
      refine TC.seq ?_
      refine TC.region ?_
      refine TL.run 1 [0] [(3, .int .i64 seconds), (4, .int .i64 accel), (5, .int .i64 climb), (6, .func (.func 57) #[] #[.pointer (some a_c0)]), (7, .pointer (some ⟨b1, 0, none⟩)), (8, .pointer (some ⟨b2, 0, none⟩)), (9, .pointer (some ⟨b3, 0, none⟩)), (30, .slice (some ⟨b4, 0, none⟩) (([a, b_] : List FilterTrack).length) 2), (31, .int .i64 2), (32, .int .i64 (k : Int)), (36, FilterTrack.v (([a, b_] : List FilterTrack)[k]?.getD FilterTrack.zero))] rfl ⟨by kernel_rfl, by kernel_rfl⟩ ?_
      refine TL.call (some 37) [(3, .int .i64 seconds), (4, .int .i64 accel), (5, .int .i64 climb), (6, .func (.func 57) #[] #[.pointer (some a_c0)]), (7, .pointer (some ⟨b1, 0, none⟩)), (8, .pointer (some ⟨b2, 0, none⟩)), (9, .pointer (some ⟨b3, 0, none⟩)), (30, .slice (some ⟨b4, 0, none⟩) (([a, b_] : List FilterTrack).length) 2), (31, .int .i64 2), (32, .int .i64 (k : Int)), (37, .int .i64 (filter_Check (([a, b_] : List FilterTrack)[k]?.getD FilterTrack.zero)))] (fun w _ => filter_Check_w (([a, b_] : List FilterTrack)[k]?.getD FilterTrack.zero) w) (by kernel_rfl) (by kernel_rfl) ?_
      generalize hr1 : filter_Check (([a, b_] : List FilterTrack)[k]?.getD FilterTrack.zero) = r1
      refine TL.run 3 [] [(3, .int .i64 seconds), (4, .int .i64 accel), (5, .int .i64 climb), (6, .func (.func 57) #[] #[.pointer (some a_c0)]), (7, .pointer (some ⟨b1, 0, none⟩)), (8, .pointer (some ⟨b2, 0, none⟩)), (9, .pointer (some ⟨b3, 0, none⟩)), (18, .int .i64 r1), (30, .slice (some ⟨b4, 0, none⟩) (([a, b_] : List FilterTrack).length) 2), (31, .int .i64 2), (32, .int .i64 (k : Int))] rfl ⟨by kernel_rfl, by kernel_rfl⟩ ?_
      refine TL.next rfl ?_
      refine TC.seq ?_
      refine TC.region ?_
      refine TL.run 2 [] [(3, .int .i64 seconds), (4, .int .i64 accel), (5, .int .i64 climb), (6, .func (.func 57) #[] #[.pointer (some a_c0)]), (7, .pointer (some ⟨b1, 0, none⟩)), (8, .pointer (some ⟨b2, 0, none⟩)), (9, .pointer (some ⟨b3, 0, none⟩)), (18, .int .i64 r1), (30, .slice (some ⟨b4, 0, none⟩) (([a, b_] : List FilterTrack).length) 2), (31, .int .i64 2), (32, .int .i64 (k : Int)), (39, .bool (r1 != 0))] rfl ⟨by kernel_rfl, by kernel_rfl⟩ ?_
      refine TL.next rfl ?_
      refine TC.cond (r1 != 0) rfl (by kernel_rfl) (fun h2 => ?_) (fun h2 => ?_)
      · refine TC.seq ?_
        refine TC.region ?_
        refine TL.run 3 [] [(14, .int .i64 0), (15, .int .i64 r1)] rfl ⟨by kernel_rfl, by kernel_rfl⟩ ?_
        refine TL.next rfl ?_
        refine TC.ret ?_
        refine TE.ret_block (TE.ret_then (TE.ret_then (TE.ret_block (TE.ret_then (TE.ret_then ?_)))))
        have e : search_certain a b_ s seconds accel climb c0 = (0, r1) := by subst hr1; unfold search_certain; exact elim_r (hR.symm.trans (hI.trans (by rw [hd]; exact cond_t h2 (rfl)))) rfl
        exact TE.ret [] (.tuple #[.int .i64 0, .int .i64 r1]) ⟨by kernel_rfl, by kernel_rfl⟩ (by rw [e]; first | done | kernel_rfl)
      · refine TC.skip ?_
        refine TE.normal_block ?_
        refine TE.next ?_
        refine TC.region ?_
        refine TL.run 2 [] [(3, .int .i64 seconds), (4, .int .i64 accel), (5, .int .i64 climb), (6, .func (.func 57) #[] #[.pointer (some a_c0)]), (7, .pointer (some ⟨b1, 0, none⟩)), (8, .pointer (some ⟨b2, 0, none⟩)), (9, .pointer (some ⟨b3, 0, none⟩)), (30, .slice (some ⟨b4, 0, none⟩) (([a, b_] : List FilterTrack).length) 2), (31, .int .i64 2), (32, .int .i64 (w64 ((k : Int) + 1)))] rfl ⟨by kernel_rfl, by kernel_rfl⟩ ?_
        refine TL.done rfl ?_
        refine TE.rw 32 (.int .i64 (w64 ((k : Int) + 1))) (.int .i64 ((k + 1 : Nat) : Int)) (by kernel_rfl) (w64_cast k (by omega)) ?_
        exact TE.again (x := k) (k + 1) ⟨by omega, hI.trans (by subst hr1; rw [hd]; exact cond_f h2 (rfl))⟩ (by show (2 : Int).toNat - (k + 1) < (2 : Int).toNat - k; omega) (by kernel_rfl) (.cons _ (.cons_cons _ (.cons_cons _ (.cons_cons _ (.cons_cons _ (.slnil))))))
    · have hd : (2 : Int).toNat - k = 0 := by have := of_decide_eq_false h1; first | omega | (simp at this; omega)
      refine TC.exit ?_
      refine TE.exit_then (TE.exit_then (TE.exit_same ?_))
      exact TE.cut () (hI.trans (by rw [hd]; exact rfl)) (by kernel_rfl) (.cons _ (.cons_cons _ (.cons_cons _ (.cons_cons _ (.slnil)))))
  · intro _ hJ
    refine TE.next ?_
    refine TC.seq ?_
    refine TC.seq ?_
    refine TC.region ?_
    refine TL.run 2 [0] [(3, .int .i64 seconds), (4, .int .i64 accel), (5, .int .i64 climb), (6, .func (.func 57) #[] #[.pointer (some a_c0)]), (7, .pointer (some ⟨b1, 0, none⟩)), (8, .pointer (some ⟨b2, 0, none⟩)), (9, .pointer (some ⟨b3, 0, none⟩)), (43, .int .i64 s.Lateral)] rfl ⟨by kernel_rfl, by kernel_rfl⟩ ?_
    refine TL.call (some 44) [(3, .int .i64 seconds), (4, .int .i64 accel), (5, .int .i64 climb), (6, .func (.func 57) #[] #[.pointer (some a_c0)]), (7, .pointer (some ⟨b1, 0, none⟩)), (8, .pointer (some ⟨b2, 0, none⟩)), (9, .pointer (some ⟨b3, 0, none⟩)), (44, .bool ((alert_out s.Lateral 1000000)))] (fun w _ => alert_out_w s.Lateral 1000000 w) (by kernel_rfl) (by kernel_rfl) ?_
    generalize hr2 : alert_out s.Lateral 1000000 = r2
    refine TL.run 4 [] [(3, .int .i64 seconds), (4, .int .i64 accel), (5, .int .i64 climb), (6, .func (.func 57) #[] #[.pointer (some a_c0)]), (7, .pointer (some ⟨b1, 0, none⟩)), (8, .pointer (some ⟨b2, 0, none⟩)), (9, .pointer (some ⟨b3, 0, none⟩)), (45, .bool r2)] rfl ⟨by kernel_rfl, by kernel_rfl⟩ ?_
    refine TL.split 45 r2 (by kernel_rfl) (fun h3 => ?_) (fun h3 => ?_)
    · refine TL.run 20 [] [(3, .int .i64 seconds), (4, .int .i64 accel), (5, .int .i64 climb), (6, .func (.func 57) #[] #[.pointer (some a_c0)]), (7, .pointer (some ⟨b1, 0, none⟩)), (8, .pointer (some ⟨b2, 0, none⟩)), (61, .bool true)] rfl ⟨by kernel_rfl, by kernel_rfl⟩ ?_
      refine TL.next rfl ?_
      refine TC.condT rfl (by kernel_rfl) ?_
      refine TC.seq ?_
      refine TC.region ?_
      refine TL.run 2 [] [(14, .int .i64 0), (15, .int .i64 4)] rfl ⟨by kernel_rfl, by kernel_rfl⟩ ?_
      refine TL.next rfl ?_
      refine TC.ret ?_
      refine TE.ret_then ?_
      have e : search_certain a b_ s seconds accel climb c0 = (0, 4) := by subst hr2; unfold search_certain; exact elim_l (hR.symm.trans hJ) (cond_t h3 (rfl))
      exact TE.ret [] (.tuple #[.int .i64 0, .int .i64 4]) ⟨by kernel_rfl, by kernel_rfl⟩ (by rw [e]; first | done | kernel_rfl)
    · refine TL.run 6 [0] [(3, .int .i64 seconds), (4, .int .i64 accel), (5, .int .i64 climb), (6, .func (.func 57) #[] #[.pointer (some a_c0)]), (7, .pointer (some ⟨b1, 0, none⟩)), (8, .pointer (some ⟨b2, 0, none⟩)), (45, .bool false), (47, .int .i64 s.Vertical)] rfl ⟨by kernel_rfl, by kernel_rfl⟩ ?_
      refine TL.call (some 48) [(3, .int .i64 seconds), (4, .int .i64 accel), (5, .int .i64 climb), (6, .func (.func 57) #[] #[.pointer (some a_c0)]), (7, .pointer (some ⟨b1, 0, none⟩)), (8, .pointer (some ⟨b2, 0, none⟩)), (45, .bool false), (48, .bool ((alert_out s.Vertical 60000)))] (fun w _ => alert_out_w s.Vertical 60000 w) (by kernel_rfl) (by kernel_rfl) ?_
      generalize hr3 : alert_out s.Vertical 60000 = r3
      refine TL.run 9 [] [(3, .int .i64 seconds), (4, .int .i64 accel), (5, .int .i64 climb), (6, .func (.func 57) #[] #[.pointer (some a_c0)]), (7, .pointer (some ⟨b1, 0, none⟩)), (8, .pointer (some ⟨b2, 0, none⟩)), (50, .bool r3)] rfl ⟨by kernel_rfl, by kernel_rfl⟩ ?_
      refine TL.split 50 r3 (by kernel_rfl) (fun h4 => ?_) (fun h4 => ?_)
      · refine TL.run 20 [] [(3, .int .i64 seconds), (4, .int .i64 accel), (5, .int .i64 climb), (6, .func (.func 57) #[] #[.pointer (some a_c0)]), (7, .pointer (some ⟨b1, 0, none⟩)), (8, .pointer (some ⟨b2, 0, none⟩)), (61, .bool true)] rfl ⟨by kernel_rfl, by kernel_rfl⟩ ?_
        refine TL.next rfl ?_
        refine TC.condT rfl (by kernel_rfl) ?_
        refine TC.seq ?_
        refine TC.region ?_
        refine TL.run 2 [] [(14, .int .i64 0), (15, .int .i64 4)] rfl ⟨by kernel_rfl, by kernel_rfl⟩ ?_
        refine TL.next rfl ?_
        refine TC.ret ?_
        refine TE.ret_then ?_
        have e : search_certain a b_ s seconds accel climb c0 = (0, 4) := by subst hr2 hr3; unfold search_certain; exact elim_l (hR.symm.trans hJ) (cond_f h3 (cond_t h4 (rfl)))
        exact TE.ret [] (.tuple #[.int .i64 0, .int .i64 4]) ⟨by kernel_rfl, by kernel_rfl⟩ (by rw [e]; first | done | kernel_rfl)
      · refine TL.run 10 [] [(3, .int .i64 seconds), (4, .int .i64 accel), (5, .int .i64 climb), (6, .func (.func 57) #[] #[.pointer (some a_c0)]), (7, .pointer (some ⟨b1, 0, none⟩)), (8, .pointer (some ⟨b2, 0, none⟩)), (50, .bool false), (51, .int .i64 seconds)] rfl ⟨by kernel_rfl, by kernel_rfl⟩ ?_
        refine TL.call (some 52) [(3, .int .i64 seconds), (4, .int .i64 accel), (5, .int .i64 climb), (6, .func (.func 57) #[] #[.pointer (some a_c0)]), (7, .pointer (some ⟨b1, 0, none⟩)), (8, .pointer (some ⟨b2, 0, none⟩)), (50, .bool false), (52, .bool ((alert_out seconds 300)))] (fun w _ => alert_out_w seconds 300 w) (by kernel_rfl) (by kernel_rfl) ?_
        generalize hr4 : alert_out seconds 300 = r4
        refine TL.run 13 [] [(3, .int .i64 seconds), (4, .int .i64 accel), (5, .int .i64 climb), (6, .func (.func 57) #[] #[.pointer (some a_c0)]), (7, .pointer (some ⟨b1, 0, none⟩)), (8, .pointer (some ⟨b2, 0, none⟩)), (54, .bool r4)] rfl ⟨by kernel_rfl, by kernel_rfl⟩ ?_
        refine TL.split 54 r4 (by kernel_rfl) (fun h5 => ?_) (fun h5 => ?_)
        · refine TL.run 20 [] [(3, .int .i64 seconds), (4, .int .i64 accel), (5, .int .i64 climb), (6, .func (.func 57) #[] #[.pointer (some a_c0)]), (7, .pointer (some ⟨b1, 0, none⟩)), (8, .pointer (some ⟨b2, 0, none⟩)), (61, .bool true)] rfl ⟨by kernel_rfl, by kernel_rfl⟩ ?_
          refine TL.next rfl ?_
          refine TC.condT rfl (by kernel_rfl) ?_
          refine TC.seq ?_
          refine TC.region ?_
          refine TL.run 2 [] [(14, .int .i64 0), (15, .int .i64 4)] rfl ⟨by kernel_rfl, by kernel_rfl⟩ ?_
          refine TL.next rfl ?_
          refine TC.ret ?_
          refine TE.ret_then ?_
          have e : search_certain a b_ s seconds accel climb c0 = (0, 4) := by subst hr2 hr3 hr4; unfold search_certain; exact elim_l (hR.symm.trans hJ) (cond_f h3 (cond_f h4 (cond_t h5 (rfl))))
          exact TE.ret [] (.tuple #[.int .i64 0, .int .i64 4]) ⟨by kernel_rfl, by kernel_rfl⟩ (by rw [e]; first | done | kernel_rfl)
        · refine TL.run 14 [] [(3, .int .i64 seconds), (4, .int .i64 accel), (5, .int .i64 climb), (6, .func (.func 57) #[] #[.pointer (some a_c0)]), (7, .pointer (some ⟨b1, 0, none⟩)), (8, .pointer (some ⟨b2, 0, none⟩)), (54, .bool false), (55, .int .i64 accel)] rfl ⟨by kernel_rfl, by kernel_rfl⟩ ?_
          refine TL.call (some 56) [(3, .int .i64 seconds), (4, .int .i64 accel), (5, .int .i64 climb), (6, .func (.func 57) #[] #[.pointer (some a_c0)]), (7, .pointer (some ⟨b1, 0, none⟩)), (8, .pointer (some ⟨b2, 0, none⟩)), (54, .bool false), (56, .bool ((alert_out accel 20)))] (fun w _ => alert_out_w accel 20 w) (by kernel_rfl) (by kernel_rfl) ?_
          generalize hr5 : alert_out accel 20 = r5
          refine TL.run 17 [] [(3, .int .i64 seconds), (4, .int .i64 accel), (5, .int .i64 climb), (6, .func (.func 57) #[] #[.pointer (some a_c0)]), (7, .pointer (some ⟨b1, 0, none⟩)), (8, .pointer (some ⟨b2, 0, none⟩)), (58, .bool r5)] rfl ⟨by kernel_rfl, by kernel_rfl⟩ ?_
          refine TL.split 58 r5 (by kernel_rfl) (fun h6 => ?_) (fun h6 => ?_)
          · refine TL.run 20 [] [(3, .int .i64 seconds), (4, .int .i64 accel), (5, .int .i64 climb), (6, .func (.func 57) #[] #[.pointer (some a_c0)]), (7, .pointer (some ⟨b1, 0, none⟩)), (8, .pointer (some ⟨b2, 0, none⟩)), (61, .bool true)] rfl ⟨by kernel_rfl, by kernel_rfl⟩ ?_
            refine TL.next rfl ?_
            refine TC.condT rfl (by kernel_rfl) ?_
            refine TC.seq ?_
            refine TC.region ?_
            refine TL.run 2 [] [(14, .int .i64 0), (15, .int .i64 4)] rfl ⟨by kernel_rfl, by kernel_rfl⟩ ?_
            refine TL.next rfl ?_
            refine TC.ret ?_
            refine TE.ret_then ?_
            have e : search_certain a b_ s seconds accel climb c0 = (0, 4) := by subst hr2 hr3 hr4 hr5; unfold search_certain; exact elim_l (hR.symm.trans hJ) (cond_f h3 (cond_f h4 (cond_f h5 (cond_t h6 (rfl)))))
            exact TE.ret [] (.tuple #[.int .i64 0, .int .i64 4]) ⟨by kernel_rfl, by kernel_rfl⟩ (by rw [e]; first | done | kernel_rfl)
          · refine TL.run 18 [] [(3, .int .i64 seconds), (4, .int .i64 accel), (5, .int .i64 climb), (6, .func (.func 57) #[] #[.pointer (some a_c0)]), (7, .pointer (some ⟨b1, 0, none⟩)), (8, .pointer (some ⟨b2, 0, none⟩)), (58, .bool false), (59, .int .i64 climb)] rfl ⟨by kernel_rfl, by kernel_rfl⟩ ?_
            refine TL.call (some 60) [(3, .int .i64 seconds), (4, .int .i64 accel), (5, .int .i64 climb), (6, .func (.func 57) #[] #[.pointer (some a_c0)]), (7, .pointer (some ⟨b1, 0, none⟩)), (8, .pointer (some ⟨b2, 0, none⟩)), (58, .bool false), (60, .bool ((alert_out climb 200)))] (fun w _ => alert_out_w climb 200 w) (by kernel_rfl) (by kernel_rfl) ?_
            generalize hr6 : alert_out climb 200 = r6
            refine TL.run 20 [] [(3, .int .i64 seconds), (4, .int .i64 accel), (5, .int .i64 climb), (6, .func (.func 57) #[] #[.pointer (some a_c0)]), (7, .pointer (some ⟨b1, 0, none⟩)), (8, .pointer (some ⟨b2, 0, none⟩)), (61, .bool r6)] rfl ⟨by kernel_rfl, by kernel_rfl⟩ ?_
            refine TL.next rfl ?_
            refine TC.cond r6 rfl (by kernel_rfl) (fun h7 => ?_) (fun h7 => ?_)
            · refine TC.seq ?_
              refine TC.region ?_
              refine TL.run 2 [] [(14, .int .i64 0), (15, .int .i64 4)] rfl ⟨by kernel_rfl, by kernel_rfl⟩ ?_
              refine TL.next rfl ?_
              refine TC.ret ?_
              refine TE.ret_then ?_
              have e : search_certain a b_ s seconds accel climb c0 = (0, 4) := by subst hr2 hr3 hr4 hr5 hr6; unfold search_certain; exact elim_l (hR.symm.trans hJ) (cond_f h3 (cond_f h4 (cond_f h5 (cond_f h6 (cond_t h7 (rfl))))))
              exact TE.ret [] (.tuple #[.int .i64 0, .int .i64 4]) ⟨by kernel_rfl, by kernel_rfl⟩ (by rw [e]; first | done | kernel_rfl)
            · refine TC.skip ?_
              refine TE.next ?_
              refine TC.seq ?_
              refine TC.region ?_
              refine TL.run 8 [2, 1] [(3, .int .i64 seconds), (4, .int .i64 accel), (5, .int .i64 climb), (6, .func (.func 57) #[] #[.pointer (some a_c0)]), (7, .pointer (some ⟨b1, 0, none⟩)), (8, .pointer (some ⟨b2, 0, none⟩)), (19, .int .i64 (imax a.Track.Time b_.Track.Time))] rfl ⟨by kernel_rfl, by kernel_rfl⟩ ?_
              refine TL.next rfl ?_
              refine TC.seq ?_
              refine TC.seq ?_
              refine TC.region ?_
              refine TL.run 1 [] [(3, .int .i64 seconds), (4, .int .i64 accel), (5, .int .i64 climb), (6, .func (.func 57) #[] #[.pointer (some a_c0)]), (7, .pointer (some ⟨b1, 0, none⟩)), (8, .pointer (some ⟨b2, 0, none⟩)), (19, .int .i64 (imax a.Track.Time b_.Track.Time)), (20, .int .i64 0)] rfl ⟨by kernel_rfl, by kernel_rfl⟩ ?_
              refine TL.next rfl ?_
              refine TC.weak [(3, .int .i64 seconds), (4, .int .i64 accel), (5, .int .i64 climb), (6, .func (.func 57) #[] #[.pointer (some a_c0)]), (7, .pointer (some ⟨b1, 0, none⟩)), (8, .pointer (some ⟨b2, 0, none⟩)), (19, .int .i64 (imax a.Track.Time b_.Track.Time)), (20, .int .i64 0)] (by kernel_rfl) ?_
              refine TC.forget [.inl (b2, .cells (FilterTrack.c b_) 29 (0, 0)), .inl (b1, .cells (FilterTrack.c a) 29 (0, 0))] (.cons _ (.cons_cons _ (.cons_cons _ (.slnil)))) ?_
              obtain ⟨R3, hR_2⟩ : ∃ R, R = search_certain_L2 a b_ accel climb c0 ((seconds + 1).toNat) 0 := ⟨_, rfl⟩
              refine TC.cut (S := Unit) (fun (_ : Unit) => []) (fun (_ : Unit) => []) (fun (_ : Unit) => R3 = .inl ()) ?_ ?_
              · refine TC.block ?_
                refine TC.loop (X := Nat) (fun k_2 => [(3, .int .i64 seconds), (4, .int .i64 accel), (5, .int .i64 climb), (6, .func (.func 57) #[] #[.pointer (some a_c0)]), (7, .pointer (some ⟨b1, 0, none⟩)), (8, .pointer (some ⟨b2, 0, none⟩)), (19, .int .i64 (imax a.Track.Time b_.Track.Time)), (20, .int .i64 (k_2 : Int))]) (fun k_2 => [.inl (b2, .cells (FilterTrack.c b_) 29 (0, 0)), .inl (b1, .cells (FilterTrack.c a) 29 (0, 0))]) (fun k_2 => ((seconds + 1).toNat) - k_2) (fun k_2 => k_2 ≤ ((seconds + 1).toNat) ∧ R3 = search_certain_L2 a b_ accel climb c0 (((seconds + 1).toNat) - k_2) k_2) ?_ 0 ⟨Nat.zero_le _, hR_2⟩
                rintro k_2 ⟨hk_2, hI_2⟩
                refine TC.seq ?_
                refine TC.seq ?_
                refine TC.region ?_
                refine TL.run 3 [] [(3, .int .i64 seconds), (4, .int .i64 accel), (5, .int .i64 climb), (6, .func (.func 57) #[] #[.pointer (some a_c0)]), (7, .pointer (some ⟨b1, 0, none⟩)), (8, .pointer (some ⟨b2, 0, none⟩)), (19, .int .i64 (imax a.Track.Time b_.Track.Time)), (20, .int .i64 (k_2 : Int)), (71, .bool (decide ((k_2 : Int) ≤ seconds)))] rfl ⟨by kernel_rfl, by kernel_rfl⟩ ?_
                refine TL.next rfl ?_
                refine TC.cond (decide ((k_2 : Int) ≤ seconds)) rfl (by kernel_rfl) (fun h8 => ?_) (fun h8 => ?_)
                · have hlt_2 : k_2 < ((seconds + 1).toNat) := by have p0_ := (dec_t h8); have u1_ := alert_out_in hr4 h5; first | omega | (simp only [w64_eq] at *; omega)
                  have hd_2 : ((seconds + 1).toNat) - k_2 = (((seconds + 1).toNat) - (k_2 + 1)) + 1 := by omega
                  refine TC.skip ?_
                  refine TE.next ?_
                  refine TC.seq ?_
                  refine TC.block ?_
                  refine TC.seq ?_
                  refine TC.region ?_
                  refine TL.run 5 [1] [(3, .int .i64 seconds), (4, .int .i64 accel), (5, .int .i64 climb), (6, .func (.func 57) #[] #[.pointer (some a_c0)]), (7, .pointer (some ⟨b1, 0, none⟩)), (8, .pointer (some ⟨b2, 0, none⟩)), (19, .int .i64 (imax a.Track.Time b_.Track.Time)), (20, .int .i64 (k_2 : Int)), (75, FilterTrack.v a), (78, .int .i64 (w64 ((imax a.Track.Time b_.Track.Time) + (k_2 : Int)))), (79, .int .i64 accel)] rfl ⟨by kernel_rfl, by kernel_rfl⟩ ?_
                  refine TL.call (some 80) [(3, .int .i64 seconds), (4, .int .i64 accel), (5, .int .i64 climb), (6, .func (.func 57) #[] #[.pointer (some a_c0)]), (7, .pointer (some ⟨b1, 0, none⟩)), (8, .pointer (some ⟨b2, 0, none⟩)), (19, .int .i64 (imax a.Track.Time b_.Track.Time)), (20, .int .i64 (k_2 : Int)), (80, .tuple #[FilterTrack.v ((filter_Predict a (w64 ((imax a.Track.Time b_.Track.Time) + (k_2 : Int))) accel).1), .int .i64 ((filter_Predict a (w64 ((imax a.Track.Time b_.Track.Time) + (k_2 : Int))) accel).2)])] (fun w _ => filter_Predict_w a (w64 ((imax a.Track.Time b_.Track.Time) + (k_2 : Int))) accel w) (by kernel_rfl) (by kernel_rfl) ?_
                  generalize hr7 : filter_Predict a (w64 ((imax a.Track.Time b_.Track.Time) + (k_2 : Int))) accel = r7
                  refine TL.run 9 [] [(3, .int .i64 seconds), (4, .int .i64 accel), (5, .int .i64 climb), (6, .func (.func 57) #[] #[.pointer (some a_c0)]), (7, .pointer (some ⟨b1, 0, none⟩)), (8, .pointer (some ⟨b2, 0, none⟩)), (19, .int .i64 (imax a.Track.Time b_.Track.Time)), (20, .int .i64 (k_2 : Int)), (81, FilterTrack.v r7.1), (82, .int .i64 r7.2)] rfl ⟨by kernel_rfl, by kernel_rfl⟩ ?_
                  refine TL.write 0 (fun b6 => [(3, .int .i64 seconds), (4, .int .i64 accel), (5, .int .i64 climb), (6, .func (.func 57) #[] #[.pointer (some a_c0)]), (7, .pointer (some ⟨b1, 0, none⟩)), (8, .pointer (some ⟨b2, 0, none⟩)), (19, .int .i64 (imax a.Track.Time b_.Track.Time)), (20, .int .i64 (k_2 : Int)), (21, .pointer (some ⟨b6, 0, none⟩)), (81, FilterTrack.v r7.1), (82, .int .i64 r7.2)]) (fun b6 => [.inl (b6, .cells (FilterTrack.c FilterTrack.zero) 29 (0, 0)), .inl (b2, .cells (FilterTrack.c b_) 29 (0, 0)), .inl (b1, .cells (FilterTrack.c a) 29 (0, 0))]) (fun b6 => ⟨by kernel_rfl, by kernel_rfl⟩) (fun b6 => ?_)
                  refine TL.write 0 (fun _ => [(3, .int .i64 seconds), (4, .int .i64 accel), (5, .int .i64 climb), (6, .func (.func 57) #[] #[.pointer (some a_c0)]), (7, .pointer (some ⟨b1, 0, none⟩)), (8, .pointer (some ⟨b2, 0, none⟩)), (19, .int .i64 (imax a.Track.Time b_.Track.Time)), (20, .int .i64 (k_2 : Int)), (21, .pointer (some ⟨b6, 0, none⟩)), (82, .int .i64 r7.2)]) (fun _ => [.inl (b6, .cells (FilterTrack.c r7.1) 29 (0, 0)), .inl (b2, .cells (FilterTrack.c b_) 29 (0, 0)), .inl (b1, .cells (FilterTrack.c a) 29 (0, 0))]) (fun _ => ⟨by kernel_rfl, by kernel_rfl⟩) (fun _ => ?_)
                  refine TL.run 12 [] [(3, .int .i64 seconds), (4, .int .i64 accel), (5, .int .i64 climb), (6, .func (.func 57) #[] #[.pointer (some a_c0)]), (7, .pointer (some ⟨b1, 0, none⟩)), (8, .pointer (some ⟨b2, 0, none⟩)), (19, .int .i64 (imax a.Track.Time b_.Track.Time)), (20, .int .i64 (k_2 : Int)), (21, .pointer (some ⟨b6, 0, none⟩)), (22, .int .i64 r7.2)] rfl ⟨by kernel_rfl, by kernel_rfl⟩ ?_
                  refine TL.next rfl ?_
                  refine TC.seq ?_
                  refine TC.region ?_
                  refine TL.run 5 [1] [(3, .int .i64 seconds), (4, .int .i64 accel), (5, .int .i64 climb), (6, .func (.func 57) #[] #[.pointer (some a_c0)]), (7, .pointer (some ⟨b1, 0, none⟩)), (8, .pointer (some ⟨b2, 0, none⟩)), (19, .int .i64 (imax a.Track.Time b_.Track.Time)), (20, .int .i64 (k_2 : Int)), (21, .pointer (some ⟨b6, 0, none⟩)), (22, .int .i64 r7.2), (84, FilterTrack.v b_), (87, .int .i64 (w64 ((imax a.Track.Time b_.Track.Time) + (k_2 : Int)))), (88, .int .i64 accel)] rfl ⟨by kernel_rfl, by kernel_rfl⟩ ?_
                  refine TL.call (some 89) [(3, .int .i64 seconds), (4, .int .i64 accel), (5, .int .i64 climb), (6, .func (.func 57) #[] #[.pointer (some a_c0)]), (7, .pointer (some ⟨b1, 0, none⟩)), (8, .pointer (some ⟨b2, 0, none⟩)), (19, .int .i64 (imax a.Track.Time b_.Track.Time)), (20, .int .i64 (k_2 : Int)), (21, .pointer (some ⟨b6, 0, none⟩)), (22, .int .i64 r7.2), (89, .tuple #[FilterTrack.v ((filter_Predict b_ (w64 ((imax a.Track.Time b_.Track.Time) + (k_2 : Int))) accel).1), .int .i64 ((filter_Predict b_ (w64 ((imax a.Track.Time b_.Track.Time) + (k_2 : Int))) accel).2)])] (fun w _ => filter_Predict_w b_ (w64 ((imax a.Track.Time b_.Track.Time) + (k_2 : Int))) accel w) (by kernel_rfl) (by kernel_rfl) ?_
                  generalize hr8 : filter_Predict b_ (w64 ((imax a.Track.Time b_.Track.Time) + (k_2 : Int))) accel = r8
                  refine TL.run 9 [] [(3, .int .i64 seconds), (4, .int .i64 accel), (5, .int .i64 climb), (6, .func (.func 57) #[] #[.pointer (some a_c0)]), (7, .pointer (some ⟨b1, 0, none⟩)), (8, .pointer (some ⟨b2, 0, none⟩)), (19, .int .i64 (imax a.Track.Time b_.Track.Time)), (20, .int .i64 (k_2 : Int)), (21, .pointer (some ⟨b6, 0, none⟩)), (22, .int .i64 r7.2), (90, FilterTrack.v r8.1), (91, .int .i64 r8.2)] rfl ⟨by kernel_rfl, by kernel_rfl⟩ ?_
                  refine TL.write 0 (fun b7 => [(3, .int .i64 seconds), (4, .int .i64 accel), (5, .int .i64 climb), (6, .func (.func 57) #[] #[.pointer (some a_c0)]), (7, .pointer (some ⟨b1, 0, none⟩)), (8, .pointer (some ⟨b2, 0, none⟩)), (19, .int .i64 (imax a.Track.Time b_.Track.Time)), (20, .int .i64 (k_2 : Int)), (21, .pointer (some ⟨b6, 0, none⟩)), (22, .int .i64 r7.2), (23, .pointer (some ⟨b7, 0, none⟩)), (90, FilterTrack.v r8.1), (91, .int .i64 r8.2)]) (fun b7 => [.inl (b7, .cells (FilterTrack.c FilterTrack.zero) 29 (0, 0)), .inl (b6, .cells (FilterTrack.c r7.1) 29 (0, 0)), .inl (b2, .cells (FilterTrack.c b_) 29 (0, 0)), .inl (b1, .cells (FilterTrack.c a) 29 (0, 0))]) (fun b7 => ⟨by kernel_rfl, by kernel_rfl⟩) (fun b7 => ?_)
                  refine TL.write 0 (fun _ => [(3, .int .i64 seconds), (4, .int .i64 accel), (5, .int .i64 climb), (6, .func (.func 57) #[] #[.pointer (some a_c0)]), (7, .pointer (some ⟨b1, 0, none⟩)), (8, .pointer (some ⟨b2, 0, none⟩)), (19, .int .i64 (imax a.Track.Time b_.Track.Time)), (20, .int .i64 (k_2 : Int)), (21, .pointer (some ⟨b6, 0, none⟩)), (22, .int .i64 r7.2), (23, .pointer (some ⟨b7, 0, none⟩)), (91, .int .i64 r8.2)]) (fun _ => [.inl (b7, .cells (FilterTrack.c r8.1) 29 (0, 0)), .inl (b6, .cells (FilterTrack.c r7.1) 29 (0, 0)), .inl (b2, .cells (FilterTrack.c b_) 29 (0, 0)), .inl (b1, .cells (FilterTrack.c a) 29 (0, 0))]) (fun _ => ⟨by kernel_rfl, by kernel_rfl⟩) (fun _ => ?_)
                  refine TL.run 12 [] [(3, .int .i64 seconds), (4, .int .i64 accel), (5, .int .i64 climb), (6, .func (.func 57) #[] #[.pointer (some a_c0)]), (7, .pointer (some ⟨b1, 0, none⟩)), (8, .pointer (some ⟨b2, 0, none⟩)), (19, .int .i64 (imax a.Track.Time b_.Track.Time)), (20, .int .i64 (k_2 : Int)), (21, .pointer (some ⟨b6, 0, none⟩)), (22, .int .i64 r7.2), (23, .pointer (some ⟨b7, 0, none⟩)), (24, .int .i64 r8.2)] rfl ⟨by kernel_rfl, by kernel_rfl⟩ ?_
                  refine TL.next rfl ?_
                  refine TC.seq ?_
                  refine TC.seq ?_
                  refine TC.region ?_
                  refine TL.run 3 [] [(3, .int .i64 seconds), (4, .int .i64 accel), (5, .int .i64 climb), (6, .func (.func 57) #[] #[.pointer (some a_c0)]), (7, .pointer (some ⟨b1, 0, none⟩)), (8, .pointer (some ⟨b2, 0, none⟩)), (19, .int .i64 (imax a.Track.Time b_.Track.Time)), (20, .int .i64 (k_2 : Int)), (21, .pointer (some ⟨b6, 0, none⟩)), (23, .pointer (some ⟨b7, 0, none⟩)), (24, .int .i64 r8.2), (94, .bool (r7.2 != 0))] rfl ⟨by kernel_rfl, by kernel_rfl⟩ ?_
                  refine TL.join 94 (r7.2 != 0) 6 [] [] (fun β => [(3, .int .i64 seconds), (4, .int .i64 accel), (5, .int .i64 climb), (6, .func (.func 57) #[] #[.pointer (some a_c0)]), (7, .pointer (some ⟨b1, 0, none⟩)), (8, .pointer (some ⟨b2, 0, none⟩)), (19, .int .i64 (imax a.Track.Time b_.Track.Time)), (20, .int .i64 (k_2 : Int)), (21, .pointer (some ⟨b6, 0, none⟩)), (23, .pointer (some ⟨b7, 0, none⟩)), (97, .bool (β || (r8.2 != 0)))]) (by kernel_rfl) rfl ⟨by kernel_rfl, by kernel_rfl⟩ ⟨by kernel_rfl, by kernel_rfl⟩ ?_
                  refine TL.next rfl ?_
                  refine TC.cond ((r7.2 != 0) || (r8.2 != 0)) rfl (by kernel_rfl) (fun h9 => ?_) (fun h9 => ?_)
                  · refine TC.seq ?_
                    refine TC.region ?_
                    refine TL.run 2 [] [(14, .int .i64 0), (15, .int .i64 12)] rfl ⟨by kernel_rfl, by kernel_rfl⟩ ?_
                    refine TL.next rfl ?_
                    refine TC.ret ?_
                    refine TE.ret_then (TE.ret_block (TE.ret_then (TE.ret_then (TE.ret_block (TE.ret_then (TE.ret_then ?_))))))
                    have e : search_certain a b_ s seconds accel climb c0 = (0, 12) := by subst hr2 hr3 hr4 hr5 hr6 hr7 hr8; unfold search_certain; exact elim_l (hR.symm.trans hJ) (cond_f h3 (cond_f h4 (cond_f h5 (cond_f h6 (cond_f h7 (elim_r (hR_2.symm.trans (hI_2.trans (by rw [hd_2]; exact cond_t h9 (rfl)))) rfl))))))
                    exact TE.ret [] (.tuple #[.int .i64 0, .int .i64 12]) ⟨by kernel_rfl, by kernel_rfl⟩ (by rw [e]; first | done | kernel_rfl)
                  · refine TC.skip ?_
                    refine TE.next ?_
                    refine TC.seq ?_
                    refine TC.plan (G := Nat × Nat) (base := [(3, .int .i64 seconds), (4, .int .i64 accel), (5, .int .i64 climb), (6, .func (.func 57) #[] #[.pointer (some a_c0)]), (7, .pointer (some ⟨b1, 0, none⟩)), (8, .pointer (some ⟨b2, 0, none⟩)), (19, .int .i64 (imax a.Track.Time b_.Track.Time)), (20, .int .i64 (k_2 : Int)), (21, .pointer (some ⟨b6, 0, none⟩)), (23, .pointer (some ⟨b7, 0, none⟩))]) (vals := fun γ => [.pointer (some ⟨b6, 0, none⟩), Track.v r7.1.Track, .pointer (some ⟨b7, 0, none⟩), Track.v r8.1.Track, .pointer (some ⟨γ.1, 0, none⟩), .pointer (some ⟨γ.2, 0, none⟩), undef, undef]) (writes := [4, 5, 6, 7]) (mem := fun bs γ => match bs with | [x4_, x5_, x6_, x7_] => (bif x6_ then [.inl (γ.1, .cells (Track.c r7.1.Track) 25 (0, 0))] else bif x4_ then [.inl (γ.1, .cells (Track.c Track.zero) 25 (0, 0))] else []) ++ ((bif x7_ then [.inl (γ.2, .cells (Track.c r8.1.Track) 25 (0, 0))] else bif x5_ then [.inl (γ.2, .cells (Track.c Track.zero) 25 (0, 0))] else []) ++ ([.inl (b7, .cells (FilterTrack.c r8.1) 29 (0, 0)), .inl (b6, .cells (FilterTrack.c r7.1) 29 (0, 0)), .inl (b2, .cells (FilterTrack.c b_) 29 (0, 0)), .inl (b1, .cells (FilterTrack.c a) 29 (0, 0))])) | _ => []) (0, 0) (fun γ => [(3, .int .i64 seconds), (4, .int .i64 accel), (5, .int .i64 climb), (6, .func (.func 57) #[] #[.pointer (some a_c0)]), (7, .pointer (some ⟨b1, 0, none⟩)), (8, .pointer (some ⟨b2, 0, none⟩)), (19, .int .i64 (imax a.Track.Time b_.Track.Time)), (20, .int .i64 (k_2 : Int)), (25, .pointer (some ⟨γ.1, 0, none⟩)), (26, .pointer (some ⟨γ.2, 0, none⟩))]) (by kernel_rfl) (by kernel_rfl) (by kernel_rfl) (by kernel_rfl) (by kernel_rfl) (fun γ => by kernel_rfl) (fun _ hM => hM) (fun γ => by kernel_rfl) ?_ ?_
                    · skip
                      refine Steps.run (i := 0) 4 [0, 1, 0, 0] [.inl (b7, .cells (FilterTrack.c r8.1) 29 (0, 0)), .inl (b6, .cells (FilterTrack.c r7.1) 29 (0, 0)), .inl (b2, .cells (FilterTrack.c b_) 29 (0, 0)), .inl (b1, .cells (FilterTrack.c a) 29 (0, 0))] (by kernel_rfl) (by kernel_rfl) (fun S (γ : Nat × Nat) w hM => by change Sat _ ((bif S 6 then [.inl (γ.1, .cells (Track.c r7.1.Track) 25 (0, 0))] else bif S 4 then [.inl (γ.1, .cells (Track.c Track.zero) 25 (0, 0))] else []) ++ ((bif S 7 then [.inl (γ.2, .cells (Track.c r8.1.Track) 25 (0, 0))] else bif S 5 then [.inl (γ.2, .cells (Track.c Track.zero) 25 (0, 0))] else []) ++ ([.inl (b7, .cells (FilterTrack.c r8.1) 29 (0, 0)), .inl (b6, .cells (FilterTrack.c r7.1) 29 (0, 0)), .inl (b2, .cells (FilterTrack.c b_) 29 (0, 0)), .inl (b1, .cells (FilterTrack.c a) 29 (0, 0))]))) w at hM; exact hM.sub (sub_skip (sub_skip (List.Sublist.refl _)))) (by kernel_rfl) (fun (γ : Nat × Nat) => ⟨by kernel_rfl, by kernel_rfl⟩) ?_
                      refine Steps.op (i := 4) (Γ := Nat) (fun g (γ : Nat × Nat) => (g, γ.2)) (fun _ => []) (fun b (γ : Nat × Nat) => [.inl (b, .cells (Track.c Track.zero) 25 (0, 0))]) (fun S (γ : Nat × Nat) => (bif S 7 then [.inl (γ.2, .cells (Track.c r8.1.Track) 25 (0, 0))] else bif S 5 then [.inl (γ.2, .cells (Track.c Track.zero) 25 (0, 0))] else []) ++ ([.inl (b7, .cells (FilterTrack.c r8.1) 29 (0, 0)), .inl (b6, .cells (FilterTrack.c r7.1) 29 (0, 0)), .inl (b2, .cells (FilterTrack.c b_) 29 (0, 0)), .inl (b1, .cells (FilterTrack.c a) 29 (0, 0))])) [4, 6, 7] (fun (γ : Nat × Nat) => sV (Instr.alloc 25 true (.tuple #[]))) (some 25) (fun b (γ : Nat × Nat) => .pointer (some ⟨b, 0, none⟩)) (fun S (γ : Nat × Nat) hj hd hl => by change List.Perm (((bif S 6 then [.inl (γ.1, .cells (Track.c r7.1.Track) 25 (0, 0))] else bif S 4 then [.inl (γ.1, .cells (Track.c Track.zero) 25 (0, 0))] else []) ++ ((bif S 7 then [.inl (γ.2, .cells (Track.c r8.1.Track) 25 (0, 0))] else bif S 5 then [.inl (γ.2, .cells (Track.c Track.zero) 25 (0, 0))] else []) ++ ([.inl (b7, .cells (FilterTrack.c r8.1) 29 (0, 0)), .inl (b6, .cells (FilterTrack.c r7.1) 29 (0, 0)), .inl (b2, .cells (FilterTrack.c b_) 29 (0, 0)), .inl (b1, .cells (FilterTrack.c a) 29 (0, 0))]))) : Mem) _; rw [hj, hl 6 (by kernel_rfl)]; exact List.Perm.refl _) (fun S (γ : Nat × Nat) g hl => by change List.Perm _ (((bif S 6 then [.inl (g, .cells (Track.c r7.1.Track) 25 (0, 0))] else bif true then [.inl (g, .cells (Track.c Track.zero) 25 (0, 0))] else []) ++ ((bif S 7 then [.inl (γ.2, .cells (Track.c r8.1.Track) 25 (0, 0))] else bif S 5 then [.inl (γ.2, .cells (Track.c Track.zero) 25 (0, 0))] else []) ++ ([.inl (b7, .cells (FilterTrack.c r8.1) 29 (0, 0)), .inl (b6, .cells (FilterTrack.c r7.1) 29 (0, 0)), .inl (b2, .cells (FilterTrack.c b_) 29 (0, 0)), .inl (b1, .cells (FilterTrack.c a) 29 (0, 0))]))) : Mem); rw [hl 6 (by kernel_rfl)]; exact (List.Perm.refl _).symm) (fun (γ : Nat × Nat) M' w hM => run_new (v := fun b => .pointer (some ⟨b, 0, none⟩)) (fun b M => by kernel_rfl) M' w hM) (fun (γ : Nat × Nat) => by kernel_rfl) (fun (γ : Nat × Nat) g => by kernel_rfl) (by kernel_rfl) (fun (γ : Nat × Nat) g => by kernel_rfl) ?_
                      refine Steps.op (i := 5) (Γ := Nat) (fun g (γ : Nat × Nat) => (γ.1, g)) (fun _ => []) (fun b (γ : Nat × Nat) => [.inl (b, .cells (Track.c Track.zero) 25 (0, 0))]) (fun S (γ : Nat × Nat) => (bif S 6 then [.inl (γ.1, .cells (Track.c r7.1.Track) 25 (0, 0))] else bif S 4 then [.inl (γ.1, .cells (Track.c Track.zero) 25 (0, 0))] else []) ++ ([.inl (b7, .cells (FilterTrack.c r8.1) 29 (0, 0)), .inl (b6, .cells (FilterTrack.c r7.1) 29 (0, 0)), .inl (b2, .cells (FilterTrack.c b_) 29 (0, 0)), .inl (b1, .cells (FilterTrack.c a) 29 (0, 0))])) [5, 6, 7] (fun (γ : Nat × Nat) => sV (Instr.alloc 25 true (.tuple #[]))) (some 26) (fun b (γ : Nat × Nat) => .pointer (some ⟨b, 0, none⟩)) (fun S (γ : Nat × Nat) hj hd hl => by change List.Perm (((bif S 6 then [.inl (γ.1, .cells (Track.c r7.1.Track) 25 (0, 0))] else bif S 4 then [.inl (γ.1, .cells (Track.c Track.zero) 25 (0, 0))] else []) ++ ((bif S 7 then [.inl (γ.2, .cells (Track.c r8.1.Track) 25 (0, 0))] else bif S 5 then [.inl (γ.2, .cells (Track.c Track.zero) 25 (0, 0))] else []) ++ ([.inl (b7, .cells (FilterTrack.c r8.1) 29 (0, 0)), .inl (b6, .cells (FilterTrack.c r7.1) 29 (0, 0)), .inl (b2, .cells (FilterTrack.c b_) 29 (0, 0)), .inl (b1, .cells (FilterTrack.c a) 29 (0, 0))]))) : Mem) _; rw [hj, hl 7 (by kernel_rfl)]; exact (List.Perm.append_left _ (List.Perm.refl _)).trans (perm_mid _ _ _)) (fun S (γ : Nat × Nat) g hl => by change List.Perm _ (((bif S 6 then [.inl (γ.1, .cells (Track.c r7.1.Track) 25 (0, 0))] else bif S 4 then [.inl (γ.1, .cells (Track.c Track.zero) 25 (0, 0))] else []) ++ ((bif S 7 then [.inl (g, .cells (Track.c r8.1.Track) 25 (0, 0))] else bif true then [.inl (g, .cells (Track.c Track.zero) 25 (0, 0))] else []) ++ ([.inl (b7, .cells (FilterTrack.c r8.1) 29 (0, 0)), .inl (b6, .cells (FilterTrack.c r7.1) 29 (0, 0)), .inl (b2, .cells (FilterTrack.c b_) 29 (0, 0)), .inl (b1, .cells (FilterTrack.c a) 29 (0, 0))]))) : Mem); rw [hl 7 (by kernel_rfl)]; exact ((List.Perm.append_left _ (List.Perm.refl _)).trans (perm_mid _ _ _)).symm) (fun (γ : Nat × Nat) M' w hM => run_new (v := fun b => .pointer (some ⟨b, 0, none⟩)) (fun b M => by kernel_rfl) M' w hM) (fun (γ : Nat × Nat) => by kernel_rfl) (fun (γ : Nat × Nat) g => by kernel_rfl) (by kernel_rfl) (fun (γ : Nat × Nat) g => by kernel_rfl) ?_
                      refine Steps.put (i := 6) (fun (γ : Nat × Nat) => [.inl (γ.1, .cells (Track.c Track.zero) 25 (0, 0))]) (fun (γ : Nat × Nat) => [.inl (γ.1, .cells (Track.c r7.1.Track) 25 (0, 0))]) (fun S (γ : Nat × Nat) => (bif S 7 then [.inl (γ.2, .cells (Track.c r8.1.Track) 25 (0, 0))] else bif S 5 then [.inl (γ.2, .cells (Track.c Track.zero) 25 (0, 0))] else []) ++ ([.inl (b7, .cells (FilterTrack.c r8.1) 29 (0, 0)), .inl (b6, .cells (FilterTrack.c r7.1) 29 (0, 0)), .inl (b2, .cells (FilterTrack.c b_) 29 (0, 0)), .inl (b1, .cells (FilterTrack.c a) 29 (0, 0))])) (fun (γ : Nat × Nat) => sU (Instr.storeAt 25 (.pointer (some ⟨γ.1, 0, none⟩)) (Track.v r7.1.Track))) none (fun S (γ : Nat × Nat) hj hd hl => by change List.Perm (((bif S 6 then [.inl (γ.1, .cells (Track.c r7.1.Track) 25 (0, 0))] else bif S 4 then [.inl (γ.1, .cells (Track.c Track.zero) 25 (0, 0))] else []) ++ ((bif S 7 then [.inl (γ.2, .cells (Track.c r8.1.Track) 25 (0, 0))] else bif S 5 then [.inl (γ.2, .cells (Track.c Track.zero) 25 (0, 0))] else []) ++ ([.inl (b7, .cells (FilterTrack.c r8.1) 29 (0, 0)), .inl (b6, .cells (FilterTrack.c r7.1) 29 (0, 0)), .inl (b2, .cells (FilterTrack.c b_) 29 (0, 0)), .inl (b1, .cells (FilterTrack.c a) 29 (0, 0))]))) : Mem) _; rw [hj, hd 4 (by kernel_rfl)]; exact List.Perm.refl _) (fun S (γ : Nat × Nat) _ => (List.Perm.refl _).symm) (fun (γ : Nat × Nat) M' w hM => run_put (fun b M => by kernel_rfl) (fun b M => by kernel_rfl) M' w hM) (fun (γ : Nat × Nat) => by kernel_rfl) (fun (γ : Nat × Nat) => by kernel_rfl) ?_
                      refine Steps.put (i := 7) (fun (γ : Nat × Nat) => [.inl (γ.2, .cells (Track.c Track.zero) 25 (0, 0))]) (fun (γ : Nat × Nat) => [.inl (γ.2, .cells (Track.c r8.1.Track) 25 (0, 0))]) (fun S (γ : Nat × Nat) => (bif S 6 then [.inl (γ.1, .cells (Track.c r7.1.Track) 25 (0, 0))] else bif S 4 then [.inl (γ.1, .cells (Track.c Track.zero) 25 (0, 0))] else []) ++ ([.inl (b7, .cells (FilterTrack.c r8.1) 29 (0, 0)), .inl (b6, .cells (FilterTrack.c r7.1) 29 (0, 0)), .inl (b2, .cells (FilterTrack.c b_) 29 (0, 0)), .inl (b1, .cells (FilterTrack.c a) 29 (0, 0))])) (fun (γ : Nat × Nat) => sU (Instr.storeAt 25 (.pointer (some ⟨γ.2, 0, none⟩)) (Track.v r8.1.Track))) none (fun S (γ : Nat × Nat) hj hd hl => by change List.Perm (((bif S 6 then [.inl (γ.1, .cells (Track.c r7.1.Track) 25 (0, 0))] else bif S 4 then [.inl (γ.1, .cells (Track.c Track.zero) 25 (0, 0))] else []) ++ ((bif S 7 then [.inl (γ.2, .cells (Track.c r8.1.Track) 25 (0, 0))] else bif S 5 then [.inl (γ.2, .cells (Track.c Track.zero) 25 (0, 0))] else []) ++ ([.inl (b7, .cells (FilterTrack.c r8.1) 29 (0, 0)), .inl (b6, .cells (FilterTrack.c r7.1) 29 (0, 0)), .inl (b2, .cells (FilterTrack.c b_) 29 (0, 0)), .inl (b1, .cells (FilterTrack.c a) 29 (0, 0))]))) : Mem) _; rw [hj, hd 5 (by kernel_rfl)]; exact (List.Perm.append_left _ (List.Perm.refl _)).trans (perm_mid _ _ _)) (fun S (γ : Nat × Nat) _ => ((List.Perm.append_left _ (List.Perm.refl _)).trans (perm_mid _ _ _)).symm) (fun (γ : Nat × Nat) M' w hM => run_put (fun b M => by kernel_rfl) (fun b M => by kernel_rfl) M' w hM) (fun (γ : Nat × Nat) => by kernel_rfl) (fun (γ : Nat × Nat) => by kernel_rfl) ?_
                      exact Steps.done (by kernel_rfl)
                    · rintro ⟨b8, b9⟩
                      refine TE.conv [.inl (b8, .cells (Track.c r7.1.Track) 25 (0, 0)), .inl (b9, .cells (Track.c r8.1.Track) 25 (0, 0)), .inl (b7, .cells (FilterTrack.c r8.1) 29 (0, 0)), .inl (b6, .cells (FilterTrack.c r7.1) 29 (0, 0)), .inl (b2, .cells (FilterTrack.c b_) 29 (0, 0)), .inl (b1, .cells (FilterTrack.c a) 29 (0, 0))] (fun _ hM => hM) ?_
                      refine TE.next ?_
                      refine TC.seq ?_
                      refine TC.region ?_
                      refine TL.run 16 [5, 4] [(3, .int .i64 seconds), (4, .int .i64 accel), (5, .int .i64 climb), (6, .func (.func 57) #[] #[.pointer (some a_c0)]), (7, .pointer (some ⟨b1, 0, none⟩)), (8, .pointer (some ⟨b2, 0, none⟩)), (19, .int .i64 (imax a.Track.Time b_.Track.Time)), (20, .int .i64 (k_2 : Int)), (25, .pointer (some ⟨b8, 0, none⟩)), (26, .pointer (some ⟨b9, 0, none⟩)), (27, .int .i64 (w64 (200 + (w64 (climb * (w64 ((w64 ((w64 (2 * (w64 ((imax a.Track.Time b_.Track.Time) + (k_2 : Int))))) - a.Track.Time)) - b_.Track.Time)))))))] rfl ⟨by kernel_rfl, by kernel_rfl⟩ ?_
                      refine TL.next rfl ?_
                      refine TC.seq ?_
                      refine TC.draw 24 (by kernel_rfl) (by kernel_rfl) (by kernel_rfl) ?_
                      refine TQ.run 5 [0, 1] [(3, .int .i64 seconds), (4, .int .i64 accel), (5, .int .i64 climb), (6, .func (.func 57) #[] #[.pointer (some a_c0)]), (7, .pointer (some ⟨b1, 0, none⟩)), (8, .pointer (some ⟨b2, 0, none⟩)), (19, .int .i64 (imax a.Track.Time b_.Track.Time)), (20, .int .i64 (k_2 : Int)), (25, .pointer (some ⟨b8, 0, none⟩)), (26, .pointer (some ⟨b9, 0, none⟩)), (27, .int .i64 (w64 (200 + (w64 (climb * (w64 ((w64 ((w64 (2 * (w64 ((imax a.Track.Time b_.Track.Time) + (k_2 : Int))))) - a.Track.Time)) - b_.Track.Time))))))), (117, .func (.func 57) #[] #[.pointer (some a_c0)]), (119, P.v r7.1.Track.At), (121, P.v r8.1.Track.At)] rfl ⟨by kernel_rfl, by kernel_rfl⟩ ?_
                      refine TQ.call (some 122) [(3, .int .i64 seconds), (4, .int .i64 accel), (5, .int .i64 climb), (6, .func (.func 57) #[] #[.pointer (some a_c0)]), (7, .pointer (some ⟨b1, 0, none⟩)), (8, .pointer (some ⟨b2, 0, none⟩)), (19, .int .i64 (imax a.Track.Time b_.Track.Time)), (20, .int .i64 (k_2 : Int)), (25, .pointer (some ⟨b8, 0, none⟩)), (26, .pointer (some ⟨b9, 0, none⟩)), (27, .int .i64 (w64 (200 + (w64 (climb * (w64 ((w64 ((w64 (2 * (w64 ((imax a.Track.Time b_.Track.Time) + (k_2 : Int))))) - a.Track.Time)) - b_.Track.Time))))))), (117, .func (.func 57) #[] #[.pointer (some a_c0)]), (122, .int .i64 (plane_Square r7.1.Track.At r8.1.Track.At))] (fun w _ => plane_Square_w r7.1.Track.At r8.1.Track.At w) rfl (by kernel_rfl) (by kernel_rfl) ?_
                      generalize hr9 : plane_Square r7.1.Track.At r8.1.Track.At = r9
                      refine TQ.run 23 [0, 1, 0, 1, 1, 0] [(3, .int .i64 seconds), (4, .int .i64 accel), (5, .int .i64 climb), (6, .func (.func 57) #[] #[.pointer (some a_c0)]), (7, .pointer (some ⟨b1, 0, none⟩)), (8, .pointer (some ⟨b2, 0, none⟩)), (19, .int .i64 (imax a.Track.Time b_.Track.Time)), (20, .int .i64 (k_2 : Int)), (117, .func (.func 57) #[] #[.pointer (some a_c0)]), (122, .int .i64 r9), (127, .int .i64 (w64 (r7.1.Track.Radius + r8.1.Track.Radius))), (138, .int .i64 (imax (w64 (r7.1.Track.Height - r8.1.Track.Height)) (w64 (r8.1.Track.Height - r7.1.Track.Height)))), (139, .int .i64 (w64 (200 + (w64 (climb * (w64 ((w64 ((w64 (2 * (w64 ((imax a.Track.Time b_.Track.Time) + (k_2 : Int))))) - a.Track.Time)) - b_.Track.Time)))))))] rfl ⟨by kernel_rfl, by kernel_rfl⟩ ?_
                      refine TQ.call (some 140) [(3, .int .i64 seconds), (4, .int .i64 accel), (5, .int .i64 climb), (6, .func (.func 57) #[] #[.pointer (some a_c0)]), (7, .pointer (some ⟨b1, 0, none⟩)), (8, .pointer (some ⟨b2, 0, none⟩)), (19, .int .i64 (imax a.Track.Time b_.Track.Time)), (20, .int .i64 (k_2 : Int)), (140, .bool ((alert_Certain_1 r9 (w64 (r7.1.Track.Radius + r8.1.Track.Radius)) (imax (w64 (r7.1.Track.Height - r8.1.Track.Height)) (w64 (r8.1.Track.Height - r7.1.Track.Height))) (w64 (200 + (w64 (climb * (w64 ((w64 ((w64 (2 * (w64 ((imax a.Track.Time b_.Track.Time) + (k_2 : Int))))) - a.Track.Time)) - b_.Track.Time)))))) c0)))] (fun w hM => alert_Certain_1_w r9 (w64 (r7.1.Track.Radius + r8.1.Track.Radius)) (imax (w64 (r7.1.Track.Height - r8.1.Track.Height)) (w64 (r8.1.Track.Height - r7.1.Track.Height))) (w64 (200 + (w64 (climb * (w64 ((w64 ((w64 (2 * (w64 ((imax a.Track.Time b_.Track.Time) + (k_2 : Int))))) - a.Track.Time)) - b_.Track.Time)))))) a_c0 c0 w (h_c0.sat hM)) rfl (by kernel_rfl) (by kernel_rfl) ?_
                      generalize hr10 : alert_Certain_1 r9 (w64 (r7.1.Track.Radius + r8.1.Track.Radius)) (imax (w64 (r7.1.Track.Height - r8.1.Track.Height)) (w64 (r8.1.Track.Height - r7.1.Track.Height))) (w64 (200 + (w64 (climb * (w64 ((w64 ((w64 (2 * (w64 ((imax a.Track.Time b_.Track.Time) + (k_2 : Int))))) - a.Track.Time)) - b_.Track.Time)))))) c0 = r10
                      refine TQ.next rfl ?_
                      refine TC.cond r10 rfl (by kernel_rfl) (fun h10 => ?_) (fun h10 => ?_)
                      · refine TC.seq ?_
                        refine TC.region ?_
                        refine TL.run 3 [] [(14, .int .i64 (k_2 : Int)), (15, .int .i64 0)] rfl ⟨by kernel_rfl, by kernel_rfl⟩ ?_
                        refine TL.next rfl ?_
                        refine TC.ret ?_
                        refine TE.ret_block (TE.ret_then (TE.ret_then (TE.ret_block (TE.ret_then (TE.ret_then ?_)))))
                        have e : search_certain a b_ s seconds accel climb c0 = ((k_2 : Int), 0) := by subst hr2 hr3 hr4 hr5 hr6 hr7 hr8 hr9 hr10; unfold search_certain; exact elim_l (hR.symm.trans hJ) (cond_f h3 (cond_f h4 (cond_f h5 (cond_f h6 (cond_f h7 (elim_r (hR_2.symm.trans (hI_2.trans (by rw [hd_2]; exact cond_f h9 (cond_t h10 (rfl))))) rfl))))))
                        exact TE.ret [] (.tuple #[.int .i64 (k_2 : Int), .int .i64 0]) ⟨by kernel_rfl, by kernel_rfl⟩ (by rw [e]; first | done | kernel_rfl)
                      · refine TC.skip ?_
                        refine TE.normal_block ?_
                        refine TE.next ?_
                        refine TC.region ?_
                        refine TL.run 3 [] [(3, .int .i64 seconds), (4, .int .i64 accel), (5, .int .i64 climb), (6, .func (.func 57) #[] #[.pointer (some a_c0)]), (7, .pointer (some ⟨b1, 0, none⟩)), (8, .pointer (some ⟨b2, 0, none⟩)), (19, .int .i64 (imax a.Track.Time b_.Track.Time)), (20, .int .i64 (w64 ((k_2 : Int) + 1)))] rfl ⟨by kernel_rfl, by kernel_rfl⟩ ?_
                        refine TL.done rfl ?_
                        refine TE.rw 20 (.int .i64 (w64 ((k_2 : Int) + 1))) (.int .i64 ((k_2 + 1 : Nat) : Int)) (by kernel_rfl) (int_eq (by have q0_ := (dec_t h8); have q1_ := (bne_f (or_f1 h9)); have q2_ := (bne_f (or_f2 h9)); have u1_ := alert_out_in hr4 h5; first | omega | (rw [w64_id (by omega)]; omega) | (simp only [w64_eq] at *; omega))) ?_
                        exact TE.again (x := k_2) (k_2 + 1) ⟨by omega, hI_2.trans (by subst hr2 hr3 hr4 hr5 hr6 hr7 hr8 hr9 hr10; rw [hd_2]; exact cond_f h9 (cond_f h10 (rfl)))⟩ (by show ((seconds + 1).toNat) - (k_2 + 1) < ((seconds + 1).toNat) - k_2; omega) (by kernel_rfl) (.cons _ (.cons _ (.cons _ (.cons _ (.cons_cons _ (.cons_cons _ (.slnil)))))))
                · have hd_2 : ((seconds + 1).toNat) - k_2 = 0 := by have p0_ := (dec_f h8); have u1_ := alert_out_in hr4 h5; first | omega | (simp only [w64_eq] at *; omega)
                  refine TC.exit ?_
                  refine TE.exit_then (TE.exit_then (TE.exit_same ?_))
                  exact TE.cut () (hI_2.trans (by subst hr2 hr3 hr4 hr5 hr6; rw [hd_2]; exact rfl)) (by kernel_rfl) (.cons _ (.cons _ (.slnil)))
              · intro _ hJ_2
                refine TE.next ?_
                refine TC.seq ?_
                refine TC.region ?_
                refine TL.run 2 [] [(14, .int .i64 0), (15, .int .i64 8)] rfl ⟨by kernel_rfl, by kernel_rfl⟩ ?_
                refine TL.next rfl ?_
                refine TC.ret ?_
                have e : search_certain a b_ s seconds accel climb c0 = (0, 8) := by subst hr2 hr3 hr4 hr5 hr6; unfold search_certain; exact elim_l (hR.symm.trans hJ) (cond_f h3 (cond_f h4 (cond_f h5 (cond_f h6 (cond_f h7 (elim_l (hR_2.symm.trans hJ_2) (rfl)))))))
                exact TE.ret [] (.tuple #[.int .i64 0, .int .i64 8]) ⟨by kernel_rfl, by kernel_rfl⟩ (by rw [e]; first | done | kernel_rfl)

def alert_First (a : FilterTrack) (b_ : FilterTrack) (s : Sep) (seconds : Int) (accel : Int) (climb : Int) : Int × Int :=
  let r1 := search_first a b_ s seconds accel climb s
  (r1.1, r1.2)

set_option maxRecDepth 100000 in
theorem alert_First_w (a : FilterTrack) (b_ : FilterTrack) (s : Sep) (seconds : Int) (accel : Int) (climb : Int) (w : World) : Calls Try.prog 20 #[FilterTrack.v a, FilterTrack.v b_, Sep.v s, .int .i64 seconds, .int .i64 accel, .int .i64 climb] w (Ret w (.tuple #[.int .i64 ((alert_First a b_ s seconds accel climb).1), .int .i64 ((alert_First a b_ s seconds accel climb).2)])) := by
  refine calls_intro (vs := [FilterTrack.v a, FilterTrack.v b_, Sep.v s, .int .i64 seconds, .int .i64 accel, .int .i64 climb]) (w := w) Try.func20 rfl Try.ntmps20 rfl ?_
  refine TC.weak [(0, FilterTrack.v a), (1, FilterTrack.v b_), (2, Sep.v s), (3, .int .i64 seconds), (4, .int .i64 accel), (5, .int .i64 climb)] (by kernel_rfl) ?_
  refine TC.seq ?_
  refine TC.region ?_
  refine TL.write 0 (fun b1 => [(1, FilterTrack.v b_), (2, Sep.v s), (3, .int .i64 seconds), (4, .int .i64 accel), (5, .int .i64 climb), (6, .pointer (some ⟨b1, 0, none⟩))]) (fun b1 => [.inl (b1, .cells (FilterTrack.c a) 29 (0, 0))]) (fun b1 => ⟨by kernel_rfl, by kernel_rfl⟩) (fun b1 => ?_)
  refine TL.write 0 (fun b2 => [(2, Sep.v s), (3, .int .i64 seconds), (4, .int .i64 accel), (5, .int .i64 climb), (6, .pointer (some ⟨b1, 0, none⟩)), (7, .pointer (some ⟨b2, 0, none⟩))]) (fun b2 => [.inl (b2, .cells (FilterTrack.c b_) 29 (0, 0)), .inl (b1, .cells (FilterTrack.c a) 29 (0, 0))]) (fun b2 => ⟨by kernel_rfl, by kernel_rfl⟩) (fun b2 => ?_)
  refine TL.write 0 (fun b3 => [(3, .int .i64 seconds), (4, .int .i64 accel), (5, .int .i64 climb), (6, .pointer (some ⟨b1, 0, none⟩)), (7, .pointer (some ⟨b2, 0, none⟩)), (8, .pointer (some ⟨b3, 0, none⟩))]) (fun b3 => [.inl (b3, .cells (Sep.c s) 41 (0, 0)), .inl (b2, .cells (FilterTrack.c b_) 29 (0, 0)), .inl (b1, .cells (FilterTrack.c a) 29 (0, 0))]) (fun b3 => ⟨by kernel_rfl, by kernel_rfl⟩) (fun b3 => ?_)
  refine TL.run 5 [] [(3, .int .i64 seconds), (4, .int .i64 accel), (5, .int .i64 climb), (6, .pointer (some ⟨b1, 0, none⟩)), (7, .pointer (some ⟨b2, 0, none⟩)), (8, .pointer (some ⟨b3, 0, none⟩))] rfl ⟨by kernel_rfl, by kernel_rfl⟩ ?_
  refine TL.next rfl ?_
  refine TC.seq ?_
  refine TC.region ?_
  refine TL.run 7 [2, 1, 0] [(14, FilterTrack.v a), (15, FilterTrack.v b_), (16, Sep.v s), (17, .int .i64 seconds), (18, .int .i64 accel), (19, .int .i64 climb), (20, .func (.func 58) #[] #[.pointer (some ⟨b3, 0, none⟩)])] rfl ⟨by kernel_rfl, by kernel_rfl⟩ ?_
  refine TL.call (some 21) [(21, .tuple #[.int .i64 ((search_first a b_ s seconds accel climb s).1), .int .i64 ((search_first a b_ s seconds accel climb s).2)])] (fun w hM => search_first_w a b_ s seconds accel climb ⟨b3, 0, none⟩ s w (Rd.lit hM 0 _ rfl (by kernel_rfl) (by kernel_rfl) (by kernel_rfl))) (by kernel_rfl) (by kernel_rfl) ?_
  generalize hr1 : search_first a b_ s seconds accel climb s = r1
  refine TL.run 12 [] [(12, .int .i64 r1.1), (13, .int .i64 r1.2)] rfl ⟨by kernel_rfl, by kernel_rfl⟩ ?_
  refine TL.next rfl ?_
  refine TC.ret ?_
  have e : alert_First a b_ s seconds accel climb = (r1.1, r1.2) := by subst hr1; unfold alert_First; exact rfl
  exact TE.ret [] (.tuple #[.int .i64 r1.1, .int .i64 r1.2]) ⟨by kernel_rfl, by kernel_rfl⟩ (by rw [e]; first | done | kernel_rfl)

def alert_Certain (a : FilterTrack) (b_ : FilterTrack) (s : Sep) (seconds : Int) (accel : Int) (climb : Int) : Int × Int :=
  let r1 := search_certain a b_ s seconds accel climb s
  (r1.1, r1.2)

set_option maxRecDepth 100000 in
theorem alert_Certain_w (a : FilterTrack) (b_ : FilterTrack) (s : Sep) (seconds : Int) (accel : Int) (climb : Int) (w : World) : Calls Try.prog 19 #[FilterTrack.v a, FilterTrack.v b_, Sep.v s, .int .i64 seconds, .int .i64 accel, .int .i64 climb] w (Ret w (.tuple #[.int .i64 ((alert_Certain a b_ s seconds accel climb).1), .int .i64 ((alert_Certain a b_ s seconds accel climb).2)])) := by
  refine calls_intro (vs := [FilterTrack.v a, FilterTrack.v b_, Sep.v s, .int .i64 seconds, .int .i64 accel, .int .i64 climb]) (w := w) Try.func19 rfl Try.ntmps19 rfl ?_
  refine TC.weak [(0, FilterTrack.v a), (1, FilterTrack.v b_), (2, Sep.v s), (3, .int .i64 seconds), (4, .int .i64 accel), (5, .int .i64 climb)] (by kernel_rfl) ?_
  refine TC.seq ?_
  refine TC.region ?_
  refine TL.write 0 (fun b1 => [(1, FilterTrack.v b_), (2, Sep.v s), (3, .int .i64 seconds), (4, .int .i64 accel), (5, .int .i64 climb), (6, .pointer (some ⟨b1, 0, none⟩))]) (fun b1 => [.inl (b1, .cells (FilterTrack.c a) 29 (0, 0))]) (fun b1 => ⟨by kernel_rfl, by kernel_rfl⟩) (fun b1 => ?_)
  refine TL.write 0 (fun b2 => [(2, Sep.v s), (3, .int .i64 seconds), (4, .int .i64 accel), (5, .int .i64 climb), (6, .pointer (some ⟨b1, 0, none⟩)), (7, .pointer (some ⟨b2, 0, none⟩))]) (fun b2 => [.inl (b2, .cells (FilterTrack.c b_) 29 (0, 0)), .inl (b1, .cells (FilterTrack.c a) 29 (0, 0))]) (fun b2 => ⟨by kernel_rfl, by kernel_rfl⟩) (fun b2 => ?_)
  refine TL.write 0 (fun b3 => [(3, .int .i64 seconds), (4, .int .i64 accel), (5, .int .i64 climb), (6, .pointer (some ⟨b1, 0, none⟩)), (7, .pointer (some ⟨b2, 0, none⟩)), (8, .pointer (some ⟨b3, 0, none⟩))]) (fun b3 => [.inl (b3, .cells (Sep.c s) 41 (0, 0)), .inl (b2, .cells (FilterTrack.c b_) 29 (0, 0)), .inl (b1, .cells (FilterTrack.c a) 29 (0, 0))]) (fun b3 => ⟨by kernel_rfl, by kernel_rfl⟩) (fun b3 => ?_)
  refine TL.run 5 [] [(3, .int .i64 seconds), (4, .int .i64 accel), (5, .int .i64 climb), (6, .pointer (some ⟨b1, 0, none⟩)), (7, .pointer (some ⟨b2, 0, none⟩)), (8, .pointer (some ⟨b3, 0, none⟩))] rfl ⟨by kernel_rfl, by kernel_rfl⟩ ?_
  refine TL.next rfl ?_
  refine TC.seq ?_
  refine TC.region ?_
  refine TL.run 7 [2, 1, 0] [(14, FilterTrack.v a), (15, FilterTrack.v b_), (16, Sep.v s), (17, .int .i64 seconds), (18, .int .i64 accel), (19, .int .i64 climb), (20, .func (.func 57) #[] #[.pointer (some ⟨b3, 0, none⟩)])] rfl ⟨by kernel_rfl, by kernel_rfl⟩ ?_
  refine TL.call (some 21) [(21, .tuple #[.int .i64 ((search_certain a b_ s seconds accel climb s).1), .int .i64 ((search_certain a b_ s seconds accel climb s).2)])] (fun w hM => search_certain_w a b_ s seconds accel climb ⟨b3, 0, none⟩ s w (Rd.lit hM 0 _ rfl (by kernel_rfl) (by kernel_rfl) (by kernel_rfl))) (by kernel_rfl) (by kernel_rfl) ?_
  generalize hr1 : search_certain a b_ s seconds accel climb s = r1
  refine TL.run 12 [] [(12, .int .i64 r1.1), (13, .int .i64 r1.2)] rfl ⟨by kernel_rfl, by kernel_rfl⟩ ?_
  refine TL.next rfl ?_
  refine TC.ret ?_
  have e : alert_Certain a b_ s seconds accel climb = (r1.1, r1.2) := by subst hr1; unfold alert_Certain; exact rfl
  exact TE.ret [] (.tuple #[.int .i64 r1.1, .int .i64 r1.2]) ⟨by kernel_rfl, by kernel_rfl⟩ (by rw [e]; first | done | kernel_rfl)

def skywaykeep2_AlertSure (a : FilterTrack) (b_ : FilterTrack) (s : Sep) (more : Int) (seconds : Int) : Bool :=
  let r1 := alert_Certain FilterTrack.zero FilterTrack.zero (⟨10, 1000⟩ : Sep) 1 0 0
  cond ((r1.2 != 0) || (r1.1 != 0)) (
    false) (
    let r2 := alert_Certain FilterTrack.zero (⟨⟨0, 0, 0, ⟨100000, 0⟩, ⟨0, 0⟩, 0, 0, 0, 0, 0, 0⟩, 0, ⟨0, ⟨0, 0⟩, 0, 0, 0⟩⟩ : FilterTrack) (⟨10, 1000⟩ : Sep) 1 0 0
    cond (r2.2 != 8) (
      false) (
      let r3 := skywaykeep2_within seconds 0 40
      let r4 := alert_First a b_ s r3 1 10
      let r5 := alert_Certain a b_ s r3 1 10
      let r6 := skywaykeep2_within more 0 500
      let r7 := alert_First a b_ (⟨w64 (s.Lateral + r6), s.Vertical⟩ : Sep) r3 1 10
      let r8 := alert_First b_ a s r3 1 10
      cond (r5.2 == 0) (
        cond (r4.2 != 0) (
          false) (
          cond (decide (r4.1 > r5.1)) (
            false) (
            cond (r4.2 == 0) (
              cond (r7.2 == 0) (
                cond (decide (r7.1 > r4.1)) (
                  false) (
                  cond (r4.2 == 0) (
                    cond (r7.2 == 8) (
                      false) (
                      cond (((((r4.2 == r8.2) || (r4.2 == 4)) || (r8.2 == 4)) || (r4.2 == 1)) || (r8.2 == 1)) (
                        cond (r4.2 != 0) (
                          true) (
                          r4.1 == r8.1)) (
                        false))) (
                    cond (((((r4.2 == r8.2) || (r4.2 == 4)) || (r8.2 == 4)) || (r4.2 == 1)) || (r8.2 == 1)) (
                      cond (r4.2 != 0) (
                        true) (
                        r4.1 == r8.1)) (
                      false)))) (
                cond (r4.2 == 0) (
                  cond (r7.2 == 8) (
                    false) (
                    cond (((((r4.2 == r8.2) || (r4.2 == 4)) || (r8.2 == 4)) || (r4.2 == 1)) || (r8.2 == 1)) (
                      cond (r4.2 != 0) (
                        true) (
                        r4.1 == r8.1)) (
                      false))) (
                  cond (((((r4.2 == r8.2) || (r4.2 == 4)) || (r8.2 == 4)) || (r4.2 == 1)) || (r8.2 == 1)) (
                    cond (r4.2 != 0) (
                      true) (
                      r4.1 == r8.1)) (
                    false)))) (
              cond (r4.2 == 0) (
                cond (r7.2 == 8) (
                  false) (
                  cond (((((r4.2 == r8.2) || (r4.2 == 4)) || (r8.2 == 4)) || (r4.2 == 1)) || (r8.2 == 1)) (
                    cond (r4.2 != 0) (
                      true) (
                      r4.1 == r8.1)) (
                    false))) (
                cond (((((r4.2 == r8.2) || (r4.2 == 4)) || (r8.2 == 4)) || (r4.2 == 1)) || (r8.2 == 1)) (
                  cond (r4.2 != 0) (
                    true) (
                    r4.1 == r8.1)) (
                  false)))))) (
        cond (r4.2 == 0) (
          cond (r7.2 == 0) (
            cond (decide (r7.1 > r4.1)) (
              false) (
              cond (r4.2 == 0) (
                cond (r7.2 == 8) (
                  false) (
                  cond (((((r4.2 == r8.2) || (r4.2 == 4)) || (r8.2 == 4)) || (r4.2 == 1)) || (r8.2 == 1)) (
                    cond (r4.2 != 0) (
                      true) (
                      r4.1 == r8.1)) (
                    false))) (
                cond (((((r4.2 == r8.2) || (r4.2 == 4)) || (r8.2 == 4)) || (r4.2 == 1)) || (r8.2 == 1)) (
                  cond (r4.2 != 0) (
                    true) (
                    r4.1 == r8.1)) (
                  false)))) (
            cond (r4.2 == 0) (
              cond (r7.2 == 8) (
                false) (
                cond (((((r4.2 == r8.2) || (r4.2 == 4)) || (r8.2 == 4)) || (r4.2 == 1)) || (r8.2 == 1)) (
                  cond (r4.2 != 0) (
                    true) (
                    r4.1 == r8.1)) (
                  false))) (
              cond (((((r4.2 == r8.2) || (r4.2 == 4)) || (r8.2 == 4)) || (r4.2 == 1)) || (r8.2 == 1)) (
                cond (r4.2 != 0) (
                  true) (
                  r4.1 == r8.1)) (
                false)))) (
          cond (r4.2 == 0) (
            cond (r7.2 == 8) (
              false) (
              cond (((((r4.2 == r8.2) || (r4.2 == 4)) || (r8.2 == 4)) || (r4.2 == 1)) || (r8.2 == 1)) (
                cond (r4.2 != 0) (
                  true) (
                  r4.1 == r8.1)) (
                false))) (
            cond (((((r4.2 == r8.2) || (r4.2 == 4)) || (r8.2 == 4)) || (r4.2 == 1)) || (r8.2 == 1)) (
              cond (r4.2 != 0) (
                true) (
                r4.1 == r8.1)) (
              false))))))

set_option maxRecDepth 100000 in
theorem skywaykeep2_AlertSure_w (a : FilterTrack) (b_ : FilterTrack) (s : Sep) (more : Int) (seconds : Int) (w : World) : Calls Try.prog 4 #[FilterTrack.v a, FilterTrack.v b_, Sep.v s, .int .i64 more, .int .i64 seconds] w (Ret w (.bool (skywaykeep2_AlertSure a b_ s more seconds))) := by
  refine calls_intro (vs := [FilterTrack.v a, FilterTrack.v b_, Sep.v s, .int .i64 more, .int .i64 seconds]) (w := w) Try.func4 rfl Try.ntmps4 rfl ?_
  refine TC.weak [(0, FilterTrack.v a), (1, FilterTrack.v b_), (2, Sep.v s), (3, .int .i64 more), (4, .int .i64 seconds)] (by kernel_rfl) ?_
  refine TC.seq ?_
  refine TC.region ?_
  refine TL.write 0 (fun b1 => [(1, FilterTrack.v b_), (2, Sep.v s), (3, .int .i64 more), (4, .int .i64 seconds), (5, .pointer (some ⟨b1, 0, none⟩))]) (fun b1 => [.inl (b1, .cells (FilterTrack.c a) 29 (0, 0))]) (fun b1 => ⟨by kernel_rfl, by kernel_rfl⟩) (fun b1 => ?_)
  refine TL.write 0 (fun b2 => [(2, Sep.v s), (3, .int .i64 more), (4, .int .i64 seconds), (5, .pointer (some ⟨b1, 0, none⟩)), (6, .pointer (some ⟨b2, 0, none⟩))]) (fun b2 => [.inl (b2, .cells (FilterTrack.c b_) 29 (0, 0)), .inl (b1, .cells (FilterTrack.c a) 29 (0, 0))]) (fun b2 => ⟨by kernel_rfl, by kernel_rfl⟩) (fun b2 => ?_)
  refine TL.write 0 (fun b3 => [(3, .int .i64 more), (4, .int .i64 seconds), (5, .pointer (some ⟨b1, 0, none⟩)), (6, .pointer (some ⟨b2, 0, none⟩)), (7, .pointer (some ⟨b3, 0, none⟩))]) (fun b3 => [.inl (b3, .cells (Sep.c s) 41 (0, 0)), .inl (b2, .cells (FilterTrack.c b_) 29 (0, 0)), .inl (b1, .cells (FilterTrack.c a) 29 (0, 0))]) (fun b3 => ⟨by kernel_rfl, by kernel_rfl⟩) (fun b3 => ?_)
  refine TL.run 4 [] [(3, .int .i64 more), (4, .int .i64 seconds), (5, .pointer (some ⟨b1, 0, none⟩)), (6, .pointer (some ⟨b2, 0, none⟩)), (7, .pointer (some ⟨b3, 0, none⟩))] rfl ⟨by kernel_rfl, by kernel_rfl⟩ ?_
  refine TL.next rfl ?_
  refine TC.seq ?_
  refine TC.region ?_
  refine TL.run 1 [] [(3, .int .i64 more), (4, .int .i64 seconds), (5, .pointer (some ⟨b1, 0, none⟩)), (6, .pointer (some ⟨b2, 0, none⟩)), (7, .pointer (some ⟨b3, 0, none⟩)), (26, .agg #[.int .i64 10, .int .i64 1000])] rfl ⟨by kernel_rfl, by kernel_rfl⟩ ?_
  refine TL.write 0 (fun b4 => [(3, .int .i64 more), (4, .int .i64 seconds), (5, .pointer (some ⟨b1, 0, none⟩)), (6, .pointer (some ⟨b2, 0, none⟩)), (7, .pointer (some ⟨b3, 0, none⟩)), (11, .pointer (some ⟨b4, 0, none⟩)), (26, .agg #[.int .i64 10, .int .i64 1000])]) (fun b4 => [.inl (b4, .cells (Sep.c Sep.zero) 41 (0, 0)), .inl (b3, .cells (Sep.c s) 41 (0, 0)), .inl (b2, .cells (FilterTrack.c b_) 29 (0, 0)), .inl (b1, .cells (FilterTrack.c a) 29 (0, 0))]) (fun b4 => ⟨by kernel_rfl, by kernel_rfl⟩) (fun b4 => ?_)
  refine TL.write 0 (fun _ => [(3, .int .i64 more), (4, .int .i64 seconds), (5, .pointer (some ⟨b1, 0, none⟩)), (6, .pointer (some ⟨b2, 0, none⟩)), (7, .pointer (some ⟨b3, 0, none⟩)), (11, .pointer (some ⟨b4, 0, none⟩))]) (fun _ => [.inl (b4, .cells #[.int .i64 10, .int .i64 1000] 41 (0, 0)), .inl (b3, .cells (Sep.c s) 41 (0, 0)), .inl (b2, .cells (FilterTrack.c b_) 29 (0, 0)), .inl (b1, .cells (FilterTrack.c a) 29 (0, 0))]) (fun _ => ⟨by kernel_rfl, by kernel_rfl⟩) (fun _ => ?_)
  refine TL.next rfl ?_
  refine TC.seq ?_
  refine TC.region ?_
  refine TL.run 3 [] [(3, .int .i64 more), (4, .int .i64 seconds), (5, .pointer (some ⟨b1, 0, none⟩)), (6, .pointer (some ⟨b2, 0, none⟩)), (7, .pointer (some ⟨b3, 0, none⟩)), (11, .pointer (some ⟨b4, 0, none⟩)), (29, .agg #[.int .i64 0, .int .i64 0, .int .i64 0, .int .i64 100000, .int .i64 0, .int .i64 0, .int .i64 0, .int .i64 0, .int .i64 0, .int .i64 0, .int .i64 0, .int .i64 0, .int .i64 0, .int .i64 0, .int .i64 0, .int .i64 0, .int .i64 0, .int .i64 0, .int .i64 0, .int .i64 0])] rfl ⟨by kernel_rfl, by kernel_rfl⟩ ?_
  refine TL.write 0 (fun b5 => [(3, .int .i64 more), (4, .int .i64 seconds), (5, .pointer (some ⟨b1, 0, none⟩)), (6, .pointer (some ⟨b2, 0, none⟩)), (7, .pointer (some ⟨b3, 0, none⟩)), (11, .pointer (some ⟨b4, 0, none⟩)), (12, .pointer (some ⟨b5, 0, none⟩)), (29, .agg #[.int .i64 0, .int .i64 0, .int .i64 0, .int .i64 100000, .int .i64 0, .int .i64 0, .int .i64 0, .int .i64 0, .int .i64 0, .int .i64 0, .int .i64 0, .int .i64 0, .int .i64 0, .int .i64 0, .int .i64 0, .int .i64 0, .int .i64 0, .int .i64 0, .int .i64 0, .int .i64 0])]) (fun b5 => [.inl (b5, .cells (FilterTrack.c FilterTrack.zero) 29 (0, 0)), .inl (b4, .cells #[.int .i64 10, .int .i64 1000] 41 (0, 0)), .inl (b3, .cells (Sep.c s) 41 (0, 0)), .inl (b2, .cells (FilterTrack.c b_) 29 (0, 0)), .inl (b1, .cells (FilterTrack.c a) 29 (0, 0))]) (fun b5 => ⟨by kernel_rfl, by kernel_rfl⟩) (fun b5 => ?_)
  refine TL.write 0 (fun _ => [(3, .int .i64 more), (4, .int .i64 seconds), (5, .pointer (some ⟨b1, 0, none⟩)), (6, .pointer (some ⟨b2, 0, none⟩)), (7, .pointer (some ⟨b3, 0, none⟩)), (11, .pointer (some ⟨b4, 0, none⟩)), (12, .pointer (some ⟨b5, 0, none⟩))]) (fun _ => [.inl (b5, .cells #[.int .i64 0, .int .i64 0, .int .i64 0, .int .i64 100000, .int .i64 0, .int .i64 0, .int .i64 0, .int .i64 0, .int .i64 0, .int .i64 0, .int .i64 0, .int .i64 0, .int .i64 0, .int .i64 0, .int .i64 0, .int .i64 0, .int .i64 0, .int .i64 0, .int .i64 0, .int .i64 0] 29 (0, 0)), .inl (b4, .cells #[.int .i64 10, .int .i64 1000] 41 (0, 0)), .inl (b3, .cells (Sep.c s) 41 (0, 0)), .inl (b2, .cells (FilterTrack.c b_) 29 (0, 0)), .inl (b1, .cells (FilterTrack.c a) 29 (0, 0))]) (fun _ => ⟨by kernel_rfl, by kernel_rfl⟩) (fun _ => ?_)
  refine TL.next rfl ?_
  refine TC.seq ?_
  refine TC.seq ?_
  refine TC.region ?_
  refine TL.run 3 [1] [(3, .int .i64 more), (4, .int .i64 seconds), (5, .pointer (some ⟨b1, 0, none⟩)), (6, .pointer (some ⟨b2, 0, none⟩)), (7, .pointer (some ⟨b3, 0, none⟩)), (11, .pointer (some ⟨b4, 0, none⟩)), (12, .pointer (some ⟨b5, 0, none⟩)), (31, FilterTrack.v FilterTrack.zero), (32, FilterTrack.v FilterTrack.zero), (33, .agg #[.int .i64 10, .int .i64 1000])] rfl ⟨by kernel_rfl, by kernel_rfl⟩ ?_
  refine TL.call (some 34) [(3, .int .i64 more), (4, .int .i64 seconds), (5, .pointer (some ⟨b1, 0, none⟩)), (6, .pointer (some ⟨b2, 0, none⟩)), (7, .pointer (some ⟨b3, 0, none⟩)), (11, .pointer (some ⟨b4, 0, none⟩)), (12, .pointer (some ⟨b5, 0, none⟩)), (34, .tuple #[.int .i64 ((alert_Certain FilterTrack.zero FilterTrack.zero (⟨10, 1000⟩ : Sep) 1 0 0).1), .int .i64 ((alert_Certain FilterTrack.zero FilterTrack.zero (⟨10, 1000⟩ : Sep) 1 0 0).2)])] (fun w _ => alert_Certain_w FilterTrack.zero FilterTrack.zero (⟨10, 1000⟩ : Sep) 1 0 0 w) (by kernel_rfl) (by kernel_rfl) ?_
  generalize hr1 : alert_Certain FilterTrack.zero FilterTrack.zero (⟨10, 1000⟩ : Sep) 1 0 0 = r1
  refine TL.run 9 [] [(3, .int .i64 more), (4, .int .i64 seconds), (5, .pointer (some ⟨b1, 0, none⟩)), (6, .pointer (some ⟨b2, 0, none⟩)), (7, .pointer (some ⟨b3, 0, none⟩)), (11, .pointer (some ⟨b4, 0, none⟩)), (12, .pointer (some ⟨b5, 0, none⟩)), (13, .int .i64 r1.1), (14, .int .i64 r1.2)] rfl ⟨by kernel_rfl, by kernel_rfl⟩ ?_
  refine TL.next rfl ?_
  refine TC.seq ?_
  refine TC.region ?_
  refine TL.run 3 [] [(3, .int .i64 more), (4, .int .i64 seconds), (5, .pointer (some ⟨b1, 0, none⟩)), (6, .pointer (some ⟨b2, 0, none⟩)), (7, .pointer (some ⟨b3, 0, none⟩)), (11, .pointer (some ⟨b4, 0, none⟩)), (12, .pointer (some ⟨b5, 0, none⟩)), (13, .int .i64 r1.1), (39, .bool (r1.2 != 0))] rfl ⟨by kernel_rfl, by kernel_rfl⟩ ?_
  refine TL.join 39 (r1.2 != 0) 6 [] [] (fun β => [(3, .int .i64 more), (4, .int .i64 seconds), (5, .pointer (some ⟨b1, 0, none⟩)), (6, .pointer (some ⟨b2, 0, none⟩)), (7, .pointer (some ⟨b3, 0, none⟩)), (11, .pointer (some ⟨b4, 0, none⟩)), (12, .pointer (some ⟨b5, 0, none⟩)), (42, .bool (β || (r1.1 != 0)))]) (by kernel_rfl) rfl ⟨by kernel_rfl, by kernel_rfl⟩ ⟨by kernel_rfl, by kernel_rfl⟩ ?_
  refine TL.next rfl ?_
  refine TC.cond ((r1.2 != 0) || (r1.1 != 0)) rfl (by kernel_rfl) (fun h1 => ?_) (fun h1 => ?_)
  · refine TC.seq ?_
    refine TC.region ?_
    refine TL.run 1 [] [(10, .bool false)] rfl ⟨by kernel_rfl, by kernel_rfl⟩ ?_
    refine TL.next rfl ?_
    refine TC.ret ?_
    refine TE.ret_then ?_
    have e : skywaykeep2_AlertSure a b_ s more seconds = false := by subst hr1; unfold skywaykeep2_AlertSure; exact cond_t h1 (rfl)
    exact TE.ret [] (.bool false) ⟨by kernel_rfl, by kernel_rfl⟩ (by rw [e]; first | done | kernel_rfl)
  · refine TC.skip ?_
    refine TE.next ?_
    refine TC.seq ?_
    refine TC.seq ?_
    refine TC.region ?_
    refine TL.run 3 [0, 1] [(3, .int .i64 more), (4, .int .i64 seconds), (5, .pointer (some ⟨b1, 0, none⟩)), (6, .pointer (some ⟨b2, 0, none⟩)), (7, .pointer (some ⟨b3, 0, none⟩)), (44, FilterTrack.v FilterTrack.zero), (45, .agg #[.int .i64 0, .int .i64 0, .int .i64 0, .int .i64 100000, .int .i64 0, .int .i64 0, .int .i64 0, .int .i64 0, .int .i64 0, .int .i64 0, .int .i64 0, .int .i64 0, .int .i64 0, .int .i64 0, .int .i64 0, .int .i64 0, .int .i64 0, .int .i64 0, .int .i64 0, .int .i64 0]), (46, .agg #[.int .i64 10, .int .i64 1000])] rfl ⟨by kernel_rfl, by kernel_rfl⟩ ?_
    refine TL.call (some 47) [(3, .int .i64 more), (4, .int .i64 seconds), (5, .pointer (some ⟨b1, 0, none⟩)), (6, .pointer (some ⟨b2, 0, none⟩)), (7, .pointer (some ⟨b3, 0, none⟩)), (47, .tuple #[.int .i64 ((alert_Certain FilterTrack.zero (⟨⟨0, 0, 0, ⟨100000, 0⟩, ⟨0, 0⟩, 0, 0, 0, 0, 0, 0⟩, 0, ⟨0, ⟨0, 0⟩, 0, 0, 0⟩⟩ : FilterTrack) (⟨10, 1000⟩ : Sep) 1 0 0).1), .int .i64 ((alert_Certain FilterTrack.zero (⟨⟨0, 0, 0, ⟨100000, 0⟩, ⟨0, 0⟩, 0, 0, 0, 0, 0, 0⟩, 0, ⟨0, ⟨0, 0⟩, 0, 0, 0⟩⟩ : FilterTrack) (⟨10, 1000⟩ : Sep) 1 0 0).2)])] (fun w _ => alert_Certain_w FilterTrack.zero (⟨⟨0, 0, 0, ⟨100000, 0⟩, ⟨0, 0⟩, 0, 0, 0, 0, 0, 0⟩, 0, ⟨0, ⟨0, 0⟩, 0, 0, 0⟩⟩ : FilterTrack) (⟨10, 1000⟩ : Sep) 1 0 0 w) (by kernel_rfl) (by kernel_rfl) ?_
    generalize hr2 : alert_Certain FilterTrack.zero (⟨⟨0, 0, 0, ⟨100000, 0⟩, ⟨0, 0⟩, 0, 0, 0, 0, 0, 0⟩, 0, ⟨0, ⟨0, 0⟩, 0, 0, 0⟩⟩ : FilterTrack) (⟨10, 1000⟩ : Sep) 1 0 0 = r2
    refine TL.run 9 [] [(3, .int .i64 more), (4, .int .i64 seconds), (5, .pointer (some ⟨b1, 0, none⟩)), (6, .pointer (some ⟨b2, 0, none⟩)), (7, .pointer (some ⟨b3, 0, none⟩)), (16, .int .i64 r2.2)] rfl ⟨by kernel_rfl, by kernel_rfl⟩ ?_
    refine TL.next rfl ?_
    refine TC.seq ?_
    refine TC.region ?_
    refine TL.run 2 [] [(3, .int .i64 more), (4, .int .i64 seconds), (5, .pointer (some ⟨b1, 0, none⟩)), (6, .pointer (some ⟨b2, 0, none⟩)), (7, .pointer (some ⟨b3, 0, none⟩)), (51, .bool (r2.2 != 8))] rfl ⟨by kernel_rfl, by kernel_rfl⟩ ?_
    refine TL.next rfl ?_
    refine TC.cond (r2.2 != 8) rfl (by kernel_rfl) (fun h2 => ?_) (fun h2 => ?_)
    · refine TC.seq ?_
      refine TC.region ?_
      refine TL.run 1 [] [(10, .bool false)] rfl ⟨by kernel_rfl, by kernel_rfl⟩ ?_
      refine TL.next rfl ?_
      refine TC.ret ?_
      refine TE.ret_then ?_
      have e : skywaykeep2_AlertSure a b_ s more seconds = false := by subst hr1 hr2; unfold skywaykeep2_AlertSure; exact cond_f h1 (cond_t h2 (rfl))
      exact TE.ret [] (.bool false) ⟨by kernel_rfl, by kernel_rfl⟩ (by rw [e]; first | done | kernel_rfl)
    · refine TC.skip ?_
      refine TE.next ?_
      refine TC.seq ?_
      refine TC.region ?_
      refine TL.run 1 [] [(3, .int .i64 more), (5, .pointer (some ⟨b1, 0, none⟩)), (6, .pointer (some ⟨b2, 0, none⟩)), (7, .pointer (some ⟨b3, 0, none⟩)), (52, .int .i64 seconds)] rfl ⟨by kernel_rfl, by kernel_rfl⟩ ?_
      refine TL.call (some 53) [(3, .int .i64 more), (5, .pointer (some ⟨b1, 0, none⟩)), (6, .pointer (some ⟨b2, 0, none⟩)), (7, .pointer (some ⟨b3, 0, none⟩)), (53, .int .i64 (skywaykeep2_within seconds 0 40))] (fun w _ => skywaykeep2_within_w seconds 0 40 w (by have q0_ := (bne_f (or_f1 h1)); have q1_ := (bne_f (or_f2 h1)); have q2_ := (bne_f h2); first | omega | first | decide | omega | (simp only [w64_eq]; omega) | (simp <;> omega))) (by kernel_rfl) (by kernel_rfl) ?_
      generalize hr3 : skywaykeep2_within seconds 0 40 = r3
      refine TL.run 3 [] [(3, .int .i64 more), (4, .int .i64 r3), (5, .pointer (some ⟨b1, 0, none⟩)), (6, .pointer (some ⟨b2, 0, none⟩)), (7, .pointer (some ⟨b3, 0, none⟩))] rfl ⟨by kernel_rfl, by kernel_rfl⟩ ?_
      refine TL.next rfl ?_
      refine TC.seq ?_
      refine TC.region ?_
      refine TL.run 4 [4, 3, 2] [(3, .int .i64 more), (4, .int .i64 r3), (5, .pointer (some ⟨b1, 0, none⟩)), (6, .pointer (some ⟨b2, 0, none⟩)), (7, .pointer (some ⟨b3, 0, none⟩)), (55, FilterTrack.v a), (56, FilterTrack.v b_), (57, Sep.v s), (58, .int .i64 r3)] rfl ⟨by kernel_rfl, by kernel_rfl⟩ ?_
      refine TL.call (some 59) [(3, .int .i64 more), (4, .int .i64 r3), (5, .pointer (some ⟨b1, 0, none⟩)), (6, .pointer (some ⟨b2, 0, none⟩)), (7, .pointer (some ⟨b3, 0, none⟩)), (59, .tuple #[.int .i64 ((alert_First a b_ s r3 1 10).1), .int .i64 ((alert_First a b_ s r3 1 10).2)])] (fun w _ => alert_First_w a b_ s r3 1 10 w) (by kernel_rfl) (by kernel_rfl) ?_
      generalize hr4 : alert_First a b_ s r3 1 10 = r4
      refine TL.run 10 [] [(3, .int .i64 more), (4, .int .i64 r3), (5, .pointer (some ⟨b1, 0, none⟩)), (6, .pointer (some ⟨b2, 0, none⟩)), (7, .pointer (some ⟨b3, 0, none⟩)), (17, .int .i64 r4.1), (18, .int .i64 r4.2)] rfl ⟨by kernel_rfl, by kernel_rfl⟩ ?_
      refine TL.next rfl ?_
      refine TC.seq ?_
      refine TC.region ?_
      refine TL.run 4 [4, 3, 2] [(3, .int .i64 more), (4, .int .i64 r3), (5, .pointer (some ⟨b1, 0, none⟩)), (6, .pointer (some ⟨b2, 0, none⟩)), (7, .pointer (some ⟨b3, 0, none⟩)), (17, .int .i64 r4.1), (18, .int .i64 r4.2), (63, FilterTrack.v a), (64, FilterTrack.v b_), (65, Sep.v s), (66, .int .i64 r3)] rfl ⟨by kernel_rfl, by kernel_rfl⟩ ?_
      refine TL.call (some 67) [(3, .int .i64 more), (4, .int .i64 r3), (5, .pointer (some ⟨b1, 0, none⟩)), (6, .pointer (some ⟨b2, 0, none⟩)), (7, .pointer (some ⟨b3, 0, none⟩)), (17, .int .i64 r4.1), (18, .int .i64 r4.2), (67, .tuple #[.int .i64 ((alert_Certain a b_ s r3 1 10).1), .int .i64 ((alert_Certain a b_ s r3 1 10).2)])] (fun w _ => alert_Certain_w a b_ s r3 1 10 w) (by kernel_rfl) (by kernel_rfl) ?_
      generalize hr5 : alert_Certain a b_ s r3 1 10 = r5
      refine TL.run 10 [] [(3, .int .i64 more), (4, .int .i64 r3), (5, .pointer (some ⟨b1, 0, none⟩)), (6, .pointer (some ⟨b2, 0, none⟩)), (7, .pointer (some ⟨b3, 0, none⟩)), (17, .int .i64 r4.1), (18, .int .i64 r4.2), (19, .int .i64 r5.1), (20, .int .i64 r5.2)] rfl ⟨by kernel_rfl, by kernel_rfl⟩ ?_
      refine TL.next rfl ?_
      refine TC.seq ?_
      obtain ⟨r6, hr6⟩ : ∃ r, skywaykeep2_within more 0 500 = r := ⟨_, rfl⟩
      refine TC.plan (G := Nat) (base := [(3, .int .i64 more), (4, .int .i64 r3), (5, .pointer (some ⟨b1, 0, none⟩)), (6, .pointer (some ⟨b2, 0, none⟩)), (7, .pointer (some ⟨b3, 0, none⟩)), (17, .int .i64 r4.1), (18, .int .i64 r4.2), (19, .int .i64 r5.1), (20, .int .i64 r5.2)]) (vals := fun γ => [.pointer (some ⟨b3, 0, none⟩), .int .i64 s.Lateral, .int .i64 more, .int .i64 r6, .int .i64 (w64 (s.Lateral + r6)), .pointer (some ⟨b3, 1, none⟩), .int .i64 s.Vertical, .agg #[.int .i64 (w64 (s.Lateral + r6)), .int .i64 s.Vertical], .pointer (some ⟨γ, 0, none⟩), undef]) (writes := [8, 9]) (mem := fun bs γ => match bs with | [x8_, x9_] => (bif x9_ then [.inl (γ, .cells #[.int .i64 (w64 (s.Lateral + r6)), .int .i64 s.Vertical] 41 (0, 0))] else bif x8_ then [.inl (γ, .cells (Sep.c Sep.zero) 41 (0, 0))] else []) ++ ([.inl (b5, .cells #[.int .i64 0, .int .i64 0, .int .i64 0, .int .i64 100000, .int .i64 0, .int .i64 0, .int .i64 0, .int .i64 0, .int .i64 0, .int .i64 0, .int .i64 0, .int .i64 0, .int .i64 0, .int .i64 0, .int .i64 0, .int .i64 0, .int .i64 0, .int .i64 0, .int .i64 0, .int .i64 0] 29 (0, 0)), .inl (b4, .cells #[.int .i64 10, .int .i64 1000] 41 (0, 0)), .inl (b3, .cells (Sep.c s) 41 (0, 0)), .inl (b2, .cells (FilterTrack.c b_) 29 (0, 0)), .inl (b1, .cells (FilterTrack.c a) 29 (0, 0))]) | _ => []) (0) (fun γ => [(4, .int .i64 r3), (5, .pointer (some ⟨b1, 0, none⟩)), (6, .pointer (some ⟨b2, 0, none⟩)), (7, .pointer (some ⟨b3, 0, none⟩)), (17, .int .i64 r4.1), (18, .int .i64 r4.2), (19, .int .i64 r5.1), (20, .int .i64 r5.2), (21, .pointer (some ⟨γ, 0, none⟩))]) (by kernel_rfl) (by kernel_rfl) (by kernel_rfl) (by kernel_rfl) (by kernel_rfl) (fun γ => by kernel_rfl) (fun _ hM => hM) (fun γ => by kernel_rfl) ?_ ?_
      · skip
        refine Steps.run (i := 0) 3 [0, 2, 0] [.inl (b5, .cells #[.int .i64 0, .int .i64 0, .int .i64 0, .int .i64 100000, .int .i64 0, .int .i64 0, .int .i64 0, .int .i64 0, .int .i64 0, .int .i64 0, .int .i64 0, .int .i64 0, .int .i64 0, .int .i64 0, .int .i64 0, .int .i64 0, .int .i64 0, .int .i64 0, .int .i64 0, .int .i64 0] 29 (0, 0)), .inl (b4, .cells #[.int .i64 10, .int .i64 1000] 41 (0, 0)), .inl (b3, .cells (Sep.c s) 41 (0, 0)), .inl (b2, .cells (FilterTrack.c b_) 29 (0, 0)), .inl (b1, .cells (FilterTrack.c a) 29 (0, 0))] (by kernel_rfl) (by kernel_rfl) (fun S (γ : Nat) w hM => by change Sat _ ((bif S 9 then [.inl (γ, .cells #[.int .i64 (w64 (s.Lateral + r6)), .int .i64 s.Vertical] 41 (0, 0))] else bif S 8 then [.inl (γ, .cells (Sep.c Sep.zero) 41 (0, 0))] else []) ++ ([.inl (b5, .cells #[.int .i64 0, .int .i64 0, .int .i64 0, .int .i64 100000, .int .i64 0, .int .i64 0, .int .i64 0, .int .i64 0, .int .i64 0, .int .i64 0, .int .i64 0, .int .i64 0, .int .i64 0, .int .i64 0, .int .i64 0, .int .i64 0, .int .i64 0, .int .i64 0, .int .i64 0, .int .i64 0] 29 (0, 0)), .inl (b4, .cells #[.int .i64 10, .int .i64 1000] 41 (0, 0)), .inl (b3, .cells (Sep.c s) 41 (0, 0)), .inl (b2, .cells (FilterTrack.c b_) 29 (0, 0)), .inl (b1, .cells (FilterTrack.c a) 29 (0, 0))])) w at hM; exact hM.sub (sub_skip (List.Sublist.refl _))) (by kernel_rfl) (fun (γ : Nat) => ⟨by kernel_rfl, by kernel_rfl⟩) ?_
        refine Steps.call (i := 3) 16 (fun (γ : Nat) => #[.int .i64 more, .int .i64 0, .int .i64 500]) (some 73) (fun (γ : Nat) => .int .i64 r6) (fun (γ : Nat) => [.inl (b5, .cells #[.int .i64 0, .int .i64 0, .int .i64 0, .int .i64 100000, .int .i64 0, .int .i64 0, .int .i64 0, .int .i64 0, .int .i64 0, .int .i64 0, .int .i64 0, .int .i64 0, .int .i64 0, .int .i64 0, .int .i64 0, .int .i64 0, .int .i64 0, .int .i64 0, .int .i64 0, .int .i64 0] 29 (0, 0)), .inl (b4, .cells #[.int .i64 10, .int .i64 1000] 41 (0, 0)), .inl (b3, .cells (Sep.c s) 41 (0, 0)), .inl (b2, .cells (FilterTrack.c b_) 29 (0, 0)), .inl (b1, .cells (FilterTrack.c a) 29 (0, 0))]) (by kernel_rfl) (fun S (γ : Nat) w _ hM => by change Sat _ ((bif S 9 then [.inl (γ, .cells #[.int .i64 (w64 (s.Lateral + r6)), .int .i64 s.Vertical] 41 (0, 0))] else bif S 8 then [.inl (γ, .cells (Sep.c Sep.zero) 41 (0, 0))] else []) ++ ([.inl (b5, .cells #[.int .i64 0, .int .i64 0, .int .i64 0, .int .i64 100000, .int .i64 0, .int .i64 0, .int .i64 0, .int .i64 0, .int .i64 0, .int .i64 0, .int .i64 0, .int .i64 0, .int .i64 0, .int .i64 0, .int .i64 0, .int .i64 0, .int .i64 0, .int .i64 0, .int .i64 0, .int .i64 0] 29 (0, 0)), .inl (b4, .cells #[.int .i64 10, .int .i64 1000] 41 (0, 0)), .inl (b3, .cells (Sep.c s) 41 (0, 0)), .inl (b2, .cells (FilterTrack.c b_) 29 (0, 0)), .inl (b1, .cells (FilterTrack.c a) 29 (0, 0))])) w at hM; exact hM.sub (sub_skip (List.Sublist.refl _))) (fun (γ : Nat) w _ => by have h := skywaykeep2_within_w more 0 500 w (by have q0_ := (bne_f (or_f1 h1)); have q1_ := (bne_f (or_f2 h1)); have q2_ := (bne_f h2); first | omega | first | decide | omega | (simp only [w64_eq]; omega) | (simp <;> omega)); rw [hr6] at h; exact h) (fun (γ : Nat) => by kernel_rfl) (fun (γ : Nat) => by kernel_rfl) ?_
        refine Steps.run (i := 4) 8 [0, 0, 2, 0] [.inl (b5, .cells #[.int .i64 0, .int .i64 0, .int .i64 0, .int .i64 100000, .int .i64 0, .int .i64 0, .int .i64 0, .int .i64 0, .int .i64 0, .int .i64 0, .int .i64 0, .int .i64 0, .int .i64 0, .int .i64 0, .int .i64 0, .int .i64 0, .int .i64 0, .int .i64 0, .int .i64 0, .int .i64 0] 29 (0, 0)), .inl (b4, .cells #[.int .i64 10, .int .i64 1000] 41 (0, 0)), .inl (b3, .cells (Sep.c s) 41 (0, 0)), .inl (b2, .cells (FilterTrack.c b_) 29 (0, 0)), .inl (b1, .cells (FilterTrack.c a) 29 (0, 0))] (by kernel_rfl) (by kernel_rfl) (fun S (γ : Nat) w hM => by change Sat _ ((bif S 9 then [.inl (γ, .cells #[.int .i64 (w64 (s.Lateral + r6)), .int .i64 s.Vertical] 41 (0, 0))] else bif S 8 then [.inl (γ, .cells (Sep.c Sep.zero) 41 (0, 0))] else []) ++ ([.inl (b5, .cells #[.int .i64 0, .int .i64 0, .int .i64 0, .int .i64 100000, .int .i64 0, .int .i64 0, .int .i64 0, .int .i64 0, .int .i64 0, .int .i64 0, .int .i64 0, .int .i64 0, .int .i64 0, .int .i64 0, .int .i64 0, .int .i64 0, .int .i64 0, .int .i64 0, .int .i64 0, .int .i64 0] 29 (0, 0)), .inl (b4, .cells #[.int .i64 10, .int .i64 1000] 41 (0, 0)), .inl (b3, .cells (Sep.c s) 41 (0, 0)), .inl (b2, .cells (FilterTrack.c b_) 29 (0, 0)), .inl (b1, .cells (FilterTrack.c a) 29 (0, 0))])) w at hM; exact hM.sub (sub_skip (List.Sublist.refl _))) (by kernel_rfl) (fun (γ : Nat) => ⟨by kernel_rfl, by kernel_rfl⟩) ?_
        refine Steps.op (i := 8) (Γ := Nat) (fun g (γ : Nat) => g) (fun _ => []) (fun b (γ : Nat) => [.inl (b, .cells (Sep.c Sep.zero) 41 (0, 0))]) (fun S (γ : Nat) => [.inl (b5, .cells #[.int .i64 0, .int .i64 0, .int .i64 0, .int .i64 100000, .int .i64 0, .int .i64 0, .int .i64 0, .int .i64 0, .int .i64 0, .int .i64 0, .int .i64 0, .int .i64 0, .int .i64 0, .int .i64 0, .int .i64 0, .int .i64 0, .int .i64 0, .int .i64 0, .int .i64 0, .int .i64 0] 29 (0, 0)), .inl (b4, .cells #[.int .i64 10, .int .i64 1000] 41 (0, 0)), .inl (b3, .cells (Sep.c s) 41 (0, 0)), .inl (b2, .cells (FilterTrack.c b_) 29 (0, 0)), .inl (b1, .cells (FilterTrack.c a) 29 (0, 0))]) [8, 9] (fun (γ : Nat) => sV (Instr.alloc 41 true (.tuple #[]))) (some 21) (fun b (γ : Nat) => .pointer (some ⟨b, 0, none⟩)) (fun S (γ : Nat) hj hd hl => by change List.Perm (((bif S 9 then [.inl (γ, .cells #[.int .i64 (w64 (s.Lateral + r6)), .int .i64 s.Vertical] 41 (0, 0))] else bif S 8 then [.inl (γ, .cells (Sep.c Sep.zero) 41 (0, 0))] else []) ++ ([.inl (b5, .cells #[.int .i64 0, .int .i64 0, .int .i64 0, .int .i64 100000, .int .i64 0, .int .i64 0, .int .i64 0, .int .i64 0, .int .i64 0, .int .i64 0, .int .i64 0, .int .i64 0, .int .i64 0, .int .i64 0, .int .i64 0, .int .i64 0, .int .i64 0, .int .i64 0, .int .i64 0, .int .i64 0] 29 (0, 0)), .inl (b4, .cells #[.int .i64 10, .int .i64 1000] 41 (0, 0)), .inl (b3, .cells (Sep.c s) 41 (0, 0)), .inl (b2, .cells (FilterTrack.c b_) 29 (0, 0)), .inl (b1, .cells (FilterTrack.c a) 29 (0, 0))])) : Mem) _; rw [hj, hl 9 (by kernel_rfl)]; exact List.Perm.refl _) (fun S (γ : Nat) g hl => by change List.Perm _ (((bif S 9 then [.inl (g, .cells #[.int .i64 (w64 (s.Lateral + r6)), .int .i64 s.Vertical] 41 (0, 0))] else bif true then [.inl (g, .cells (Sep.c Sep.zero) 41 (0, 0))] else []) ++ ([.inl (b5, .cells #[.int .i64 0, .int .i64 0, .int .i64 0, .int .i64 100000, .int .i64 0, .int .i64 0, .int .i64 0, .int .i64 0, .int .i64 0, .int .i64 0, .int .i64 0, .int .i64 0, .int .i64 0, .int .i64 0, .int .i64 0, .int .i64 0, .int .i64 0, .int .i64 0, .int .i64 0, .int .i64 0] 29 (0, 0)), .inl (b4, .cells #[.int .i64 10, .int .i64 1000] 41 (0, 0)), .inl (b3, .cells (Sep.c s) 41 (0, 0)), .inl (b2, .cells (FilterTrack.c b_) 29 (0, 0)), .inl (b1, .cells (FilterTrack.c a) 29 (0, 0))])) : Mem); rw [hl 9 (by kernel_rfl)]; exact (List.Perm.refl _).symm) (fun (γ : Nat) M' w hM => run_new (v := fun b => .pointer (some ⟨b, 0, none⟩)) (fun b M => by kernel_rfl) M' w hM) (fun (γ : Nat) => by kernel_rfl) (fun (γ : Nat) g => by kernel_rfl) (by kernel_rfl) (fun (γ : Nat) g => by kernel_rfl) ?_
        refine Steps.put (i := 9) (fun (γ : Nat) => [.inl (γ, .cells (Sep.c Sep.zero) 41 (0, 0))]) (fun (γ : Nat) => [.inl (γ, .cells #[.int .i64 (w64 (s.Lateral + r6)), .int .i64 s.Vertical] 41 (0, 0))]) (fun S (γ : Nat) => [.inl (b5, .cells #[.int .i64 0, .int .i64 0, .int .i64 0, .int .i64 100000, .int .i64 0, .int .i64 0, .int .i64 0, .int .i64 0, .int .i64 0, .int .i64 0, .int .i64 0, .int .i64 0, .int .i64 0, .int .i64 0, .int .i64 0, .int .i64 0, .int .i64 0, .int .i64 0, .int .i64 0, .int .i64 0] 29 (0, 0)), .inl (b4, .cells #[.int .i64 10, .int .i64 1000] 41 (0, 0)), .inl (b3, .cells (Sep.c s) 41 (0, 0)), .inl (b2, .cells (FilterTrack.c b_) 29 (0, 0)), .inl (b1, .cells (FilterTrack.c a) 29 (0, 0))]) (fun (γ : Nat) => sU (Instr.storeAt 41 (.pointer (some ⟨γ, 0, none⟩)) (.agg #[.int .i64 (w64 (s.Lateral + r6)), .int .i64 s.Vertical]))) none (fun S (γ : Nat) hj hd hl => by change List.Perm (((bif S 9 then [.inl (γ, .cells #[.int .i64 (w64 (s.Lateral + r6)), .int .i64 s.Vertical] 41 (0, 0))] else bif S 8 then [.inl (γ, .cells (Sep.c Sep.zero) 41 (0, 0))] else []) ++ ([.inl (b5, .cells #[.int .i64 0, .int .i64 0, .int .i64 0, .int .i64 100000, .int .i64 0, .int .i64 0, .int .i64 0, .int .i64 0, .int .i64 0, .int .i64 0, .int .i64 0, .int .i64 0, .int .i64 0, .int .i64 0, .int .i64 0, .int .i64 0, .int .i64 0, .int .i64 0, .int .i64 0, .int .i64 0] 29 (0, 0)), .inl (b4, .cells #[.int .i64 10, .int .i64 1000] 41 (0, 0)), .inl (b3, .cells (Sep.c s) 41 (0, 0)), .inl (b2, .cells (FilterTrack.c b_) 29 (0, 0)), .inl (b1, .cells (FilterTrack.c a) 29 (0, 0))])) : Mem) _; rw [hj, hd 8 (by kernel_rfl)]; exact List.Perm.refl _) (fun S (γ : Nat) _ => (List.Perm.refl _).symm) (fun (γ : Nat) M' w hM => run_put (fun b M => by kernel_rfl) (fun b M => by kernel_rfl) M' w hM) (fun (γ : Nat) => by kernel_rfl) (fun (γ : Nat) => by kernel_rfl) ?_
        exact Steps.done (by kernel_rfl)
      · rintro b6
        refine TE.conv [.inl (b6, .cells #[.int .i64 (w64 (s.Lateral + r6)), .int .i64 s.Vertical] 41 (0, 0)), .inl (b5, .cells #[.int .i64 0, .int .i64 0, .int .i64 0, .int .i64 100000, .int .i64 0, .int .i64 0, .int .i64 0, .int .i64 0, .int .i64 0, .int .i64 0, .int .i64 0, .int .i64 0, .int .i64 0, .int .i64 0, .int .i64 0, .int .i64 0, .int .i64 0, .int .i64 0, .int .i64 0, .int .i64 0] 29 (0, 0)), .inl (b4, .cells #[.int .i64 10, .int .i64 1000] 41 (0, 0)), .inl (b3, .cells (Sep.c s) 41 (0, 0)), .inl (b2, .cells (FilterTrack.c b_) 29 (0, 0)), .inl (b1, .cells (FilterTrack.c a) 29 (0, 0))] (fun _ hM => hM) ?_
        refine TE.next ?_
        refine TC.seq ?_
        refine TC.region ?_
        refine TL.run 4 [5, 4, 0] [(4, .int .i64 r3), (5, .pointer (some ⟨b1, 0, none⟩)), (6, .pointer (some ⟨b2, 0, none⟩)), (7, .pointer (some ⟨b3, 0, none⟩)), (17, .int .i64 r4.1), (18, .int .i64 r4.2), (19, .int .i64 r5.1), (20, .int .i64 r5.2), (79, FilterTrack.v a), (80, FilterTrack.v b_), (81, .agg #[.int .i64 (w64 (s.Lateral + r6)), .int .i64 s.Vertical]), (82, .int .i64 r3)] rfl ⟨by kernel_rfl, by kernel_rfl⟩ ?_
        refine TL.call (some 83) [(4, .int .i64 r3), (5, .pointer (some ⟨b1, 0, none⟩)), (6, .pointer (some ⟨b2, 0, none⟩)), (7, .pointer (some ⟨b3, 0, none⟩)), (17, .int .i64 r4.1), (18, .int .i64 r4.2), (19, .int .i64 r5.1), (20, .int .i64 r5.2), (83, .tuple #[.int .i64 ((alert_First a b_ (⟨w64 (s.Lateral + r6), s.Vertical⟩ : Sep) r3 1 10).1), .int .i64 ((alert_First a b_ (⟨w64 (s.Lateral + r6), s.Vertical⟩ : Sep) r3 1 10).2)])] (fun w _ => alert_First_w a b_ (⟨w64 (s.Lateral + r6), s.Vertical⟩ : Sep) r3 1 10 w) (by kernel_rfl) (by kernel_rfl) ?_
        generalize hr7 : alert_First a b_ (⟨w64 (s.Lateral + r6), s.Vertical⟩ : Sep) r3 1 10 = r7
        refine TL.run 10 [] [(4, .int .i64 r3), (5, .pointer (some ⟨b1, 0, none⟩)), (6, .pointer (some ⟨b2, 0, none⟩)), (7, .pointer (some ⟨b3, 0, none⟩)), (17, .int .i64 r4.1), (18, .int .i64 r4.2), (19, .int .i64 r5.1), (20, .int .i64 r5.2), (22, .int .i64 r7.1), (23, .int .i64 r7.2)] rfl ⟨by kernel_rfl, by kernel_rfl⟩ ?_
        refine TL.next rfl ?_
        refine TC.seq ?_
        refine TC.region ?_
        refine TL.run 4 [4, 5, 3] [(17, .int .i64 r4.1), (18, .int .i64 r4.2), (19, .int .i64 r5.1), (20, .int .i64 r5.2), (22, .int .i64 r7.1), (23, .int .i64 r7.2), (87, FilterTrack.v b_), (88, FilterTrack.v a), (89, Sep.v s), (90, .int .i64 r3)] rfl ⟨by kernel_rfl, by kernel_rfl⟩ ?_
        refine TL.call (some 91) [(17, .int .i64 r4.1), (18, .int .i64 r4.2), (19, .int .i64 r5.1), (20, .int .i64 r5.2), (22, .int .i64 r7.1), (23, .int .i64 r7.2), (91, .tuple #[.int .i64 ((alert_First b_ a s r3 1 10).1), .int .i64 ((alert_First b_ a s r3 1 10).2)])] (fun w _ => alert_First_w b_ a s r3 1 10 w) (by kernel_rfl) (by kernel_rfl) ?_
        generalize hr8 : alert_First b_ a s r3 1 10 = r8
        refine TL.run 10 [] [(17, .int .i64 r4.1), (18, .int .i64 r4.2), (19, .int .i64 r5.1), (20, .int .i64 r5.2), (22, .int .i64 r7.1), (23, .int .i64 r7.2), (24, .int .i64 r8.1), (25, .int .i64 r8.2)] rfl ⟨by kernel_rfl, by kernel_rfl⟩ ?_
        refine TL.next rfl ?_
        refine TC.seq ?_
        refine TC.seq ?_
        refine TC.region ?_
        refine TL.run 3 [] [(17, .int .i64 r4.1), (18, .int .i64 r4.2), (19, .int .i64 r5.1), (22, .int .i64 r7.1), (23, .int .i64 r7.2), (24, .int .i64 r8.1), (25, .int .i64 r8.2), (96, .bool (r5.2 == 0))] rfl ⟨by kernel_rfl, by kernel_rfl⟩ ?_
        refine TL.split 96 (r5.2 == 0) (by kernel_rfl) (fun h3 => ?_) (fun h3 => ?_)
        · refine TL.run 6 [] [(17, .int .i64 r4.1), (18, .int .i64 r4.2), (19, .int .i64 r5.1), (22, .int .i64 r7.1), (23, .int .i64 r7.2), (24, .int .i64 r8.1), (25, .int .i64 r8.2), (96, .bool true), (99, .bool (r4.2 != 0))] rfl ⟨by kernel_rfl, by kernel_rfl⟩ ?_
          refine TL.split 99 (r4.2 != 0) (by kernel_rfl) (fun h4 => ?_) (fun h4 => ?_)
          · refine TL.run 32 [] [(17, .int .i64 r4.1), (18, .int .i64 r4.2), (24, .int .i64 r8.1), (25, .int .i64 r8.2), (125, .bool true)] rfl ⟨by kernel_rfl, by kernel_rfl⟩ ?_
            refine TL.next rfl ?_
            refine TC.condT rfl (by kernel_rfl) ?_
            refine TC.seq ?_
            refine TC.region ?_
            refine TL.run 1 [] [(10, .bool false)] rfl ⟨by kernel_rfl, by kernel_rfl⟩ ?_
            refine TL.next rfl ?_
            refine TC.ret ?_
            refine TE.ret_then ?_
            have e : skywaykeep2_AlertSure a b_ s more seconds = false := by subst hr1 hr2 hr3 hr4 hr5 hr6 hr7 hr8; unfold skywaykeep2_AlertSure; exact cond_f h1 (cond_f h2 (cond_t h3 (cond_t h4 (rfl))))
            exact TE.ret [] (.bool false) ⟨by kernel_rfl, by kernel_rfl⟩ (by rw [e]; first | done | kernel_rfl)
          · refine TL.run 12 [] [(17, .int .i64 r4.1), (18, .int .i64 r4.2), (22, .int .i64 r7.1), (23, .int .i64 r7.2), (24, .int .i64 r8.1), (25, .int .i64 r8.2), (105, .bool (decide (r4.1 > r5.1)))] rfl ⟨by kernel_rfl, by kernel_rfl⟩ ?_
            refine TL.split 105 (decide (r4.1 > r5.1)) (by kernel_rfl) (fun h5 => ?_) (fun h5 => ?_)
            · refine TL.run 32 [] [(17, .int .i64 r4.1), (18, .int .i64 r4.2), (24, .int .i64 r8.1), (25, .int .i64 r8.2), (125, .bool true)] rfl ⟨by kernel_rfl, by kernel_rfl⟩ ?_
              refine TL.next rfl ?_
              refine TC.condT rfl (by kernel_rfl) ?_
              refine TC.seq ?_
              refine TC.region ?_
              refine TL.run 1 [] [(10, .bool false)] rfl ⟨by kernel_rfl, by kernel_rfl⟩ ?_
              refine TL.next rfl ?_
              refine TC.ret ?_
              refine TE.ret_then ?_
              have e : skywaykeep2_AlertSure a b_ s more seconds = false := by subst hr1 hr2 hr3 hr4 hr5 hr6 hr7 hr8; unfold skywaykeep2_AlertSure; exact cond_f h1 (cond_f h2 (cond_t h3 (cond_f h4 (cond_t h5 (rfl)))))
              exact TE.ret [] (.bool false) ⟨by kernel_rfl, by kernel_rfl⟩ (by rw [e]; first | done | kernel_rfl)
            · refine TL.run 15 [] [(17, .int .i64 r4.1), (18, .int .i64 r4.2), (22, .int .i64 r7.1), (23, .int .i64 r7.2), (24, .int .i64 r8.1), (25, .int .i64 r8.2), (105, .bool false), (108, .bool (r4.2 == 0))] rfl ⟨by kernel_rfl, by kernel_rfl⟩ ?_
              refine TL.split 108 (r4.2 == 0) (by kernel_rfl) (fun h6 => ?_) (fun h6 => ?_)
              · refine TL.run 19 [] [(17, .int .i64 r4.1), (18, .int .i64 r4.2), (22, .int .i64 r7.1), (23, .int .i64 r7.2), (24, .int .i64 r8.1), (25, .int .i64 r8.2), (105, .bool false), (112, .bool (r7.2 == 0))] rfl ⟨by kernel_rfl, by kernel_rfl⟩ ?_
                refine TL.split 112 (r7.2 == 0) (by kernel_rfl) (fun h7 => ?_) (fun h7 => ?_)
                · refine TL.run 25 [] [(17, .int .i64 r4.1), (18, .int .i64 r4.2), (23, .int .i64 r7.2), (24, .int .i64 r8.1), (25, .int .i64 r8.2), (118, .bool (decide (r7.1 > r4.1)))] rfl ⟨by kernel_rfl, by kernel_rfl⟩ ?_
                  refine TL.split 118 (decide (r7.1 > r4.1)) (by kernel_rfl) (fun h8 => ?_) (fun h8 => ?_)
                  · refine TL.run 32 [] [(17, .int .i64 r4.1), (18, .int .i64 r4.2), (24, .int .i64 r8.1), (25, .int .i64 r8.2), (125, .bool true)] rfl ⟨by kernel_rfl, by kernel_rfl⟩ ?_
                    refine TL.next rfl ?_
                    refine TC.condT rfl (by kernel_rfl) ?_
                    refine TC.seq ?_
                    refine TC.region ?_
                    refine TL.run 1 [] [(10, .bool false)] rfl ⟨by kernel_rfl, by kernel_rfl⟩ ?_
                    refine TL.next rfl ?_
                    refine TC.ret ?_
                    refine TE.ret_then ?_
                    have e : skywaykeep2_AlertSure a b_ s more seconds = false := by subst hr1 hr2 hr3 hr4 hr5 hr6 hr7 hr8; unfold skywaykeep2_AlertSure; exact cond_f h1 (cond_f h2 (cond_t h3 (cond_f h4 (cond_f h5 (cond_t h6 (cond_t h7 (cond_t h8 (rfl))))))))
                    exact TE.ret [] (.bool false) ⟨by kernel_rfl, by kernel_rfl⟩ (by rw [e]; first | done | kernel_rfl)
                  · refine TL.run 28 [] [(17, .int .i64 r4.1), (18, .int .i64 r4.2), (23, .int .i64 r7.2), (24, .int .i64 r8.1), (25, .int .i64 r8.2), (118, .bool false), (121, .bool (r4.2 == 0))] rfl ⟨by kernel_rfl, by kernel_rfl⟩ ?_
                    refine TL.split 121 (r4.2 == 0) (by kernel_rfl) (fun h9 => ?_) (fun h9 => ?_)
                    · refine TL.run 32 [] [(17, .int .i64 r4.1), (18, .int .i64 r4.2), (24, .int .i64 r8.1), (25, .int .i64 r8.2), (125, .bool (r7.2 == 8))] rfl ⟨by kernel_rfl, by kernel_rfl⟩ ?_
                      refine TL.next rfl ?_
                      refine TC.cond (r7.2 == 8) rfl (by kernel_rfl) (fun h10 => ?_) (fun h10 => ?_)
                      · refine TC.seq ?_
                        refine TC.region ?_
                        refine TL.run 1 [] [(10, .bool false)] rfl ⟨by kernel_rfl, by kernel_rfl⟩ ?_
                        refine TL.next rfl ?_
                        refine TC.ret ?_
                        refine TE.ret_then ?_
                        have e : skywaykeep2_AlertSure a b_ s more seconds = false := by subst hr1 hr2 hr3 hr4 hr5 hr6 hr7 hr8; unfold skywaykeep2_AlertSure; exact cond_f h1 (cond_f h2 (cond_t h3 (cond_f h4 (cond_f h5 (cond_t h6 (cond_t h7 (cond_f h8 (cond_t h9 (cond_t h10 (rfl))))))))))
                        exact TE.ret [] (.bool false) ⟨by kernel_rfl, by kernel_rfl⟩ (by rw [e]; first | done | kernel_rfl)
                      · refine TC.skip ?_
                        refine TE.next ?_
                        refine TC.seq ?_
                        refine TC.region ?_
                        refine TL.run 4 [] [(17, .int .i64 r4.1), (18, .int .i64 r4.2), (24, .int .i64 r8.1), (25, .int .i64 r8.2), (129, .bool (r4.2 == r8.2))] rfl ⟨by kernel_rfl, by kernel_rfl⟩ ?_
                        refine TL.join 129 (r4.2 == r8.2) 7 [] [] (fun β => [(17, .int .i64 r4.1), (18, .int .i64 r4.2), (24, .int .i64 r8.1), (25, .int .i64 r8.2), (132, .bool (β || (r4.2 == 4)))]) (by kernel_rfl) rfl ⟨by kernel_rfl, by kernel_rfl⟩ ⟨by kernel_rfl, by kernel_rfl⟩ ?_
                        refine TL.run 8 [] [(17, .int .i64 r4.1), (18, .int .i64 r4.2), (24, .int .i64 r8.1), (25, .int .i64 r8.2), (133, .bool ((r4.2 == r8.2) || (r4.2 == 4)))] rfl ⟨by kernel_rfl, by kernel_rfl⟩ ?_
                        refine TL.join 133 ((r4.2 == r8.2) || (r4.2 == 4)) 11 [] [] (fun β => [(17, .int .i64 r4.1), (18, .int .i64 r4.2), (24, .int .i64 r8.1), (25, .int .i64 r8.2), (136, .bool (β || (r8.2 == 4)))]) (by kernel_rfl) rfl ⟨by kernel_rfl, by kernel_rfl⟩ ⟨by kernel_rfl, by kernel_rfl⟩ ?_
                        refine TL.run 12 [] [(17, .int .i64 r4.1), (18, .int .i64 r4.2), (24, .int .i64 r8.1), (25, .int .i64 r8.2), (137, .bool (((r4.2 == r8.2) || (r4.2 == 4)) || (r8.2 == 4)))] rfl ⟨by kernel_rfl, by kernel_rfl⟩ ?_
                        refine TL.join 137 (((r4.2 == r8.2) || (r4.2 == 4)) || (r8.2 == 4)) 15 [] [] (fun β => [(17, .int .i64 r4.1), (18, .int .i64 r4.2), (24, .int .i64 r8.1), (25, .int .i64 r8.2), (140, .bool (β || (r4.2 == 1)))]) (by kernel_rfl) rfl ⟨by kernel_rfl, by kernel_rfl⟩ ⟨by kernel_rfl, by kernel_rfl⟩ ?_
                        refine TL.run 16 [] [(17, .int .i64 r4.1), (18, .int .i64 r4.2), (24, .int .i64 r8.1), (25, .int .i64 r8.2), (141, .bool ((((r4.2 == r8.2) || (r4.2 == 4)) || (r8.2 == 4)) || (r4.2 == 1)))] rfl ⟨by kernel_rfl, by kernel_rfl⟩ ?_
                        refine TL.join 141 ((((r4.2 == r8.2) || (r4.2 == 4)) || (r8.2 == 4)) || (r4.2 == 1)) 19 [] [] (fun β => [(17, .int .i64 r4.1), (18, .int .i64 r4.2), (24, .int .i64 r8.1), (144, .bool (β || (r8.2 == 1)))]) (by kernel_rfl) rfl ⟨by kernel_rfl, by kernel_rfl⟩ ⟨by kernel_rfl, by kernel_rfl⟩ ?_
                        refine TL.run 20 [] [(17, .int .i64 r4.1), (18, .int .i64 r4.2), (24, .int .i64 r8.1), (145, .bool (((((r4.2 == r8.2) || (r4.2 == 4)) || (r8.2 == 4)) || (r4.2 == 1)) || (r8.2 == 1)))] rfl ⟨by kernel_rfl, by kernel_rfl⟩ ?_
                        refine TL.split 145 (((((r4.2 == r8.2) || (r4.2 == 4)) || (r8.2 == 4)) || (r4.2 == 1)) || (r8.2 == 1)) (by kernel_rfl) (fun h11 => ?_) (fun h11 => ?_)
                        · refine TL.run 23 [] [(17, .int .i64 r4.1), (24, .int .i64 r8.1), (145, .bool true), (148, .bool (r4.2 != 0))] rfl ⟨by kernel_rfl, by kernel_rfl⟩ ?_
                          refine TL.split 148 (r4.2 != 0) (by kernel_rfl) (fun h12 => ?_) (fun h12 => ?_)
                          · refine TL.run 29 [] [(10, .bool true)] rfl ⟨by kernel_rfl, by kernel_rfl⟩ ?_
                            refine TL.next rfl ?_
                            refine TC.ret ?_
                            have e : skywaykeep2_AlertSure a b_ s more seconds = true := by subst hr1 hr2 hr3 hr4 hr5 hr6 hr7 hr8; unfold skywaykeep2_AlertSure; exact cond_f h1 (cond_f h2 (cond_t h3 (cond_f h4 (cond_f h5 (cond_t h6 (cond_t h7 (cond_f h8 (cond_t h9 (cond_f h10 (cond_t h11 (cond_t h12 (rfl))))))))))))
                            exact TE.ret [] (.bool true) ⟨by kernel_rfl, by kernel_rfl⟩ (by rw [e]; first | done | kernel_rfl)
                          · refine TL.run 29 [] [(10, .bool (r4.1 == r8.1))] rfl ⟨by kernel_rfl, by kernel_rfl⟩ ?_
                            refine TL.next rfl ?_
                            refine TC.ret ?_
                            have e : skywaykeep2_AlertSure a b_ s more seconds = (r4.1 == r8.1) := by subst hr1 hr2 hr3 hr4 hr5 hr6 hr7 hr8; unfold skywaykeep2_AlertSure; exact cond_f h1 (cond_f h2 (cond_t h3 (cond_f h4 (cond_f h5 (cond_t h6 (cond_t h7 (cond_f h8 (cond_t h9 (cond_f h10 (cond_t h11 (cond_f h12 (rfl))))))))))))
                            exact TE.ret [] (.bool (r4.1 == r8.1)) ⟨by kernel_rfl, by kernel_rfl⟩ (by rw [e]; first | done | kernel_rfl)
                        · refine TL.run 29 [] [(10, .bool false)] rfl ⟨by kernel_rfl, by kernel_rfl⟩ ?_
                          refine TL.next rfl ?_
                          refine TC.ret ?_
                          have e : skywaykeep2_AlertSure a b_ s more seconds = false := by subst hr1 hr2 hr3 hr4 hr5 hr6 hr7 hr8; unfold skywaykeep2_AlertSure; exact cond_f h1 (cond_f h2 (cond_t h3 (cond_f h4 (cond_f h5 (cond_t h6 (cond_t h7 (cond_f h8 (cond_t h9 (cond_f h10 (cond_f h11 (rfl)))))))))))
                          exact TE.ret [] (.bool false) ⟨by kernel_rfl, by kernel_rfl⟩ (by rw [e]; first | done | kernel_rfl)
                    · refine TL.run 32 [] [(17, .int .i64 r4.1), (18, .int .i64 r4.2), (24, .int .i64 r8.1), (25, .int .i64 r8.2), (125, .bool false)] rfl ⟨by kernel_rfl, by kernel_rfl⟩ ?_
                      refine TL.next rfl ?_
                      refine TC.condF rfl (by kernel_rfl) ?_
                      refine TC.skip ?_
                      refine TE.next ?_
                      refine TC.seq ?_
                      refine TC.region ?_
                      refine TL.run 4 [] [(17, .int .i64 r4.1), (18, .int .i64 r4.2), (24, .int .i64 r8.1), (25, .int .i64 r8.2), (129, .bool (r4.2 == r8.2))] rfl ⟨by kernel_rfl, by kernel_rfl⟩ ?_
                      refine TL.join 129 (r4.2 == r8.2) 7 [] [] (fun β => [(17, .int .i64 r4.1), (18, .int .i64 r4.2), (24, .int .i64 r8.1), (25, .int .i64 r8.2), (132, .bool (β || (r4.2 == 4)))]) (by kernel_rfl) rfl ⟨by kernel_rfl, by kernel_rfl⟩ ⟨by kernel_rfl, by kernel_rfl⟩ ?_
                      refine TL.run 8 [] [(17, .int .i64 r4.1), (18, .int .i64 r4.2), (24, .int .i64 r8.1), (25, .int .i64 r8.2), (133, .bool ((r4.2 == r8.2) || (r4.2 == 4)))] rfl ⟨by kernel_rfl, by kernel_rfl⟩ ?_
                      refine TL.join 133 ((r4.2 == r8.2) || (r4.2 == 4)) 11 [] [] (fun β => [(17, .int .i64 r4.1), (18, .int .i64 r4.2), (24, .int .i64 r8.1), (25, .int .i64 r8.2), (136, .bool (β || (r8.2 == 4)))]) (by kernel_rfl) rfl ⟨by kernel_rfl, by kernel_rfl⟩ ⟨by kernel_rfl, by kernel_rfl⟩ ?_
                      refine TL.run 12 [] [(17, .int .i64 r4.1), (18, .int .i64 r4.2), (24, .int .i64 r8.1), (25, .int .i64 r8.2), (137, .bool (((r4.2 == r8.2) || (r4.2 == 4)) || (r8.2 == 4)))] rfl ⟨by kernel_rfl, by kernel_rfl⟩ ?_
                      refine TL.join 137 (((r4.2 == r8.2) || (r4.2 == 4)) || (r8.2 == 4)) 15 [] [] (fun β => [(17, .int .i64 r4.1), (18, .int .i64 r4.2), (24, .int .i64 r8.1), (25, .int .i64 r8.2), (140, .bool (β || (r4.2 == 1)))]) (by kernel_rfl) rfl ⟨by kernel_rfl, by kernel_rfl⟩ ⟨by kernel_rfl, by kernel_rfl⟩ ?_
                      refine TL.run 16 [] [(17, .int .i64 r4.1), (18, .int .i64 r4.2), (24, .int .i64 r8.1), (25, .int .i64 r8.2), (141, .bool ((((r4.2 == r8.2) || (r4.2 == 4)) || (r8.2 == 4)) || (r4.2 == 1)))] rfl ⟨by kernel_rfl, by kernel_rfl⟩ ?_
                      refine TL.join 141 ((((r4.2 == r8.2) || (r4.2 == 4)) || (r8.2 == 4)) || (r4.2 == 1)) 19 [] [] (fun β => [(17, .int .i64 r4.1), (18, .int .i64 r4.2), (24, .int .i64 r8.1), (144, .bool (β || (r8.2 == 1)))]) (by kernel_rfl) rfl ⟨by kernel_rfl, by kernel_rfl⟩ ⟨by kernel_rfl, by kernel_rfl⟩ ?_
                      refine TL.run 20 [] [(17, .int .i64 r4.1), (18, .int .i64 r4.2), (24, .int .i64 r8.1), (145, .bool (((((r4.2 == r8.2) || (r4.2 == 4)) || (r8.2 == 4)) || (r4.2 == 1)) || (r8.2 == 1)))] rfl ⟨by kernel_rfl, by kernel_rfl⟩ ?_
                      refine TL.split 145 (((((r4.2 == r8.2) || (r4.2 == 4)) || (r8.2 == 4)) || (r4.2 == 1)) || (r8.2 == 1)) (by kernel_rfl) (fun h13 => ?_) (fun h13 => ?_)
                      · refine TL.run 23 [] [(17, .int .i64 r4.1), (24, .int .i64 r8.1), (145, .bool true), (148, .bool (r4.2 != 0))] rfl ⟨by kernel_rfl, by kernel_rfl⟩ ?_
                        refine TL.split 148 (r4.2 != 0) (by kernel_rfl) (fun h14 => ?_) (fun h14 => ?_)
                        · refine TL.run 29 [] [(10, .bool true)] rfl ⟨by kernel_rfl, by kernel_rfl⟩ ?_
                          refine TL.next rfl ?_
                          refine TC.ret ?_
                          have e : skywaykeep2_AlertSure a b_ s more seconds = true := by subst hr1 hr2 hr3 hr4 hr5 hr6 hr7 hr8; unfold skywaykeep2_AlertSure; exact cond_f h1 (cond_f h2 (cond_t h3 (cond_f h4 (cond_f h5 (cond_t h6 (cond_t h7 (cond_f h8 (cond_f h9 (cond_t h13 (cond_t h14 (rfl)))))))))))
                          exact TE.ret [] (.bool true) ⟨by kernel_rfl, by kernel_rfl⟩ (by rw [e]; first | done | kernel_rfl)
                        · refine TL.run 29 [] [(10, .bool (r4.1 == r8.1))] rfl ⟨by kernel_rfl, by kernel_rfl⟩ ?_
                          refine TL.next rfl ?_
                          refine TC.ret ?_
                          have e : skywaykeep2_AlertSure a b_ s more seconds = (r4.1 == r8.1) := by subst hr1 hr2 hr3 hr4 hr5 hr6 hr7 hr8; unfold skywaykeep2_AlertSure; exact cond_f h1 (cond_f h2 (cond_t h3 (cond_f h4 (cond_f h5 (cond_t h6 (cond_t h7 (cond_f h8 (cond_f h9 (cond_t h13 (cond_f h14 (rfl)))))))))))
                          exact TE.ret [] (.bool (r4.1 == r8.1)) ⟨by kernel_rfl, by kernel_rfl⟩ (by rw [e]; first | done | kernel_rfl)
                      · refine TL.run 29 [] [(10, .bool false)] rfl ⟨by kernel_rfl, by kernel_rfl⟩ ?_
                        refine TL.next rfl ?_
                        refine TC.ret ?_
                        have e : skywaykeep2_AlertSure a b_ s more seconds = false := by subst hr1 hr2 hr3 hr4 hr5 hr6 hr7 hr8; unfold skywaykeep2_AlertSure; exact cond_f h1 (cond_f h2 (cond_t h3 (cond_f h4 (cond_f h5 (cond_t h6 (cond_t h7 (cond_f h8 (cond_f h9 (cond_f h13 (rfl))))))))))
                        exact TE.ret [] (.bool false) ⟨by kernel_rfl, by kernel_rfl⟩ (by rw [e]; first | done | kernel_rfl)
                · refine TL.run 28 [] [(17, .int .i64 r4.1), (18, .int .i64 r4.2), (23, .int .i64 r7.2), (24, .int .i64 r8.1), (25, .int .i64 r8.2), (118, .bool false), (121, .bool (r4.2 == 0))] rfl ⟨by kernel_rfl, by kernel_rfl⟩ ?_
                  refine TL.split 121 (r4.2 == 0) (by kernel_rfl) (fun h15 => ?_) (fun h15 => ?_)
                  · refine TL.run 32 [] [(17, .int .i64 r4.1), (18, .int .i64 r4.2), (24, .int .i64 r8.1), (25, .int .i64 r8.2), (125, .bool (r7.2 == 8))] rfl ⟨by kernel_rfl, by kernel_rfl⟩ ?_
                    refine TL.next rfl ?_
                    refine TC.cond (r7.2 == 8) rfl (by kernel_rfl) (fun h16 => ?_) (fun h16 => ?_)
                    · refine TC.seq ?_
                      refine TC.region ?_
                      refine TL.run 1 [] [(10, .bool false)] rfl ⟨by kernel_rfl, by kernel_rfl⟩ ?_
                      refine TL.next rfl ?_
                      refine TC.ret ?_
                      refine TE.ret_then ?_
                      have e : skywaykeep2_AlertSure a b_ s more seconds = false := by subst hr1 hr2 hr3 hr4 hr5 hr6 hr7 hr8; unfold skywaykeep2_AlertSure; exact cond_f h1 (cond_f h2 (cond_t h3 (cond_f h4 (cond_f h5 (cond_t h6 (cond_f h7 (cond_t h15 (cond_t h16 (rfl)))))))))
                      exact TE.ret [] (.bool false) ⟨by kernel_rfl, by kernel_rfl⟩ (by rw [e]; first | done | kernel_rfl)
                    · refine TC.skip ?_
                      refine TE.next ?_
                      refine TC.seq ?_
                      refine TC.region ?_
                      refine TL.run 4 [] [(17, .int .i64 r4.1), (18, .int .i64 r4.2), (24, .int .i64 r8.1), (25, .int .i64 r8.2), (129, .bool (r4.2 == r8.2))] rfl ⟨by kernel_rfl, by kernel_rfl⟩ ?_
                      refine TL.join 129 (r4.2 == r8.2) 7 [] [] (fun β => [(17, .int .i64 r4.1), (18, .int .i64 r4.2), (24, .int .i64 r8.1), (25, .int .i64 r8.2), (132, .bool (β || (r4.2 == 4)))]) (by kernel_rfl) rfl ⟨by kernel_rfl, by kernel_rfl⟩ ⟨by kernel_rfl, by kernel_rfl⟩ ?_
                      refine TL.run 8 [] [(17, .int .i64 r4.1), (18, .int .i64 r4.2), (24, .int .i64 r8.1), (25, .int .i64 r8.2), (133, .bool ((r4.2 == r8.2) || (r4.2 == 4)))] rfl ⟨by kernel_rfl, by kernel_rfl⟩ ?_
                      refine TL.join 133 ((r4.2 == r8.2) || (r4.2 == 4)) 11 [] [] (fun β => [(17, .int .i64 r4.1), (18, .int .i64 r4.2), (24, .int .i64 r8.1), (25, .int .i64 r8.2), (136, .bool (β || (r8.2 == 4)))]) (by kernel_rfl) rfl ⟨by kernel_rfl, by kernel_rfl⟩ ⟨by kernel_rfl, by kernel_rfl⟩ ?_
                      refine TL.run 12 [] [(17, .int .i64 r4.1), (18, .int .i64 r4.2), (24, .int .i64 r8.1), (25, .int .i64 r8.2), (137, .bool (((r4.2 == r8.2) || (r4.2 == 4)) || (r8.2 == 4)))] rfl ⟨by kernel_rfl, by kernel_rfl⟩ ?_
                      refine TL.join 137 (((r4.2 == r8.2) || (r4.2 == 4)) || (r8.2 == 4)) 15 [] [] (fun β => [(17, .int .i64 r4.1), (18, .int .i64 r4.2), (24, .int .i64 r8.1), (25, .int .i64 r8.2), (140, .bool (β || (r4.2 == 1)))]) (by kernel_rfl) rfl ⟨by kernel_rfl, by kernel_rfl⟩ ⟨by kernel_rfl, by kernel_rfl⟩ ?_
                      refine TL.run 16 [] [(17, .int .i64 r4.1), (18, .int .i64 r4.2), (24, .int .i64 r8.1), (25, .int .i64 r8.2), (141, .bool ((((r4.2 == r8.2) || (r4.2 == 4)) || (r8.2 == 4)) || (r4.2 == 1)))] rfl ⟨by kernel_rfl, by kernel_rfl⟩ ?_
                      refine TL.join 141 ((((r4.2 == r8.2) || (r4.2 == 4)) || (r8.2 == 4)) || (r4.2 == 1)) 19 [] [] (fun β => [(17, .int .i64 r4.1), (18, .int .i64 r4.2), (24, .int .i64 r8.1), (144, .bool (β || (r8.2 == 1)))]) (by kernel_rfl) rfl ⟨by kernel_rfl, by kernel_rfl⟩ ⟨by kernel_rfl, by kernel_rfl⟩ ?_
                      refine TL.run 20 [] [(17, .int .i64 r4.1), (18, .int .i64 r4.2), (24, .int .i64 r8.1), (145, .bool (((((r4.2 == r8.2) || (r4.2 == 4)) || (r8.2 == 4)) || (r4.2 == 1)) || (r8.2 == 1)))] rfl ⟨by kernel_rfl, by kernel_rfl⟩ ?_
                      refine TL.split 145 (((((r4.2 == r8.2) || (r4.2 == 4)) || (r8.2 == 4)) || (r4.2 == 1)) || (r8.2 == 1)) (by kernel_rfl) (fun h17 => ?_) (fun h17 => ?_)
                      · refine TL.run 23 [] [(17, .int .i64 r4.1), (24, .int .i64 r8.1), (145, .bool true), (148, .bool (r4.2 != 0))] rfl ⟨by kernel_rfl, by kernel_rfl⟩ ?_
                        refine TL.split 148 (r4.2 != 0) (by kernel_rfl) (fun h18 => ?_) (fun h18 => ?_)
                        · refine TL.run 29 [] [(10, .bool true)] rfl ⟨by kernel_rfl, by kernel_rfl⟩ ?_
                          refine TL.next rfl ?_
                          refine TC.ret ?_
                          have e : skywaykeep2_AlertSure a b_ s more seconds = true := by subst hr1 hr2 hr3 hr4 hr5 hr6 hr7 hr8; unfold skywaykeep2_AlertSure; exact cond_f h1 (cond_f h2 (cond_t h3 (cond_f h4 (cond_f h5 (cond_t h6 (cond_f h7 (cond_t h15 (cond_f h16 (cond_t h17 (cond_t h18 (rfl)))))))))))
                          exact TE.ret [] (.bool true) ⟨by kernel_rfl, by kernel_rfl⟩ (by rw [e]; first | done | kernel_rfl)
                        · refine TL.run 29 [] [(10, .bool (r4.1 == r8.1))] rfl ⟨by kernel_rfl, by kernel_rfl⟩ ?_
                          refine TL.next rfl ?_
                          refine TC.ret ?_
                          have e : skywaykeep2_AlertSure a b_ s more seconds = (r4.1 == r8.1) := by subst hr1 hr2 hr3 hr4 hr5 hr6 hr7 hr8; unfold skywaykeep2_AlertSure; exact cond_f h1 (cond_f h2 (cond_t h3 (cond_f h4 (cond_f h5 (cond_t h6 (cond_f h7 (cond_t h15 (cond_f h16 (cond_t h17 (cond_f h18 (rfl)))))))))))
                          exact TE.ret [] (.bool (r4.1 == r8.1)) ⟨by kernel_rfl, by kernel_rfl⟩ (by rw [e]; first | done | kernel_rfl)
                      · refine TL.run 29 [] [(10, .bool false)] rfl ⟨by kernel_rfl, by kernel_rfl⟩ ?_
                        refine TL.next rfl ?_
                        refine TC.ret ?_
                        have e : skywaykeep2_AlertSure a b_ s more seconds = false := by subst hr1 hr2 hr3 hr4 hr5 hr6 hr7 hr8; unfold skywaykeep2_AlertSure; exact cond_f h1 (cond_f h2 (cond_t h3 (cond_f h4 (cond_f h5 (cond_t h6 (cond_f h7 (cond_t h15 (cond_f h16 (cond_f h17 (rfl))))))))))
                        exact TE.ret [] (.bool false) ⟨by kernel_rfl, by kernel_rfl⟩ (by rw [e]; first | done | kernel_rfl)
                  · refine TL.run 32 [] [(17, .int .i64 r4.1), (18, .int .i64 r4.2), (24, .int .i64 r8.1), (25, .int .i64 r8.2), (125, .bool false)] rfl ⟨by kernel_rfl, by kernel_rfl⟩ ?_
                    refine TL.next rfl ?_
                    refine TC.condF rfl (by kernel_rfl) ?_
                    refine TC.skip ?_
                    refine TE.next ?_
                    refine TC.seq ?_
                    refine TC.region ?_
                    refine TL.run 4 [] [(17, .int .i64 r4.1), (18, .int .i64 r4.2), (24, .int .i64 r8.1), (25, .int .i64 r8.2), (129, .bool (r4.2 == r8.2))] rfl ⟨by kernel_rfl, by kernel_rfl⟩ ?_
                    refine TL.join 129 (r4.2 == r8.2) 7 [] [] (fun β => [(17, .int .i64 r4.1), (18, .int .i64 r4.2), (24, .int .i64 r8.1), (25, .int .i64 r8.2), (132, .bool (β || (r4.2 == 4)))]) (by kernel_rfl) rfl ⟨by kernel_rfl, by kernel_rfl⟩ ⟨by kernel_rfl, by kernel_rfl⟩ ?_
                    refine TL.run 8 [] [(17, .int .i64 r4.1), (18, .int .i64 r4.2), (24, .int .i64 r8.1), (25, .int .i64 r8.2), (133, .bool ((r4.2 == r8.2) || (r4.2 == 4)))] rfl ⟨by kernel_rfl, by kernel_rfl⟩ ?_
                    refine TL.join 133 ((r4.2 == r8.2) || (r4.2 == 4)) 11 [] [] (fun β => [(17, .int .i64 r4.1), (18, .int .i64 r4.2), (24, .int .i64 r8.1), (25, .int .i64 r8.2), (136, .bool (β || (r8.2 == 4)))]) (by kernel_rfl) rfl ⟨by kernel_rfl, by kernel_rfl⟩ ⟨by kernel_rfl, by kernel_rfl⟩ ?_
                    refine TL.run 12 [] [(17, .int .i64 r4.1), (18, .int .i64 r4.2), (24, .int .i64 r8.1), (25, .int .i64 r8.2), (137, .bool (((r4.2 == r8.2) || (r4.2 == 4)) || (r8.2 == 4)))] rfl ⟨by kernel_rfl, by kernel_rfl⟩ ?_
                    refine TL.join 137 (((r4.2 == r8.2) || (r4.2 == 4)) || (r8.2 == 4)) 15 [] [] (fun β => [(17, .int .i64 r4.1), (18, .int .i64 r4.2), (24, .int .i64 r8.1), (25, .int .i64 r8.2), (140, .bool (β || (r4.2 == 1)))]) (by kernel_rfl) rfl ⟨by kernel_rfl, by kernel_rfl⟩ ⟨by kernel_rfl, by kernel_rfl⟩ ?_
                    refine TL.run 16 [] [(17, .int .i64 r4.1), (18, .int .i64 r4.2), (24, .int .i64 r8.1), (25, .int .i64 r8.2), (141, .bool ((((r4.2 == r8.2) || (r4.2 == 4)) || (r8.2 == 4)) || (r4.2 == 1)))] rfl ⟨by kernel_rfl, by kernel_rfl⟩ ?_
                    refine TL.join 141 ((((r4.2 == r8.2) || (r4.2 == 4)) || (r8.2 == 4)) || (r4.2 == 1)) 19 [] [] (fun β => [(17, .int .i64 r4.1), (18, .int .i64 r4.2), (24, .int .i64 r8.1), (144, .bool (β || (r8.2 == 1)))]) (by kernel_rfl) rfl ⟨by kernel_rfl, by kernel_rfl⟩ ⟨by kernel_rfl, by kernel_rfl⟩ ?_
                    refine TL.run 20 [] [(17, .int .i64 r4.1), (18, .int .i64 r4.2), (24, .int .i64 r8.1), (145, .bool (((((r4.2 == r8.2) || (r4.2 == 4)) || (r8.2 == 4)) || (r4.2 == 1)) || (r8.2 == 1)))] rfl ⟨by kernel_rfl, by kernel_rfl⟩ ?_
                    refine TL.split 145 (((((r4.2 == r8.2) || (r4.2 == 4)) || (r8.2 == 4)) || (r4.2 == 1)) || (r8.2 == 1)) (by kernel_rfl) (fun h19 => ?_) (fun h19 => ?_)
                    · refine TL.run 23 [] [(17, .int .i64 r4.1), (24, .int .i64 r8.1), (145, .bool true), (148, .bool (r4.2 != 0))] rfl ⟨by kernel_rfl, by kernel_rfl⟩ ?_
                      refine TL.split 148 (r4.2 != 0) (by kernel_rfl) (fun h20 => ?_) (fun h20 => ?_)
                      · refine TL.run 29 [] [(10, .bool true)] rfl ⟨by kernel_rfl, by kernel_rfl⟩ ?_
                        refine TL.next rfl ?_
                        refine TC.ret ?_
                        have e : skywaykeep2_AlertSure a b_ s more seconds = true := by subst hr1 hr2 hr3 hr4 hr5 hr6 hr7 hr8; unfold skywaykeep2_AlertSure; exact cond_f h1 (cond_f h2 (cond_t h3 (cond_f h4 (cond_f h5 (cond_t h6 (cond_f h7 (cond_f h15 (cond_t h19 (cond_t h20 (rfl))))))))))
                        exact TE.ret [] (.bool true) ⟨by kernel_rfl, by kernel_rfl⟩ (by rw [e]; first | done | kernel_rfl)
                      · refine TL.run 29 [] [(10, .bool (r4.1 == r8.1))] rfl ⟨by kernel_rfl, by kernel_rfl⟩ ?_
                        refine TL.next rfl ?_
                        refine TC.ret ?_
                        have e : skywaykeep2_AlertSure a b_ s more seconds = (r4.1 == r8.1) := by subst hr1 hr2 hr3 hr4 hr5 hr6 hr7 hr8; unfold skywaykeep2_AlertSure; exact cond_f h1 (cond_f h2 (cond_t h3 (cond_f h4 (cond_f h5 (cond_t h6 (cond_f h7 (cond_f h15 (cond_t h19 (cond_f h20 (rfl))))))))))
                        exact TE.ret [] (.bool (r4.1 == r8.1)) ⟨by kernel_rfl, by kernel_rfl⟩ (by rw [e]; first | done | kernel_rfl)
                    · refine TL.run 29 [] [(10, .bool false)] rfl ⟨by kernel_rfl, by kernel_rfl⟩ ?_
                      refine TL.next rfl ?_
                      refine TC.ret ?_
                      have e : skywaykeep2_AlertSure a b_ s more seconds = false := by subst hr1 hr2 hr3 hr4 hr5 hr6 hr7 hr8; unfold skywaykeep2_AlertSure; exact cond_f h1 (cond_f h2 (cond_t h3 (cond_f h4 (cond_f h5 (cond_t h6 (cond_f h7 (cond_f h15 (cond_f h19 (rfl)))))))))
                      exact TE.ret [] (.bool false) ⟨by kernel_rfl, by kernel_rfl⟩ (by rw [e]; first | done | kernel_rfl)
              · refine TL.run 28 [] [(17, .int .i64 r4.1), (18, .int .i64 r4.2), (23, .int .i64 r7.2), (24, .int .i64 r8.1), (25, .int .i64 r8.2), (118, .bool false), (121, .bool (r4.2 == 0))] rfl ⟨by kernel_rfl, by kernel_rfl⟩ ?_
                refine TL.split 121 (r4.2 == 0) (by kernel_rfl) (fun h21 => ?_) (fun h21 => ?_)
                · refine TL.run 32 [] [(17, .int .i64 r4.1), (18, .int .i64 r4.2), (24, .int .i64 r8.1), (25, .int .i64 r8.2), (125, .bool (r7.2 == 8))] rfl ⟨by kernel_rfl, by kernel_rfl⟩ ?_
                  refine TL.next rfl ?_
                  refine TC.cond (r7.2 == 8) rfl (by kernel_rfl) (fun h22 => ?_) (fun h22 => ?_)
                  · refine TC.seq ?_
                    refine TC.region ?_
                    refine TL.run 1 [] [(10, .bool false)] rfl ⟨by kernel_rfl, by kernel_rfl⟩ ?_
                    refine TL.next rfl ?_
                    refine TC.ret ?_
                    refine TE.ret_then ?_
                    have e : skywaykeep2_AlertSure a b_ s more seconds = false := by subst hr1 hr2 hr3 hr4 hr5 hr6 hr7 hr8; unfold skywaykeep2_AlertSure; exact cond_f h1 (cond_f h2 (cond_t h3 (cond_f h4 (cond_f h5 (cond_f h6 (cond_t h21 (cond_t h22 (rfl))))))))
                    exact TE.ret [] (.bool false) ⟨by kernel_rfl, by kernel_rfl⟩ (by rw [e]; first | done | kernel_rfl)
                  · refine TC.skip ?_
                    refine TE.next ?_
                    refine TC.seq ?_
                    refine TC.region ?_
                    refine TL.run 4 [] [(17, .int .i64 r4.1), (18, .int .i64 r4.2), (24, .int .i64 r8.1), (25, .int .i64 r8.2), (129, .bool (r4.2 == r8.2))] rfl ⟨by kernel_rfl, by kernel_rfl⟩ ?_
                    refine TL.join 129 (r4.2 == r8.2) 7 [] [] (fun β => [(17, .int .i64 r4.1), (18, .int .i64 r4.2), (24, .int .i64 r8.1), (25, .int .i64 r8.2), (132, .bool (β || (r4.2 == 4)))]) (by kernel_rfl) rfl ⟨by kernel_rfl, by kernel_rfl⟩ ⟨by kernel_rfl, by kernel_rfl⟩ ?_
                    refine TL.run 8 [] [(17, .int .i64 r4.1), (18, .int .i64 r4.2), (24, .int .i64 r8.1), (25, .int .i64 r8.2), (133, .bool ((r4.2 == r8.2) || (r4.2 == 4)))] rfl ⟨by kernel_rfl, by kernel_rfl⟩ ?_
                    refine TL.join 133 ((r4.2 == r8.2) || (r4.2 == 4)) 11 [] [] (fun β => [(17, .int .i64 r4.1), (18, .int .i64 r4.2), (24, .int .i64 r8.1), (25, .int .i64 r8.2), (136, .bool (β || (r8.2 == 4)))]) (by kernel_rfl) rfl ⟨by kernel_rfl, by kernel_rfl⟩ ⟨by kernel_rfl, by kernel_rfl⟩ ?_
                    refine TL.run 12 [] [(17, .int .i64 r4.1), (18, .int .i64 r4.2), (24, .int .i64 r8.1), (25, .int .i64 r8.2), (137, .bool (((r4.2 == r8.2) || (r4.2 == 4)) || (r8.2 == 4)))] rfl ⟨by kernel_rfl, by kernel_rfl⟩ ?_
                    refine TL.join 137 (((r4.2 == r8.2) || (r4.2 == 4)) || (r8.2 == 4)) 15 [] [] (fun β => [(17, .int .i64 r4.1), (18, .int .i64 r4.2), (24, .int .i64 r8.1), (25, .int .i64 r8.2), (140, .bool (β || (r4.2 == 1)))]) (by kernel_rfl) rfl ⟨by kernel_rfl, by kernel_rfl⟩ ⟨by kernel_rfl, by kernel_rfl⟩ ?_
                    refine TL.run 16 [] [(17, .int .i64 r4.1), (18, .int .i64 r4.2), (24, .int .i64 r8.1), (25, .int .i64 r8.2), (141, .bool ((((r4.2 == r8.2) || (r4.2 == 4)) || (r8.2 == 4)) || (r4.2 == 1)))] rfl ⟨by kernel_rfl, by kernel_rfl⟩ ?_
                    refine TL.join 141 ((((r4.2 == r8.2) || (r4.2 == 4)) || (r8.2 == 4)) || (r4.2 == 1)) 19 [] [] (fun β => [(17, .int .i64 r4.1), (18, .int .i64 r4.2), (24, .int .i64 r8.1), (144, .bool (β || (r8.2 == 1)))]) (by kernel_rfl) rfl ⟨by kernel_rfl, by kernel_rfl⟩ ⟨by kernel_rfl, by kernel_rfl⟩ ?_
                    refine TL.run 20 [] [(17, .int .i64 r4.1), (18, .int .i64 r4.2), (24, .int .i64 r8.1), (145, .bool (((((r4.2 == r8.2) || (r4.2 == 4)) || (r8.2 == 4)) || (r4.2 == 1)) || (r8.2 == 1)))] rfl ⟨by kernel_rfl, by kernel_rfl⟩ ?_
                    refine TL.split 145 (((((r4.2 == r8.2) || (r4.2 == 4)) || (r8.2 == 4)) || (r4.2 == 1)) || (r8.2 == 1)) (by kernel_rfl) (fun h23 => ?_) (fun h23 => ?_)
                    · refine TL.run 23 [] [(17, .int .i64 r4.1), (24, .int .i64 r8.1), (145, .bool true), (148, .bool (r4.2 != 0))] rfl ⟨by kernel_rfl, by kernel_rfl⟩ ?_
                      refine TL.split 148 (r4.2 != 0) (by kernel_rfl) (fun h24 => ?_) (fun h24 => ?_)
                      · refine TL.run 29 [] [(10, .bool true)] rfl ⟨by kernel_rfl, by kernel_rfl⟩ ?_
                        refine TL.next rfl ?_
                        refine TC.ret ?_
                        have e : skywaykeep2_AlertSure a b_ s more seconds = true := by subst hr1 hr2 hr3 hr4 hr5 hr6 hr7 hr8; unfold skywaykeep2_AlertSure; exact cond_f h1 (cond_f h2 (cond_t h3 (cond_f h4 (cond_f h5 (cond_f h6 (cond_t h21 (cond_f h22 (cond_t h23 (cond_t h24 (rfl))))))))))
                        exact TE.ret [] (.bool true) ⟨by kernel_rfl, by kernel_rfl⟩ (by rw [e]; first | done | kernel_rfl)
                      · refine TL.run 29 [] [(10, .bool (r4.1 == r8.1))] rfl ⟨by kernel_rfl, by kernel_rfl⟩ ?_
                        refine TL.next rfl ?_
                        refine TC.ret ?_
                        have e : skywaykeep2_AlertSure a b_ s more seconds = (r4.1 == r8.1) := by subst hr1 hr2 hr3 hr4 hr5 hr6 hr7 hr8; unfold skywaykeep2_AlertSure; exact cond_f h1 (cond_f h2 (cond_t h3 (cond_f h4 (cond_f h5 (cond_f h6 (cond_t h21 (cond_f h22 (cond_t h23 (cond_f h24 (rfl))))))))))
                        exact TE.ret [] (.bool (r4.1 == r8.1)) ⟨by kernel_rfl, by kernel_rfl⟩ (by rw [e]; first | done | kernel_rfl)
                    · refine TL.run 29 [] [(10, .bool false)] rfl ⟨by kernel_rfl, by kernel_rfl⟩ ?_
                      refine TL.next rfl ?_
                      refine TC.ret ?_
                      have e : skywaykeep2_AlertSure a b_ s more seconds = false := by subst hr1 hr2 hr3 hr4 hr5 hr6 hr7 hr8; unfold skywaykeep2_AlertSure; exact cond_f h1 (cond_f h2 (cond_t h3 (cond_f h4 (cond_f h5 (cond_f h6 (cond_t h21 (cond_f h22 (cond_f h23 (rfl)))))))))
                      exact TE.ret [] (.bool false) ⟨by kernel_rfl, by kernel_rfl⟩ (by rw [e]; first | done | kernel_rfl)
                · refine TL.run 32 [] [(17, .int .i64 r4.1), (18, .int .i64 r4.2), (24, .int .i64 r8.1), (25, .int .i64 r8.2), (125, .bool false)] rfl ⟨by kernel_rfl, by kernel_rfl⟩ ?_
                  refine TL.next rfl ?_
                  refine TC.condF rfl (by kernel_rfl) ?_
                  refine TC.skip ?_
                  refine TE.next ?_
                  refine TC.seq ?_
                  refine TC.region ?_
                  refine TL.run 4 [] [(17, .int .i64 r4.1), (18, .int .i64 r4.2), (24, .int .i64 r8.1), (25, .int .i64 r8.2), (129, .bool (r4.2 == r8.2))] rfl ⟨by kernel_rfl, by kernel_rfl⟩ ?_
                  refine TL.join 129 (r4.2 == r8.2) 7 [] [] (fun β => [(17, .int .i64 r4.1), (18, .int .i64 r4.2), (24, .int .i64 r8.1), (25, .int .i64 r8.2), (132, .bool (β || (r4.2 == 4)))]) (by kernel_rfl) rfl ⟨by kernel_rfl, by kernel_rfl⟩ ⟨by kernel_rfl, by kernel_rfl⟩ ?_
                  refine TL.run 8 [] [(17, .int .i64 r4.1), (18, .int .i64 r4.2), (24, .int .i64 r8.1), (25, .int .i64 r8.2), (133, .bool ((r4.2 == r8.2) || (r4.2 == 4)))] rfl ⟨by kernel_rfl, by kernel_rfl⟩ ?_
                  refine TL.join 133 ((r4.2 == r8.2) || (r4.2 == 4)) 11 [] [] (fun β => [(17, .int .i64 r4.1), (18, .int .i64 r4.2), (24, .int .i64 r8.1), (25, .int .i64 r8.2), (136, .bool (β || (r8.2 == 4)))]) (by kernel_rfl) rfl ⟨by kernel_rfl, by kernel_rfl⟩ ⟨by kernel_rfl, by kernel_rfl⟩ ?_
                  refine TL.run 12 [] [(17, .int .i64 r4.1), (18, .int .i64 r4.2), (24, .int .i64 r8.1), (25, .int .i64 r8.2), (137, .bool (((r4.2 == r8.2) || (r4.2 == 4)) || (r8.2 == 4)))] rfl ⟨by kernel_rfl, by kernel_rfl⟩ ?_
                  refine TL.join 137 (((r4.2 == r8.2) || (r4.2 == 4)) || (r8.2 == 4)) 15 [] [] (fun β => [(17, .int .i64 r4.1), (18, .int .i64 r4.2), (24, .int .i64 r8.1), (25, .int .i64 r8.2), (140, .bool (β || (r4.2 == 1)))]) (by kernel_rfl) rfl ⟨by kernel_rfl, by kernel_rfl⟩ ⟨by kernel_rfl, by kernel_rfl⟩ ?_
                  refine TL.run 16 [] [(17, .int .i64 r4.1), (18, .int .i64 r4.2), (24, .int .i64 r8.1), (25, .int .i64 r8.2), (141, .bool ((((r4.2 == r8.2) || (r4.2 == 4)) || (r8.2 == 4)) || (r4.2 == 1)))] rfl ⟨by kernel_rfl, by kernel_rfl⟩ ?_
                  refine TL.join 141 ((((r4.2 == r8.2) || (r4.2 == 4)) || (r8.2 == 4)) || (r4.2 == 1)) 19 [] [] (fun β => [(17, .int .i64 r4.1), (18, .int .i64 r4.2), (24, .int .i64 r8.1), (144, .bool (β || (r8.2 == 1)))]) (by kernel_rfl) rfl ⟨by kernel_rfl, by kernel_rfl⟩ ⟨by kernel_rfl, by kernel_rfl⟩ ?_
                  refine TL.run 20 [] [(17, .int .i64 r4.1), (18, .int .i64 r4.2), (24, .int .i64 r8.1), (145, .bool (((((r4.2 == r8.2) || (r4.2 == 4)) || (r8.2 == 4)) || (r4.2 == 1)) || (r8.2 == 1)))] rfl ⟨by kernel_rfl, by kernel_rfl⟩ ?_
                  refine TL.split 145 (((((r4.2 == r8.2) || (r4.2 == 4)) || (r8.2 == 4)) || (r4.2 == 1)) || (r8.2 == 1)) (by kernel_rfl) (fun h25 => ?_) (fun h25 => ?_)
                  · refine TL.run 23 [] [(17, .int .i64 r4.1), (24, .int .i64 r8.1), (145, .bool true), (148, .bool (r4.2 != 0))] rfl ⟨by kernel_rfl, by kernel_rfl⟩ ?_
                    refine TL.split 148 (r4.2 != 0) (by kernel_rfl) (fun h26 => ?_) (fun h26 => ?_)
                    · refine TL.run 29 [] [(10, .bool true)] rfl ⟨by kernel_rfl, by kernel_rfl⟩ ?_
                      refine TL.next rfl ?_
                      refine TC.ret ?_
                      have e : skywaykeep2_AlertSure a b_ s more seconds = true := by subst hr1 hr2 hr3 hr4 hr5 hr6 hr7 hr8; unfold skywaykeep2_AlertSure; exact cond_f h1 (cond_f h2 (cond_t h3 (cond_f h4 (cond_f h5 (cond_f h6 (cond_f h21 (cond_t h25 (cond_t h26 (rfl)))))))))
                      exact TE.ret [] (.bool true) ⟨by kernel_rfl, by kernel_rfl⟩ (by rw [e]; first | done | kernel_rfl)
                    · refine TL.run 29 [] [(10, .bool (r4.1 == r8.1))] rfl ⟨by kernel_rfl, by kernel_rfl⟩ ?_
                      refine TL.next rfl ?_
                      refine TC.ret ?_
                      have e : skywaykeep2_AlertSure a b_ s more seconds = (r4.1 == r8.1) := by subst hr1 hr2 hr3 hr4 hr5 hr6 hr7 hr8; unfold skywaykeep2_AlertSure; exact cond_f h1 (cond_f h2 (cond_t h3 (cond_f h4 (cond_f h5 (cond_f h6 (cond_f h21 (cond_t h25 (cond_f h26 (rfl)))))))))
                      exact TE.ret [] (.bool (r4.1 == r8.1)) ⟨by kernel_rfl, by kernel_rfl⟩ (by rw [e]; first | done | kernel_rfl)
                  · refine TL.run 29 [] [(10, .bool false)] rfl ⟨by kernel_rfl, by kernel_rfl⟩ ?_
                    refine TL.next rfl ?_
                    refine TC.ret ?_
                    have e : skywaykeep2_AlertSure a b_ s more seconds = false := by subst hr1 hr2 hr3 hr4 hr5 hr6 hr7 hr8; unfold skywaykeep2_AlertSure; exact cond_f h1 (cond_f h2 (cond_t h3 (cond_f h4 (cond_f h5 (cond_f h6 (cond_f h21 (cond_f h25 (rfl))))))))
                    exact TE.ret [] (.bool false) ⟨by kernel_rfl, by kernel_rfl⟩ (by rw [e]; first | done | kernel_rfl)
        · refine TL.run 15 [] [(17, .int .i64 r4.1), (18, .int .i64 r4.2), (22, .int .i64 r7.1), (23, .int .i64 r7.2), (24, .int .i64 r8.1), (25, .int .i64 r8.2), (105, .bool false), (108, .bool (r4.2 == 0))] rfl ⟨by kernel_rfl, by kernel_rfl⟩ ?_
          refine TL.split 108 (r4.2 == 0) (by kernel_rfl) (fun h27 => ?_) (fun h27 => ?_)
          · refine TL.run 19 [] [(17, .int .i64 r4.1), (18, .int .i64 r4.2), (22, .int .i64 r7.1), (23, .int .i64 r7.2), (24, .int .i64 r8.1), (25, .int .i64 r8.2), (105, .bool false), (112, .bool (r7.2 == 0))] rfl ⟨by kernel_rfl, by kernel_rfl⟩ ?_
            refine TL.split 112 (r7.2 == 0) (by kernel_rfl) (fun h28 => ?_) (fun h28 => ?_)
            · refine TL.run 25 [] [(17, .int .i64 r4.1), (18, .int .i64 r4.2), (23, .int .i64 r7.2), (24, .int .i64 r8.1), (25, .int .i64 r8.2), (118, .bool (decide (r7.1 > r4.1)))] rfl ⟨by kernel_rfl, by kernel_rfl⟩ ?_
              refine TL.split 118 (decide (r7.1 > r4.1)) (by kernel_rfl) (fun h29 => ?_) (fun h29 => ?_)
              · refine TL.run 32 [] [(17, .int .i64 r4.1), (18, .int .i64 r4.2), (24, .int .i64 r8.1), (25, .int .i64 r8.2), (125, .bool true)] rfl ⟨by kernel_rfl, by kernel_rfl⟩ ?_
                refine TL.next rfl ?_
                refine TC.condT rfl (by kernel_rfl) ?_
                refine TC.seq ?_
                refine TC.region ?_
                refine TL.run 1 [] [(10, .bool false)] rfl ⟨by kernel_rfl, by kernel_rfl⟩ ?_
                refine TL.next rfl ?_
                refine TC.ret ?_
                refine TE.ret_then ?_
                have e : skywaykeep2_AlertSure a b_ s more seconds = false := by subst hr1 hr2 hr3 hr4 hr5 hr6 hr7 hr8; unfold skywaykeep2_AlertSure; exact cond_f h1 (cond_f h2 (cond_f h3 (cond_t h27 (cond_t h28 (cond_t h29 (rfl))))))
                exact TE.ret [] (.bool false) ⟨by kernel_rfl, by kernel_rfl⟩ (by rw [e]; first | done | kernel_rfl)
              · refine TL.run 28 [] [(17, .int .i64 r4.1), (18, .int .i64 r4.2), (23, .int .i64 r7.2), (24, .int .i64 r8.1), (25, .int .i64 r8.2), (118, .bool false), (121, .bool (r4.2 == 0))] rfl ⟨by kernel_rfl, by kernel_rfl⟩ ?_
                refine TL.split 121 (r4.2 == 0) (by kernel_rfl) (fun h30 => ?_) (fun h30 => ?_)
                · refine TL.run 32 [] [(17, .int .i64 r4.1), (18, .int .i64 r4.2), (24, .int .i64 r8.1), (25, .int .i64 r8.2), (125, .bool (r7.2 == 8))] rfl ⟨by kernel_rfl, by kernel_rfl⟩ ?_
                  refine TL.next rfl ?_
                  refine TC.cond (r7.2 == 8) rfl (by kernel_rfl) (fun h31 => ?_) (fun h31 => ?_)
                  · refine TC.seq ?_
                    refine TC.region ?_
                    refine TL.run 1 [] [(10, .bool false)] rfl ⟨by kernel_rfl, by kernel_rfl⟩ ?_
                    refine TL.next rfl ?_
                    refine TC.ret ?_
                    refine TE.ret_then ?_
                    have e : skywaykeep2_AlertSure a b_ s more seconds = false := by subst hr1 hr2 hr3 hr4 hr5 hr6 hr7 hr8; unfold skywaykeep2_AlertSure; exact cond_f h1 (cond_f h2 (cond_f h3 (cond_t h27 (cond_t h28 (cond_f h29 (cond_t h30 (cond_t h31 (rfl))))))))
                    exact TE.ret [] (.bool false) ⟨by kernel_rfl, by kernel_rfl⟩ (by rw [e]; first | done | kernel_rfl)
                  · refine TC.skip ?_
                    refine TE.next ?_
                    refine TC.seq ?_
                    refine TC.region ?_
                    refine TL.run 4 [] [(17, .int .i64 r4.1), (18, .int .i64 r4.2), (24, .int .i64 r8.1), (25, .int .i64 r8.2), (129, .bool (r4.2 == r8.2))] rfl ⟨by kernel_rfl, by kernel_rfl⟩ ?_
                    refine TL.join 129 (r4.2 == r8.2) 7 [] [] (fun β => [(17, .int .i64 r4.1), (18, .int .i64 r4.2), (24, .int .i64 r8.1), (25, .int .i64 r8.2), (132, .bool (β || (r4.2 == 4)))]) (by kernel_rfl) rfl ⟨by kernel_rfl, by kernel_rfl⟩ ⟨by kernel_rfl, by kernel_rfl⟩ ?_
                    refine TL.run 8 [] [(17, .int .i64 r4.1), (18, .int .i64 r4.2), (24, .int .i64 r8.1), (25, .int .i64 r8.2), (133, .bool ((r4.2 == r8.2) || (r4.2 == 4)))] rfl ⟨by kernel_rfl, by kernel_rfl⟩ ?_
                    refine TL.join 133 ((r4.2 == r8.2) || (r4.2 == 4)) 11 [] [] (fun β => [(17, .int .i64 r4.1), (18, .int .i64 r4.2), (24, .int .i64 r8.1), (25, .int .i64 r8.2), (136, .bool (β || (r8.2 == 4)))]) (by kernel_rfl) rfl ⟨by kernel_rfl, by kernel_rfl⟩ ⟨by kernel_rfl, by kernel_rfl⟩ ?_
                    refine TL.run 12 [] [(17, .int .i64 r4.1), (18, .int .i64 r4.2), (24, .int .i64 r8.1), (25, .int .i64 r8.2), (137, .bool (((r4.2 == r8.2) || (r4.2 == 4)) || (r8.2 == 4)))] rfl ⟨by kernel_rfl, by kernel_rfl⟩ ?_
                    refine TL.join 137 (((r4.2 == r8.2) || (r4.2 == 4)) || (r8.2 == 4)) 15 [] [] (fun β => [(17, .int .i64 r4.1), (18, .int .i64 r4.2), (24, .int .i64 r8.1), (25, .int .i64 r8.2), (140, .bool (β || (r4.2 == 1)))]) (by kernel_rfl) rfl ⟨by kernel_rfl, by kernel_rfl⟩ ⟨by kernel_rfl, by kernel_rfl⟩ ?_
                    refine TL.run 16 [] [(17, .int .i64 r4.1), (18, .int .i64 r4.2), (24, .int .i64 r8.1), (25, .int .i64 r8.2), (141, .bool ((((r4.2 == r8.2) || (r4.2 == 4)) || (r8.2 == 4)) || (r4.2 == 1)))] rfl ⟨by kernel_rfl, by kernel_rfl⟩ ?_
                    refine TL.join 141 ((((r4.2 == r8.2) || (r4.2 == 4)) || (r8.2 == 4)) || (r4.2 == 1)) 19 [] [] (fun β => [(17, .int .i64 r4.1), (18, .int .i64 r4.2), (24, .int .i64 r8.1), (144, .bool (β || (r8.2 == 1)))]) (by kernel_rfl) rfl ⟨by kernel_rfl, by kernel_rfl⟩ ⟨by kernel_rfl, by kernel_rfl⟩ ?_
                    refine TL.run 20 [] [(17, .int .i64 r4.1), (18, .int .i64 r4.2), (24, .int .i64 r8.1), (145, .bool (((((r4.2 == r8.2) || (r4.2 == 4)) || (r8.2 == 4)) || (r4.2 == 1)) || (r8.2 == 1)))] rfl ⟨by kernel_rfl, by kernel_rfl⟩ ?_
                    refine TL.split 145 (((((r4.2 == r8.2) || (r4.2 == 4)) || (r8.2 == 4)) || (r4.2 == 1)) || (r8.2 == 1)) (by kernel_rfl) (fun h32 => ?_) (fun h32 => ?_)
                    · refine TL.run 23 [] [(17, .int .i64 r4.1), (24, .int .i64 r8.1), (145, .bool true), (148, .bool (r4.2 != 0))] rfl ⟨by kernel_rfl, by kernel_rfl⟩ ?_
                      refine TL.split 148 (r4.2 != 0) (by kernel_rfl) (fun h33 => ?_) (fun h33 => ?_)
                      · refine TL.run 29 [] [(10, .bool true)] rfl ⟨by kernel_rfl, by kernel_rfl⟩ ?_
                        refine TL.next rfl ?_
                        refine TC.ret ?_
                        have e : skywaykeep2_AlertSure a b_ s more seconds = true := by subst hr1 hr2 hr3 hr4 hr5 hr6 hr7 hr8; unfold skywaykeep2_AlertSure; exact cond_f h1 (cond_f h2 (cond_f h3 (cond_t h27 (cond_t h28 (cond_f h29 (cond_t h30 (cond_f h31 (cond_t h32 (cond_t h33 (rfl))))))))))
                        exact TE.ret [] (.bool true) ⟨by kernel_rfl, by kernel_rfl⟩ (by rw [e]; first | done | kernel_rfl)
                      · refine TL.run 29 [] [(10, .bool (r4.1 == r8.1))] rfl ⟨by kernel_rfl, by kernel_rfl⟩ ?_
                        refine TL.next rfl ?_
                        refine TC.ret ?_
                        have e : skywaykeep2_AlertSure a b_ s more seconds = (r4.1 == r8.1) := by subst hr1 hr2 hr3 hr4 hr5 hr6 hr7 hr8; unfold skywaykeep2_AlertSure; exact cond_f h1 (cond_f h2 (cond_f h3 (cond_t h27 (cond_t h28 (cond_f h29 (cond_t h30 (cond_f h31 (cond_t h32 (cond_f h33 (rfl))))))))))
                        exact TE.ret [] (.bool (r4.1 == r8.1)) ⟨by kernel_rfl, by kernel_rfl⟩ (by rw [e]; first | done | kernel_rfl)
                    · refine TL.run 29 [] [(10, .bool false)] rfl ⟨by kernel_rfl, by kernel_rfl⟩ ?_
                      refine TL.next rfl ?_
                      refine TC.ret ?_
                      have e : skywaykeep2_AlertSure a b_ s more seconds = false := by subst hr1 hr2 hr3 hr4 hr5 hr6 hr7 hr8; unfold skywaykeep2_AlertSure; exact cond_f h1 (cond_f h2 (cond_f h3 (cond_t h27 (cond_t h28 (cond_f h29 (cond_t h30 (cond_f h31 (cond_f h32 (rfl)))))))))
                      exact TE.ret [] (.bool false) ⟨by kernel_rfl, by kernel_rfl⟩ (by rw [e]; first | done | kernel_rfl)
                · refine TL.run 32 [] [(17, .int .i64 r4.1), (18, .int .i64 r4.2), (24, .int .i64 r8.1), (25, .int .i64 r8.2), (125, .bool false)] rfl ⟨by kernel_rfl, by kernel_rfl⟩ ?_
                  refine TL.next rfl ?_
                  refine TC.condF rfl (by kernel_rfl) ?_
                  refine TC.skip ?_
                  refine TE.next ?_
                  refine TC.seq ?_
                  refine TC.region ?_
                  refine TL.run 4 [] [(17, .int .i64 r4.1), (18, .int .i64 r4.2), (24, .int .i64 r8.1), (25, .int .i64 r8.2), (129, .bool (r4.2 == r8.2))] rfl ⟨by kernel_rfl, by kernel_rfl⟩ ?_
                  refine TL.join 129 (r4.2 == r8.2) 7 [] [] (fun β => [(17, .int .i64 r4.1), (18, .int .i64 r4.2), (24, .int .i64 r8.1), (25, .int .i64 r8.2), (132, .bool (β || (r4.2 == 4)))]) (by kernel_rfl) rfl ⟨by kernel_rfl, by kernel_rfl⟩ ⟨by kernel_rfl, by kernel_rfl⟩ ?_
                  refine TL.run 8 [] [(17, .int .i64 r4.1), (18, .int .i64 r4.2), (24, .int .i64 r8.1), (25, .int .i64 r8.2), (133, .bool ((r4.2 == r8.2) || (r4.2 == 4)))] rfl ⟨by kernel_rfl, by kernel_rfl⟩ ?_
                  refine TL.join 133 ((r4.2 == r8.2) || (r4.2 == 4)) 11 [] [] (fun β => [(17, .int .i64 r4.1), (18, .int .i64 r4.2), (24, .int .i64 r8.1), (25, .int .i64 r8.2), (136, .bool (β || (r8.2 == 4)))]) (by kernel_rfl) rfl ⟨by kernel_rfl, by kernel_rfl⟩ ⟨by kernel_rfl, by kernel_rfl⟩ ?_
                  refine TL.run 12 [] [(17, .int .i64 r4.1), (18, .int .i64 r4.2), (24, .int .i64 r8.1), (25, .int .i64 r8.2), (137, .bool (((r4.2 == r8.2) || (r4.2 == 4)) || (r8.2 == 4)))] rfl ⟨by kernel_rfl, by kernel_rfl⟩ ?_
                  refine TL.join 137 (((r4.2 == r8.2) || (r4.2 == 4)) || (r8.2 == 4)) 15 [] [] (fun β => [(17, .int .i64 r4.1), (18, .int .i64 r4.2), (24, .int .i64 r8.1), (25, .int .i64 r8.2), (140, .bool (β || (r4.2 == 1)))]) (by kernel_rfl) rfl ⟨by kernel_rfl, by kernel_rfl⟩ ⟨by kernel_rfl, by kernel_rfl⟩ ?_
                  refine TL.run 16 [] [(17, .int .i64 r4.1), (18, .int .i64 r4.2), (24, .int .i64 r8.1), (25, .int .i64 r8.2), (141, .bool ((((r4.2 == r8.2) || (r4.2 == 4)) || (r8.2 == 4)) || (r4.2 == 1)))] rfl ⟨by kernel_rfl, by kernel_rfl⟩ ?_
                  refine TL.join 141 ((((r4.2 == r8.2) || (r4.2 == 4)) || (r8.2 == 4)) || (r4.2 == 1)) 19 [] [] (fun β => [(17, .int .i64 r4.1), (18, .int .i64 r4.2), (24, .int .i64 r8.1), (144, .bool (β || (r8.2 == 1)))]) (by kernel_rfl) rfl ⟨by kernel_rfl, by kernel_rfl⟩ ⟨by kernel_rfl, by kernel_rfl⟩ ?_
                  refine TL.run 20 [] [(17, .int .i64 r4.1), (18, .int .i64 r4.2), (24, .int .i64 r8.1), (145, .bool (((((r4.2 == r8.2) || (r4.2 == 4)) || (r8.2 == 4)) || (r4.2 == 1)) || (r8.2 == 1)))] rfl ⟨by kernel_rfl, by kernel_rfl⟩ ?_
                  refine TL.split 145 (((((r4.2 == r8.2) || (r4.2 == 4)) || (r8.2 == 4)) || (r4.2 == 1)) || (r8.2 == 1)) (by kernel_rfl) (fun h34 => ?_) (fun h34 => ?_)
                  · refine TL.run 23 [] [(17, .int .i64 r4.1), (24, .int .i64 r8.1), (145, .bool true), (148, .bool (r4.2 != 0))] rfl ⟨by kernel_rfl, by kernel_rfl⟩ ?_
                    refine TL.split 148 (r4.2 != 0) (by kernel_rfl) (fun h35 => ?_) (fun h35 => ?_)
                    · refine TL.run 29 [] [(10, .bool true)] rfl ⟨by kernel_rfl, by kernel_rfl⟩ ?_
                      refine TL.next rfl ?_
                      refine TC.ret ?_
                      have e : skywaykeep2_AlertSure a b_ s more seconds = true := by subst hr1 hr2 hr3 hr4 hr5 hr6 hr7 hr8; unfold skywaykeep2_AlertSure; exact cond_f h1 (cond_f h2 (cond_f h3 (cond_t h27 (cond_t h28 (cond_f h29 (cond_f h30 (cond_t h34 (cond_t h35 (rfl)))))))))
                      exact TE.ret [] (.bool true) ⟨by kernel_rfl, by kernel_rfl⟩ (by rw [e]; first | done | kernel_rfl)
                    · refine TL.run 29 [] [(10, .bool (r4.1 == r8.1))] rfl ⟨by kernel_rfl, by kernel_rfl⟩ ?_
                      refine TL.next rfl ?_
                      refine TC.ret ?_
                      have e : skywaykeep2_AlertSure a b_ s more seconds = (r4.1 == r8.1) := by subst hr1 hr2 hr3 hr4 hr5 hr6 hr7 hr8; unfold skywaykeep2_AlertSure; exact cond_f h1 (cond_f h2 (cond_f h3 (cond_t h27 (cond_t h28 (cond_f h29 (cond_f h30 (cond_t h34 (cond_f h35 (rfl)))))))))
                      exact TE.ret [] (.bool (r4.1 == r8.1)) ⟨by kernel_rfl, by kernel_rfl⟩ (by rw [e]; first | done | kernel_rfl)
                  · refine TL.run 29 [] [(10, .bool false)] rfl ⟨by kernel_rfl, by kernel_rfl⟩ ?_
                    refine TL.next rfl ?_
                    refine TC.ret ?_
                    have e : skywaykeep2_AlertSure a b_ s more seconds = false := by subst hr1 hr2 hr3 hr4 hr5 hr6 hr7 hr8; unfold skywaykeep2_AlertSure; exact cond_f h1 (cond_f h2 (cond_f h3 (cond_t h27 (cond_t h28 (cond_f h29 (cond_f h30 (cond_f h34 (rfl))))))))
                    exact TE.ret [] (.bool false) ⟨by kernel_rfl, by kernel_rfl⟩ (by rw [e]; first | done | kernel_rfl)
            · refine TL.run 28 [] [(17, .int .i64 r4.1), (18, .int .i64 r4.2), (23, .int .i64 r7.2), (24, .int .i64 r8.1), (25, .int .i64 r8.2), (118, .bool false), (121, .bool (r4.2 == 0))] rfl ⟨by kernel_rfl, by kernel_rfl⟩ ?_
              refine TL.split 121 (r4.2 == 0) (by kernel_rfl) (fun h36 => ?_) (fun h36 => ?_)
              · refine TL.run 32 [] [(17, .int .i64 r4.1), (18, .int .i64 r4.2), (24, .int .i64 r8.1), (25, .int .i64 r8.2), (125, .bool (r7.2 == 8))] rfl ⟨by kernel_rfl, by kernel_rfl⟩ ?_
                refine TL.next rfl ?_
                refine TC.cond (r7.2 == 8) rfl (by kernel_rfl) (fun h37 => ?_) (fun h37 => ?_)
                · refine TC.seq ?_
                  refine TC.region ?_
                  refine TL.run 1 [] [(10, .bool false)] rfl ⟨by kernel_rfl, by kernel_rfl⟩ ?_
                  refine TL.next rfl ?_
                  refine TC.ret ?_
                  refine TE.ret_then ?_
                  have e : skywaykeep2_AlertSure a b_ s more seconds = false := by subst hr1 hr2 hr3 hr4 hr5 hr6 hr7 hr8; unfold skywaykeep2_AlertSure; exact cond_f h1 (cond_f h2 (cond_f h3 (cond_t h27 (cond_f h28 (cond_t h36 (cond_t h37 (rfl)))))))
                  exact TE.ret [] (.bool false) ⟨by kernel_rfl, by kernel_rfl⟩ (by rw [e]; first | done | kernel_rfl)
                · refine TC.skip ?_
                  refine TE.next ?_
                  refine TC.seq ?_
                  refine TC.region ?_
                  refine TL.run 4 [] [(17, .int .i64 r4.1), (18, .int .i64 r4.2), (24, .int .i64 r8.1), (25, .int .i64 r8.2), (129, .bool (r4.2 == r8.2))] rfl ⟨by kernel_rfl, by kernel_rfl⟩ ?_
                  refine TL.join 129 (r4.2 == r8.2) 7 [] [] (fun β => [(17, .int .i64 r4.1), (18, .int .i64 r4.2), (24, .int .i64 r8.1), (25, .int .i64 r8.2), (132, .bool (β || (r4.2 == 4)))]) (by kernel_rfl) rfl ⟨by kernel_rfl, by kernel_rfl⟩ ⟨by kernel_rfl, by kernel_rfl⟩ ?_
                  refine TL.run 8 [] [(17, .int .i64 r4.1), (18, .int .i64 r4.2), (24, .int .i64 r8.1), (25, .int .i64 r8.2), (133, .bool ((r4.2 == r8.2) || (r4.2 == 4)))] rfl ⟨by kernel_rfl, by kernel_rfl⟩ ?_
                  refine TL.join 133 ((r4.2 == r8.2) || (r4.2 == 4)) 11 [] [] (fun β => [(17, .int .i64 r4.1), (18, .int .i64 r4.2), (24, .int .i64 r8.1), (25, .int .i64 r8.2), (136, .bool (β || (r8.2 == 4)))]) (by kernel_rfl) rfl ⟨by kernel_rfl, by kernel_rfl⟩ ⟨by kernel_rfl, by kernel_rfl⟩ ?_
                  refine TL.run 12 [] [(17, .int .i64 r4.1), (18, .int .i64 r4.2), (24, .int .i64 r8.1), (25, .int .i64 r8.2), (137, .bool (((r4.2 == r8.2) || (r4.2 == 4)) || (r8.2 == 4)))] rfl ⟨by kernel_rfl, by kernel_rfl⟩ ?_
                  refine TL.join 137 (((r4.2 == r8.2) || (r4.2 == 4)) || (r8.2 == 4)) 15 [] [] (fun β => [(17, .int .i64 r4.1), (18, .int .i64 r4.2), (24, .int .i64 r8.1), (25, .int .i64 r8.2), (140, .bool (β || (r4.2 == 1)))]) (by kernel_rfl) rfl ⟨by kernel_rfl, by kernel_rfl⟩ ⟨by kernel_rfl, by kernel_rfl⟩ ?_
                  refine TL.run 16 [] [(17, .int .i64 r4.1), (18, .int .i64 r4.2), (24, .int .i64 r8.1), (25, .int .i64 r8.2), (141, .bool ((((r4.2 == r8.2) || (r4.2 == 4)) || (r8.2 == 4)) || (r4.2 == 1)))] rfl ⟨by kernel_rfl, by kernel_rfl⟩ ?_
                  refine TL.join 141 ((((r4.2 == r8.2) || (r4.2 == 4)) || (r8.2 == 4)) || (r4.2 == 1)) 19 [] [] (fun β => [(17, .int .i64 r4.1), (18, .int .i64 r4.2), (24, .int .i64 r8.1), (144, .bool (β || (r8.2 == 1)))]) (by kernel_rfl) rfl ⟨by kernel_rfl, by kernel_rfl⟩ ⟨by kernel_rfl, by kernel_rfl⟩ ?_
                  refine TL.run 20 [] [(17, .int .i64 r4.1), (18, .int .i64 r4.2), (24, .int .i64 r8.1), (145, .bool (((((r4.2 == r8.2) || (r4.2 == 4)) || (r8.2 == 4)) || (r4.2 == 1)) || (r8.2 == 1)))] rfl ⟨by kernel_rfl, by kernel_rfl⟩ ?_
                  refine TL.split 145 (((((r4.2 == r8.2) || (r4.2 == 4)) || (r8.2 == 4)) || (r4.2 == 1)) || (r8.2 == 1)) (by kernel_rfl) (fun h38 => ?_) (fun h38 => ?_)
                  · refine TL.run 23 [] [(17, .int .i64 r4.1), (24, .int .i64 r8.1), (145, .bool true), (148, .bool (r4.2 != 0))] rfl ⟨by kernel_rfl, by kernel_rfl⟩ ?_
                    refine TL.split 148 (r4.2 != 0) (by kernel_rfl) (fun h39 => ?_) (fun h39 => ?_)
                    · refine TL.run 29 [] [(10, .bool true)] rfl ⟨by kernel_rfl, by kernel_rfl⟩ ?_
                      refine TL.next rfl ?_
                      refine TC.ret ?_
                      have e : skywaykeep2_AlertSure a b_ s more seconds = true := by subst hr1 hr2 hr3 hr4 hr5 hr6 hr7 hr8; unfold skywaykeep2_AlertSure; exact cond_f h1 (cond_f h2 (cond_f h3 (cond_t h27 (cond_f h28 (cond_t h36 (cond_f h37 (cond_t h38 (cond_t h39 (rfl)))))))))
                      exact TE.ret [] (.bool true) ⟨by kernel_rfl, by kernel_rfl⟩ (by rw [e]; first | done | kernel_rfl)
                    · refine TL.run 29 [] [(10, .bool (r4.1 == r8.1))] rfl ⟨by kernel_rfl, by kernel_rfl⟩ ?_
                      refine TL.next rfl ?_
                      refine TC.ret ?_
                      have e : skywaykeep2_AlertSure a b_ s more seconds = (r4.1 == r8.1) := by subst hr1 hr2 hr3 hr4 hr5 hr6 hr7 hr8; unfold skywaykeep2_AlertSure; exact cond_f h1 (cond_f h2 (cond_f h3 (cond_t h27 (cond_f h28 (cond_t h36 (cond_f h37 (cond_t h38 (cond_f h39 (rfl)))))))))
                      exact TE.ret [] (.bool (r4.1 == r8.1)) ⟨by kernel_rfl, by kernel_rfl⟩ (by rw [e]; first | done | kernel_rfl)
                  · refine TL.run 29 [] [(10, .bool false)] rfl ⟨by kernel_rfl, by kernel_rfl⟩ ?_
                    refine TL.next rfl ?_
                    refine TC.ret ?_
                    have e : skywaykeep2_AlertSure a b_ s more seconds = false := by subst hr1 hr2 hr3 hr4 hr5 hr6 hr7 hr8; unfold skywaykeep2_AlertSure; exact cond_f h1 (cond_f h2 (cond_f h3 (cond_t h27 (cond_f h28 (cond_t h36 (cond_f h37 (cond_f h38 (rfl))))))))
                    exact TE.ret [] (.bool false) ⟨by kernel_rfl, by kernel_rfl⟩ (by rw [e]; first | done | kernel_rfl)
              · refine TL.run 32 [] [(17, .int .i64 r4.1), (18, .int .i64 r4.2), (24, .int .i64 r8.1), (25, .int .i64 r8.2), (125, .bool false)] rfl ⟨by kernel_rfl, by kernel_rfl⟩ ?_
                refine TL.next rfl ?_
                refine TC.condF rfl (by kernel_rfl) ?_
                refine TC.skip ?_
                refine TE.next ?_
                refine TC.seq ?_
                refine TC.region ?_
                refine TL.run 4 [] [(17, .int .i64 r4.1), (18, .int .i64 r4.2), (24, .int .i64 r8.1), (25, .int .i64 r8.2), (129, .bool (r4.2 == r8.2))] rfl ⟨by kernel_rfl, by kernel_rfl⟩ ?_
                refine TL.join 129 (r4.2 == r8.2) 7 [] [] (fun β => [(17, .int .i64 r4.1), (18, .int .i64 r4.2), (24, .int .i64 r8.1), (25, .int .i64 r8.2), (132, .bool (β || (r4.2 == 4)))]) (by kernel_rfl) rfl ⟨by kernel_rfl, by kernel_rfl⟩ ⟨by kernel_rfl, by kernel_rfl⟩ ?_
                refine TL.run 8 [] [(17, .int .i64 r4.1), (18, .int .i64 r4.2), (24, .int .i64 r8.1), (25, .int .i64 r8.2), (133, .bool ((r4.2 == r8.2) || (r4.2 == 4)))] rfl ⟨by kernel_rfl, by kernel_rfl⟩ ?_
                refine TL.join 133 ((r4.2 == r8.2) || (r4.2 == 4)) 11 [] [] (fun β => [(17, .int .i64 r4.1), (18, .int .i64 r4.2), (24, .int .i64 r8.1), (25, .int .i64 r8.2), (136, .bool (β || (r8.2 == 4)))]) (by kernel_rfl) rfl ⟨by kernel_rfl, by kernel_rfl⟩ ⟨by kernel_rfl, by kernel_rfl⟩ ?_
                refine TL.run 12 [] [(17, .int .i64 r4.1), (18, .int .i64 r4.2), (24, .int .i64 r8.1), (25, .int .i64 r8.2), (137, .bool (((r4.2 == r8.2) || (r4.2 == 4)) || (r8.2 == 4)))] rfl ⟨by kernel_rfl, by kernel_rfl⟩ ?_
                refine TL.join 137 (((r4.2 == r8.2) || (r4.2 == 4)) || (r8.2 == 4)) 15 [] [] (fun β => [(17, .int .i64 r4.1), (18, .int .i64 r4.2), (24, .int .i64 r8.1), (25, .int .i64 r8.2), (140, .bool (β || (r4.2 == 1)))]) (by kernel_rfl) rfl ⟨by kernel_rfl, by kernel_rfl⟩ ⟨by kernel_rfl, by kernel_rfl⟩ ?_
                refine TL.run 16 [] [(17, .int .i64 r4.1), (18, .int .i64 r4.2), (24, .int .i64 r8.1), (25, .int .i64 r8.2), (141, .bool ((((r4.2 == r8.2) || (r4.2 == 4)) || (r8.2 == 4)) || (r4.2 == 1)))] rfl ⟨by kernel_rfl, by kernel_rfl⟩ ?_
                refine TL.join 141 ((((r4.2 == r8.2) || (r4.2 == 4)) || (r8.2 == 4)) || (r4.2 == 1)) 19 [] [] (fun β => [(17, .int .i64 r4.1), (18, .int .i64 r4.2), (24, .int .i64 r8.1), (144, .bool (β || (r8.2 == 1)))]) (by kernel_rfl) rfl ⟨by kernel_rfl, by kernel_rfl⟩ ⟨by kernel_rfl, by kernel_rfl⟩ ?_
                refine TL.run 20 [] [(17, .int .i64 r4.1), (18, .int .i64 r4.2), (24, .int .i64 r8.1), (145, .bool (((((r4.2 == r8.2) || (r4.2 == 4)) || (r8.2 == 4)) || (r4.2 == 1)) || (r8.2 == 1)))] rfl ⟨by kernel_rfl, by kernel_rfl⟩ ?_
                refine TL.split 145 (((((r4.2 == r8.2) || (r4.2 == 4)) || (r8.2 == 4)) || (r4.2 == 1)) || (r8.2 == 1)) (by kernel_rfl) (fun h40 => ?_) (fun h40 => ?_)
                · refine TL.run 23 [] [(17, .int .i64 r4.1), (24, .int .i64 r8.1), (145, .bool true), (148, .bool (r4.2 != 0))] rfl ⟨by kernel_rfl, by kernel_rfl⟩ ?_
                  refine TL.split 148 (r4.2 != 0) (by kernel_rfl) (fun h41 => ?_) (fun h41 => ?_)
                  · refine TL.run 29 [] [(10, .bool true)] rfl ⟨by kernel_rfl, by kernel_rfl⟩ ?_
                    refine TL.next rfl ?_
                    refine TC.ret ?_
                    have e : skywaykeep2_AlertSure a b_ s more seconds = true := by subst hr1 hr2 hr3 hr4 hr5 hr6 hr7 hr8; unfold skywaykeep2_AlertSure; exact cond_f h1 (cond_f h2 (cond_f h3 (cond_t h27 (cond_f h28 (cond_f h36 (cond_t h40 (cond_t h41 (rfl))))))))
                    exact TE.ret [] (.bool true) ⟨by kernel_rfl, by kernel_rfl⟩ (by rw [e]; first | done | kernel_rfl)
                  · refine TL.run 29 [] [(10, .bool (r4.1 == r8.1))] rfl ⟨by kernel_rfl, by kernel_rfl⟩ ?_
                    refine TL.next rfl ?_
                    refine TC.ret ?_
                    have e : skywaykeep2_AlertSure a b_ s more seconds = (r4.1 == r8.1) := by subst hr1 hr2 hr3 hr4 hr5 hr6 hr7 hr8; unfold skywaykeep2_AlertSure; exact cond_f h1 (cond_f h2 (cond_f h3 (cond_t h27 (cond_f h28 (cond_f h36 (cond_t h40 (cond_f h41 (rfl))))))))
                    exact TE.ret [] (.bool (r4.1 == r8.1)) ⟨by kernel_rfl, by kernel_rfl⟩ (by rw [e]; first | done | kernel_rfl)
                · refine TL.run 29 [] [(10, .bool false)] rfl ⟨by kernel_rfl, by kernel_rfl⟩ ?_
                  refine TL.next rfl ?_
                  refine TC.ret ?_
                  have e : skywaykeep2_AlertSure a b_ s more seconds = false := by subst hr1 hr2 hr3 hr4 hr5 hr6 hr7 hr8; unfold skywaykeep2_AlertSure; exact cond_f h1 (cond_f h2 (cond_f h3 (cond_t h27 (cond_f h28 (cond_f h36 (cond_f h40 (rfl)))))))
                  exact TE.ret [] (.bool false) ⟨by kernel_rfl, by kernel_rfl⟩ (by rw [e]; first | done | kernel_rfl)
          · refine TL.run 28 [] [(17, .int .i64 r4.1), (18, .int .i64 r4.2), (23, .int .i64 r7.2), (24, .int .i64 r8.1), (25, .int .i64 r8.2), (118, .bool false), (121, .bool (r4.2 == 0))] rfl ⟨by kernel_rfl, by kernel_rfl⟩ ?_
            refine TL.split 121 (r4.2 == 0) (by kernel_rfl) (fun h42 => ?_) (fun h42 => ?_)
            · refine TL.run 32 [] [(17, .int .i64 r4.1), (18, .int .i64 r4.2), (24, .int .i64 r8.1), (25, .int .i64 r8.2), (125, .bool (r7.2 == 8))] rfl ⟨by kernel_rfl, by kernel_rfl⟩ ?_
              refine TL.next rfl ?_
              refine TC.cond (r7.2 == 8) rfl (by kernel_rfl) (fun h43 => ?_) (fun h43 => ?_)
              · refine TC.seq ?_
                refine TC.region ?_
                refine TL.run 1 [] [(10, .bool false)] rfl ⟨by kernel_rfl, by kernel_rfl⟩ ?_
                refine TL.next rfl ?_
                refine TC.ret ?_
                refine TE.ret_then ?_
                have e : skywaykeep2_AlertSure a b_ s more seconds = false := by subst hr1 hr2 hr3 hr4 hr5 hr6 hr7 hr8; unfold skywaykeep2_AlertSure; exact cond_f h1 (cond_f h2 (cond_f h3 (cond_f h27 (cond_t h42 (cond_t h43 (rfl))))))
                exact TE.ret [] (.bool false) ⟨by kernel_rfl, by kernel_rfl⟩ (by rw [e]; first | done | kernel_rfl)
              · refine TC.skip ?_
                refine TE.next ?_
                refine TC.seq ?_
                refine TC.region ?_
                refine TL.run 4 [] [(17, .int .i64 r4.1), (18, .int .i64 r4.2), (24, .int .i64 r8.1), (25, .int .i64 r8.2), (129, .bool (r4.2 == r8.2))] rfl ⟨by kernel_rfl, by kernel_rfl⟩ ?_
                refine TL.join 129 (r4.2 == r8.2) 7 [] [] (fun β => [(17, .int .i64 r4.1), (18, .int .i64 r4.2), (24, .int .i64 r8.1), (25, .int .i64 r8.2), (132, .bool (β || (r4.2 == 4)))]) (by kernel_rfl) rfl ⟨by kernel_rfl, by kernel_rfl⟩ ⟨by kernel_rfl, by kernel_rfl⟩ ?_
                refine TL.run 8 [] [(17, .int .i64 r4.1), (18, .int .i64 r4.2), (24, .int .i64 r8.1), (25, .int .i64 r8.2), (133, .bool ((r4.2 == r8.2) || (r4.2 == 4)))] rfl ⟨by kernel_rfl, by kernel_rfl⟩ ?_
                refine TL.join 133 ((r4.2 == r8.2) || (r4.2 == 4)) 11 [] [] (fun β => [(17, .int .i64 r4.1), (18, .int .i64 r4.2), (24, .int .i64 r8.1), (25, .int .i64 r8.2), (136, .bool (β || (r8.2 == 4)))]) (by kernel_rfl) rfl ⟨by kernel_rfl, by kernel_rfl⟩ ⟨by kernel_rfl, by kernel_rfl⟩ ?_
                refine TL.run 12 [] [(17, .int .i64 r4.1), (18, .int .i64 r4.2), (24, .int .i64 r8.1), (25, .int .i64 r8.2), (137, .bool (((r4.2 == r8.2) || (r4.2 == 4)) || (r8.2 == 4)))] rfl ⟨by kernel_rfl, by kernel_rfl⟩ ?_
                refine TL.join 137 (((r4.2 == r8.2) || (r4.2 == 4)) || (r8.2 == 4)) 15 [] [] (fun β => [(17, .int .i64 r4.1), (18, .int .i64 r4.2), (24, .int .i64 r8.1), (25, .int .i64 r8.2), (140, .bool (β || (r4.2 == 1)))]) (by kernel_rfl) rfl ⟨by kernel_rfl, by kernel_rfl⟩ ⟨by kernel_rfl, by kernel_rfl⟩ ?_
                refine TL.run 16 [] [(17, .int .i64 r4.1), (18, .int .i64 r4.2), (24, .int .i64 r8.1), (25, .int .i64 r8.2), (141, .bool ((((r4.2 == r8.2) || (r4.2 == 4)) || (r8.2 == 4)) || (r4.2 == 1)))] rfl ⟨by kernel_rfl, by kernel_rfl⟩ ?_
                refine TL.join 141 ((((r4.2 == r8.2) || (r4.2 == 4)) || (r8.2 == 4)) || (r4.2 == 1)) 19 [] [] (fun β => [(17, .int .i64 r4.1), (18, .int .i64 r4.2), (24, .int .i64 r8.1), (144, .bool (β || (r8.2 == 1)))]) (by kernel_rfl) rfl ⟨by kernel_rfl, by kernel_rfl⟩ ⟨by kernel_rfl, by kernel_rfl⟩ ?_
                refine TL.run 20 [] [(17, .int .i64 r4.1), (18, .int .i64 r4.2), (24, .int .i64 r8.1), (145, .bool (((((r4.2 == r8.2) || (r4.2 == 4)) || (r8.2 == 4)) || (r4.2 == 1)) || (r8.2 == 1)))] rfl ⟨by kernel_rfl, by kernel_rfl⟩ ?_
                refine TL.split 145 (((((r4.2 == r8.2) || (r4.2 == 4)) || (r8.2 == 4)) || (r4.2 == 1)) || (r8.2 == 1)) (by kernel_rfl) (fun h44 => ?_) (fun h44 => ?_)
                · refine TL.run 23 [] [(17, .int .i64 r4.1), (24, .int .i64 r8.1), (145, .bool true), (148, .bool (r4.2 != 0))] rfl ⟨by kernel_rfl, by kernel_rfl⟩ ?_
                  refine TL.split 148 (r4.2 != 0) (by kernel_rfl) (fun h45 => ?_) (fun h45 => ?_)
                  · refine TL.run 29 [] [(10, .bool true)] rfl ⟨by kernel_rfl, by kernel_rfl⟩ ?_
                    refine TL.next rfl ?_
                    refine TC.ret ?_
                    have e : skywaykeep2_AlertSure a b_ s more seconds = true := by subst hr1 hr2 hr3 hr4 hr5 hr6 hr7 hr8; unfold skywaykeep2_AlertSure; exact cond_f h1 (cond_f h2 (cond_f h3 (cond_f h27 (cond_t h42 (cond_f h43 (cond_t h44 (cond_t h45 (rfl))))))))
                    exact TE.ret [] (.bool true) ⟨by kernel_rfl, by kernel_rfl⟩ (by rw [e]; first | done | kernel_rfl)
                  · refine TL.run 29 [] [(10, .bool (r4.1 == r8.1))] rfl ⟨by kernel_rfl, by kernel_rfl⟩ ?_
                    refine TL.next rfl ?_
                    refine TC.ret ?_
                    have e : skywaykeep2_AlertSure a b_ s more seconds = (r4.1 == r8.1) := by subst hr1 hr2 hr3 hr4 hr5 hr6 hr7 hr8; unfold skywaykeep2_AlertSure; exact cond_f h1 (cond_f h2 (cond_f h3 (cond_f h27 (cond_t h42 (cond_f h43 (cond_t h44 (cond_f h45 (rfl))))))))
                    exact TE.ret [] (.bool (r4.1 == r8.1)) ⟨by kernel_rfl, by kernel_rfl⟩ (by rw [e]; first | done | kernel_rfl)
                · refine TL.run 29 [] [(10, .bool false)] rfl ⟨by kernel_rfl, by kernel_rfl⟩ ?_
                  refine TL.next rfl ?_
                  refine TC.ret ?_
                  have e : skywaykeep2_AlertSure a b_ s more seconds = false := by subst hr1 hr2 hr3 hr4 hr5 hr6 hr7 hr8; unfold skywaykeep2_AlertSure; exact cond_f h1 (cond_f h2 (cond_f h3 (cond_f h27 (cond_t h42 (cond_f h43 (cond_f h44 (rfl)))))))
                  exact TE.ret [] (.bool false) ⟨by kernel_rfl, by kernel_rfl⟩ (by rw [e]; first | done | kernel_rfl)
            · refine TL.run 32 [] [(17, .int .i64 r4.1), (18, .int .i64 r4.2), (24, .int .i64 r8.1), (25, .int .i64 r8.2), (125, .bool false)] rfl ⟨by kernel_rfl, by kernel_rfl⟩ ?_
              refine TL.next rfl ?_
              refine TC.condF rfl (by kernel_rfl) ?_
              refine TC.skip ?_
              refine TE.next ?_
              refine TC.seq ?_
              refine TC.region ?_
              refine TL.run 4 [] [(17, .int .i64 r4.1), (18, .int .i64 r4.2), (24, .int .i64 r8.1), (25, .int .i64 r8.2), (129, .bool (r4.2 == r8.2))] rfl ⟨by kernel_rfl, by kernel_rfl⟩ ?_
              refine TL.join 129 (r4.2 == r8.2) 7 [] [] (fun β => [(17, .int .i64 r4.1), (18, .int .i64 r4.2), (24, .int .i64 r8.1), (25, .int .i64 r8.2), (132, .bool (β || (r4.2 == 4)))]) (by kernel_rfl) rfl ⟨by kernel_rfl, by kernel_rfl⟩ ⟨by kernel_rfl, by kernel_rfl⟩ ?_
              refine TL.run 8 [] [(17, .int .i64 r4.1), (18, .int .i64 r4.2), (24, .int .i64 r8.1), (25, .int .i64 r8.2), (133, .bool ((r4.2 == r8.2) || (r4.2 == 4)))] rfl ⟨by kernel_rfl, by kernel_rfl⟩ ?_
              refine TL.join 133 ((r4.2 == r8.2) || (r4.2 == 4)) 11 [] [] (fun β => [(17, .int .i64 r4.1), (18, .int .i64 r4.2), (24, .int .i64 r8.1), (25, .int .i64 r8.2), (136, .bool (β || (r8.2 == 4)))]) (by kernel_rfl) rfl ⟨by kernel_rfl, by kernel_rfl⟩ ⟨by kernel_rfl, by kernel_rfl⟩ ?_
              refine TL.run 12 [] [(17, .int .i64 r4.1), (18, .int .i64 r4.2), (24, .int .i64 r8.1), (25, .int .i64 r8.2), (137, .bool (((r4.2 == r8.2) || (r4.2 == 4)) || (r8.2 == 4)))] rfl ⟨by kernel_rfl, by kernel_rfl⟩ ?_
              refine TL.join 137 (((r4.2 == r8.2) || (r4.2 == 4)) || (r8.2 == 4)) 15 [] [] (fun β => [(17, .int .i64 r4.1), (18, .int .i64 r4.2), (24, .int .i64 r8.1), (25, .int .i64 r8.2), (140, .bool (β || (r4.2 == 1)))]) (by kernel_rfl) rfl ⟨by kernel_rfl, by kernel_rfl⟩ ⟨by kernel_rfl, by kernel_rfl⟩ ?_
              refine TL.run 16 [] [(17, .int .i64 r4.1), (18, .int .i64 r4.2), (24, .int .i64 r8.1), (25, .int .i64 r8.2), (141, .bool ((((r4.2 == r8.2) || (r4.2 == 4)) || (r8.2 == 4)) || (r4.2 == 1)))] rfl ⟨by kernel_rfl, by kernel_rfl⟩ ?_
              refine TL.join 141 ((((r4.2 == r8.2) || (r4.2 == 4)) || (r8.2 == 4)) || (r4.2 == 1)) 19 [] [] (fun β => [(17, .int .i64 r4.1), (18, .int .i64 r4.2), (24, .int .i64 r8.1), (144, .bool (β || (r8.2 == 1)))]) (by kernel_rfl) rfl ⟨by kernel_rfl, by kernel_rfl⟩ ⟨by kernel_rfl, by kernel_rfl⟩ ?_
              refine TL.run 20 [] [(17, .int .i64 r4.1), (18, .int .i64 r4.2), (24, .int .i64 r8.1), (145, .bool (((((r4.2 == r8.2) || (r4.2 == 4)) || (r8.2 == 4)) || (r4.2 == 1)) || (r8.2 == 1)))] rfl ⟨by kernel_rfl, by kernel_rfl⟩ ?_
              refine TL.split 145 (((((r4.2 == r8.2) || (r4.2 == 4)) || (r8.2 == 4)) || (r4.2 == 1)) || (r8.2 == 1)) (by kernel_rfl) (fun h46 => ?_) (fun h46 => ?_)
              · refine TL.run 23 [] [(17, .int .i64 r4.1), (24, .int .i64 r8.1), (145, .bool true), (148, .bool (r4.2 != 0))] rfl ⟨by kernel_rfl, by kernel_rfl⟩ ?_
                refine TL.split 148 (r4.2 != 0) (by kernel_rfl) (fun h47 => ?_) (fun h47 => ?_)
                · refine TL.run 29 [] [(10, .bool true)] rfl ⟨by kernel_rfl, by kernel_rfl⟩ ?_
                  refine TL.next rfl ?_
                  refine TC.ret ?_
                  have e : skywaykeep2_AlertSure a b_ s more seconds = true := by subst hr1 hr2 hr3 hr4 hr5 hr6 hr7 hr8; unfold skywaykeep2_AlertSure; exact cond_f h1 (cond_f h2 (cond_f h3 (cond_f h27 (cond_f h42 (cond_t h46 (cond_t h47 (rfl)))))))
                  exact TE.ret [] (.bool true) ⟨by kernel_rfl, by kernel_rfl⟩ (by rw [e]; first | done | kernel_rfl)
                · refine TL.run 29 [] [(10, .bool (r4.1 == r8.1))] rfl ⟨by kernel_rfl, by kernel_rfl⟩ ?_
                  refine TL.next rfl ?_
                  refine TC.ret ?_
                  have e : skywaykeep2_AlertSure a b_ s more seconds = (r4.1 == r8.1) := by subst hr1 hr2 hr3 hr4 hr5 hr6 hr7 hr8; unfold skywaykeep2_AlertSure; exact cond_f h1 (cond_f h2 (cond_f h3 (cond_f h27 (cond_f h42 (cond_t h46 (cond_f h47 (rfl)))))))
                  exact TE.ret [] (.bool (r4.1 == r8.1)) ⟨by kernel_rfl, by kernel_rfl⟩ (by rw [e]; first | done | kernel_rfl)
              · refine TL.run 29 [] [(10, .bool false)] rfl ⟨by kernel_rfl, by kernel_rfl⟩ ?_
                refine TL.next rfl ?_
                refine TC.ret ?_
                have e : skywaykeep2_AlertSure a b_ s more seconds = false := by subst hr1 hr2 hr3 hr4 hr5 hr6 hr7 hr8; unfold skywaykeep2_AlertSure; exact cond_f h1 (cond_f h2 (cond_f h3 (cond_f h27 (cond_f h42 (cond_f h46 (rfl))))))
                exact TE.ret [] (.bool false) ⟨by kernel_rfl, by kernel_rfl⟩ (by rw [e]; first | done | kernel_rfl)

end Go.Sky
