/- Functions of the program, each with the Lean function that it computes. Conditions: none. -/
import Derived.Test.YtakjcphknccdnaaDoorRows
import Derived.Test.YtakjcphknccdnaaDoorEqb
import Derived.Test.YtakjcphknccdnaaDoorFct
import Derived.Test.YtakjcphknccdnaaDoorFacts
import Derived.Test.YtakjcphknccdnaaDoorPass
namespace Go.Sky
open Go Go.Eng Go.Proofs
def radar_out (n : Int) (low : Int) (high : Int) : Bool :=
  (decide (n < low)) || (decide (n > high))

set_option maxRecDepth 100000 in
theorem radar_out_w (n : Int) (low : Int) (high : Int) (w : World) : Calls Tryd.prog 22 #[.int .i64 n, .int .i64 low, .int .i64 high] w (Ret w (.bool (radar_out n low high))) := by
  refine calls_intro (vs := [.int .i64 n, .int .i64 low, .int .i64 high]) (w := w) Tryd.func22 rfl Tryd.ntmps22 rfl ?_
  refine TC.weak [(0, .int .i64 n), (1, .int .i64 low), (2, .int .i64 high)] (by kernel_rfl) ?_
  refine TC.seq ?_
  refine TC.region ?_
  refine TL.run 1 [] [(0, .int .i64 n), (1, .int .i64 low), (2, .int .i64 high)] rfl ⟨by kernel_rfl, by kernel_rfl⟩ ?_
  refine TL.next rfl ?_
  refine TC.seq ?_
  refine TC.region ?_
  refine TL.run 4 [] [(0, .int .i64 n), (2, .int .i64 high), (10, .bool (decide (n < low)))] rfl ⟨by kernel_rfl, by kernel_rfl⟩ ?_
  refine TL.join 10 (decide (n < low)) 8 [] [] (fun β => [(14, .bool (β || (decide (n > high))))]) (by kernel_rfl) rfl ⟨by kernel_rfl, by kernel_rfl⟩ ⟨by kernel_rfl, by kernel_rfl⟩ ?_
  refine TL.run 9 [] [(6, .bool ((decide (n < low)) || (decide (n > high))))] rfl ⟨by kernel_rfl, by kernel_rfl⟩ ?_
  refine TL.next rfl ?_
  refine TC.ret ?_
  have e : radar_out n low high = ((decide (n < low)) || (decide (n > high))) := by unfold radar_out; exact rfl
  exact TE.ret [] (.bool ((decide (n < low)) || (decide (n > high)))) ⟨by kernel_rfl, by kernel_rfl⟩ (by rw [e]; first | done | kernel_rfl)

def plane_Check (p : P) : Int :=
  cond ((((decide (p.X < (-1000000))) || (decide (p.X > 1000000))) || (decide (p.Y < (-1000000)))) || (decide (p.Y > 1000000))) (
    4) (
    0)

set_option maxRecDepth 100000 in
theorem plane_Check_w (p : P) (w : World) : Calls Tryd.prog 23 #[P.v p] w (Ret w (.int .i64 (plane_Check p))) := by
  refine calls_intro (vs := [P.v p]) (w := w) Tryd.func23 rfl Tryd.ntmps23 rfl ?_
  refine TC.weak [(0, P.v p)] (by kernel_rfl) ?_
  refine TC.seq ?_
  refine TC.region ?_
  refine TL.write 0 (fun b1 => [(1, .pointer (some ⟨b1, 0, none⟩))]) (fun b1 => [.inl (b1, .cells (P.c p) 24 (0, 0))]) (fun b1 => ⟨by kernel_rfl, by kernel_rfl⟩) (fun b1 => ?_)
  refine TL.run 2 [] [(1, .pointer (some ⟨b1, 0, none⟩))] rfl ⟨by kernel_rfl, by kernel_rfl⟩ ?_
  refine TL.next rfl ?_
  refine TC.seq ?_
  refine TC.seq ?_
  refine TC.region ?_
  refine TL.run 4 [0] [(1, .pointer (some ⟨b1, 0, none⟩)), (6, .bool (decide (p.X < (-1000000))))] rfl ⟨by kernel_rfl, by kernel_rfl⟩ ?_
  refine TL.join 6 (decide (p.X < (-1000000))) 8 [] [0] (fun β => [(1, .pointer (some ⟨b1, 0, none⟩)), (10, .bool (β || (decide (p.X > 1000000))))]) (by kernel_rfl) rfl ⟨by kernel_rfl, by kernel_rfl⟩ ⟨by kernel_rfl, by kernel_rfl⟩ ?_
  refine TL.run 9 [] [(1, .pointer (some ⟨b1, 0, none⟩)), (11, .bool ((decide (p.X < (-1000000))) || (decide (p.X > 1000000))))] rfl ⟨by kernel_rfl, by kernel_rfl⟩ ?_
  refine TL.join 11 ((decide (p.X < (-1000000))) || (decide (p.X > 1000000))) 13 [] [0] (fun β => [(1, .pointer (some ⟨b1, 0, none⟩)), (15, .bool (β || (decide (p.Y < (-1000000)))))]) (by kernel_rfl) rfl ⟨by kernel_rfl, by kernel_rfl⟩ ⟨by kernel_rfl, by kernel_rfl⟩ ?_
  refine TL.run 14 [] [(1, .pointer (some ⟨b1, 0, none⟩)), (16, .bool (((decide (p.X < (-1000000))) || (decide (p.X > 1000000))) || (decide (p.Y < (-1000000)))))] rfl ⟨by kernel_rfl, by kernel_rfl⟩ ?_
  refine TL.join 16 (((decide (p.X < (-1000000))) || (decide (p.X > 1000000))) || (decide (p.Y < (-1000000)))) 18 [] [0] (fun β => [(20, .bool (β || (decide (p.Y > 1000000))))]) (by kernel_rfl) rfl ⟨by kernel_rfl, by kernel_rfl⟩ ⟨by kernel_rfl, by kernel_rfl⟩ ?_
  refine TL.next rfl ?_
  refine TC.cond ((((decide (p.X < (-1000000))) || (decide (p.X > 1000000))) || (decide (p.Y < (-1000000)))) || (decide (p.Y > 1000000))) rfl (by kernel_rfl) (fun h1 => ?_) (fun h1 => ?_)
  · refine TC.seq ?_
    refine TC.region ?_
    refine TL.run 1 [] [(2, .int .i64 4)] rfl ⟨by kernel_rfl, by kernel_rfl⟩ ?_
    refine TL.next rfl ?_
    refine TC.ret ?_
    refine TE.ret_then ?_
    have e : plane_Check p = 4 := by unfold plane_Check; exact cond_t h1 (rfl)
    exact TE.ret [] (.int .i64 4) ⟨by kernel_rfl, by kernel_rfl⟩ (by rw [e]; first | done | kernel_rfl)
  · refine TC.skip ?_
    refine TE.next ?_
    refine TC.seq ?_
    refine TC.region ?_
    refine TL.run 1 [] [(2, .int .i64 0)] rfl ⟨by kernel_rfl, by kernel_rfl⟩ ?_
    refine TL.next rfl ?_
    refine TC.ret ?_
    have e : plane_Check p = 0 := by unfold plane_Check; exact cond_f h1 (rfl)
    exact TE.ret [] (.int .i64 0) ⟨by kernel_rfl, by kernel_rfl⟩ (by rw [e]; first | done | kernel_rfl)

def radar_CheckSpot (s : Spot) : Int :=
  let r1 := radar_out s.Time 0 200000
  cond r1 (
    4) (
    let r2 := plane_Check s.At
    cond (r2 != 0) (
      4) (
      let r3 := radar_out s.Height 0 60000
      cond r3 (
        4) (
        let r4 := radar_out s.Code (-1) 4095
        cond r4 (
          4) (
          let r5 := radar_out s.Error 0 1000000
          cond r5 (
            4) (
            0)))))

set_option maxRecDepth 100000 in
theorem radar_CheckSpot_w (s : Spot) (w : World) : Calls Tryd.prog 8 #[Spot.v s] w (Ret w (.int .i64 (radar_CheckSpot s))) := by
  refine calls_intro (vs := [Spot.v s]) (w := w) Tryd.func8 rfl Tryd.ntmps8 rfl ?_
  refine TC.weak [(0, Spot.v s)] (by kernel_rfl) ?_
  refine TC.seq ?_
  refine TC.region ?_
  refine TL.write 0 (fun b1 => [(1, .pointer (some ⟨b1, 0, none⟩))]) (fun b1 => [.inl (b1, .cells (Spot.c s) 26 (0, 0))]) (fun b1 => ⟨by kernel_rfl, by kernel_rfl⟩) (fun b1 => ?_)
  refine TL.run 2 [] [(1, .pointer (some ⟨b1, 0, none⟩))] rfl ⟨by kernel_rfl, by kernel_rfl⟩ ?_
  refine TL.next rfl ?_
  refine TC.seq ?_
  refine TC.seq ?_
  refine TC.region ?_
  refine TL.run 2 [0] [(1, .pointer (some ⟨b1, 0, none⟩)), (4, .int .i64 s.Time)] rfl ⟨by kernel_rfl, by kernel_rfl⟩ ?_
  refine TL.call (some 5) [(1, .pointer (some ⟨b1, 0, none⟩)), (5, .bool ((radar_out s.Time 0 200000)))] (fun w _ => radar_out_w s.Time 0 200000 w) (by kernel_rfl) (by kernel_rfl) ?_
  generalize hr1 : radar_out s.Time 0 200000 = r1
  refine TL.run 4 [] [(1, .pointer (some ⟨b1, 0, none⟩)), (6, .bool r1)] rfl ⟨by kernel_rfl, by kernel_rfl⟩ ?_
  refine TL.split 6 r1 (by kernel_rfl) (fun h1 => ?_) (fun h1 => ?_)
  · refine TL.run 24 [] [(26, .bool true)] rfl ⟨by kernel_rfl, by kernel_rfl⟩ ?_
    refine TL.next rfl ?_
    refine TC.condT rfl (by kernel_rfl) ?_
    refine TC.seq ?_
    refine TC.region ?_
    refine TL.run 1 [] [(2, .int .i64 4)] rfl ⟨by kernel_rfl, by kernel_rfl⟩ ?_
    refine TL.next rfl ?_
    refine TC.ret ?_
    refine TE.ret_then ?_
    have e : radar_CheckSpot s = 4 := by subst hr1; unfold radar_CheckSpot; exact cond_t h1 (rfl)
    exact TE.ret [] (.int .i64 4) ⟨by kernel_rfl, by kernel_rfl⟩ (by rw [e]; first | done | kernel_rfl)
  · refine TL.run 6 [0] [(1, .pointer (some ⟨b1, 0, none⟩)), (6, .bool false), (8, P.v s.At)] rfl ⟨by kernel_rfl, by kernel_rfl⟩ ?_
    refine TL.call (some 9) [(1, .pointer (some ⟨b1, 0, none⟩)), (6, .bool false), (9, .int .i64 (plane_Check s.At))] (fun w _ => plane_Check_w s.At w) (by kernel_rfl) (by kernel_rfl) ?_
    generalize hr2 : plane_Check s.At = r2
    refine TL.run 10 [] [(1, .pointer (some ⟨b1, 0, none⟩)), (12, .bool (r2 != 0))] rfl ⟨by kernel_rfl, by kernel_rfl⟩ ?_
    refine TL.split 12 (r2 != 0) (by kernel_rfl) (fun h2 => ?_) (fun h2 => ?_)
    · refine TL.run 24 [] [(26, .bool true)] rfl ⟨by kernel_rfl, by kernel_rfl⟩ ?_
      refine TL.next rfl ?_
      refine TC.condT rfl (by kernel_rfl) ?_
      refine TC.seq ?_
      refine TC.region ?_
      refine TL.run 1 [] [(2, .int .i64 4)] rfl ⟨by kernel_rfl, by kernel_rfl⟩ ?_
      refine TL.next rfl ?_
      refine TC.ret ?_
      refine TE.ret_then ?_
      have e : radar_CheckSpot s = 4 := by subst hr1 hr2; unfold radar_CheckSpot; exact cond_f h1 (cond_t h2 (rfl))
      exact TE.ret [] (.int .i64 4) ⟨by kernel_rfl, by kernel_rfl⟩ (by rw [e]; first | done | kernel_rfl)
    · refine TL.run 12 [0] [(1, .pointer (some ⟨b1, 0, none⟩)), (12, .bool false), (14, .int .i64 s.Height)] rfl ⟨by kernel_rfl, by kernel_rfl⟩ ?_
      refine TL.call (some 15) [(1, .pointer (some ⟨b1, 0, none⟩)), (12, .bool false), (15, .bool ((radar_out s.Height 0 60000)))] (fun w _ => radar_out_w s.Height 0 60000 w) (by kernel_rfl) (by kernel_rfl) ?_
      generalize hr3 : radar_out s.Height 0 60000 = r3
      refine TL.run 15 [] [(1, .pointer (some ⟨b1, 0, none⟩)), (17, .bool r3)] rfl ⟨by kernel_rfl, by kernel_rfl⟩ ?_
      refine TL.split 17 r3 (by kernel_rfl) (fun h3 => ?_) (fun h3 => ?_)
      · refine TL.run 24 [] [(26, .bool true)] rfl ⟨by kernel_rfl, by kernel_rfl⟩ ?_
        refine TL.next rfl ?_
        refine TC.condT rfl (by kernel_rfl) ?_
        refine TC.seq ?_
        refine TC.region ?_
        refine TL.run 1 [] [(2, .int .i64 4)] rfl ⟨by kernel_rfl, by kernel_rfl⟩ ?_
        refine TL.next rfl ?_
        refine TC.ret ?_
        refine TE.ret_then ?_
        have e : radar_CheckSpot s = 4 := by subst hr1 hr2 hr3; unfold radar_CheckSpot; exact cond_f h1 (cond_f h2 (cond_t h3 (rfl)))
        exact TE.ret [] (.int .i64 4) ⟨by kernel_rfl, by kernel_rfl⟩ (by rw [e]; first | done | kernel_rfl)
      · refine TL.run 17 [0] [(1, .pointer (some ⟨b1, 0, none⟩)), (17, .bool false), (19, .int .i64 s.Code)] rfl ⟨by kernel_rfl, by kernel_rfl⟩ ?_
        refine TL.call (some 20) [(1, .pointer (some ⟨b1, 0, none⟩)), (17, .bool false), (20, .bool ((radar_out s.Code (-1) 4095)))] (fun w _ => radar_out_w s.Code (-1) 4095 w) (by kernel_rfl) (by kernel_rfl) ?_
        generalize hr4 : radar_out s.Code (-1) 4095 = r4
        refine TL.run 20 [] [(1, .pointer (some ⟨b1, 0, none⟩)), (22, .bool r4)] rfl ⟨by kernel_rfl, by kernel_rfl⟩ ?_
        refine TL.split 22 r4 (by kernel_rfl) (fun h4 => ?_) (fun h4 => ?_)
        · refine TL.run 24 [] [(26, .bool true)] rfl ⟨by kernel_rfl, by kernel_rfl⟩ ?_
          refine TL.next rfl ?_
          refine TC.condT rfl (by kernel_rfl) ?_
          refine TC.seq ?_
          refine TC.region ?_
          refine TL.run 1 [] [(2, .int .i64 4)] rfl ⟨by kernel_rfl, by kernel_rfl⟩ ?_
          refine TL.next rfl ?_
          refine TC.ret ?_
          refine TE.ret_then ?_
          have e : radar_CheckSpot s = 4 := by subst hr1 hr2 hr3 hr4; unfold radar_CheckSpot; exact cond_f h1 (cond_f h2 (cond_f h3 (cond_t h4 (rfl))))
          exact TE.ret [] (.int .i64 4) ⟨by kernel_rfl, by kernel_rfl⟩ (by rw [e]; first | done | kernel_rfl)
        · refine TL.run 22 [0] [(22, .bool false), (24, .int .i64 s.Error)] rfl ⟨by kernel_rfl, by kernel_rfl⟩ ?_
          refine TL.call (some 25) [(22, .bool false), (25, .bool ((radar_out s.Error 0 1000000)))] (fun w _ => radar_out_w s.Error 0 1000000 w) (by kernel_rfl) (by kernel_rfl) ?_
          generalize hr5 : radar_out s.Error 0 1000000 = r5
          refine TL.run 24 [] [(26, .bool r5)] rfl ⟨by kernel_rfl, by kernel_rfl⟩ ?_
          refine TL.next rfl ?_
          refine TC.cond r5 rfl (by kernel_rfl) (fun h5 => ?_) (fun h5 => ?_)
          · refine TC.seq ?_
            refine TC.region ?_
            refine TL.run 1 [] [(2, .int .i64 4)] rfl ⟨by kernel_rfl, by kernel_rfl⟩ ?_
            refine TL.next rfl ?_
            refine TC.ret ?_
            refine TE.ret_then ?_
            have e : radar_CheckSpot s = 4 := by subst hr1 hr2 hr3 hr4 hr5; unfold radar_CheckSpot; exact cond_f h1 (cond_f h2 (cond_f h3 (cond_f h4 (cond_t h5 (rfl)))))
            exact TE.ret [] (.int .i64 4) ⟨by kernel_rfl, by kernel_rfl⟩ (by rw [e]; first | done | kernel_rfl)
          · refine TC.skip ?_
            refine TE.next ?_
            refine TC.seq ?_
            refine TC.region ?_
            refine TL.run 1 [] [(2, .int .i64 0)] rfl ⟨by kernel_rfl, by kernel_rfl⟩ ?_
            refine TL.next rfl ?_
            refine TC.ret ?_
            have e : radar_CheckSpot s = 0 := by subst hr1 hr2 hr3 hr4 hr5; unfold radar_CheckSpot; exact cond_f h1 (cond_f h2 (cond_f h3 (cond_f h4 (cond_f h5 (rfl)))))
            exact TE.ret [] (.int .i64 0) ⟨by kernel_rfl, by kernel_rfl⟩ (by rw [e]; first | done | kernel_rfl)

def plane_Sub (a : P) (b_ : P) : P :=
  (⟨w64 (a.X - b_.X), w64 (a.Y - b_.Y)⟩ : P)

set_option maxRecDepth 100000 in
theorem plane_Sub_w (a : P) (b_ : P) (w : World) : Calls Tryd.prog 20 #[P.v a, P.v b_] w (Ret w (P.v (plane_Sub a b_))) := by
  refine calls_intro (vs := [P.v a, P.v b_]) (w := w) Tryd.func20 rfl Tryd.ntmps20 rfl ?_
  refine TC.weak [(0, P.v a), (1, P.v b_)] (by kernel_rfl) ?_
  refine TC.seq ?_
  refine TC.region ?_
  refine TL.write 0 (fun b1 => [(1, P.v b_), (2, .pointer (some ⟨b1, 0, none⟩))]) (fun b1 => [.inl (b1, .cells (P.c a) 24 (0, 0))]) (fun b1 => ⟨by kernel_rfl, by kernel_rfl⟩) (fun b1 => ?_)
  refine TL.write 0 (fun b2 => [(2, .pointer (some ⟨b1, 0, none⟩)), (3, .pointer (some ⟨b2, 0, none⟩))]) (fun b2 => [.inl (b2, .cells (P.c b_) 24 (0, 0)), .inl (b1, .cells (P.c a) 24 (0, 0))]) (fun b2 => ⟨by kernel_rfl, by kernel_rfl⟩) (fun b2 => ?_)
  refine TL.write 0 (fun b3 => [(2, .pointer (some ⟨b1, 0, none⟩)), (3, .pointer (some ⟨b2, 0, none⟩)), (4, .pointer (some ⟨b3, 0, none⟩))]) (fun b3 => [.inl (b3, .cells (P.c P.zero) 24 (0, 0)), .inl (b2, .cells (P.c b_) 24 (0, 0)), .inl (b1, .cells (P.c a) 24 (0, 0))]) (fun b3 => ⟨by kernel_rfl, by kernel_rfl⟩) (fun b3 => ?_)
  refine TL.next rfl ?_
  refine TC.seq ?_
  refine TC.region ?_
  refine TL.run 11 [2, 1, 2, 1] [(4, .pointer (some ⟨b3, 0, none⟩)), (15, .agg #[.int .i64 (w64 (a.X - b_.X)), .int .i64 (w64 (a.Y - b_.Y))])] rfl ⟨by kernel_rfl, by kernel_rfl⟩ ?_
  refine TL.write 0 (fun _ => [(4, .pointer (some ⟨b3, 0, none⟩))]) (fun _ => [.inl (b3, .cells #[.int .i64 (w64 (a.X - b_.X)), .int .i64 (w64 (a.Y - b_.Y))] 24 (0, 0)), .inl (b2, .cells (P.c b_) 24 (0, 0)), .inl (b1, .cells (P.c a) 24 (0, 0))]) (fun _ => ⟨by kernel_rfl, by kernel_rfl⟩) (fun _ => ?_)
  refine TL.next rfl ?_
  refine TC.ret ?_
  have e : plane_Sub a b_ = (⟨w64 (a.X - b_.X), w64 (a.Y - b_.Y)⟩ : P) := by unfold plane_Sub; exact rfl
  exact TE.ret [0] (.agg #[.int .i64 (w64 (a.X - b_.X)), .int .i64 (w64 (a.Y - b_.Y))]) ⟨by kernel_rfl, by kernel_rfl⟩ (by rw [e]; first | done | kernel_rfl)

def plane_Add (a : P) (b_ : P) : P :=
  (⟨w64 (a.X + b_.X), w64 (a.Y + b_.Y)⟩ : P)

set_option maxRecDepth 100000 in
theorem plane_Add_w (a : P) (b_ : P) (w : World) : Calls Tryd.prog 41 #[P.v a, P.v b_] w (Ret w (P.v (plane_Add a b_))) := by
  refine calls_intro (vs := [P.v a, P.v b_]) (w := w) Tryd.func41 rfl Tryd.ntmps41 rfl ?_
  refine TC.weak [(0, P.v a), (1, P.v b_)] (by kernel_rfl) ?_
  refine TC.seq ?_
  refine TC.region ?_
  refine TL.write 0 (fun b1 => [(1, P.v b_), (2, .pointer (some ⟨b1, 0, none⟩))]) (fun b1 => [.inl (b1, .cells (P.c a) 24 (0, 0))]) (fun b1 => ⟨by kernel_rfl, by kernel_rfl⟩) (fun b1 => ?_)
  refine TL.write 0 (fun b2 => [(2, .pointer (some ⟨b1, 0, none⟩)), (3, .pointer (some ⟨b2, 0, none⟩))]) (fun b2 => [.inl (b2, .cells (P.c b_) 24 (0, 0)), .inl (b1, .cells (P.c a) 24 (0, 0))]) (fun b2 => ⟨by kernel_rfl, by kernel_rfl⟩) (fun b2 => ?_)
  refine TL.write 0 (fun b3 => [(2, .pointer (some ⟨b1, 0, none⟩)), (3, .pointer (some ⟨b2, 0, none⟩)), (4, .pointer (some ⟨b3, 0, none⟩))]) (fun b3 => [.inl (b3, .cells (P.c P.zero) 24 (0, 0)), .inl (b2, .cells (P.c b_) 24 (0, 0)), .inl (b1, .cells (P.c a) 24 (0, 0))]) (fun b3 => ⟨by kernel_rfl, by kernel_rfl⟩) (fun b3 => ?_)
  refine TL.next rfl ?_
  refine TC.seq ?_
  refine TC.region ?_
  refine TL.run 11 [2, 1, 2, 1] [(4, .pointer (some ⟨b3, 0, none⟩)), (15, .agg #[.int .i64 (w64 (a.X + b_.X)), .int .i64 (w64 (a.Y + b_.Y))])] rfl ⟨by kernel_rfl, by kernel_rfl⟩ ?_
  refine TL.write 0 (fun _ => [(4, .pointer (some ⟨b3, 0, none⟩))]) (fun _ => [.inl (b3, .cells #[.int .i64 (w64 (a.X + b_.X)), .int .i64 (w64 (a.Y + b_.Y))] 24 (0, 0)), .inl (b2, .cells (P.c b_) 24 (0, 0)), .inl (b1, .cells (P.c a) 24 (0, 0))]) (fun _ => ⟨by kernel_rfl, by kernel_rfl⟩) (fun _ => ?_)
  refine TL.next rfl ?_
  refine TC.ret ?_
  have e : plane_Add a b_ = (⟨w64 (a.X + b_.X), w64 (a.Y + b_.Y)⟩ : P) := by unfold plane_Add; exact rfl
  exact TE.ret [0] (.agg #[.int .i64 (w64 (a.X + b_.X)), .int .i64 (w64 (a.Y + b_.Y))]) ⟨by kernel_rfl, by kernel_rfl⟩ (by rw [e]; first | done | kernel_rfl)

def plane_Dot (a : P) (b_ : P) : Int :=
  w64 ((w64 (a.X * b_.X)) + (w64 (a.Y * b_.Y)))

set_option maxRecDepth 100000 in
theorem plane_Dot_w (a : P) (b_ : P) (w : World) : Calls Tryd.prog 54 #[P.v a, P.v b_] w (Ret w (.int .i64 (plane_Dot a b_))) := by
  refine calls_intro (vs := [P.v a, P.v b_]) (w := w) Tryd.func54 rfl Tryd.ntmps54 rfl ?_
  refine TC.weak [(0, P.v a), (1, P.v b_)] (by kernel_rfl) ?_
  refine TC.seq ?_
  refine TC.region ?_
  refine TL.write 0 (fun b1 => [(1, P.v b_), (2, .pointer (some ⟨b1, 0, none⟩))]) (fun b1 => [.inl (b1, .cells (P.c a) 24 (0, 0))]) (fun b1 => ⟨by kernel_rfl, by kernel_rfl⟩) (fun b1 => ?_)
  refine TL.write 0 (fun b2 => [(2, .pointer (some ⟨b1, 0, none⟩)), (3, .pointer (some ⟨b2, 0, none⟩))]) (fun b2 => [.inl (b2, .cells (P.c b_) 24 (0, 0)), .inl (b1, .cells (P.c a) 24 (0, 0))]) (fun b2 => ⟨by kernel_rfl, by kernel_rfl⟩) (fun b2 => ?_)
  refine TL.run 3 [] [(2, .pointer (some ⟨b1, 0, none⟩)), (3, .pointer (some ⟨b2, 0, none⟩))] rfl ⟨by kernel_rfl, by kernel_rfl⟩ ?_
  refine TL.next rfl ?_
  refine TC.seq ?_
  refine TC.region ?_
  refine TL.run 12 [1, 0, 1, 0] [(4, .int .i64 (w64 ((w64 (a.X * b_.X)) + (w64 (a.Y * b_.Y)))))] rfl ⟨by kernel_rfl, by kernel_rfl⟩ ?_
  refine TL.next rfl ?_
  refine TC.ret ?_
  have e : plane_Dot a b_ = (w64 ((w64 (a.X * b_.X)) + (w64 (a.Y * b_.Y)))) := by unfold plane_Dot; exact rfl
  exact TE.ret [] (.int .i64 (w64 ((w64 (a.X * b_.X)) + (w64 (a.Y * b_.Y))))) ⟨by kernel_rfl, by kernel_rfl⟩ (by rw [e]; first | done | kernel_rfl)

def plane_Square (a : P) (b_ : P) : Int :=
  let r1 := plane_Sub a b_
  let r2 := plane_Dot r1 r1
  r2

set_option maxRecDepth 100000 in
theorem plane_Square_w (a : P) (b_ : P) (w : World) : Calls Tryd.prog 31 #[P.v a, P.v b_] w (Ret w (.int .i64 (plane_Square a b_))) := by
  refine calls_intro (vs := [P.v a, P.v b_]) (w := w) Tryd.func31 rfl Tryd.ntmps31 rfl ?_
  refine TC.weak [(0, P.v a), (1, P.v b_)] (by kernel_rfl) ?_
  refine TC.seq ?_
  refine TC.region ?_
  refine TL.write 0 (fun b1 => [(1, P.v b_), (2, .pointer (some ⟨b1, 0, none⟩))]) (fun b1 => [.inl (b1, .cells (P.c a) 24 (0, 0))]) (fun b1 => ⟨by kernel_rfl, by kernel_rfl⟩) (fun b1 => ?_)
  refine TL.write 0 (fun b2 => [(2, .pointer (some ⟨b1, 0, none⟩)), (3, .pointer (some ⟨b2, 0, none⟩))]) (fun b2 => [.inl (b2, .cells (P.c b_) 24 (0, 0)), .inl (b1, .cells (P.c a) 24 (0, 0))]) (fun b2 => ⟨by kernel_rfl, by kernel_rfl⟩) (fun b2 => ?_)
  refine TL.run 3 [] [(2, .pointer (some ⟨b1, 0, none⟩)), (3, .pointer (some ⟨b2, 0, none⟩))] rfl ⟨by kernel_rfl, by kernel_rfl⟩ ?_
  refine TL.next rfl ?_
  refine TC.seq ?_
  refine TC.region ?_
  refine TL.run 2 [1, 0] [(6, P.v a), (7, P.v b_)] rfl ⟨by kernel_rfl, by kernel_rfl⟩ ?_
  refine TL.call (some 8) [(8, P.v (plane_Sub a b_))] (fun w _ => plane_Sub_w a b_ w) (by kernel_rfl) (by kernel_rfl) ?_
  generalize hr1 : plane_Sub a b_ = r1
  refine TL.write 0 (fun b3 => [(5, .pointer (some ⟨b3, 0, none⟩)), (8, P.v r1)]) (fun b3 => [.inl (b3, .cells (P.c P.zero) 24 (0, 0)), .inl (b2, .cells (P.c b_) 24 (0, 0)), .inl (b1, .cells (P.c a) 24 (0, 0))]) (fun b3 => ⟨by kernel_rfl, by kernel_rfl⟩) (fun b3 => ?_)
  refine TL.write 0 (fun _ => [(5, .pointer (some ⟨b3, 0, none⟩))]) (fun _ => [.inl (b3, .cells (P.c r1) 24 (0, 0)), .inl (b2, .cells (P.c b_) 24 (0, 0)), .inl (b1, .cells (P.c a) 24 (0, 0))]) (fun _ => ⟨by kernel_rfl, by kernel_rfl⟩) (fun _ => ?_)
  refine TL.next rfl ?_
  refine TC.seq ?_
  refine TC.region ?_
  refine TL.run 2 [0, 0] [(9, P.v r1), (10, P.v r1)] rfl ⟨by kernel_rfl, by kernel_rfl⟩ ?_
  refine TL.call (some 11) [(11, .int .i64 (plane_Dot r1 r1))] (fun w _ => plane_Dot_w r1 r1 w) (by kernel_rfl) (by kernel_rfl) ?_
  generalize hr2 : plane_Dot r1 r1 = r2
  refine TL.run 4 [] [(4, .int .i64 r2)] rfl ⟨by kernel_rfl, by kernel_rfl⟩ ?_
  refine TL.next rfl ?_
  refine TC.ret ?_
  have e : plane_Square a b_ = r2 := by subst hr1 hr2; unfold plane_Square; exact rfl
  exact TE.ret [] (.int .i64 r2) ⟨by kernel_rfl, by kernel_rfl⟩ (by rw [e]; first | done | kernel_rfl)

def plane_Within (a : P) (b_ : P) (d : Int) : Bool :=
  cond ((decide (d ≥ 0)) && (decide (d ≤ 8000000))) (
    let r1 := plane_Square a b_
    decide (r1 ≤ (w64 (d * d)))) (
    false)

set_option maxRecDepth 100000 in
theorem plane_Within_w (a : P) (b_ : P) (d : Int) (w : World) : Calls Tryd.prog 17 #[P.v a, P.v b_, .int .i64 d] w (Ret w (.bool (plane_Within a b_ d))) := by
  refine calls_intro (vs := [P.v a, P.v b_, .int .i64 d]) (w := w) Tryd.func17 rfl Tryd.ntmps17 rfl ?_
  refine TC.weak [(0, P.v a), (1, P.v b_), (2, .int .i64 d)] (by kernel_rfl) ?_
  refine TC.seq ?_
  refine TC.region ?_
  refine TL.write 0 (fun b1 => [(1, P.v b_), (2, .int .i64 d), (3, .pointer (some ⟨b1, 0, none⟩))]) (fun b1 => [.inl (b1, .cells (P.c a) 24 (0, 0))]) (fun b1 => ⟨by kernel_rfl, by kernel_rfl⟩) (fun b1 => ?_)
  refine TL.write 0 (fun b2 => [(2, .int .i64 d), (3, .pointer (some ⟨b1, 0, none⟩)), (4, .pointer (some ⟨b2, 0, none⟩))]) (fun b2 => [.inl (b2, .cells (P.c b_) 24 (0, 0)), .inl (b1, .cells (P.c a) 24 (0, 0))]) (fun b2 => ⟨by kernel_rfl, by kernel_rfl⟩) (fun b2 => ?_)
  refine TL.run 3 [] [(2, .int .i64 d), (3, .pointer (some ⟨b1, 0, none⟩)), (4, .pointer (some ⟨b2, 0, none⟩))] rfl ⟨by kernel_rfl, by kernel_rfl⟩ ?_
  refine TL.next rfl ?_
  refine TC.seq ?_
  refine TC.region ?_
  refine TL.run 3 [] [(2, .int .i64 d), (3, .pointer (some ⟨b1, 0, none⟩)), (4, .pointer (some ⟨b2, 0, none⟩)), (9, .bool (decide (d ≥ 0)))] rfl ⟨by kernel_rfl, by kernel_rfl⟩ ?_
  refine TL.join 9 (decide (d ≥ 0)) 6 [] [] (fun β => [(2, .int .i64 d), (3, .pointer (some ⟨b1, 0, none⟩)), (4, .pointer (some ⟨b2, 0, none⟩)), (12, .bool (β && (decide (d ≤ 8000000))))]) (by kernel_rfl) rfl ⟨by kernel_rfl, by kernel_rfl⟩ ⟨by kernel_rfl, by kernel_rfl⟩ ?_
  refine TL.run 7 [] [(2, .int .i64 d), (3, .pointer (some ⟨b1, 0, none⟩)), (4, .pointer (some ⟨b2, 0, none⟩)), (13, .bool ((decide (d ≥ 0)) && (decide (d ≤ 8000000))))] rfl ⟨by kernel_rfl, by kernel_rfl⟩ ?_
  refine TL.split 13 ((decide (d ≥ 0)) && (decide (d ≤ 8000000))) (by kernel_rfl) (fun h1 => ?_) (fun h1 => ?_)
  · refine TL.run 9 [1, 0] [(2, .int .i64 d), (13, .bool true), (14, P.v a), (15, P.v b_)] rfl ⟨by kernel_rfl, by kernel_rfl⟩ ?_
    refine TL.call (some 16) [(2, .int .i64 d), (13, .bool true), (16, .int .i64 (plane_Square a b_))] (fun w _ => plane_Square_w a b_ w) (by kernel_rfl) (by kernel_rfl) ?_
    generalize hr1 : plane_Square a b_ = r1
    refine TL.run 16 [] [(6, .bool (decide (r1 ≤ (w64 (d * d)))))] rfl ⟨by kernel_rfl, by kernel_rfl⟩ ?_
    refine TL.next rfl ?_
    refine TC.ret ?_
    have e : plane_Within a b_ d = (decide (r1 ≤ (w64 (d * d)))) := by subst hr1; unfold plane_Within; exact cond_t h1 (rfl)
    exact TE.ret [] (.bool (decide (r1 ≤ (w64 (d * d))))) ⟨by kernel_rfl, by kernel_rfl⟩ (by rw [e]; first | done | kernel_rfl)
  · refine TL.run 16 [] [(6, .bool false)] rfl ⟨by kernel_rfl, by kernel_rfl⟩ ?_
    refine TL.next rfl ?_
    refine TC.ret ?_
    have e : plane_Within a b_ d = false := by unfold plane_Within; exact cond_f h1 (rfl)
    exact TE.ret [] (.bool false) ⟨by kernel_rfl, by kernel_rfl⟩ (by rw [e]; first | done | kernel_rfl)

def num_DivDown (a : Int) (b_ : Int) : Int × Int :=
  cond (b_ == 0) (
    (0, 10)) (
    cond ((a == (-9223372036854775808)) && (b_ == (-1))) (
      (0, 2)) (
      cond (((a.tmod b_) != 0) && (!((decide (a < 0)) == (decide (b_ < 0))))) (
        (w64 ((w64 (a.tdiv b_)) - 1), 0)) (
        (w64 (a.tdiv b_), 0))))

set_option maxRecDepth 100000 in
theorem num_DivDown_w (a : Int) (b_ : Int) (w : World) : Calls Tryd.prog 78 #[.int .i64 a, .int .i64 b_] w (Ret w (.tuple #[.int .i64 ((num_DivDown a b_).1), .int .i64 ((num_DivDown a b_).2)])) := by
  refine calls_intro (vs := [.int .i64 a, .int .i64 b_]) (w := w) Tryd.func78 rfl Tryd.ntmps78 rfl ?_
  refine TC.weak [(0, .int .i64 a), (1, .int .i64 b_)] (by kernel_rfl) ?_
  refine TC.seq ?_
  refine TC.region ?_
  refine TL.run 2 [] [(0, .int .i64 a), (1, .int .i64 b_)] rfl ⟨by kernel_rfl, by kernel_rfl⟩ ?_
  refine TL.next rfl ?_
  refine TC.seq ?_
  refine TC.block ?_
  refine TC.seq ?_
  refine TC.region ?_
  refine TL.run 3 [] [(0, .int .i64 a), (1, .int .i64 b_), (7, .bool (b_ == 0))] rfl ⟨by kernel_rfl, by kernel_rfl⟩ ?_
  refine TL.next rfl ?_
  refine TC.cond (b_ == 0) rfl (by kernel_rfl) (fun h1 => ?_) (fun h1 => ?_)
  · refine TC.seq ?_
    refine TC.region ?_
    refine TL.run 2 [] [(4, .int .i64 0), (5, .int .i64 10)] rfl ⟨by kernel_rfl, by kernel_rfl⟩ ?_
    refine TL.next rfl ?_
    refine TC.ret ?_
    refine TE.ret_block (TE.ret_then ?_)
    have e : num_DivDown a b_ = (0, 10) := by unfold num_DivDown; exact cond_t h1 (rfl)
    exact TE.ret [] (.tuple #[.int .i64 0, .int .i64 10]) ⟨by kernel_rfl, by kernel_rfl⟩ (by rw [e]; first | done | kernel_rfl)
  · refine TC.seq ?_
    refine TC.region ?_
    refine TL.run 3 [] [(0, .int .i64 a), (1, .int .i64 b_), (13, .bool (a == (-9223372036854775808)))] rfl ⟨by kernel_rfl, by kernel_rfl⟩ ?_
    refine TL.join 13 (a == (-9223372036854775808)) 6 [] [] (fun β => [(0, .int .i64 a), (1, .int .i64 b_), (16, .bool (β && (b_ == (-1))))]) (by kernel_rfl) rfl ⟨by kernel_rfl, by kernel_rfl⟩ ⟨by kernel_rfl, by kernel_rfl⟩ ?_
    refine TL.run 7 [] [(0, .int .i64 a), (1, .int .i64 b_), (10, .bool ((a == (-9223372036854775808)) && (b_ == (-1))))] rfl ⟨by kernel_rfl, by kernel_rfl⟩ ?_
    refine TL.next rfl ?_
    refine TC.cond ((a == (-9223372036854775808)) && (b_ == (-1))) rfl (by kernel_rfl) (fun h2 => ?_) (fun h2 => ?_)
    · refine TC.seq ?_
      refine TC.region ?_
      refine TL.run 2 [] [(4, .int .i64 0), (5, .int .i64 2)] rfl ⟨by kernel_rfl, by kernel_rfl⟩ ?_
      refine TL.next rfl ?_
      refine TC.ret ?_
      refine TE.ret_block (TE.ret_then ?_)
      have e : num_DivDown a b_ = (0, 2) := by unfold num_DivDown; exact cond_f h1 (cond_t h2 (rfl))
      exact TE.ret [] (.tuple #[.int .i64 0, .int .i64 2]) ⟨by kernel_rfl, by kernel_rfl⟩ (by rw [e]; first | done | kernel_rfl)
    · refine TC.skip ?_
      refine TE.normal_block ?_
      refine TE.next ?_
      refine TC.seq ?_
      refine TC.region ?_
      refine TL.run 2 [] [(0, .int .i64 a), (1, .int .i64 b_), (17, .int .i64 a), (18, .int .i64 b_)] rfl ⟨by kernel_rfl, by kernel_rfl⟩ ?_
      refine TL.val (sV (binOp .quo 3 (.int .i64 a) (.int .i64 b_))) (some 19) (.int .i64 (w64 (a.tdiv b_))) [(0, .int .i64 a), (1, .int .i64 b_), (19, .int .i64 (w64 (a.tdiv b_)))] (fun w hM => run_quo (by have q0_ := (beq_f h1); have q1_ := ((and_f h2).imp (fun h => (beq_f h)) (fun h => (beq_f h))); exact sdr)) (by kernel_rfl) (by kernel_rfl) ?_
      refine TL.run 4 [] [(0, .int .i64 a), (1, .int .i64 b_), (6, .int .i64 (w64 (a.tdiv b_)))] rfl ⟨by kernel_rfl, by kernel_rfl⟩ ?_
      refine TL.next rfl ?_
      refine TC.seq ?_
      refine TC.seq ?_
      refine TC.region ?_
      refine TL.run 2 [] [(0, .int .i64 a), (1, .int .i64 b_), (6, .int .i64 (w64 (a.tdiv b_))), (20, .int .i64 a), (21, .int .i64 b_)] rfl ⟨by kernel_rfl, by kernel_rfl⟩ ?_
      refine TL.val (sV (binOp .rem 3 (.int .i64 a) (.int .i64 b_))) (some 22) (.int .i64 (a.tmod b_)) [(0, .int .i64 a), (1, .int .i64 b_), (6, .int .i64 (w64 (a.tdiv b_))), (22, .int .i64 (a.tmod b_))] (fun w hM => run_rem (by have q0_ := (beq_f h1); have q1_ := ((and_f h2).imp (fun h => (beq_f h)) (fun h => (beq_f h))); exact sdr)) (by kernel_rfl) (by kernel_rfl) ?_
      refine TL.run 5 [] [(0, .int .i64 a), (1, .int .i64 b_), (6, .int .i64 (w64 (a.tdiv b_))), (24, .bool ((a.tmod b_) != 0))] rfl ⟨by kernel_rfl, by kernel_rfl⟩ ?_
      refine TL.join 24 ((a.tmod b_) != 0) 11 [] [] (fun β => [(6, .int .i64 (w64 (a.tdiv b_))), (30, .bool (β && (!((decide (a < 0)) == (decide (b_ < 0))))))]) (by kernel_rfl) rfl ⟨by kernel_rfl, by kernel_rfl⟩ ⟨by kernel_rfl, by kernel_rfl⟩ ?_
      refine TL.next rfl ?_
      refine TC.cond (((a.tmod b_) != 0) && (!((decide (a < 0)) == (decide (b_ < 0))))) rfl (by kernel_rfl) (fun h3 => ?_) (fun h3 => ?_)
      · refine TC.region ?_
        refine TL.run 3 [] [(6, .int .i64 (w64 ((w64 (a.tdiv b_)) - 1)))] rfl ⟨by kernel_rfl, by kernel_rfl⟩ ?_
        refine TL.next rfl ?_
        refine TC.seq ?_
        refine TC.region ?_
        refine TL.run 3 [] [(4, .int .i64 (w64 ((w64 (a.tdiv b_)) - 1))), (5, .int .i64 0)] rfl ⟨by kernel_rfl, by kernel_rfl⟩ ?_
        refine TL.next rfl ?_
        refine TC.ret ?_
        have e : num_DivDown a b_ = (w64 ((w64 (a.tdiv b_)) - 1), 0) := by unfold num_DivDown; exact cond_f h1 (cond_f h2 (cond_t h3 (rfl)))
        exact TE.ret [] (.tuple #[.int .i64 (w64 ((w64 (a.tdiv b_)) - 1)), .int .i64 0]) ⟨by kernel_rfl, by kernel_rfl⟩ (by rw [e]; first | done | kernel_rfl)
      · refine TC.skip ?_
        refine TE.next ?_
        refine TC.seq ?_
        refine TC.region ?_
        refine TL.run 3 [] [(4, .int .i64 (w64 (a.tdiv b_))), (5, .int .i64 0)] rfl ⟨by kernel_rfl, by kernel_rfl⟩ ?_
        refine TL.next rfl ?_
        refine TC.ret ?_
        have e : num_DivDown a b_ = (w64 (a.tdiv b_), 0) := by unfold num_DivDown; exact cond_f h1 (cond_f h2 (cond_f h3 (rfl)))
        exact TE.ret [] (.tuple #[.int .i64 (w64 (a.tdiv b_)), .int .i64 0]) ⟨by kernel_rfl, by kernel_rfl⟩ (by rw [e]; first | done | kernel_rfl)

def num_DivUp (a : Int) (b_ : Int) : Int × Int :=
  let r1 := num_DivDown a b_
  cond (r1.2 == 0) (
    cond ((a.tmod b_) != 0) (
      (w64 (r1.1 + 1), r1.2)) (
      (r1.1, r1.2))) (
    (r1.1, r1.2))

theorem divUp_ne {a b : Int} {r : Int × Int} (hr : num_DivDown a b = r) (h : (r.2 == 0) = true) : b ≠ 0 := by
  rintro rfl; subst hr; revert h; simp [num_DivDown]

set_option maxRecDepth 100000 in
theorem num_DivUp_w (a : Int) (b_ : Int) (w : World) : Calls Tryd.prog 62 #[.int .i64 a, .int .i64 b_] w (Ret w (.tuple #[.int .i64 ((num_DivUp a b_).1), .int .i64 ((num_DivUp a b_).2)])) := by
  refine calls_intro (vs := [.int .i64 a, .int .i64 b_]) (w := w) Tryd.func62 rfl Tryd.ntmps62 rfl ?_
  refine TC.weak [(0, .int .i64 a), (1, .int .i64 b_)] (by kernel_rfl) ?_
  refine TC.seq ?_
  refine TC.region ?_
  refine TL.run 2 [] [(0, .int .i64 a), (1, .int .i64 b_)] rfl ⟨by kernel_rfl, by kernel_rfl⟩ ?_
  refine TL.next rfl ?_
  refine TC.seq ?_
  refine TC.region ?_
  refine TL.run 2 [] [(0, .int .i64 a), (1, .int .i64 b_), (9, .int .i64 a), (10, .int .i64 b_)] rfl ⟨by kernel_rfl, by kernel_rfl⟩ ?_
  refine TL.call (some 11) [(0, .int .i64 a), (1, .int .i64 b_), (11, .tuple #[.int .i64 ((num_DivDown a b_).1), .int .i64 ((num_DivDown a b_).2)])] (fun w _ => num_DivDown_w a b_ w) (by kernel_rfl) (by kernel_rfl) ?_
  generalize hr1 : num_DivDown a b_ = r1
  refine TL.run 8 [] [(0, .int .i64 a), (1, .int .i64 b_), (6, .int .i64 r1.1), (7, .int .i64 r1.2)] rfl ⟨by kernel_rfl, by kernel_rfl⟩ ?_
  refine TL.next rfl ?_
  refine TC.seq ?_
  refine TC.seq ?_
  refine TC.region ?_
  refine TL.run 3 [] [(0, .int .i64 a), (1, .int .i64 b_), (6, .int .i64 r1.1), (7, .int .i64 r1.2), (16, .bool (r1.2 == 0))] rfl ⟨by kernel_rfl, by kernel_rfl⟩ ?_
  refine TL.split 16 (r1.2 == 0) (by kernel_rfl) (fun h1 => ?_) (fun h1 => ?_)
  · refine TL.run 5 [] [(6, .int .i64 r1.1), (7, .int .i64 r1.2), (16, .bool true), (17, .int .i64 a), (18, .int .i64 b_)] rfl ⟨by kernel_rfl, by kernel_rfl⟩ ?_
    refine TL.val (sV (binOp .rem 3 (.int .i64 a) (.int .i64 b_))) (some 19) (.int .i64 (a.tmod b_)) [(6, .int .i64 r1.1), (7, .int .i64 r1.2), (16, .bool true), (19, .int .i64 (a.tmod b_))] (fun w hM => run_rem (divUp_ne hr1 h1)) (by kernel_rfl) (by kernel_rfl) ?_
    refine TL.run 8 [] [(6, .int .i64 r1.1), (7, .int .i64 r1.2), (21, .bool ((a.tmod b_) != 0))] rfl ⟨by kernel_rfl, by kernel_rfl⟩ ?_
    refine TL.next rfl ?_
    refine TC.cond ((a.tmod b_) != 0) rfl (by kernel_rfl) (fun h2 => ?_) (fun h2 => ?_)
    · refine TC.region ?_
      refine TL.run 3 [] [(6, .int .i64 (w64 (r1.1 + 1))), (7, .int .i64 r1.2)] rfl ⟨by kernel_rfl, by kernel_rfl⟩ ?_
      refine TL.next rfl ?_
      refine TC.seq ?_
      refine TC.region ?_
      refine TL.run 4 [] [(4, .int .i64 (w64 (r1.1 + 1))), (5, .int .i64 r1.2)] rfl ⟨by kernel_rfl, by kernel_rfl⟩ ?_
      refine TL.next rfl ?_
      refine TC.ret ?_
      have e : num_DivUp a b_ = (w64 (r1.1 + 1), r1.2) := by subst hr1; unfold num_DivUp; exact cond_t h1 (cond_t h2 (rfl))
      exact TE.ret [] (.tuple #[.int .i64 (w64 (r1.1 + 1)), .int .i64 r1.2]) ⟨by kernel_rfl, by kernel_rfl⟩ (by rw [e]; first | done | kernel_rfl)
    · refine TC.skip ?_
      refine TE.next ?_
      refine TC.seq ?_
      refine TC.region ?_
      refine TL.run 4 [] [(4, .int .i64 r1.1), (5, .int .i64 r1.2)] rfl ⟨by kernel_rfl, by kernel_rfl⟩ ?_
      refine TL.next rfl ?_
      refine TC.ret ?_
      have e : num_DivUp a b_ = (r1.1, r1.2) := by subst hr1; unfold num_DivUp; exact cond_t h1 (cond_f h2 (rfl))
      exact TE.ret [] (.tuple #[.int .i64 r1.1, .int .i64 r1.2]) ⟨by kernel_rfl, by kernel_rfl⟩ (by rw [e]; first | done | kernel_rfl)
  · refine TL.run 8 [] [(6, .int .i64 r1.1), (7, .int .i64 r1.2), (21, .bool false)] rfl ⟨by kernel_rfl, by kernel_rfl⟩ ?_
    refine TL.next rfl ?_
    refine TC.condF rfl (by kernel_rfl) ?_
    refine TC.skip ?_
    refine TE.next ?_
    refine TC.seq ?_
    refine TC.region ?_
    refine TL.run 4 [] [(4, .int .i64 r1.1), (5, .int .i64 r1.2)] rfl ⟨by kernel_rfl, by kernel_rfl⟩ ?_
    refine TL.next rfl ?_
    refine TC.ret ?_
    have e : num_DivUp a b_ = (r1.1, r1.2) := by subst hr1; unfold num_DivUp; exact cond_f h1 (rfl)
    exact TE.ret [] (.tuple #[.int .i64 r1.1, .int .i64 r1.2]) ⟨by kernel_rfl, by kernel_rfl⟩ (by rw [e]; first | done | kernel_rfl)

end Go.Sky
