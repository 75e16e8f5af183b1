/- Functions of the program, each with the Lean function that it computes. Conditions: none. -/
import Derived.Test.YtkjdmkgacmkpjaaRows
import Derived.Test.YtkjdmkgacmkpjaaEqb
import Derived.Test.YtkjdmkgacmkpjaaPlan
namespace Go.Sky
open Go Go.Eng Go.Proofs
def radar_out (n : Int) (low : Int) (high : Int) : Bool :=
  (decide (n < low)) || (decide (n > high))

set_option maxRecDepth 100000 in
theorem radar_out_w (n : Int) (low : Int) (high : Int) (w : World) : Calls Try.prog 90 #[.int .i64 n, .int .i64 low, .int .i64 high] w (Ret w (.bool (radar_out n low high))) := by
  refine calls_intro (vs := [.int .i64 n, .int .i64 low, .int .i64 high]) (w := w) Try.func90 rfl Try.ntmps90 rfl ?_
  refine TC.weak [(0, .int .i64 n), (1, .int .i64 low), (2, .int .i64 high)] (by kernel_rfl) ?_
  refine TC.seq ?_
  refine TC.region ?_
  refine TL.run 1 [] [(0, .int .i64 n), (1, .int .i64 low), (2, .int .i64 high)] rfl ⟨by kernel_rfl, by kernel_rfl⟩ ?_
  refine TL.next rfl ?_
  refine TC.seq ?_
  refine TC.region ?_
  refine TL.run 4 [] [(0, .int .i64 n), (2, .int .i64 high), (10, .bool (decide (n < low)))] rfl ⟨by kernel_rfl, by kernel_rfl⟩ ?_
  refine TL.join 10 (decide (n < low)) 8 [] [] (fun β => [(14, .bool (β || (decide (n > high))))]) (by kernel_rfl) rfl ⟨by kernel_rfl, by kernel_rfl⟩ ⟨by kernel_rfl, by kernel_rfl⟩ ?_
  refine TL.run 9 [] [(6, .bool ((decide (n < low)) || (decide (n > high))))] rfl ⟨by kernel_rfl, by kernel_rfl⟩ ?_
  refine TL.next rfl ?_
  refine TC.ret ?_
  have e : radar_out n low high = ((decide (n < low)) || (decide (n > high))) := by unfold radar_out; exact rfl
  exact TE.ret [] (.bool ((decide (n < low)) || (decide (n > high)))) ⟨by kernel_rfl, by kernel_rfl⟩ (by rw [e]; first | done | kernel_rfl)

def plane_Check (p : P) : Int :=
  cond ((((decide (p.X < (-1000000))) || (decide (p.X > 1000000))) || (decide (p.Y < (-1000000)))) || (decide (p.Y > 1000000))) (
    4) (
    0)

set_option maxRecDepth 100000 in
theorem plane_Check_w (p : P) (w : World) : Calls Try.prog 73 #[P.v p] w (Ret w (.int .i64 (plane_Check p))) := by
  refine calls_intro (vs := [P.v p]) (w := w) Try.func73 rfl Try.ntmps73 rfl ?_
  refine TC.weak [(0, P.v p)] (by kernel_rfl) ?_
  refine TC.seq ?_
  refine TC.region ?_
  refine TL.write 0 (fun b1 => [(1, .pointer (some ⟨b1, 0, none⟩))]) (fun b1 => [.inl (b1, .cells (P.c p) 23 (0, 0))]) (fun b1 => ⟨by kernel_rfl, by kernel_rfl⟩) (fun b1 => ?_)
  refine TL.run 2 [] [(1, .pointer (some ⟨b1, 0, none⟩))] rfl ⟨by kernel_rfl, by kernel_rfl⟩ ?_
  refine TL.next rfl ?_
  refine TC.seq ?_
  refine TC.seq ?_
  refine TC.region ?_
  refine TL.run 4 [0] [(1, .pointer (some ⟨b1, 0, none⟩)), (6, .bool (decide (p.X < (-1000000))))] rfl ⟨by kernel_rfl, by kernel_rfl⟩ ?_
  refine TL.join 6 (decide (p.X < (-1000000))) 8 [] [0] (fun β => [(1, .pointer (some ⟨b1, 0, none⟩)), (10, .bool (β || (decide (p.X > 1000000))))]) (by kernel_rfl) rfl ⟨by kernel_rfl, by kernel_rfl⟩ ⟨by kernel_rfl, by kernel_rfl⟩ ?_
  refine TL.run 9 [] [(1, .pointer (some ⟨b1, 0, none⟩)), (11, .bool ((decide (p.X < (-1000000))) || (decide (p.X > 1000000))))] rfl ⟨by kernel_rfl, by kernel_rfl⟩ ?_
  refine TL.join 11 ((decide (p.X < (-1000000))) || (decide (p.X > 1000000))) 13 [] [0] (fun β => [(1, .pointer (some ⟨b1, 0, none⟩)), (15, .bool (β || (decide (p.Y < (-1000000)))))]) (by kernel_rfl) rfl ⟨by kernel_rfl, by kernel_rfl⟩ ⟨by kernel_rfl, by kernel_rfl⟩ ?_
  refine TL.run 14 [] [(1, .pointer (some ⟨b1, 0, none⟩)), (16, .bool (((decide (p.X < (-1000000))) || (decide (p.X > 1000000))) || (decide (p.Y < (-1000000)))))] rfl ⟨by kernel_rfl, by kernel_rfl⟩ ?_
  refine TL.join 16 (((decide (p.X < (-1000000))) || (decide (p.X > 1000000))) || (decide (p.Y < (-1000000)))) 18 [] [0] (fun β => [(20, .bool (β || (decide (p.Y > 1000000))))]) (by kernel_rfl) rfl ⟨by kernel_rfl, by kernel_rfl⟩ ⟨by kernel_rfl, by kernel_rfl⟩ ?_
  refine TL.next rfl ?_
  refine TC.cond ((((decide (p.X < (-1000000))) || (decide (p.X > 1000000))) || (decide (p.Y < (-1000000)))) || (decide (p.Y > 1000000))) rfl (by kernel_rfl) (fun h1 => ?_) (fun h1 => ?_)
  · refine TC.seq ?_
    refine TC.region ?_
    refine TL.run 1 [] [(2, .int .i64 4)] rfl ⟨by kernel_rfl, by kernel_rfl⟩ ?_
    refine TL.next rfl ?_
    refine TC.ret ?_
    refine TE.ret_then ?_
    have e : plane_Check p = 4 := by unfold plane_Check; exact cond_t h1 (rfl)
    exact TE.ret [] (.int .i64 4) ⟨by kernel_rfl, by kernel_rfl⟩ (by rw [e]; first | done | kernel_rfl)
  · refine TC.skip ?_
    refine TE.next ?_
    refine TC.seq ?_
    refine TC.region ?_
    refine TL.run 1 [] [(2, .int .i64 0)] rfl ⟨by kernel_rfl, by kernel_rfl⟩ ?_
    refine TL.next rfl ?_
    refine TC.ret ?_
    have e : plane_Check p = 0 := by unfold plane_Check; exact cond_f h1 (rfl)
    exact TE.ret [] (.int .i64 0) ⟨by kernel_rfl, by kernel_rfl⟩ (by rw [e]; first | done | kernel_rfl)

def radar_CheckSpot (s : Spot) : Int :=
  let r1 := radar_out s.Time 0 200000
  cond r1 (
    4) (
    let r2 := plane_Check s.At
    cond (r2 != 0) (
      4) (
      let r3 := radar_out s.Height 0 60000
      cond r3 (
        4) (
        let r4 := radar_out s.Code (-1) 4095
        cond r4 (
          4) (
          let r5 := radar_out s.Error 0 1000000
          cond r5 (
            4) (
            0)))))

set_option maxRecDepth 100000 in
theorem radar_CheckSpot_w (s : Spot) (w : World) : Calls Try.prog 60 #[Spot.v s] w (Ret w (.int .i64 (radar_CheckSpot s))) := by
  refine calls_intro (vs := [Spot.v s]) (w := w) Try.func60 rfl Try.ntmps60 rfl ?_
  refine TC.weak [(0, Spot.v s)] (by kernel_rfl) ?_
  refine TC.seq ?_
  refine TC.region ?_
  refine TL.write 0 (fun b1 => [(1, .pointer (some ⟨b1, 0, none⟩))]) (fun b1 => [.inl (b1, .cells (Spot.c s) 27 (0, 0))]) (fun b1 => ⟨by kernel_rfl, by kernel_rfl⟩) (fun b1 => ?_)
  refine TL.run 2 [] [(1, .pointer (some ⟨b1, 0, none⟩))] rfl ⟨by kernel_rfl, by kernel_rfl⟩ ?_
  refine TL.next rfl ?_
  refine TC.seq ?_
  refine TC.seq ?_
  refine TC.region ?_
  refine TL.run 2 [0] [(1, .pointer (some ⟨b1, 0, none⟩)), (4, .int .i64 s.Time)] rfl ⟨by kernel_rfl, by kernel_rfl⟩ ?_
  refine TL.call (some 5) [(1, .pointer (some ⟨b1, 0, none⟩)), (5, .bool ((radar_out s.Time 0 200000)))] (fun w _ => radar_out_w s.Time 0 200000 w) (by kernel_rfl) (by kernel_rfl) ?_
  generalize hr1 : radar_out s.Time 0 200000 = r1
  refine TL.run 4 [] [(1, .pointer (some ⟨b1, 0, none⟩)), (6, .bool r1)] rfl ⟨by kernel_rfl, by kernel_rfl⟩ ?_
  refine TL.split 6 r1 (by kernel_rfl) (fun h1 => ?_) (fun h1 => ?_)
  · refine TL.run 24 [] [(26, .bool true)] rfl ⟨by kernel_rfl, by kernel_rfl⟩ ?_
    refine TL.next rfl ?_
    refine TC.condT rfl (by kernel_rfl) ?_
    refine TC.seq ?_
    refine TC.region ?_
    refine TL.run 1 [] [(2, .int .i64 4)] rfl ⟨by kernel_rfl, by kernel_rfl⟩ ?_
    refine TL.next rfl ?_
    refine TC.ret ?_
    refine TE.ret_then ?_
    have e : radar_CheckSpot s = 4 := by subst hr1; unfold radar_CheckSpot; exact cond_t h1 (rfl)
    exact TE.ret [] (.int .i64 4) ⟨by kernel_rfl, by kernel_rfl⟩ (by rw [e]; first | done | kernel_rfl)
  · refine TL.run 6 [0] [(1, .pointer (some ⟨b1, 0, none⟩)), (6, .bool false), (8, P.v s.At)] rfl ⟨by kernel_rfl, by kernel_rfl⟩ ?_
    refine TL.call (some 9) [(1, .pointer (some ⟨b1, 0, none⟩)), (6, .bool false), (9, .int .i64 (plane_Check s.At))] (fun w _ => plane_Check_w s.At w) (by kernel_rfl) (by kernel_rfl) ?_
    generalize hr2 : plane_Check s.At = r2
    refine TL.run 10 [] [(1, .pointer (some ⟨b1, 0, none⟩)), (12, .bool (r2 != 0))] rfl ⟨by kernel_rfl, by kernel_rfl⟩ ?_
    refine TL.split 12 (r2 != 0) (by kernel_rfl) (fun h2 => ?_) (fun h2 => ?_)
    · refine TL.run 24 [] [(26, .bool true)] rfl ⟨by kernel_rfl, by kernel_rfl⟩ ?_
      refine TL.next rfl ?_
      refine TC.condT rfl (by kernel_rfl) ?_
      refine TC.seq ?_
      refine TC.region ?_
      refine TL.run 1 [] [(2, .int .i64 4)] rfl ⟨by kernel_rfl, by kernel_rfl⟩ ?_
      refine TL.next rfl ?_
      refine TC.ret ?_
      refine TE.ret_then ?_
      have e : radar_CheckSpot s = 4 := by subst hr1 hr2; unfold radar_CheckSpot; exact cond_f h1 (cond_t h2 (rfl))
      exact TE.ret [] (.int .i64 4) ⟨by kernel_rfl, by kernel_rfl⟩ (by rw [e]; first | done | kernel_rfl)
    · refine TL.run 12 [0] [(1, .pointer (some ⟨b1, 0, none⟩)), (12, .bool false), (14, .int .i64 s.Height)] rfl ⟨by kernel_rfl, by kernel_rfl⟩ ?_
      refine TL.call (some 15) [(1, .pointer (some ⟨b1, 0, none⟩)), (12, .bool false), (15, .bool ((radar_out s.Height 0 60000)))] (fun w _ => radar_out_w s.Height 0 60000 w) (by kernel_rfl) (by kernel_rfl) ?_
      generalize hr3 : radar_out s.Height 0 60000 = r3
      refine TL.run 15 [] [(1, .pointer (some ⟨b1, 0, none⟩)), (17, .bool r3)] rfl ⟨by kernel_rfl, by kernel_rfl⟩ ?_
      refine TL.split 17 r3 (by kernel_rfl) (fun h3 => ?_) (fun h3 => ?_)
      · refine TL.run 24 [] [(26, .bool true)] rfl ⟨by kernel_rfl, by kernel_rfl⟩ ?_
        refine TL.next rfl ?_
        refine TC.condT rfl (by kernel_rfl) ?_
        refine TC.seq ?_
        refine TC.region ?_
        refine TL.run 1 [] [(2, .int .i64 4)] rfl ⟨by kernel_rfl, by kernel_rfl⟩ ?_
        refine TL.next rfl ?_
        refine TC.ret ?_
        refine TE.ret_then ?_
        have e : radar_CheckSpot s = 4 := by subst hr1 hr2 hr3; unfold radar_CheckSpot; exact cond_f h1 (cond_f h2 (cond_t h3 (rfl)))
        exact TE.ret [] (.int .i64 4) ⟨by kernel_rfl, by kernel_rfl⟩ (by rw [e]; first | done | kernel_rfl)
      · refine TL.run 17 [0] [(1, .pointer (some ⟨b1, 0, none⟩)), (17, .bool false), (19, .int .i64 s.Code)] rfl ⟨by kernel_rfl, by kernel_rfl⟩ ?_
        refine TL.call (some 20) [(1, .pointer (some ⟨b1, 0, none⟩)), (17, .bool false), (20, .bool ((radar_out s.Code (-1) 4095)))] (fun w _ => radar_out_w s.Code (-1) 4095 w) (by kernel_rfl) (by kernel_rfl) ?_
        generalize hr4 : radar_out s.Code (-1) 4095 = r4
        refine TL.run 20 [] [(1, .pointer (some ⟨b1, 0, none⟩)), (22, .bool r4)] rfl ⟨by kernel_rfl, by kernel_rfl⟩ ?_
        refine TL.split 22 r4 (by kernel_rfl) (fun h4 => ?_) (fun h4 => ?_)
        · refine TL.run 24 [] [(26, .bool true)] rfl ⟨by kernel_rfl, by kernel_rfl⟩ ?_
          refine TL.next rfl ?_
          refine TC.condT rfl (by kernel_rfl) ?_
          refine TC.seq ?_
          refine TC.region ?_
          refine TL.run 1 [] [(2, .int .i64 4)] rfl ⟨by kernel_rfl, by kernel_rfl⟩ ?_
          refine TL.next rfl ?_
          refine TC.ret ?_
          refine TE.ret_then ?_
          have e : radar_CheckSpot s = 4 := by subst hr1 hr2 hr3 hr4; unfold radar_CheckSpot; exact cond_f h1 (cond_f h2 (cond_f h3 (cond_t h4 (rfl))))
          exact TE.ret [] (.int .i64 4) ⟨by kernel_rfl, by kernel_rfl⟩ (by rw [e]; first | done | kernel_rfl)
        · refine TL.run 22 [0] [(22, .bool false), (24, .int .i64 s.Error)] rfl ⟨by kernel_rfl, by kernel_rfl⟩ ?_
          refine TL.call (some 25) [(22, .bool false), (25, .bool ((radar_out s.Error 0 1000000)))] (fun w _ => radar_out_w s.Error 0 1000000 w) (by kernel_rfl) (by kernel_rfl) ?_
          generalize hr5 : radar_out s.Error 0 1000000 = r5
          refine TL.run 24 [] [(26, .bool r5)] rfl ⟨by kernel_rfl, by kernel_rfl⟩ ?_
          refine TL.next rfl ?_
          refine TC.cond r5 rfl (by kernel_rfl) (fun h5 => ?_) (fun h5 => ?_)
          · refine TC.seq ?_
            refine TC.region ?_
            refine TL.run 1 [] [(2, .int .i64 4)] rfl ⟨by kernel_rfl, by kernel_rfl⟩ ?_
            refine TL.next rfl ?_
            refine TC.ret ?_
            refine TE.ret_then ?_
            have e : radar_CheckSpot s = 4 := by subst hr1 hr2 hr3 hr4 hr5; unfold radar_CheckSpot; exact cond_f h1 (cond_f h2 (cond_f h3 (cond_f h4 (cond_t h5 (rfl)))))
            exact TE.ret [] (.int .i64 4) ⟨by kernel_rfl, by kernel_rfl⟩ (by rw [e]; first | done | kernel_rfl)
          · refine TC.skip ?_
            refine TE.next ?_
            refine TC.seq ?_
            refine TC.region ?_
            refine TL.run 1 [] [(2, .int .i64 0)] rfl ⟨by kernel_rfl, by kernel_rfl⟩ ?_
            refine TL.next rfl ?_
            refine TC.ret ?_
            have e : radar_CheckSpot s = 0 := by subst hr1 hr2 hr3 hr4 hr5; unfold radar_CheckSpot; exact cond_f h1 (cond_f h2 (cond_f h3 (cond_f h4 (cond_f h5 (rfl)))))
            exact TE.ret [] (.int .i64 0) ⟨by kernel_rfl, by kernel_rfl⟩ (by rw [e]; first | done | kernel_rfl)

def plane_Sub (a : P) (b_ : P) : P :=
  (⟨w64 (a.X - b_.X), w64 (a.Y - b_.Y)⟩ : P)

set_option maxRecDepth 100000 in
theorem plane_Sub_w (a : P) (b_ : P) (w : World) : Calls Try.prog 99 #[P.v a, P.v b_] w (Ret w (P.v (plane_Sub a b_))) := by
  refine calls_intro (vs := [P.v a, P.v b_]) (w := w) Try.func99 rfl Try.ntmps99 rfl ?_
  refine TC.weak [(0, P.v a), (1, P.v b_)] (by kernel_rfl) ?_
  refine TC.seq ?_
  refine TC.region ?_
  refine TL.write 0 (fun b1 => [(1, P.v b_), (2, .pointer (some ⟨b1, 0, none⟩))]) (fun b1 => [.inl (b1, .cells (P.c a) 23 (0, 0))]) (fun b1 => ⟨by kernel_rfl, by kernel_rfl⟩) (fun b1 => ?_)
  refine TL.write 0 (fun b2 => [(2, .pointer (some ⟨b1, 0, none⟩)), (3, .pointer (some ⟨b2, 0, none⟩))]) (fun b2 => [.inl (b2, .cells (P.c b_) 23 (0, 0)), .inl (b1, .cells (P.c a) 23 (0, 0))]) (fun b2 => ⟨by kernel_rfl, by kernel_rfl⟩) (fun b2 => ?_)
  refine TL.write 0 (fun b3 => [(2, .pointer (some ⟨b1, 0, none⟩)), (3, .pointer (some ⟨b2, 0, none⟩)), (4, .pointer (some ⟨b3, 0, none⟩))]) (fun b3 => [.inl (b3, .cells (P.c P.zero) 23 (0, 0)), .inl (b2, .cells (P.c b_) 23 (0, 0)), .inl (b1, .cells (P.c a) 23 (0, 0))]) (fun b3 => ⟨by kernel_rfl, by kernel_rfl⟩) (fun b3 => ?_)
  refine TL.next rfl ?_
  refine TC.seq ?_
  refine TC.region ?_
  refine TL.run 11 [2, 1, 2, 1] [(4, .pointer (some ⟨b3, 0, none⟩)), (15, .agg #[.int .i64 (w64 (a.X - b_.X)), .int .i64 (w64 (a.Y - b_.Y))])] rfl ⟨by kernel_rfl, by kernel_rfl⟩ ?_
  refine TL.write 0 (fun _ => [(4, .pointer (some ⟨b3, 0, none⟩))]) (fun _ => [.inl (b3, .cells #[.int .i64 (w64 (a.X - b_.X)), .int .i64 (w64 (a.Y - b_.Y))] 23 (0, 0)), .inl (b2, .cells (P.c b_) 23 (0, 0)), .inl (b1, .cells (P.c a) 23 (0, 0))]) (fun _ => ⟨by kernel_rfl, by kernel_rfl⟩) (fun _ => ?_)
  refine TL.next rfl ?_
  refine TC.ret ?_
  have e : plane_Sub a b_ = (⟨w64 (a.X - b_.X), w64 (a.Y - b_.Y)⟩ : P) := by unfold plane_Sub; exact rfl
  exact TE.ret [0] (.agg #[.int .i64 (w64 (a.X - b_.X)), .int .i64 (w64 (a.Y - b_.Y))]) ⟨by kernel_rfl, by kernel_rfl⟩ (by rw [e]; first | done | kernel_rfl)

def plane_Add (a : P) (b_ : P) : P :=
  (⟨w64 (a.X + b_.X), w64 (a.Y + b_.Y)⟩ : P)

set_option maxRecDepth 100000 in
theorem plane_Add_w (a : P) (b_ : P) (w : World) : Calls Try.prog 52 #[P.v a, P.v b_] w (Ret w (P.v (plane_Add a b_))) := by
  refine calls_intro (vs := [P.v a, P.v b_]) (w := w) Try.func52 rfl Try.ntmps52 rfl ?_
  refine TC.weak [(0, P.v a), (1, P.v b_)] (by kernel_rfl) ?_
  refine TC.seq ?_
  refine TC.region ?_
  refine TL.write 0 (fun b1 => [(1, P.v b_), (2, .pointer (some ⟨b1, 0, none⟩))]) (fun b1 => [.inl (b1, .cells (P.c a) 23 (0, 0))]) (fun b1 => ⟨by kernel_rfl, by kernel_rfl⟩) (fun b1 => ?_)
  refine TL.write 0 (fun b2 => [(2, .pointer (some ⟨b1, 0, none⟩)), (3, .pointer (some ⟨b2, 0, none⟩))]) (fun b2 => [.inl (b2, .cells (P.c b_) 23 (0, 0)), .inl (b1, .cells (P.c a) 23 (0, 0))]) (fun b2 => ⟨by kernel_rfl, by kernel_rfl⟩) (fun b2 => ?_)
  refine TL.write 0 (fun b3 => [(2, .pointer (some ⟨b1, 0, none⟩)), (3, .pointer (some ⟨b2, 0, none⟩)), (4, .pointer (some ⟨b3, 0, none⟩))]) (fun b3 => [.inl (b3, .cells (P.c P.zero) 23 (0, 0)), .inl (b2, .cells (P.c b_) 23 (0, 0)), .inl (b1, .cells (P.c a) 23 (0, 0))]) (fun b3 => ⟨by kernel_rfl, by kernel_rfl⟩) (fun b3 => ?_)
  refine TL.next rfl ?_
  refine TC.seq ?_
  refine TC.region ?_
  refine TL.run 11 [2, 1, 2, 1] [(4, .pointer (some ⟨b3, 0, none⟩)), (15, .agg #[.int .i64 (w64 (a.X + b_.X)), .int .i64 (w64 (a.Y + b_.Y))])] rfl ⟨by kernel_rfl, by kernel_rfl⟩ ?_
  refine TL.write 0 (fun _ => [(4, .pointer (some ⟨b3, 0, none⟩))]) (fun _ => [.inl (b3, .cells #[.int .i64 (w64 (a.X + b_.X)), .int .i64 (w64 (a.Y + b_.Y))] 23 (0, 0)), .inl (b2, .cells (P.c b_) 23 (0, 0)), .inl (b1, .cells (P.c a) 23 (0, 0))]) (fun _ => ⟨by kernel_rfl, by kernel_rfl⟩) (fun _ => ?_)
  refine TL.next rfl ?_
  refine TC.ret ?_
  have e : plane_Add a b_ = (⟨w64 (a.X + b_.X), w64 (a.Y + b_.Y)⟩ : P) := by unfold plane_Add; exact rfl
  exact TE.ret [0] (.agg #[.int .i64 (w64 (a.X + b_.X)), .int .i64 (w64 (a.Y + b_.Y))]) ⟨by kernel_rfl, by kernel_rfl⟩ (by rw [e]; first | done | kernel_rfl)

def plane_Dot (a : P) (b_ : P) : Int :=
  w64 ((w64 (a.X * b_.X)) + (w64 (a.Y * b_.Y)))

set_option maxRecDepth 100000 in
theorem plane_Dot_w (a : P) (b_ : P) (w : World) : Calls Try.prog 100 #[P.v a, P.v b_] w (Ret w (.int .i64 (plane_Dot a b_))) := by
  refine calls_intro (vs := [P.v a, P.v b_]) (w := w) Try.func100 rfl Try.ntmps100 rfl ?_
  refine TC.weak [(0, P.v a), (1, P.v b_)] (by kernel_rfl) ?_
  refine TC.seq ?_
  refine TC.region ?_
  refine TL.write 0 (fun b1 => [(1, P.v b_), (2, .pointer (some ⟨b1, 0, none⟩))]) (fun b1 => [.inl (b1, .cells (P.c a) 23 (0, 0))]) (fun b1 => ⟨by kernel_rfl, by kernel_rfl⟩) (fun b1 => ?_)
  refine TL.write 0 (fun b2 => [(2, .pointer (some ⟨b1, 0, none⟩)), (3, .pointer (some ⟨b2, 0, none⟩))]) (fun b2 => [.inl (b2, .cells (P.c b_) 23 (0, 0)), .inl (b1, .cells (P.c a) 23 (0, 0))]) (fun b2 => ⟨by kernel_rfl, by kernel_rfl⟩) (fun b2 => ?_)
  refine TL.run 3 [] [(2, .pointer (some ⟨b1, 0, none⟩)), (3, .pointer (some ⟨b2, 0, none⟩))] rfl ⟨by kernel_rfl, by kernel_rfl⟩ ?_
  refine TL.next rfl ?_
  refine TC.seq ?_
  refine TC.region ?_
  refine TL.run 12 [1, 0, 1, 0] [(4, .int .i64 (w64 ((w64 (a.X * b_.X)) + (w64 (a.Y * b_.Y)))))] rfl ⟨by kernel_rfl, by kernel_rfl⟩ ?_
  refine TL.next rfl ?_
  refine TC.ret ?_
  have e : plane_Dot a b_ = (w64 ((w64 (a.X * b_.X)) + (w64 (a.Y * b_.Y)))) := by unfold plane_Dot; exact rfl
  exact TE.ret [] (.int .i64 (w64 ((w64 (a.X * b_.X)) + (w64 (a.Y * b_.Y))))) ⟨by kernel_rfl, by kernel_rfl⟩ (by rw [e]; first | done | kernel_rfl)

def plane_Square (a : P) (b_ : P) : Int :=
  let r1 := plane_Sub a b_
  let r2 := plane_Dot r1 r1
  r2

set_option maxRecDepth 100000 in
theorem plane_Square_w (a : P) (b_ : P) (w : World) : Calls Try.prog 89 #[P.v a, P.v b_] w (Ret w (.int .i64 (plane_Square a b_))) := by
  refine calls_intro (vs := [P.v a, P.v b_]) (w := w) Try.func89 rfl Try.ntmps89 rfl ?_
  refine TC.weak [(0, P.v a), (1, P.v b_)] (by kernel_rfl) ?_
  refine TC.seq ?_
  refine TC.region ?_
  refine TL.write 0 (fun b1 => [(1, P.v b_), (2, .pointer (some ⟨b1, 0, none⟩))]) (fun b1 => [.inl (b1, .cells (P.c a) 23 (0, 0))]) (fun b1 => ⟨by kernel_rfl, by kernel_rfl⟩) (fun b1 => ?_)
  refine TL.write 0 (fun b2 => [(2, .pointer (some ⟨b1, 0, none⟩)), (3, .pointer (some ⟨b2, 0, none⟩))]) (fun b2 => [.inl (b2, .cells (P.c b_) 23 (0, 0)), .inl (b1, .cells (P.c a) 23 (0, 0))]) (fun b2 => ⟨by kernel_rfl, by kernel_rfl⟩) (fun b2 => ?_)
  refine TL.run 3 [] [(2, .pointer (some ⟨b1, 0, none⟩)), (3, .pointer (some ⟨b2, 0, none⟩))] rfl ⟨by kernel_rfl, by kernel_rfl⟩ ?_
  refine TL.next rfl ?_
  refine TC.seq ?_
  refine TC.region ?_
  refine TL.run 2 [1, 0] [(6, P.v a), (7, P.v b_)] rfl ⟨by kernel_rfl, by kernel_rfl⟩ ?_
  refine TL.call (some 8) [(8, P.v (plane_Sub a b_))] (fun w _ => plane_Sub_w a b_ w) (by kernel_rfl) (by kernel_rfl) ?_
  generalize hr1 : plane_Sub a b_ = r1
  refine TL.write 0 (fun b3 => [(5, .pointer (some ⟨b3, 0, none⟩)), (8, P.v r1)]) (fun b3 => [.inl (b3, .cells (P.c P.zero) 23 (0, 0)), .inl (b2, .cells (P.c b_) 23 (0, 0)), .inl (b1, .cells (P.c a) 23 (0, 0))]) (fun b3 => ⟨by kernel_rfl, by kernel_rfl⟩) (fun b3 => ?_)
  refine TL.write 0 (fun _ => [(5, .pointer (some ⟨b3, 0, none⟩))]) (fun _ => [.inl (b3, .cells (P.c r1) 23 (0, 0)), .inl (b2, .cells (P.c b_) 23 (0, 0)), .inl (b1, .cells (P.c a) 23 (0, 0))]) (fun _ => ⟨by kernel_rfl, by kernel_rfl⟩) (fun _ => ?_)
  refine TL.next rfl ?_
  refine TC.seq ?_
  refine TC.region ?_
  refine TL.run 2 [0, 0] [(9, P.v r1), (10, P.v r1)] rfl ⟨by kernel_rfl, by kernel_rfl⟩ ?_
  refine TL.call (some 11) [(11, .int .i64 (plane_Dot r1 r1))] (fun w _ => plane_Dot_w r1 r1 w) (by kernel_rfl) (by kernel_rfl) ?_
  generalize hr2 : plane_Dot r1 r1 = r2
  refine TL.run 4 [] [(4, .int .i64 r2)] rfl ⟨by kernel_rfl, by kernel_rfl⟩ ?_
  refine TL.next rfl ?_
  refine TC.ret ?_
  have e : plane_Square a b_ = r2 := by subst hr1 hr2; unfold plane_Square; exact rfl
  exact TE.ret [] (.int .i64 r2) ⟨by kernel_rfl, by kernel_rfl⟩ (by rw [e]; first | done | kernel_rfl)

def plane_Within (a : P) (b_ : P) (d : Int) : Bool :=
  cond ((decide (d ≥ 0)) && (decide (d ≤ 8000000))) (
    let r1 := plane_Square a b_
    decide (r1 ≤ (w64 (d * d)))) (
    false)

set_option maxRecDepth 100000 in
theorem plane_Within_w (a : P) (b_ : P) (d : Int) (w : World) : Calls Try.prog 61 #[P.v a, P.v b_, .int .i64 d] w (Ret w (.bool (plane_Within a b_ d))) := by
  refine calls_intro (vs := [P.v a, P.v b_, .int .i64 d]) (w := w) Try.func61 rfl Try.ntmps61 rfl ?_
  refine TC.weak [(0, P.v a), (1, P.v b_), (2, .int .i64 d)] (by kernel_rfl) ?_
  refine TC.seq ?_
  refine TC.region ?_
  refine TL.write 0 (fun b1 => [(1, P.v b_), (2, .int .i64 d), (3, .pointer (some ⟨b1, 0, none⟩))]) (fun b1 => [.inl (b1, .cells (P.c a) 23 (0, 0))]) (fun b1 => ⟨by kernel_rfl, by kernel_rfl⟩) (fun b1 => ?_)
  refine TL.write 0 (fun b2 => [(2, .int .i64 d), (3, .pointer (some ⟨b1, 0, none⟩)), (4, .pointer (some ⟨b2, 0, none⟩))]) (fun b2 => [.inl (b2, .cells (P.c b_) 23 (0, 0)), .inl (b1, .cells (P.c a) 23 (0, 0))]) (fun b2 => ⟨by kernel_rfl, by kernel_rfl⟩) (fun b2 => ?_)
  refine TL.run 3 [] [(2, .int .i64 d), (3, .pointer (some ⟨b1, 0, none⟩)), (4, .pointer (some ⟨b2, 0, none⟩))] rfl ⟨by kernel_rfl, by kernel_rfl⟩ ?_
  refine TL.next rfl ?_
  refine TC.seq ?_
  refine TC.region ?_
  refine TL.run 3 [] [(2, .int .i64 d), (3, .pointer (some ⟨b1, 0, none⟩)), (4, .pointer (some ⟨b2, 0, none⟩)), (9, .bool (decide (d ≥ 0)))] rfl ⟨by kernel_rfl, by kernel_rfl⟩ ?_
  refine TL.join 9 (decide (d ≥ 0)) 6 [] [] (fun β => [(2, .int .i64 d), (3, .pointer (some ⟨b1, 0, none⟩)), (4, .pointer (some ⟨b2, 0, none⟩)), (12, .bool (β && (decide (d ≤ 8000000))))]) (by kernel_rfl) rfl ⟨by kernel_rfl, by kernel_rfl⟩ ⟨by kernel_rfl, by kernel_rfl⟩ ?_
  refine TL.run 7 [] [(2, .int .i64 d), (3, .pointer (some ⟨b1, 0, none⟩)), (4, .pointer (some ⟨b2, 0, none⟩)), (13, .bool ((decide (d ≥ 0)) && (decide (d ≤ 8000000))))] rfl ⟨by kernel_rfl, by kernel_rfl⟩ ?_
  refine TL.split 13 ((decide (d ≥ 0)) && (decide (d ≤ 8000000))) (by kernel_rfl) (fun h1 => ?_) (fun h1 => ?_)
  · refine TL.run 9 [1, 0] [(2, .int .i64 d), (13, .bool true), (14, P.v a), (15, P.v b_)] rfl ⟨by kernel_rfl, by kernel_rfl⟩ ?_
    refine TL.call (some 16) [(2, .int .i64 d), (13, .bool true), (16, .int .i64 (plane_Square a b_))] (fun w _ => plane_Square_w a b_ w) (by kernel_rfl) (by kernel_rfl) ?_
    generalize hr1 : plane_Square a b_ = r1
    refine TL.run 16 [] [(6, .bool (decide (r1 ≤ (w64 (d * d)))))] rfl ⟨by kernel_rfl, by kernel_rfl⟩ ?_
    refine TL.next rfl ?_
    refine TC.ret ?_
    have e : plane_Within a b_ d = (decide (r1 ≤ (w64 (d * d)))) := by subst hr1; unfold plane_Within; exact cond_t h1 (rfl)
    exact TE.ret [] (.bool (decide (r1 ≤ (w64 (d * d))))) ⟨by kernel_rfl, by kernel_rfl⟩ (by rw [e]; first | done | kernel_rfl)
  · refine TL.run 16 [] [(6, .bool false)] rfl ⟨by kernel_rfl, by kernel_rfl⟩ ?_
    refine TL.next rfl ?_
    refine TC.ret ?_
    have e : plane_Within a b_ d = false := by unfold plane_Within; exact cond_f h1 (rfl)
    exact TE.ret [] (.bool false) ⟨by kernel_rfl, by kernel_rfl⟩ (by rw [e]; first | done | kernel_rfl)

def num_DivDown (a : Int) (b_ : Int) : Int × Int :=
  cond (b_ == 0) (
    (0, 10)) (
    cond ((a == (-9223372036854775808)) && (b_ == (-1))) (
      (0, 2)) (
      cond (((a.tmod b_) != 0) && (!((decide (a < 0)) == (decide (b_ < 0))))) (
        (w64 ((w64 (a.tdiv b_)) - 1), 0)) (
        (w64 (a.tdiv b_), 0))))

set_option maxRecDepth 100000 in
theorem num_DivDown_w (a : Int) (b_ : Int) (w : World) : Calls Try.prog 76 #[.int .i64 a, .int .i64 b_] w (Ret w (.tuple #[.int .i64 ((num_DivDown a b_).1), .int .i64 ((num_DivDown a b_).2)])) := by
  refine calls_intro (vs := [.int .i64 a, .int .i64 b_]) (w := w) Try.func76 rfl Try.ntmps76 rfl ?_
  refine TC.weak [(0, .int .i64 a), (1, .int .i64 b_)] (by kernel_rfl) ?_
  refine TC.seq ?_
  refine TC.region ?_
  refine TL.run 2 [] [(0, .int .i64 a), (1, .int .i64 b_)] rfl ⟨by kernel_rfl, by kernel_rfl⟩ ?_
  refine TL.next rfl ?_
  refine TC.seq ?_
  refine TC.block ?_
  refine TC.seq ?_
  refine TC.region ?_
  refine TL.run 3 [] [(0, .int .i64 a), (1, .int .i64 b_), (7, .bool (b_ == 0))] rfl ⟨by kernel_rfl, by kernel_rfl⟩ ?_
  refine TL.next rfl ?_
  refine TC.cond (b_ == 0) rfl (by kernel_rfl) (fun h1 => ?_) (fun h1 => ?_)
  · refine TC.seq ?_
    refine TC.region ?_
    refine TL.run 2 [] [(4, .int .i64 0), (5, .int .i64 10)] rfl ⟨by kernel_rfl, by kernel_rfl⟩ ?_
    refine TL.next rfl ?_
    refine TC.ret ?_
    refine TE.ret_block (TE.ret_then ?_)
    have e : num_DivDown a b_ = (0, 10) := by unfold num_DivDown; exact cond_t h1 (rfl)
    exact TE.ret [] (.tuple #[.int .i64 0, .int .i64 10]) ⟨by kernel_rfl, by kernel_rfl⟩ (by rw [e]; first | done | kernel_rfl)
  · refine TC.seq ?_
    refine TC.region ?_
    refine TL.run 3 [] [(0, .int .i64 a), (1, .int .i64 b_), (13, .bool (a == (-9223372036854775808)))] rfl ⟨by kernel_rfl, by kernel_rfl⟩ ?_
    refine TL.join 13 (a == (-9223372036854775808)) 6 [] [] (fun β => [(0, .int .i64 a), (1, .int .i64 b_), (16, .bool (β && (b_ == (-1))))]) (by kernel_rfl) rfl ⟨by kernel_rfl, by kernel_rfl⟩ ⟨by kernel_rfl, by kernel_rfl⟩ ?_
    refine TL.run 7 [] [(0, .int .i64 a), (1, .int .i64 b_), (10, .bool ((a == (-9223372036854775808)) && (b_ == (-1))))] rfl ⟨by kernel_rfl, by kernel_rfl⟩ ?_
    refine TL.next rfl ?_
    refine TC.cond ((a == (-9223372036854775808)) && (b_ == (-1))) rfl (by kernel_rfl) (fun h2 => ?_) (fun h2 => ?_)
    · refine TC.seq ?_
      refine TC.region ?_
      refine TL.run 2 [] [(4, .int .i64 0), (5, .int .i64 2)] rfl ⟨by kernel_rfl, by kernel_rfl⟩ ?_
      refine TL.next rfl ?_
      refine TC.ret ?_
      refine TE.ret_block (TE.ret_then ?_)
      have e : num_DivDown a b_ = (0, 2) := by unfold num_DivDown; exact cond_f h1 (cond_t h2 (rfl))
      exact TE.ret [] (.tuple #[.int .i64 0, .int .i64 2]) ⟨by kernel_rfl, by kernel_rfl⟩ (by rw [e]; first | done | kernel_rfl)
    · refine TC.skip ?_
      refine TE.normal_block ?_
      refine TE.next ?_
      refine TC.seq ?_
      refine TC.region ?_
      refine TL.run 2 [] [(0, .int .i64 a), (1, .int .i64 b_), (17, .int .i64 a), (18, .int .i64 b_)] rfl ⟨by kernel_rfl, by kernel_rfl⟩ ?_
      refine TL.val (sV (binOp .quo 3 (.int .i64 a) (.int .i64 b_))) (some 19) (.int .i64 (w64 (a.tdiv b_))) [(0, .int .i64 a), (1, .int .i64 b_), (19, .int .i64 (w64 (a.tdiv b_)))] (fun w hM => run_quo (by have q0_ := (beq_f h1); have q1_ := ((and_f h2).imp (fun h => (beq_f h)) (fun h => (beq_f h))); first | omega | (simp only [List.length_drop]; omega) | (simp only [w64_eq]; omega) | exact (tm_in (by (first | (rw [w64_id (by omega)]; omega) | (simp only [w64_eq]; omega))) (by omega)).1 | exact (tm_in (by (first | (rw [w64_id (by omega)]; omega) | (simp only [w64_eq]; omega))) (by omega)).2.1 | exact (tm_in (by (first | (rw [w64_id (by omega)]; omega) | (simp only [w64_eq]; omega))) (by omega)).2.2 | (simp <;> omega))) (by kernel_rfl) (by kernel_rfl) ?_
      refine TL.run 4 [] [(0, .int .i64 a), (1, .int .i64 b_), (6, .int .i64 (w64 (a.tdiv b_)))] rfl ⟨by kernel_rfl, by kernel_rfl⟩ ?_
      refine TL.next rfl ?_
      refine TC.seq ?_
      refine TC.seq ?_
      refine TC.region ?_
      refine TL.run 2 [] [(0, .int .i64 a), (1, .int .i64 b_), (6, .int .i64 (w64 (a.tdiv b_))), (20, .int .i64 a), (21, .int .i64 b_)] rfl ⟨by kernel_rfl, by kernel_rfl⟩ ?_
      refine TL.val (sV (binOp .rem 3 (.int .i64 a) (.int .i64 b_))) (some 22) (.int .i64 (a.tmod b_)) [(0, .int .i64 a), (1, .int .i64 b_), (6, .int .i64 (w64 (a.tdiv b_))), (22, .int .i64 (a.tmod b_))] (fun w hM => run_rem (by have q0_ := (beq_f h1); have q1_ := ((and_f h2).imp (fun h => (beq_f h)) (fun h => (beq_f h))); first | omega | (simp only [List.length_drop]; omega) | (simp only [w64_eq]; omega) | exact (tm_in (by (first | (rw [w64_id (by omega)]; omega) | (simp only [w64_eq]; omega))) (by omega)).1 | exact (tm_in (by (first | (rw [w64_id (by omega)]; omega) | (simp only [w64_eq]; omega))) (by omega)).2.1 | exact (tm_in (by (first | (rw [w64_id (by omega)]; omega) | (simp only [w64_eq]; omega))) (by omega)).2.2 | (simp <;> omega))) (by kernel_rfl) (by kernel_rfl) ?_
      refine TL.run 5 [] [(0, .int .i64 a), (1, .int .i64 b_), (6, .int .i64 (w64 (a.tdiv b_))), (24, .bool ((a.tmod b_) != 0))] rfl ⟨by kernel_rfl, by kernel_rfl⟩ ?_
      refine TL.join 24 ((a.tmod b_) != 0) 11 [] [] (fun β => [(6, .int .i64 (w64 (a.tdiv b_))), (30, .bool (β && (!((decide (a < 0)) == (decide (b_ < 0))))))]) (by kernel_rfl) rfl ⟨by kernel_rfl, by kernel_rfl⟩ ⟨by kernel_rfl, by kernel_rfl⟩ ?_
      refine TL.next rfl ?_
      refine TC.cond (((a.tmod b_) != 0) && (!((decide (a < 0)) == (decide (b_ < 0))))) rfl (by kernel_rfl) (fun h3 => ?_) (fun h3 => ?_)
      · refine TC.region ?_
        refine TL.run 3 [] [(6, .int .i64 (w64 ((w64 (a.tdiv b_)) - 1)))] rfl ⟨by kernel_rfl, by kernel_rfl⟩ ?_
        refine TL.next rfl ?_
        refine TC.seq ?_
        refine TC.region ?_
        refine TL.run 3 [] [(4, .int .i64 (w64 ((w64 (a.tdiv b_)) - 1))), (5, .int .i64 0)] rfl ⟨by kernel_rfl, by kernel_rfl⟩ ?_
        refine TL.next rfl ?_
        refine TC.ret ?_
        have e : num_DivDown a b_ = (w64 ((w64 (a.tdiv b_)) - 1), 0) := by unfold num_DivDown; exact cond_f h1 (cond_f h2 (cond_t h3 (rfl)))
        exact TE.ret [] (.tuple #[.int .i64 (w64 ((w64 (a.tdiv b_)) - 1)), .int .i64 0]) ⟨by kernel_rfl, by kernel_rfl⟩ (by rw [e]; first | done | kernel_rfl)
      · refine TC.skip ?_
        refine TE.next ?_
        refine TC.seq ?_
        refine TC.region ?_
        refine TL.run 3 [] [(4, .int .i64 (w64 (a.tdiv b_))), (5, .int .i64 0)] rfl ⟨by kernel_rfl, by kernel_rfl⟩ ?_
        refine TL.next rfl ?_
        refine TC.ret ?_
        have e : num_DivDown a b_ = (w64 (a.tdiv b_), 0) := by unfold num_DivDown; exact cond_f h1 (cond_f h2 (cond_f h3 (rfl)))
        exact TE.ret [] (.tuple #[.int .i64 (w64 (a.tdiv b_)), .int .i64 0]) ⟨by kernel_rfl, by kernel_rfl⟩ (by rw [e]; first | done | kernel_rfl)

def num_DivUp (a : Int) (b_ : Int) : Int × Int :=
  let r1 := num_DivDown a b_
  cond (r1.2 == 0) (
    cond ((a.tmod b_) != 0) (
      (w64 (r1.1 + 1), r1.2)) (
      (r1.1, r1.2))) (
    (r1.1, r1.2))

theorem divUp_ne {a b : Int} {r : Int × Int} (hr : num_DivDown a b = r) (h : (r.2 == 0) = true) : b ≠ 0 := by
  rintro rfl; subst hr; revert h; simp [num_DivDown]

set_option maxRecDepth 100000 in
theorem num_DivUp_w (a : Int) (b_ : Int) (w : World) : Calls Try.prog 87 #[.int .i64 a, .int .i64 b_] w (Ret w (.tuple #[.int .i64 ((num_DivUp a b_).1), .int .i64 ((num_DivUp a b_).2)])) := by
  refine calls_intro (vs := [.int .i64 a, .int .i64 b_]) (w := w) Try.func87 rfl Try.ntmps87 rfl ?_
  refine TC.weak [(0, .int .i64 a), (1, .int .i64 b_)] (by kernel_rfl) ?_
  refine TC.seq ?_
  refine TC.region ?_
  refine TL.run 2 [] [(0, .int .i64 a), (1, .int .i64 b_)] rfl ⟨by kernel_rfl, by kernel_rfl⟩ ?_
  refine TL.next rfl ?_
  refine TC.seq ?_
  refine TC.region ?_
  refine TL.run 2 [] [(0, .int .i64 a), (1, .int .i64 b_), (9, .int .i64 a), (10, .int .i64 b_)] rfl ⟨by kernel_rfl, by kernel_rfl⟩ ?_
  refine TL.call (some 11) [(0, .int .i64 a), (1, .int .i64 b_), (11, .tuple #[.int .i64 ((num_DivDown a b_).1), .int .i64 ((num_DivDown a b_).2)])] (fun w _ => num_DivDown_w a b_ w) (by kernel_rfl) (by kernel_rfl) ?_
  generalize hr1 : num_DivDown a b_ = r1
  refine TL.run 8 [] [(0, .int .i64 a), (1, .int .i64 b_), (6, .int .i64 r1.1), (7, .int .i64 r1.2)] rfl ⟨by kernel_rfl, by kernel_rfl⟩ ?_
  refine TL.next rfl ?_
  refine TC.seq ?_
  refine TC.seq ?_
  refine TC.region ?_
  refine TL.run 3 [] [(0, .int .i64 a), (1, .int .i64 b_), (6, .int .i64 r1.1), (7, .int .i64 r1.2), (16, .bool (r1.2 == 0))] rfl ⟨by kernel_rfl, by kernel_rfl⟩ ?_
  refine TL.split 16 (r1.2 == 0) (by kernel_rfl) (fun h1 => ?_) (fun h1 => ?_)
  · refine TL.run 5 [] [(6, .int .i64 r1.1), (7, .int .i64 r1.2), (16, .bool true), (17, .int .i64 a), (18, .int .i64 b_)] rfl ⟨by kernel_rfl, by kernel_rfl⟩ ?_
    refine TL.val (sV (binOp .rem 3 (.int .i64 a) (.int .i64 b_))) (some 19) (.int .i64 (a.tmod b_)) [(6, .int .i64 r1.1), (7, .int .i64 r1.2), (16, .bool true), (19, .int .i64 (a.tmod b_))] (fun w hM => run_rem (divUp_ne hr1 h1)) (by kernel_rfl) (by kernel_rfl) ?_
    refine TL.run 8 [] [(6, .int .i64 r1.1), (7, .int .i64 r1.2), (21, .bool ((a.tmod b_) != 0))] rfl ⟨by kernel_rfl, by kernel_rfl⟩ ?_
    refine TL.next rfl ?_
    refine TC.cond ((a.tmod b_) != 0) rfl (by kernel_rfl) (fun h2 => ?_) (fun h2 => ?_)
    · refine TC.region ?_
      refine TL.run 3 [] [(6, .int .i64 (w64 (r1.1 + 1))), (7, .int .i64 r1.2)] rfl ⟨by kernel_rfl, by kernel_rfl⟩ ?_
      refine TL.next rfl ?_
      refine TC.seq ?_
      refine TC.region ?_
      refine TL.run 4 [] [(4, .int .i64 (w64 (r1.1 + 1))), (5, .int .i64 r1.2)] rfl ⟨by kernel_rfl, by kernel_rfl⟩ ?_
      refine TL.next rfl ?_
      refine TC.ret ?_
      have e : num_DivUp a b_ = (w64 (r1.1 + 1), r1.2) := by subst hr1; unfold num_DivUp; exact cond_t h1 (cond_t h2 (rfl))
      exact TE.ret [] (.tuple #[.int .i64 (w64 (r1.1 + 1)), .int .i64 r1.2]) ⟨by kernel_rfl, by kernel_rfl⟩ (by rw [e]; first | done | kernel_rfl)
    · refine TC.skip ?_
      refine TE.next ?_
      refine TC.seq ?_
      refine TC.region ?_
      refine TL.run 4 [] [(4, .int .i64 r1.1), (5, .int .i64 r1.2)] rfl ⟨by kernel_rfl, by kernel_rfl⟩ ?_
      refine TL.next rfl ?_
      refine TC.ret ?_
      have e : num_DivUp a b_ = (r1.1, r1.2) := by subst hr1; unfold num_DivUp; exact cond_t h1 (cond_f h2 (rfl))
      exact TE.ret [] (.tuple #[.int .i64 r1.1, .int .i64 r1.2]) ⟨by kernel_rfl, by kernel_rfl⟩ (by rw [e]; first | done | kernel_rfl)
  · refine TL.run 8 [] [(6, .int .i64 r1.1), (7, .int .i64 r1.2), (21, .bool false)] rfl ⟨by kernel_rfl, by kernel_rfl⟩ ?_
    refine TL.next rfl ?_
    refine TC.condF rfl (by kernel_rfl) ?_
    refine TC.skip ?_
    refine TE.next ?_
    refine TC.seq ?_
    refine TC.region ?_
    refine TL.run 4 [] [(4, .int .i64 r1.1), (5, .int .i64 r1.2)] rfl ⟨by kernel_rfl, by kernel_rfl⟩ ?_
    refine TL.next rfl ?_
    refine TC.ret ?_
    have e : num_DivUp a b_ = (r1.1, r1.2) := by subst hr1; unfold num_DivUp; exact cond_f h1 (rfl)
    exact TE.ret [] (.tuple #[.int .i64 r1.1, .int .i64 r1.2]) ⟨by kernel_rfl, by kernel_rfl⟩ (by rw [e]; first | done | kernel_rfl)

def num_Between (n : Int) (low : Int) (high : Int) : Int :=
  cond ((decide (n < low)) || (decide (low > high))) (
    low) (
    cond (decide (n > high)) (
      high) (
      n))

set_option maxRecDepth 100000 in
theorem num_Between_w (n : Int) (low : Int) (high : Int) (w : World) : Calls Try.prog 54 #[.int .i64 n, .int .i64 low, .int .i64 high] w (Ret w (.int .i64 (num_Between n low high))) := by
  refine calls_intro (vs := [.int .i64 n, .int .i64 low, .int .i64 high]) (w := w) Try.func54 rfl Try.ntmps54 rfl ?_
  refine TC.weak [(0, .int .i64 n), (1, .int .i64 low), (2, .int .i64 high)] (by kernel_rfl) ?_
  refine TC.seq ?_
  refine TC.region ?_
  refine TL.run 1 [] [(0, .int .i64 n), (1, .int .i64 low), (2, .int .i64 high)] rfl ⟨by kernel_rfl, by kernel_rfl⟩ ?_
  refine TL.next rfl ?_
  refine TC.seq ?_
  refine TC.block ?_
  refine TC.seq ?_
  refine TC.region ?_
  refine TL.run 4 [] [(0, .int .i64 n), (1, .int .i64 low), (2, .int .i64 high), (11, .bool (decide (n < low)))] rfl ⟨by kernel_rfl, by kernel_rfl⟩ ?_
  refine TL.join 11 (decide (n < low)) 8 [] [] (fun β => [(0, .int .i64 n), (1, .int .i64 low), (2, .int .i64 high), (15, .bool (β || (decide (low > high))))]) (by kernel_rfl) rfl ⟨by kernel_rfl, by kernel_rfl⟩ ⟨by kernel_rfl, by kernel_rfl⟩ ?_
  refine TL.run 9 [] [(0, .int .i64 n), (1, .int .i64 low), (2, .int .i64 high), (7, .bool ((decide (n < low)) || (decide (low > high))))] rfl ⟨by kernel_rfl, by kernel_rfl⟩ ?_
  refine TL.next rfl ?_
  refine TC.cond ((decide (n < low)) || (decide (low > high))) rfl (by kernel_rfl) (fun h1 => ?_) (fun h1 => ?_)
  · refine TC.seq ?_
    refine TC.region ?_
    refine TL.run 2 [] [(6, .int .i64 low)] rfl ⟨by kernel_rfl, by kernel_rfl⟩ ?_
    refine TL.next rfl ?_
    refine TC.ret ?_
    refine TE.ret_block (TE.ret_then ?_)
    have e : num_Between n low high = low := by unfold num_Between; exact cond_t h1 (rfl)
    exact TE.ret [] (.int .i64 low) ⟨by kernel_rfl, by kernel_rfl⟩ (by rw [e]; first | done | kernel_rfl)
  · refine TC.seq ?_
    refine TC.region ?_
    refine TL.run 4 [] [(0, .int .i64 n), (2, .int .i64 high), (17, .bool (decide (n > high)))] rfl ⟨by kernel_rfl, by kernel_rfl⟩ ?_
    refine TL.next rfl ?_
    refine TC.cond (decide (n > high)) rfl (by kernel_rfl) (fun h2 => ?_) (fun h2 => ?_)
    · refine TC.seq ?_
      refine TC.region ?_
      refine TL.run 2 [] [(6, .int .i64 high)] rfl ⟨by kernel_rfl, by kernel_rfl⟩ ?_
      refine TL.next rfl ?_
      refine TC.ret ?_
      refine TE.ret_block (TE.ret_then ?_)
      have e : num_Between n low high = high := by unfold num_Between; exact cond_f h1 (cond_t h2 (rfl))
      exact TE.ret [] (.int .i64 high) ⟨by kernel_rfl, by kernel_rfl⟩ (by rw [e]; first | done | kernel_rfl)
    · refine TC.skip ?_
      refine TE.normal_block ?_
      refine TE.next ?_
      refine TC.seq ?_
      refine TC.region ?_
      refine TL.run 2 [] [(6, .int .i64 n)] rfl ⟨by kernel_rfl, by kernel_rfl⟩ ?_
      refine TL.next rfl ?_
      refine TC.ret ?_
      have e : num_Between n low high = n := by unfold num_Between; exact cond_f h1 (cond_f h2 (rfl))
      exact TE.ret [] (.int .i64 n) ⟨by kernel_rfl, by kernel_rfl⟩ (by rw [e]; first | done | kernel_rfl)

def gate_CheckTrack (t : Track) : Int :=
  let r1 := radar_CheckSpot (⟨t.Time, t.At, t.Height, t.Code, 0⟩ : Spot)
  cond (((r1 != 0) || (decide (t.Radius < 0))) || (decide (t.Radius > 4000000))) (
    4) (
    0)

set_option maxRecDepth 100000 in
theorem gate_CheckTrack_w (t : Track) (w : World) : Calls Try.prog 79 #[Track.v t] w (Ret w (.int .i64 (gate_CheckTrack t))) := by
  refine calls_intro (vs := [Track.v t]) (w := w) Try.func79 rfl Try.ntmps79 rfl ?_
  refine TC.weak [(0, Track.v t)] (by kernel_rfl) ?_
  refine TC.seq ?_
  refine TC.region ?_
  refine TL.write 0 (fun b1 => [(1, .pointer (some ⟨b1, 0, none⟩))]) (fun b1 => [.inl (b1, .cells (Track.c t) 25 (0, 0))]) (fun b1 => ⟨by kernel_rfl, by kernel_rfl⟩) (fun b1 => ?_)
  refine TL.run 2 [] [(1, .pointer (some ⟨b1, 0, none⟩))] rfl ⟨by kernel_rfl, by kernel_rfl⟩ ?_
  refine TL.next rfl ?_
  refine TC.seq ?_
  refine TC.seq ?_
  refine TC.region ?_
  refine TL.run 9 [0, 0, 0, 0] [(1, .pointer (some ⟨b1, 0, none⟩)), (11, .agg #[.int .i64 t.Time, .int .i64 t.At.X, .int .i64 t.At.Y, .int .i64 t.Height, .int .i64 t.Code, .int .i64 0])] rfl ⟨by kernel_rfl, by kernel_rfl⟩ ?_
  refine TL.call (some 12) [(1, .pointer (some ⟨b1, 0, none⟩)), (12, .int .i64 (radar_CheckSpot (⟨t.Time, t.At, t.Height, t.Code, 0⟩ : Spot)))] (fun w _ => radar_CheckSpot_w (⟨t.Time, t.At, t.Height, t.Code, 0⟩ : Spot) w) (by kernel_rfl) (by kernel_rfl) ?_
  generalize hr1 : radar_CheckSpot (⟨t.Time, t.At, t.Height, t.Code, 0⟩ : Spot) = r1
  refine TL.run 12 [] [(1, .pointer (some ⟨b1, 0, none⟩)), (14, .bool (r1 != 0))] rfl ⟨by kernel_rfl, by kernel_rfl⟩ ?_
  refine TL.join 14 (r1 != 0) 16 [] [0] (fun β => [(1, .pointer (some ⟨b1, 0, none⟩)), (18, .bool (β || (decide (t.Radius < 0))))]) (by kernel_rfl) rfl ⟨by kernel_rfl, by kernel_rfl⟩ ⟨by kernel_rfl, by kernel_rfl⟩ ?_
  refine TL.run 17 [] [(1, .pointer (some ⟨b1, 0, none⟩)), (19, .bool ((r1 != 0) || (decide (t.Radius < 0))))] rfl ⟨by kernel_rfl, by kernel_rfl⟩ ?_
  refine TL.join 19 ((r1 != 0) || (decide (t.Radius < 0))) 21 [] [0] (fun β => [(23, .bool (β || (decide (t.Radius > 4000000))))]) (by kernel_rfl) rfl ⟨by kernel_rfl, by kernel_rfl⟩ ⟨by kernel_rfl, by kernel_rfl⟩ ?_
  refine TL.next rfl ?_
  refine TC.cond (((r1 != 0) || (decide (t.Radius < 0))) || (decide (t.Radius > 4000000))) rfl (by kernel_rfl) (fun h1 => ?_) (fun h1 => ?_)
  · refine TC.seq ?_
    refine TC.region ?_
    refine TL.run 1 [] [(2, .int .i64 4)] rfl ⟨by kernel_rfl, by kernel_rfl⟩ ?_
    refine TL.next rfl ?_
    refine TC.ret ?_
    refine TE.ret_then ?_
    have e : gate_CheckTrack t = 4 := by subst hr1; unfold gate_CheckTrack; exact cond_t h1 (rfl)
    exact TE.ret [] (.int .i64 4) ⟨by kernel_rfl, by kernel_rfl⟩ (by rw [e]; first | done | kernel_rfl)
  · refine TC.skip ?_
    refine TE.next ?_
    refine TC.seq ?_
    refine TC.region ?_
    refine TL.run 1 [] [(2, .int .i64 0)] rfl ⟨by kernel_rfl, by kernel_rfl⟩ ?_
    refine TL.next rfl ?_
    refine TC.ret ?_
    have e : gate_CheckTrack t = 0 := by subst hr1; unfold gate_CheckTrack; exact cond_f h1 (rfl)
    exact TE.ret [] (.int .i64 0) ⟨by kernel_rfl, by kernel_rfl⟩ (by rw [e]; first | done | kernel_rfl)

def gate_Reach (slack : Int) (accel : Int) (seconds : Int) : Int × Int :=
  cond ((((decide (slack < 0)) || (decide (slack > 409600))) || (decide (accel < 0))) || (decide (accel > 20))) (
    (0, 4)) (
    cond ((decide (seconds < 0)) || (decide (seconds > 600))) (
      (0, 12)) (
      cond (seconds == 0) (
        (0, 0)) (
        let r1 := num_DivUp (w64 (slack * seconds)) 16
        let r2 := num_DivUp (w64 ((w64 (accel * seconds)) * seconds)) 2
        (w64 ((w64 (r1.1 + r2.1)) + 2), 0))))

set_option maxRecDepth 100000 in
theorem gate_Reach_w (slack : Int) (accel : Int) (seconds : Int) (w : World) : Calls Try.prog 55 #[.int .i64 slack, .int .i64 accel, .int .i64 seconds] w (Ret w (.tuple #[.int .i64 ((gate_Reach slack accel seconds).1), .int .i64 ((gate_Reach slack accel seconds).2)])) := by
  refine calls_intro (vs := [.int .i64 slack, .int .i64 accel, .int .i64 seconds]) (w := w) Try.func55 rfl Try.ntmps55 rfl ?_
  refine TC.weak [(0, .int .i64 slack), (1, .int .i64 accel), (2, .int .i64 seconds)] (by kernel_rfl) ?_
  refine TC.seq ?_
  refine TC.region ?_
  refine TL.run 2 [] [(0, .int .i64 slack), (1, .int .i64 accel), (2, .int .i64 seconds)] rfl ⟨by kernel_rfl, by kernel_rfl⟩ ?_
  refine TL.next rfl ?_
  refine TC.seq ?_
  refine TC.block ?_
  refine TC.seq ?_
  refine TC.region ?_
  refine TL.run 3 [] [(0, .int .i64 slack), (1, .int .i64 accel), (2, .int .i64 seconds), (15, .bool (decide (slack < 0)))] rfl ⟨by kernel_rfl, by kernel_rfl⟩ ?_
  refine TL.join 15 (decide (slack < 0)) 6 [] [] (fun β => [(0, .int .i64 slack), (1, .int .i64 accel), (2, .int .i64 seconds), (18, .bool (β || (decide (slack > 409600))))]) (by kernel_rfl) rfl ⟨by kernel_rfl, by kernel_rfl⟩ ⟨by kernel_rfl, by kernel_rfl⟩ ?_
  refine TL.run 7 [] [(0, .int .i64 slack), (1, .int .i64 accel), (2, .int .i64 seconds), (19, .bool ((decide (slack < 0)) || (decide (slack > 409600))))] rfl ⟨by kernel_rfl, by kernel_rfl⟩ ?_
  refine TL.join 19 ((decide (slack < 0)) || (decide (slack > 409600))) 10 [] [] (fun β => [(0, .int .i64 slack), (1, .int .i64 accel), (2, .int .i64 seconds), (22, .bool (β || (decide (accel < 0))))]) (by kernel_rfl) rfl ⟨by kernel_rfl, by kernel_rfl⟩ ⟨by kernel_rfl, by kernel_rfl⟩ ?_
  refine TL.run 11 [] [(0, .int .i64 slack), (1, .int .i64 accel), (2, .int .i64 seconds), (23, .bool (((decide (slack < 0)) || (decide (slack > 409600))) || (decide (accel < 0))))] rfl ⟨by kernel_rfl, by kernel_rfl⟩ ?_
  refine TL.join 23 (((decide (slack < 0)) || (decide (slack > 409600))) || (decide (accel < 0))) 14 [] [] (fun β => [(0, .int .i64 slack), (1, .int .i64 accel), (2, .int .i64 seconds), (26, .bool (β || (decide (accel > 20))))]) (by kernel_rfl) rfl ⟨by kernel_rfl, by kernel_rfl⟩ ⟨by kernel_rfl, by kernel_rfl⟩ ?_
  refine TL.run 15 [] [(0, .int .i64 slack), (1, .int .i64 accel), (2, .int .i64 seconds), (12, .bool ((((decide (slack < 0)) || (decide (slack > 409600))) || (decide (accel < 0))) || (decide (accel > 20))))] rfl ⟨by kernel_rfl, by kernel_rfl⟩ ?_
  refine TL.next rfl ?_
  refine TC.cond ((((decide (slack < 0)) || (decide (slack > 409600))) || (decide (accel < 0))) || (decide (accel > 20))) rfl (by kernel_rfl) (fun h1 => ?_) (fun h1 => ?_)
  · refine TC.seq ?_
    refine TC.region ?_
    refine TL.run 2 [] [(6, .int .i64 0), (7, .int .i64 4)] rfl ⟨by kernel_rfl, by kernel_rfl⟩ ?_
    refine TL.next rfl ?_
    refine TC.ret ?_
    refine TE.ret_block (TE.ret_then ?_)
    have e : gate_Reach slack accel seconds = (0, 4) := by unfold gate_Reach; exact cond_t h1 (rfl)
    exact TE.ret [] (.tuple #[.int .i64 0, .int .i64 4]) ⟨by kernel_rfl, by kernel_rfl⟩ (by rw [e]; first | done | kernel_rfl)
  · refine TC.seq ?_
    refine TC.region ?_
    refine TL.run 3 [] [(0, .int .i64 slack), (1, .int .i64 accel), (2, .int .i64 seconds), (30, .bool (decide (seconds < 0)))] rfl ⟨by kernel_rfl, by kernel_rfl⟩ ?_
    refine TL.join 30 (decide (seconds < 0)) 6 [] [] (fun β => [(0, .int .i64 slack), (1, .int .i64 accel), (2, .int .i64 seconds), (33, .bool (β || (decide (seconds > 600))))]) (by kernel_rfl) rfl ⟨by kernel_rfl, by kernel_rfl⟩ ⟨by kernel_rfl, by kernel_rfl⟩ ?_
    refine TL.run 7 [] [(0, .int .i64 slack), (1, .int .i64 accel), (2, .int .i64 seconds), (27, .bool ((decide (seconds < 0)) || (decide (seconds > 600))))] rfl ⟨by kernel_rfl, by kernel_rfl⟩ ?_
    refine TL.next rfl ?_
    refine TC.cond ((decide (seconds < 0)) || (decide (seconds > 600))) rfl (by kernel_rfl) (fun h2 => ?_) (fun h2 => ?_)
    · refine TC.seq ?_
      refine TC.region ?_
      refine TL.run 2 [] [(6, .int .i64 0), (7, .int .i64 12)] rfl ⟨by kernel_rfl, by kernel_rfl⟩ ?_
      refine TL.next rfl ?_
      refine TC.ret ?_
      refine TE.ret_block (TE.ret_then ?_)
      have e : gate_Reach slack accel seconds = (0, 12) := by unfold gate_Reach; exact cond_f h1 (cond_t h2 (rfl))
      exact TE.ret [] (.tuple #[.int .i64 0, .int .i64 12]) ⟨by kernel_rfl, by kernel_rfl⟩ (by rw [e]; first | done | kernel_rfl)
    · refine TC.seq ?_
      refine TC.region ?_
      refine TL.run 3 [] [(0, .int .i64 slack), (1, .int .i64 accel), (2, .int .i64 seconds), (34, .bool (seconds == 0))] rfl ⟨by kernel_rfl, by kernel_rfl⟩ ?_
      refine TL.next rfl ?_
      refine TC.cond (seconds == 0) rfl (by kernel_rfl) (fun h3 => ?_) (fun h3 => ?_)
      · refine TC.seq ?_
        refine TC.region ?_
        refine TL.run 2 [] [(6, .int .i64 0), (7, .int .i64 0)] rfl ⟨by kernel_rfl, by kernel_rfl⟩ ?_
        refine TL.next rfl ?_
        refine TC.ret ?_
        refine TE.ret_block (TE.ret_then ?_)
        have e : gate_Reach slack accel seconds = (0, 0) := by unfold gate_Reach; exact cond_f h1 (cond_f h2 (cond_t h3 (rfl)))
        exact TE.ret [] (.tuple #[.int .i64 0, .int .i64 0]) ⟨by kernel_rfl, by kernel_rfl⟩ (by rw [e]; first | done | kernel_rfl)
      · refine TC.skip ?_
        refine TE.normal_block ?_
        refine TE.next ?_
        refine TC.seq ?_
        refine TC.region ?_
        refine TL.run 3 [] [(1, .int .i64 accel), (2, .int .i64 seconds), (40, .int .i64 (w64 (slack * seconds)))] rfl ⟨by kernel_rfl, by kernel_rfl⟩ ?_
        refine TL.call (some 41) [(1, .int .i64 accel), (2, .int .i64 seconds), (41, .tuple #[.int .i64 ((num_DivUp (w64 (slack * seconds)) 16).1), .int .i64 ((num_DivUp (w64 (slack * seconds)) 16).2)])] (fun w _ => num_DivUp_w (w64 (slack * seconds)) 16 w) (by kernel_rfl) (by kernel_rfl) ?_
        generalize hr1 : num_DivUp (w64 (slack * seconds)) 16 = r1
        refine TL.run 9 [] [(1, .int .i64 accel), (2, .int .i64 seconds), (8, .int .i64 r1.1)] rfl ⟨by kernel_rfl, by kernel_rfl⟩ ?_
        refine TL.next rfl ?_
        refine TC.seq ?_
        refine TC.region ?_
        refine TL.run 5 [] [(8, .int .i64 r1.1), (49, .int .i64 (w64 ((w64 (accel * seconds)) * seconds)))] rfl ⟨by kernel_rfl, by kernel_rfl⟩ ?_
        refine TL.call (some 50) [(8, .int .i64 r1.1), (50, .tuple #[.int .i64 ((num_DivUp (w64 ((w64 (accel * seconds)) * seconds)) 2).1), .int .i64 ((num_DivUp (w64 ((w64 (accel * seconds)) * seconds)) 2).2)])] (fun w _ => num_DivUp_w (w64 ((w64 (accel * seconds)) * seconds)) 2 w) (by kernel_rfl) (by kernel_rfl) ?_
        generalize hr2 : num_DivUp (w64 ((w64 (accel * seconds)) * seconds)) 2 = r2
        refine TL.run 11 [] [(8, .int .i64 r1.1), (10, .int .i64 r2.1)] rfl ⟨by kernel_rfl, by kernel_rfl⟩ ?_
        refine TL.next rfl ?_
        refine TC.seq ?_
        refine TC.region ?_
        refine TL.run 6 [] [(6, .int .i64 (w64 ((w64 (r1.1 + r2.1)) + 2))), (7, .int .i64 0)] rfl ⟨by kernel_rfl, by kernel_rfl⟩ ?_
        refine TL.next rfl ?_
        refine TC.ret ?_
        have e : gate_Reach slack accel seconds = (w64 ((w64 (r1.1 + r2.1)) + 2), 0) := by subst hr1 hr2; unfold gate_Reach; exact cond_f h1 (cond_f h2 (cond_f h3 (rfl)))
        exact TE.ret [] (.tuple #[.int .i64 (w64 ((w64 (r1.1 + r2.1)) + 2)), .int .i64 0]) ⟨by kernel_rfl, by kernel_rfl⟩ (by rw [e]; first | done | kernel_rfl)

def filter_out (n : Int) (low : Int) (high : Int) : Bool :=
  (decide (n < low)) || (decide (n > high))

set_option maxRecDepth 100000 in
theorem filter_out_w (n : Int) (low : Int) (high : Int) (w : World) : Calls Try.prog 51 #[.int .i64 n, .int .i64 low, .int .i64 high] w (Ret w (.bool (filter_out n low high))) := by
  refine calls_intro (vs := [.int .i64 n, .int .i64 low, .int .i64 high]) (w := w) Try.func51 rfl Try.ntmps51 rfl ?_
  refine TC.weak [(0, .int .i64 n), (1, .int .i64 low), (2, .int .i64 high)] (by kernel_rfl) ?_
  refine TC.seq ?_
  refine TC.region ?_
  refine TL.run 1 [] [(0, .int .i64 n), (1, .int .i64 low), (2, .int .i64 high)] rfl ⟨by kernel_rfl, by kernel_rfl⟩ ?_
  refine TL.next rfl ?_
  refine TC.seq ?_
  refine TC.region ?_
  refine TL.run 4 [] [(0, .int .i64 n), (2, .int .i64 high), (10, .bool (decide (n < low)))] rfl ⟨by kernel_rfl, by kernel_rfl⟩ ?_
  refine TL.join 10 (decide (n < low)) 8 [] [] (fun β => [(14, .bool (β || (decide (n > high))))]) (by kernel_rfl) rfl ⟨by kernel_rfl, by kernel_rfl⟩ ⟨by kernel_rfl, by kernel_rfl⟩ ?_
  refine TL.run 9 [] [(6, .bool ((decide (n < low)) || (decide (n > high))))] rfl ⟨by kernel_rfl, by kernel_rfl⟩ ?_
  refine TL.next rfl ?_
  refine TC.ret ?_
  have e : filter_out n low high = ((decide (n < low)) || (decide (n > high))) := by unfold filter_out; exact rfl
  exact TE.ret [] (.bool ((decide (n < low)) || (decide (n > high)))) ⟨by kernel_rfl, by kernel_rfl⟩ (by rw [e]; first | done | kernel_rfl)

def filter_Check (f : FilterTrack) : Int :=
  let r1 := gate_CheckTrack f.Track
  cond (r1 != 0) (
    r1) (
    let r2 := filter_out f.Track.Speed.X (-12800) 12800
    cond r2 (
      4) (
      let r3 := filter_out f.Track.Speed.Y (-12800) 12800
      cond r3 (
        4) (
        let r4 := filter_out f.Track.Rate (-3200) 3200
        cond r4 (
          4) (
          let r5 := filter_out f.Slack 0 409600
          cond (((r5 || (decide (f.Track.ID < 0))) || (decide (f.Track.Hits < 0))) || (decide (f.Track.Misses < 0))) (
            4) (
            let r6 := filter_out f.Track.State 0 2
            cond r6 (
              1) (
              let r7 := radar_CheckSpot f.Last
              cond (r7 != 0) (
                r7) (
                cond (decide (f.Last.Time > f.Track.Time)) (
                  12) (
                  0))))))))

set_option maxRecDepth 100000 in
theorem filter_Check_w (f : FilterTrack) (w : World) : Calls Try.prog 50 #[FilterTrack.v f] w (Ret w (.int .i64 (filter_Check f))) := by
  refine calls_intro (vs := [FilterTrack.v f]) (w := w) Try.func50 rfl Try.ntmps50 rfl ?_
  refine TC.weak [(0, FilterTrack.v f)] (by kernel_rfl) ?_
  refine TC.seq ?_
  refine TC.region ?_
  refine TL.write 0 (fun b1 => [(1, .pointer (some ⟨b1, 0, none⟩))]) (fun b1 => [.inl (b1, .cells (FilterTrack.c f) 29 (0, 0))]) (fun b1 => ⟨by kernel_rfl, by kernel_rfl⟩) (fun b1 => ?_)
  refine TL.run 2 [] [(1, .pointer (some ⟨b1, 0, none⟩))] rfl ⟨by kernel_rfl, by kernel_rfl⟩ ?_
  refine TL.next rfl ?_
  refine TC.seq ?_
  refine TC.region ?_
  refine TL.run 2 [0] [(1, .pointer (some ⟨b1, 0, none⟩)), (7, Track.v f.Track)] rfl ⟨by kernel_rfl, by kernel_rfl⟩ ?_
  refine TL.write 0 (fun b2 => [(1, .pointer (some ⟨b1, 0, none⟩)), (3, .pointer (some ⟨b2, 0, none⟩)), (7, Track.v f.Track)]) (fun b2 => [.inl (b2, .cells (Track.c Track.zero) 25 (0, 0)), .inl (b1, .cells (FilterTrack.c f) 29 (0, 0))]) (fun b2 => ⟨by kernel_rfl, by kernel_rfl⟩) (fun b2 => ?_)
  refine TL.write 0 (fun _ => [(1, .pointer (some ⟨b1, 0, none⟩)), (3, .pointer (some ⟨b2, 0, none⟩))]) (fun _ => [.inl (b2, .cells (Track.c f.Track) 25 (0, 0)), .inl (b1, .cells (FilterTrack.c f) 29 (0, 0))]) (fun _ => ⟨by kernel_rfl, by kernel_rfl⟩) (fun _ => ?_)
  refine TL.next rfl ?_
  refine TC.seq ?_
  refine TC.seq ?_
  refine TC.region ?_
  refine TL.run 1 [0] [(1, .pointer (some ⟨b1, 0, none⟩)), (3, .pointer (some ⟨b2, 0, none⟩)), (8, Track.v f.Track)] rfl ⟨by kernel_rfl, by kernel_rfl⟩ ?_
  refine TL.call (some 9) [(1, .pointer (some ⟨b1, 0, none⟩)), (3, .pointer (some ⟨b2, 0, none⟩)), (9, .int .i64 (gate_CheckTrack f.Track))] (fun w _ => gate_CheckTrack_w f.Track w) (by kernel_rfl) (by kernel_rfl) ?_
  generalize hr1 : gate_CheckTrack f.Track = r1
  refine TL.run 3 [] [(1, .pointer (some ⟨b1, 0, none⟩)), (3, .pointer (some ⟨b2, 0, none⟩)), (4, .int .i64 r1)] rfl ⟨by kernel_rfl, by kernel_rfl⟩ ?_
  refine TL.next rfl ?_
  refine TC.seq ?_
  refine TC.region ?_
  refine TL.run 2 [] [(1, .pointer (some ⟨b1, 0, none⟩)), (3, .pointer (some ⟨b2, 0, none⟩)), (4, .int .i64 r1), (11, .bool (r1 != 0))] rfl ⟨by kernel_rfl, by kernel_rfl⟩ ?_
  refine TL.next rfl ?_
  refine TC.cond (r1 != 0) rfl (by kernel_rfl) (fun h1 => ?_) (fun h1 => ?_)
  · refine TC.seq ?_
    refine TC.region ?_
    refine TL.run 2 [] [(2, .int .i64 r1)] rfl ⟨by kernel_rfl, by kernel_rfl⟩ ?_
    refine TL.next rfl ?_
    refine TC.ret ?_
    refine TE.ret_then ?_
    have e : filter_Check f = r1 := by subst hr1; unfold filter_Check; exact cond_t h1 (rfl)
    exact TE.ret [] (.int .i64 r1) ⟨by kernel_rfl, by kernel_rfl⟩ (by rw [e]; first | done | kernel_rfl)
  · refine TC.skip ?_
    refine TE.next ?_
    refine TC.seq ?_
    refine TC.seq ?_
    refine TC.region ?_
    refine TL.run 3 [0] [(1, .pointer (some ⟨b1, 0, none⟩)), (3, .pointer (some ⟨b2, 0, none⟩)), (15, .int .i64 f.Track.Speed.X)] rfl ⟨by kernel_rfl, by kernel_rfl⟩ ?_
    refine TL.call (some 16) [(1, .pointer (some ⟨b1, 0, none⟩)), (3, .pointer (some ⟨b2, 0, none⟩)), (16, .bool ((filter_out f.Track.Speed.X (-12800) 12800)))] (fun w _ => filter_out_w f.Track.Speed.X (-12800) 12800 w) (by kernel_rfl) (by kernel_rfl) ?_
    generalize hr2 : filter_out f.Track.Speed.X (-12800) 12800 = r2
    refine TL.run 5 [] [(1, .pointer (some ⟨b1, 0, none⟩)), (3, .pointer (some ⟨b2, 0, none⟩)), (17, .bool r2)] rfl ⟨by kernel_rfl, by kernel_rfl⟩ ?_
    refine TL.split 17 r2 (by kernel_rfl) (fun h2 => ?_) (fun h2 => ?_)
    · refine TL.run 35 [] [(1, .pointer (some ⟨b1, 0, none⟩)), (3, .pointer (some ⟨b2, 0, none⟩)), (47, .bool true)] rfl ⟨by kernel_rfl, by kernel_rfl⟩ ?_
      refine TL.next rfl ?_
      refine TC.condT rfl (by kernel_rfl) ?_
      refine TC.seq ?_
      refine TC.region ?_
      refine TL.run 1 [] [(2, .int .i64 4)] rfl ⟨by kernel_rfl, by kernel_rfl⟩ ?_
      refine TL.next rfl ?_
      refine TC.ret ?_
      refine TE.ret_then ?_
      have e : filter_Check f = 4 := by subst hr1 hr2; unfold filter_Check; exact cond_f h1 (cond_t h2 (rfl))
      exact TE.ret [] (.int .i64 4) ⟨by kernel_rfl, by kernel_rfl⟩ (by rw [e]; first | done | kernel_rfl)
    · refine TL.run 8 [0] [(1, .pointer (some ⟨b1, 0, none⟩)), (3, .pointer (some ⟨b2, 0, none⟩)), (17, .bool false), (20, .int .i64 f.Track.Speed.Y)] rfl ⟨by kernel_rfl, by kernel_rfl⟩ ?_
      refine TL.call (some 21) [(1, .pointer (some ⟨b1, 0, none⟩)), (3, .pointer (some ⟨b2, 0, none⟩)), (17, .bool false), (21, .bool ((filter_out f.Track.Speed.Y (-12800) 12800)))] (fun w _ => filter_out_w f.Track.Speed.Y (-12800) 12800 w) (by kernel_rfl) (by kernel_rfl) ?_
      generalize hr3 : filter_out f.Track.Speed.Y (-12800) 12800 = r3
      refine TL.run 11 [] [(1, .pointer (some ⟨b1, 0, none⟩)), (3, .pointer (some ⟨b2, 0, none⟩)), (23, .bool r3)] rfl ⟨by kernel_rfl, by kernel_rfl⟩ ?_
      refine TL.split 23 r3 (by kernel_rfl) (fun h3 => ?_) (fun h3 => ?_)
      · refine TL.run 35 [] [(1, .pointer (some ⟨b1, 0, none⟩)), (3, .pointer (some ⟨b2, 0, none⟩)), (47, .bool true)] rfl ⟨by kernel_rfl, by kernel_rfl⟩ ?_
        refine TL.next rfl ?_
        refine TC.condT rfl (by kernel_rfl) ?_
        refine TC.seq ?_
        refine TC.region ?_
        refine TL.run 1 [] [(2, .int .i64 4)] rfl ⟨by kernel_rfl, by kernel_rfl⟩ ?_
        refine TL.next rfl ?_
        refine TC.ret ?_
        refine TE.ret_then ?_
        have e : filter_Check f = 4 := by subst hr1 hr2 hr3; unfold filter_Check; exact cond_f h1 (cond_f h2 (cond_t h3 (rfl)))
        exact TE.ret [] (.int .i64 4) ⟨by kernel_rfl, by kernel_rfl⟩ (by rw [e]; first | done | kernel_rfl)
      · refine TL.run 13 [0] [(1, .pointer (some ⟨b1, 0, none⟩)), (3, .pointer (some ⟨b2, 0, none⟩)), (23, .bool false), (25, .int .i64 f.Track.Rate)] rfl ⟨by kernel_rfl, by kernel_rfl⟩ ?_
        refine TL.call (some 26) [(1, .pointer (some ⟨b1, 0, none⟩)), (3, .pointer (some ⟨b2, 0, none⟩)), (23, .bool false), (26, .bool ((filter_out f.Track.Rate (-3200) 3200)))] (fun w _ => filter_out_w f.Track.Rate (-3200) 3200 w) (by kernel_rfl) (by kernel_rfl) ?_
        generalize hr4 : filter_out f.Track.Rate (-3200) 3200 = r4
        refine TL.run 16 [] [(1, .pointer (some ⟨b1, 0, none⟩)), (3, .pointer (some ⟨b2, 0, none⟩)), (28, .bool r4)] rfl ⟨by kernel_rfl, by kernel_rfl⟩ ?_
        refine TL.split 28 r4 (by kernel_rfl) (fun h4 => ?_) (fun h4 => ?_)
        · refine TL.run 35 [] [(1, .pointer (some ⟨b1, 0, none⟩)), (3, .pointer (some ⟨b2, 0, none⟩)), (47, .bool true)] rfl ⟨by kernel_rfl, by kernel_rfl⟩ ?_
          refine TL.next rfl ?_
          refine TC.condT rfl (by kernel_rfl) ?_
          refine TC.seq ?_
          refine TC.region ?_
          refine TL.run 1 [] [(2, .int .i64 4)] rfl ⟨by kernel_rfl, by kernel_rfl⟩ ?_
          refine TL.next rfl ?_
          refine TC.ret ?_
          refine TE.ret_then ?_
          have e : filter_Check f = 4 := by subst hr1 hr2 hr3 hr4; unfold filter_Check; exact cond_f h1 (cond_f h2 (cond_f h3 (cond_t h4 (rfl))))
          exact TE.ret [] (.int .i64 4) ⟨by kernel_rfl, by kernel_rfl⟩ (by rw [e]; first | done | kernel_rfl)
        · refine TL.run 18 [1] [(1, .pointer (some ⟨b1, 0, none⟩)), (3, .pointer (some ⟨b2, 0, none⟩)), (28, .bool false), (30, .int .i64 f.Slack)] rfl ⟨by kernel_rfl, by kernel_rfl⟩ ?_
          refine TL.call (some 31) [(1, .pointer (some ⟨b1, 0, none⟩)), (3, .pointer (some ⟨b2, 0, none⟩)), (28, .bool false), (31, .bool ((filter_out f.Slack 0 409600)))] (fun w _ => filter_out_w f.Slack 0 409600 w) (by kernel_rfl) (by kernel_rfl) ?_
          generalize hr5 : filter_out f.Slack 0 409600 = r5
          refine TL.run 21 [] [(1, .pointer (some ⟨b1, 0, none⟩)), (3, .pointer (some ⟨b2, 0, none⟩)), (33, .bool r5)] rfl ⟨by kernel_rfl, by kernel_rfl⟩ ?_
          refine TL.join 33 r5 25 [] [0] (fun β => [(1, .pointer (some ⟨b1, 0, none⟩)), (3, .pointer (some ⟨b2, 0, none⟩)), (37, .bool (β || (decide (f.Track.ID < 0))))]) (by kernel_rfl) rfl ⟨by kernel_rfl, by kernel_rfl⟩ ⟨by kernel_rfl, by kernel_rfl⟩ ?_
          refine TL.run 26 [] [(1, .pointer (some ⟨b1, 0, none⟩)), (3, .pointer (some ⟨b2, 0, none⟩)), (38, .bool (r5 || (decide (f.Track.ID < 0))))] rfl ⟨by kernel_rfl, by kernel_rfl⟩ ?_
          refine TL.join 38 (r5 || (decide (f.Track.ID < 0))) 30 [] [0] (fun β => [(1, .pointer (some ⟨b1, 0, none⟩)), (3, .pointer (some ⟨b2, 0, none⟩)), (42, .bool (β || (decide (f.Track.Hits < 0))))]) (by kernel_rfl) rfl ⟨by kernel_rfl, by kernel_rfl⟩ ⟨by kernel_rfl, by kernel_rfl⟩ ?_
          refine TL.run 31 [] [(1, .pointer (some ⟨b1, 0, none⟩)), (3, .pointer (some ⟨b2, 0, none⟩)), (43, .bool ((r5 || (decide (f.Track.ID < 0))) || (decide (f.Track.Hits < 0))))] rfl ⟨by kernel_rfl, by kernel_rfl⟩ ?_
          refine TL.join 43 ((r5 || (decide (f.Track.ID < 0))) || (decide (f.Track.Hits < 0))) 35 [] [0] (fun β => [(1, .pointer (some ⟨b1, 0, none⟩)), (3, .pointer (some ⟨b2, 0, none⟩)), (47, .bool (β || (decide (f.Track.Misses < 0))))]) (by kernel_rfl) rfl ⟨by kernel_rfl, by kernel_rfl⟩ ⟨by kernel_rfl, by kernel_rfl⟩ ?_
          refine TL.next rfl ?_
          refine TC.cond (((r5 || (decide (f.Track.ID < 0))) || (decide (f.Track.Hits < 0))) || (decide (f.Track.Misses < 0))) rfl (by kernel_rfl) (fun h5 => ?_) (fun h5 => ?_)
          · refine TC.seq ?_
            refine TC.region ?_
            refine TL.run 1 [] [(2, .int .i64 4)] rfl ⟨by kernel_rfl, by kernel_rfl⟩ ?_
            refine TL.next rfl ?_
            refine TC.ret ?_
            refine TE.ret_then ?_
            have e : filter_Check f = 4 := by subst hr1 hr2 hr3 hr4 hr5; unfold filter_Check; exact cond_f h1 (cond_f h2 (cond_f h3 (cond_f h4 (cond_t h5 (rfl)))))
            exact TE.ret [] (.int .i64 4) ⟨by kernel_rfl, by kernel_rfl⟩ (by rw [e]; first | done | kernel_rfl)
          · refine TC.skip ?_
            refine TE.next ?_
            refine TC.seq ?_
            refine TC.seq ?_
            refine TC.region ?_
            refine TL.run 2 [0] [(1, .pointer (some ⟨b1, 0, none⟩)), (3, .pointer (some ⟨b2, 0, none⟩)), (49, .int .i64 f.Track.State)] rfl ⟨by kernel_rfl, by kernel_rfl⟩ ?_
            refine TL.call (some 50) [(1, .pointer (some ⟨b1, 0, none⟩)), (3, .pointer (some ⟨b2, 0, none⟩)), (50, .bool ((filter_out f.Track.State 0 2)))] (fun w _ => filter_out_w f.Track.State 0 2 w) (by kernel_rfl) (by kernel_rfl) ?_
            generalize hr6 : filter_out f.Track.State 0 2 = r6
            refine TL.next rfl ?_
            refine TC.cond r6 rfl (by kernel_rfl) (fun h6 => ?_) (fun h6 => ?_)
            · refine TC.seq ?_
              refine TC.region ?_
              refine TL.run 1 [] [(2, .int .i64 1)] rfl ⟨by kernel_rfl, by kernel_rfl⟩ ?_
              refine TL.next rfl ?_
              refine TC.ret ?_
              refine TE.ret_then ?_
              have e : filter_Check f = 1 := by subst hr1 hr2 hr3 hr4 hr5 hr6; unfold filter_Check; exact cond_f h1 (cond_f h2 (cond_f h3 (cond_f h4 (cond_f h5 (cond_t h6 (rfl))))))
              exact TE.ret [] (.int .i64 1) ⟨by kernel_rfl, by kernel_rfl⟩ (by rw [e]; first | done | kernel_rfl)
            · refine TC.skip ?_
              refine TE.next ?_
              refine TC.seq ?_
              refine TC.seq ?_
              refine TC.region ?_
              refine TL.run 2 [1] [(1, .pointer (some ⟨b1, 0, none⟩)), (3, .pointer (some ⟨b2, 0, none⟩)), (52, Spot.v f.Last)] rfl ⟨by kernel_rfl, by kernel_rfl⟩ ?_
              refine TL.call (some 53) [(1, .pointer (some ⟨b1, 0, none⟩)), (3, .pointer (some ⟨b2, 0, none⟩)), (53, .int .i64 (radar_CheckSpot f.Last))] (fun w _ => radar_CheckSpot_w f.Last w) (by kernel_rfl) (by kernel_rfl) ?_
              generalize hr7 : radar_CheckSpot f.Last = r7
              refine TL.run 4 [] [(1, .pointer (some ⟨b1, 0, none⟩)), (3, .pointer (some ⟨b2, 0, none⟩)), (5, .int .i64 r7)] rfl ⟨by kernel_rfl, by kernel_rfl⟩ ?_
              refine TL.next rfl ?_
              refine TC.seq ?_
              refine TC.region ?_
              refine TL.run 2 [] [(1, .pointer (some ⟨b1, 0, none⟩)), (3, .pointer (some ⟨b2, 0, none⟩)), (5, .int .i64 r7), (55, .bool (r7 != 0))] rfl ⟨by kernel_rfl, by kernel_rfl⟩ ?_
              refine TL.next rfl ?_
              refine TC.cond (r7 != 0) rfl (by kernel_rfl) (fun h7 => ?_) (fun h7 => ?_)
              · refine TC.seq ?_
                refine TC.region ?_
                refine TL.run 2 [] [(2, .int .i64 r7)] rfl ⟨by kernel_rfl, by kernel_rfl⟩ ?_
                refine TL.next rfl ?_
                refine TC.ret ?_
                refine TE.ret_then ?_
                have e : filter_Check f = r7 := by subst hr1 hr2 hr3 hr4 hr5 hr6 hr7; unfold filter_Check; exact cond_f h1 (cond_f h2 (cond_f h3 (cond_f h4 (cond_f h5 (cond_f h6 (cond_t h7 (rfl)))))))
                exact TE.ret [] (.int .i64 r7) ⟨by kernel_rfl, by kernel_rfl⟩ (by rw [e]; first | done | kernel_rfl)
              · refine TC.skip ?_
                refine TE.next ?_
                refine TC.seq ?_
                refine TC.seq ?_
                refine TC.region ?_
                refine TL.run 6 [1, 0] [(62, .bool (decide (f.Last.Time > f.Track.Time)))] rfl ⟨by kernel_rfl, by kernel_rfl⟩ ?_
                refine TL.next rfl ?_
                refine TC.cond (decide (f.Last.Time > f.Track.Time)) rfl (by kernel_rfl) (fun h8 => ?_) (fun h8 => ?_)
                · refine TC.seq ?_
                  refine TC.region ?_
                  refine TL.run 1 [] [(2, .int .i64 12)] rfl ⟨by kernel_rfl, by kernel_rfl⟩ ?_
                  refine TL.next rfl ?_
                  refine TC.ret ?_
                  refine TE.ret_then ?_
                  have e : filter_Check f = 12 := by subst hr1 hr2 hr3 hr4 hr5 hr6 hr7; unfold filter_Check; exact cond_f h1 (cond_f h2 (cond_f h3 (cond_f h4 (cond_f h5 (cond_f h6 (cond_f h7 (cond_t h8 (rfl))))))))
                  exact TE.ret [] (.int .i64 12) ⟨by kernel_rfl, by kernel_rfl⟩ (by rw [e]; first | done | kernel_rfl)
                · refine TC.skip ?_
                  refine TE.next ?_
                  refine TC.seq ?_
                  refine TC.region ?_
                  refine TL.run 1 [] [(2, .int .i64 0)] rfl ⟨by kernel_rfl, by kernel_rfl⟩ ?_
                  refine TL.next rfl ?_
                  refine TC.ret ?_
                  have e : filter_Check f = 0 := by subst hr1 hr2 hr3 hr4 hr5 hr6 hr7; unfold filter_Check; exact cond_f h1 (cond_f h2 (cond_f h3 (cond_f h4 (cond_f h5 (cond_f h6 (cond_f h7 (cond_f h8 (rfl))))))))
                  exact TE.ret [] (.int .i64 0) ⟨by kernel_rfl, by kernel_rfl⟩ (by rw [e]; first | done | kernel_rfl)

def filter_Begin (s : Spot) : FilterTrack × Int :=
  let r1 := radar_CheckSpot s
  cond (r1 != 0) (
    ((⟨⟨0, 0, 0, ⟨0, 0⟩, ⟨0, 0⟩, 0, 0, 0, 0, 0, 0⟩, 0, ⟨0, ⟨0, 0⟩, 0, 0, 0⟩⟩ : FilterTrack), r1)) (
    ((⟨⟨0, 0, s.Time, s.At, ⟨0, 0⟩, s.Height, 0, s.Error, s.Code, 1, 0⟩, 6400, s⟩ : FilterTrack), 0))

set_option maxRecDepth 100000 in
theorem filter_Begin_w (s : Spot) (w : World) : Calls Try.prog 59 #[Spot.v s] w (Ret w (.tuple #[FilterTrack.v ((filter_Begin s).1), .int .i64 ((filter_Begin s).2)])) := by
  refine calls_intro (vs := [Spot.v s]) (w := w) Try.func59 rfl Try.ntmps59 rfl ?_
  refine TC.weak [(0, Spot.v s)] (by kernel_rfl) ?_
  refine TC.seq ?_
  refine TC.region ?_
  refine TL.write 0 (fun b1 => [(1, .pointer (some ⟨b1, 0, none⟩))]) (fun b1 => [.inl (b1, .cells (Spot.c s) 27 (0, 0))]) (fun b1 => ⟨by kernel_rfl, by kernel_rfl⟩) (fun b1 => ?_)
  refine TL.write 0 (fun b2 => [(1, .pointer (some ⟨b1, 0, none⟩)), (2, .pointer (some ⟨b2, 0, none⟩))]) (fun b2 => [.inl (b2, .cells (FilterTrack.c FilterTrack.zero) 29 (0, 0)), .inl (b1, .cells (Spot.c s) 27 (0, 0))]) (fun b2 => ⟨by kernel_rfl, by kernel_rfl⟩) (fun b2 => ?_)
  refine TL.run 3 [] [(1, .pointer (some ⟨b1, 0, none⟩)), (2, .pointer (some ⟨b2, 0, none⟩))] rfl ⟨by kernel_rfl, by kernel_rfl⟩ ?_
  refine TL.next rfl ?_
  refine TC.seq ?_
  refine TC.seq ?_
  refine TC.region ?_
  refine TL.run 1 [1] [(1, .pointer (some ⟨b1, 0, none⟩)), (2, .pointer (some ⟨b2, 0, none⟩)), (5, Spot.v s)] rfl ⟨by kernel_rfl, by kernel_rfl⟩ ?_
  refine TL.call (some 6) [(1, .pointer (some ⟨b1, 0, none⟩)), (2, .pointer (some ⟨b2, 0, none⟩)), (6, .int .i64 (radar_CheckSpot s))] (fun w _ => radar_CheckSpot_w s w) (by kernel_rfl) (by kernel_rfl) ?_
  generalize hr1 : radar_CheckSpot s = r1
  refine TL.run 3 [] [(1, .pointer (some ⟨b1, 0, none⟩)), (2, .pointer (some ⟨b2, 0, none⟩)), (4, .int .i64 r1)] rfl ⟨by kernel_rfl, by kernel_rfl⟩ ?_
  refine TL.next rfl ?_
  refine TC.seq ?_
  refine TC.region ?_
  refine TL.run 2 [] [(1, .pointer (some ⟨b1, 0, none⟩)), (2, .pointer (some ⟨b2, 0, none⟩)), (4, .int .i64 r1), (8, .bool (r1 != 0))] rfl ⟨by kernel_rfl, by kernel_rfl⟩ ?_
  refine TL.next rfl ?_
  refine TC.cond (r1 != 0) rfl (by kernel_rfl) (fun h1 => ?_) (fun h1 => ?_)
  · refine TC.seq ?_
    refine TC.region ?_
    refine TL.run 2 [] [(2, .pointer (some ⟨b2, 0, none⟩)), (9, FilterTrack.v FilterTrack.zero), (10, .int .i64 r1)] rfl ⟨by kernel_rfl, by kernel_rfl⟩ ?_
    refine TL.write 0 (fun _ => [(2, .pointer (some ⟨b2, 0, none⟩)), (10, .int .i64 r1)]) (fun _ => [.inl (b2, .cells (FilterTrack.c FilterTrack.zero) 29 (0, 0)), .inl (b1, .cells (Spot.c s) 27 (0, 0))]) (fun _ => ⟨by kernel_rfl, by kernel_rfl⟩) (fun _ => ?_)
    refine TL.run 4 [] [(2, .pointer (some ⟨b2, 0, none⟩)), (3, .int .i64 r1)] rfl ⟨by kernel_rfl, by kernel_rfl⟩ ?_
    refine TL.next rfl ?_
    refine TC.ret ?_
    refine TE.ret_then ?_
    have e : filter_Begin s = ((⟨⟨0, 0, 0, ⟨0, 0⟩, ⟨0, 0⟩, 0, 0, 0, 0, 0, 0⟩, 0, ⟨0, ⟨0, 0⟩, 0, 0, 0⟩⟩ : FilterTrack), r1) := by subst hr1; unfold filter_Begin; exact cond_t h1 (rfl)
    exact TE.ret [0] (.tuple #[.agg #[.int .i64 0, .int .i64 0, .int .i64 0, .int .i64 0, .int .i64 0, .int .i64 0, .int .i64 0, .int .i64 0, .int .i64 0, .int .i64 0, .int .i64 0, .int .i64 0, .int .i64 0, .int .i64 0, .int .i64 0, .int .i64 0, .int .i64 0, .int .i64 0, .int .i64 0, .int .i64 0], .int .i64 r1]) ⟨by kernel_rfl, by kernel_rfl⟩ (by rw [e]; first | done | kernel_rfl)
  · refine TC.skip ?_
    refine TE.next ?_
    refine TC.seq ?_
    refine TC.region ?_
    refine TL.run 13 [1, 1, 1, 1, 1, 1] [(2, .pointer (some ⟨b2, 0, none⟩)), (23, .agg #[.int .i64 0, .int .i64 0, .int .i64 s.Time, .int .i64 s.At.X, .int .i64 s.At.Y, .int .i64 0, .int .i64 0, .int .i64 s.Height, .int .i64 0, .int .i64 s.Error, .int .i64 s.Code, .int .i64 1, .int .i64 0, .int .i64 6400, .int .i64 s.Time, .int .i64 s.At.X, .int .i64 s.At.Y, .int .i64 s.Height, .int .i64 s.Code, .int .i64 s.Error])] rfl ⟨by kernel_rfl, by kernel_rfl⟩ ?_
    refine TL.write 0 (fun _ => [(2, .pointer (some ⟨b2, 0, none⟩))]) (fun _ => [.inl (b2, .cells #[.int .i64 0, .int .i64 0, .int .i64 s.Time, .int .i64 s.At.X, .int .i64 s.At.Y, .int .i64 0, .int .i64 0, .int .i64 s.Height, .int .i64 0, .int .i64 s.Error, .int .i64 s.Code, .int .i64 1, .int .i64 0, .int .i64 6400, .int .i64 s.Time, .int .i64 s.At.X, .int .i64 s.At.Y, .int .i64 s.Height, .int .i64 s.Code, .int .i64 s.Error] 29 (0, 0)), .inl (b1, .cells (Spot.c s) 27 (0, 0))]) (fun _ => ⟨by kernel_rfl, by kernel_rfl⟩) (fun _ => ?_)
    refine TL.run 15 [] [(2, .pointer (some ⟨b2, 0, none⟩)), (3, .int .i64 0)] rfl ⟨by kernel_rfl, by kernel_rfl⟩ ?_
    refine TL.next rfl ?_
    refine TC.ret ?_
    have e : filter_Begin s = ((⟨⟨0, 0, s.Time, s.At, ⟨0, 0⟩, s.Height, 0, s.Error, s.Code, 1, 0⟩, 6400, s⟩ : FilterTrack), 0) := by subst hr1; unfold filter_Begin; exact cond_f h1 (rfl)
    exact TE.ret [0] (.tuple #[.agg #[.int .i64 0, .int .i64 0, .int .i64 s.Time, .int .i64 s.At.X, .int .i64 s.At.Y, .int .i64 0, .int .i64 0, .int .i64 s.Height, .int .i64 0, .int .i64 s.Error, .int .i64 s.Code, .int .i64 1, .int .i64 0, .int .i64 6400, .int .i64 s.Time, .int .i64 s.At.X, .int .i64 s.At.Y, .int .i64 s.Height, .int .i64 s.Code, .int .i64 s.Error], .int .i64 0]) ⟨by kernel_rfl, by kernel_rfl⟩ (by rw [e]; first | done | kernel_rfl)

def filter_down (a : Int) (b_ : Int) : Int :=
  let r1 := num_DivDown a b_
  r1.1

set_option maxRecDepth 100000 in
theorem filter_down_w (a : Int) (b_ : Int) (w : World) : Calls Try.prog 53 #[.int .i64 a, .int .i64 b_] w (Ret w (.int .i64 (filter_down a b_))) := by
  refine calls_intro (vs := [.int .i64 a, .int .i64 b_]) (w := w) Try.func53 rfl Try.ntmps53 rfl ?_
  refine TC.weak [(0, .int .i64 a), (1, .int .i64 b_)] (by kernel_rfl) ?_
  refine TC.seq ?_
  refine TC.region ?_
  refine TL.run 1 [] [(0, .int .i64 a), (1, .int .i64 b_)] rfl ⟨by kernel_rfl, by kernel_rfl⟩ ?_
  refine TL.next rfl ?_
  refine TC.seq ?_
  refine TC.region ?_
  refine TL.run 2 [] [(8, .int .i64 a), (9, .int .i64 b_)] rfl ⟨by kernel_rfl, by kernel_rfl⟩ ?_
  refine TL.call (some 10) [(10, .tuple #[.int .i64 ((num_DivDown a b_).1), .int .i64 ((num_DivDown a b_).2)])] (fun w _ => num_DivDown_w a b_ w) (by kernel_rfl) (by kernel_rfl) ?_
  generalize hr1 : num_DivDown a b_ = r1
  refine TL.run 8 [] [(5, .int .i64 r1.1)] rfl ⟨by kernel_rfl, by kernel_rfl⟩ ?_
  refine TL.next rfl ?_
  refine TC.seq ?_
  refine TC.region ?_
  refine TL.run 2 [] [(4, .int .i64 r1.1)] rfl ⟨by kernel_rfl, by kernel_rfl⟩ ?_
  refine TL.next rfl ?_
  refine TC.ret ?_
  have e : filter_down a b_ = r1.1 := by subst hr1; unfold filter_down; exact rfl
  exact TE.ret [] (.int .i64 r1.1) ⟨by kernel_rfl, by kernel_rfl⟩ (by rw [e]; first | done | kernel_rfl)

def filter_up (a : Int) (b_ : Int) : Int :=
  let r1 := num_DivUp a b_
  r1.1

set_option maxRecDepth 100000 in
theorem filter_up_w (a : Int) (b_ : Int) (w : World) : Calls Try.prog 63 #[.int .i64 a, .int .i64 b_] w (Ret w (.int .i64 (filter_up a b_))) := by
  refine calls_intro (vs := [.int .i64 a, .int .i64 b_]) (w := w) Try.func63 rfl Try.ntmps63 rfl ?_
  refine TC.weak [(0, .int .i64 a), (1, .int .i64 b_)] (by kernel_rfl) ?_
  refine TC.seq ?_
  refine TC.region ?_
  refine TL.run 1 [] [(0, .int .i64 a), (1, .int .i64 b_)] rfl ⟨by kernel_rfl, by kernel_rfl⟩ ?_
  refine TL.next rfl ?_
  refine TC.seq ?_
  refine TC.region ?_
  refine TL.run 2 [] [(8, .int .i64 a), (9, .int .i64 b_)] rfl ⟨by kernel_rfl, by kernel_rfl⟩ ?_
  refine TL.call (some 10) [(10, .tuple #[.int .i64 ((num_DivUp a b_).1), .int .i64 ((num_DivUp a b_).2)])] (fun w _ => num_DivUp_w a b_ w) (by kernel_rfl) (by kernel_rfl) ?_
  generalize hr1 : num_DivUp a b_ = r1
  refine TL.run 8 [] [(5, .int .i64 r1.1)] rfl ⟨by kernel_rfl, by kernel_rfl⟩ ?_
  refine TL.next rfl ?_
  refine TC.seq ?_
  refine TC.region ?_
  refine TL.run 2 [] [(4, .int .i64 r1.1)] rfl ⟨by kernel_rfl, by kernel_rfl⟩ ?_
  refine TL.next rfl ?_
  refine TC.ret ?_
  have e : filter_up a b_ = r1.1 := by subst hr1; unfold filter_up; exact rfl
  exact TE.ret [] (.int .i64 r1.1) ⟨by kernel_rfl, by kernel_rfl⟩ (by rw [e]; first | done | kernel_rfl)

def filter_Predict (f : FilterTrack) (time : Int) (accel : Int) : FilterTrack × Int :=
  let r1 := filter_Check f
  cond (r1 != 0) (
    ((⟨⟨0, 0, 0, ⟨0, 0⟩, ⟨0, 0⟩, 0, 0, 0, 0, 0, 0⟩, 0, ⟨0, ⟨0, 0⟩, 0, 0, 0⟩⟩ : FilterTrack), r1)) (
    let r2 := filter_out time 0 200000
    cond r2 (
      ((⟨⟨0, 0, 0, ⟨0, 0⟩, ⟨0, 0⟩, 0, 0, 0, 0, 0, 0⟩, 0, ⟨0, ⟨0, 0⟩, 0, 0, 0⟩⟩ : FilterTrack), 4)) (
      let r3 := filter_out accel 0 20
      cond r3 (
        ((⟨⟨0, 0, 0, ⟨0, 0⟩, ⟨0, 0⟩, 0, 0, 0, 0, 0, 0⟩, 0, ⟨0, ⟨0, 0⟩, 0, 0, 0⟩⟩ : FilterTrack), 4)) (
        let r4 := filter_out (w64 (time - f.Track.Time)) 0 600
        cond r4 (
          ((⟨⟨0, 0, 0, ⟨0, 0⟩, ⟨0, 0⟩, 0, 0, 0, 0, 0, 0⟩, 0, ⟨0, ⟨0, 0⟩, 0, 0, 0⟩⟩ : FilterTrack), 12)) (
          cond ((w64 (time - f.Track.Time)) == 0) (
            (f, 0)) (
            let r5 := filter_down (w64 (f.Track.Speed.X * (w64 (time - f.Track.Time)))) 16
            let r6 := filter_down (w64 (f.Track.Speed.Y * (w64 (time - f.Track.Time)))) 16
            let r7 := plane_Add f.Track.At (⟨r5, r6⟩ : P)
            let r8 := filter_down (w64 (f.Track.Rate * (w64 (time - f.Track.Time)))) 16
            let r9 := num_Between (w64 (f.Track.Height + r8)) 0 60000
            let r10 := gate_Reach f.Slack accel (w64 (time - f.Track.Time))
            let r11 := filter_Check (⟨⟨f.Track.ID, f.Track.State, time, r7, f.Track.Speed, r9, f.Track.Rate, w64 (f.Track.Radius + r10.1), f.Track.Code, f.Track.Hits, f.Track.Misses⟩, w64 (f.Slack + (w64 ((w64 (16 * accel)) * (w64 (time - f.Track.Time))))), f.Last⟩ : FilterTrack)
            cond (r11 != 0) (
              ((⟨⟨0, 0, 0, ⟨0, 0⟩, ⟨0, 0⟩, 0, 0, 0, 0, 0, 0⟩, 0, ⟨0, ⟨0, 0⟩, 0, 0, 0⟩⟩ : FilterTrack), 8)) (
              ((⟨⟨f.Track.ID, f.Track.State, time, r7, f.Track.Speed, r9, f.Track.Rate, w64 (f.Track.Radius + r10.1), f.Track.Code, f.Track.Hits, f.Track.Misses⟩, w64 (f.Slack + (w64 ((w64 (16 * accel)) * (w64 (time - f.Track.Time))))), f.Last⟩ : FilterTrack), 0)))))))

set_option maxRecDepth 100000 in
theorem filter_Predict_w (f : FilterTrack) (time : Int) (accel : Int) (w : World) : Calls Try.prog 18 #[FilterTrack.v f, .int .i64 time, .int .i64 accel] w (Ret w (.tuple #[FilterTrack.v ((filter_Predict f time accel).1), .int .i64 ((filter_Predict f time accel).2)])) := by
  refine calls_intro (vs := [FilterTrack.v f, .int .i64 time, .int .i64 accel]) (w := w) Try.func18 rfl Try.ntmps18 rfl ?_
  refine TC.weak [(0, FilterTrack.v f), (1, .int .i64 time), (2, .int .i64 accel)] (by kernel_rfl) ?_
  refine TC.seq ?_
  refine TC.region ?_
  refine TL.write 0 (fun b1 => [(1, .int .i64 time), (2, .int .i64 accel), (3, .pointer (some ⟨b1, 0, none⟩))]) (fun b1 => [.inl (b1, .cells (FilterTrack.c f) 29 (0, 0))]) (fun b1 => ⟨by kernel_rfl, by kernel_rfl⟩) (fun b1 => ?_)
  refine TL.write 0 (fun b2 => [(1, .int .i64 time), (2, .int .i64 accel), (3, .pointer (some ⟨b1, 0, none⟩)), (6, .pointer (some ⟨b2, 0, none⟩))]) (fun b2 => [.inl (b2, .cells (FilterTrack.c FilterTrack.zero) 29 (0, 0)), .inl (b1, .cells (FilterTrack.c f) 29 (0, 0))]) (fun b2 => ⟨by kernel_rfl, by kernel_rfl⟩) (fun b2 => ?_)
  refine TL.run 3 [] [(1, .int .i64 time), (2, .int .i64 accel), (3, .pointer (some ⟨b1, 0, none⟩)), (6, .pointer (some ⟨b2, 0, none⟩))] rfl ⟨by kernel_rfl, by kernel_rfl⟩ ?_
  refine TL.next rfl ?_
  refine TC.seq ?_
  refine TC.region ?_
  refine TL.run 1 [] [(1, .int .i64 time), (2, .int .i64 accel), (3, .pointer (some ⟨b1, 0, none⟩)), (6, .pointer (some ⟨b2, 0, none⟩)), (14, FilterTrack.v FilterTrack.zero)] rfl ⟨by kernel_rfl, by kernel_rfl⟩ ?_
  refine TL.write 0 (fun b3 => [(1, .int .i64 time), (2, .int .i64 accel), (3, .pointer (some ⟨b1, 0, none⟩)), (6, .pointer (some ⟨b2, 0, none⟩)), (8, .pointer (some ⟨b3, 0, none⟩)), (14, FilterTrack.v FilterTrack.zero)]) (fun b3 => [.inl (b3, .cells (FilterTrack.c FilterTrack.zero) 29 (0, 0)), .inl (b2, .cells (FilterTrack.c FilterTrack.zero) 29 (0, 0)), .inl (b1, .cells (FilterTrack.c f) 29 (0, 0))]) (fun b3 => ⟨by kernel_rfl, by kernel_rfl⟩) (fun b3 => ?_)
  refine TL.write 0 (fun _ => [(1, .int .i64 time), (2, .int .i64 accel), (3, .pointer (some ⟨b1, 0, none⟩)), (6, .pointer (some ⟨b2, 0, none⟩)), (8, .pointer (some ⟨b3, 0, none⟩))]) (fun _ => [.inl (b3, .cells (FilterTrack.c FilterTrack.zero) 29 (0, 0)), .inl (b2, .cells (FilterTrack.c FilterTrack.zero) 29 (0, 0)), .inl (b1, .cells (FilterTrack.c f) 29 (0, 0))]) (fun _ => ⟨by kernel_rfl, by kernel_rfl⟩) (fun _ => ?_)
  refine TL.next rfl ?_
  refine TC.seq ?_
  refine TC.seq ?_
  refine TC.region ?_
  refine TL.run 1 [2] [(1, .int .i64 time), (2, .int .i64 accel), (3, .pointer (some ⟨b1, 0, none⟩)), (6, .pointer (some ⟨b2, 0, none⟩)), (8, .pointer (some ⟨b3, 0, none⟩)), (15, FilterTrack.v f)] rfl ⟨by kernel_rfl, by kernel_rfl⟩ ?_
  refine TL.call (some 16) [(1, .int .i64 time), (2, .int .i64 accel), (3, .pointer (some ⟨b1, 0, none⟩)), (6, .pointer (some ⟨b2, 0, none⟩)), (8, .pointer (some ⟨b3, 0, none⟩)), (16, .int .i64 (filter_Check f))] (fun w _ => filter_Check_w f w) (by kernel_rfl) (by kernel_rfl) ?_
  generalize hr1 : filter_Check f = r1
  refine TL.run 3 [] [(1, .int .i64 time), (2, .int .i64 accel), (3, .pointer (some ⟨b1, 0, none⟩)), (6, .pointer (some ⟨b2, 0, none⟩)), (8, .pointer (some ⟨b3, 0, none⟩)), (9, .int .i64 r1)] rfl ⟨by kernel_rfl, by kernel_rfl⟩ ?_
  refine TL.next rfl ?_
  refine TC.seq ?_
  refine TC.region ?_
  refine TL.run 2 [] [(1, .int .i64 time), (2, .int .i64 accel), (3, .pointer (some ⟨b1, 0, none⟩)), (6, .pointer (some ⟨b2, 0, none⟩)), (8, .pointer (some ⟨b3, 0, none⟩)), (9, .int .i64 r1), (18, .bool (r1 != 0))] rfl ⟨by kernel_rfl, by kernel_rfl⟩ ?_
  refine TL.next rfl ?_
  refine TC.cond (r1 != 0) rfl (by kernel_rfl) (fun h1 => ?_) (fun h1 => ?_)
  · refine TC.seq ?_
    refine TC.region ?_
    refine TL.run 2 [0] [(6, .pointer (some ⟨b2, 0, none⟩)), (19, .agg #[.int .i64 0, .int .i64 0, .int .i64 0, .int .i64 0, .int .i64 0, .int .i64 0, .int .i64 0, .int .i64 0, .int .i64 0, .int .i64 0, .int .i64 0, .int .i64 0, .int .i64 0, .int .i64 0, .int .i64 0, .int .i64 0, .int .i64 0, .int .i64 0, .int .i64 0, .int .i64 0]), (20, .int .i64 r1)] rfl ⟨by kernel_rfl, by kernel_rfl⟩ ?_
    refine TL.write 1 (fun _ => [(6, .pointer (some ⟨b2, 0, none⟩)), (20, .int .i64 r1)]) (fun _ => [.inl (b3, .cells (FilterTrack.c FilterTrack.zero) 29 (0, 0)), .inl (b2, .cells (FilterTrack.c FilterTrack.zero) 29 (0, 0)), .inl (b1, .cells (FilterTrack.c f) 29 (0, 0))]) (fun _ => ⟨by kernel_rfl, by kernel_rfl⟩) (fun _ => ?_)
    refine TL.run 4 [] [(6, .pointer (some ⟨b2, 0, none⟩)), (7, .int .i64 r1)] rfl ⟨by kernel_rfl, by kernel_rfl⟩ ?_
    refine TL.next rfl ?_
    refine TC.ret ?_
    refine TE.ret_then ?_
    have e : filter_Predict f time accel = ((⟨⟨0, 0, 0, ⟨0, 0⟩, ⟨0, 0⟩, 0, 0, 0, 0, 0, 0⟩, 0, ⟨0, ⟨0, 0⟩, 0, 0, 0⟩⟩ : FilterTrack), r1) := by subst hr1; unfold filter_Predict; exact cond_t h1 (rfl)
    exact TE.ret [1] (.tuple #[.agg #[.int .i64 0, .int .i64 0, .int .i64 0, .int .i64 0, .int .i64 0, .int .i64 0, .int .i64 0, .int .i64 0, .int .i64 0, .int .i64 0, .int .i64 0, .int .i64 0, .int .i64 0, .int .i64 0, .int .i64 0, .int .i64 0, .int .i64 0, .int .i64 0, .int .i64 0, .int .i64 0], .int .i64 r1]) ⟨by kernel_rfl, by kernel_rfl⟩ (by rw [e]; first | done | kernel_rfl)
  · refine TC.skip ?_
    refine TE.next ?_
    refine TC.seq ?_
    refine TC.region ?_
    refine TL.run 6 [2] [(1, .int .i64 time), (2, .int .i64 accel), (3, .pointer (some ⟨b1, 0, none⟩)), (6, .pointer (some ⟨b2, 0, none⟩)), (8, .pointer (some ⟨b3, 0, none⟩)), (10, .int .i64 (w64 (time - f.Track.Time)))] rfl ⟨by kernel_rfl, by kernel_rfl⟩ ?_
    refine TL.next rfl ?_
    refine TC.seq ?_
    refine TC.block ?_
    refine TC.seq ?_
    refine TC.region ?_
    refine TL.run 1 [] [(1, .int .i64 time), (2, .int .i64 accel), (3, .pointer (some ⟨b1, 0, none⟩)), (6, .pointer (some ⟨b2, 0, none⟩)), (8, .pointer (some ⟨b3, 0, none⟩)), (10, .int .i64 (w64 (time - f.Track.Time))), (27, .int .i64 time)] rfl ⟨by kernel_rfl, by kernel_rfl⟩ ?_
    refine TL.call (some 28) [(1, .int .i64 time), (2, .int .i64 accel), (3, .pointer (some ⟨b1, 0, none⟩)), (6, .pointer (some ⟨b2, 0, none⟩)), (8, .pointer (some ⟨b3, 0, none⟩)), (10, .int .i64 (w64 (time - f.Track.Time))), (28, .bool ((filter_out time 0 200000)))] (fun w _ => filter_out_w time 0 200000 w) (by kernel_rfl) (by kernel_rfl) ?_
    generalize hr2 : filter_out time 0 200000 = r2
    refine TL.run 3 [] [(1, .int .i64 time), (2, .int .i64 accel), (3, .pointer (some ⟨b1, 0, none⟩)), (6, .pointer (some ⟨b2, 0, none⟩)), (8, .pointer (some ⟨b3, 0, none⟩)), (10, .int .i64 (w64 (time - f.Track.Time))), (29, .bool r2)] rfl ⟨by kernel_rfl, by kernel_rfl⟩ ?_
    refine TL.split 29 r2 (by kernel_rfl) (fun h2 => ?_) (fun h2 => ?_)
    · refine TL.run 7 [] [(1, .int .i64 time), (2, .int .i64 accel), (3, .pointer (some ⟨b1, 0, none⟩)), (6, .pointer (some ⟨b2, 0, none⟩)), (8, .pointer (some ⟨b3, 0, none⟩)), (10, .int .i64 (w64 (time - f.Track.Time))), (26, .bool true)] rfl ⟨by kernel_rfl, by kernel_rfl⟩ ?_
      refine TL.next rfl ?_
      refine TC.condT rfl (by kernel_rfl) ?_
      refine TC.seq ?_
      refine TC.region ?_
      refine TL.run 1 [0] [(6, .pointer (some ⟨b2, 0, none⟩)), (33, .agg #[.int .i64 0, .int .i64 0, .int .i64 0, .int .i64 0, .int .i64 0, .int .i64 0, .int .i64 0, .int .i64 0, .int .i64 0, .int .i64 0, .int .i64 0, .int .i64 0, .int .i64 0, .int .i64 0, .int .i64 0, .int .i64 0, .int .i64 0, .int .i64 0, .int .i64 0, .int .i64 0])] rfl ⟨by kernel_rfl, by kernel_rfl⟩ ?_
      refine TL.write 1 (fun _ => [(6, .pointer (some ⟨b2, 0, none⟩))]) (fun _ => [.inl (b3, .cells (FilterTrack.c FilterTrack.zero) 29 (0, 0)), .inl (b2, .cells (FilterTrack.c FilterTrack.zero) 29 (0, 0)), .inl (b1, .cells (FilterTrack.c f) 29 (0, 0))]) (fun _ => ⟨by kernel_rfl, by kernel_rfl⟩) (fun _ => ?_)
      refine TL.run 3 [] [(6, .pointer (some ⟨b2, 0, none⟩)), (7, .int .i64 4)] rfl ⟨by kernel_rfl, by kernel_rfl⟩ ?_
      refine TL.next rfl ?_
      refine TC.ret ?_
      refine TE.ret_block (TE.ret_then ?_)
      have e : filter_Predict f time accel = ((⟨⟨0, 0, 0, ⟨0, 0⟩, ⟨0, 0⟩, 0, 0, 0, 0, 0, 0⟩, 0, ⟨0, ⟨0, 0⟩, 0, 0, 0⟩⟩ : FilterTrack), 4) := by subst hr1 hr2; unfold filter_Predict; exact cond_f h1 (cond_t h2 (rfl))
      exact TE.ret [1] (.tuple #[.agg #[.int .i64 0, .int .i64 0, .int .i64 0, .int .i64 0, .int .i64 0, .int .i64 0, .int .i64 0, .int .i64 0, .int .i64 0, .int .i64 0, .int .i64 0, .int .i64 0, .int .i64 0, .int .i64 0, .int .i64 0, .int .i64 0, .int .i64 0, .int .i64 0, .int .i64 0, .int .i64 0], .int .i64 4]) ⟨by kernel_rfl, by kernel_rfl⟩ (by rw [e]; first | done | kernel_rfl)
    · refine TL.run 4 [] [(1, .int .i64 time), (2, .int .i64 accel), (3, .pointer (some ⟨b1, 0, none⟩)), (6, .pointer (some ⟨b2, 0, none⟩)), (8, .pointer (some ⟨b3, 0, none⟩)), (10, .int .i64 (w64 (time - f.Track.Time))), (29, .bool false), (30, .int .i64 accel)] rfl ⟨by kernel_rfl, by kernel_rfl⟩ ?_
      refine TL.call (some 31) [(1, .int .i64 time), (2, .int .i64 accel), (3, .pointer (some ⟨b1, 0, none⟩)), (6, .pointer (some ⟨b2, 0, none⟩)), (8, .pointer (some ⟨b3, 0, none⟩)), (10, .int .i64 (w64 (time - f.Track.Time))), (29, .bool false), (31, .bool ((filter_out accel 0 20)))] (fun w _ => filter_out_w accel 0 20 w) (by kernel_rfl) (by kernel_rfl) ?_
      generalize hr3 : filter_out accel 0 20 = r3
      refine TL.run 7 [] [(1, .int .i64 time), (2, .int .i64 accel), (3, .pointer (some ⟨b1, 0, none⟩)), (6, .pointer (some ⟨b2, 0, none⟩)), (8, .pointer (some ⟨b3, 0, none⟩)), (10, .int .i64 (w64 (time - f.Track.Time))), (26, .bool r3)] rfl ⟨by kernel_rfl, by kernel_rfl⟩ ?_
      refine TL.next rfl ?_
      refine TC.cond r3 rfl (by kernel_rfl) (fun h3 => ?_) (fun h3 => ?_)
      · refine TC.seq ?_
        refine TC.region ?_
        refine TL.run 1 [0] [(6, .pointer (some ⟨b2, 0, none⟩)), (33, .agg #[.int .i64 0, .int .i64 0, .int .i64 0, .int .i64 0, .int .i64 0, .int .i64 0, .int .i64 0, .int .i64 0, .int .i64 0, .int .i64 0, .int .i64 0, .int .i64 0, .int .i64 0, .int .i64 0, .int .i64 0, .int .i64 0, .int .i64 0, .int .i64 0, .int .i64 0, .int .i64 0])] rfl ⟨by kernel_rfl, by kernel_rfl⟩ ?_
        refine TL.write 1 (fun _ => [(6, .pointer (some ⟨b2, 0, none⟩))]) (fun _ => [.inl (b3, .cells (FilterTrack.c FilterTrack.zero) 29 (0, 0)), .inl (b2, .cells (FilterTrack.c FilterTrack.zero) 29 (0, 0)), .inl (b1, .cells (FilterTrack.c f) 29 (0, 0))]) (fun _ => ⟨by kernel_rfl, by kernel_rfl⟩) (fun _ => ?_)
        refine TL.run 3 [] [(6, .pointer (some ⟨b2, 0, none⟩)), (7, .int .i64 4)] rfl ⟨by kernel_rfl, by kernel_rfl⟩ ?_
        refine TL.next rfl ?_
        refine TC.ret ?_
        refine TE.ret_block (TE.ret_then ?_)
        have e : filter_Predict f time accel = ((⟨⟨0, 0, 0, ⟨0, 0⟩, ⟨0, 0⟩, 0, 0, 0, 0, 0, 0⟩, 0, ⟨0, ⟨0, 0⟩, 0, 0, 0⟩⟩ : FilterTrack), 4) := by subst hr1 hr2 hr3; unfold filter_Predict; exact cond_f h1 (cond_f h2 (cond_t h3 (rfl)))
        exact TE.ret [1] (.tuple #[.agg #[.int .i64 0, .int .i64 0, .int .i64 0, .int .i64 0, .int .i64 0, .int .i64 0, .int .i64 0, .int .i64 0, .int .i64 0, .int .i64 0, .int .i64 0, .int .i64 0, .int .i64 0, .int .i64 0, .int .i64 0, .int .i64 0, .int .i64 0, .int .i64 0, .int .i64 0, .int .i64 0], .int .i64 4]) ⟨by kernel_rfl, by kernel_rfl⟩ (by rw [e]; first | done | kernel_rfl)
      · refine TC.seq ?_
        refine TC.region ?_
        refine TL.run 1 [] [(1, .int .i64 time), (2, .int .i64 accel), (3, .pointer (some ⟨b1, 0, none⟩)), (6, .pointer (some ⟨b2, 0, none⟩)), (8, .pointer (some ⟨b3, 0, none⟩)), (10, .int .i64 (w64 (time - f.Track.Time))), (35, .int .i64 (w64 (time - f.Track.Time)))] rfl ⟨by kernel_rfl, by kernel_rfl⟩ ?_
        refine TL.call (some 36) [(1, .int .i64 time), (2, .int .i64 accel), (3, .pointer (some ⟨b1, 0, none⟩)), (6, .pointer (some ⟨b2, 0, none⟩)), (8, .pointer (some ⟨b3, 0, none⟩)), (10, .int .i64 (w64 (time - f.Track.Time))), (36, .bool ((filter_out (w64 (time - f.Track.Time)) 0 600)))] (fun w _ => filter_out_w (w64 (time - f.Track.Time)) 0 600 w) (by kernel_rfl) (by kernel_rfl) ?_
        generalize hr4 : filter_out (w64 (time - f.Track.Time)) 0 600 = r4
        refine TL.run 3 [] [(1, .int .i64 time), (2, .int .i64 accel), (3, .pointer (some ⟨b1, 0, none⟩)), (6, .pointer (some ⟨b2, 0, none⟩)), (8, .pointer (some ⟨b3, 0, none⟩)), (10, .int .i64 (w64 (time - f.Track.Time))), (34, .bool r4)] rfl ⟨by kernel_rfl, by kernel_rfl⟩ ?_
        refine TL.next rfl ?_
        refine TC.cond r4 rfl (by kernel_rfl) (fun h4 => ?_) (fun h4 => ?_)
        · refine TC.seq ?_
          refine TC.region ?_
          refine TL.run 1 [0] [(6, .pointer (some ⟨b2, 0, none⟩)), (37, .agg #[.int .i64 0, .int .i64 0, .int .i64 0, .int .i64 0, .int .i64 0, .int .i64 0, .int .i64 0, .int .i64 0, .int .i64 0, .int .i64 0, .int .i64 0, .int .i64 0, .int .i64 0, .int .i64 0, .int .i64 0, .int .i64 0, .int .i64 0, .int .i64 0, .int .i64 0, .int .i64 0])] rfl ⟨by kernel_rfl, by kernel_rfl⟩ ?_
          refine TL.write 1 (fun _ => [(6, .pointer (some ⟨b2, 0, none⟩))]) (fun _ => [.inl (b3, .cells (FilterTrack.c FilterTrack.zero) 29 (0, 0)), .inl (b2, .cells (FilterTrack.c FilterTrack.zero) 29 (0, 0)), .inl (b1, .cells (FilterTrack.c f) 29 (0, 0))]) (fun _ => ⟨by kernel_rfl, by kernel_rfl⟩) (fun _ => ?_)
          refine TL.run 3 [] [(6, .pointer (some ⟨b2, 0, none⟩)), (7, .int .i64 12)] rfl ⟨by kernel_rfl, by kernel_rfl⟩ ?_
          refine TL.next rfl ?_
          refine TC.ret ?_
          refine TE.ret_block (TE.ret_then ?_)
          have e : filter_Predict f time accel = ((⟨⟨0, 0, 0, ⟨0, 0⟩, ⟨0, 0⟩, 0, 0, 0, 0, 0, 0⟩, 0, ⟨0, ⟨0, 0⟩, 0, 0, 0⟩⟩ : FilterTrack), 12) := by subst hr1 hr2 hr3 hr4; unfold filter_Predict; exact cond_f h1 (cond_f h2 (cond_f h3 (cond_t h4 (rfl))))
          exact TE.ret [1] (.tuple #[.agg #[.int .i64 0, .int .i64 0, .int .i64 0, .int .i64 0, .int .i64 0, .int .i64 0, .int .i64 0, .int .i64 0, .int .i64 0, .int .i64 0, .int .i64 0, .int .i64 0, .int .i64 0, .int .i64 0, .int .i64 0, .int .i64 0, .int .i64 0, .int .i64 0, .int .i64 0, .int .i64 0], .int .i64 12]) ⟨by kernel_rfl, by kernel_rfl⟩ (by rw [e]; first | done | kernel_rfl)
        · refine TC.seq ?_
          refine TC.region ?_
          refine TL.run 3 [] [(1, .int .i64 time), (2, .int .i64 accel), (3, .pointer (some ⟨b1, 0, none⟩)), (6, .pointer (some ⟨b2, 0, none⟩)), (8, .pointer (some ⟨b3, 0, none⟩)), (10, .int .i64 (w64 (time - f.Track.Time))), (38, .bool ((w64 (time - f.Track.Time)) == 0))] rfl ⟨by kernel_rfl, by kernel_rfl⟩ ?_
          refine TL.next rfl ?_
          refine TC.cond ((w64 (time - f.Track.Time)) == 0) rfl (by kernel_rfl) (fun h5 => ?_) (fun h5 => ?_)
          · refine TC.seq ?_
            refine TC.region ?_
            refine TL.run 1 [2] [(6, .pointer (some ⟨b2, 0, none⟩)), (41, FilterTrack.v f)] rfl ⟨by kernel_rfl, by kernel_rfl⟩ ?_
            refine TL.write 1 (fun _ => [(6, .pointer (some ⟨b2, 0, none⟩))]) (fun _ => [.inl (b3, .cells (FilterTrack.c FilterTrack.zero) 29 (0, 0)), .inl (b2, .cells (FilterTrack.c f) 29 (0, 0)), .inl (b1, .cells (FilterTrack.c f) 29 (0, 0))]) (fun _ => ⟨by kernel_rfl, by kernel_rfl⟩) (fun _ => ?_)
            refine TL.run 3 [] [(6, .pointer (some ⟨b2, 0, none⟩)), (7, .int .i64 0)] rfl ⟨by kernel_rfl, by kernel_rfl⟩ ?_
            refine TL.next rfl ?_
            refine TC.ret ?_
            refine TE.ret_block (TE.ret_then ?_)
            have e : filter_Predict f time accel = (f, 0) := by subst hr1 hr2 hr3 hr4; unfold filter_Predict; exact cond_f h1 (cond_f h2 (cond_f h3 (cond_f h4 (cond_t h5 (rfl)))))
            exact TE.ret [1] (.tuple #[FilterTrack.v f, .int .i64 0]) ⟨by kernel_rfl, by kernel_rfl⟩ (by rw [e]; first | done | kernel_rfl)
          · refine TC.skip ?_
            refine TE.normal_block ?_
            refine TE.next ?_
            refine TC.seq ?_
            refine TC.region ?_
            refine TL.run 2 [] [(1, .int .i64 time), (2, .int .i64 accel), (3, .pointer (some ⟨b1, 0, none⟩)), (6, .pointer (some ⟨b2, 0, none⟩)), (8, .pointer (some ⟨b3, 0, none⟩)), (10, .int .i64 (w64 (time - f.Track.Time))), (11, .pointer (some ⟨b1, 0, none⟩))] rfl ⟨by kernel_rfl, by kernel_rfl⟩ ?_
            refine TL.next rfl ?_
            refine TC.seq ?_
            refine TC.drawTail 25 (by kernel_rfl) (by kernel_rfl) ?_
            refine TQ.run 12 [2, 2] [(1, .int .i64 time), (2, .int .i64 accel), (3, .pointer (some ⟨b1, 0, none⟩)), (6, .pointer (some ⟨b2, 0, none⟩)), (8, .pointer (some ⟨b3, 0, none⟩)), (10, .int .i64 (w64 (time - f.Track.Time))), (11, .pointer (some ⟨b1, 0, none⟩)), (43, .pointer (some ⟨b1, 0, none⟩)), (47, P.v f.Track.At), (54, .int .i64 (w64 (f.Track.Speed.X * (w64 (time - f.Track.Time)))))] rfl ⟨by kernel_rfl, by kernel_rfl⟩ ?_
            refine TQ.call (some 55) [(1, .int .i64 time), (2, .int .i64 accel), (3, .pointer (some ⟨b1, 0, none⟩)), (6, .pointer (some ⟨b2, 0, none⟩)), (8, .pointer (some ⟨b3, 0, none⟩)), (10, .int .i64 (w64 (time - f.Track.Time))), (11, .pointer (some ⟨b1, 0, none⟩)), (43, .pointer (some ⟨b1, 0, none⟩)), (47, P.v f.Track.At), (55, .int .i64 (filter_down (w64 (f.Track.Speed.X * (w64 (time - f.Track.Time)))) 16))] (fun w _ => filter_down_w (w64 (f.Track.Speed.X * (w64 (time - f.Track.Time)))) 16 w) rfl (by kernel_rfl) (by kernel_rfl) ?_
            generalize hr5 : filter_down (w64 (f.Track.Speed.X * (w64 (time - f.Track.Time)))) 16 = r5
            refine TQ.run 20 [2] [(1, .int .i64 time), (2, .int .i64 accel), (3, .pointer (some ⟨b1, 0, none⟩)), (6, .pointer (some ⟨b2, 0, none⟩)), (8, .pointer (some ⟨b3, 0, none⟩)), (10, .int .i64 (w64 (time - f.Track.Time))), (11, .pointer (some ⟨b1, 0, none⟩)), (43, .pointer (some ⟨b1, 0, none⟩)), (47, P.v f.Track.At), (55, .int .i64 r5), (62, .int .i64 (w64 (f.Track.Speed.Y * (w64 (time - f.Track.Time)))))] rfl ⟨by kernel_rfl, by kernel_rfl⟩ ?_
            refine TQ.call (some 63) [(1, .int .i64 time), (2, .int .i64 accel), (3, .pointer (some ⟨b1, 0, none⟩)), (6, .pointer (some ⟨b2, 0, none⟩)), (8, .pointer (some ⟨b3, 0, none⟩)), (10, .int .i64 (w64 (time - f.Track.Time))), (11, .pointer (some ⟨b1, 0, none⟩)), (43, .pointer (some ⟨b1, 0, none⟩)), (47, P.v f.Track.At), (55, .int .i64 r5), (63, .int .i64 (filter_down (w64 (f.Track.Speed.Y * (w64 (time - f.Track.Time)))) 16))] (fun w _ => filter_down_w (w64 (f.Track.Speed.Y * (w64 (time - f.Track.Time)))) 16 w) rfl (by kernel_rfl) (by kernel_rfl) ?_
            generalize hr6 : filter_down (w64 (f.Track.Speed.Y * (w64 (time - f.Track.Time)))) 16 = r6
            refine TQ.run 22 [] [(1, .int .i64 time), (2, .int .i64 accel), (3, .pointer (some ⟨b1, 0, none⟩)), (6, .pointer (some ⟨b2, 0, none⟩)), (8, .pointer (some ⟨b3, 0, none⟩)), (10, .int .i64 (w64 (time - f.Track.Time))), (11, .pointer (some ⟨b1, 0, none⟩)), (43, .pointer (some ⟨b1, 0, none⟩)), (47, P.v f.Track.At), (64, .agg #[.int .i64 r5, .int .i64 r6])] rfl ⟨by kernel_rfl, by kernel_rfl⟩ ?_
            refine TQ.call (some 65) [(1, .int .i64 time), (2, .int .i64 accel), (3, .pointer (some ⟨b1, 0, none⟩)), (6, .pointer (some ⟨b2, 0, none⟩)), (8, .pointer (some ⟨b3, 0, none⟩)), (10, .int .i64 (w64 (time - f.Track.Time))), (11, .pointer (some ⟨b1, 0, none⟩)), (43, .pointer (some ⟨b1, 0, none⟩)), (65, P.v (plane_Add f.Track.At (⟨r5, r6⟩ : P)))] (fun w _ => plane_Add_w f.Track.At (⟨r5, r6⟩ : P) w) rfl (by kernel_rfl) (by kernel_rfl) ?_
            generalize hr7 : plane_Add f.Track.At (⟨r5, r6⟩ : P) = r7
            refine TQ.run 25 [] [(1, .int .i64 time), (2, .int .i64 accel), (3, .pointer (some ⟨b1, 0, none⟩)), (6, .pointer (some ⟨b2, 0, none⟩)), (8, .pointer (some ⟨b3, 0, none⟩)), (10, .int .i64 (w64 (time - f.Track.Time))), (11, .pointer (some ⟨b1, 0, none⟩)), (65, P.v r7), (67, .pointer (some ⟨b1, 3, none⟩))] rfl ⟨by kernel_rfl, by kernel_rfl⟩ ?_
            refine TQ.tail rfl ?_
            refine TL.write 2 (fun _ => [(1, .int .i64 time), (2, .int .i64 accel), (3, .pointer (some ⟨b1, 0, none⟩)), (6, .pointer (some ⟨b2, 0, none⟩)), (8, .pointer (some ⟨b3, 0, none⟩)), (10, .int .i64 (w64 (time - f.Track.Time))), (11, .pointer (some ⟨b1, 0, none⟩))]) (fun _ => [.inl (b3, .cells (FilterTrack.c FilterTrack.zero) 29 (0, 0)), .inl (b2, .cells (FilterTrack.c FilterTrack.zero) 29 (0, 0)), .inl (b1, .cells #[.int .i64 f.Track.ID, .int .i64 f.Track.State, .int .i64 f.Track.Time, .int .i64 r7.X, .int .i64 r7.Y, .int .i64 f.Track.Speed.X, .int .i64 f.Track.Speed.Y, .int .i64 f.Track.Height, .int .i64 f.Track.Rate, .int .i64 f.Track.Radius, .int .i64 f.Track.Code, .int .i64 f.Track.Hits, .int .i64 f.Track.Misses, .int .i64 f.Slack, .int .i64 f.Last.Time, .int .i64 f.Last.At.X, .int .i64 f.Last.At.Y, .int .i64 f.Last.Height, .int .i64 f.Last.Code, .int .i64 f.Last.Error] 29 (0, 0))]) (fun _ => ⟨by kernel_rfl, by kernel_rfl⟩) (fun _ => ?_)
            refine TL.next rfl ?_
            refine TC.seq ?_
            refine TC.drawTail 16 (by kernel_rfl) (by kernel_rfl) ?_
            refine TQ.run 11 [2, 2] [(1, .int .i64 time), (2, .int .i64 accel), (3, .pointer (some ⟨b1, 0, none⟩)), (6, .pointer (some ⟨b2, 0, none⟩)), (8, .pointer (some ⟨b3, 0, none⟩)), (10, .int .i64 (w64 (time - f.Track.Time))), (11, .pointer (some ⟨b1, 0, none⟩)), (68, .pointer (some ⟨b1, 0, none⟩)), (72, .int .i64 f.Track.Height), (78, .int .i64 (w64 (f.Track.Rate * (w64 (time - f.Track.Time)))))] rfl ⟨by kernel_rfl, by kernel_rfl⟩ ?_
            refine TQ.call (some 79) [(1, .int .i64 time), (2, .int .i64 accel), (3, .pointer (some ⟨b1, 0, none⟩)), (6, .pointer (some ⟨b2, 0, none⟩)), (8, .pointer (some ⟨b3, 0, none⟩)), (10, .int .i64 (w64 (time - f.Track.Time))), (11, .pointer (some ⟨b1, 0, none⟩)), (68, .pointer (some ⟨b1, 0, none⟩)), (72, .int .i64 f.Track.Height), (79, .int .i64 (filter_down (w64 (f.Track.Rate * (w64 (time - f.Track.Time)))) 16))] (fun w _ => filter_down_w (w64 (f.Track.Rate * (w64 (time - f.Track.Time)))) 16 w) rfl (by kernel_rfl) (by kernel_rfl) ?_
            generalize hr8 : filter_down (w64 (f.Track.Rate * (w64 (time - f.Track.Time)))) 16 = r8
            refine TQ.run 13 [] [(1, .int .i64 time), (2, .int .i64 accel), (3, .pointer (some ⟨b1, 0, none⟩)), (6, .pointer (some ⟨b2, 0, none⟩)), (8, .pointer (some ⟨b3, 0, none⟩)), (10, .int .i64 (w64 (time - f.Track.Time))), (11, .pointer (some ⟨b1, 0, none⟩)), (68, .pointer (some ⟨b1, 0, none⟩)), (80, .int .i64 (w64 (f.Track.Height + r8)))] rfl ⟨by kernel_rfl, by kernel_rfl⟩ ?_
            refine TQ.call (some 81) [(1, .int .i64 time), (2, .int .i64 accel), (3, .pointer (some ⟨b1, 0, none⟩)), (6, .pointer (some ⟨b2, 0, none⟩)), (8, .pointer (some ⟨b3, 0, none⟩)), (10, .int .i64 (w64 (time - f.Track.Time))), (11, .pointer (some ⟨b1, 0, none⟩)), (68, .pointer (some ⟨b1, 0, none⟩)), (81, .int .i64 (num_Between (w64 (f.Track.Height + r8)) 0 60000))] (fun w _ => num_Between_w (w64 (f.Track.Height + r8)) 0 60000 w) rfl (by kernel_rfl) (by kernel_rfl) ?_
            generalize hr9 : num_Between (w64 (f.Track.Height + r8)) 0 60000 = r9
            refine TQ.run 16 [] [(1, .int .i64 time), (2, .int .i64 accel), (3, .pointer (some ⟨b1, 0, none⟩)), (6, .pointer (some ⟨b2, 0, none⟩)), (8, .pointer (some ⟨b3, 0, none⟩)), (10, .int .i64 (w64 (time - f.Track.Time))), (11, .pointer (some ⟨b1, 0, none⟩)), (81, .int .i64 r9), (83, .pointer (some ⟨b1, 7, none⟩))] rfl ⟨by kernel_rfl, by kernel_rfl⟩ ?_
            refine TQ.tail rfl ?_
            refine TL.write 2 (fun _ => [(1, .int .i64 time), (2, .int .i64 accel), (3, .pointer (some ⟨b1, 0, none⟩)), (6, .pointer (some ⟨b2, 0, none⟩)), (8, .pointer (some ⟨b3, 0, none⟩)), (10, .int .i64 (w64 (time - f.Track.Time))), (11, .pointer (some ⟨b1, 0, none⟩))]) (fun _ => [.inl (b3, .cells (FilterTrack.c FilterTrack.zero) 29 (0, 0)), .inl (b2, .cells (FilterTrack.c FilterTrack.zero) 29 (0, 0)), .inl (b1, .cells #[.int .i64 f.Track.ID, .int .i64 f.Track.State, .int .i64 f.Track.Time, .int .i64 r7.X, .int .i64 r7.Y, .int .i64 f.Track.Speed.X, .int .i64 f.Track.Speed.Y, .int .i64 r9, .int .i64 f.Track.Rate, .int .i64 f.Track.Radius, .int .i64 f.Track.Code, .int .i64 f.Track.Hits, .int .i64 f.Track.Misses, .int .i64 f.Slack, .int .i64 f.Last.Time, .int .i64 f.Last.At.X, .int .i64 f.Last.At.Y, .int .i64 f.Last.Height, .int .i64 f.Last.Code, .int .i64 f.Last.Error] 29 (0, 0))]) (fun _ => ⟨by kernel_rfl, by kernel_rfl⟩) (fun _ => ?_)
            refine TL.next rfl ?_
            refine TC.seq ?_
            refine TC.region ?_
            refine TL.run 4 [2] [(1, .int .i64 time), (2, .int .i64 accel), (3, .pointer (some ⟨b1, 0, none⟩)), (6, .pointer (some ⟨b2, 0, none⟩)), (8, .pointer (some ⟨b3, 0, none⟩)), (10, .int .i64 (w64 (time - f.Track.Time))), (11, .pointer (some ⟨b1, 0, none⟩)), (86, .int .i64 f.Slack), (87, .int .i64 accel), (88, .int .i64 (w64 (time - f.Track.Time)))] rfl ⟨by kernel_rfl, by kernel_rfl⟩ ?_
            refine TL.call (some 89) [(1, .int .i64 time), (2, .int .i64 accel), (3, .pointer (some ⟨b1, 0, none⟩)), (6, .pointer (some ⟨b2, 0, none⟩)), (8, .pointer (some ⟨b3, 0, none⟩)), (10, .int .i64 (w64 (time - f.Track.Time))), (11, .pointer (some ⟨b1, 0, none⟩)), (89, .tuple #[.int .i64 ((gate_Reach f.Slack accel (w64 (time - f.Track.Time))).1), .int .i64 ((gate_Reach f.Slack accel (w64 (time - f.Track.Time))).2)])] (fun w _ => gate_Reach_w f.Slack accel (w64 (time - f.Track.Time)) w) (by kernel_rfl) (by kernel_rfl) ?_
            generalize hr10 : gate_Reach f.Slack accel (w64 (time - f.Track.Time)) = r10
            refine TL.run 10 [] [(1, .int .i64 time), (2, .int .i64 accel), (3, .pointer (some ⟨b1, 0, none⟩)), (6, .pointer (some ⟨b2, 0, none⟩)), (8, .pointer (some ⟨b3, 0, none⟩)), (10, .int .i64 (w64 (time - f.Track.Time))), (11, .pointer (some ⟨b1, 0, none⟩)), (12, .int .i64 r10.1)] rfl ⟨by kernel_rfl, by kernel_rfl⟩ ?_
            refine TL.next rfl ?_
            refine TC.seq ?_
            refine TC.region ?_
            refine TL.run 8 [2] [(1, .int .i64 time), (2, .int .i64 accel), (3, .pointer (some ⟨b1, 0, none⟩)), (6, .pointer (some ⟨b2, 0, none⟩)), (8, .pointer (some ⟨b3, 0, none⟩)), (10, .int .i64 (w64 (time - f.Track.Time))), (11, .pointer (some ⟨b1, 0, none⟩)), (97, .int .i64 (w64 (f.Track.Radius + r10.1))), (99, .pointer (some ⟨b1, 9, none⟩))] rfl ⟨by kernel_rfl, by kernel_rfl⟩ ?_
            refine TL.write 2 (fun _ => [(1, .int .i64 time), (2, .int .i64 accel), (3, .pointer (some ⟨b1, 0, none⟩)), (6, .pointer (some ⟨b2, 0, none⟩)), (8, .pointer (some ⟨b3, 0, none⟩)), (10, .int .i64 (w64 (time - f.Track.Time))), (11, .pointer (some ⟨b1, 0, none⟩))]) (fun _ => [.inl (b3, .cells (FilterTrack.c FilterTrack.zero) 29 (0, 0)), .inl (b2, .cells (FilterTrack.c FilterTrack.zero) 29 (0, 0)), .inl (b1, .cells #[.int .i64 f.Track.ID, .int .i64 f.Track.State, .int .i64 f.Track.Time, .int .i64 r7.X, .int .i64 r7.Y, .int .i64 f.Track.Speed.X, .int .i64 f.Track.Speed.Y, .int .i64 r9, .int .i64 f.Track.Rate, .int .i64 (w64 (f.Track.Radius + r10.1)), .int .i64 f.Track.Code, .int .i64 f.Track.Hits, .int .i64 f.Track.Misses, .int .i64 f.Slack, .int .i64 f.Last.Time, .int .i64 f.Last.At.X, .int .i64 f.Last.At.Y, .int .i64 f.Last.Height, .int .i64 f.Last.Code, .int .i64 f.Last.Error] 29 (0, 0))]) (fun _ => ⟨by kernel_rfl, by kernel_rfl⟩) (fun _ => ?_)
            refine TL.next rfl ?_
            refine TC.seq ?_
            refine TC.region ?_
            refine TL.run 4 [] [(2, .int .i64 accel), (3, .pointer (some ⟨b1, 0, none⟩)), (6, .pointer (some ⟨b2, 0, none⟩)), (8, .pointer (some ⟨b3, 0, none⟩)), (10, .int .i64 (w64 (time - f.Track.Time))), (101, .int .i64 time), (103, .pointer (some ⟨b1, 2, none⟩))] rfl ⟨by kernel_rfl, by kernel_rfl⟩ ?_
            refine TL.write 2 (fun _ => [(2, .int .i64 accel), (3, .pointer (some ⟨b1, 0, none⟩)), (6, .pointer (some ⟨b2, 0, none⟩)), (8, .pointer (some ⟨b3, 0, none⟩)), (10, .int .i64 (w64 (time - f.Track.Time)))]) (fun _ => [.inl (b3, .cells (FilterTrack.c FilterTrack.zero) 29 (0, 0)), .inl (b2, .cells (FilterTrack.c FilterTrack.zero) 29 (0, 0)), .inl (b1, .cells #[.int .i64 f.Track.ID, .int .i64 f.Track.State, .int .i64 time, .int .i64 r7.X, .int .i64 r7.Y, .int .i64 f.Track.Speed.X, .int .i64 f.Track.Speed.Y, .int .i64 r9, .int .i64 f.Track.Rate, .int .i64 (w64 (f.Track.Radius + r10.1)), .int .i64 f.Track.Code, .int .i64 f.Track.Hits, .int .i64 f.Track.Misses, .int .i64 f.Slack, .int .i64 f.Last.Time, .int .i64 f.Last.At.X, .int .i64 f.Last.At.Y, .int .i64 f.Last.Height, .int .i64 f.Last.Code, .int .i64 f.Last.Error] 29 (0, 0))]) (fun _ => ⟨by kernel_rfl, by kernel_rfl⟩) (fun _ => ?_)
            refine TL.next rfl ?_
            refine TC.seq ?_
            refine TC.region ?_
            refine TL.run 8 [2] [(3, .pointer (some ⟨b1, 0, none⟩)), (6, .pointer (some ⟨b2, 0, none⟩)), (8, .pointer (some ⟨b3, 0, none⟩)), (110, .int .i64 (w64 (f.Slack + (w64 ((w64 (16 * accel)) * (w64 (time - f.Track.Time))))))), (111, .pointer (some ⟨b1, 13, none⟩))] rfl ⟨by kernel_rfl, by kernel_rfl⟩ ?_
            refine TL.write 2 (fun _ => [(3, .pointer (some ⟨b1, 0, none⟩)), (6, .pointer (some ⟨b2, 0, none⟩)), (8, .pointer (some ⟨b3, 0, none⟩))]) (fun _ => [.inl (b3, .cells (FilterTrack.c FilterTrack.zero) 29 (0, 0)), .inl (b2, .cells (FilterTrack.c FilterTrack.zero) 29 (0, 0)), .inl (b1, .cells #[.int .i64 f.Track.ID, .int .i64 f.Track.State, .int .i64 time, .int .i64 r7.X, .int .i64 r7.Y, .int .i64 f.Track.Speed.X, .int .i64 f.Track.Speed.Y, .int .i64 r9, .int .i64 f.Track.Rate, .int .i64 (w64 (f.Track.Radius + r10.1)), .int .i64 f.Track.Code, .int .i64 f.Track.Hits, .int .i64 f.Track.Misses, .int .i64 (w64 (f.Slack + (w64 ((w64 (16 * accel)) * (w64 (time - f.Track.Time)))))), .int .i64 f.Last.Time, .int .i64 f.Last.At.X, .int .i64 f.Last.At.Y, .int .i64 f.Last.Height, .int .i64 f.Last.Code, .int .i64 f.Last.Error] 29 (0, 0))]) (fun _ => ⟨by kernel_rfl, by kernel_rfl⟩) (fun _ => ?_)
            refine TL.next rfl ?_
            refine TC.seq ?_
            refine TC.seq ?_
            refine TC.region ?_
            refine TL.run 1 [2] [(3, .pointer (some ⟨b1, 0, none⟩)), (6, .pointer (some ⟨b2, 0, none⟩)), (8, .pointer (some ⟨b3, 0, none⟩)), (112, .agg #[.int .i64 f.Track.ID, .int .i64 f.Track.State, .int .i64 time, .int .i64 r7.X, .int .i64 r7.Y, .int .i64 f.Track.Speed.X, .int .i64 f.Track.Speed.Y, .int .i64 r9, .int .i64 f.Track.Rate, .int .i64 (w64 (f.Track.Radius + r10.1)), .int .i64 f.Track.Code, .int .i64 f.Track.Hits, .int .i64 f.Track.Misses, .int .i64 (w64 (f.Slack + (w64 ((w64 (16 * accel)) * (w64 (time - f.Track.Time)))))), .int .i64 f.Last.Time, .int .i64 f.Last.At.X, .int .i64 f.Last.At.Y, .int .i64 f.Last.Height, .int .i64 f.Last.Code, .int .i64 f.Last.Error])] rfl ⟨by kernel_rfl, by kernel_rfl⟩ ?_
            refine TL.call (some 113) [(3, .pointer (some ⟨b1, 0, none⟩)), (6, .pointer (some ⟨b2, 0, none⟩)), (8, .pointer (some ⟨b3, 0, none⟩)), (113, .int .i64 (filter_Check (⟨⟨f.Track.ID, f.Track.State, time, r7, f.Track.Speed, r9, f.Track.Rate, w64 (f.Track.Radius + r10.1), f.Track.Code, f.Track.Hits, f.Track.Misses⟩, w64 (f.Slack + (w64 ((w64 (16 * accel)) * (w64 (time - f.Track.Time))))), f.Last⟩ : FilterTrack)))] (fun w _ => filter_Check_w (⟨⟨f.Track.ID, f.Track.State, time, r7, f.Track.Speed, r9, f.Track.Rate, w64 (f.Track.Radius + r10.1), f.Track.Code, f.Track.Hits, f.Track.Misses⟩, w64 (f.Slack + (w64 ((w64 (16 * accel)) * (w64 (time - f.Track.Time))))), f.Last⟩ : FilterTrack) w) (by kernel_rfl) (by kernel_rfl) ?_
            generalize hr11 : filter_Check (⟨⟨f.Track.ID, f.Track.State, time, r7, f.Track.Speed, r9, f.Track.Rate, w64 (f.Track.Radius + r10.1), f.Track.Code, f.Track.Hits, f.Track.Misses⟩, w64 (f.Slack + (w64 ((w64 (16 * accel)) * (w64 (time - f.Track.Time))))), f.Last⟩ : FilterTrack) = r11
            refine TL.run 3 [] [(3, .pointer (some ⟨b1, 0, none⟩)), (6, .pointer (some ⟨b2, 0, none⟩)), (8, .pointer (some ⟨b3, 0, none⟩)), (114, .bool (r11 != 0))] rfl ⟨by kernel_rfl, by kernel_rfl⟩ ?_
            refine TL.next rfl ?_
            refine TC.cond (r11 != 0) rfl (by kernel_rfl) (fun h6 => ?_) (fun h6 => ?_)
            · refine TC.seq ?_
              refine TC.region ?_
              refine TL.run 1 [0] [(6, .pointer (some ⟨b2, 0, none⟩)), (115, .agg #[.int .i64 0, .int .i64 0, .int .i64 0, .int .i64 0, .int .i64 0, .int .i64 0, .int .i64 0, .int .i64 0, .int .i64 0, .int .i64 0, .int .i64 0, .int .i64 0, .int .i64 0, .int .i64 0, .int .i64 0, .int .i64 0, .int .i64 0, .int .i64 0, .int .i64 0, .int .i64 0])] rfl ⟨by kernel_rfl, by kernel_rfl⟩ ?_
              refine TL.write 1 (fun _ => [(6, .pointer (some ⟨b2, 0, none⟩))]) (fun _ => [.inl (b3, .cells (FilterTrack.c FilterTrack.zero) 29 (0, 0)), .inl (b2, .cells (FilterTrack.c FilterTrack.zero) 29 (0, 0)), .inl (b1, .cells #[.int .i64 f.Track.ID, .int .i64 f.Track.State, .int .i64 time, .int .i64 r7.X, .int .i64 r7.Y, .int .i64 f.Track.Speed.X, .int .i64 f.Track.Speed.Y, .int .i64 r9, .int .i64 f.Track.Rate, .int .i64 (w64 (f.Track.Radius + r10.1)), .int .i64 f.Track.Code, .int .i64 f.Track.Hits, .int .i64 f.Track.Misses, .int .i64 (w64 (f.Slack + (w64 ((w64 (16 * accel)) * (w64 (time - f.Track.Time)))))), .int .i64 f.Last.Time, .int .i64 f.Last.At.X, .int .i64 f.Last.At.Y, .int .i64 f.Last.Height, .int .i64 f.Last.Code, .int .i64 f.Last.Error] 29 (0, 0))]) (fun _ => ⟨by kernel_rfl, by kernel_rfl⟩) (fun _ => ?_)
              refine TL.run 3 [] [(6, .pointer (some ⟨b2, 0, none⟩)), (7, .int .i64 8)] rfl ⟨by kernel_rfl, by kernel_rfl⟩ ?_
              refine TL.next rfl ?_
              refine TC.ret ?_
              refine TE.ret_then ?_
              have e : filter_Predict f time accel = ((⟨⟨0, 0, 0, ⟨0, 0⟩, ⟨0, 0⟩, 0, 0, 0, 0, 0, 0⟩, 0, ⟨0, ⟨0, 0⟩, 0, 0, 0⟩⟩ : FilterTrack), 8) := by subst hr1 hr2 hr3 hr4 hr5 hr6 hr7 hr8 hr9 hr10 hr11; unfold filter_Predict; exact cond_f h1 (cond_f h2 (cond_f h3 (cond_f h4 (cond_f h5 (cond_t h6 (rfl))))))
              exact TE.ret [1] (.tuple #[.agg #[.int .i64 0, .int .i64 0, .int .i64 0, .int .i64 0, .int .i64 0, .int .i64 0, .int .i64 0, .int .i64 0, .int .i64 0, .int .i64 0, .int .i64 0, .int .i64 0, .int .i64 0, .int .i64 0, .int .i64 0, .int .i64 0, .int .i64 0, .int .i64 0, .int .i64 0, .int .i64 0], .int .i64 8]) ⟨by kernel_rfl, by kernel_rfl⟩ (by rw [e]; first | done | kernel_rfl)
            · refine TC.skip ?_
              refine TE.next ?_
              refine TC.seq ?_
              refine TC.region ?_
              refine TL.run 1 [2] [(6, .pointer (some ⟨b2, 0, none⟩)), (116, .agg #[.int .i64 f.Track.ID, .int .i64 f.Track.State, .int .i64 time, .int .i64 r7.X, .int .i64 r7.Y, .int .i64 f.Track.Speed.X, .int .i64 f.Track.Speed.Y, .int .i64 r9, .int .i64 f.Track.Rate, .int .i64 (w64 (f.Track.Radius + r10.1)), .int .i64 f.Track.Code, .int .i64 f.Track.Hits, .int .i64 f.Track.Misses, .int .i64 (w64 (f.Slack + (w64 ((w64 (16 * accel)) * (w64 (time - f.Track.Time)))))), .int .i64 f.Last.Time, .int .i64 f.Last.At.X, .int .i64 f.Last.At.Y, .int .i64 f.Last.Height, .int .i64 f.Last.Code, .int .i64 f.Last.Error])] rfl ⟨by kernel_rfl, by kernel_rfl⟩ ?_
              refine TL.write 1 (fun _ => [(6, .pointer (some ⟨b2, 0, none⟩))]) (fun _ => [.inl (b3, .cells (FilterTrack.c FilterTrack.zero) 29 (0, 0)), .inl (b2, .cells #[.int .i64 f.Track.ID, .int .i64 f.Track.State, .int .i64 time, .int .i64 r7.X, .int .i64 r7.Y, .int .i64 f.Track.Speed.X, .int .i64 f.Track.Speed.Y, .int .i64 r9, .int .i64 f.Track.Rate, .int .i64 (w64 (f.Track.Radius + r10.1)), .int .i64 f.Track.Code, .int .i64 f.Track.Hits, .int .i64 f.Track.Misses, .int .i64 (w64 (f.Slack + (w64 ((w64 (16 * accel)) * (w64 (time - f.Track.Time)))))), .int .i64 f.Last.Time, .int .i64 f.Last.At.X, .int .i64 f.Last.At.Y, .int .i64 f.Last.Height, .int .i64 f.Last.Code, .int .i64 f.Last.Error] 29 (0, 0)), .inl (b1, .cells #[.int .i64 f.Track.ID, .int .i64 f.Track.State, .int .i64 time, .int .i64 r7.X, .int .i64 r7.Y, .int .i64 f.Track.Speed.X, .int .i64 f.Track.Speed.Y, .int .i64 r9, .int .i64 f.Track.Rate, .int .i64 (w64 (f.Track.Radius + r10.1)), .int .i64 f.Track.Code, .int .i64 f.Track.Hits, .int .i64 f.Track.Misses, .int .i64 (w64 (f.Slack + (w64 ((w64 (16 * accel)) * (w64 (time - f.Track.Time)))))), .int .i64 f.Last.Time, .int .i64 f.Last.At.X, .int .i64 f.Last.At.Y, .int .i64 f.Last.Height, .int .i64 f.Last.Code, .int .i64 f.Last.Error] 29 (0, 0))]) (fun _ => ⟨by kernel_rfl, by kernel_rfl⟩) (fun _ => ?_)
              refine TL.run 3 [] [(6, .pointer (some ⟨b2, 0, none⟩)), (7, .int .i64 0)] rfl ⟨by kernel_rfl, by kernel_rfl⟩ ?_
              refine TL.next rfl ?_
              refine TC.ret ?_
              have e : filter_Predict f time accel = ((⟨⟨f.Track.ID, f.Track.State, time, r7, f.Track.Speed, r9, f.Track.Rate, w64 (f.Track.Radius + r10.1), f.Track.Code, f.Track.Hits, f.Track.Misses⟩, w64 (f.Slack + (w64 ((w64 (16 * accel)) * (w64 (time - f.Track.Time))))), f.Last⟩ : FilterTrack), 0) := by subst hr1 hr2 hr3 hr4 hr5 hr6 hr7 hr8 hr9 hr10 hr11; unfold filter_Predict; exact cond_f h1 (cond_f h2 (cond_f h3 (cond_f h4 (cond_f h5 (cond_f h6 (rfl))))))
              exact TE.ret [1] (.tuple #[.agg #[.int .i64 f.Track.ID, .int .i64 f.Track.State, .int .i64 time, .int .i64 r7.X, .int .i64 r7.Y, .int .i64 f.Track.Speed.X, .int .i64 f.Track.Speed.Y, .int .i64 r9, .int .i64 f.Track.Rate, .int .i64 (w64 (f.Track.Radius + r10.1)), .int .i64 f.Track.Code, .int .i64 f.Track.Hits, .int .i64 f.Track.Misses, .int .i64 (w64 (f.Slack + (w64 ((w64 (16 * accel)) * (w64 (time - f.Track.Time)))))), .int .i64 f.Last.Time, .int .i64 f.Last.At.X, .int .i64 f.Last.At.Y, .int .i64 f.Last.Height, .int .i64 f.Last.Code, .int .i64 f.Last.Error], .int .i64 0]) ⟨by kernel_rfl, by kernel_rfl⟩ (by rw [e]; first | done | kernel_rfl)

def filter_mix (a : Int) (b_ : Int) (g : Int) : Int :=
  let r1 := filter_down (w64 ((w64 (b_ - a)) * g)) 256
  w64 (a + r1)

set_option maxRecDepth 100000 in
theorem filter_mix_w (a : Int) (b_ : Int) (g : Int) (w : World) : Calls Try.prog 62 #[.int .i64 a, .int .i64 b_, .int .i64 g] w (Ret w (.int .i64 (filter_mix a b_ g))) := by
  refine calls_intro (vs := [.int .i64 a, .int .i64 b_, .int .i64 g]) (w := w) Try.func62 rfl Try.ntmps62 rfl ?_
  refine TC.weak [(0, .int .i64 a), (1, .int .i64 b_), (2, .int .i64 g)] (by kernel_rfl) ?_
  refine TC.seq ?_
  refine TC.region ?_
  refine TL.run 1 [] [(0, .int .i64 a), (1, .int .i64 b_), (2, .int .i64 g)] rfl ⟨by kernel_rfl, by kernel_rfl⟩ ?_
  refine TL.next rfl ?_
  refine TC.seq ?_
  refine TC.region ?_
  refine TL.run 6 [] [(7, .int .i64 a), (12, .int .i64 (w64 ((w64 (b_ - a)) * g)))] rfl ⟨by kernel_rfl, by kernel_rfl⟩ ?_
  refine TL.call (some 13) [(7, .int .i64 a), (13, .int .i64 (filter_down (w64 ((w64 (b_ - a)) * g)) 256))] (fun w _ => filter_down_w (w64 ((w64 (b_ - a)) * g)) 256 w) (by kernel_rfl) (by kernel_rfl) ?_
  generalize hr1 : filter_down (w64 ((w64 (b_ - a)) * g)) 256 = r1
  refine TL.run 9 [] [(6, .int .i64 (w64 (a + r1)))] rfl ⟨by kernel_rfl, by kernel_rfl⟩ ?_
  refine TL.next rfl ?_
  refine TC.ret ?_
  have e : filter_mix a b_ g = (w64 (a + r1)) := by subst hr1; unfold filter_mix; exact rfl
  exact TE.ret [] (.int .i64 (w64 (a + r1))) ⟨by kernel_rfl, by kernel_rfl⟩ (by rw [e]; first | done | kernel_rfl)

def filter_Update (f : FilterTrack) (s : Spot) (accel : Int) (place : Int) (speed : Int) : FilterTrack × Int :=
  let r1 := filter_Check f
  cond (r1 != 0) (
    ((⟨⟨0, 0, 0, ⟨0, 0⟩, ⟨0, 0⟩, 0, 0, 0, 0, 0, 0⟩, 0, ⟨0, ⟨0, 0⟩, 0, 0, 0⟩⟩ : FilterTrack), r1)) (
    let r2 := radar_CheckSpot s
    cond (r2 != 0) (
      ((⟨⟨0, 0, 0, ⟨0, 0⟩, ⟨0, 0⟩, 0, 0, 0, 0, 0, 0⟩, 0, ⟨0, ⟨0, 0⟩, 0, 0, 0⟩⟩ : FilterTrack), r2)) (
      let r3 := filter_out place 0 256
      cond r3 (
        ((⟨⟨0, 0, 0, ⟨0, 0⟩, ⟨0, 0⟩, 0, 0, 0, 0, 0, 0⟩, 0, ⟨0, ⟨0, 0⟩, 0, 0, 0⟩⟩ : FilterTrack), 4)) (
        let r4 := filter_out speed 0 256
        cond r4 (
          ((⟨⟨0, 0, 0, ⟨0, 0⟩, ⟨0, 0⟩, 0, 0, 0, 0, 0, 0⟩, 0, ⟨0, ⟨0, 0⟩, 0, 0, 0⟩⟩ : FilterTrack), 4)) (
          cond (decide ((w64 (s.Time - f.Last.Time)) ≤ 0)) (
            ((⟨⟨0, 0, 0, ⟨0, 0⟩, ⟨0, 0⟩, 0, 0, 0, 0, 0, 0⟩, 0, ⟨0, ⟨0, 0⟩, 0, 0, 0⟩⟩ : FilterTrack), 12)) (
            let r5 := filter_Predict f s.Time accel
            cond (r5.2 != 0) (
              ((⟨⟨0, 0, 0, ⟨0, 0⟩, ⟨0, 0⟩, 0, 0, 0, 0, 0, 0⟩, 0, ⟨0, ⟨0, 0⟩, 0, 0, 0⟩⟩ : FilterTrack), r5.2)) (
              let r6 := plane_Within r5.1.Track.At s.At (w64 (r5.1.Track.Radius + s.Error))
              cond (!r6) (
                ((⟨⟨0, 0, 0, ⟨0, 0⟩, ⟨0, 0⟩, 0, 0, 0, 0, 0, 0⟩, 0, ⟨0, ⟨0, 0⟩, 0, 0, 0⟩⟩ : FilterTrack), 8)) (
                let r7 := filter_mix r5.1.Track.At.X s.At.X place
                let r8 := filter_mix r5.1.Track.At.Y s.At.Y place
                let r9 := filter_up (w64 ((w64 ((w64 (256 - place)) * r5.1.Track.Radius)) + (w64 (place * s.Error)))) 256
                let r10 := filter_down (w64 (16 * (w64 (s.At.X - f.Last.At.X)))) (w64 (s.Time - f.Last.Time))
                let r11 := filter_down (w64 (16 * (w64 (s.At.Y - f.Last.At.Y)))) (w64 (s.Time - f.Last.Time))
                let r12 := filter_mix r5.1.Track.Speed.X r10 speed
                let r13 := filter_mix r5.1.Track.Speed.Y r11 speed
                let r14 := filter_up (w64 (16 * (w64 (s.Error + f.Last.Error)))) (w64 (s.Time - f.Last.Time))
                let r15 := filter_up (w64 ((w64 ((w64 (256 - speed)) * r5.1.Slack)) + (w64 (speed * (w64 ((w64 (r14 + (w64 ((w64 (16 * accel)) * (w64 (s.Time - f.Last.Time)))))) + 2)))))) 256
                let r16 := filter_down (w64 (16 * (w64 (s.Height - f.Last.Height)))) (w64 (s.Time - f.Last.Time))
                let r17 := num_Between r16 (-3200) 3200
                cond (s.Code != (-1)) (
                  let r18 := filter_Check (⟨⟨r5.1.Track.ID, r5.1.Track.State, r5.1.Track.Time, ⟨r7, r8⟩, ⟨r12, r13⟩, s.Height, r17, w64 (r9 + 2), s.Code, w64 (r5.1.Track.Hits + 1), 0⟩, w64 (r15 + 2), s⟩ : FilterTrack)
                  cond (r18 != 0) (
                    ((⟨⟨0, 0, 0, ⟨0, 0⟩, ⟨0, 0⟩, 0, 0, 0, 0, 0, 0⟩, 0, ⟨0, ⟨0, 0⟩, 0, 0, 0⟩⟩ : FilterTrack), 8)) (
                    ((⟨⟨r5.1.Track.ID, r5.1.Track.State, r5.1.Track.Time, ⟨r7, r8⟩, ⟨r12, r13⟩, s.Height, r17, w64 (r9 + 2), s.Code, w64 (r5.1.Track.Hits + 1), 0⟩, w64 (r15 + 2), s⟩ : FilterTrack), 0))) (
                  let r19 := filter_Check (⟨⟨r5.1.Track.ID, r5.1.Track.State, r5.1.Track.Time, ⟨r7, r8⟩, ⟨r12, r13⟩, s.Height, r17, w64 (r9 + 2), r5.1.Track.Code, w64 (r5.1.Track.Hits + 1), 0⟩, w64 (r15 + 2), s⟩ : FilterTrack)
                  cond (r19 != 0) (
                    ((⟨⟨0, 0, 0, ⟨0, 0⟩, ⟨0, 0⟩, 0, 0, 0, 0, 0, 0⟩, 0, ⟨0, ⟨0, 0⟩, 0, 0, 0⟩⟩ : FilterTrack), 8)) (
                    ((⟨⟨r5.1.Track.ID, r5.1.Track.State, r5.1.Track.Time, ⟨r7, r8⟩, ⟨r12, r13⟩, s.Height, r17, w64 (r9 + 2), r5.1.Track.Code, w64 (r5.1.Track.Hits + 1), 0⟩, w64 (r15 + 2), s⟩ : FilterTrack), 0))))))))))

set_option maxRecDepth 100000 in
theorem filter_Update_w (f : FilterTrack) (s : Spot) (accel : Int) (place : Int) (speed : Int) (w : World) : Calls Try.prog 23 #[FilterTrack.v f, Spot.v s, .int .i64 accel, .int .i64 place, .int .i64 speed] w (Ret w (.tuple #[FilterTrack.v ((filter_Update f s accel place speed).1), .int .i64 ((filter_Update f s accel place speed).2)])) := by
  refine calls_intro (vs := [FilterTrack.v f, Spot.v s, .int .i64 accel, .int .i64 place, .int .i64 speed]) (w := w) Try.func23 rfl Try.ntmps23 rfl ?_
  refine TC.weak [(0, FilterTrack.v f), (1, Spot.v s), (2, .int .i64 accel), (3, .int .i64 place), (4, .int .i64 speed)] (by kernel_rfl) ?_
  refine TC.seq ?_
  refine TC.region ?_
  refine TL.write 0 (fun b1 => [(1, Spot.v s), (2, .int .i64 accel), (3, .int .i64 place), (4, .int .i64 speed), (5, .pointer (some ⟨b1, 0, none⟩))]) (fun b1 => [.inl (b1, .cells (FilterTrack.c f) 29 (0, 0))]) (fun b1 => ⟨by kernel_rfl, by kernel_rfl⟩) (fun b1 => ?_)
  refine TL.write 0 (fun b2 => [(2, .int .i64 accel), (3, .int .i64 place), (4, .int .i64 speed), (5, .pointer (some ⟨b1, 0, none⟩)), (6, .pointer (some ⟨b2, 0, none⟩))]) (fun b2 => [.inl (b2, .cells (Spot.c s) 27 (0, 0)), .inl (b1, .cells (FilterTrack.c f) 29 (0, 0))]) (fun b2 => ⟨by kernel_rfl, by kernel_rfl⟩) (fun b2 => ?_)
  refine TL.write 0 (fun b3 => [(2, .int .i64 accel), (3, .int .i64 place), (4, .int .i64 speed), (5, .pointer (some ⟨b1, 0, none⟩)), (6, .pointer (some ⟨b2, 0, none⟩)), (10, .pointer (some ⟨b3, 0, none⟩))]) (fun b3 => [.inl (b3, .cells (FilterTrack.c FilterTrack.zero) 29 (0, 0)), .inl (b2, .cells (Spot.c s) 27 (0, 0)), .inl (b1, .cells (FilterTrack.c f) 29 (0, 0))]) (fun b3 => ⟨by kernel_rfl, by kernel_rfl⟩) (fun b3 => ?_)
  refine TL.run 4 [] [(2, .int .i64 accel), (3, .int .i64 place), (4, .int .i64 speed), (5, .pointer (some ⟨b1, 0, none⟩)), (6, .pointer (some ⟨b2, 0, none⟩)), (10, .pointer (some ⟨b3, 0, none⟩))] rfl ⟨by kernel_rfl, by kernel_rfl⟩ ?_
  refine TL.next rfl ?_
  refine TC.seq ?_
  refine TC.region ?_
  refine TL.run 1 [] [(2, .int .i64 accel), (3, .int .i64 place), (4, .int .i64 speed), (5, .pointer (some ⟨b1, 0, none⟩)), (6, .pointer (some ⟨b2, 0, none⟩)), (10, .pointer (some ⟨b3, 0, none⟩)), (22, FilterTrack.v FilterTrack.zero)] rfl ⟨by kernel_rfl, by kernel_rfl⟩ ?_
  refine TL.write 0 (fun b4 => [(2, .int .i64 accel), (3, .int .i64 place), (4, .int .i64 speed), (5, .pointer (some ⟨b1, 0, none⟩)), (6, .pointer (some ⟨b2, 0, none⟩)), (10, .pointer (some ⟨b3, 0, none⟩)), (12, .pointer (some ⟨b4, 0, none⟩)), (22, FilterTrack.v FilterTrack.zero)]) (fun b4 => [.inl (b4, .cells (FilterTrack.c FilterTrack.zero) 29 (0, 0)), .inl (b3, .cells (FilterTrack.c FilterTrack.zero) 29 (0, 0)), .inl (b2, .cells (Spot.c s) 27 (0, 0)), .inl (b1, .cells (FilterTrack.c f) 29 (0, 0))]) (fun b4 => ⟨by kernel_rfl, by kernel_rfl⟩) (fun b4 => ?_)
  refine TL.write 0 (fun _ => [(2, .int .i64 accel), (3, .int .i64 place), (4, .int .i64 speed), (5, .pointer (some ⟨b1, 0, none⟩)), (6, .pointer (some ⟨b2, 0, none⟩)), (10, .pointer (some ⟨b3, 0, none⟩)), (12, .pointer (some ⟨b4, 0, none⟩))]) (fun _ => [.inl (b4, .cells (FilterTrack.c FilterTrack.zero) 29 (0, 0)), .inl (b3, .cells (FilterTrack.c FilterTrack.zero) 29 (0, 0)), .inl (b2, .cells (Spot.c s) 27 (0, 0)), .inl (b1, .cells (FilterTrack.c f) 29 (0, 0))]) (fun _ => ⟨by kernel_rfl, by kernel_rfl⟩) (fun _ => ?_)
  refine TL.next rfl ?_
  refine TC.seq ?_
  refine TC.seq ?_
  refine TC.region ?_
  refine TL.run 1 [3] [(2, .int .i64 accel), (3, .int .i64 place), (4, .int .i64 speed), (5, .pointer (some ⟨b1, 0, none⟩)), (6, .pointer (some ⟨b2, 0, none⟩)), (10, .pointer (some ⟨b3, 0, none⟩)), (12, .pointer (some ⟨b4, 0, none⟩)), (23, FilterTrack.v f)] rfl ⟨by kernel_rfl, by kernel_rfl⟩ ?_
  refine TL.call (some 24) [(2, .int .i64 accel), (3, .int .i64 place), (4, .int .i64 speed), (5, .pointer (some ⟨b1, 0, none⟩)), (6, .pointer (some ⟨b2, 0, none⟩)), (10, .pointer (some ⟨b3, 0, none⟩)), (12, .pointer (some ⟨b4, 0, none⟩)), (24, .int .i64 (filter_Check f))] (fun w _ => filter_Check_w f w) (by kernel_rfl) (by kernel_rfl) ?_
  generalize hr1 : filter_Check f = r1
  refine TL.run 3 [] [(2, .int .i64 accel), (3, .int .i64 place), (4, .int .i64 speed), (5, .pointer (some ⟨b1, 0, none⟩)), (6, .pointer (some ⟨b2, 0, none⟩)), (10, .pointer (some ⟨b3, 0, none⟩)), (12, .pointer (some ⟨b4, 0, none⟩)), (13, .int .i64 r1)] rfl ⟨by kernel_rfl, by kernel_rfl⟩ ?_
  refine TL.next rfl ?_
  refine TC.seq ?_
  refine TC.region ?_
  refine TL.run 2 [] [(2, .int .i64 accel), (3, .int .i64 place), (4, .int .i64 speed), (5, .pointer (some ⟨b1, 0, none⟩)), (6, .pointer (some ⟨b2, 0, none⟩)), (10, .pointer (some ⟨b3, 0, none⟩)), (12, .pointer (some ⟨b4, 0, none⟩)), (13, .int .i64 r1), (26, .bool (r1 != 0))] rfl ⟨by kernel_rfl, by kernel_rfl⟩ ?_
  refine TL.next rfl ?_
  refine TC.cond (r1 != 0) rfl (by kernel_rfl) (fun h1 => ?_) (fun h1 => ?_)
  · refine TC.seq ?_
    refine TC.region ?_
    refine TL.run 2 [0] [(10, .pointer (some ⟨b3, 0, none⟩)), (27, .agg #[.int .i64 0, .int .i64 0, .int .i64 0, .int .i64 0, .int .i64 0, .int .i64 0, .int .i64 0, .int .i64 0, .int .i64 0, .int .i64 0, .int .i64 0, .int .i64 0, .int .i64 0, .int .i64 0, .int .i64 0, .int .i64 0, .int .i64 0, .int .i64 0, .int .i64 0, .int .i64 0]), (28, .int .i64 r1)] rfl ⟨by kernel_rfl, by kernel_rfl⟩ ?_
    refine TL.write 1 (fun _ => [(10, .pointer (some ⟨b3, 0, none⟩)), (28, .int .i64 r1)]) (fun _ => [.inl (b4, .cells (FilterTrack.c FilterTrack.zero) 29 (0, 0)), .inl (b3, .cells (FilterTrack.c FilterTrack.zero) 29 (0, 0)), .inl (b2, .cells (Spot.c s) 27 (0, 0)), .inl (b1, .cells (FilterTrack.c f) 29 (0, 0))]) (fun _ => ⟨by kernel_rfl, by kernel_rfl⟩) (fun _ => ?_)
    refine TL.run 4 [] [(10, .pointer (some ⟨b3, 0, none⟩)), (11, .int .i64 r1)] rfl ⟨by kernel_rfl, by kernel_rfl⟩ ?_
    refine TL.next rfl ?_
    refine TC.ret ?_
    refine TE.ret_then ?_
    have e : filter_Update f s accel place speed = ((⟨⟨0, 0, 0, ⟨0, 0⟩, ⟨0, 0⟩, 0, 0, 0, 0, 0, 0⟩, 0, ⟨0, ⟨0, 0⟩, 0, 0, 0⟩⟩ : FilterTrack), r1) := by subst hr1; unfold filter_Update; exact cond_t h1 (rfl)
    exact TE.ret [1] (.tuple #[.agg #[.int .i64 0, .int .i64 0, .int .i64 0, .int .i64 0, .int .i64 0, .int .i64 0, .int .i64 0, .int .i64 0, .int .i64 0, .int .i64 0, .int .i64 0, .int .i64 0, .int .i64 0, .int .i64 0, .int .i64 0, .int .i64 0, .int .i64 0, .int .i64 0, .int .i64 0, .int .i64 0], .int .i64 r1]) ⟨by kernel_rfl, by kernel_rfl⟩ (by rw [e]; first | done | kernel_rfl)
  · refine TC.skip ?_
    refine TE.next ?_
    refine TC.seq ?_
    refine TC.seq ?_
    refine TC.region ?_
    refine TL.run 1 [2] [(2, .int .i64 accel), (3, .int .i64 place), (4, .int .i64 speed), (5, .pointer (some ⟨b1, 0, none⟩)), (6, .pointer (some ⟨b2, 0, none⟩)), (10, .pointer (some ⟨b3, 0, none⟩)), (12, .pointer (some ⟨b4, 0, none⟩)), (29, Spot.v s)] rfl ⟨by kernel_rfl, by kernel_rfl⟩ ?_
    refine TL.call (some 30) [(2, .int .i64 accel), (3, .int .i64 place), (4, .int .i64 speed), (5, .pointer (some ⟨b1, 0, none⟩)), (6, .pointer (some ⟨b2, 0, none⟩)), (10, .pointer (some ⟨b3, 0, none⟩)), (12, .pointer (some ⟨b4, 0, none⟩)), (30, .int .i64 (radar_CheckSpot s))] (fun w _ => radar_CheckSpot_w s w) (by kernel_rfl) (by kernel_rfl) ?_
    generalize hr2 : radar_CheckSpot s = r2
    refine TL.run 3 [] [(2, .int .i64 accel), (3, .int .i64 place), (4, .int .i64 speed), (5, .pointer (some ⟨b1, 0, none⟩)), (6, .pointer (some ⟨b2, 0, none⟩)), (10, .pointer (some ⟨b3, 0, none⟩)), (12, .pointer (some ⟨b4, 0, none⟩)), (14, .int .i64 r2)] rfl ⟨by kernel_rfl, by kernel_rfl⟩ ?_
    refine TL.next rfl ?_
    refine TC.seq ?_
    refine TC.region ?_
    refine TL.run 2 [] [(2, .int .i64 accel), (3, .int .i64 place), (4, .int .i64 speed), (5, .pointer (some ⟨b1, 0, none⟩)), (6, .pointer (some ⟨b2, 0, none⟩)), (10, .pointer (some ⟨b3, 0, none⟩)), (12, .pointer (some ⟨b4, 0, none⟩)), (14, .int .i64 r2), (32, .bool (r2 != 0))] rfl ⟨by kernel_rfl, by kernel_rfl⟩ ?_
    refine TL.next rfl ?_
    refine TC.cond (r2 != 0) rfl (by kernel_rfl) (fun h2 => ?_) (fun h2 => ?_)
    · refine TC.seq ?_
      refine TC.region ?_
      refine TL.run 2 [0] [(10, .pointer (some ⟨b3, 0, none⟩)), (33, .agg #[.int .i64 0, .int .i64 0, .int .i64 0, .int .i64 0, .int .i64 0, .int .i64 0, .int .i64 0, .int .i64 0, .int .i64 0, .int .i64 0, .int .i64 0, .int .i64 0, .int .i64 0, .int .i64 0, .int .i64 0, .int .i64 0, .int .i64 0, .int .i64 0, .int .i64 0, .int .i64 0]), (34, .int .i64 r2)] rfl ⟨by kernel_rfl, by kernel_rfl⟩ ?_
      refine TL.write 1 (fun _ => [(10, .pointer (some ⟨b3, 0, none⟩)), (34, .int .i64 r2)]) (fun _ => [.inl (b4, .cells (FilterTrack.c FilterTrack.zero) 29 (0, 0)), .inl (b3, .cells (FilterTrack.c FilterTrack.zero) 29 (0, 0)), .inl (b2, .cells (Spot.c s) 27 (0, 0)), .inl (b1, .cells (FilterTrack.c f) 29 (0, 0))]) (fun _ => ⟨by kernel_rfl, by kernel_rfl⟩) (fun _ => ?_)
      refine TL.run 4 [] [(10, .pointer (some ⟨b3, 0, none⟩)), (11, .int .i64 r2)] rfl ⟨by kernel_rfl, by kernel_rfl⟩ ?_
      refine TL.next rfl ?_
      refine TC.ret ?_
      refine TE.ret_then ?_
      have e : filter_Update f s accel place speed = ((⟨⟨0, 0, 0, ⟨0, 0⟩, ⟨0, 0⟩, 0, 0, 0, 0, 0, 0⟩, 0, ⟨0, ⟨0, 0⟩, 0, 0, 0⟩⟩ : FilterTrack), r2) := by subst hr1 hr2; unfold filter_Update; exact cond_f h1 (cond_t h2 (rfl))
      exact TE.ret [1] (.tuple #[.agg #[.int .i64 0, .int .i64 0, .int .i64 0, .int .i64 0, .int .i64 0, .int .i64 0, .int .i64 0, .int .i64 0, .int .i64 0, .int .i64 0, .int .i64 0, .int .i64 0, .int .i64 0, .int .i64 0, .int .i64 0, .int .i64 0, .int .i64 0, .int .i64 0, .int .i64 0, .int .i64 0], .int .i64 r2]) ⟨by kernel_rfl, by kernel_rfl⟩ (by rw [e]; first | done | kernel_rfl)
    · refine TC.skip ?_
      refine TE.next ?_
      refine TC.seq ?_
      refine TC.region ?_
      refine TL.run 7 [2, 3] [(2, .int .i64 accel), (3, .int .i64 place), (4, .int .i64 speed), (5, .pointer (some ⟨b1, 0, none⟩)), (6, .pointer (some ⟨b2, 0, none⟩)), (10, .pointer (some ⟨b3, 0, none⟩)), (12, .pointer (some ⟨b4, 0, none⟩)), (15, .int .i64 (w64 (s.Time - f.Last.Time)))] rfl ⟨by kernel_rfl, by kernel_rfl⟩ ?_
      refine TL.next rfl ?_
      refine TC.seq ?_
      refine TC.block ?_
      refine TC.seq ?_
      refine TC.region ?_
      refine TL.run 1 [] [(2, .int .i64 accel), (3, .int .i64 place), (4, .int .i64 speed), (5, .pointer (some ⟨b1, 0, none⟩)), (6, .pointer (some ⟨b2, 0, none⟩)), (10, .pointer (some ⟨b3, 0, none⟩)), (12, .pointer (some ⟨b4, 0, none⟩)), (15, .int .i64 (w64 (s.Time - f.Last.Time))), (42, .int .i64 place)] rfl ⟨by kernel_rfl, by kernel_rfl⟩ ?_
      refine TL.call (some 43) [(2, .int .i64 accel), (3, .int .i64 place), (4, .int .i64 speed), (5, .pointer (some ⟨b1, 0, none⟩)), (6, .pointer (some ⟨b2, 0, none⟩)), (10, .pointer (some ⟨b3, 0, none⟩)), (12, .pointer (some ⟨b4, 0, none⟩)), (15, .int .i64 (w64 (s.Time - f.Last.Time))), (43, .bool ((filter_out place 0 256)))] (fun w _ => filter_out_w place 0 256 w) (by kernel_rfl) (by kernel_rfl) ?_
      generalize hr3 : filter_out place 0 256 = r3
      refine TL.run 3 [] [(2, .int .i64 accel), (3, .int .i64 place), (4, .int .i64 speed), (5, .pointer (some ⟨b1, 0, none⟩)), (6, .pointer (some ⟨b2, 0, none⟩)), (10, .pointer (some ⟨b3, 0, none⟩)), (12, .pointer (some ⟨b4, 0, none⟩)), (15, .int .i64 (w64 (s.Time - f.Last.Time))), (44, .bool r3)] rfl ⟨by kernel_rfl, by kernel_rfl⟩ ?_
      refine TL.split 44 r3 (by kernel_rfl) (fun h3 => ?_) (fun h3 => ?_)
      · refine TL.run 7 [] [(2, .int .i64 accel), (3, .int .i64 place), (4, .int .i64 speed), (5, .pointer (some ⟨b1, 0, none⟩)), (6, .pointer (some ⟨b2, 0, none⟩)), (10, .pointer (some ⟨b3, 0, none⟩)), (12, .pointer (some ⟨b4, 0, none⟩)), (15, .int .i64 (w64 (s.Time - f.Last.Time))), (41, .bool true)] rfl ⟨by kernel_rfl, by kernel_rfl⟩ ?_
        refine TL.next rfl ?_
        refine TC.condT rfl (by kernel_rfl) ?_
        refine TC.seq ?_
        refine TC.region ?_
        refine TL.run 1 [0] [(10, .pointer (some ⟨b3, 0, none⟩)), (48, .agg #[.int .i64 0, .int .i64 0, .int .i64 0, .int .i64 0, .int .i64 0, .int .i64 0, .int .i64 0, .int .i64 0, .int .i64 0, .int .i64 0, .int .i64 0, .int .i64 0, .int .i64 0, .int .i64 0, .int .i64 0, .int .i64 0, .int .i64 0, .int .i64 0, .int .i64 0, .int .i64 0])] rfl ⟨by kernel_rfl, by kernel_rfl⟩ ?_
        refine TL.write 1 (fun _ => [(10, .pointer (some ⟨b3, 0, none⟩))]) (fun _ => [.inl (b4, .cells (FilterTrack.c FilterTrack.zero) 29 (0, 0)), .inl (b3, .cells (FilterTrack.c FilterTrack.zero) 29 (0, 0)), .inl (b2, .cells (Spot.c s) 27 (0, 0)), .inl (b1, .cells (FilterTrack.c f) 29 (0, 0))]) (fun _ => ⟨by kernel_rfl, by kernel_rfl⟩) (fun _ => ?_)
        refine TL.run 3 [] [(10, .pointer (some ⟨b3, 0, none⟩)), (11, .int .i64 4)] rfl ⟨by kernel_rfl, by kernel_rfl⟩ ?_
        refine TL.next rfl ?_
        refine TC.ret ?_
        refine TE.ret_block (TE.ret_then ?_)
        have e : filter_Update f s accel place speed = ((⟨⟨0, 0, 0, ⟨0, 0⟩, ⟨0, 0⟩, 0, 0, 0, 0, 0, 0⟩, 0, ⟨0, ⟨0, 0⟩, 0, 0, 0⟩⟩ : FilterTrack), 4) := by subst hr1 hr2 hr3; unfold filter_Update; exact cond_f h1 (cond_f h2 (cond_t h3 (rfl)))
        exact TE.ret [1] (.tuple #[.agg #[.int .i64 0, .int .i64 0, .int .i64 0, .int .i64 0, .int .i64 0, .int .i64 0, .int .i64 0, .int .i64 0, .int .i64 0, .int .i64 0, .int .i64 0, .int .i64 0, .int .i64 0, .int .i64 0, .int .i64 0, .int .i64 0, .int .i64 0, .int .i64 0, .int .i64 0, .int .i64 0], .int .i64 4]) ⟨by kernel_rfl, by kernel_rfl⟩ (by rw [e]; first | done | kernel_rfl)
      · refine TL.run 4 [] [(2, .int .i64 accel), (3, .int .i64 place), (4, .int .i64 speed), (5, .pointer (some ⟨b1, 0, none⟩)), (6, .pointer (some ⟨b2, 0, none⟩)), (10, .pointer (some ⟨b3, 0, none⟩)), (12, .pointer (some ⟨b4, 0, none⟩)), (15, .int .i64 (w64 (s.Time - f.Last.Time))), (44, .bool false), (45, .int .i64 speed)] rfl ⟨by kernel_rfl, by kernel_rfl⟩ ?_
        refine TL.call (some 46) [(2, .int .i64 accel), (3, .int .i64 place), (4, .int .i64 speed), (5, .pointer (some ⟨b1, 0, none⟩)), (6, .pointer (some ⟨b2, 0, none⟩)), (10, .pointer (some ⟨b3, 0, none⟩)), (12, .pointer (some ⟨b4, 0, none⟩)), (15, .int .i64 (w64 (s.Time - f.Last.Time))), (44, .bool false), (46, .bool ((filter_out speed 0 256)))] (fun w _ => filter_out_w speed 0 256 w) (by kernel_rfl) (by kernel_rfl) ?_
        generalize hr4 : filter_out speed 0 256 = r4
        refine TL.run 7 [] [(2, .int .i64 accel), (3, .int .i64 place), (4, .int .i64 speed), (5, .pointer (some ⟨b1, 0, none⟩)), (6, .pointer (some ⟨b2, 0, none⟩)), (10, .pointer (some ⟨b3, 0, none⟩)), (12, .pointer (some ⟨b4, 0, none⟩)), (15, .int .i64 (w64 (s.Time - f.Last.Time))), (41, .bool r4)] rfl ⟨by kernel_rfl, by kernel_rfl⟩ ?_
        refine TL.next rfl ?_
        refine TC.cond r4 rfl (by kernel_rfl) (fun h4 => ?_) (fun h4 => ?_)
        · refine TC.seq ?_
          refine TC.region ?_
          refine TL.run 1 [0] [(10, .pointer (some ⟨b3, 0, none⟩)), (48, .agg #[.int .i64 0, .int .i64 0, .int .i64 0, .int .i64 0, .int .i64 0, .int .i64 0, .int .i64 0, .int .i64 0, .int .i64 0, .int .i64 0, .int .i64 0, .int .i64 0, .int .i64 0, .int .i64 0, .int .i64 0, .int .i64 0, .int .i64 0, .int .i64 0, .int .i64 0, .int .i64 0])] rfl ⟨by kernel_rfl, by kernel_rfl⟩ ?_
          refine TL.write 1 (fun _ => [(10, .pointer (some ⟨b3, 0, none⟩))]) (fun _ => [.inl (b4, .cells (FilterTrack.c FilterTrack.zero) 29 (0, 0)), .inl (b3, .cells (FilterTrack.c FilterTrack.zero) 29 (0, 0)), .inl (b2, .cells (Spot.c s) 27 (0, 0)), .inl (b1, .cells (FilterTrack.c f) 29 (0, 0))]) (fun _ => ⟨by kernel_rfl, by kernel_rfl⟩) (fun _ => ?_)
          refine TL.run 3 [] [(10, .pointer (some ⟨b3, 0, none⟩)), (11, .int .i64 4)] rfl ⟨by kernel_rfl, by kernel_rfl⟩ ?_
          refine TL.next rfl ?_
          refine TC.ret ?_
          refine TE.ret_block (TE.ret_then ?_)
          have e : filter_Update f s accel place speed = ((⟨⟨0, 0, 0, ⟨0, 0⟩, ⟨0, 0⟩, 0, 0, 0, 0, 0, 0⟩, 0, ⟨0, ⟨0, 0⟩, 0, 0, 0⟩⟩ : FilterTrack), 4) := by subst hr1 hr2 hr3 hr4; unfold filter_Update; exact cond_f h1 (cond_f h2 (cond_f h3 (cond_t h4 (rfl))))
          exact TE.ret [1] (.tuple #[.agg #[.int .i64 0, .int .i64 0, .int .i64 0, .int .i64 0, .int .i64 0, .int .i64 0, .int .i64 0, .int .i64 0, .int .i64 0, .int .i64 0, .int .i64 0, .int .i64 0, .int .i64 0, .int .i64 0, .int .i64 0, .int .i64 0, .int .i64 0, .int .i64 0, .int .i64 0, .int .i64 0], .int .i64 4]) ⟨by kernel_rfl, by kernel_rfl⟩ (by rw [e]; first | done | kernel_rfl)
        · refine TC.seq ?_
          refine TC.region ?_
          refine TL.run 3 [] [(2, .int .i64 accel), (3, .int .i64 place), (4, .int .i64 speed), (5, .pointer (some ⟨b1, 0, none⟩)), (6, .pointer (some ⟨b2, 0, none⟩)), (10, .pointer (some ⟨b3, 0, none⟩)), (12, .pointer (some ⟨b4, 0, none⟩)), (15, .int .i64 (w64 (s.Time - f.Last.Time))), (49, .bool (decide ((w64 (s.Time - f.Last.Time)) ≤ 0)))] rfl ⟨by kernel_rfl, by kernel_rfl⟩ ?_
          refine TL.next rfl ?_
          refine TC.cond (decide ((w64 (s.Time - f.Last.Time)) ≤ 0)) rfl (by kernel_rfl) (fun h5 => ?_) (fun h5 => ?_)
          · refine TC.seq ?_
            refine TC.region ?_
            refine TL.run 1 [0] [(10, .pointer (some ⟨b3, 0, none⟩)), (52, .agg #[.int .i64 0, .int .i64 0, .int .i64 0, .int .i64 0, .int .i64 0, .int .i64 0, .int .i64 0, .int .i64 0, .int .i64 0, .int .i64 0, .int .i64 0, .int .i64 0, .int .i64 0, .int .i64 0, .int .i64 0, .int .i64 0, .int .i64 0, .int .i64 0, .int .i64 0, .int .i64 0])] rfl ⟨by kernel_rfl, by kernel_rfl⟩ ?_
            refine TL.write 1 (fun _ => [(10, .pointer (some ⟨b3, 0, none⟩))]) (fun _ => [.inl (b4, .cells (FilterTrack.c FilterTrack.zero) 29 (0, 0)), .inl (b3, .cells (FilterTrack.c FilterTrack.zero) 29 (0, 0)), .inl (b2, .cells (Spot.c s) 27 (0, 0)), .inl (b1, .cells (FilterTrack.c f) 29 (0, 0))]) (fun _ => ⟨by kernel_rfl, by kernel_rfl⟩) (fun _ => ?_)
            refine TL.run 3 [] [(10, .pointer (some ⟨b3, 0, none⟩)), (11, .int .i64 12)] rfl ⟨by kernel_rfl, by kernel_rfl⟩ ?_
            refine TL.next rfl ?_
            refine TC.ret ?_
            refine TE.ret_block (TE.ret_then ?_)
            have e : filter_Update f s accel place speed = ((⟨⟨0, 0, 0, ⟨0, 0⟩, ⟨0, 0⟩, 0, 0, 0, 0, 0, 0⟩, 0, ⟨0, ⟨0, 0⟩, 0, 0, 0⟩⟩ : FilterTrack), 12) := by subst hr1 hr2 hr3 hr4; unfold filter_Update; exact cond_f h1 (cond_f h2 (cond_f h3 (cond_f h4 (cond_t h5 (rfl)))))
            exact TE.ret [1] (.tuple #[.agg #[.int .i64 0, .int .i64 0, .int .i64 0, .int .i64 0, .int .i64 0, .int .i64 0, .int .i64 0, .int .i64 0, .int .i64 0, .int .i64 0, .int .i64 0, .int .i64 0, .int .i64 0, .int .i64 0, .int .i64 0, .int .i64 0, .int .i64 0, .int .i64 0, .int .i64 0, .int .i64 0], .int .i64 12]) ⟨by kernel_rfl, by kernel_rfl⟩ (by rw [e]; first | done | kernel_rfl)
          · refine TC.skip ?_
            refine TE.normal_block ?_
            refine TE.next ?_
            refine TC.seq ?_
            refine TC.region ?_
            refine TL.run 4 [3, 2] [(2, .int .i64 accel), (3, .int .i64 place), (4, .int .i64 speed), (5, .pointer (some ⟨b1, 0, none⟩)), (6, .pointer (some ⟨b2, 0, none⟩)), (10, .pointer (some ⟨b3, 0, none⟩)), (12, .pointer (some ⟨b4, 0, none⟩)), (15, .int .i64 (w64 (s.Time - f.Last.Time))), (54, FilterTrack.v f), (56, .int .i64 s.Time), (57, .int .i64 accel)] rfl ⟨by kernel_rfl, by kernel_rfl⟩ ?_
            refine TL.call (some 58) [(2, .int .i64 accel), (3, .int .i64 place), (4, .int .i64 speed), (5, .pointer (some ⟨b1, 0, none⟩)), (6, .pointer (some ⟨b2, 0, none⟩)), (10, .pointer (some ⟨b3, 0, none⟩)), (12, .pointer (some ⟨b4, 0, none⟩)), (15, .int .i64 (w64 (s.Time - f.Last.Time))), (58, .tuple #[FilterTrack.v ((filter_Predict f s.Time accel).1), .int .i64 ((filter_Predict f s.Time accel).2)])] (fun w _ => filter_Predict_w f s.Time accel w) (by kernel_rfl) (by kernel_rfl) ?_
            generalize hr5 : filter_Predict f s.Time accel = r5
            refine TL.run 8 [] [(2, .int .i64 accel), (3, .int .i64 place), (4, .int .i64 speed), (5, .pointer (some ⟨b1, 0, none⟩)), (6, .pointer (some ⟨b2, 0, none⟩)), (10, .pointer (some ⟨b3, 0, none⟩)), (12, .pointer (some ⟨b4, 0, none⟩)), (15, .int .i64 (w64 (s.Time - f.Last.Time))), (59, FilterTrack.v r5.1), (60, .int .i64 r5.2)] rfl ⟨by kernel_rfl, by kernel_rfl⟩ ?_
            refine TL.write 0 (fun b5 => [(2, .int .i64 accel), (3, .int .i64 place), (4, .int .i64 speed), (5, .pointer (some ⟨b1, 0, none⟩)), (6, .pointer (some ⟨b2, 0, none⟩)), (10, .pointer (some ⟨b3, 0, none⟩)), (12, .pointer (some ⟨b4, 0, none⟩)), (15, .int .i64 (w64 (s.Time - f.Last.Time))), (16, .pointer (some ⟨b5, 0, none⟩)), (59, FilterTrack.v r5.1), (60, .int .i64 r5.2)]) (fun b5 => [.inl (b5, .cells (FilterTrack.c FilterTrack.zero) 29 (0, 0)), .inl (b4, .cells (FilterTrack.c FilterTrack.zero) 29 (0, 0)), .inl (b3, .cells (FilterTrack.c FilterTrack.zero) 29 (0, 0)), .inl (b2, .cells (Spot.c s) 27 (0, 0)), .inl (b1, .cells (FilterTrack.c f) 29 (0, 0))]) (fun b5 => ⟨by kernel_rfl, by kernel_rfl⟩) (fun b5 => ?_)
            refine TL.write 0 (fun _ => [(2, .int .i64 accel), (3, .int .i64 place), (4, .int .i64 speed), (5, .pointer (some ⟨b1, 0, none⟩)), (6, .pointer (some ⟨b2, 0, none⟩)), (10, .pointer (some ⟨b3, 0, none⟩)), (12, .pointer (some ⟨b4, 0, none⟩)), (15, .int .i64 (w64 (s.Time - f.Last.Time))), (16, .pointer (some ⟨b5, 0, none⟩)), (60, .int .i64 r5.2)]) (fun _ => [.inl (b5, .cells (FilterTrack.c r5.1) 29 (0, 0)), .inl (b4, .cells (FilterTrack.c FilterTrack.zero) 29 (0, 0)), .inl (b3, .cells (FilterTrack.c FilterTrack.zero) 29 (0, 0)), .inl (b2, .cells (Spot.c s) 27 (0, 0)), .inl (b1, .cells (FilterTrack.c f) 29 (0, 0))]) (fun _ => ⟨by kernel_rfl, by kernel_rfl⟩) (fun _ => ?_)
            refine TL.run 11 [] [(2, .int .i64 accel), (3, .int .i64 place), (4, .int .i64 speed), (5, .pointer (some ⟨b1, 0, none⟩)), (6, .pointer (some ⟨b2, 0, none⟩)), (10, .pointer (some ⟨b3, 0, none⟩)), (12, .pointer (some ⟨b4, 0, none⟩)), (15, .int .i64 (w64 (s.Time - f.Last.Time))), (16, .pointer (some ⟨b5, 0, none⟩)), (17, .int .i64 r5.2)] rfl ⟨by kernel_rfl, by kernel_rfl⟩ ?_
            refine TL.next rfl ?_
            refine TC.seq ?_
            refine TC.seq ?_
            refine TC.region ?_
            refine TL.run 2 [] [(2, .int .i64 accel), (3, .int .i64 place), (4, .int .i64 speed), (5, .pointer (some ⟨b1, 0, none⟩)), (6, .pointer (some ⟨b2, 0, none⟩)), (10, .pointer (some ⟨b3, 0, none⟩)), (12, .pointer (some ⟨b4, 0, none⟩)), (15, .int .i64 (w64 (s.Time - f.Last.Time))), (16, .pointer (some ⟨b5, 0, none⟩)), (17, .int .i64 r5.2), (62, .bool (r5.2 != 0))] rfl ⟨by kernel_rfl, by kernel_rfl⟩ ?_
            refine TL.next rfl ?_
            refine TC.cond (r5.2 != 0) rfl (by kernel_rfl) (fun h6 => ?_) (fun h6 => ?_)
            · refine TC.seq ?_
              refine TC.region ?_
              refine TL.run 2 [1] [(10, .pointer (some ⟨b3, 0, none⟩)), (63, .agg #[.int .i64 0, .int .i64 0, .int .i64 0, .int .i64 0, .int .i64 0, .int .i64 0, .int .i64 0, .int .i64 0, .int .i64 0, .int .i64 0, .int .i64 0, .int .i64 0, .int .i64 0, .int .i64 0, .int .i64 0, .int .i64 0, .int .i64 0, .int .i64 0, .int .i64 0, .int .i64 0]), (64, .int .i64 r5.2)] rfl ⟨by kernel_rfl, by kernel_rfl⟩ ?_
              refine TL.write 2 (fun _ => [(10, .pointer (some ⟨b3, 0, none⟩)), (64, .int .i64 r5.2)]) (fun _ => [.inl (b5, .cells (FilterTrack.c r5.1) 29 (0, 0)), .inl (b4, .cells (FilterTrack.c FilterTrack.zero) 29 (0, 0)), .inl (b3, .cells (FilterTrack.c FilterTrack.zero) 29 (0, 0)), .inl (b2, .cells (Spot.c s) 27 (0, 0)), .inl (b1, .cells (FilterTrack.c f) 29 (0, 0))]) (fun _ => ⟨by kernel_rfl, by kernel_rfl⟩) (fun _ => ?_)
              refine TL.run 4 [] [(10, .pointer (some ⟨b3, 0, none⟩)), (11, .int .i64 r5.2)] rfl ⟨by kernel_rfl, by kernel_rfl⟩ ?_
              refine TL.next rfl ?_
              refine TC.ret ?_
              refine TE.ret_then ?_
              have e : filter_Update f s accel place speed = ((⟨⟨0, 0, 0, ⟨0, 0⟩, ⟨0, 0⟩, 0, 0, 0, 0, 0, 0⟩, 0, ⟨0, ⟨0, 0⟩, 0, 0, 0⟩⟩ : FilterTrack), r5.2) := by subst hr1 hr2 hr3 hr4 hr5; unfold filter_Update; exact cond_f h1 (cond_f h2 (cond_f h3 (cond_f h4 (cond_f h5 (cond_t h6 (rfl))))))
              exact TE.ret [2] (.tuple #[.agg #[.int .i64 0, .int .i64 0, .int .i64 0, .int .i64 0, .int .i64 0, .int .i64 0, .int .i64 0, .int .i64 0, .int .i64 0, .int .i64 0, .int .i64 0, .int .i64 0, .int .i64 0, .int .i64 0, .int .i64 0, .int .i64 0, .int .i64 0, .int .i64 0, .int .i64 0, .int .i64 0], .int .i64 r5.2]) ⟨by kernel_rfl, by kernel_rfl⟩ (by rw [e]; first | done | kernel_rfl)
            · refine TC.skip ?_
              refine TE.next ?_
              refine TC.seq ?_
              refine TC.seq ?_
              refine TC.region ?_
              refine TL.run 11 [0, 3, 0, 3] [(2, .int .i64 accel), (3, .int .i64 place), (4, .int .i64 speed), (5, .pointer (some ⟨b1, 0, none⟩)), (6, .pointer (some ⟨b2, 0, none⟩)), (10, .pointer (some ⟨b3, 0, none⟩)), (12, .pointer (some ⟨b4, 0, none⟩)), (15, .int .i64 (w64 (s.Time - f.Last.Time))), (16, .pointer (some ⟨b5, 0, none⟩)), (67, P.v r5.1.Track.At), (69, P.v s.At), (75, .int .i64 (w64 (r5.1.Track.Radius + s.Error)))] rfl ⟨by kernel_rfl, by kernel_rfl⟩ ?_
              refine TL.call (some 76) [(2, .int .i64 accel), (3, .int .i64 place), (4, .int .i64 speed), (5, .pointer (some ⟨b1, 0, none⟩)), (6, .pointer (some ⟨b2, 0, none⟩)), (10, .pointer (some ⟨b3, 0, none⟩)), (12, .pointer (some ⟨b4, 0, none⟩)), (15, .int .i64 (w64 (s.Time - f.Last.Time))), (16, .pointer (some ⟨b5, 0, none⟩)), (76, .bool ((plane_Within r5.1.Track.At s.At (w64 (r5.1.Track.Radius + s.Error)))))] (fun w _ => plane_Within_w r5.1.Track.At s.At (w64 (r5.1.Track.Radius + s.Error)) w) (by kernel_rfl) (by kernel_rfl) ?_
              generalize hr6 : plane_Within r5.1.Track.At s.At (w64 (r5.1.Track.Radius + s.Error)) = r6
              refine TL.run 13 [] [(2, .int .i64 accel), (3, .int .i64 place), (4, .int .i64 speed), (5, .pointer (some ⟨b1, 0, none⟩)), (6, .pointer (some ⟨b2, 0, none⟩)), (10, .pointer (some ⟨b3, 0, none⟩)), (12, .pointer (some ⟨b4, 0, none⟩)), (15, .int .i64 (w64 (s.Time - f.Last.Time))), (16, .pointer (some ⟨b5, 0, none⟩)), (77, .bool (!r6))] rfl ⟨by kernel_rfl, by kernel_rfl⟩ ?_
              refine TL.next rfl ?_
              refine TC.cond (!r6) rfl (by kernel_rfl) (fun h7 => ?_) (fun h7 => ?_)
              · refine TC.seq ?_
                refine TC.region ?_
                refine TL.run 1 [1] [(10, .pointer (some ⟨b3, 0, none⟩)), (78, .agg #[.int .i64 0, .int .i64 0, .int .i64 0, .int .i64 0, .int .i64 0, .int .i64 0, .int .i64 0, .int .i64 0, .int .i64 0, .int .i64 0, .int .i64 0, .int .i64 0, .int .i64 0, .int .i64 0, .int .i64 0, .int .i64 0, .int .i64 0, .int .i64 0, .int .i64 0, .int .i64 0])] rfl ⟨by kernel_rfl, by kernel_rfl⟩ ?_
                refine TL.write 2 (fun _ => [(10, .pointer (some ⟨b3, 0, none⟩))]) (fun _ => [.inl (b5, .cells (FilterTrack.c r5.1) 29 (0, 0)), .inl (b4, .cells (FilterTrack.c FilterTrack.zero) 29 (0, 0)), .inl (b3, .cells (FilterTrack.c FilterTrack.zero) 29 (0, 0)), .inl (b2, .cells (Spot.c s) 27 (0, 0)), .inl (b1, .cells (FilterTrack.c f) 29 (0, 0))]) (fun _ => ⟨by kernel_rfl, by kernel_rfl⟩) (fun _ => ?_)
                refine TL.run 3 [] [(10, .pointer (some ⟨b3, 0, none⟩)), (11, .int .i64 8)] rfl ⟨by kernel_rfl, by kernel_rfl⟩ ?_
                refine TL.next rfl ?_
                refine TC.ret ?_
                refine TE.ret_then ?_
                have e : filter_Update f s accel place speed = ((⟨⟨0, 0, 0, ⟨0, 0⟩, ⟨0, 0⟩, 0, 0, 0, 0, 0, 0⟩, 0, ⟨0, ⟨0, 0⟩, 0, 0, 0⟩⟩ : FilterTrack), 8) := by subst hr1 hr2 hr3 hr4 hr5 hr6; unfold filter_Update; exact cond_f h1 (cond_f h2 (cond_f h3 (cond_f h4 (cond_f h5 (cond_f h6 (cond_t h7 (rfl)))))))
                exact TE.ret [2] (.tuple #[.agg #[.int .i64 0, .int .i64 0, .int .i64 0, .int .i64 0, .int .i64 0, .int .i64 0, .int .i64 0, .int .i64 0, .int .i64 0, .int .i64 0, .int .i64 0, .int .i64 0, .int .i64 0, .int .i64 0, .int .i64 0, .int .i64 0, .int .i64 0, .int .i64 0, .int .i64 0, .int .i64 0], .int .i64 8]) ⟨by kernel_rfl, by kernel_rfl⟩ (by rw [e]; first | done | kernel_rfl)
              · refine TC.skip ?_
                refine TE.next ?_
                refine TC.seq ?_
                refine TC.region ?_
                refine TL.run 1 [0] [(2, .int .i64 accel), (3, .int .i64 place), (4, .int .i64 speed), (5, .pointer (some ⟨b1, 0, none⟩)), (6, .pointer (some ⟨b2, 0, none⟩)), (10, .pointer (some ⟨b3, 0, none⟩)), (12, .pointer (some ⟨b4, 0, none⟩)), (15, .int .i64 (w64 (s.Time - f.Last.Time))), (16, .pointer (some ⟨b5, 0, none⟩)), (79, FilterTrack.v r5.1)] rfl ⟨by kernel_rfl, by kernel_rfl⟩ ?_
                refine TL.write 0 (fun b6 => [(2, .int .i64 accel), (3, .int .i64 place), (4, .int .i64 speed), (5, .pointer (some ⟨b1, 0, none⟩)), (6, .pointer (some ⟨b2, 0, none⟩)), (10, .pointer (some ⟨b3, 0, none⟩)), (12, .pointer (some ⟨b4, 0, none⟩)), (15, .int .i64 (w64 (s.Time - f.Last.Time))), (16, .pointer (some ⟨b5, 0, none⟩)), (18, .pointer (some ⟨b6, 0, none⟩)), (79, FilterTrack.v r5.1)]) (fun b6 => [.inl (b6, .cells (FilterTrack.c FilterTrack.zero) 29 (0, 0)), .inl (b5, .cells (FilterTrack.c r5.1) 29 (0, 0)), .inl (b4, .cells (FilterTrack.c FilterTrack.zero) 29 (0, 0)), .inl (b3, .cells (FilterTrack.c FilterTrack.zero) 29 (0, 0)), .inl (b2, .cells (Spot.c s) 27 (0, 0)), .inl (b1, .cells (FilterTrack.c f) 29 (0, 0))]) (fun b6 => ⟨by kernel_rfl, by kernel_rfl⟩) (fun b6 => ?_)
                refine TL.write 0 (fun _ => [(2, .int .i64 accel), (3, .int .i64 place), (4, .int .i64 speed), (5, .pointer (some ⟨b1, 0, none⟩)), (6, .pointer (some ⟨b2, 0, none⟩)), (10, .pointer (some ⟨b3, 0, none⟩)), (12, .pointer (some ⟨b4, 0, none⟩)), (15, .int .i64 (w64 (s.Time - f.Last.Time))), (16, .pointer (some ⟨b5, 0, none⟩)), (18, .pointer (some ⟨b6, 0, none⟩))]) (fun _ => [.inl (b6, .cells (FilterTrack.c r5.1) 29 (0, 0)), .inl (b5, .cells (FilterTrack.c r5.1) 29 (0, 0)), .inl (b4, .cells (FilterTrack.c FilterTrack.zero) 29 (0, 0)), .inl (b3, .cells (FilterTrack.c FilterTrack.zero) 29 (0, 0)), .inl (b2, .cells (Spot.c s) 27 (0, 0)), .inl (b1, .cells (FilterTrack.c f) 29 (0, 0))]) (fun _ => ⟨by kernel_rfl, by kernel_rfl⟩) (fun _ => ?_)
                refine TL.next rfl ?_
                refine TC.seq ?_
                refine TC.region ?_
                refine TL.run 2 [] [(2, .int .i64 accel), (3, .int .i64 place), (4, .int .i64 speed), (5, .pointer (some ⟨b1, 0, none⟩)), (6, .pointer (some ⟨b2, 0, none⟩)), (10, .pointer (some ⟨b3, 0, none⟩)), (12, .pointer (some ⟨b4, 0, none⟩)), (15, .int .i64 (w64 (s.Time - f.Last.Time))), (16, .pointer (some ⟨b5, 0, none⟩)), (18, .pointer (some ⟨b6, 0, none⟩)), (19, .pointer (some ⟨b6, 0, none⟩))] rfl ⟨by kernel_rfl, by kernel_rfl⟩ ?_
                refine TL.next rfl ?_
                refine TC.seq ?_
                refine TC.drawTail 22 (by kernel_rfl) (by kernel_rfl) ?_
                refine TQ.run 9 [1, 4] [(2, .int .i64 accel), (3, .int .i64 place), (4, .int .i64 speed), (5, .pointer (some ⟨b1, 0, none⟩)), (6, .pointer (some ⟨b2, 0, none⟩)), (10, .pointer (some ⟨b3, 0, none⟩)), (12, .pointer (some ⟨b4, 0, none⟩)), (15, .int .i64 (w64 (s.Time - f.Last.Time))), (16, .pointer (some ⟨b5, 0, none⟩)), (18, .pointer (some ⟨b6, 0, none⟩)), (19, .pointer (some ⟨b6, 0, none⟩)), (81, .pointer (some ⟨b6, 0, none⟩)), (85, .int .i64 r5.1.Track.At.X), (88, .int .i64 s.At.X), (89, .int .i64 place)] rfl ⟨by kernel_rfl, by kernel_rfl⟩ ?_
                refine TQ.call (some 90) [(2, .int .i64 accel), (3, .int .i64 place), (4, .int .i64 speed), (5, .pointer (some ⟨b1, 0, none⟩)), (6, .pointer (some ⟨b2, 0, none⟩)), (10, .pointer (some ⟨b3, 0, none⟩)), (12, .pointer (some ⟨b4, 0, none⟩)), (15, .int .i64 (w64 (s.Time - f.Last.Time))), (16, .pointer (some ⟨b5, 0, none⟩)), (18, .pointer (some ⟨b6, 0, none⟩)), (19, .pointer (some ⟨b6, 0, none⟩)), (81, .pointer (some ⟨b6, 0, none⟩)), (90, .int .i64 (filter_mix r5.1.Track.At.X s.At.X place))] (fun w _ => filter_mix_w r5.1.Track.At.X s.At.X place w) rfl (by kernel_rfl) (by kernel_rfl) ?_
                generalize hr7 : filter_mix r5.1.Track.At.X s.At.X place = r7
                refine TQ.run 18 [1, 4] [(2, .int .i64 accel), (3, .int .i64 place), (4, .int .i64 speed), (5, .pointer (some ⟨b1, 0, none⟩)), (6, .pointer (some ⟨b2, 0, none⟩)), (10, .pointer (some ⟨b3, 0, none⟩)), (12, .pointer (some ⟨b4, 0, none⟩)), (15, .int .i64 (w64 (s.Time - f.Last.Time))), (16, .pointer (some ⟨b5, 0, none⟩)), (18, .pointer (some ⟨b6, 0, none⟩)), (19, .pointer (some ⟨b6, 0, none⟩)), (81, .pointer (some ⟨b6, 0, none⟩)), (90, .int .i64 r7), (94, .int .i64 r5.1.Track.At.Y), (97, .int .i64 s.At.Y), (98, .int .i64 place)] rfl ⟨by kernel_rfl, by kernel_rfl⟩ ?_
                refine TQ.call (some 99) [(2, .int .i64 accel), (3, .int .i64 place), (4, .int .i64 speed), (5, .pointer (some ⟨b1, 0, none⟩)), (6, .pointer (some ⟨b2, 0, none⟩)), (10, .pointer (some ⟨b3, 0, none⟩)), (12, .pointer (some ⟨b4, 0, none⟩)), (15, .int .i64 (w64 (s.Time - f.Last.Time))), (16, .pointer (some ⟨b5, 0, none⟩)), (18, .pointer (some ⟨b6, 0, none⟩)), (19, .pointer (some ⟨b6, 0, none⟩)), (81, .pointer (some ⟨b6, 0, none⟩)), (90, .int .i64 r7), (99, .int .i64 (filter_mix r5.1.Track.At.Y s.At.Y place))] (fun w _ => filter_mix_w r5.1.Track.At.Y s.At.Y place w) rfl (by kernel_rfl) (by kernel_rfl) ?_
                generalize hr8 : filter_mix r5.1.Track.At.Y s.At.Y place = r8
                refine TQ.run 22 [] [(2, .int .i64 accel), (3, .int .i64 place), (4, .int .i64 speed), (5, .pointer (some ⟨b1, 0, none⟩)), (6, .pointer (some ⟨b2, 0, none⟩)), (10, .pointer (some ⟨b3, 0, none⟩)), (12, .pointer (some ⟨b4, 0, none⟩)), (15, .int .i64 (w64 (s.Time - f.Last.Time))), (16, .pointer (some ⟨b5, 0, none⟩)), (18, .pointer (some ⟨b6, 0, none⟩)), (19, .pointer (some ⟨b6, 0, none⟩)), (100, .agg #[.int .i64 r7, .int .i64 r8]), (102, .pointer (some ⟨b6, 3, none⟩))] rfl ⟨by kernel_rfl, by kernel_rfl⟩ ?_
                refine TQ.tail rfl ?_
                refine TL.write 0 (fun _ => [(2, .int .i64 accel), (3, .int .i64 place), (4, .int .i64 speed), (5, .pointer (some ⟨b1, 0, none⟩)), (6, .pointer (some ⟨b2, 0, none⟩)), (10, .pointer (some ⟨b3, 0, none⟩)), (12, .pointer (some ⟨b4, 0, none⟩)), (15, .int .i64 (w64 (s.Time - f.Last.Time))), (16, .pointer (some ⟨b5, 0, none⟩)), (18, .pointer (some ⟨b6, 0, none⟩)), (19, .pointer (some ⟨b6, 0, none⟩))]) (fun _ => [.inl (b6, .cells #[.int .i64 r5.1.Track.ID, .int .i64 r5.1.Track.State, .int .i64 r5.1.Track.Time, .int .i64 r7, .int .i64 r8, .int .i64 r5.1.Track.Speed.X, .int .i64 r5.1.Track.Speed.Y, .int .i64 r5.1.Track.Height, .int .i64 r5.1.Track.Rate, .int .i64 r5.1.Track.Radius, .int .i64 r5.1.Track.Code, .int .i64 r5.1.Track.Hits, .int .i64 r5.1.Track.Misses, .int .i64 r5.1.Slack, .int .i64 r5.1.Last.Time, .int .i64 r5.1.Last.At.X, .int .i64 r5.1.Last.At.Y, .int .i64 r5.1.Last.Height, .int .i64 r5.1.Last.Code, .int .i64 r5.1.Last.Error] 29 (0, 0)), .inl (b5, .cells (FilterTrack.c r5.1) 29 (0, 0)), .inl (b4, .cells (FilterTrack.c FilterTrack.zero) 29 (0, 0)), .inl (b3, .cells (FilterTrack.c FilterTrack.zero) 29 (0, 0)), .inl (b2, .cells (Spot.c s) 27 (0, 0)), .inl (b1, .cells (FilterTrack.c f) 29 (0, 0))]) (fun _ => ⟨by kernel_rfl, by kernel_rfl⟩) (fun _ => ?_)
                refine TL.next rfl ?_
                refine TC.seq ?_
                refine TC.region ?_
                refine TL.run 12 [1, 4] [(2, .int .i64 accel), (4, .int .i64 speed), (5, .pointer (some ⟨b1, 0, none⟩)), (6, .pointer (some ⟨b2, 0, none⟩)), (10, .pointer (some ⟨b3, 0, none⟩)), (12, .pointer (some ⟨b4, 0, none⟩)), (15, .int .i64 (w64 (s.Time - f.Last.Time))), (16, .pointer (some ⟨b5, 0, none⟩)), (18, .pointer (some ⟨b6, 0, none⟩)), (19, .pointer (some ⟨b6, 0, none⟩)), (103, .pointer (some ⟨b6, 0, none⟩)), (114, .int .i64 (w64 ((w64 ((w64 (256 - place)) * r5.1.Track.Radius)) + (w64 (place * s.Error)))))] rfl ⟨by kernel_rfl, by kernel_rfl⟩ ?_
                refine TL.call (some 115) [(2, .int .i64 accel), (4, .int .i64 speed), (5, .pointer (some ⟨b1, 0, none⟩)), (6, .pointer (some ⟨b2, 0, none⟩)), (10, .pointer (some ⟨b3, 0, none⟩)), (12, .pointer (some ⟨b4, 0, none⟩)), (15, .int .i64 (w64 (s.Time - f.Last.Time))), (16, .pointer (some ⟨b5, 0, none⟩)), (18, .pointer (some ⟨b6, 0, none⟩)), (19, .pointer (some ⟨b6, 0, none⟩)), (103, .pointer (some ⟨b6, 0, none⟩)), (115, .int .i64 (filter_up (w64 ((w64 ((w64 (256 - place)) * r5.1.Track.Radius)) + (w64 (place * s.Error)))) 256))] (fun w _ => filter_up_w (w64 ((w64 ((w64 (256 - place)) * r5.1.Track.Radius)) + (w64 (place * s.Error)))) 256 w) (by kernel_rfl) (by kernel_rfl) ?_
                generalize hr9 : filter_up (w64 ((w64 ((w64 (256 - place)) * r5.1.Track.Radius)) + (w64 (place * s.Error)))) 256 = r9
                refine TL.run 16 [] [(2, .int .i64 accel), (4, .int .i64 speed), (5, .pointer (some ⟨b1, 0, none⟩)), (6, .pointer (some ⟨b2, 0, none⟩)), (10, .pointer (some ⟨b3, 0, none⟩)), (12, .pointer (some ⟨b4, 0, none⟩)), (15, .int .i64 (w64 (s.Time - f.Last.Time))), (16, .pointer (some ⟨b5, 0, none⟩)), (18, .pointer (some ⟨b6, 0, none⟩)), (19, .pointer (some ⟨b6, 0, none⟩)), (116, .int .i64 (w64 (r9 + 2))), (118, .pointer (some ⟨b6, 9, none⟩))] rfl ⟨by kernel_rfl, by kernel_rfl⟩ ?_
                refine TL.write 0 (fun _ => [(2, .int .i64 accel), (4, .int .i64 speed), (5, .pointer (some ⟨b1, 0, none⟩)), (6, .pointer (some ⟨b2, 0, none⟩)), (10, .pointer (some ⟨b3, 0, none⟩)), (12, .pointer (some ⟨b4, 0, none⟩)), (15, .int .i64 (w64 (s.Time - f.Last.Time))), (16, .pointer (some ⟨b5, 0, none⟩)), (18, .pointer (some ⟨b6, 0, none⟩)), (19, .pointer (some ⟨b6, 0, none⟩))]) (fun _ => [.inl (b6, .cells #[.int .i64 r5.1.Track.ID, .int .i64 r5.1.Track.State, .int .i64 r5.1.Track.Time, .int .i64 r7, .int .i64 r8, .int .i64 r5.1.Track.Speed.X, .int .i64 r5.1.Track.Speed.Y, .int .i64 r5.1.Track.Height, .int .i64 r5.1.Track.Rate, .int .i64 (w64 (r9 + 2)), .int .i64 r5.1.Track.Code, .int .i64 r5.1.Track.Hits, .int .i64 r5.1.Track.Misses, .int .i64 r5.1.Slack, .int .i64 r5.1.Last.Time, .int .i64 r5.1.Last.At.X, .int .i64 r5.1.Last.At.Y, .int .i64 r5.1.Last.Height, .int .i64 r5.1.Last.Code, .int .i64 r5.1.Last.Error] 29 (0, 0)), .inl (b5, .cells (FilterTrack.c r5.1) 29 (0, 0)), .inl (b4, .cells (FilterTrack.c FilterTrack.zero) 29 (0, 0)), .inl (b3, .cells (FilterTrack.c FilterTrack.zero) 29 (0, 0)), .inl (b2, .cells (Spot.c s) 27 (0, 0)), .inl (b1, .cells (FilterTrack.c f) 29 (0, 0))]) (fun _ => ⟨by kernel_rfl, by kernel_rfl⟩) (fun _ => ?_)
                refine TL.next rfl ?_
                refine TC.seq ?_
                obtain ⟨r10, hr10⟩ : ∃ r, filter_down (w64 (16 * (w64 (s.At.X - f.Last.At.X)))) (w64 (s.Time - f.Last.Time)) = r := ⟨_, rfl⟩
                obtain ⟨r11, hr11⟩ : ∃ r, filter_down (w64 (16 * (w64 (s.At.Y - f.Last.At.Y)))) (w64 (s.Time - f.Last.Time)) = r := ⟨_, rfl⟩
                refine TC.plan (G := Nat) (base := [(2, .int .i64 accel), (4, .int .i64 speed), (5, .pointer (some ⟨b1, 0, none⟩)), (6, .pointer (some ⟨b2, 0, none⟩)), (10, .pointer (some ⟨b3, 0, none⟩)), (12, .pointer (some ⟨b4, 0, none⟩)), (15, .int .i64 (w64 (s.Time - f.Last.Time))), (16, .pointer (some ⟨b5, 0, none⟩)), (18, .pointer (some ⟨b6, 0, none⟩)), (19, .pointer (some ⟨b6, 0, none⟩))]) (vals := fun γ => [.pointer (some ⟨b2, 1, none⟩), .pointer (some ⟨b2, 1, none⟩), .int .i64 s.At.X, .pointer (some ⟨b1, 14, none⟩), .pointer (some ⟨b1, 15, none⟩), .pointer (some ⟨b1, 15, none⟩), .int .i64 f.Last.At.X, .int .i64 (w64 (s.At.X - f.Last.At.X)), .int .i64 (w64 (16 * (w64 (s.At.X - f.Last.At.X)))), .int .i64 (w64 (s.Time - f.Last.Time)), .int .i64 r10, .pointer (some ⟨b2, 1, none⟩), .pointer (some ⟨b2, 2, none⟩), .int .i64 s.At.Y, .pointer (some ⟨b1, 14, none⟩), .pointer (some ⟨b1, 15, none⟩), .pointer (some ⟨b1, 16, none⟩), .int .i64 f.Last.At.Y, .int .i64 (w64 (s.At.Y - f.Last.At.Y)), .int .i64 (w64 (16 * (w64 (s.At.Y - f.Last.At.Y)))), .int .i64 (w64 (s.Time - f.Last.Time)), .int .i64 r11, .agg #[.int .i64 r10, .int .i64 r11], .pointer (some ⟨γ, 0, none⟩), undef]) (writes := [23, 24]) (mem := fun bs γ => match bs with | [x23_, x24_] => (bif x24_ then [.inl (γ, .cells #[.int .i64 r10, .int .i64 r11] 23 (0, 0))] else bif x23_ then [.inl (γ, .cells (P.c P.zero) 23 (0, 0))] else []) ++ ([.inl (b6, .cells #[.int .i64 r5.1.Track.ID, .int .i64 r5.1.Track.State, .int .i64 r5.1.Track.Time, .int .i64 r7, .int .i64 r8, .int .i64 r5.1.Track.Speed.X, .int .i64 r5.1.Track.Speed.Y, .int .i64 r5.1.Track.Height, .int .i64 r5.1.Track.Rate, .int .i64 (w64 (r9 + 2)), .int .i64 r5.1.Track.Code, .int .i64 r5.1.Track.Hits, .int .i64 r5.1.Track.Misses, .int .i64 r5.1.Slack, .int .i64 r5.1.Last.Time, .int .i64 r5.1.Last.At.X, .int .i64 r5.1.Last.At.Y, .int .i64 r5.1.Last.Height, .int .i64 r5.1.Last.Code, .int .i64 r5.1.Last.Error] 29 (0, 0)), .inl (b5, .cells (FilterTrack.c r5.1) 29 (0, 0)), .inl (b4, .cells (FilterTrack.c FilterTrack.zero) 29 (0, 0)), .inl (b3, .cells (FilterTrack.c FilterTrack.zero) 29 (0, 0)), .inl (b2, .cells (Spot.c s) 27 (0, 0)), .inl (b1, .cells (FilterTrack.c f) 29 (0, 0))]) | _ => []) (0) (fun γ => [(2, .int .i64 accel), (4, .int .i64 speed), (5, .pointer (some ⟨b1, 0, none⟩)), (6, .pointer (some ⟨b2, 0, none⟩)), (10, .pointer (some ⟨b3, 0, none⟩)), (12, .pointer (some ⟨b4, 0, none⟩)), (15, .int .i64 (w64 (s.Time - f.Last.Time))), (16, .pointer (some ⟨b5, 0, none⟩)), (18, .pointer (some ⟨b6, 0, none⟩)), (19, .pointer (some ⟨b6, 0, none⟩)), (20, .pointer (some ⟨γ, 0, none⟩))]) (by kernel_rfl) (by kernel_rfl) (by kernel_rfl) (by kernel_rfl) (by kernel_rfl) (fun γ => by kernel_rfl) (fun _ hM => hM) (fun γ => by kernel_rfl) ?_ ?_
                · skip
                  refine Steps.run (i := 0) 10 [0, 0, 4, 0, 0, 0, 5, 0, 0, 0] [.inl (b6, .cells #[.int .i64 r5.1.Track.ID, .int .i64 r5.1.Track.State, .int .i64 r5.1.Track.Time, .int .i64 r7, .int .i64 r8, .int .i64 r5.1.Track.Speed.X, .int .i64 r5.1.Track.Speed.Y, .int .i64 r5.1.Track.Height, .int .i64 r5.1.Track.Rate, .int .i64 (w64 (r9 + 2)), .int .i64 r5.1.Track.Code, .int .i64 r5.1.Track.Hits, .int .i64 r5.1.Track.Misses, .int .i64 r5.1.Slack, .int .i64 r5.1.Last.Time, .int .i64 r5.1.Last.At.X, .int .i64 r5.1.Last.At.Y, .int .i64 r5.1.Last.Height, .int .i64 r5.1.Last.Code, .int .i64 r5.1.Last.Error] 29 (0, 0)), .inl (b5, .cells (FilterTrack.c r5.1) 29 (0, 0)), .inl (b4, .cells (FilterTrack.c FilterTrack.zero) 29 (0, 0)), .inl (b3, .cells (FilterTrack.c FilterTrack.zero) 29 (0, 0)), .inl (b2, .cells (Spot.c s) 27 (0, 0)), .inl (b1, .cells (FilterTrack.c f) 29 (0, 0))] (by kernel_rfl) (by kernel_rfl) (fun S (γ : Nat) w hM => by change Sat _ ((bif S 24 then [.inl (γ, .cells #[.int .i64 r10, .int .i64 r11] 23 (0, 0))] else bif S 23 then [.inl (γ, .cells (P.c P.zero) 23 (0, 0))] else []) ++ ([.inl (b6, .cells #[.int .i64 r5.1.Track.ID, .int .i64 r5.1.Track.State, .int .i64 r5.1.Track.Time, .int .i64 r7, .int .i64 r8, .int .i64 r5.1.Track.Speed.X, .int .i64 r5.1.Track.Speed.Y, .int .i64 r5.1.Track.Height, .int .i64 r5.1.Track.Rate, .int .i64 (w64 (r9 + 2)), .int .i64 r5.1.Track.Code, .int .i64 r5.1.Track.Hits, .int .i64 r5.1.Track.Misses, .int .i64 r5.1.Slack, .int .i64 r5.1.Last.Time, .int .i64 r5.1.Last.At.X, .int .i64 r5.1.Last.At.Y, .int .i64 r5.1.Last.Height, .int .i64 r5.1.Last.Code, .int .i64 r5.1.Last.Error] 29 (0, 0)), .inl (b5, .cells (FilterTrack.c r5.1) 29 (0, 0)), .inl (b4, .cells (FilterTrack.c FilterTrack.zero) 29 (0, 0)), .inl (b3, .cells (FilterTrack.c FilterTrack.zero) 29 (0, 0)), .inl (b2, .cells (Spot.c s) 27 (0, 0)), .inl (b1, .cells (FilterTrack.c f) 29 (0, 0))])) w at hM; exact hM.sub (sub_skip (List.Sublist.refl _))) (by kernel_rfl) (fun (γ : Nat) => ⟨by kernel_rfl, by kernel_rfl⟩) ?_
                  refine Steps.call (i := 10) 53 (fun (γ : Nat) => #[.int .i64 (w64 (16 * (w64 (s.At.X - f.Last.At.X)))), .int .i64 (w64 (s.Time - f.Last.Time))]) (some 129) (fun (γ : Nat) => .int .i64 r10) (fun (γ : Nat) => [.inl (b6, .cells #[.int .i64 r5.1.Track.ID, .int .i64 r5.1.Track.State, .int .i64 r5.1.Track.Time, .int .i64 r7, .int .i64 r8, .int .i64 r5.1.Track.Speed.X, .int .i64 r5.1.Track.Speed.Y, .int .i64 r5.1.Track.Height, .int .i64 r5.1.Track.Rate, .int .i64 (w64 (r9 + 2)), .int .i64 r5.1.Track.Code, .int .i64 r5.1.Track.Hits, .int .i64 r5.1.Track.Misses, .int .i64 r5.1.Slack, .int .i64 r5.1.Last.Time, .int .i64 r5.1.Last.At.X, .int .i64 r5.1.Last.At.Y, .int .i64 r5.1.Last.Height, .int .i64 r5.1.Last.Code, .int .i64 r5.1.Last.Error] 29 (0, 0)), .inl (b5, .cells (FilterTrack.c r5.1) 29 (0, 0)), .inl (b4, .cells (FilterTrack.c FilterTrack.zero) 29 (0, 0)), .inl (b3, .cells (FilterTrack.c FilterTrack.zero) 29 (0, 0)), .inl (b2, .cells (Spot.c s) 27 (0, 0)), .inl (b1, .cells (FilterTrack.c f) 29 (0, 0))]) (by kernel_rfl) (fun S (γ : Nat) w _ hM => by change Sat _ ((bif S 24 then [.inl (γ, .cells #[.int .i64 r10, .int .i64 r11] 23 (0, 0))] else bif S 23 then [.inl (γ, .cells (P.c P.zero) 23 (0, 0))] else []) ++ ([.inl (b6, .cells #[.int .i64 r5.1.Track.ID, .int .i64 r5.1.Track.State, .int .i64 r5.1.Track.Time, .int .i64 r7, .int .i64 r8, .int .i64 r5.1.Track.Speed.X, .int .i64 r5.1.Track.Speed.Y, .int .i64 r5.1.Track.Height, .int .i64 r5.1.Track.Rate, .int .i64 (w64 (r9 + 2)), .int .i64 r5.1.Track.Code, .int .i64 r5.1.Track.Hits, .int .i64 r5.1.Track.Misses, .int .i64 r5.1.Slack, .int .i64 r5.1.Last.Time, .int .i64 r5.1.Last.At.X, .int .i64 r5.1.Last.At.Y, .int .i64 r5.1.Last.Height, .int .i64 r5.1.Last.Code, .int .i64 r5.1.Last.Error] 29 (0, 0)), .inl (b5, .cells (FilterTrack.c r5.1) 29 (0, 0)), .inl (b4, .cells (FilterTrack.c FilterTrack.zero) 29 (0, 0)), .inl (b3, .cells (FilterTrack.c FilterTrack.zero) 29 (0, 0)), .inl (b2, .cells (Spot.c s) 27 (0, 0)), .inl (b1, .cells (FilterTrack.c f) 29 (0, 0))])) w at hM; exact hM.sub (sub_skip (List.Sublist.refl _))) (fun (γ : Nat) w _ => by have h := filter_down_w (w64 (16 * (w64 (s.At.X - f.Last.At.X)))) (w64 (s.Time - f.Last.Time)) w; rw [hr10] at h; exact h) (fun (γ : Nat) => by kernel_rfl) (fun (γ : Nat) => by kernel_rfl) ?_
                  refine Steps.run (i := 11) 21 [0, 0, 4, 0, 0, 0, 5, 0, 0, 0] [.inl (b6, .cells #[.int .i64 r5.1.Track.ID, .int .i64 r5.1.Track.State, .int .i64 r5.1.Track.Time, .int .i64 r7, .int .i64 r8, .int .i64 r5.1.Track.Speed.X, .int .i64 r5.1.Track.Speed.Y, .int .i64 r5.1.Track.Height, .int .i64 r5.1.Track.Rate, .int .i64 (w64 (r9 + 2)), .int .i64 r5.1.Track.Code, .int .i64 r5.1.Track.Hits, .int .i64 r5.1.Track.Misses, .int .i64 r5.1.Slack, .int .i64 r5.1.Last.Time, .int .i64 r5.1.Last.At.X, .int .i64 r5.1.Last.At.Y, .int .i64 r5.1.Last.Height, .int .i64 r5.1.Last.Code, .int .i64 r5.1.Last.Error] 29 (0, 0)), .inl (b5, .cells (FilterTrack.c r5.1) 29 (0, 0)), .inl (b4, .cells (FilterTrack.c FilterTrack.zero) 29 (0, 0)), .inl (b3, .cells (FilterTrack.c FilterTrack.zero) 29 (0, 0)), .inl (b2, .cells (Spot.c s) 27 (0, 0)), .inl (b1, .cells (FilterTrack.c f) 29 (0, 0))] (by kernel_rfl) (by kernel_rfl) (fun S (γ : Nat) w hM => by change Sat _ ((bif S 24 then [.inl (γ, .cells #[.int .i64 r10, .int .i64 r11] 23 (0, 0))] else bif S 23 then [.inl (γ, .cells (P.c P.zero) 23 (0, 0))] else []) ++ ([.inl (b6, .cells #[.int .i64 r5.1.Track.ID, .int .i64 r5.1.Track.State, .int .i64 r5.1.Track.Time, .int .i64 r7, .int .i64 r8, .int .i64 r5.1.Track.Speed.X, .int .i64 r5.1.Track.Speed.Y, .int .i64 r5.1.Track.Height, .int .i64 r5.1.Track.Rate, .int .i64 (w64 (r9 + 2)), .int .i64 r5.1.Track.Code, .int .i64 r5.1.Track.Hits, .int .i64 r5.1.Track.Misses, .int .i64 r5.1.Slack, .int .i64 r5.1.Last.Time, .int .i64 r5.1.Last.At.X, .int .i64 r5.1.Last.At.Y, .int .i64 r5.1.Last.Height, .int .i64 r5.1.Last.Code, .int .i64 r5.1.Last.Error] 29 (0, 0)), .inl (b5, .cells (FilterTrack.c r5.1) 29 (0, 0)), .inl (b4, .cells (FilterTrack.c FilterTrack.zero) 29 (0, 0)), .inl (b3, .cells (FilterTrack.c FilterTrack.zero) 29 (0, 0)), .inl (b2, .cells (Spot.c s) 27 (0, 0)), .inl (b1, .cells (FilterTrack.c f) 29 (0, 0))])) w at hM; exact hM.sub (sub_skip (List.Sublist.refl _))) (by kernel_rfl) (fun (γ : Nat) => ⟨by kernel_rfl, by kernel_rfl⟩) ?_
                  refine Steps.call (i := 21) 53 (fun (γ : Nat) => #[.int .i64 (w64 (16 * (w64 (s.At.Y - f.Last.At.Y)))), .int .i64 (w64 (s.Time - f.Last.Time))]) (some 140) (fun (γ : Nat) => .int .i64 r11) (fun (γ : Nat) => [.inl (b6, .cells #[.int .i64 r5.1.Track.ID, .int .i64 r5.1.Track.State, .int .i64 r5.1.Track.Time, .int .i64 r7, .int .i64 r8, .int .i64 r5.1.Track.Speed.X, .int .i64 r5.1.Track.Speed.Y, .int .i64 r5.1.Track.Height, .int .i64 r5.1.Track.Rate, .int .i64 (w64 (r9 + 2)), .int .i64 r5.1.Track.Code, .int .i64 r5.1.Track.Hits, .int .i64 r5.1.Track.Misses, .int .i64 r5.1.Slack, .int .i64 r5.1.Last.Time, .int .i64 r5.1.Last.At.X, .int .i64 r5.1.Last.At.Y, .int .i64 r5.1.Last.Height, .int .i64 r5.1.Last.Code, .int .i64 r5.1.Last.Error] 29 (0, 0)), .inl (b5, .cells (FilterTrack.c r5.1) 29 (0, 0)), .inl (b4, .cells (FilterTrack.c FilterTrack.zero) 29 (0, 0)), .inl (b3, .cells (FilterTrack.c FilterTrack.zero) 29 (0, 0)), .inl (b2, .cells (Spot.c s) 27 (0, 0)), .inl (b1, .cells (FilterTrack.c f) 29 (0, 0))]) (by kernel_rfl) (fun S (γ : Nat) w _ hM => by change Sat _ ((bif S 24 then [.inl (γ, .cells #[.int .i64 r10, .int .i64 r11] 23 (0, 0))] else bif S 23 then [.inl (γ, .cells (P.c P.zero) 23 (0, 0))] else []) ++ ([.inl (b6, .cells #[.int .i64 r5.1.Track.ID, .int .i64 r5.1.Track.State, .int .i64 r5.1.Track.Time, .int .i64 r7, .int .i64 r8, .int .i64 r5.1.Track.Speed.X, .int .i64 r5.1.Track.Speed.Y, .int .i64 r5.1.Track.Height, .int .i64 r5.1.Track.Rate, .int .i64 (w64 (r9 + 2)), .int .i64 r5.1.Track.Code, .int .i64 r5.1.Track.Hits, .int .i64 r5.1.Track.Misses, .int .i64 r5.1.Slack, .int .i64 r5.1.Last.Time, .int .i64 r5.1.Last.At.X, .int .i64 r5.1.Last.At.Y, .int .i64 r5.1.Last.Height, .int .i64 r5.1.Last.Code, .int .i64 r5.1.Last.Error] 29 (0, 0)), .inl (b5, .cells (FilterTrack.c r5.1) 29 (0, 0)), .inl (b4, .cells (FilterTrack.c FilterTrack.zero) 29 (0, 0)), .inl (b3, .cells (FilterTrack.c FilterTrack.zero) 29 (0, 0)), .inl (b2, .cells (Spot.c s) 27 (0, 0)), .inl (b1, .cells (FilterTrack.c f) 29 (0, 0))])) w at hM; exact hM.sub (sub_skip (List.Sublist.refl _))) (fun (γ : Nat) w _ => by have h := filter_down_w (w64 (16 * (w64 (s.At.Y - f.Last.At.Y)))) (w64 (s.Time - f.Last.Time)) w; rw [hr11] at h; exact h) (fun (γ : Nat) => by kernel_rfl) (fun (γ : Nat) => by kernel_rfl) ?_
                  refine Steps.run (i := 22) 23 [0] [.inl (b6, .cells #[.int .i64 r5.1.Track.ID, .int .i64 r5.1.Track.State, .int .i64 r5.1.Track.Time, .int .i64 r7, .int .i64 r8, .int .i64 r5.1.Track.Speed.X, .int .i64 r5.1.Track.Speed.Y, .int .i64 r5.1.Track.Height, .int .i64 r5.1.Track.Rate, .int .i64 (w64 (r9 + 2)), .int .i64 r5.1.Track.Code, .int .i64 r5.1.Track.Hits, .int .i64 r5.1.Track.Misses, .int .i64 r5.1.Slack, .int .i64 r5.1.Last.Time, .int .i64 r5.1.Last.At.X, .int .i64 r5.1.Last.At.Y, .int .i64 r5.1.Last.Height, .int .i64 r5.1.Last.Code, .int .i64 r5.1.Last.Error] 29 (0, 0)), .inl (b5, .cells (FilterTrack.c r5.1) 29 (0, 0)), .inl (b4, .cells (FilterTrack.c FilterTrack.zero) 29 (0, 0)), .inl (b3, .cells (FilterTrack.c FilterTrack.zero) 29 (0, 0)), .inl (b2, .cells (Spot.c s) 27 (0, 0)), .inl (b1, .cells (FilterTrack.c f) 29 (0, 0))] (by kernel_rfl) (by kernel_rfl) (fun S (γ : Nat) w hM => by change Sat _ ((bif S 24 then [.inl (γ, .cells #[.int .i64 r10, .int .i64 r11] 23 (0, 0))] else bif S 23 then [.inl (γ, .cells (P.c P.zero) 23 (0, 0))] else []) ++ ([.inl (b6, .cells #[.int .i64 r5.1.Track.ID, .int .i64 r5.1.Track.State, .int .i64 r5.1.Track.Time, .int .i64 r7, .int .i64 r8, .int .i64 r5.1.Track.Speed.X, .int .i64 r5.1.Track.Speed.Y, .int .i64 r5.1.Track.Height, .int .i64 r5.1.Track.Rate, .int .i64 (w64 (r9 + 2)), .int .i64 r5.1.Track.Code, .int .i64 r5.1.Track.Hits, .int .i64 r5.1.Track.Misses, .int .i64 r5.1.Slack, .int .i64 r5.1.Last.Time, .int .i64 r5.1.Last.At.X, .int .i64 r5.1.Last.At.Y, .int .i64 r5.1.Last.Height, .int .i64 r5.1.Last.Code, .int .i64 r5.1.Last.Error] 29 (0, 0)), .inl (b5, .cells (FilterTrack.c r5.1) 29 (0, 0)), .inl (b4, .cells (FilterTrack.c FilterTrack.zero) 29 (0, 0)), .inl (b3, .cells (FilterTrack.c FilterTrack.zero) 29 (0, 0)), .inl (b2, .cells (Spot.c s) 27 (0, 0)), .inl (b1, .cells (FilterTrack.c f) 29 (0, 0))])) w at hM; exact hM.sub (sub_skip (List.Sublist.refl _))) (by kernel_rfl) (fun (γ : Nat) => ⟨by kernel_rfl, by kernel_rfl⟩) ?_
                  refine Steps.op (i := 23) (Γ := Nat) (fun g (γ : Nat) => g) (fun _ => []) (fun b (γ : Nat) => [.inl (b, .cells (P.c P.zero) 23 (0, 0))]) (fun S (γ : Nat) => [.inl (b6, .cells #[.int .i64 r5.1.Track.ID, .int .i64 r5.1.Track.State, .int .i64 r5.1.Track.Time, .int .i64 r7, .int .i64 r8, .int .i64 r5.1.Track.Speed.X, .int .i64 r5.1.Track.Speed.Y, .int .i64 r5.1.Track.Height, .int .i64 r5.1.Track.Rate, .int .i64 (w64 (r9 + 2)), .int .i64 r5.1.Track.Code, .int .i64 r5.1.Track.Hits, .int .i64 r5.1.Track.Misses, .int .i64 r5.1.Slack, .int .i64 r5.1.Last.Time, .int .i64 r5.1.Last.At.X, .int .i64 r5.1.Last.At.Y, .int .i64 r5.1.Last.Height, .int .i64 r5.1.Last.Code, .int .i64 r5.1.Last.Error] 29 (0, 0)), .inl (b5, .cells (FilterTrack.c r5.1) 29 (0, 0)), .inl (b4, .cells (FilterTrack.c FilterTrack.zero) 29 (0, 0)), .inl (b3, .cells (FilterTrack.c FilterTrack.zero) 29 (0, 0)), .inl (b2, .cells (Spot.c s) 27 (0, 0)), .inl (b1, .cells (FilterTrack.c f) 29 (0, 0))]) [23, 24] (fun (γ : Nat) => sV (Instr.alloc 23 true (.tuple #[]))) (some 20) (fun b (γ : Nat) => .pointer (some ⟨b, 0, none⟩)) (fun S (γ : Nat) hj hd hl => by change List.Perm (((bif S 24 then [.inl (γ, .cells #[.int .i64 r10, .int .i64 r11] 23 (0, 0))] else bif S 23 then [.inl (γ, .cells (P.c P.zero) 23 (0, 0))] else []) ++ ([.inl (b6, .cells #[.int .i64 r5.1.Track.ID, .int .i64 r5.1.Track.State, .int .i64 r5.1.Track.Time, .int .i64 r7, .int .i64 r8, .int .i64 r5.1.Track.Speed.X, .int .i64 r5.1.Track.Speed.Y, .int .i64 r5.1.Track.Height, .int .i64 r5.1.Track.Rate, .int .i64 (w64 (r9 + 2)), .int .i64 r5.1.Track.Code, .int .i64 r5.1.Track.Hits, .int .i64 r5.1.Track.Misses, .int .i64 r5.1.Slack, .int .i64 r5.1.Last.Time, .int .i64 r5.1.Last.At.X, .int .i64 r5.1.Last.At.Y, .int .i64 r5.1.Last.Height, .int .i64 r5.1.Last.Code, .int .i64 r5.1.Last.Error] 29 (0, 0)), .inl (b5, .cells (FilterTrack.c r5.1) 29 (0, 0)), .inl (b4, .cells (FilterTrack.c FilterTrack.zero) 29 (0, 0)), .inl (b3, .cells (FilterTrack.c FilterTrack.zero) 29 (0, 0)), .inl (b2, .cells (Spot.c s) 27 (0, 0)), .inl (b1, .cells (FilterTrack.c f) 29 (0, 0))])) : Mem) _; rw [hj, hl 24 (by kernel_rfl)]; exact List.Perm.refl _) (fun S (γ : Nat) g hl => by change List.Perm _ (((bif S 24 then [.inl (g, .cells #[.int .i64 r10, .int .i64 r11] 23 (0, 0))] else bif true then [.inl (g, .cells (P.c P.zero) 23 (0, 0))] else []) ++ ([.inl (b6, .cells #[.int .i64 r5.1.Track.ID, .int .i64 r5.1.Track.State, .int .i64 r5.1.Track.Time, .int .i64 r7, .int .i64 r8, .int .i64 r5.1.Track.Speed.X, .int .i64 r5.1.Track.Speed.Y, .int .i64 r5.1.Track.Height, .int .i64 r5.1.Track.Rate, .int .i64 (w64 (r9 + 2)), .int .i64 r5.1.Track.Code, .int .i64 r5.1.Track.Hits, .int .i64 r5.1.Track.Misses, .int .i64 r5.1.Slack, .int .i64 r5.1.Last.Time, .int .i64 r5.1.Last.At.X, .int .i64 r5.1.Last.At.Y, .int .i64 r5.1.Last.Height, .int .i64 r5.1.Last.Code, .int .i64 r5.1.Last.Error] 29 (0, 0)), .inl (b5, .cells (FilterTrack.c r5.1) 29 (0, 0)), .inl (b4, .cells (FilterTrack.c FilterTrack.zero) 29 (0, 0)), .inl (b3, .cells (FilterTrack.c FilterTrack.zero) 29 (0, 0)), .inl (b2, .cells (Spot.c s) 27 (0, 0)), .inl (b1, .cells (FilterTrack.c f) 29 (0, 0))])) : Mem); rw [hl 24 (by kernel_rfl)]; exact (List.Perm.refl _).symm) (fun (γ : Nat) M' w hM => run_new (v := fun b => .pointer (some ⟨b, 0, none⟩)) (fun b M => by kernel_rfl) M' w hM) (fun (γ : Nat) => by kernel_rfl) (fun (γ : Nat) g => by kernel_rfl) (by kernel_rfl) (fun (γ : Nat) g => by kernel_rfl) ?_
                  refine Steps.put (i := 24) (fun (γ : Nat) => [.inl (γ, .cells (P.c P.zero) 23 (0, 0))]) (fun (γ : Nat) => [.inl (γ, .cells #[.int .i64 r10, .int .i64 r11] 23 (0, 0))]) (fun S (γ : Nat) => [.inl (b6, .cells #[.int .i64 r5.1.Track.ID, .int .i64 r5.1.Track.State, .int .i64 r5.1.Track.Time, .int .i64 r7, .int .i64 r8, .int .i64 r5.1.Track.Speed.X, .int .i64 r5.1.Track.Speed.Y, .int .i64 r5.1.Track.Height, .int .i64 r5.1.Track.Rate, .int .i64 (w64 (r9 + 2)), .int .i64 r5.1.Track.Code, .int .i64 r5.1.Track.Hits, .int .i64 r5.1.Track.Misses, .int .i64 r5.1.Slack, .int .i64 r5.1.Last.Time, .int .i64 r5.1.Last.At.X, .int .i64 r5.1.Last.At.Y, .int .i64 r5.1.Last.Height, .int .i64 r5.1.Last.Code, .int .i64 r5.1.Last.Error] 29 (0, 0)), .inl (b5, .cells (FilterTrack.c r5.1) 29 (0, 0)), .inl (b4, .cells (FilterTrack.c FilterTrack.zero) 29 (0, 0)), .inl (b3, .cells (FilterTrack.c FilterTrack.zero) 29 (0, 0)), .inl (b2, .cells (Spot.c s) 27 (0, 0)), .inl (b1, .cells (FilterTrack.c f) 29 (0, 0))]) (fun (γ : Nat) => sU (Instr.storeAt 23 (.pointer (some ⟨γ, 0, none⟩)) (.agg #[.int .i64 r10, .int .i64 r11]))) none (fun S (γ : Nat) hj hd hl => by change List.Perm (((bif S 24 then [.inl (γ, .cells #[.int .i64 r10, .int .i64 r11] 23 (0, 0))] else bif S 23 then [.inl (γ, .cells (P.c P.zero) 23 (0, 0))] else []) ++ ([.inl (b6, .cells #[.int .i64 r5.1.Track.ID, .int .i64 r5.1.Track.State, .int .i64 r5.1.Track.Time, .int .i64 r7, .int .i64 r8, .int .i64 r5.1.Track.Speed.X, .int .i64 r5.1.Track.Speed.Y, .int .i64 r5.1.Track.Height, .int .i64 r5.1.Track.Rate, .int .i64 (w64 (r9 + 2)), .int .i64 r5.1.Track.Code, .int .i64 r5.1.Track.Hits, .int .i64 r5.1.Track.Misses, .int .i64 r5.1.Slack, .int .i64 r5.1.Last.Time, .int .i64 r5.1.Last.At.X, .int .i64 r5.1.Last.At.Y, .int .i64 r5.1.Last.Height, .int .i64 r5.1.Last.Code, .int .i64 r5.1.Last.Error] 29 (0, 0)), .inl (b5, .cells (FilterTrack.c r5.1) 29 (0, 0)), .inl (b4, .cells (FilterTrack.c FilterTrack.zero) 29 (0, 0)), .inl (b3, .cells (FilterTrack.c FilterTrack.zero) 29 (0, 0)), .inl (b2, .cells (Spot.c s) 27 (0, 0)), .inl (b1, .cells (FilterTrack.c f) 29 (0, 0))])) : Mem) _; rw [hj, hd 23 (by kernel_rfl)]; exact List.Perm.refl _) (fun S (γ : Nat) _ => (List.Perm.refl _).symm) (fun (γ : Nat) M' w hM => run_put (fun b M => by kernel_rfl) (fun b M => by kernel_rfl) M' w hM) (fun (γ : Nat) => by kernel_rfl) (fun (γ : Nat) => by kernel_rfl) ?_
                  exact Steps.done (by kernel_rfl)
                · rintro b7
                  refine TE.conv [.inl (b7, .cells #[.int .i64 r10, .int .i64 r11] 23 (0, 0)), .inl (b6, .cells #[.int .i64 r5.1.Track.ID, .int .i64 r5.1.Track.State, .int .i64 r5.1.Track.Time, .int .i64 r7, .int .i64 r8, .int .i64 r5.1.Track.Speed.X, .int .i64 r5.1.Track.Speed.Y, .int .i64 r5.1.Track.Height, .int .i64 r5.1.Track.Rate, .int .i64 (w64 (r9 + 2)), .int .i64 r5.1.Track.Code, .int .i64 r5.1.Track.Hits, .int .i64 r5.1.Track.Misses, .int .i64 r5.1.Slack, .int .i64 r5.1.Last.Time, .int .i64 r5.1.Last.At.X, .int .i64 r5.1.Last.At.Y, .int .i64 r5.1.Last.Height, .int .i64 r5.1.Last.Code, .int .i64 r5.1.Last.Error] 29 (0, 0)), .inl (b5, .cells (FilterTrack.c r5.1) 29 (0, 0)), .inl (b4, .cells (FilterTrack.c FilterTrack.zero) 29 (0, 0)), .inl (b3, .cells (FilterTrack.c FilterTrack.zero) 29 (0, 0)), .inl (b2, .cells (Spot.c s) 27 (0, 0)), .inl (b1, .cells (FilterTrack.c f) 29 (0, 0))] (fun _ hM => hM) ?_
                  refine TE.next ?_
                  refine TC.seq ?_
                  refine TC.drawTail 20 (by kernel_rfl) (by kernel_rfl) ?_
                  refine TQ.run 8 [2, 0] [(2, .int .i64 accel), (4, .int .i64 speed), (5, .pointer (some ⟨b1, 0, none⟩)), (6, .pointer (some ⟨b2, 0, none⟩)), (10, .pointer (some ⟨b3, 0, none⟩)), (12, .pointer (some ⟨b4, 0, none⟩)), (15, .int .i64 (w64 (s.Time - f.Last.Time))), (16, .pointer (some ⟨b5, 0, none⟩)), (18, .pointer (some ⟨b6, 0, none⟩)), (19, .pointer (some ⟨b6, 0, none⟩)), (20, .pointer (some ⟨b7, 0, none⟩)), (142, .pointer (some ⟨b6, 0, none⟩)), (146, .int .i64 r5.1.Track.Speed.X), (148, .int .i64 r10), (149, .int .i64 speed)] rfl ⟨by kernel_rfl, by kernel_rfl⟩ ?_
                  refine TQ.call (some 150) [(2, .int .i64 accel), (4, .int .i64 speed), (5, .pointer (some ⟨b1, 0, none⟩)), (6, .pointer (some ⟨b2, 0, none⟩)), (10, .pointer (some ⟨b3, 0, none⟩)), (12, .pointer (some ⟨b4, 0, none⟩)), (15, .int .i64 (w64 (s.Time - f.Last.Time))), (16, .pointer (some ⟨b5, 0, none⟩)), (18, .pointer (some ⟨b6, 0, none⟩)), (19, .pointer (some ⟨b6, 0, none⟩)), (20, .pointer (some ⟨b7, 0, none⟩)), (142, .pointer (some ⟨b6, 0, none⟩)), (150, .int .i64 (filter_mix r5.1.Track.Speed.X r10 speed))] (fun w _ => filter_mix_w r5.1.Track.Speed.X r10 speed w) rfl (by kernel_rfl) (by kernel_rfl) ?_
                  generalize hr12 : filter_mix r5.1.Track.Speed.X r10 speed = r12
                  refine TQ.run 16 [2, 0] [(2, .int .i64 accel), (4, .int .i64 speed), (5, .pointer (some ⟨b1, 0, none⟩)), (6, .pointer (some ⟨b2, 0, none⟩)), (10, .pointer (some ⟨b3, 0, none⟩)), (12, .pointer (some ⟨b4, 0, none⟩)), (15, .int .i64 (w64 (s.Time - f.Last.Time))), (16, .pointer (some ⟨b5, 0, none⟩)), (18, .pointer (some ⟨b6, 0, none⟩)), (19, .pointer (some ⟨b6, 0, none⟩)), (142, .pointer (some ⟨b6, 0, none⟩)), (150, .int .i64 r12), (154, .int .i64 r5.1.Track.Speed.Y), (156, .int .i64 r11), (157, .int .i64 speed)] rfl ⟨by kernel_rfl, by kernel_rfl⟩ ?_
                  refine TQ.call (some 158) [(2, .int .i64 accel), (4, .int .i64 speed), (5, .pointer (some ⟨b1, 0, none⟩)), (6, .pointer (some ⟨b2, 0, none⟩)), (10, .pointer (some ⟨b3, 0, none⟩)), (12, .pointer (some ⟨b4, 0, none⟩)), (15, .int .i64 (w64 (s.Time - f.Last.Time))), (16, .pointer (some ⟨b5, 0, none⟩)), (18, .pointer (some ⟨b6, 0, none⟩)), (19, .pointer (some ⟨b6, 0, none⟩)), (142, .pointer (some ⟨b6, 0, none⟩)), (150, .int .i64 r12), (158, .int .i64 (filter_mix r5.1.Track.Speed.Y r11 speed))] (fun w _ => filter_mix_w r5.1.Track.Speed.Y r11 speed w) rfl (by kernel_rfl) (by kernel_rfl) ?_
                  generalize hr13 : filter_mix r5.1.Track.Speed.Y r11 speed = r13
                  refine TQ.run 20 [] [(2, .int .i64 accel), (4, .int .i64 speed), (5, .pointer (some ⟨b1, 0, none⟩)), (6, .pointer (some ⟨b2, 0, none⟩)), (10, .pointer (some ⟨b3, 0, none⟩)), (12, .pointer (some ⟨b4, 0, none⟩)), (15, .int .i64 (w64 (s.Time - f.Last.Time))), (16, .pointer (some ⟨b5, 0, none⟩)), (18, .pointer (some ⟨b6, 0, none⟩)), (19, .pointer (some ⟨b6, 0, none⟩)), (159, .agg #[.int .i64 r12, .int .i64 r13]), (161, .pointer (some ⟨b6, 5, none⟩))] rfl ⟨by kernel_rfl, by kernel_rfl⟩ ?_
                  refine TQ.tail rfl ?_
                  refine TL.write 1 (fun _ => [(2, .int .i64 accel), (4, .int .i64 speed), (5, .pointer (some ⟨b1, 0, none⟩)), (6, .pointer (some ⟨b2, 0, none⟩)), (10, .pointer (some ⟨b3, 0, none⟩)), (12, .pointer (some ⟨b4, 0, none⟩)), (15, .int .i64 (w64 (s.Time - f.Last.Time))), (16, .pointer (some ⟨b5, 0, none⟩)), (18, .pointer (some ⟨b6, 0, none⟩)), (19, .pointer (some ⟨b6, 0, none⟩))]) (fun _ => [.inl (b7, .cells #[.int .i64 r10, .int .i64 r11] 23 (0, 0)), .inl (b6, .cells #[.int .i64 r5.1.Track.ID, .int .i64 r5.1.Track.State, .int .i64 r5.1.Track.Time, .int .i64 r7, .int .i64 r8, .int .i64 r12, .int .i64 r13, .int .i64 r5.1.Track.Height, .int .i64 r5.1.Track.Rate, .int .i64 (w64 (r9 + 2)), .int .i64 r5.1.Track.Code, .int .i64 r5.1.Track.Hits, .int .i64 r5.1.Track.Misses, .int .i64 r5.1.Slack, .int .i64 r5.1.Last.Time, .int .i64 r5.1.Last.At.X, .int .i64 r5.1.Last.At.Y, .int .i64 r5.1.Last.Height, .int .i64 r5.1.Last.Code, .int .i64 r5.1.Last.Error] 29 (0, 0)), .inl (b5, .cells (FilterTrack.c r5.1) 29 (0, 0)), .inl (b4, .cells (FilterTrack.c FilterTrack.zero) 29 (0, 0)), .inl (b3, .cells (FilterTrack.c FilterTrack.zero) 29 (0, 0)), .inl (b2, .cells (Spot.c s) 27 (0, 0)), .inl (b1, .cells (FilterTrack.c f) 29 (0, 0))]) (fun _ => ⟨by kernel_rfl, by kernel_rfl⟩) (fun _ => ?_)
                  refine TL.next rfl ?_
                  refine TC.seq ?_
                  refine TC.region ?_
                  refine TL.run 8 [5, 6] [(2, .int .i64 accel), (4, .int .i64 speed), (5, .pointer (some ⟨b1, 0, none⟩)), (6, .pointer (some ⟨b2, 0, none⟩)), (10, .pointer (some ⟨b3, 0, none⟩)), (12, .pointer (some ⟨b4, 0, none⟩)), (15, .int .i64 (w64 (s.Time - f.Last.Time))), (16, .pointer (some ⟨b5, 0, none⟩)), (18, .pointer (some ⟨b6, 0, none⟩)), (19, .pointer (some ⟨b6, 0, none⟩)), (168, .int .i64 (w64 (16 * (w64 (s.Error + f.Last.Error))))), (169, .int .i64 (w64 (s.Time - f.Last.Time)))] rfl ⟨by kernel_rfl, by kernel_rfl⟩ ?_
                  refine TL.call (some 170) [(2, .int .i64 accel), (4, .int .i64 speed), (5, .pointer (some ⟨b1, 0, none⟩)), (6, .pointer (some ⟨b2, 0, none⟩)), (10, .pointer (some ⟨b3, 0, none⟩)), (12, .pointer (some ⟨b4, 0, none⟩)), (15, .int .i64 (w64 (s.Time - f.Last.Time))), (16, .pointer (some ⟨b5, 0, none⟩)), (18, .pointer (some ⟨b6, 0, none⟩)), (19, .pointer (some ⟨b6, 0, none⟩)), (170, .int .i64 (filter_up (w64 (16 * (w64 (s.Error + f.Last.Error)))) (w64 (s.Time - f.Last.Time))))] (fun w _ => filter_up_w (w64 (16 * (w64 (s.Error + f.Last.Error)))) (w64 (s.Time - f.Last.Time)) w) (by kernel_rfl) (by kernel_rfl) ?_
                  generalize hr14 : filter_up (w64 (16 * (w64 (s.Error + f.Last.Error)))) (w64 (s.Time - f.Last.Time)) = r14
                  refine TL.run 16 [] [(4, .int .i64 speed), (5, .pointer (some ⟨b1, 0, none⟩)), (6, .pointer (some ⟨b2, 0, none⟩)), (10, .pointer (some ⟨b3, 0, none⟩)), (12, .pointer (some ⟨b4, 0, none⟩)), (15, .int .i64 (w64 (s.Time - f.Last.Time))), (16, .pointer (some ⟨b5, 0, none⟩)), (18, .pointer (some ⟨b6, 0, none⟩)), (19, .pointer (some ⟨b6, 0, none⟩)), (21, .int .i64 (w64 ((w64 (r14 + (w64 ((w64 (16 * accel)) * (w64 (s.Time - f.Last.Time)))))) + 2)))] rfl ⟨by kernel_rfl, by kernel_rfl⟩ ?_
                  refine TL.next rfl ?_
                  refine TC.seq ?_
                  refine TC.region ?_
                  refine TL.run 9 [2] [(5, .pointer (some ⟨b1, 0, none⟩)), (6, .pointer (some ⟨b2, 0, none⟩)), (10, .pointer (some ⟨b3, 0, none⟩)), (12, .pointer (some ⟨b4, 0, none⟩)), (15, .int .i64 (w64 (s.Time - f.Last.Time))), (18, .pointer (some ⟨b6, 0, none⟩)), (19, .pointer (some ⟨b6, 0, none⟩)), (185, .int .i64 (w64 ((w64 ((w64 (256 - speed)) * r5.1.Slack)) + (w64 (speed * (w64 ((w64 (r14 + (w64 ((w64 (16 * accel)) * (w64 (s.Time - f.Last.Time)))))) + 2)))))))] rfl ⟨by kernel_rfl, by kernel_rfl⟩ ?_
                  refine TL.call (some 186) [(5, .pointer (some ⟨b1, 0, none⟩)), (6, .pointer (some ⟨b2, 0, none⟩)), (10, .pointer (some ⟨b3, 0, none⟩)), (12, .pointer (some ⟨b4, 0, none⟩)), (15, .int .i64 (w64 (s.Time - f.Last.Time))), (18, .pointer (some ⟨b6, 0, none⟩)), (19, .pointer (some ⟨b6, 0, none⟩)), (186, .int .i64 (filter_up (w64 ((w64 ((w64 (256 - speed)) * r5.1.Slack)) + (w64 (speed * (w64 ((w64 (r14 + (w64 ((w64 (16 * accel)) * (w64 (s.Time - f.Last.Time)))))) + 2)))))) 256))] (fun w _ => filter_up_w (w64 ((w64 ((w64 (256 - speed)) * r5.1.Slack)) + (w64 (speed * (w64 ((w64 (r14 + (w64 ((w64 (16 * accel)) * (w64 (s.Time - f.Last.Time)))))) + 2)))))) 256 w) (by kernel_rfl) (by kernel_rfl) ?_
                  generalize hr15 : filter_up (w64 ((w64 ((w64 (256 - speed)) * r5.1.Slack)) + (w64 (speed * (w64 ((w64 (r14 + (w64 ((w64 (16 * accel)) * (w64 (s.Time - f.Last.Time)))))) + 2)))))) 256 = r15
                  refine TL.run 12 [] [(5, .pointer (some ⟨b1, 0, none⟩)), (6, .pointer (some ⟨b2, 0, none⟩)), (10, .pointer (some ⟨b3, 0, none⟩)), (12, .pointer (some ⟨b4, 0, none⟩)), (15, .int .i64 (w64 (s.Time - f.Last.Time))), (18, .pointer (some ⟨b6, 0, none⟩)), (19, .pointer (some ⟨b6, 0, none⟩)), (187, .int .i64 (w64 (r15 + 2))), (188, .pointer (some ⟨b6, 13, none⟩))] rfl ⟨by kernel_rfl, by kernel_rfl⟩ ?_
                  refine TL.write 1 (fun _ => [(5, .pointer (some ⟨b1, 0, none⟩)), (6, .pointer (some ⟨b2, 0, none⟩)), (10, .pointer (some ⟨b3, 0, none⟩)), (12, .pointer (some ⟨b4, 0, none⟩)), (15, .int .i64 (w64 (s.Time - f.Last.Time))), (18, .pointer (some ⟨b6, 0, none⟩)), (19, .pointer (some ⟨b6, 0, none⟩))]) (fun _ => [.inl (b7, .cells #[.int .i64 r10, .int .i64 r11] 23 (0, 0)), .inl (b6, .cells #[.int .i64 r5.1.Track.ID, .int .i64 r5.1.Track.State, .int .i64 r5.1.Track.Time, .int .i64 r7, .int .i64 r8, .int .i64 r12, .int .i64 r13, .int .i64 r5.1.Track.Height, .int .i64 r5.1.Track.Rate, .int .i64 (w64 (r9 + 2)), .int .i64 r5.1.Track.Code, .int .i64 r5.1.Track.Hits, .int .i64 r5.1.Track.Misses, .int .i64 (w64 (r15 + 2)), .int .i64 r5.1.Last.Time, .int .i64 r5.1.Last.At.X, .int .i64 r5.1.Last.At.Y, .int .i64 r5.1.Last.Height, .int .i64 r5.1.Last.Code, .int .i64 r5.1.Last.Error] 29 (0, 0)), .inl (b5, .cells (FilterTrack.c r5.1) 29 (0, 0)), .inl (b4, .cells (FilterTrack.c FilterTrack.zero) 29 (0, 0)), .inl (b3, .cells (FilterTrack.c FilterTrack.zero) 29 (0, 0)), .inl (b2, .cells (Spot.c s) 27 (0, 0)), .inl (b1, .cells (FilterTrack.c f) 29 (0, 0))]) (fun _ => ⟨by kernel_rfl, by kernel_rfl⟩) (fun _ => ?_)
                  refine TL.next rfl ?_
                  refine TC.seq ?_
                  refine TC.region ?_
                  refine TL.run 9 [5, 6] [(6, .pointer (some ⟨b2, 0, none⟩)), (10, .pointer (some ⟨b3, 0, none⟩)), (12, .pointer (some ⟨b4, 0, none⟩)), (18, .pointer (some ⟨b6, 0, none⟩)), (19, .pointer (some ⟨b6, 0, none⟩)), (189, .pointer (some ⟨b6, 0, none⟩)), (196, .int .i64 (w64 (16 * (w64 (s.Height - f.Last.Height))))), (197, .int .i64 (w64 (s.Time - f.Last.Time)))] rfl ⟨by kernel_rfl, by kernel_rfl⟩ ?_
                  refine TL.call (some 198) [(6, .pointer (some ⟨b2, 0, none⟩)), (10, .pointer (some ⟨b3, 0, none⟩)), (12, .pointer (some ⟨b4, 0, none⟩)), (18, .pointer (some ⟨b6, 0, none⟩)), (19, .pointer (some ⟨b6, 0, none⟩)), (189, .pointer (some ⟨b6, 0, none⟩)), (198, .int .i64 (filter_down (w64 (16 * (w64 (s.Height - f.Last.Height)))) (w64 (s.Time - f.Last.Time))))] (fun w _ => filter_down_w (w64 (16 * (w64 (s.Height - f.Last.Height)))) (w64 (s.Time - f.Last.Time)) w) (by kernel_rfl) (by kernel_rfl) ?_
                  generalize hr16 : filter_down (w64 (16 * (w64 (s.Height - f.Last.Height)))) (w64 (s.Time - f.Last.Time)) = r16
                  refine TL.call (some 199) [(6, .pointer (some ⟨b2, 0, none⟩)), (10, .pointer (some ⟨b3, 0, none⟩)), (12, .pointer (some ⟨b4, 0, none⟩)), (18, .pointer (some ⟨b6, 0, none⟩)), (19, .pointer (some ⟨b6, 0, none⟩)), (189, .pointer (some ⟨b6, 0, none⟩)), (199, .int .i64 (num_Between r16 (-3200) 3200))] (fun w _ => num_Between_w r16 (-3200) 3200 w) (by kernel_rfl) (by kernel_rfl) ?_
                  generalize hr17 : num_Between r16 (-3200) 3200 = r17
                  refine TL.run 13 [] [(6, .pointer (some ⟨b2, 0, none⟩)), (10, .pointer (some ⟨b3, 0, none⟩)), (12, .pointer (some ⟨b4, 0, none⟩)), (18, .pointer (some ⟨b6, 0, none⟩)), (19, .pointer (some ⟨b6, 0, none⟩)), (199, .int .i64 r17), (201, .pointer (some ⟨b6, 8, none⟩))] rfl ⟨by kernel_rfl, by kernel_rfl⟩ ?_
                  refine TL.write 1 (fun _ => [(6, .pointer (some ⟨b2, 0, none⟩)), (10, .pointer (some ⟨b3, 0, none⟩)), (12, .pointer (some ⟨b4, 0, none⟩)), (18, .pointer (some ⟨b6, 0, none⟩)), (19, .pointer (some ⟨b6, 0, none⟩))]) (fun _ => [.inl (b7, .cells #[.int .i64 r10, .int .i64 r11] 23 (0, 0)), .inl (b6, .cells #[.int .i64 r5.1.Track.ID, .int .i64 r5.1.Track.State, .int .i64 r5.1.Track.Time, .int .i64 r7, .int .i64 r8, .int .i64 r12, .int .i64 r13, .int .i64 r5.1.Track.Height, .int .i64 r17, .int .i64 (w64 (r9 + 2)), .int .i64 r5.1.Track.Code, .int .i64 r5.1.Track.Hits, .int .i64 r5.1.Track.Misses, .int .i64 (w64 (r15 + 2)), .int .i64 r5.1.Last.Time, .int .i64 r5.1.Last.At.X, .int .i64 r5.1.Last.At.Y, .int .i64 r5.1.Last.Height, .int .i64 r5.1.Last.Code, .int .i64 r5.1.Last.Error] 29 (0, 0)), .inl (b5, .cells (FilterTrack.c r5.1) 29 (0, 0)), .inl (b4, .cells (FilterTrack.c FilterTrack.zero) 29 (0, 0)), .inl (b3, .cells (FilterTrack.c FilterTrack.zero) 29 (0, 0)), .inl (b2, .cells (Spot.c s) 27 (0, 0)), .inl (b1, .cells (FilterTrack.c f) 29 (0, 0))]) (fun _ => ⟨by kernel_rfl, by kernel_rfl⟩) (fun _ => ?_)
                  refine TL.next rfl ?_
                  refine TC.seq ?_
                  refine TC.region ?_
                  refine TL.run 5 [5] [(6, .pointer (some ⟨b2, 0, none⟩)), (10, .pointer (some ⟨b3, 0, none⟩)), (12, .pointer (some ⟨b4, 0, none⟩)), (18, .pointer (some ⟨b6, 0, none⟩)), (19, .pointer (some ⟨b6, 0, none⟩)), (204, .int .i64 s.Height), (206, .pointer (some ⟨b6, 7, none⟩))] rfl ⟨by kernel_rfl, by kernel_rfl⟩ ?_
                  refine TL.write 1 (fun _ => [(6, .pointer (some ⟨b2, 0, none⟩)), (10, .pointer (some ⟨b3, 0, none⟩)), (12, .pointer (some ⟨b4, 0, none⟩)), (18, .pointer (some ⟨b6, 0, none⟩)), (19, .pointer (some ⟨b6, 0, none⟩))]) (fun _ => [.inl (b7, .cells #[.int .i64 r10, .int .i64 r11] 23 (0, 0)), .inl (b6, .cells #[.int .i64 r5.1.Track.ID, .int .i64 r5.1.Track.State, .int .i64 r5.1.Track.Time, .int .i64 r7, .int .i64 r8, .int .i64 r12, .int .i64 r13, .int .i64 s.Height, .int .i64 r17, .int .i64 (w64 (r9 + 2)), .int .i64 r5.1.Track.Code, .int .i64 r5.1.Track.Hits, .int .i64 r5.1.Track.Misses, .int .i64 (w64 (r15 + 2)), .int .i64 r5.1.Last.Time, .int .i64 r5.1.Last.At.X, .int .i64 r5.1.Last.At.Y, .int .i64 r5.1.Last.Height, .int .i64 r5.1.Last.Code, .int .i64 r5.1.Last.Error] 29 (0, 0)), .inl (b5, .cells (FilterTrack.c r5.1) 29 (0, 0)), .inl (b4, .cells (FilterTrack.c FilterTrack.zero) 29 (0, 0)), .inl (b3, .cells (FilterTrack.c FilterTrack.zero) 29 (0, 0)), .inl (b2, .cells (Spot.c s) 27 (0, 0)), .inl (b1, .cells (FilterTrack.c f) 29 (0, 0))]) (fun _ => ⟨by kernel_rfl, by kernel_rfl⟩) (fun _ => ?_)
                  refine TL.next rfl ?_
                  refine TC.seq ?_
                  refine TC.seq ?_
                  refine TC.region ?_
                  refine TL.run 3 [5] [(6, .pointer (some ⟨b2, 0, none⟩)), (10, .pointer (some ⟨b3, 0, none⟩)), (12, .pointer (some ⟨b4, 0, none⟩)), (18, .pointer (some ⟨b6, 0, none⟩)), (19, .pointer (some ⟨b6, 0, none⟩)), (209, .bool (s.Code != (-1)))] rfl ⟨by kernel_rfl, by kernel_rfl⟩ ?_
                  refine TL.next rfl ?_
                  refine TC.cond (s.Code != (-1)) rfl (by kernel_rfl) (fun h8 => ?_) (fun h8 => ?_)
                  · refine TC.region ?_
                    refine TL.run 5 [5] [(6, .pointer (some ⟨b2, 0, none⟩)), (10, .pointer (some ⟨b3, 0, none⟩)), (12, .pointer (some ⟨b4, 0, none⟩)), (18, .pointer (some ⟨b6, 0, none⟩)), (19, .pointer (some ⟨b6, 0, none⟩)), (212, .int .i64 s.Code), (214, .pointer (some ⟨b6, 10, none⟩))] rfl ⟨by kernel_rfl, by kernel_rfl⟩ ?_
                    refine TL.write 1 (fun _ => [(6, .pointer (some ⟨b2, 0, none⟩)), (10, .pointer (some ⟨b3, 0, none⟩)), (12, .pointer (some ⟨b4, 0, none⟩)), (18, .pointer (some ⟨b6, 0, none⟩)), (19, .pointer (some ⟨b6, 0, none⟩))]) (fun _ => [.inl (b7, .cells #[.int .i64 r10, .int .i64 r11] 23 (0, 0)), .inl (b6, .cells #[.int .i64 r5.1.Track.ID, .int .i64 r5.1.Track.State, .int .i64 r5.1.Track.Time, .int .i64 r7, .int .i64 r8, .int .i64 r12, .int .i64 r13, .int .i64 s.Height, .int .i64 r17, .int .i64 (w64 (r9 + 2)), .int .i64 s.Code, .int .i64 r5.1.Track.Hits, .int .i64 r5.1.Track.Misses, .int .i64 (w64 (r15 + 2)), .int .i64 r5.1.Last.Time, .int .i64 r5.1.Last.At.X, .int .i64 r5.1.Last.At.Y, .int .i64 r5.1.Last.Height, .int .i64 r5.1.Last.Code, .int .i64 r5.1.Last.Error] 29 (0, 0)), .inl (b5, .cells (FilterTrack.c r5.1) 29 (0, 0)), .inl (b4, .cells (FilterTrack.c FilterTrack.zero) 29 (0, 0)), .inl (b3, .cells (FilterTrack.c FilterTrack.zero) 29 (0, 0)), .inl (b2, .cells (Spot.c s) 27 (0, 0)), .inl (b1, .cells (FilterTrack.c f) 29 (0, 0))]) (fun _ => ⟨by kernel_rfl, by kernel_rfl⟩) (fun _ => ?_)
                    refine TL.next rfl ?_
                    refine TC.seq ?_
                    refine TC.region ?_
                    refine TL.run 7 [1] [(6, .pointer (some ⟨b2, 0, none⟩)), (10, .pointer (some ⟨b3, 0, none⟩)), (12, .pointer (some ⟨b4, 0, none⟩)), (18, .pointer (some ⟨b6, 0, none⟩)), (19, .pointer (some ⟨b6, 0, none⟩)), (219, .int .i64 (w64 (r5.1.Track.Hits + 1))), (221, .pointer (some ⟨b6, 11, none⟩))] rfl ⟨by kernel_rfl, by kernel_rfl⟩ ?_
                    refine TL.write 1 (fun _ => [(6, .pointer (some ⟨b2, 0, none⟩)), (10, .pointer (some ⟨b3, 0, none⟩)), (12, .pointer (some ⟨b4, 0, none⟩)), (18, .pointer (some ⟨b6, 0, none⟩)), (19, .pointer (some ⟨b6, 0, none⟩))]) (fun _ => [.inl (b7, .cells #[.int .i64 r10, .int .i64 r11] 23 (0, 0)), .inl (b6, .cells #[.int .i64 r5.1.Track.ID, .int .i64 r5.1.Track.State, .int .i64 r5.1.Track.Time, .int .i64 r7, .int .i64 r8, .int .i64 r12, .int .i64 r13, .int .i64 s.Height, .int .i64 r17, .int .i64 (w64 (r9 + 2)), .int .i64 s.Code, .int .i64 (w64 (r5.1.Track.Hits + 1)), .int .i64 r5.1.Track.Misses, .int .i64 (w64 (r15 + 2)), .int .i64 r5.1.Last.Time, .int .i64 r5.1.Last.At.X, .int .i64 r5.1.Last.At.Y, .int .i64 r5.1.Last.Height, .int .i64 r5.1.Last.Code, .int .i64 r5.1.Last.Error] 29 (0, 0)), .inl (b5, .cells (FilterTrack.c r5.1) 29 (0, 0)), .inl (b4, .cells (FilterTrack.c FilterTrack.zero) 29 (0, 0)), .inl (b3, .cells (FilterTrack.c FilterTrack.zero) 29 (0, 0)), .inl (b2, .cells (Spot.c s) 27 (0, 0)), .inl (b1, .cells (FilterTrack.c f) 29 (0, 0))]) (fun _ => ⟨by kernel_rfl, by kernel_rfl⟩) (fun _ => ?_)
                    refine TL.next rfl ?_
                    refine TC.seq ?_
                    refine TC.region ?_
                    refine TL.run 3 [] [(6, .pointer (some ⟨b2, 0, none⟩)), (10, .pointer (some ⟨b3, 0, none⟩)), (12, .pointer (some ⟨b4, 0, none⟩)), (18, .pointer (some ⟨b6, 0, none⟩)), (224, .pointer (some ⟨b6, 12, none⟩))] rfl ⟨by kernel_rfl, by kernel_rfl⟩ ?_
                    refine TL.write 1 (fun _ => [(6, .pointer (some ⟨b2, 0, none⟩)), (10, .pointer (some ⟨b3, 0, none⟩)), (12, .pointer (some ⟨b4, 0, none⟩)), (18, .pointer (some ⟨b6, 0, none⟩))]) (fun _ => [.inl (b7, .cells #[.int .i64 r10, .int .i64 r11] 23 (0, 0)), .inl (b6, .cells #[.int .i64 r5.1.Track.ID, .int .i64 r5.1.Track.State, .int .i64 r5.1.Track.Time, .int .i64 r7, .int .i64 r8, .int .i64 r12, .int .i64 r13, .int .i64 s.Height, .int .i64 r17, .int .i64 (w64 (r9 + 2)), .int .i64 s.Code, .int .i64 (w64 (r5.1.Track.Hits + 1)), .int .i64 0, .int .i64 (w64 (r15 + 2)), .int .i64 r5.1.Last.Time, .int .i64 r5.1.Last.At.X, .int .i64 r5.1.Last.At.Y, .int .i64 r5.1.Last.Height, .int .i64 r5.1.Last.Code, .int .i64 r5.1.Last.Error] 29 (0, 0)), .inl (b5, .cells (FilterTrack.c r5.1) 29 (0, 0)), .inl (b4, .cells (FilterTrack.c FilterTrack.zero) 29 (0, 0)), .inl (b3, .cells (FilterTrack.c FilterTrack.zero) 29 (0, 0)), .inl (b2, .cells (Spot.c s) 27 (0, 0)), .inl (b1, .cells (FilterTrack.c f) 29 (0, 0))]) (fun _ => ⟨by kernel_rfl, by kernel_rfl⟩) (fun _ => ?_)
                    refine TL.next rfl ?_
                    refine TC.seq ?_
                    refine TC.region ?_
                    refine TL.run 2 [5] [(10, .pointer (some ⟨b3, 0, none⟩)), (12, .pointer (some ⟨b4, 0, none⟩)), (18, .pointer (some ⟨b6, 0, none⟩)), (225, Spot.v s), (226, .pointer (some ⟨b6, 14, none⟩))] rfl ⟨by kernel_rfl, by kernel_rfl⟩ ?_
                    refine TL.write 1 (fun _ => [(10, .pointer (some ⟨b3, 0, none⟩)), (12, .pointer (some ⟨b4, 0, none⟩)), (18, .pointer (some ⟨b6, 0, none⟩))]) (fun _ => [.inl (b7, .cells #[.int .i64 r10, .int .i64 r11] 23 (0, 0)), .inl (b6, .cells #[.int .i64 r5.1.Track.ID, .int .i64 r5.1.Track.State, .int .i64 r5.1.Track.Time, .int .i64 r7, .int .i64 r8, .int .i64 r12, .int .i64 r13, .int .i64 s.Height, .int .i64 r17, .int .i64 (w64 (r9 + 2)), .int .i64 s.Code, .int .i64 (w64 (r5.1.Track.Hits + 1)), .int .i64 0, .int .i64 (w64 (r15 + 2)), .int .i64 s.Time, .int .i64 s.At.X, .int .i64 s.At.Y, .int .i64 s.Height, .int .i64 s.Code, .int .i64 s.Error] 29 (0, 0)), .inl (b5, .cells (FilterTrack.c r5.1) 29 (0, 0)), .inl (b4, .cells (FilterTrack.c FilterTrack.zero) 29 (0, 0)), .inl (b3, .cells (FilterTrack.c FilterTrack.zero) 29 (0, 0)), .inl (b2, .cells (Spot.c s) 27 (0, 0)), .inl (b1, .cells (FilterTrack.c f) 29 (0, 0))]) (fun _ => ⟨by kernel_rfl, by kernel_rfl⟩) (fun _ => ?_)
                    refine TL.next rfl ?_
                    refine TC.seq ?_
                    refine TC.seq ?_
                    refine TC.region ?_
                    refine TL.run 1 [1] [(10, .pointer (some ⟨b3, 0, none⟩)), (12, .pointer (some ⟨b4, 0, none⟩)), (18, .pointer (some ⟨b6, 0, none⟩)), (227, .agg #[.int .i64 r5.1.Track.ID, .int .i64 r5.1.Track.State, .int .i64 r5.1.Track.Time, .int .i64 r7, .int .i64 r8, .int .i64 r12, .int .i64 r13, .int .i64 s.Height, .int .i64 r17, .int .i64 (w64 (r9 + 2)), .int .i64 s.Code, .int .i64 (w64 (r5.1.Track.Hits + 1)), .int .i64 0, .int .i64 (w64 (r15 + 2)), .int .i64 s.Time, .int .i64 s.At.X, .int .i64 s.At.Y, .int .i64 s.Height, .int .i64 s.Code, .int .i64 s.Error])] rfl ⟨by kernel_rfl, by kernel_rfl⟩ ?_
                    refine TL.call (some 228) [(10, .pointer (some ⟨b3, 0, none⟩)), (12, .pointer (some ⟨b4, 0, none⟩)), (18, .pointer (some ⟨b6, 0, none⟩)), (228, .int .i64 (filter_Check (⟨⟨r5.1.Track.ID, r5.1.Track.State, r5.1.Track.Time, ⟨r7, r8⟩, ⟨r12, r13⟩, s.Height, r17, w64 (r9 + 2), s.Code, w64 (r5.1.Track.Hits + 1), 0⟩, w64 (r15 + 2), s⟩ : FilterTrack)))] (fun w _ => filter_Check_w (⟨⟨r5.1.Track.ID, r5.1.Track.State, r5.1.Track.Time, ⟨r7, r8⟩, ⟨r12, r13⟩, s.Height, r17, w64 (r9 + 2), s.Code, w64 (r5.1.Track.Hits + 1), 0⟩, w64 (r15 + 2), s⟩ : FilterTrack) w) (by kernel_rfl) (by kernel_rfl) ?_
                    generalize hr18 : filter_Check (⟨⟨r5.1.Track.ID, r5.1.Track.State, r5.1.Track.Time, ⟨r7, r8⟩, ⟨r12, r13⟩, s.Height, r17, w64 (r9 + 2), s.Code, w64 (r5.1.Track.Hits + 1), 0⟩, w64 (r15 + 2), s⟩ : FilterTrack) = r18
                    refine TL.run 3 [] [(10, .pointer (some ⟨b3, 0, none⟩)), (12, .pointer (some ⟨b4, 0, none⟩)), (18, .pointer (some ⟨b6, 0, none⟩)), (229, .bool (r18 != 0))] rfl ⟨by kernel_rfl, by kernel_rfl⟩ ?_
                    refine TL.next rfl ?_
                    refine TC.cond (r18 != 0) rfl (by kernel_rfl) (fun h9 => ?_) (fun h9 => ?_)
                    · refine TC.seq ?_
                      refine TC.region ?_
                      refine TL.run 1 [3] [(10, .pointer (some ⟨b3, 0, none⟩)), (230, .agg #[.int .i64 0, .int .i64 0, .int .i64 0, .int .i64 0, .int .i64 0, .int .i64 0, .int .i64 0, .int .i64 0, .int .i64 0, .int .i64 0, .int .i64 0, .int .i64 0, .int .i64 0, .int .i64 0, .int .i64 0, .int .i64 0, .int .i64 0, .int .i64 0, .int .i64 0, .int .i64 0])] rfl ⟨by kernel_rfl, by kernel_rfl⟩ ?_
                      refine TL.write 4 (fun _ => [(10, .pointer (some ⟨b3, 0, none⟩))]) (fun _ => [.inl (b7, .cells #[.int .i64 r10, .int .i64 r11] 23 (0, 0)), .inl (b6, .cells #[.int .i64 r5.1.Track.ID, .int .i64 r5.1.Track.State, .int .i64 r5.1.Track.Time, .int .i64 r7, .int .i64 r8, .int .i64 r12, .int .i64 r13, .int .i64 s.Height, .int .i64 r17, .int .i64 (w64 (r9 + 2)), .int .i64 s.Code, .int .i64 (w64 (r5.1.Track.Hits + 1)), .int .i64 0, .int .i64 (w64 (r15 + 2)), .int .i64 s.Time, .int .i64 s.At.X, .int .i64 s.At.Y, .int .i64 s.Height, .int .i64 s.Code, .int .i64 s.Error] 29 (0, 0)), .inl (b5, .cells (FilterTrack.c r5.1) 29 (0, 0)), .inl (b4, .cells (FilterTrack.c FilterTrack.zero) 29 (0, 0)), .inl (b3, .cells (FilterTrack.c FilterTrack.zero) 29 (0, 0)), .inl (b2, .cells (Spot.c s) 27 (0, 0)), .inl (b1, .cells (FilterTrack.c f) 29 (0, 0))]) (fun _ => ⟨by kernel_rfl, by kernel_rfl⟩) (fun _ => ?_)
                      refine TL.run 3 [] [(10, .pointer (some ⟨b3, 0, none⟩)), (11, .int .i64 8)] rfl ⟨by kernel_rfl, by kernel_rfl⟩ ?_
                      refine TL.next rfl ?_
                      refine TC.ret ?_
                      refine TE.ret_then ?_
                      have e : filter_Update f s accel place speed = ((⟨⟨0, 0, 0, ⟨0, 0⟩, ⟨0, 0⟩, 0, 0, 0, 0, 0, 0⟩, 0, ⟨0, ⟨0, 0⟩, 0, 0, 0⟩⟩ : FilterTrack), 8) := by subst hr1 hr2 hr3 hr4 hr5 hr6 hr7 hr8 hr9 hr10 hr11 hr12 hr13 hr14 hr15 hr16 hr17 hr18; unfold filter_Update; exact cond_f h1 (cond_f h2 (cond_f h3 (cond_f h4 (cond_f h5 (cond_f h6 (cond_f h7 (cond_t h8 (cond_t h9 (rfl)))))))))
                      exact TE.ret [4] (.tuple #[.agg #[.int .i64 0, .int .i64 0, .int .i64 0, .int .i64 0, .int .i64 0, .int .i64 0, .int .i64 0, .int .i64 0, .int .i64 0, .int .i64 0, .int .i64 0, .int .i64 0, .int .i64 0, .int .i64 0, .int .i64 0, .int .i64 0, .int .i64 0, .int .i64 0, .int .i64 0, .int .i64 0], .int .i64 8]) ⟨by kernel_rfl, by kernel_rfl⟩ (by rw [e]; first | done | kernel_rfl)
                    · refine TC.skip ?_
                      refine TE.next ?_
                      refine TC.seq ?_
                      refine TC.region ?_
                      refine TL.run 1 [1] [(10, .pointer (some ⟨b3, 0, none⟩)), (231, .agg #[.int .i64 r5.1.Track.ID, .int .i64 r5.1.Track.State, .int .i64 r5.1.Track.Time, .int .i64 r7, .int .i64 r8, .int .i64 r12, .int .i64 r13, .int .i64 s.Height, .int .i64 r17, .int .i64 (w64 (r9 + 2)), .int .i64 s.Code, .int .i64 (w64 (r5.1.Track.Hits + 1)), .int .i64 0, .int .i64 (w64 (r15 + 2)), .int .i64 s.Time, .int .i64 s.At.X, .int .i64 s.At.Y, .int .i64 s.Height, .int .i64 s.Code, .int .i64 s.Error])] rfl ⟨by kernel_rfl, by kernel_rfl⟩ ?_
                      refine TL.write 4 (fun _ => [(10, .pointer (some ⟨b3, 0, none⟩))]) (fun _ => [.inl (b7, .cells #[.int .i64 r10, .int .i64 r11] 23 (0, 0)), .inl (b6, .cells #[.int .i64 r5.1.Track.ID, .int .i64 r5.1.Track.State, .int .i64 r5.1.Track.Time, .int .i64 r7, .int .i64 r8, .int .i64 r12, .int .i64 r13, .int .i64 s.Height, .int .i64 r17, .int .i64 (w64 (r9 + 2)), .int .i64 s.Code, .int .i64 (w64 (r5.1.Track.Hits + 1)), .int .i64 0, .int .i64 (w64 (r15 + 2)), .int .i64 s.Time, .int .i64 s.At.X, .int .i64 s.At.Y, .int .i64 s.Height, .int .i64 s.Code, .int .i64 s.Error] 29 (0, 0)), .inl (b5, .cells (FilterTrack.c r5.1) 29 (0, 0)), .inl (b4, .cells (FilterTrack.c FilterTrack.zero) 29 (0, 0)), .inl (b3, .cells #[.int .i64 r5.1.Track.ID, .int .i64 r5.1.Track.State, .int .i64 r5.1.Track.Time, .int .i64 r7, .int .i64 r8, .int .i64 r12, .int .i64 r13, .int .i64 s.Height, .int .i64 r17, .int .i64 (w64 (r9 + 2)), .int .i64 s.Code, .int .i64 (w64 (r5.1.Track.Hits + 1)), .int .i64 0, .int .i64 (w64 (r15 + 2)), .int .i64 s.Time, .int .i64 s.At.X, .int .i64 s.At.Y, .int .i64 s.Height, .int .i64 s.Code, .int .i64 s.Error] 29 (0, 0)), .inl (b2, .cells (Spot.c s) 27 (0, 0)), .inl (b1, .cells (FilterTrack.c f) 29 (0, 0))]) (fun _ => ⟨by kernel_rfl, by kernel_rfl⟩) (fun _ => ?_)
                      refine TL.run 3 [] [(10, .pointer (some ⟨b3, 0, none⟩)), (11, .int .i64 0)] rfl ⟨by kernel_rfl, by kernel_rfl⟩ ?_
                      refine TL.next rfl ?_
                      refine TC.ret ?_
                      have e : filter_Update f s accel place speed = ((⟨⟨r5.1.Track.ID, r5.1.Track.State, r5.1.Track.Time, ⟨r7, r8⟩, ⟨r12, r13⟩, s.Height, r17, w64 (r9 + 2), s.Code, w64 (r5.1.Track.Hits + 1), 0⟩, w64 (r15 + 2), s⟩ : FilterTrack), 0) := by subst hr1 hr2 hr3 hr4 hr5 hr6 hr7 hr8 hr9 hr10 hr11 hr12 hr13 hr14 hr15 hr16 hr17 hr18; unfold filter_Update; exact cond_f h1 (cond_f h2 (cond_f h3 (cond_f h4 (cond_f h5 (cond_f h6 (cond_f h7 (cond_t h8 (cond_f h9 (rfl)))))))))
                      exact TE.ret [4] (.tuple #[.agg #[.int .i64 r5.1.Track.ID, .int .i64 r5.1.Track.State, .int .i64 r5.1.Track.Time, .int .i64 r7, .int .i64 r8, .int .i64 r12, .int .i64 r13, .int .i64 s.Height, .int .i64 r17, .int .i64 (w64 (r9 + 2)), .int .i64 s.Code, .int .i64 (w64 (r5.1.Track.Hits + 1)), .int .i64 0, .int .i64 (w64 (r15 + 2)), .int .i64 s.Time, .int .i64 s.At.X, .int .i64 s.At.Y, .int .i64 s.Height, .int .i64 s.Code, .int .i64 s.Error], .int .i64 0]) ⟨by kernel_rfl, by kernel_rfl⟩ (by rw [e]; first | done | kernel_rfl)
                  · refine TC.skip ?_
                    refine TE.next ?_
                    refine TC.seq ?_
                    refine TC.region ?_
                    refine TL.run 7 [1] [(6, .pointer (some ⟨b2, 0, none⟩)), (10, .pointer (some ⟨b3, 0, none⟩)), (12, .pointer (some ⟨b4, 0, none⟩)), (18, .pointer (some ⟨b6, 0, none⟩)), (19, .pointer (some ⟨b6, 0, none⟩)), (219, .int .i64 (w64 (r5.1.Track.Hits + 1))), (221, .pointer (some ⟨b6, 11, none⟩))] rfl ⟨by kernel_rfl, by kernel_rfl⟩ ?_
                    refine TL.write 1 (fun _ => [(6, .pointer (some ⟨b2, 0, none⟩)), (10, .pointer (some ⟨b3, 0, none⟩)), (12, .pointer (some ⟨b4, 0, none⟩)), (18, .pointer (some ⟨b6, 0, none⟩)), (19, .pointer (some ⟨b6, 0, none⟩))]) (fun _ => [.inl (b7, .cells #[.int .i64 r10, .int .i64 r11] 23 (0, 0)), .inl (b6, .cells #[.int .i64 r5.1.Track.ID, .int .i64 r5.1.Track.State, .int .i64 r5.1.Track.Time, .int .i64 r7, .int .i64 r8, .int .i64 r12, .int .i64 r13, .int .i64 s.Height, .int .i64 r17, .int .i64 (w64 (r9 + 2)), .int .i64 r5.1.Track.Code, .int .i64 (w64 (r5.1.Track.Hits + 1)), .int .i64 r5.1.Track.Misses, .int .i64 (w64 (r15 + 2)), .int .i64 r5.1.Last.Time, .int .i64 r5.1.Last.At.X, .int .i64 r5.1.Last.At.Y, .int .i64 r5.1.Last.Height, .int .i64 r5.1.Last.Code, .int .i64 r5.1.Last.Error] 29 (0, 0)), .inl (b5, .cells (FilterTrack.c r5.1) 29 (0, 0)), .inl (b4, .cells (FilterTrack.c FilterTrack.zero) 29 (0, 0)), .inl (b3, .cells (FilterTrack.c FilterTrack.zero) 29 (0, 0)), .inl (b2, .cells (Spot.c s) 27 (0, 0)), .inl (b1, .cells (FilterTrack.c f) 29 (0, 0))]) (fun _ => ⟨by kernel_rfl, by kernel_rfl⟩) (fun _ => ?_)
                    refine TL.next rfl ?_
                    refine TC.seq ?_
                    refine TC.region ?_
                    refine TL.run 3 [] [(6, .pointer (some ⟨b2, 0, none⟩)), (10, .pointer (some ⟨b3, 0, none⟩)), (12, .pointer (some ⟨b4, 0, none⟩)), (18, .pointer (some ⟨b6, 0, none⟩)), (224, .pointer (some ⟨b6, 12, none⟩))] rfl ⟨by kernel_rfl, by kernel_rfl⟩ ?_
                    refine TL.write 1 (fun _ => [(6, .pointer (some ⟨b2, 0, none⟩)), (10, .pointer (some ⟨b3, 0, none⟩)), (12, .pointer (some ⟨b4, 0, none⟩)), (18, .pointer (some ⟨b6, 0, none⟩))]) (fun _ => [.inl (b7, .cells #[.int .i64 r10, .int .i64 r11] 23 (0, 0)), .inl (b6, .cells #[.int .i64 r5.1.Track.ID, .int .i64 r5.1.Track.State, .int .i64 r5.1.Track.Time, .int .i64 r7, .int .i64 r8, .int .i64 r12, .int .i64 r13, .int .i64 s.Height, .int .i64 r17, .int .i64 (w64 (r9 + 2)), .int .i64 r5.1.Track.Code, .int .i64 (w64 (r5.1.Track.Hits + 1)), .int .i64 0, .int .i64 (w64 (r15 + 2)), .int .i64 r5.1.Last.Time, .int .i64 r5.1.Last.At.X, .int .i64 r5.1.Last.At.Y, .int .i64 r5.1.Last.Height, .int .i64 r5.1.Last.Code, .int .i64 r5.1.Last.Error] 29 (0, 0)), .inl (b5, .cells (FilterTrack.c r5.1) 29 (0, 0)), .inl (b4, .cells (FilterTrack.c FilterTrack.zero) 29 (0, 0)), .inl (b3, .cells (FilterTrack.c FilterTrack.zero) 29 (0, 0)), .inl (b2, .cells (Spot.c s) 27 (0, 0)), .inl (b1, .cells (FilterTrack.c f) 29 (0, 0))]) (fun _ => ⟨by kernel_rfl, by kernel_rfl⟩) (fun _ => ?_)
                    refine TL.next rfl ?_
                    refine TC.seq ?_
                    refine TC.region ?_
                    refine TL.run 2 [5] [(10, .pointer (some ⟨b3, 0, none⟩)), (12, .pointer (some ⟨b4, 0, none⟩)), (18, .pointer (some ⟨b6, 0, none⟩)), (225, Spot.v s), (226, .pointer (some ⟨b6, 14, none⟩))] rfl ⟨by kernel_rfl, by kernel_rfl⟩ ?_
                    refine TL.write 1 (fun _ => [(10, .pointer (some ⟨b3, 0, none⟩)), (12, .pointer (some ⟨b4, 0, none⟩)), (18, .pointer (some ⟨b6, 0, none⟩))]) (fun _ => [.inl (b7, .cells #[.int .i64 r10, .int .i64 r11] 23 (0, 0)), .inl (b6, .cells #[.int .i64 r5.1.Track.ID, .int .i64 r5.1.Track.State, .int .i64 r5.1.Track.Time, .int .i64 r7, .int .i64 r8, .int .i64 r12, .int .i64 r13, .int .i64 s.Height, .int .i64 r17, .int .i64 (w64 (r9 + 2)), .int .i64 r5.1.Track.Code, .int .i64 (w64 (r5.1.Track.Hits + 1)), .int .i64 0, .int .i64 (w64 (r15 + 2)), .int .i64 s.Time, .int .i64 s.At.X, .int .i64 s.At.Y, .int .i64 s.Height, .int .i64 s.Code, .int .i64 s.Error] 29 (0, 0)), .inl (b5, .cells (FilterTrack.c r5.1) 29 (0, 0)), .inl (b4, .cells (FilterTrack.c FilterTrack.zero) 29 (0, 0)), .inl (b3, .cells (FilterTrack.c FilterTrack.zero) 29 (0, 0)), .inl (b2, .cells (Spot.c s) 27 (0, 0)), .inl (b1, .cells (FilterTrack.c f) 29 (0, 0))]) (fun _ => ⟨by kernel_rfl, by kernel_rfl⟩) (fun _ => ?_)
                    refine TL.next rfl ?_
                    refine TC.seq ?_
                    refine TC.seq ?_
                    refine TC.region ?_
                    refine TL.run 1 [1] [(10, .pointer (some ⟨b3, 0, none⟩)), (12, .pointer (some ⟨b4, 0, none⟩)), (18, .pointer (some ⟨b6, 0, none⟩)), (227, .agg #[.int .i64 r5.1.Track.ID, .int .i64 r5.1.Track.State, .int .i64 r5.1.Track.Time, .int .i64 r7, .int .i64 r8, .int .i64 r12, .int .i64 r13, .int .i64 s.Height, .int .i64 r17, .int .i64 (w64 (r9 + 2)), .int .i64 r5.1.Track.Code, .int .i64 (w64 (r5.1.Track.Hits + 1)), .int .i64 0, .int .i64 (w64 (r15 + 2)), .int .i64 s.Time, .int .i64 s.At.X, .int .i64 s.At.Y, .int .i64 s.Height, .int .i64 s.Code, .int .i64 s.Error])] rfl ⟨by kernel_rfl, by kernel_rfl⟩ ?_
                    refine TL.call (some 228) [(10, .pointer (some ⟨b3, 0, none⟩)), (12, .pointer (some ⟨b4, 0, none⟩)), (18, .pointer (some ⟨b6, 0, none⟩)), (228, .int .i64 (filter_Check (⟨⟨r5.1.Track.ID, r5.1.Track.State, r5.1.Track.Time, ⟨r7, r8⟩, ⟨r12, r13⟩, s.Height, r17, w64 (r9 + 2), r5.1.Track.Code, w64 (r5.1.Track.Hits + 1), 0⟩, w64 (r15 + 2), s⟩ : FilterTrack)))] (fun w _ => filter_Check_w (⟨⟨r5.1.Track.ID, r5.1.Track.State, r5.1.Track.Time, ⟨r7, r8⟩, ⟨r12, r13⟩, s.Height, r17, w64 (r9 + 2), r5.1.Track.Code, w64 (r5.1.Track.Hits + 1), 0⟩, w64 (r15 + 2), s⟩ : FilterTrack) w) (by kernel_rfl) (by kernel_rfl) ?_
                    generalize hr19 : filter_Check (⟨⟨r5.1.Track.ID, r5.1.Track.State, r5.1.Track.Time, ⟨r7, r8⟩, ⟨r12, r13⟩, s.Height, r17, w64 (r9 + 2), r5.1.Track.Code, w64 (r5.1.Track.Hits + 1), 0⟩, w64 (r15 + 2), s⟩ : FilterTrack) = r19
                    refine TL.run 3 [] [(10, .pointer (some ⟨b3, 0, none⟩)), (12, .pointer (some ⟨b4, 0, none⟩)), (18, .pointer (some ⟨b6, 0, none⟩)), (229, .bool (r19 != 0))] rfl ⟨by kernel_rfl, by kernel_rfl⟩ ?_
                    refine TL.next rfl ?_
                    refine TC.cond (r19 != 0) rfl (by kernel_rfl) (fun h10 => ?_) (fun h10 => ?_)
                    · refine TC.seq ?_
                      refine TC.region ?_
                      refine TL.run 1 [3] [(10, .pointer (some ⟨b3, 0, none⟩)), (230, .agg #[.int .i64 0, .int .i64 0, .int .i64 0, .int .i64 0, .int .i64 0, .int .i64 0, .int .i64 0, .int .i64 0, .int .i64 0, .int .i64 0, .int .i64 0, .int .i64 0, .int .i64 0, .int .i64 0, .int .i64 0, .int .i64 0, .int .i64 0, .int .i64 0, .int .i64 0, .int .i64 0])] rfl ⟨by kernel_rfl, by kernel_rfl⟩ ?_
                      refine TL.write 4 (fun _ => [(10, .pointer (some ⟨b3, 0, none⟩))]) (fun _ => [.inl (b7, .cells #[.int .i64 r10, .int .i64 r11] 23 (0, 0)), .inl (b6, .cells #[.int .i64 r5.1.Track.ID, .int .i64 r5.1.Track.State, .int .i64 r5.1.Track.Time, .int .i64 r7, .int .i64 r8, .int .i64 r12, .int .i64 r13, .int .i64 s.Height, .int .i64 r17, .int .i64 (w64 (r9 + 2)), .int .i64 r5.1.Track.Code, .int .i64 (w64 (r5.1.Track.Hits + 1)), .int .i64 0, .int .i64 (w64 (r15 + 2)), .int .i64 s.Time, .int .i64 s.At.X, .int .i64 s.At.Y, .int .i64 s.Height, .int .i64 s.Code, .int .i64 s.Error] 29 (0, 0)), .inl (b5, .cells (FilterTrack.c r5.1) 29 (0, 0)), .inl (b4, .cells (FilterTrack.c FilterTrack.zero) 29 (0, 0)), .inl (b3, .cells (FilterTrack.c FilterTrack.zero) 29 (0, 0)), .inl (b2, .cells (Spot.c s) 27 (0, 0)), .inl (b1, .cells (FilterTrack.c f) 29 (0, 0))]) (fun _ => ⟨by kernel_rfl, by kernel_rfl⟩) (fun _ => ?_)
                      refine TL.run 3 [] [(10, .pointer (some ⟨b3, 0, none⟩)), (11, .int .i64 8)] rfl ⟨by kernel_rfl, by kernel_rfl⟩ ?_
                      refine TL.next rfl ?_
                      refine TC.ret ?_
                      refine TE.ret_then ?_
                      have e : filter_Update f s accel place speed = ((⟨⟨0, 0, 0, ⟨0, 0⟩, ⟨0, 0⟩, 0, 0, 0, 0, 0, 0⟩, 0, ⟨0, ⟨0, 0⟩, 0, 0, 0⟩⟩ : FilterTrack), 8) := by subst hr1 hr2 hr3 hr4 hr5 hr6 hr7 hr8 hr9 hr10 hr11 hr12 hr13 hr14 hr15 hr16 hr17 hr19; unfold filter_Update; exact cond_f h1 (cond_f h2 (cond_f h3 (cond_f h4 (cond_f h5 (cond_f h6 (cond_f h7 (cond_f h8 (cond_t h10 (rfl)))))))))
                      exact TE.ret [4] (.tuple #[.agg #[.int .i64 0, .int .i64 0, .int .i64 0, .int .i64 0, .int .i64 0, .int .i64 0, .int .i64 0, .int .i64 0, .int .i64 0, .int .i64 0, .int .i64 0, .int .i64 0, .int .i64 0, .int .i64 0, .int .i64 0, .int .i64 0, .int .i64 0, .int .i64 0, .int .i64 0, .int .i64 0], .int .i64 8]) ⟨by kernel_rfl, by kernel_rfl⟩ (by rw [e]; first | done | kernel_rfl)
                    · refine TC.skip ?_
                      refine TE.next ?_
                      refine TC.seq ?_
                      refine TC.region ?_
                      refine TL.run 1 [1] [(10, .pointer (some ⟨b3, 0, none⟩)), (231, .agg #[.int .i64 r5.1.Track.ID, .int .i64 r5.1.Track.State, .int .i64 r5.1.Track.Time, .int .i64 r7, .int .i64 r8, .int .i64 r12, .int .i64 r13, .int .i64 s.Height, .int .i64 r17, .int .i64 (w64 (r9 + 2)), .int .i64 r5.1.Track.Code, .int .i64 (w64 (r5.1.Track.Hits + 1)), .int .i64 0, .int .i64 (w64 (r15 + 2)), .int .i64 s.Time, .int .i64 s.At.X, .int .i64 s.At.Y, .int .i64 s.Height, .int .i64 s.Code, .int .i64 s.Error])] rfl ⟨by kernel_rfl, by kernel_rfl⟩ ?_
                      refine TL.write 4 (fun _ => [(10, .pointer (some ⟨b3, 0, none⟩))]) (fun _ => [.inl (b7, .cells #[.int .i64 r10, .int .i64 r11] 23 (0, 0)), .inl (b6, .cells #[.int .i64 r5.1.Track.ID, .int .i64 r5.1.Track.State, .int .i64 r5.1.Track.Time, .int .i64 r7, .int .i64 r8, .int .i64 r12, .int .i64 r13, .int .i64 s.Height, .int .i64 r17, .int .i64 (w64 (r9 + 2)), .int .i64 r5.1.Track.Code, .int .i64 (w64 (r5.1.Track.Hits + 1)), .int .i64 0, .int .i64 (w64 (r15 + 2)), .int .i64 s.Time, .int .i64 s.At.X, .int .i64 s.At.Y, .int .i64 s.Height, .int .i64 s.Code, .int .i64 s.Error] 29 (0, 0)), .inl (b5, .cells (FilterTrack.c r5.1) 29 (0, 0)), .inl (b4, .cells (FilterTrack.c FilterTrack.zero) 29 (0, 0)), .inl (b3, .cells #[.int .i64 r5.1.Track.ID, .int .i64 r5.1.Track.State, .int .i64 r5.1.Track.Time, .int .i64 r7, .int .i64 r8, .int .i64 r12, .int .i64 r13, .int .i64 s.Height, .int .i64 r17, .int .i64 (w64 (r9 + 2)), .int .i64 r5.1.Track.Code, .int .i64 (w64 (r5.1.Track.Hits + 1)), .int .i64 0, .int .i64 (w64 (r15 + 2)), .int .i64 s.Time, .int .i64 s.At.X, .int .i64 s.At.Y, .int .i64 s.Height, .int .i64 s.Code, .int .i64 s.Error] 29 (0, 0)), .inl (b2, .cells (Spot.c s) 27 (0, 0)), .inl (b1, .cells (FilterTrack.c f) 29 (0, 0))]) (fun _ => ⟨by kernel_rfl, by kernel_rfl⟩) (fun _ => ?_)
                      refine TL.run 3 [] [(10, .pointer (some ⟨b3, 0, none⟩)), (11, .int .i64 0)] rfl ⟨by kernel_rfl, by kernel_rfl⟩ ?_
                      refine TL.next rfl ?_
                      refine TC.ret ?_
                      have e : filter_Update f s accel place speed = ((⟨⟨r5.1.Track.ID, r5.1.Track.State, r5.1.Track.Time, ⟨r7, r8⟩, ⟨r12, r13⟩, s.Height, r17, w64 (r9 + 2), r5.1.Track.Code, w64 (r5.1.Track.Hits + 1), 0⟩, w64 (r15 + 2), s⟩ : FilterTrack), 0) := by subst hr1 hr2 hr3 hr4 hr5 hr6 hr7 hr8 hr9 hr10 hr11 hr12 hr13 hr14 hr15 hr16 hr17 hr19; unfold filter_Update; exact cond_f h1 (cond_f h2 (cond_f h3 (cond_f h4 (cond_f h5 (cond_f h6 (cond_f h7 (cond_f h8 (cond_f h10 (rfl)))))))))
                      exact TE.ret [4] (.tuple #[.agg #[.int .i64 r5.1.Track.ID, .int .i64 r5.1.Track.State, .int .i64 r5.1.Track.Time, .int .i64 r7, .int .i64 r8, .int .i64 r12, .int .i64 r13, .int .i64 s.Height, .int .i64 r17, .int .i64 (w64 (r9 + 2)), .int .i64 r5.1.Track.Code, .int .i64 (w64 (r5.1.Track.Hits + 1)), .int .i64 0, .int .i64 (w64 (r15 + 2)), .int .i64 s.Time, .int .i64 s.At.X, .int .i64 s.At.Y, .int .i64 s.Height, .int .i64 s.Code, .int .i64 s.Error], .int .i64 0]) ⟨by kernel_rfl, by kernel_rfl⟩ (by rw [e]; first | done | kernel_rfl)

def filter_Contains (f : FilterTrack) (p : P) : Bool × Int :=
  let r1 := filter_Check f
  cond (r1 != 0) (
    (false, r1)) (
    let r2 := plane_Check p
    cond (r2 != 0) (
      (false, r2)) (
      let r3 := plane_Within f.Track.At p f.Track.Radius
      (r3, 0)))

set_option maxRecDepth 100000 in
theorem filter_Contains_w (f : FilterTrack) (p : P) (w : World) : Calls Try.prog 34 #[FilterTrack.v f, P.v p] w (Ret w (.tuple #[.bool ((filter_Contains f p).1), .int .i64 ((filter_Contains f p).2)])) := by
  refine calls_intro (vs := [FilterTrack.v f, P.v p]) (w := w) Try.func34 rfl Try.ntmps34 rfl ?_
  refine TC.weak [(0, FilterTrack.v f), (1, P.v p)] (by kernel_rfl) ?_
  refine TC.seq ?_
  refine TC.region ?_
  refine TL.write 0 (fun b1 => [(1, P.v p), (2, .pointer (some ⟨b1, 0, none⟩))]) (fun b1 => [.inl (b1, .cells (FilterTrack.c f) 29 (0, 0))]) (fun b1 => ⟨by kernel_rfl, by kernel_rfl⟩) (fun b1 => ?_)
  refine TL.write 0 (fun b2 => [(2, .pointer (some ⟨b1, 0, none⟩)), (3, .pointer (some ⟨b2, 0, none⟩))]) (fun b2 => [.inl (b2, .cells (P.c p) 23 (0, 0)), .inl (b1, .cells (FilterTrack.c f) 29 (0, 0))]) (fun b2 => ⟨by kernel_rfl, by kernel_rfl⟩) (fun b2 => ?_)
  refine TL.run 4 [] [(2, .pointer (some ⟨b1, 0, none⟩)), (3, .pointer (some ⟨b2, 0, none⟩))] rfl ⟨by kernel_rfl, by kernel_rfl⟩ ?_
  refine TL.next rfl ?_
  refine TC.seq ?_
  refine TC.seq ?_
  refine TC.region ?_
  refine TL.run 1 [1] [(2, .pointer (some ⟨b1, 0, none⟩)), (3, .pointer (some ⟨b2, 0, none⟩)), (8, FilterTrack.v f)] rfl ⟨by kernel_rfl, by kernel_rfl⟩ ?_
  refine TL.call (some 9) [(2, .pointer (some ⟨b1, 0, none⟩)), (3, .pointer (some ⟨b2, 0, none⟩)), (9, .int .i64 (filter_Check f))] (fun w _ => filter_Check_w f w) (by kernel_rfl) (by kernel_rfl) ?_
  generalize hr1 : filter_Check f = r1
  refine TL.run 3 [] [(2, .pointer (some ⟨b1, 0, none⟩)), (3, .pointer (some ⟨b2, 0, none⟩)), (6, .int .i64 r1)] rfl ⟨by kernel_rfl, by kernel_rfl⟩ ?_
  refine TL.next rfl ?_
  refine TC.seq ?_
  refine TC.region ?_
  refine TL.run 2 [] [(2, .pointer (some ⟨b1, 0, none⟩)), (3, .pointer (some ⟨b2, 0, none⟩)), (6, .int .i64 r1), (11, .bool (r1 != 0))] rfl ⟨by kernel_rfl, by kernel_rfl⟩ ?_
  refine TL.next rfl ?_
  refine TC.cond (r1 != 0) rfl (by kernel_rfl) (fun h1 => ?_) (fun h1 => ?_)
  · refine TC.seq ?_
    refine TC.region ?_
    refine TL.run 3 [] [(4, .bool false), (5, .int .i64 r1)] rfl ⟨by kernel_rfl, by kernel_rfl⟩ ?_
    refine TL.next rfl ?_
    refine TC.ret ?_
    refine TE.ret_then ?_
    have e : filter_Contains f p = (false, r1) := by subst hr1; unfold filter_Contains; exact cond_t h1 (rfl)
    exact TE.ret [] (.tuple #[.bool false, .int .i64 r1]) ⟨by kernel_rfl, by kernel_rfl⟩ (by rw [e]; first | done | kernel_rfl)
  · refine TC.skip ?_
    refine TE.next ?_
    refine TC.seq ?_
    refine TC.seq ?_
    refine TC.region ?_
    refine TL.run 1 [0] [(2, .pointer (some ⟨b1, 0, none⟩)), (3, .pointer (some ⟨b2, 0, none⟩)), (13, P.v p)] rfl ⟨by kernel_rfl, by kernel_rfl⟩ ?_
    refine TL.call (some 14) [(2, .pointer (some ⟨b1, 0, none⟩)), (3, .pointer (some ⟨b2, 0, none⟩)), (14, .int .i64 (plane_Check p))] (fun w _ => plane_Check_w p w) (by kernel_rfl) (by kernel_rfl) ?_
    generalize hr2 : plane_Check p = r2
    refine TL.run 3 [] [(2, .pointer (some ⟨b1, 0, none⟩)), (3, .pointer (some ⟨b2, 0, none⟩)), (7, .int .i64 r2)] rfl ⟨by kernel_rfl, by kernel_rfl⟩ ?_
    refine TL.next rfl ?_
    refine TC.seq ?_
    refine TC.region ?_
    refine TL.run 2 [] [(2, .pointer (some ⟨b1, 0, none⟩)), (3, .pointer (some ⟨b2, 0, none⟩)), (7, .int .i64 r2), (16, .bool (r2 != 0))] rfl ⟨by kernel_rfl, by kernel_rfl⟩ ?_
    refine TL.next rfl ?_
    refine TC.cond (r2 != 0) rfl (by kernel_rfl) (fun h2 => ?_) (fun h2 => ?_)
    · refine TC.seq ?_
      refine TC.region ?_
      refine TL.run 3 [] [(4, .bool false), (5, .int .i64 r2)] rfl ⟨by kernel_rfl, by kernel_rfl⟩ ?_
      refine TL.next rfl ?_
      refine TC.ret ?_
      refine TE.ret_then ?_
      have e : filter_Contains f p = (false, r2) := by subst hr1 hr2; unfold filter_Contains; exact cond_f h1 (cond_t h2 (rfl))
      exact TE.ret [] (.tuple #[.bool false, .int .i64 r2]) ⟨by kernel_rfl, by kernel_rfl⟩ (by rw [e]; first | done | kernel_rfl)
    · refine TC.skip ?_
      refine TE.next ?_
      refine TC.seq ?_
      refine TC.region ?_
      refine TL.run 7 [1, 0, 1] [(20, P.v f.Track.At), (21, P.v p), (24, .int .i64 f.Track.Radius)] rfl ⟨by kernel_rfl, by kernel_rfl⟩ ?_
      refine TL.call (some 25) [(25, .bool ((plane_Within f.Track.At p f.Track.Radius)))] (fun w _ => plane_Within_w f.Track.At p f.Track.Radius w) (by kernel_rfl) (by kernel_rfl) ?_
      generalize hr3 : plane_Within f.Track.At p f.Track.Radius = r3
      refine TL.run 10 [] [(4, .bool r3), (5, .int .i64 0)] rfl ⟨by kernel_rfl, by kernel_rfl⟩ ?_
      refine TL.next rfl ?_
      refine TC.ret ?_
      have e : filter_Contains f p = (r3, 0) := by subst hr1 hr2 hr3; unfold filter_Contains; exact cond_f h1 (cond_f h2 (rfl))
      exact TE.ret [] (.tuple #[.bool r3, .int .i64 0]) ⟨by kernel_rfl, by kernel_rfl⟩ (by rw [e]; first | done | kernel_rfl)

def skywaykeep2_begins : Bool :=
  let r1 := filter_Begin (⟨0, ⟨7, 0⟩, 0, 0, 9⟩ : Spot)
  (((r1.2 == 0) && (r1.1.Track.At.X == 7)) && (r1.1.Track.Radius == 9)) && (r1.1.Slack == 6400)

set_option maxRecDepth 100000 in
theorem skywaykeep2_begins_w (w : World) : Calls Try.prog 22 #[] w (Ret w (.bool (skywaykeep2_begins))) := by
  refine calls_intro (vs := []) (w := w) Try.func22 rfl Try.ntmps22 rfl ?_
  refine TC.weak [] (by kernel_rfl) ?_
  refine TC.seq ?_
  refine TC.region ?_
  refine TL.run 1 [] [] rfl ⟨by kernel_rfl, by kernel_rfl⟩ ?_
  refine TL.next rfl ?_
  refine TC.seq ?_
  refine TC.region ?_
  refine TL.run 2 [] [(5, .agg #[.int .i64 0, .int .i64 7, .int .i64 0, .int .i64 0, .int .i64 0, .int .i64 9])] rfl ⟨by kernel_rfl, by kernel_rfl⟩ ?_
  refine TL.call (some 6) [(6, .tuple #[FilterTrack.v ((filter_Begin (⟨0, ⟨7, 0⟩, 0, 0, 9⟩ : Spot)).1), .int .i64 ((filter_Begin (⟨0, ⟨7, 0⟩, 0, 0, 9⟩ : Spot)).2)])] (fun w _ => filter_Begin_w (⟨0, ⟨7, 0⟩, 0, 0, 9⟩ : Spot) w) (by kernel_rfl) (by kernel_rfl) ?_
  generalize hr1 : filter_Begin (⟨0, ⟨7, 0⟩, 0, 0, 9⟩ : Spot) = r1
  refine TL.run 6 [] [(7, FilterTrack.v r1.1), (8, .int .i64 r1.2)] rfl ⟨by kernel_rfl, by kernel_rfl⟩ ?_
  refine TL.write 0 (fun b1 => [(1, .pointer (some ⟨b1, 0, none⟩)), (7, FilterTrack.v r1.1), (8, .int .i64 r1.2)]) (fun b1 => [.inl (b1, .cells (FilterTrack.c FilterTrack.zero) 29 (0, 0))]) (fun b1 => ⟨by kernel_rfl, by kernel_rfl⟩) (fun b1 => ?_)
  refine TL.write 0 (fun _ => [(1, .pointer (some ⟨b1, 0, none⟩)), (8, .int .i64 r1.2)]) (fun _ => [.inl (b1, .cells (FilterTrack.c r1.1) 29 (0, 0))]) (fun _ => ⟨by kernel_rfl, by kernel_rfl⟩) (fun _ => ?_)
  refine TL.run 9 [] [(1, .pointer (some ⟨b1, 0, none⟩)), (2, .int .i64 r1.2)] rfl ⟨by kernel_rfl, by kernel_rfl⟩ ?_
  refine TL.next rfl ?_
  refine TC.seq ?_
  refine TC.region ?_
  refine TL.run 3 [] [(1, .pointer (some ⟨b1, 0, none⟩)), (11, .bool (r1.2 == 0))] rfl ⟨by kernel_rfl, by kernel_rfl⟩ ?_
  refine TL.join 11 (r1.2 == 0) 9 [0] [] (fun β => [(1, .pointer (some ⟨b1, 0, none⟩)), (17, .bool (β && (r1.1.Track.At.X == 7)))]) (by kernel_rfl) rfl ⟨by kernel_rfl, by kernel_rfl⟩ ⟨by kernel_rfl, by kernel_rfl⟩ ?_
  refine TL.run 10 [] [(1, .pointer (some ⟨b1, 0, none⟩)), (18, .bool ((r1.2 == 0) && (r1.1.Track.At.X == 7)))] rfl ⟨by kernel_rfl, by kernel_rfl⟩ ?_
  refine TL.join 18 ((r1.2 == 0) && (r1.1.Track.At.X == 7)) 15 [0] [] (fun β => [(1, .pointer (some ⟨b1, 0, none⟩)), (23, .bool (β && (r1.1.Track.Radius == 9)))]) (by kernel_rfl) rfl ⟨by kernel_rfl, by kernel_rfl⟩ ⟨by kernel_rfl, by kernel_rfl⟩ ?_
  refine TL.run 16 [] [(1, .pointer (some ⟨b1, 0, none⟩)), (24, .bool (((r1.2 == 0) && (r1.1.Track.At.X == 7)) && (r1.1.Track.Radius == 9)))] rfl ⟨by kernel_rfl, by kernel_rfl⟩ ?_
  refine TL.join 24 (((r1.2 == 0) && (r1.1.Track.At.X == 7)) && (r1.1.Track.Radius == 9)) 20 [0] [] (fun β => [(28, .bool (β && (r1.1.Slack == 6400)))]) (by kernel_rfl) rfl ⟨by kernel_rfl, by kernel_rfl⟩ ⟨by kernel_rfl, by kernel_rfl⟩ ?_
  refine TL.run 21 [] [(0, .bool ((((r1.2 == 0) && (r1.1.Track.At.X == 7)) && (r1.1.Track.Radius == 9)) && (r1.1.Slack == 6400)))] rfl ⟨by kernel_rfl, by kernel_rfl⟩ ?_
  refine TL.next rfl ?_
  refine TC.ret ?_
  have e : skywaykeep2_begins = ((((r1.2 == 0) && (r1.1.Track.At.X == 7)) && (r1.1.Track.Radius == 9)) && (r1.1.Slack == 6400)) := by subst hr1; unfold skywaykeep2_begins; exact rfl
  exact TE.ret [] (.bool ((((r1.2 == 0) && (r1.1.Track.At.X == 7)) && (r1.1.Track.Radius == 9)) && (r1.1.Slack == 6400))) ⟨by kernel_rfl, by kernel_rfl⟩ (by rw [e]; first | done | kernel_rfl)

def skywaykeep2_FilterGains (f : FilterTrack) (s : Spot) (accel : Int) : Bool :=
  let r1 := skywaykeep2_begins
  cond (!r1) (
    false) (
    let r2 := filter_Update f s accel 256 256
    let r3 := filter_Update f s accel 0 0
    let r4 := filter_Predict f s.Time accel
    cond ((r2.2 != 0) || (r3.2 != 0)) (
      cond (FilterTrack.eqb r2.1 FilterTrack.zero) (
        true) (
        FilterTrack.eqb r3.1 FilterTrack.zero)) (
      cond (r4.2 == 0) (
        cond ((P.eqb r2.1.Track.At s.At) && (r2.1.Track.Radius == (w64 (s.Error + 2)))) (
          cond (P.eqb r3.1.Track.At r4.1.Track.At) (
            (P.eqb r3.1.Track.Speed r4.1.Track.Speed) && (r2.1.Track.Hits == r3.1.Track.Hits)) (
            false)) (
          false)) (
        false)))

set_option maxRecDepth 100000 in
theorem skywaykeep2_FilterGains_w (f : FilterTrack) (s : Spot) (accel : Int) (w : World) : Calls Try.prog 6 #[FilterTrack.v f, Spot.v s, .int .i64 accel] w (Ret w (.bool (skywaykeep2_FilterGains f s accel))) := by
  refine calls_intro (vs := [FilterTrack.v f, Spot.v s, .int .i64 accel]) (w := w) Try.func6 rfl Try.ntmps6 rfl ?_
  refine TC.weak [(0, FilterTrack.v f), (1, Spot.v s), (2, .int .i64 accel)] (by kernel_rfl) ?_
  refine TC.seq ?_
  refine TC.region ?_
  refine TL.write 0 (fun b1 => [(1, Spot.v s), (2, .int .i64 accel), (3, .pointer (some ⟨b1, 0, none⟩))]) (fun b1 => [.inl (b1, .cells (FilterTrack.c f) 29 (0, 0))]) (fun b1 => ⟨by kernel_rfl, by kernel_rfl⟩) (fun b1 => ?_)
  refine TL.write 0 (fun b2 => [(2, .int .i64 accel), (3, .pointer (some ⟨b1, 0, none⟩)), (4, .pointer (some ⟨b2, 0, none⟩))]) (fun b2 => [.inl (b2, .cells (Spot.c s) 27 (0, 0)), .inl (b1, .cells (FilterTrack.c f) 29 (0, 0))]) (fun b2 => ⟨by kernel_rfl, by kernel_rfl⟩) (fun b2 => ?_)
  refine TL.run 3 [] [(2, .int .i64 accel), (3, .pointer (some ⟨b1, 0, none⟩)), (4, .pointer (some ⟨b2, 0, none⟩))] rfl ⟨by kernel_rfl, by kernel_rfl⟩ ?_
  refine TL.next rfl ?_
  refine TC.seq ?_
  refine TC.seq ?_
  refine TC.region ?_
  refine TL.call (some 13) [(2, .int .i64 accel), (3, .pointer (some ⟨b1, 0, none⟩)), (4, .pointer (some ⟨b2, 0, none⟩)), (13, .bool ((skywaykeep2_begins)))] (fun w _ => skywaykeep2_begins_w w) (by kernel_rfl) (by kernel_rfl) ?_
  generalize hr1 : skywaykeep2_begins = r1
  refine TL.run 2 [] [(2, .int .i64 accel), (3, .pointer (some ⟨b1, 0, none⟩)), (4, .pointer (some ⟨b2, 0, none⟩)), (14, .bool (!r1))] rfl ⟨by kernel_rfl, by kernel_rfl⟩ ?_
  refine TL.next rfl ?_
  refine TC.cond (!r1) rfl (by kernel_rfl) (fun h1 => ?_) (fun h1 => ?_)
  · refine TC.seq ?_
    refine TC.region ?_
    refine TL.run 1 [] [(6, .bool false)] rfl ⟨by kernel_rfl, by kernel_rfl⟩ ?_
    refine TL.next rfl ?_
    refine TC.ret ?_
    refine TE.ret_then ?_
    have e : skywaykeep2_FilterGains f s accel = false := by subst hr1; unfold skywaykeep2_FilterGains; exact cond_t h1 (rfl)
    exact TE.ret [] (.bool false) ⟨by kernel_rfl, by kernel_rfl⟩ (by rw [e]; first | done | kernel_rfl)
  · refine TC.skip ?_
    refine TE.next ?_
    refine TC.seq ?_
    refine TC.region ?_
    refine TL.run 3 [1, 0] [(2, .int .i64 accel), (3, .pointer (some ⟨b1, 0, none⟩)), (4, .pointer (some ⟨b2, 0, none⟩)), (16, FilterTrack.v f), (17, Spot.v s), (18, .int .i64 accel)] rfl ⟨by kernel_rfl, by kernel_rfl⟩ ?_
    refine TL.call (some 19) [(2, .int .i64 accel), (3, .pointer (some ⟨b1, 0, none⟩)), (4, .pointer (some ⟨b2, 0, none⟩)), (19, .tuple #[FilterTrack.v ((filter_Update f s accel 256 256).1), .int .i64 ((filter_Update f s accel 256 256).2)])] (fun w _ => filter_Update_w f s accel 256 256 w) (by kernel_rfl) (by kernel_rfl) ?_
    generalize hr2 : filter_Update f s accel 256 256 = r2
    refine TL.run 7 [] [(2, .int .i64 accel), (3, .pointer (some ⟨b1, 0, none⟩)), (4, .pointer (some ⟨b2, 0, none⟩)), (20, FilterTrack.v r2.1), (21, .int .i64 r2.2)] rfl ⟨by kernel_rfl, by kernel_rfl⟩ ?_
    refine TL.write 0 (fun b3 => [(2, .int .i64 accel), (3, .pointer (some ⟨b1, 0, none⟩)), (4, .pointer (some ⟨b2, 0, none⟩)), (7, .pointer (some ⟨b3, 0, none⟩)), (20, FilterTrack.v r2.1), (21, .int .i64 r2.2)]) (fun b3 => [.inl (b3, .cells (FilterTrack.c FilterTrack.zero) 29 (0, 0)), .inl (b2, .cells (Spot.c s) 27 (0, 0)), .inl (b1, .cells (FilterTrack.c f) 29 (0, 0))]) (fun b3 => ⟨by kernel_rfl, by kernel_rfl⟩) (fun b3 => ?_)
    refine TL.write 0 (fun _ => [(2, .int .i64 accel), (3, .pointer (some ⟨b1, 0, none⟩)), (4, .pointer (some ⟨b2, 0, none⟩)), (7, .pointer (some ⟨b3, 0, none⟩)), (21, .int .i64 r2.2)]) (fun _ => [.inl (b3, .cells (FilterTrack.c r2.1) 29 (0, 0)), .inl (b2, .cells (Spot.c s) 27 (0, 0)), .inl (b1, .cells (FilterTrack.c f) 29 (0, 0))]) (fun _ => ⟨by kernel_rfl, by kernel_rfl⟩) (fun _ => ?_)
    refine TL.run 10 [] [(2, .int .i64 accel), (3, .pointer (some ⟨b1, 0, none⟩)), (4, .pointer (some ⟨b2, 0, none⟩)), (7, .pointer (some ⟨b3, 0, none⟩)), (8, .int .i64 r2.2)] rfl ⟨by kernel_rfl, by kernel_rfl⟩ ?_
    refine TL.next rfl ?_
    refine TC.seq ?_
    refine TC.region ?_
    refine TL.run 3 [2, 1] [(2, .int .i64 accel), (3, .pointer (some ⟨b1, 0, none⟩)), (4, .pointer (some ⟨b2, 0, none⟩)), (7, .pointer (some ⟨b3, 0, none⟩)), (8, .int .i64 r2.2), (23, FilterTrack.v f), (24, Spot.v s), (25, .int .i64 accel)] rfl ⟨by kernel_rfl, by kernel_rfl⟩ ?_
    refine TL.call (some 26) [(2, .int .i64 accel), (3, .pointer (some ⟨b1, 0, none⟩)), (4, .pointer (some ⟨b2, 0, none⟩)), (7, .pointer (some ⟨b3, 0, none⟩)), (8, .int .i64 r2.2), (26, .tuple #[FilterTrack.v ((filter_Update f s accel 0 0).1), .int .i64 ((filter_Update f s accel 0 0).2)])] (fun w _ => filter_Update_w f s accel 0 0 w) (by kernel_rfl) (by kernel_rfl) ?_
    generalize hr3 : filter_Update f s accel 0 0 = r3
    refine TL.run 7 [] [(2, .int .i64 accel), (3, .pointer (some ⟨b1, 0, none⟩)), (4, .pointer (some ⟨b2, 0, none⟩)), (7, .pointer (some ⟨b3, 0, none⟩)), (8, .int .i64 r2.2), (27, FilterTrack.v r3.1), (28, .int .i64 r3.2)] rfl ⟨by kernel_rfl, by kernel_rfl⟩ ?_
    refine TL.write 0 (fun b4 => [(2, .int .i64 accel), (3, .pointer (some ⟨b1, 0, none⟩)), (4, .pointer (some ⟨b2, 0, none⟩)), (7, .pointer (some ⟨b3, 0, none⟩)), (8, .int .i64 r2.2), (9, .pointer (some ⟨b4, 0, none⟩)), (27, FilterTrack.v r3.1), (28, .int .i64 r3.2)]) (fun b4 => [.inl (b4, .cells (FilterTrack.c FilterTrack.zero) 29 (0, 0)), .inl (b3, .cells (FilterTrack.c r2.1) 29 (0, 0)), .inl (b2, .cells (Spot.c s) 27 (0, 0)), .inl (b1, .cells (FilterTrack.c f) 29 (0, 0))]) (fun b4 => ⟨by kernel_rfl, by kernel_rfl⟩) (fun b4 => ?_)
    refine TL.write 0 (fun _ => [(2, .int .i64 accel), (3, .pointer (some ⟨b1, 0, none⟩)), (4, .pointer (some ⟨b2, 0, none⟩)), (7, .pointer (some ⟨b3, 0, none⟩)), (8, .int .i64 r2.2), (9, .pointer (some ⟨b4, 0, none⟩)), (28, .int .i64 r3.2)]) (fun _ => [.inl (b4, .cells (FilterTrack.c r3.1) 29 (0, 0)), .inl (b3, .cells (FilterTrack.c r2.1) 29 (0, 0)), .inl (b2, .cells (Spot.c s) 27 (0, 0)), .inl (b1, .cells (FilterTrack.c f) 29 (0, 0))]) (fun _ => ⟨by kernel_rfl, by kernel_rfl⟩) (fun _ => ?_)
    refine TL.run 10 [] [(2, .int .i64 accel), (3, .pointer (some ⟨b1, 0, none⟩)), (4, .pointer (some ⟨b2, 0, none⟩)), (7, .pointer (some ⟨b3, 0, none⟩)), (8, .int .i64 r2.2), (9, .pointer (some ⟨b4, 0, none⟩)), (10, .int .i64 r3.2)] rfl ⟨by kernel_rfl, by kernel_rfl⟩ ?_
    refine TL.next rfl ?_
    refine TC.seq ?_
    refine TC.region ?_
    refine TL.run 4 [3, 2] [(4, .pointer (some ⟨b2, 0, none⟩)), (7, .pointer (some ⟨b3, 0, none⟩)), (8, .int .i64 r2.2), (9, .pointer (some ⟨b4, 0, none⟩)), (10, .int .i64 r3.2), (30, FilterTrack.v f), (32, .int .i64 s.Time), (33, .int .i64 accel)] rfl ⟨by kernel_rfl, by kernel_rfl⟩ ?_
    refine TL.call (some 34) [(4, .pointer (some ⟨b2, 0, none⟩)), (7, .pointer (some ⟨b3, 0, none⟩)), (8, .int .i64 r2.2), (9, .pointer (some ⟨b4, 0, none⟩)), (10, .int .i64 r3.2), (34, .tuple #[FilterTrack.v ((filter_Predict f s.Time accel).1), .int .i64 ((filter_Predict f s.Time accel).2)])] (fun w _ => filter_Predict_w f s.Time accel w) (by kernel_rfl) (by kernel_rfl) ?_
    generalize hr4 : filter_Predict f s.Time accel = r4
    refine TL.run 8 [] [(4, .pointer (some ⟨b2, 0, none⟩)), (7, .pointer (some ⟨b3, 0, none⟩)), (8, .int .i64 r2.2), (9, .pointer (some ⟨b4, 0, none⟩)), (10, .int .i64 r3.2), (35, FilterTrack.v r4.1), (36, .int .i64 r4.2)] rfl ⟨by kernel_rfl, by kernel_rfl⟩ ?_
    refine TL.write 0 (fun b5 => [(4, .pointer (some ⟨b2, 0, none⟩)), (7, .pointer (some ⟨b3, 0, none⟩)), (8, .int .i64 r2.2), (9, .pointer (some ⟨b4, 0, none⟩)), (10, .int .i64 r3.2), (11, .pointer (some ⟨b5, 0, none⟩)), (35, FilterTrack.v r4.1), (36, .int .i64 r4.2)]) (fun b5 => [.inl (b5, .cells (FilterTrack.c FilterTrack.zero) 29 (0, 0)), .inl (b4, .cells (FilterTrack.c r3.1) 29 (0, 0)), .inl (b3, .cells (FilterTrack.c r2.1) 29 (0, 0)), .inl (b2, .cells (Spot.c s) 27 (0, 0)), .inl (b1, .cells (FilterTrack.c f) 29 (0, 0))]) (fun b5 => ⟨by kernel_rfl, by kernel_rfl⟩) (fun b5 => ?_)
    refine TL.write 0 (fun _ => [(4, .pointer (some ⟨b2, 0, none⟩)), (7, .pointer (some ⟨b3, 0, none⟩)), (8, .int .i64 r2.2), (9, .pointer (some ⟨b4, 0, none⟩)), (10, .int .i64 r3.2), (11, .pointer (some ⟨b5, 0, none⟩)), (36, .int .i64 r4.2)]) (fun _ => [.inl (b5, .cells (FilterTrack.c r4.1) 29 (0, 0)), .inl (b4, .cells (FilterTrack.c r3.1) 29 (0, 0)), .inl (b3, .cells (FilterTrack.c r2.1) 29 (0, 0)), .inl (b2, .cells (Spot.c s) 27 (0, 0)), .inl (b1, .cells (FilterTrack.c f) 29 (0, 0))]) (fun _ => ⟨by kernel_rfl, by kernel_rfl⟩) (fun _ => ?_)
    refine TL.run 11 [] [(4, .pointer (some ⟨b2, 0, none⟩)), (7, .pointer (some ⟨b3, 0, none⟩)), (8, .int .i64 r2.2), (9, .pointer (some ⟨b4, 0, none⟩)), (10, .int .i64 r3.2), (11, .pointer (some ⟨b5, 0, none⟩)), (12, .int .i64 r4.2)] rfl ⟨by kernel_rfl, by kernel_rfl⟩ ?_
    refine TL.next rfl ?_
    refine TC.seq ?_
    refine TC.seq ?_
    refine TC.region ?_
    refine TL.run 3 [] [(4, .pointer (some ⟨b2, 0, none⟩)), (7, .pointer (some ⟨b3, 0, none⟩)), (9, .pointer (some ⟨b4, 0, none⟩)), (10, .int .i64 r3.2), (11, .pointer (some ⟨b5, 0, none⟩)), (12, .int .i64 r4.2), (39, .bool (r2.2 != 0))] rfl ⟨by kernel_rfl, by kernel_rfl⟩ ?_
    refine TL.join 39 (r2.2 != 0) 6 [] [] (fun β => [(4, .pointer (some ⟨b2, 0, none⟩)), (7, .pointer (some ⟨b3, 0, none⟩)), (9, .pointer (some ⟨b4, 0, none⟩)), (11, .pointer (some ⟨b5, 0, none⟩)), (12, .int .i64 r4.2), (42, .bool (β || (r3.2 != 0)))]) (by kernel_rfl) rfl ⟨by kernel_rfl, by kernel_rfl⟩ ⟨by kernel_rfl, by kernel_rfl⟩ ?_
    refine TL.next rfl ?_
    refine TC.cond ((r2.2 != 0) || (r3.2 != 0)) rfl (by kernel_rfl) (fun h2 => ?_) (fun h2 => ?_)
    · refine TC.seq ?_
      refine TC.region ?_
      refine TL.run 2 [2] [(9, .pointer (some ⟨b4, 0, none⟩)), (43, FilterTrack.v r2.1), (44, FilterTrack.v FilterTrack.zero)] rfl ⟨by kernel_rfl, by kernel_rfl⟩ ?_
      refine TL.val (sV (do eqGuard .eql 29 (.tmp 43) (.tmp 44) (FilterTrack.v r2.1) (FilterTrack.v FilterTrack.zero); binOp .eql 29 (FilterTrack.v r2.1) (FilterTrack.v FilterTrack.zero))) (some 45) (.bool (FilterTrack.eqb r2.1 FilterTrack.zero)) [(9, .pointer (some ⟨b4, 0, none⟩)), (45, .bool (FilterTrack.eqb r2.1 FilterTrack.zero))] (fun w hM => run_eql (b := FilterTrack.eqb r2.1 FilterTrack.zero) (by kernel_rfl) (by kernel_rfl) w) (by kernel_rfl) (by kernel_rfl) ?_
      refine TL.run 4 [] [(9, .pointer (some ⟨b4, 0, none⟩)), (46, .bool (FilterTrack.eqb r2.1 FilterTrack.zero))] rfl ⟨by kernel_rfl, by kernel_rfl⟩ ?_
      refine TL.split 46 (FilterTrack.eqb r2.1 FilterTrack.zero) (by kernel_rfl) (fun h3 => ?_) (fun h3 => ?_)
      · refine TL.run 9 [] [(6, .bool true)] rfl ⟨by kernel_rfl, by kernel_rfl⟩ ?_
        refine TL.next rfl ?_
        refine TC.ret ?_
        refine TE.ret_then ?_
        have e : skywaykeep2_FilterGains f s accel = true := by subst hr1 hr2 hr3 hr4; unfold skywaykeep2_FilterGains; exact cond_f h1 (cond_t h2 (cond_t h3 (rfl)))
        exact TE.ret [] (.bool true) ⟨by kernel_rfl, by kernel_rfl⟩ (by rw [e]; first | done | kernel_rfl)
      · refine TL.run 6 [1] [(46, .bool false), (47, FilterTrack.v r3.1), (48, FilterTrack.v FilterTrack.zero)] rfl ⟨by kernel_rfl, by kernel_rfl⟩ ?_
        refine TL.val (sV (do eqGuard .eql 29 (.tmp 47) (.tmp 48) (FilterTrack.v r3.1) (FilterTrack.v FilterTrack.zero); binOp .eql 29 (FilterTrack.v r3.1) (FilterTrack.v FilterTrack.zero))) (some 49) (.bool (FilterTrack.eqb r3.1 FilterTrack.zero)) [(46, .bool false), (49, .bool (FilterTrack.eqb r3.1 FilterTrack.zero))] (fun w hM => run_eql (b := FilterTrack.eqb r3.1 FilterTrack.zero) (by kernel_rfl) (by kernel_rfl) w) (by kernel_rfl) (by kernel_rfl) ?_
        refine TL.run 9 [] [(6, .bool (FilterTrack.eqb r3.1 FilterTrack.zero))] rfl ⟨by kernel_rfl, by kernel_rfl⟩ ?_
        refine TL.next rfl ?_
        refine TC.ret ?_
        refine TE.ret_then ?_
        have e : skywaykeep2_FilterGains f s accel = (FilterTrack.eqb r3.1 FilterTrack.zero) := by subst hr1 hr2 hr3 hr4; unfold skywaykeep2_FilterGains; exact cond_f h1 (cond_t h2 (cond_f h3 (rfl)))
        exact TE.ret [] (.bool (FilterTrack.eqb r3.1 FilterTrack.zero)) ⟨by kernel_rfl, by kernel_rfl⟩ (by rw [e]; first | done | kernel_rfl)
    · refine TC.skip ?_
      refine TE.next ?_
      refine TC.seq ?_
      refine TC.region ?_
      refine TL.run 3 [] [(4, .pointer (some ⟨b2, 0, none⟩)), (7, .pointer (some ⟨b3, 0, none⟩)), (9, .pointer (some ⟨b4, 0, none⟩)), (11, .pointer (some ⟨b5, 0, none⟩)), (53, .bool (r4.2 == 0))] rfl ⟨by kernel_rfl, by kernel_rfl⟩ ?_
      refine TL.split 53 (r4.2 == 0) (by kernel_rfl) (fun h4 => ?_) (fun h4 => ?_)
      · refine TL.run 8 [2, 3] [(4, .pointer (some ⟨b2, 0, none⟩)), (7, .pointer (some ⟨b3, 0, none⟩)), (9, .pointer (some ⟨b4, 0, none⟩)), (11, .pointer (some ⟨b5, 0, none⟩)), (53, .bool true), (56, P.v r2.1.Track.At), (58, P.v s.At)] rfl ⟨by kernel_rfl, by kernel_rfl⟩ ?_
        refine TL.val (sV (do eqGuard .eql 23 (.tmp 56) (.tmp 58) (P.v r2.1.Track.At) (P.v s.At); binOp .eql 23 (P.v r2.1.Track.At) (P.v s.At))) (some 59) (.bool (P.eqb r2.1.Track.At s.At)) [(4, .pointer (some ⟨b2, 0, none⟩)), (7, .pointer (some ⟨b3, 0, none⟩)), (9, .pointer (some ⟨b4, 0, none⟩)), (11, .pointer (some ⟨b5, 0, none⟩)), (53, .bool true), (59, .bool (P.eqb r2.1.Track.At s.At))] (fun w hM => run_eql (b := P.eqb r2.1.Track.At s.At) (by kernel_rfl) (by kernel_rfl) w) (by kernel_rfl) (by kernel_rfl) ?_
        refine TL.run 11 [] [(4, .pointer (some ⟨b2, 0, none⟩)), (7, .pointer (some ⟨b3, 0, none⟩)), (9, .pointer (some ⟨b4, 0, none⟩)), (11, .pointer (some ⟨b5, 0, none⟩)), (61, .bool (P.eqb r2.1.Track.At s.At))] rfl ⟨by kernel_rfl, by kernel_rfl⟩ ?_
        refine TL.join 61 (P.eqb r2.1.Track.At s.At) 19 [2, 3] [] (fun β => [(7, .pointer (some ⟨b3, 0, none⟩)), (9, .pointer (some ⟨b4, 0, none⟩)), (11, .pointer (some ⟨b5, 0, none⟩)), (69, .bool (β && (r2.1.Track.Radius == (w64 (s.Error + 2)))))]) (by kernel_rfl) rfl ⟨by kernel_rfl, by kernel_rfl⟩ ⟨by kernel_rfl, by kernel_rfl⟩ ?_
        refine TL.run 20 [] [(7, .pointer (some ⟨b3, 0, none⟩)), (9, .pointer (some ⟨b4, 0, none⟩)), (11, .pointer (some ⟨b5, 0, none⟩)), (70, .bool ((P.eqb r2.1.Track.At s.At) && (r2.1.Track.Radius == (w64 (s.Error + 2)))))] rfl ⟨by kernel_rfl, by kernel_rfl⟩ ?_
        refine TL.split 70 ((P.eqb r2.1.Track.At s.At) && (r2.1.Track.Radius == (w64 (s.Error + 2)))) (by kernel_rfl) (fun h5 => ?_) (fun h5 => ?_)
        · refine TL.run 26 [1, 0] [(7, .pointer (some ⟨b3, 0, none⟩)), (9, .pointer (some ⟨b4, 0, none⟩)), (11, .pointer (some ⟨b5, 0, none⟩)), (70, .bool true), (73, P.v r3.1.Track.At), (76, P.v r4.1.Track.At)] rfl ⟨by kernel_rfl, by kernel_rfl⟩ ?_
          refine TL.val (sV (do eqGuard .eql 23 (.tmp 73) (.tmp 76) (P.v r3.1.Track.At) (P.v r4.1.Track.At); binOp .eql 23 (P.v r3.1.Track.At) (P.v r4.1.Track.At))) (some 77) (.bool (P.eqb r3.1.Track.At r4.1.Track.At)) [(7, .pointer (some ⟨b3, 0, none⟩)), (9, .pointer (some ⟨b4, 0, none⟩)), (11, .pointer (some ⟨b5, 0, none⟩)), (70, .bool true), (77, .bool (P.eqb r3.1.Track.At r4.1.Track.At))] (fun w hM => run_eql (b := P.eqb r3.1.Track.At r4.1.Track.At) (by kernel_rfl) (by kernel_rfl) w) (by kernel_rfl) (by kernel_rfl) ?_
          refine TL.run 29 [] [(7, .pointer (some ⟨b3, 0, none⟩)), (9, .pointer (some ⟨b4, 0, none⟩)), (11, .pointer (some ⟨b5, 0, none⟩)), (79, .bool (P.eqb r3.1.Track.At r4.1.Track.At))] rfl ⟨by kernel_rfl, by kernel_rfl⟩ ?_
          refine TL.split 79 (P.eqb r3.1.Track.At r4.1.Track.At) (by kernel_rfl) (fun h6 => ?_) (fun h6 => ?_)
          · refine TL.run 35 [1, 0] [(7, .pointer (some ⟨b3, 0, none⟩)), (9, .pointer (some ⟨b4, 0, none⟩)), (79, .bool true), (82, P.v r3.1.Track.Speed), (85, P.v r4.1.Track.Speed)] rfl ⟨by kernel_rfl, by kernel_rfl⟩ ?_
            refine TL.val (sV (do eqGuard .eql 23 (.tmp 82) (.tmp 85) (P.v r3.1.Track.Speed) (P.v r4.1.Track.Speed); binOp .eql 23 (P.v r3.1.Track.Speed) (P.v r4.1.Track.Speed))) (some 86) (.bool (P.eqb r3.1.Track.Speed r4.1.Track.Speed)) [(7, .pointer (some ⟨b3, 0, none⟩)), (9, .pointer (some ⟨b4, 0, none⟩)), (79, .bool true), (86, .bool (P.eqb r3.1.Track.Speed r4.1.Track.Speed))] (fun w hM => run_eql (b := P.eqb r3.1.Track.Speed r4.1.Track.Speed) (by kernel_rfl) (by kernel_rfl) w) (by kernel_rfl) (by kernel_rfl) ?_
            refine TL.run 38 [] [(7, .pointer (some ⟨b3, 0, none⟩)), (9, .pointer (some ⟨b4, 0, none⟩)), (88, .bool (P.eqb r3.1.Track.Speed r4.1.Track.Speed))] rfl ⟨by kernel_rfl, by kernel_rfl⟩ ?_
            refine TL.join 88 (P.eqb r3.1.Track.Speed r4.1.Track.Speed) 46 [2, 1] [] (fun β => [(96, .bool (β && (r2.1.Track.Hits == r3.1.Track.Hits)))]) (by kernel_rfl) rfl ⟨by kernel_rfl, by kernel_rfl⟩ ⟨by kernel_rfl, by kernel_rfl⟩ ?_
            refine TL.run 47 [] [(6, .bool ((P.eqb r3.1.Track.Speed r4.1.Track.Speed) && (r2.1.Track.Hits == r3.1.Track.Hits)))] rfl ⟨by kernel_rfl, by kernel_rfl⟩ ?_
            refine TL.next rfl ?_
            refine TC.ret ?_
            have e : skywaykeep2_FilterGains f s accel = ((P.eqb r3.1.Track.Speed r4.1.Track.Speed) && (r2.1.Track.Hits == r3.1.Track.Hits)) := by subst hr1 hr2 hr3 hr4; unfold skywaykeep2_FilterGains; exact cond_f h1 (cond_f h2 (cond_t h4 (cond_t h5 (cond_t h6 (rfl)))))
            exact TE.ret [] (.bool ((P.eqb r3.1.Track.Speed r4.1.Track.Speed) && (r2.1.Track.Hits == r3.1.Track.Hits))) ⟨by kernel_rfl, by kernel_rfl⟩ (by rw [e]; first | done | kernel_rfl)
          · refine TL.run 47 [] [(6, .bool false)] rfl ⟨by kernel_rfl, by kernel_rfl⟩ ?_
            refine TL.next rfl ?_
            refine TC.ret ?_
            have e : skywaykeep2_FilterGains f s accel = false := by subst hr1 hr2 hr3 hr4; unfold skywaykeep2_FilterGains; exact cond_f h1 (cond_f h2 (cond_t h4 (cond_t h5 (cond_f h6 (rfl)))))
            exact TE.ret [] (.bool false) ⟨by kernel_rfl, by kernel_rfl⟩ (by rw [e]; first | done | kernel_rfl)
        · refine TL.run 47 [] [(6, .bool false)] rfl ⟨by kernel_rfl, by kernel_rfl⟩ ?_
          refine TL.next rfl ?_
          refine TC.ret ?_
          have e : skywaykeep2_FilterGains f s accel = false := by subst hr1 hr2 hr3 hr4; unfold skywaykeep2_FilterGains; exact cond_f h1 (cond_f h2 (cond_t h4 (cond_f h5 (rfl))))
          exact TE.ret [] (.bool false) ⟨by kernel_rfl, by kernel_rfl⟩ (by rw [e]; first | done | kernel_rfl)
      · refine TL.run 47 [] [(6, .bool false)] rfl ⟨by kernel_rfl, by kernel_rfl⟩ ?_
        refine TL.next rfl ?_
        refine TC.ret ?_
        have e : skywaykeep2_FilterGains f s accel = false := by subst hr1 hr2 hr3 hr4; unfold skywaykeep2_FilterGains; exact cond_f h1 (cond_f h2 (cond_f h4 (rfl)))
        exact TE.ret [] (.bool false) ⟨by kernel_rfl, by kernel_rfl⟩ (by rw [e]; first | done | kernel_rfl)

def skywaykeep2_FilterContains (f : FilterTrack) (s : Spot) : Bool :=
  let r1 := skywaykeep2_begins
  cond (!r1) (
    false) (
    let r2 := filter_Contains f f.Track.At
    cond (r2.2 != 0) (
      !r2.1) (
      let r3 := filter_Update f s 0 256 0
      let r4 := filter_Contains r3.1 s.At
      cond r2.1 (
        cond (r3.2 != 0) (
          true) (
          cond (r4.2 == 0) (
            r4.1) (
            false))) (
        false)))

set_option maxRecDepth 100000 in
theorem skywaykeep2_FilterContains_w (f : FilterTrack) (s : Spot) (w : World) : Calls Try.prog 9 #[FilterTrack.v f, Spot.v s] w (Ret w (.bool (skywaykeep2_FilterContains f s))) := by
  refine calls_intro (vs := [FilterTrack.v f, Spot.v s]) (w := w) Try.func9 rfl Try.ntmps9 rfl ?_
  refine TC.weak [(0, FilterTrack.v f), (1, Spot.v s)] (by kernel_rfl) ?_
  refine TC.seq ?_
  refine TC.region ?_
  refine TL.write 0 (fun b1 => [(1, Spot.v s), (2, .pointer (some ⟨b1, 0, none⟩))]) (fun b1 => [.inl (b1, .cells (FilterTrack.c f) 29 (0, 0))]) (fun b1 => ⟨by kernel_rfl, by kernel_rfl⟩) (fun b1 => ?_)
  refine TL.write 0 (fun b2 => [(2, .pointer (some ⟨b1, 0, none⟩)), (3, .pointer (some ⟨b2, 0, none⟩))]) (fun b2 => [.inl (b2, .cells (Spot.c s) 27 (0, 0)), .inl (b1, .cells (FilterTrack.c f) 29 (0, 0))]) (fun b2 => ⟨by kernel_rfl, by kernel_rfl⟩) (fun b2 => ?_)
  refine TL.run 3 [] [(2, .pointer (some ⟨b1, 0, none⟩)), (3, .pointer (some ⟨b2, 0, none⟩))] rfl ⟨by kernel_rfl, by kernel_rfl⟩ ?_
  refine TL.next rfl ?_
  refine TC.seq ?_
  refine TC.seq ?_
  refine TC.region ?_
  refine TL.call (some 11) [(2, .pointer (some ⟨b1, 0, none⟩)), (3, .pointer (some ⟨b2, 0, none⟩)), (11, .bool ((skywaykeep2_begins)))] (fun w _ => skywaykeep2_begins_w w) (by kernel_rfl) (by kernel_rfl) ?_
  generalize hr1 : skywaykeep2_begins = r1
  refine TL.run 2 [] [(2, .pointer (some ⟨b1, 0, none⟩)), (3, .pointer (some ⟨b2, 0, none⟩)), (12, .bool (!r1))] rfl ⟨by kernel_rfl, by kernel_rfl⟩ ?_
  refine TL.next rfl ?_
  refine TC.cond (!r1) rfl (by kernel_rfl) (fun h1 => ?_) (fun h1 => ?_)
  · refine TC.seq ?_
    refine TC.region ?_
    refine TL.run 1 [] [(4, .bool false)] rfl ⟨by kernel_rfl, by kernel_rfl⟩ ?_
    refine TL.next rfl ?_
    refine TC.ret ?_
    refine TE.ret_then ?_
    have e : skywaykeep2_FilterContains f s = false := by subst hr1; unfold skywaykeep2_FilterContains; exact cond_t h1 (rfl)
    exact TE.ret [] (.bool false) ⟨by kernel_rfl, by kernel_rfl⟩ (by rw [e]; first | done | kernel_rfl)
  · refine TC.skip ?_
    refine TE.next ?_
    refine TC.seq ?_
    refine TC.region ?_
    refine TL.run 4 [1, 1] [(2, .pointer (some ⟨b1, 0, none⟩)), (3, .pointer (some ⟨b2, 0, none⟩)), (14, FilterTrack.v f), (17, P.v f.Track.At)] rfl ⟨by kernel_rfl, by kernel_rfl⟩ ?_
    refine TL.call (some 18) [(2, .pointer (some ⟨b1, 0, none⟩)), (3, .pointer (some ⟨b2, 0, none⟩)), (18, .tuple #[.bool ((filter_Contains f f.Track.At).1), .int .i64 ((filter_Contains f f.Track.At).2)])] (fun w _ => filter_Contains_w f f.Track.At w) (by kernel_rfl) (by kernel_rfl) ?_
    generalize hr2 : filter_Contains f f.Track.At = r2
    refine TL.run 10 [] [(2, .pointer (some ⟨b1, 0, none⟩)), (3, .pointer (some ⟨b2, 0, none⟩)), (5, .bool r2.1), (6, .int .i64 r2.2)] rfl ⟨by kernel_rfl, by kernel_rfl⟩ ?_
    refine TL.next rfl ?_
    refine TC.seq ?_
    refine TC.seq ?_
    refine TC.region ?_
    refine TL.run 2 [] [(2, .pointer (some ⟨b1, 0, none⟩)), (3, .pointer (some ⟨b2, 0, none⟩)), (5, .bool r2.1), (22, .bool (r2.2 != 0))] rfl ⟨by kernel_rfl, by kernel_rfl⟩ ?_
    refine TL.next rfl ?_
    refine TC.cond (r2.2 != 0) rfl (by kernel_rfl) (fun h2 => ?_) (fun h2 => ?_)
    · refine TC.seq ?_
      refine TC.region ?_
      refine TL.run 3 [] [(4, .bool (!r2.1))] rfl ⟨by kernel_rfl, by kernel_rfl⟩ ?_
      refine TL.next rfl ?_
      refine TC.ret ?_
      refine TE.ret_then ?_
      have e : skywaykeep2_FilterContains f s = (!r2.1) := by subst hr1 hr2; unfold skywaykeep2_FilterContains; exact cond_f h1 (cond_t h2 (rfl))
      exact TE.ret [] (.bool (!r2.1)) ⟨by kernel_rfl, by kernel_rfl⟩ (by rw [e]; first | done | kernel_rfl)
    · refine TC.skip ?_
      refine TE.next ?_
      refine TC.seq ?_
      refine TC.region ?_
      refine TL.run 2 [1, 0] [(3, .pointer (some ⟨b2, 0, none⟩)), (5, .bool r2.1), (26, FilterTrack.v f), (27, Spot.v s)] rfl ⟨by kernel_rfl, by kernel_rfl⟩ ?_
      refine TL.call (some 28) [(3, .pointer (some ⟨b2, 0, none⟩)), (5, .bool r2.1), (28, .tuple #[FilterTrack.v ((filter_Update f s 0 256 0).1), .int .i64 ((filter_Update f s 0 256 0).2)])] (fun w _ => filter_Update_w f s 0 256 0 w) (by kernel_rfl) (by kernel_rfl) ?_
      generalize hr3 : filter_Update f s 0 256 0 = r3
      refine TL.run 6 [] [(3, .pointer (some ⟨b2, 0, none⟩)), (5, .bool r2.1), (29, FilterTrack.v r3.1), (30, .int .i64 r3.2)] rfl ⟨by kernel_rfl, by kernel_rfl⟩ ?_
      refine TL.write 0 (fun b3 => [(3, .pointer (some ⟨b2, 0, none⟩)), (5, .bool r2.1), (7, .pointer (some ⟨b3, 0, none⟩)), (29, FilterTrack.v r3.1), (30, .int .i64 r3.2)]) (fun b3 => [.inl (b3, .cells (FilterTrack.c FilterTrack.zero) 29 (0, 0)), .inl (b2, .cells (Spot.c s) 27 (0, 0)), .inl (b1, .cells (FilterTrack.c f) 29 (0, 0))]) (fun b3 => ⟨by kernel_rfl, by kernel_rfl⟩) (fun b3 => ?_)
      refine TL.write 0 (fun _ => [(3, .pointer (some ⟨b2, 0, none⟩)), (5, .bool r2.1), (7, .pointer (some ⟨b3, 0, none⟩)), (30, .int .i64 r3.2)]) (fun _ => [.inl (b3, .cells (FilterTrack.c r3.1) 29 (0, 0)), .inl (b2, .cells (Spot.c s) 27 (0, 0)), .inl (b1, .cells (FilterTrack.c f) 29 (0, 0))]) (fun _ => ⟨by kernel_rfl, by kernel_rfl⟩) (fun _ => ?_)
      refine TL.run 9 [] [(3, .pointer (some ⟨b2, 0, none⟩)), (5, .bool r2.1), (7, .pointer (some ⟨b3, 0, none⟩)), (8, .int .i64 r3.2)] rfl ⟨by kernel_rfl, by kernel_rfl⟩ ?_
      refine TL.next rfl ?_
      refine TC.seq ?_
      refine TC.region ?_
      refine TL.run 3 [0, 1] [(5, .bool r2.1), (8, .int .i64 r3.2), (32, FilterTrack.v r3.1), (34, P.v s.At)] rfl ⟨by kernel_rfl, by kernel_rfl⟩ ?_
      refine TL.call (some 35) [(5, .bool r2.1), (8, .int .i64 r3.2), (35, .tuple #[.bool ((filter_Contains r3.1 s.At).1), .int .i64 ((filter_Contains r3.1 s.At).2)])] (fun w _ => filter_Contains_w r3.1 s.At w) (by kernel_rfl) (by kernel_rfl) ?_
      generalize hr4 : filter_Contains r3.1 s.At = r4
      refine TL.run 9 [] [(5, .bool r2.1), (8, .int .i64 r3.2), (9, .bool r4.1), (10, .int .i64 r4.2)] rfl ⟨by kernel_rfl, by kernel_rfl⟩ ?_
      refine TL.next rfl ?_
      refine TC.seq ?_
      refine TC.region ?_
      refine TL.run 2 [] [(8, .int .i64 r3.2), (9, .bool r4.1), (10, .int .i64 r4.2), (39, .bool r2.1)] rfl ⟨by kernel_rfl, by kernel_rfl⟩ ?_
      refine TL.split 39 r2.1 (by kernel_rfl) (fun h3 => ?_) (fun h3 => ?_)
      · refine TL.run 5 [] [(9, .bool r4.1), (10, .int .i64 r4.2), (39, .bool true), (42, .bool (r3.2 != 0))] rfl ⟨by kernel_rfl, by kernel_rfl⟩ ?_
        refine TL.split 42 (r3.2 != 0) (by kernel_rfl) (fun h4 => ?_) (fun h4 => ?_)
        · refine TL.run 13 [] [(4, .bool true)] rfl ⟨by kernel_rfl, by kernel_rfl⟩ ?_
          refine TL.next rfl ?_
          refine TC.ret ?_
          have e : skywaykeep2_FilterContains f s = true := by subst hr1 hr2 hr3 hr4; unfold skywaykeep2_FilterContains; exact cond_f h1 (cond_f h2 (cond_t h3 (cond_t h4 (rfl))))
          exact TE.ret [] (.bool true) ⟨by kernel_rfl, by kernel_rfl⟩ (by rw [e]; first | done | kernel_rfl)
        · refine TL.run 8 [] [(9, .bool r4.1), (39, .bool true), (42, .bool false), (45, .bool (r4.2 == 0))] rfl ⟨by kernel_rfl, by kernel_rfl⟩ ?_
          refine TL.split 45 (r4.2 == 0) (by kernel_rfl) (fun h5 => ?_) (fun h5 => ?_)
          · refine TL.run 13 [] [(4, .bool r4.1)] rfl ⟨by kernel_rfl, by kernel_rfl⟩ ?_
            refine TL.next rfl ?_
            refine TC.ret ?_
            have e : skywaykeep2_FilterContains f s = r4.1 := by subst hr1 hr2 hr3 hr4; unfold skywaykeep2_FilterContains; exact cond_f h1 (cond_f h2 (cond_t h3 (cond_f h4 (cond_t h5 (rfl)))))
            exact TE.ret [] (.bool r4.1) ⟨by kernel_rfl, by kernel_rfl⟩ (by rw [e]; first | done | kernel_rfl)
          · refine TL.run 13 [] [(4, .bool false)] rfl ⟨by kernel_rfl, by kernel_rfl⟩ ?_
            refine TL.next rfl ?_
            refine TC.ret ?_
            have e : skywaykeep2_FilterContains f s = false := by subst hr1 hr2 hr3 hr4; unfold skywaykeep2_FilterContains; exact cond_f h1 (cond_f h2 (cond_t h3 (cond_f h4 (cond_f h5 (rfl)))))
            exact TE.ret [] (.bool false) ⟨by kernel_rfl, by kernel_rfl⟩ (by rw [e]; first | done | kernel_rfl)
      · refine TL.run 13 [] [(4, .bool false)] rfl ⟨by kernel_rfl, by kernel_rfl⟩ ?_
        refine TL.next rfl ?_
        refine TC.ret ?_
        have e : skywaykeep2_FilterContains f s = false := by subst hr1 hr2 hr3 hr4; unfold skywaykeep2_FilterContains; exact cond_f h1 (cond_f h2 (cond_f h3 (rfl)))
        exact TE.ret [] (.bool false) ⟨by kernel_rfl, by kernel_rfl⟩ (by rw [e]; first | done | kernel_rfl)

end Go.Sky
