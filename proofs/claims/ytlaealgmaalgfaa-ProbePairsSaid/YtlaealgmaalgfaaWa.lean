/- Functions of the program, each with the Lean function that it computes. Conditions: none. -/
import Derived.Test.YtlaealgmaalgfaaRows
import Derived.Test.YtlaealgmaalgfaaEqb
import Derived.Test.YtlaealgmaalgfaaPlan
namespace Go.Sky
open Go Go.Eng Go.Proofs
def radar_out (n : Int) (low : Int) (high : Int) : Bool :=
  (decide (n < low)) || (decide (n > high))

set_option maxRecDepth 100000 in
theorem radar_out_w (n : Int) (low : Int) (high : Int) (w : World) : Calls Try.prog 89 #[.int .i64 n, .int .i64 low, .int .i64 high] w (Ret w (.bool (radar_out n low high))) := by
  refine calls_intro (vs := [.int .i64 n, .int .i64 low, .int .i64 high]) (w := w) Try.func89 rfl Try.ntmps89 rfl ?_
  refine TC.weak [(0, .int .i64 n), (1, .int .i64 low), (2, .int .i64 high)] (by kernel_rfl) ?_
  refine TC.seq ?_
  refine TC.region ?_
  refine TL.run 1 [] [(0, .int .i64 n), (1, .int .i64 low), (2, .int .i64 high)] rfl ⟨by kernel_rfl, by kernel_rfl⟩ ?_
  refine TL.next rfl ?_
  refine TC.seq ?_
  refine TC.region ?_
  refine TL.run 4 [] [(0, .int .i64 n), (2, .int .i64 high), (10, .bool (decide (n < low)))] rfl ⟨by kernel_rfl, by kernel_rfl⟩ ?_
  refine TL.join 10 (decide (n < low)) 8 [] [] (fun β => [(14, .bool (β || (decide (n > high))))]) (by kernel_rfl) rfl ⟨by kernel_rfl, by kernel_rfl⟩ ⟨by kernel_rfl, by kernel_rfl⟩ ?_
  refine TL.run 9 [] [(6, .bool ((decide (n < low)) || (decide (n > high))))] rfl ⟨by kernel_rfl, by kernel_rfl⟩ ?_
  refine TL.next rfl ?_
  refine TC.ret ?_
  have e : radar_out n low high = ((decide (n < low)) || (decide (n > high))) := by unfold radar_out; exact rfl
  exact TE.ret [] (.bool ((decide (n < low)) || (decide (n > high)))) ⟨by kernel_rfl, by kernel_rfl⟩ (by rw [e]; first | done | kernel_rfl)

def plane_Check (p : P) : Int :=
  cond ((((decide (p.X < (-1000000))) || (decide (p.X > 1000000))) || (decide (p.Y < (-1000000)))) || (decide (p.Y > 1000000))) (
    4) (
    0)

set_option maxRecDepth 100000 in
theorem plane_Check_w (p : P) (w : World) : Calls Try.prog 57 #[P.v p] w (Ret w (.int .i64 (plane_Check p))) := by
  refine calls_intro (vs := [P.v p]) (w := w) Try.func57 rfl Try.ntmps57 rfl ?_
  refine TC.weak [(0, P.v p)] (by kernel_rfl) ?_
  refine TC.seq ?_
  refine TC.region ?_
  refine TL.write 0 (fun b1 => [(1, .pointer (some ⟨b1, 0, none⟩))]) (fun b1 => [.inl (b1, .cells (P.c p) 25 (0, 0))]) (fun b1 => ⟨by kernel_rfl, by kernel_rfl⟩) (fun b1 => ?_)
  refine TL.run 2 [] [(1, .pointer (some ⟨b1, 0, none⟩))] rfl ⟨by kernel_rfl, by kernel_rfl⟩ ?_
  refine TL.next rfl ?_
  refine TC.seq ?_
  refine TC.seq ?_
  refine TC.region ?_
  refine TL.run 4 [0] [(1, .pointer (some ⟨b1, 0, none⟩)), (6, .bool (decide (p.X < (-1000000))))] rfl ⟨by kernel_rfl, by kernel_rfl⟩ ?_
  refine TL.join 6 (decide (p.X < (-1000000))) 8 [] [0] (fun β => [(1, .pointer (some ⟨b1, 0, none⟩)), (10, .bool (β || (decide (p.X > 1000000))))]) (by kernel_rfl) rfl ⟨by kernel_rfl, by kernel_rfl⟩ ⟨by kernel_rfl, by kernel_rfl⟩ ?_
  refine TL.run 9 [] [(1, .pointer (some ⟨b1, 0, none⟩)), (11, .bool ((decide (p.X < (-1000000))) || (decide (p.X > 1000000))))] rfl ⟨by kernel_rfl, by kernel_rfl⟩ ?_
  refine TL.join 11 ((decide (p.X < (-1000000))) || (decide (p.X > 1000000))) 13 [] [0] (fun β => [(1, .pointer (some ⟨b1, 0, none⟩)), (15, .bool (β || (decide (p.Y < (-1000000)))))]) (by kernel_rfl) rfl ⟨by kernel_rfl, by kernel_rfl⟩ ⟨by kernel_rfl, by kernel_rfl⟩ ?_
  refine TL.run 14 [] [(1, .pointer (some ⟨b1, 0, none⟩)), (16, .bool (((decide (p.X < (-1000000))) || (decide (p.X > 1000000))) || (decide (p.Y < (-1000000)))))] rfl ⟨by kernel_rfl, by kernel_rfl⟩ ?_
  refine TL.join 16 (((decide (p.X < (-1000000))) || (decide (p.X > 1000000))) || (decide (p.Y < (-1000000)))) 18 [] [0] (fun β => [(20, .bool (β || (decide (p.Y > 1000000))))]) (by kernel_rfl) rfl ⟨by kernel_rfl, by kernel_rfl⟩ ⟨by kernel_rfl, by kernel_rfl⟩ ?_
  refine TL.next rfl ?_
  refine TC.cond ((((decide (p.X < (-1000000))) || (decide (p.X > 1000000))) || (decide (p.Y < (-1000000)))) || (decide (p.Y > 1000000))) rfl (by kernel_rfl) (fun h1 => ?_) (fun h1 => ?_)
  · refine TC.seq ?_
    refine TC.region ?_
    refine TL.run 1 [] [(2, .int .i64 4)] rfl ⟨by kernel_rfl, by kernel_rfl⟩ ?_
    refine TL.next rfl ?_
    refine TC.ret ?_
    refine TE.ret_then ?_
    have e : plane_Check p = 4 := by unfold plane_Check; exact cond_t h1 (rfl)
    exact TE.ret [] (.int .i64 4) ⟨by kernel_rfl, by kernel_rfl⟩ (by rw [e]; first | done | kernel_rfl)
  · refine TC.skip ?_
    refine TE.next ?_
    refine TC.seq ?_
    refine TC.region ?_
    refine TL.run 1 [] [(2, .int .i64 0)] rfl ⟨by kernel_rfl, by kernel_rfl⟩ ?_
    refine TL.next rfl ?_
    refine TC.ret ?_
    have e : plane_Check p = 0 := by unfold plane_Check; exact cond_f h1 (rfl)
    exact TE.ret [] (.int .i64 0) ⟨by kernel_rfl, by kernel_rfl⟩ (by rw [e]; first | done | kernel_rfl)

def radar_CheckSpot (s : Spot) : Int :=
  let r1 := radar_out s.Time 0 200000
  cond r1 (
    4) (
    let r2 := plane_Check s.At
    cond (r2 != 0) (
      4) (
      let r3 := radar_out s.Height 0 60000
      cond r3 (
        4) (
        let r4 := radar_out s.Code (-1) 4095
        cond r4 (
          4) (
          let r5 := radar_out s.Error 0 1000000
          cond r5 (
            4) (
            0)))))

set_option maxRecDepth 100000 in
theorem radar_CheckSpot_w (s : Spot) (w : World) : Calls Try.prog 53 #[Spot.v s] w (Ret w (.int .i64 (radar_CheckSpot s))) := by
  refine calls_intro (vs := [Spot.v s]) (w := w) Try.func53 rfl Try.ntmps53 rfl ?_
  refine TC.weak [(0, Spot.v s)] (by kernel_rfl) ?_
  refine TC.seq ?_
  refine TC.region ?_
  refine TL.write 0 (fun b1 => [(1, .pointer (some ⟨b1, 0, none⟩))]) (fun b1 => [.inl (b1, .cells (Spot.c s) 27 (0, 0))]) (fun b1 => ⟨by kernel_rfl, by kernel_rfl⟩) (fun b1 => ?_)
  refine TL.run 2 [] [(1, .pointer (some ⟨b1, 0, none⟩))] rfl ⟨by kernel_rfl, by kernel_rfl⟩ ?_
  refine TL.next rfl ?_
  refine TC.seq ?_
  refine TC.seq ?_
  refine TC.region ?_
  refine TL.run 2 [0] [(1, .pointer (some ⟨b1, 0, none⟩)), (4, .int .i64 s.Time)] rfl ⟨by kernel_rfl, by kernel_rfl⟩ ?_
  refine TL.call (some 5) [(1, .pointer (some ⟨b1, 0, none⟩)), (5, .bool ((radar_out s.Time 0 200000)))] (fun w _ => radar_out_w s.Time 0 200000 w) (by kernel_rfl) (by kernel_rfl) ?_
  generalize hr1 : radar_out s.Time 0 200000 = r1
  refine TL.run 4 [] [(1, .pointer (some ⟨b1, 0, none⟩)), (6, .bool r1)] rfl ⟨by kernel_rfl, by kernel_rfl⟩ ?_
  refine TL.split 6 r1 (by kernel_rfl) (fun h1 => ?_) (fun h1 => ?_)
  · refine TL.run 24 [] [(26, .bool true)] rfl ⟨by kernel_rfl, by kernel_rfl⟩ ?_
    refine TL.next rfl ?_
    refine TC.condT rfl (by kernel_rfl) ?_
    refine TC.seq ?_
    refine TC.region ?_
    refine TL.run 1 [] [(2, .int .i64 4)] rfl ⟨by kernel_rfl, by kernel_rfl⟩ ?_
    refine TL.next rfl ?_
    refine TC.ret ?_
    refine TE.ret_then ?_
    have e : radar_CheckSpot s = 4 := by subst hr1; unfold radar_CheckSpot; exact cond_t h1 (rfl)
    exact TE.ret [] (.int .i64 4) ⟨by kernel_rfl, by kernel_rfl⟩ (by rw [e]; first | done | kernel_rfl)
  · refine TL.run 6 [0] [(1, .pointer (some ⟨b1, 0, none⟩)), (6, .bool false), (8, P.v s.At)] rfl ⟨by kernel_rfl, by kernel_rfl⟩ ?_
    refine TL.call (some 9) [(1, .pointer (some ⟨b1, 0, none⟩)), (6, .bool false), (9, .int .i64 (plane_Check s.At))] (fun w _ => plane_Check_w s.At w) (by kernel_rfl) (by kernel_rfl) ?_
    generalize hr2 : plane_Check s.At = r2
    refine TL.run 10 [] [(1, .pointer (some ⟨b1, 0, none⟩)), (12, .bool (r2 != 0))] rfl ⟨by kernel_rfl, by kernel_rfl⟩ ?_
    refine TL.split 12 (r2 != 0) (by kernel_rfl) (fun h2 => ?_) (fun h2 => ?_)
    · refine TL.run 24 [] [(26, .bool true)] rfl ⟨by kernel_rfl, by kernel_rfl⟩ ?_
      refine TL.next rfl ?_
      refine TC.condT rfl (by kernel_rfl) ?_
      refine TC.seq ?_
      refine TC.region ?_
      refine TL.run 1 [] [(2, .int .i64 4)] rfl ⟨by kernel_rfl, by kernel_rfl⟩ ?_
      refine TL.next rfl ?_
      refine TC.ret ?_
      refine TE.ret_then ?_
      have e : radar_CheckSpot s = 4 := by subst hr1 hr2; unfold radar_CheckSpot; exact cond_f h1 (cond_t h2 (rfl))
      exact TE.ret [] (.int .i64 4) ⟨by kernel_rfl, by kernel_rfl⟩ (by rw [e]; first | done | kernel_rfl)
    · refine TL.run 12 [0] [(1, .pointer (some ⟨b1, 0, none⟩)), (12, .bool false), (14, .int .i64 s.Height)] rfl ⟨by kernel_rfl, by kernel_rfl⟩ ?_
      refine TL.call (some 15) [(1, .pointer (some ⟨b1, 0, none⟩)), (12, .bool false), (15, .bool ((radar_out s.Height 0 60000)))] (fun w _ => radar_out_w s.Height 0 60000 w) (by kernel_rfl) (by kernel_rfl) ?_
      generalize hr3 : radar_out s.Height 0 60000 = r3
      refine TL.run 15 [] [(1, .pointer (some ⟨b1, 0, none⟩)), (17, .bool r3)] rfl ⟨by kernel_rfl, by kernel_rfl⟩ ?_
      refine TL.split 17 r3 (by kernel_rfl) (fun h3 => ?_) (fun h3 => ?_)
      · refine TL.run 24 [] [(26, .bool true)] rfl ⟨by kernel_rfl, by kernel_rfl⟩ ?_
        refine TL.next rfl ?_
        refine TC.condT rfl (by kernel_rfl) ?_
        refine TC.seq ?_
        refine TC.region ?_
        refine TL.run 1 [] [(2, .int .i64 4)] rfl ⟨by kernel_rfl, by kernel_rfl⟩ ?_
        refine TL.next rfl ?_
        refine TC.ret ?_
        refine TE.ret_then ?_
        have e : radar_CheckSpot s = 4 := by subst hr1 hr2 hr3; unfold radar_CheckSpot; exact cond_f h1 (cond_f h2 (cond_t h3 (rfl)))
        exact TE.ret [] (.int .i64 4) ⟨by kernel_rfl, by kernel_rfl⟩ (by rw [e]; first | done | kernel_rfl)
      · refine TL.run 17 [0] [(1, .pointer (some ⟨b1, 0, none⟩)), (17, .bool false), (19, .int .i64 s.Code)] rfl ⟨by kernel_rfl, by kernel_rfl⟩ ?_
        refine TL.call (some 20) [(1, .pointer (some ⟨b1, 0, none⟩)), (17, .bool false), (20, .bool ((radar_out s.Code (-1) 4095)))] (fun w _ => radar_out_w s.Code (-1) 4095 w) (by kernel_rfl) (by kernel_rfl) ?_
        generalize hr4 : radar_out s.Code (-1) 4095 = r4
        refine TL.run 20 [] [(1, .pointer (some ⟨b1, 0, none⟩)), (22, .bool r4)] rfl ⟨by kernel_rfl, by kernel_rfl⟩ ?_
        refine TL.split 22 r4 (by kernel_rfl) (fun h4 => ?_) (fun h4 => ?_)
        · refine TL.run 24 [] [(26, .bool true)] rfl ⟨by kernel_rfl, by kernel_rfl⟩ ?_
          refine TL.next rfl ?_
          refine TC.condT rfl (by kernel_rfl) ?_
          refine TC.seq ?_
          refine TC.region ?_
          refine TL.run 1 [] [(2, .int .i64 4)] rfl ⟨by kernel_rfl, by kernel_rfl⟩ ?_
          refine TL.next rfl ?_
          refine TC.ret ?_
          refine TE.ret_then ?_
          have e : radar_CheckSpot s = 4 := by subst hr1 hr2 hr3 hr4; unfold radar_CheckSpot; exact cond_f h1 (cond_f h2 (cond_f h3 (cond_t h4 (rfl))))
          exact TE.ret [] (.int .i64 4) ⟨by kernel_rfl, by kernel_rfl⟩ (by rw [e]; first | done | kernel_rfl)
        · refine TL.run 22 [0] [(22, .bool false), (24, .int .i64 s.Error)] rfl ⟨by kernel_rfl, by kernel_rfl⟩ ?_
          refine TL.call (some 25) [(22, .bool false), (25, .bool ((radar_out s.Error 0 1000000)))] (fun w _ => radar_out_w s.Error 0 1000000 w) (by kernel_rfl) (by kernel_rfl) ?_
          generalize hr5 : radar_out s.Error 0 1000000 = r5
          refine TL.run 24 [] [(26, .bool r5)] rfl ⟨by kernel_rfl, by kernel_rfl⟩ ?_
          refine TL.next rfl ?_
          refine TC.cond r5 rfl (by kernel_rfl) (fun h5 => ?_) (fun h5 => ?_)
          · refine TC.seq ?_
            refine TC.region ?_
            refine TL.run 1 [] [(2, .int .i64 4)] rfl ⟨by kernel_rfl, by kernel_rfl⟩ ?_
            refine TL.next rfl ?_
            refine TC.ret ?_
            refine TE.ret_then ?_
            have e : radar_CheckSpot s = 4 := by subst hr1 hr2 hr3 hr4 hr5; unfold radar_CheckSpot; exact cond_f h1 (cond_f h2 (cond_f h3 (cond_f h4 (cond_t h5 (rfl)))))
            exact TE.ret [] (.int .i64 4) ⟨by kernel_rfl, by kernel_rfl⟩ (by rw [e]; first | done | kernel_rfl)
          · refine TC.skip ?_
            refine TE.next ?_
            refine TC.seq ?_
            refine TC.region ?_
            refine TL.run 1 [] [(2, .int .i64 0)] rfl ⟨by kernel_rfl, by kernel_rfl⟩ ?_
            refine TL.next rfl ?_
            refine TC.ret ?_
            have e : radar_CheckSpot s = 0 := by subst hr1 hr2 hr3 hr4 hr5; unfold radar_CheckSpot; exact cond_f h1 (cond_f h2 (cond_f h3 (cond_f h4 (cond_f h5 (rfl)))))
            exact TE.ret [] (.int .i64 0) ⟨by kernel_rfl, by kernel_rfl⟩ (by rw [e]; first | done | kernel_rfl)

def plane_Sub (a : P) (b_ : P) : P :=
  (⟨w64 (a.X - b_.X), w64 (a.Y - b_.Y)⟩ : P)

set_option maxRecDepth 100000 in
theorem plane_Sub_w (a : P) (b_ : P) (w : World) : Calls Try.prog 87 #[P.v a, P.v b_] w (Ret w (P.v (plane_Sub a b_))) := by
  refine calls_intro (vs := [P.v a, P.v b_]) (w := w) Try.func87 rfl Try.ntmps87 rfl ?_
  refine TC.weak [(0, P.v a), (1, P.v b_)] (by kernel_rfl) ?_
  refine TC.seq ?_
  refine TC.region ?_
  refine TL.write 0 (fun b1 => [(1, P.v b_), (2, .pointer (some ⟨b1, 0, none⟩))]) (fun b1 => [.inl (b1, .cells (P.c a) 25 (0, 0))]) (fun b1 => ⟨by kernel_rfl, by kernel_rfl⟩) (fun b1 => ?_)
  refine TL.write 0 (fun b2 => [(2, .pointer (some ⟨b1, 0, none⟩)), (3, .pointer (some ⟨b2, 0, none⟩))]) (fun b2 => [.inl (b2, .cells (P.c b_) 25 (0, 0)), .inl (b1, .cells (P.c a) 25 (0, 0))]) (fun b2 => ⟨by kernel_rfl, by kernel_rfl⟩) (fun b2 => ?_)
  refine TL.write 0 (fun b3 => [(2, .pointer (some ⟨b1, 0, none⟩)), (3, .pointer (some ⟨b2, 0, none⟩)), (4, .pointer (some ⟨b3, 0, none⟩))]) (fun b3 => [.inl (b3, .cells (P.c P.zero) 25 (0, 0)), .inl (b2, .cells (P.c b_) 25 (0, 0)), .inl (b1, .cells (P.c a) 25 (0, 0))]) (fun b3 => ⟨by kernel_rfl, by kernel_rfl⟩) (fun b3 => ?_)
  refine TL.next rfl ?_
  refine TC.seq ?_
  refine TC.region ?_
  refine TL.run 11 [2, 1, 2, 1] [(4, .pointer (some ⟨b3, 0, none⟩)), (15, .agg #[.int .i64 (w64 (a.X - b_.X)), .int .i64 (w64 (a.Y - b_.Y))])] rfl ⟨by kernel_rfl, by kernel_rfl⟩ ?_
  refine TL.write 0 (fun _ => [(4, .pointer (some ⟨b3, 0, none⟩))]) (fun _ => [.inl (b3, .cells #[.int .i64 (w64 (a.X - b_.X)), .int .i64 (w64 (a.Y - b_.Y))] 25 (0, 0)), .inl (b2, .cells (P.c b_) 25 (0, 0)), .inl (b1, .cells (P.c a) 25 (0, 0))]) (fun _ => ⟨by kernel_rfl, by kernel_rfl⟩) (fun _ => ?_)
  refine TL.next rfl ?_
  refine TC.ret ?_
  have e : plane_Sub a b_ = (⟨w64 (a.X - b_.X), w64 (a.Y - b_.Y)⟩ : P) := by unfold plane_Sub; exact rfl
  exact TE.ret [0] (.agg #[.int .i64 (w64 (a.X - b_.X)), .int .i64 (w64 (a.Y - b_.Y))]) ⟨by kernel_rfl, by kernel_rfl⟩ (by rw [e]; first | done | kernel_rfl)

def plane_Dot (a : P) (b_ : P) : Int :=
  w64 ((w64 (a.X * b_.X)) + (w64 (a.Y * b_.Y)))

set_option maxRecDepth 100000 in
theorem plane_Dot_w (a : P) (b_ : P) (w : World) : Calls Try.prog 88 #[P.v a, P.v b_] w (Ret w (.int .i64 (plane_Dot a b_))) := by
  refine calls_intro (vs := [P.v a, P.v b_]) (w := w) Try.func88 rfl Try.ntmps88 rfl ?_
  refine TC.weak [(0, P.v a), (1, P.v b_)] (by kernel_rfl) ?_
  refine TC.seq ?_
  refine TC.region ?_
  refine TL.write 0 (fun b1 => [(1, P.v b_), (2, .pointer (some ⟨b1, 0, none⟩))]) (fun b1 => [.inl (b1, .cells (P.c a) 25 (0, 0))]) (fun b1 => ⟨by kernel_rfl, by kernel_rfl⟩) (fun b1 => ?_)
  refine TL.write 0 (fun b2 => [(2, .pointer (some ⟨b1, 0, none⟩)), (3, .pointer (some ⟨b2, 0, none⟩))]) (fun b2 => [.inl (b2, .cells (P.c b_) 25 (0, 0)), .inl (b1, .cells (P.c a) 25 (0, 0))]) (fun b2 => ⟨by kernel_rfl, by kernel_rfl⟩) (fun b2 => ?_)
  refine TL.run 3 [] [(2, .pointer (some ⟨b1, 0, none⟩)), (3, .pointer (some ⟨b2, 0, none⟩))] rfl ⟨by kernel_rfl, by kernel_rfl⟩ ?_
  refine TL.next rfl ?_
  refine TC.seq ?_
  refine TC.region ?_
  refine TL.run 12 [1, 0, 1, 0] [(4, .int .i64 (w64 ((w64 (a.X * b_.X)) + (w64 (a.Y * b_.Y)))))] rfl ⟨by kernel_rfl, by kernel_rfl⟩ ?_
  refine TL.next rfl ?_
  refine TC.ret ?_
  have e : plane_Dot a b_ = (w64 ((w64 (a.X * b_.X)) + (w64 (a.Y * b_.Y)))) := by unfold plane_Dot; exact rfl
  exact TE.ret [] (.int .i64 (w64 ((w64 (a.X * b_.X)) + (w64 (a.Y * b_.Y))))) ⟨by kernel_rfl, by kernel_rfl⟩ (by rw [e]; first | done | kernel_rfl)

def plane_Cross (a : P) (b_ : P) : Int :=
  w64 ((w64 (a.X * b_.Y)) - (w64 (a.Y * b_.X)))

set_option maxRecDepth 100000 in
theorem plane_Cross_w (a : P) (b_ : P) (w : World) : Calls Try.prog 90 #[P.v a, P.v b_] w (Ret w (.int .i64 (plane_Cross a b_))) := by
  refine calls_intro (vs := [P.v a, P.v b_]) (w := w) Try.func90 rfl Try.ntmps90 rfl ?_
  refine TC.weak [(0, P.v a), (1, P.v b_)] (by kernel_rfl) ?_
  refine TC.seq ?_
  refine TC.region ?_
  refine TL.write 0 (fun b1 => [(1, P.v b_), (2, .pointer (some ⟨b1, 0, none⟩))]) (fun b1 => [.inl (b1, .cells (P.c a) 25 (0, 0))]) (fun b1 => ⟨by kernel_rfl, by kernel_rfl⟩) (fun b1 => ?_)
  refine TL.write 0 (fun b2 => [(2, .pointer (some ⟨b1, 0, none⟩)), (3, .pointer (some ⟨b2, 0, none⟩))]) (fun b2 => [.inl (b2, .cells (P.c b_) 25 (0, 0)), .inl (b1, .cells (P.c a) 25 (0, 0))]) (fun b2 => ⟨by kernel_rfl, by kernel_rfl⟩) (fun b2 => ?_)
  refine TL.run 3 [] [(2, .pointer (some ⟨b1, 0, none⟩)), (3, .pointer (some ⟨b2, 0, none⟩))] rfl ⟨by kernel_rfl, by kernel_rfl⟩ ?_
  refine TL.next rfl ?_
  refine TC.seq ?_
  refine TC.region ?_
  refine TL.run 12 [1, 0, 1, 0] [(4, .int .i64 (w64 ((w64 (a.X * b_.Y)) - (w64 (a.Y * b_.X)))))] rfl ⟨by kernel_rfl, by kernel_rfl⟩ ?_
  refine TL.next rfl ?_
  refine TC.ret ?_
  have e : plane_Cross a b_ = (w64 ((w64 (a.X * b_.Y)) - (w64 (a.Y * b_.X)))) := by unfold plane_Cross; exact rfl
  exact TE.ret [] (.int .i64 (w64 ((w64 (a.X * b_.Y)) - (w64 (a.Y * b_.X))))) ⟨by kernel_rfl, by kernel_rfl⟩ (by rw [e]; first | done | kernel_rfl)

def plane_Square (a : P) (b_ : P) : Int :=
  let r1 := plane_Sub a b_
  let r2 := plane_Dot r1 r1
  r2

set_option maxRecDepth 100000 in
theorem plane_Square_w (a : P) (b_ : P) (w : World) : Calls Try.prog 51 #[P.v a, P.v b_] w (Ret w (.int .i64 (plane_Square a b_))) := by
  refine calls_intro (vs := [P.v a, P.v b_]) (w := w) Try.func51 rfl Try.ntmps51 rfl ?_
  refine TC.weak [(0, P.v a), (1, P.v b_)] (by kernel_rfl) ?_
  refine TC.seq ?_
  refine TC.region ?_
  refine TL.write 0 (fun b1 => [(1, P.v b_), (2, .pointer (some ⟨b1, 0, none⟩))]) (fun b1 => [.inl (b1, .cells (P.c a) 25 (0, 0))]) (fun b1 => ⟨by kernel_rfl, by kernel_rfl⟩) (fun b1 => ?_)
  refine TL.write 0 (fun b2 => [(2, .pointer (some ⟨b1, 0, none⟩)), (3, .pointer (some ⟨b2, 0, none⟩))]) (fun b2 => [.inl (b2, .cells (P.c b_) 25 (0, 0)), .inl (b1, .cells (P.c a) 25 (0, 0))]) (fun b2 => ⟨by kernel_rfl, by kernel_rfl⟩) (fun b2 => ?_)
  refine TL.run 3 [] [(2, .pointer (some ⟨b1, 0, none⟩)), (3, .pointer (some ⟨b2, 0, none⟩))] rfl ⟨by kernel_rfl, by kernel_rfl⟩ ?_
  refine TL.next rfl ?_
  refine TC.seq ?_
  refine TC.region ?_
  refine TL.run 2 [1, 0] [(6, P.v a), (7, P.v b_)] rfl ⟨by kernel_rfl, by kernel_rfl⟩ ?_
  refine TL.call (some 8) [(8, P.v (plane_Sub a b_))] (fun w _ => plane_Sub_w a b_ w) (by kernel_rfl) (by kernel_rfl) ?_
  generalize hr1 : plane_Sub a b_ = r1
  refine TL.write 0 (fun b3 => [(5, .pointer (some ⟨b3, 0, none⟩)), (8, P.v r1)]) (fun b3 => [.inl (b3, .cells (P.c P.zero) 25 (0, 0)), .inl (b2, .cells (P.c b_) 25 (0, 0)), .inl (b1, .cells (P.c a) 25 (0, 0))]) (fun b3 => ⟨by kernel_rfl, by kernel_rfl⟩) (fun b3 => ?_)
  refine TL.write 0 (fun _ => [(5, .pointer (some ⟨b3, 0, none⟩))]) (fun _ => [.inl (b3, .cells (P.c r1) 25 (0, 0)), .inl (b2, .cells (P.c b_) 25 (0, 0)), .inl (b1, .cells (P.c a) 25 (0, 0))]) (fun _ => ⟨by kernel_rfl, by kernel_rfl⟩) (fun _ => ?_)
  refine TL.next rfl ?_
  refine TC.seq ?_
  refine TC.region ?_
  refine TL.run 2 [0, 0] [(9, P.v r1), (10, P.v r1)] rfl ⟨by kernel_rfl, by kernel_rfl⟩ ?_
  refine TL.call (some 11) [(11, .int .i64 (plane_Dot r1 r1))] (fun w _ => plane_Dot_w r1 r1 w) (by kernel_rfl) (by kernel_rfl) ?_
  generalize hr2 : plane_Dot r1 r1 = r2
  refine TL.run 4 [] [(4, .int .i64 r2)] rfl ⟨by kernel_rfl, by kernel_rfl⟩ ?_
  refine TL.next rfl ?_
  refine TC.ret ?_
  have e : plane_Square a b_ = r2 := by subst hr1 hr2; unfold plane_Square; exact rfl
  exact TE.ret [] (.int .i64 r2) ⟨by kernel_rfl, by kernel_rfl⟩ (by rw [e]; first | done | kernel_rfl)

def plane_Within (a : P) (b_ : P) (d : Int) : Bool :=
  cond ((decide (d ≥ 0)) && (decide (d ≤ 8000000))) (
    let r1 := plane_Square a b_
    decide (r1 ≤ (w64 (d * d)))) (
    false)

set_option maxRecDepth 100000 in
theorem plane_Within_w (a : P) (b_ : P) (d : Int) (w : World) : Calls Try.prog 54 #[P.v a, P.v b_, .int .i64 d] w (Ret w (.bool (plane_Within a b_ d))) := by
  refine calls_intro (vs := [P.v a, P.v b_, .int .i64 d]) (w := w) Try.func54 rfl Try.ntmps54 rfl ?_
  refine TC.weak [(0, P.v a), (1, P.v b_), (2, .int .i64 d)] (by kernel_rfl) ?_
  refine TC.seq ?_
  refine TC.region ?_
  refine TL.write 0 (fun b1 => [(1, P.v b_), (2, .int .i64 d), (3, .pointer (some ⟨b1, 0, none⟩))]) (fun b1 => [.inl (b1, .cells (P.c a) 25 (0, 0))]) (fun b1 => ⟨by kernel_rfl, by kernel_rfl⟩) (fun b1 => ?_)
  refine TL.write 0 (fun b2 => [(2, .int .i64 d), (3, .pointer (some ⟨b1, 0, none⟩)), (4, .pointer (some ⟨b2, 0, none⟩))]) (fun b2 => [.inl (b2, .cells (P.c b_) 25 (0, 0)), .inl (b1, .cells (P.c a) 25 (0, 0))]) (fun b2 => ⟨by kernel_rfl, by kernel_rfl⟩) (fun b2 => ?_)
  refine TL.run 3 [] [(2, .int .i64 d), (3, .pointer (some ⟨b1, 0, none⟩)), (4, .pointer (some ⟨b2, 0, none⟩))] rfl ⟨by kernel_rfl, by kernel_rfl⟩ ?_
  refine TL.next rfl ?_
  refine TC.seq ?_
  refine TC.region ?_
  refine TL.run 3 [] [(2, .int .i64 d), (3, .pointer (some ⟨b1, 0, none⟩)), (4, .pointer (some ⟨b2, 0, none⟩)), (9, .bool (decide (d ≥ 0)))] rfl ⟨by kernel_rfl, by kernel_rfl⟩ ?_
  refine TL.join 9 (decide (d ≥ 0)) 6 [] [] (fun β => [(2, .int .i64 d), (3, .pointer (some ⟨b1, 0, none⟩)), (4, .pointer (some ⟨b2, 0, none⟩)), (12, .bool (β && (decide (d ≤ 8000000))))]) (by kernel_rfl) rfl ⟨by kernel_rfl, by kernel_rfl⟩ ⟨by kernel_rfl, by kernel_rfl⟩ ?_
  refine TL.run 7 [] [(2, .int .i64 d), (3, .pointer (some ⟨b1, 0, none⟩)), (4, .pointer (some ⟨b2, 0, none⟩)), (13, .bool ((decide (d ≥ 0)) && (decide (d ≤ 8000000))))] rfl ⟨by kernel_rfl, by kernel_rfl⟩ ?_
  refine TL.split 13 ((decide (d ≥ 0)) && (decide (d ≤ 8000000))) (by kernel_rfl) (fun h1 => ?_) (fun h1 => ?_)
  · refine TL.run 9 [1, 0] [(2, .int .i64 d), (13, .bool true), (14, P.v a), (15, P.v b_)] rfl ⟨by kernel_rfl, by kernel_rfl⟩ ?_
    refine TL.call (some 16) [(2, .int .i64 d), (13, .bool true), (16, .int .i64 (plane_Square a b_))] (fun w _ => plane_Square_w a b_ w) (by kernel_rfl) (by kernel_rfl) ?_
    generalize hr1 : plane_Square a b_ = r1
    refine TL.run 16 [] [(6, .bool (decide (r1 ≤ (w64 (d * d)))))] rfl ⟨by kernel_rfl, by kernel_rfl⟩ ?_
    refine TL.next rfl ?_
    refine TC.ret ?_
    have e : plane_Within a b_ d = (decide (r1 ≤ (w64 (d * d)))) := by subst hr1; unfold plane_Within; exact cond_t h1 (rfl)
    exact TE.ret [] (.bool (decide (r1 ≤ (w64 (d * d))))) ⟨by kernel_rfl, by kernel_rfl⟩ (by rw [e]; first | done | kernel_rfl)
  · refine TL.run 16 [] [(6, .bool false)] rfl ⟨by kernel_rfl, by kernel_rfl⟩ ?_
    refine TL.next rfl ?_
    refine TC.ret ?_
    have e : plane_Within a b_ d = false := by unfold plane_Within; exact cond_f h1 (rfl)
    exact TE.ret [] (.bool false) ⟨by kernel_rfl, by kernel_rfl⟩ (by rw [e]; first | done | kernel_rfl)

def num_DivDown (a : Int) (b_ : Int) : Int × Int :=
  cond (b_ == 0) (
    (0, 10)) (
    cond ((a == (-9223372036854775808)) && (b_ == (-1))) (
      (0, 2)) (
      cond (((a.tmod b_) != 0) && (!((decide (a < 0)) == (decide (b_ < 0))))) (
        (w64 ((w64 (a.tdiv b_)) - 1), 0)) (
        (w64 (a.tdiv b_), 0))))

set_option maxRecDepth 100000 in
theorem num_DivDown_w (a : Int) (b_ : Int) (w : World) : Calls Try.prog 58 #[.int .i64 a, .int .i64 b_] w (Ret w (.tuple #[.int .i64 ((num_DivDown a b_).1), .int .i64 ((num_DivDown a b_).2)])) := by
  refine calls_intro (vs := [.int .i64 a, .int .i64 b_]) (w := w) Try.func58 rfl Try.ntmps58 rfl ?_
  refine TC.weak [(0, .int .i64 a), (1, .int .i64 b_)] (by kernel_rfl) ?_
  refine TC.seq ?_
  refine TC.region ?_
  refine TL.run 2 [] [(0, .int .i64 a), (1, .int .i64 b_)] rfl ⟨by kernel_rfl, by kernel_rfl⟩ ?_
  refine TL.next rfl ?_
  refine TC.seq ?_
  refine TC.block ?_
  refine TC.seq ?_
  refine TC.region ?_
  refine TL.run 3 [] [(0, .int .i64 a), (1, .int .i64 b_), (7, .bool (b_ == 0))] rfl ⟨by kernel_rfl, by kernel_rfl⟩ ?_
  refine TL.next rfl ?_
  refine TC.cond (b_ == 0) rfl (by kernel_rfl) (fun h1 => ?_) (fun h1 => ?_)
  · refine TC.seq ?_
    refine TC.region ?_
    refine TL.run 2 [] [(4, .int .i64 0), (5, .int .i64 10)] rfl ⟨by kernel_rfl, by kernel_rfl⟩ ?_
    refine TL.next rfl ?_
    refine TC.ret ?_
    refine TE.ret_block (TE.ret_then ?_)
    have e : num_DivDown a b_ = (0, 10) := by unfold num_DivDown; exact cond_t h1 (rfl)
    exact TE.ret [] (.tuple #[.int .i64 0, .int .i64 10]) ⟨by kernel_rfl, by kernel_rfl⟩ (by rw [e]; first | done | kernel_rfl)
  · refine TC.seq ?_
    refine TC.region ?_
    refine TL.run 3 [] [(0, .int .i64 a), (1, .int .i64 b_), (13, .bool (a == (-9223372036854775808)))] rfl ⟨by kernel_rfl, by kernel_rfl⟩ ?_
    refine TL.join 13 (a == (-9223372036854775808)) 6 [] [] (fun β => [(0, .int .i64 a), (1, .int .i64 b_), (16, .bool (β && (b_ == (-1))))]) (by kernel_rfl) rfl ⟨by kernel_rfl, by kernel_rfl⟩ ⟨by kernel_rfl, by kernel_rfl⟩ ?_
    refine TL.run 7 [] [(0, .int .i64 a), (1, .int .i64 b_), (10, .bool ((a == (-9223372036854775808)) && (b_ == (-1))))] rfl ⟨by kernel_rfl, by kernel_rfl⟩ ?_
    refine TL.next rfl ?_
    refine TC.cond ((a == (-9223372036854775808)) && (b_ == (-1))) rfl (by kernel_rfl) (fun h2 => ?_) (fun h2 => ?_)
    · refine TC.seq ?_
      refine TC.region ?_
      refine TL.run 2 [] [(4, .int .i64 0), (5, .int .i64 2)] rfl ⟨by kernel_rfl, by kernel_rfl⟩ ?_
      refine TL.next rfl ?_
      refine TC.ret ?_
      refine TE.ret_block (TE.ret_then ?_)
      have e : num_DivDown a b_ = (0, 2) := by unfold num_DivDown; exact cond_f h1 (cond_t h2 (rfl))
      exact TE.ret [] (.tuple #[.int .i64 0, .int .i64 2]) ⟨by kernel_rfl, by kernel_rfl⟩ (by rw [e]; first | done | kernel_rfl)
    · refine TC.skip ?_
      refine TE.normal_block ?_
      refine TE.next ?_
      refine TC.seq ?_
      refine TC.region ?_
      refine TL.run 2 [] [(0, .int .i64 a), (1, .int .i64 b_), (17, .int .i64 a), (18, .int .i64 b_)] rfl ⟨by kernel_rfl, by kernel_rfl⟩ ?_
      refine TL.val (sV (binOp .quo 3 (.int .i64 a) (.int .i64 b_))) (some 19) (.int .i64 (w64 (a.tdiv b_))) [(0, .int .i64 a), (1, .int .i64 b_), (19, .int .i64 (w64 (a.tdiv b_)))] (fun w hM => run_quo (by have q0_ := (beq_f h1); have q1_ := ((and_f h2).imp (fun h => (beq_f h)) (fun h => (beq_f h))); first | omega | (simp only [List.length_drop]; omega) | (simp only [w64_eq]; omega) | exact (tm_in (by (first | (rw [w64_id (by omega)]; omega) | (simp only [w64_eq]; omega))) (by omega)).1 | exact (tm_in (by (first | (rw [w64_id (by omega)]; omega) | (simp only [w64_eq]; omega))) (by omega)).2.1 | exact (tm_in (by (first | (rw [w64_id (by omega)]; omega) | (simp only [w64_eq]; omega))) (by omega)).2.2 | (simp <;> omega))) (by kernel_rfl) (by kernel_rfl) ?_
      refine TL.run 4 [] [(0, .int .i64 a), (1, .int .i64 b_), (6, .int .i64 (w64 (a.tdiv b_)))] rfl ⟨by kernel_rfl, by kernel_rfl⟩ ?_
      refine TL.next rfl ?_
      refine TC.seq ?_
      refine TC.seq ?_
      refine TC.region ?_
      refine TL.run 2 [] [(0, .int .i64 a), (1, .int .i64 b_), (6, .int .i64 (w64 (a.tdiv b_))), (20, .int .i64 a), (21, .int .i64 b_)] rfl ⟨by kernel_rfl, by kernel_rfl⟩ ?_
      refine TL.val (sV (binOp .rem 3 (.int .i64 a) (.int .i64 b_))) (some 22) (.int .i64 (a.tmod b_)) [(0, .int .i64 a), (1, .int .i64 b_), (6, .int .i64 (w64 (a.tdiv b_))), (22, .int .i64 (a.tmod b_))] (fun w hM => run_rem (by have q0_ := (beq_f h1); have q1_ := ((and_f h2).imp (fun h => (beq_f h)) (fun h => (beq_f h))); first | omega | (simp only [List.length_drop]; omega) | (simp only [w64_eq]; omega) | exact (tm_in (by (first | (rw [w64_id (by omega)]; omega) | (simp only [w64_eq]; omega))) (by omega)).1 | exact (tm_in (by (first | (rw [w64_id (by omega)]; omega) | (simp only [w64_eq]; omega))) (by omega)).2.1 | exact (tm_in (by (first | (rw [w64_id (by omega)]; omega) | (simp only [w64_eq]; omega))) (by omega)).2.2 | (simp <;> omega))) (by kernel_rfl) (by kernel_rfl) ?_
      refine TL.run 5 [] [(0, .int .i64 a), (1, .int .i64 b_), (6, .int .i64 (w64 (a.tdiv b_))), (24, .bool ((a.tmod b_) != 0))] rfl ⟨by kernel_rfl, by kernel_rfl⟩ ?_
      refine TL.join 24 ((a.tmod b_) != 0) 11 [] [] (fun β => [(6, .int .i64 (w64 (a.tdiv b_))), (30, .bool (β && (!((decide (a < 0)) == (decide (b_ < 0))))))]) (by kernel_rfl) rfl ⟨by kernel_rfl, by kernel_rfl⟩ ⟨by kernel_rfl, by kernel_rfl⟩ ?_
      refine TL.next rfl ?_
      refine TC.cond (((a.tmod b_) != 0) && (!((decide (a < 0)) == (decide (b_ < 0))))) rfl (by kernel_rfl) (fun h3 => ?_) (fun h3 => ?_)
      · refine TC.region ?_
        refine TL.run 3 [] [(6, .int .i64 (w64 ((w64 (a.tdiv b_)) - 1)))] rfl ⟨by kernel_rfl, by kernel_rfl⟩ ?_
        refine TL.next rfl ?_
        refine TC.seq ?_
        refine TC.region ?_
        refine TL.run 3 [] [(4, .int .i64 (w64 ((w64 (a.tdiv b_)) - 1))), (5, .int .i64 0)] rfl ⟨by kernel_rfl, by kernel_rfl⟩ ?_
        refine TL.next rfl ?_
        refine TC.ret ?_
        have e : num_DivDown a b_ = (w64 ((w64 (a.tdiv b_)) - 1), 0) := by unfold num_DivDown; exact cond_f h1 (cond_f h2 (cond_t h3 (rfl)))
        exact TE.ret [] (.tuple #[.int .i64 (w64 ((w64 (a.tdiv b_)) - 1)), .int .i64 0]) ⟨by kernel_rfl, by kernel_rfl⟩ (by rw [e]; first | done | kernel_rfl)
      · refine TC.skip ?_
        refine TE.next ?_
        refine TC.seq ?_
        refine TC.region ?_
        refine TL.run 3 [] [(4, .int .i64 (w64 (a.tdiv b_))), (5, .int .i64 0)] rfl ⟨by kernel_rfl, by kernel_rfl⟩ ?_
        refine TL.next rfl ?_
        refine TC.ret ?_
        have e : num_DivDown a b_ = (w64 (a.tdiv b_), 0) := by unfold num_DivDown; exact cond_f h1 (cond_f h2 (cond_f h3 (rfl)))
        exact TE.ret [] (.tuple #[.int .i64 (w64 (a.tdiv b_)), .int .i64 0]) ⟨by kernel_rfl, by kernel_rfl⟩ (by rw [e]; first | done | kernel_rfl)

def num_DivUp (a : Int) (b_ : Int) : Int × Int :=
  let r1 := num_DivDown a b_
  cond (r1.2 == 0) (
    cond ((a.tmod b_) != 0) (
      (w64 (r1.1 + 1), r1.2)) (
      (r1.1, r1.2))) (
    (r1.1, r1.2))

theorem divUp_ne {a b : Int} {r : Int × Int} (hr : num_DivDown a b = r) (h : (r.2 == 0) = true) : b ≠ 0 := by
  rintro rfl; subst hr; revert h; simp [num_DivDown]

set_option maxRecDepth 100000 in
theorem num_DivUp_w (a : Int) (b_ : Int) (w : World) : Calls Try.prog 95 #[.int .i64 a, .int .i64 b_] w (Ret w (.tuple #[.int .i64 ((num_DivUp a b_).1), .int .i64 ((num_DivUp a b_).2)])) := by
  refine calls_intro (vs := [.int .i64 a, .int .i64 b_]) (w := w) Try.func95 rfl Try.ntmps95 rfl ?_
  refine TC.weak [(0, .int .i64 a), (1, .int .i64 b_)] (by kernel_rfl) ?_
  refine TC.seq ?_
  refine TC.region ?_
  refine TL.run 2 [] [(0, .int .i64 a), (1, .int .i64 b_)] rfl ⟨by kernel_rfl, by kernel_rfl⟩ ?_
  refine TL.next rfl ?_
  refine TC.seq ?_
  refine TC.region ?_
  refine TL.run 2 [] [(0, .int .i64 a), (1, .int .i64 b_), (9, .int .i64 a), (10, .int .i64 b_)] rfl ⟨by kernel_rfl, by kernel_rfl⟩ ?_
  refine TL.call (some 11) [(0, .int .i64 a), (1, .int .i64 b_), (11, .tuple #[.int .i64 ((num_DivDown a b_).1), .int .i64 ((num_DivDown a b_).2)])] (fun w _ => num_DivDown_w a b_ w) (by kernel_rfl) (by kernel_rfl) ?_
  generalize hr1 : num_DivDown a b_ = r1
  refine TL.run 8 [] [(0, .int .i64 a), (1, .int .i64 b_), (6, .int .i64 r1.1), (7, .int .i64 r1.2)] rfl ⟨by kernel_rfl, by kernel_rfl⟩ ?_
  refine TL.next rfl ?_
  refine TC.seq ?_
  refine TC.seq ?_
  refine TC.region ?_
  refine TL.run 3 [] [(0, .int .i64 a), (1, .int .i64 b_), (6, .int .i64 r1.1), (7, .int .i64 r1.2), (16, .bool (r1.2 == 0))] rfl ⟨by kernel_rfl, by kernel_rfl⟩ ?_
  refine TL.split 16 (r1.2 == 0) (by kernel_rfl) (fun h1 => ?_) (fun h1 => ?_)
  · refine TL.run 5 [] [(6, .int .i64 r1.1), (7, .int .i64 r1.2), (16, .bool true), (17, .int .i64 a), (18, .int .i64 b_)] rfl ⟨by kernel_rfl, by kernel_rfl⟩ ?_
    refine TL.val (sV (binOp .rem 3 (.int .i64 a) (.int .i64 b_))) (some 19) (.int .i64 (a.tmod b_)) [(6, .int .i64 r1.1), (7, .int .i64 r1.2), (16, .bool true), (19, .int .i64 (a.tmod b_))] (fun w hM => run_rem (divUp_ne hr1 h1)) (by kernel_rfl) (by kernel_rfl) ?_
    refine TL.run 8 [] [(6, .int .i64 r1.1), (7, .int .i64 r1.2), (21, .bool ((a.tmod b_) != 0))] rfl ⟨by kernel_rfl, by kernel_rfl⟩ ?_
    refine TL.next rfl ?_
    refine TC.cond ((a.tmod b_) != 0) rfl (by kernel_rfl) (fun h2 => ?_) (fun h2 => ?_)
    · refine TC.region ?_
      refine TL.run 3 [] [(6, .int .i64 (w64 (r1.1 + 1))), (7, .int .i64 r1.2)] rfl ⟨by kernel_rfl, by kernel_rfl⟩ ?_
      refine TL.next rfl ?_
      refine TC.seq ?_
      refine TC.region ?_
      refine TL.run 4 [] [(4, .int .i64 (w64 (r1.1 + 1))), (5, .int .i64 r1.2)] rfl ⟨by kernel_rfl, by kernel_rfl⟩ ?_
      refine TL.next rfl ?_
      refine TC.ret ?_
      have e : num_DivUp a b_ = (w64 (r1.1 + 1), r1.2) := by subst hr1; unfold num_DivUp; exact cond_t h1 (cond_t h2 (rfl))
      exact TE.ret [] (.tuple #[.int .i64 (w64 (r1.1 + 1)), .int .i64 r1.2]) ⟨by kernel_rfl, by kernel_rfl⟩ (by rw [e]; first | done | kernel_rfl)
    · refine TC.skip ?_
      refine TE.next ?_
      refine TC.seq ?_
      refine TC.region ?_
      refine TL.run 4 [] [(4, .int .i64 r1.1), (5, .int .i64 r1.2)] rfl ⟨by kernel_rfl, by kernel_rfl⟩ ?_
      refine TL.next rfl ?_
      refine TC.ret ?_
      have e : num_DivUp a b_ = (r1.1, r1.2) := by subst hr1; unfold num_DivUp; exact cond_t h1 (cond_f h2 (rfl))
      exact TE.ret [] (.tuple #[.int .i64 r1.1, .int .i64 r1.2]) ⟨by kernel_rfl, by kernel_rfl⟩ (by rw [e]; first | done | kernel_rfl)
  · refine TL.run 8 [] [(6, .int .i64 r1.1), (7, .int .i64 r1.2), (21, .bool false)] rfl ⟨by kernel_rfl, by kernel_rfl⟩ ?_
    refine TL.next rfl ?_
    refine TC.condF rfl (by kernel_rfl) ?_
    refine TC.skip ?_
    refine TE.next ?_
    refine TC.seq ?_
    refine TC.region ?_
    refine TL.run 4 [] [(4, .int .i64 r1.1), (5, .int .i64 r1.2)] rfl ⟨by kernel_rfl, by kernel_rfl⟩ ?_
    refine TL.next rfl ?_
    refine TC.ret ?_
    have e : num_DivUp a b_ = (r1.1, r1.2) := by subst hr1; unfold num_DivUp; exact cond_f h1 (rfl)
    exact TE.ret [] (.tuple #[.int .i64 r1.1, .int .i64 r1.2]) ⟨by kernel_rfl, by kernel_rfl⟩ (by rw [e]; first | done | kernel_rfl)

def num_Root_L1 (n : Int) : Nat → Int → Int → Option Int
  | 0, _, _ => none
  | m + 1, low, high => cond (decide (low < high)) (
      cond (decide ((w64 ((w64 (low + (w64 ((w64 ((w64 (high - low)) + 1)).tdiv 2)))) * (w64 (low + (w64 ((w64 ((w64 (high - low)) + 1)).tdiv 2)))))) ≤ n)) (
        num_Root_L1 n m (w64 (low + (w64 ((w64 ((w64 (high - low)) + 1)).tdiv 2)))) high) (
        num_Root_L1 n m low (w64 ((w64 (low + (w64 ((w64 ((w64 (high - low)) + 1)).tdiv 2)))) - 1)))) (
      some (low))
def num_Root (n : Int) : Int :=
  cond (decide (n ≤ 0)) (
    0) (
    bindv ((num_Root_L1 n 34 0 3037000499).getD 0) (fun low_2 =>
      low_2))

theorem root_total (n : Int) : ∀ (j : Nat) (a b : Int), (0 ≤ a ∧ b ≤ 3037000499 ∧ b - a < 2 ^ j) → ∃ R, num_Root_L1 n (j + 1) a b = some R
  | 0, a, b, h => by
    have e : (2 : Int) ^ 0 = 1 := rfl
    have hk : decide (a < b) = false := by simp; omega
    exact ⟨a, by rw [num_Root_L1, hk]; rfl⟩
  | j + 1, a, b, h => by
    have e : (2 : Int) ^ (j + 1) = 2 * 2 ^ j := by rw [Int.pow_succ]; omega
    by_cases hk : a < b
    · have w1 : w64 (w64 (b - a) + 1) = b - a + 1 := by rw [w64_id (x := b - a) (by omega), w64_id (by omega)]
      have d1 : (b - a + 1).tdiv 2 = (b - a + 1) / 2 := Int.tdiv_eq_ediv_of_nonneg (by omega)
      have w2 : w64 ((w64 (w64 (b - a) + 1)).tdiv 2) = (b - a + 1) / 2 := by rw [w1, d1, w64_id (by omega)]
      have w3 : w64 (a + w64 ((w64 (w64 (b - a) + 1)).tdiv 2)) = a + (b - a + 1) / 2 := by rw [w2, w64_id (by omega)]
      rw [num_Root_L1, decide_eq_true hk]
      simp only [cond_true, w3]
      cases decide (w64 ((a + (b - a + 1) / 2) * (a + (b - a + 1) / 2)) ≤ n)
      · rw [cond_false, w64_id (by omega)]
        exact root_total n j a _ (by omega)
      · rw [cond_true]
        exact root_total n j _ b (by omega)
    · exact ⟨a, by rw [num_Root_L1, decide_eq_false hk]; rfl⟩

set_option maxRecDepth 100000 in
theorem num_Root_w (n : Int) (w : World) : Calls Try.prog 31 #[.int .i64 n] w (Ret w (.int .i64 (num_Root n))) := by
  refine calls_intro (vs := [.int .i64 n]) (w := w) Try.func31 rfl Try.ntmps31 rfl ?_
  refine TC.weak [(0, .int .i64 n)] (by kernel_rfl) ?_
  refine TC.seq ?_
  refine TC.region ?_
  refine TL.run 1 [] [(0, .int .i64 n)] rfl ⟨by kernel_rfl, by kernel_rfl⟩ ?_
  refine TL.next rfl ?_
  refine TC.seq ?_
  refine TC.seq ?_
  refine TC.region ?_
  refine TL.run 2 [] [(0, .int .i64 n), (7, .bool (decide (n ≤ 0)))] rfl ⟨by kernel_rfl, by kernel_rfl⟩ ?_
  refine TL.next rfl ?_
  refine TC.cond (decide (n ≤ 0)) rfl (by kernel_rfl) (fun h1 => ?_) (fun h1 => ?_)
  · refine TC.seq ?_
    refine TC.region ?_
    refine TL.run 1 [] [(2, .int .i64 0)] rfl ⟨by kernel_rfl, by kernel_rfl⟩ ?_
    refine TL.next rfl ?_
    refine TC.ret ?_
    refine TE.ret_then ?_
    have e : num_Root n = 0 := by unfold num_Root; exact cond_t h1 (rfl)
    exact TE.ret [] (.int .i64 0) ⟨by kernel_rfl, by kernel_rfl⟩ (by rw [e]; first | done | kernel_rfl)
  · refine TC.skip ?_
    refine TE.next ?_
    refine TC.seq ?_
    refine TC.region ?_
    refine TL.run 2 [] [(0, .int .i64 n), (3, .int .i64 0), (4, .int .i64 3037000499)] rfl ⟨by kernel_rfl, by kernel_rfl⟩ ?_
    refine TL.next rfl ?_
    refine TC.seq ?_
    refine TC.weak [(0, .int .i64 n), (3, .int .i64 0), (4, .int .i64 3037000499)] (by kernel_rfl) ?_
    obtain ⟨R1, hR⟩ : ∃ R, num_Root_L1 n 34 0 3037000499 = some R := root_total n 33 0 3037000499 (by omega)
    refine TC.cut (S := Int) (fun low_2 => [(3, .int .i64 low_2)]) (fun low_2 => []) (fun low_2 => R1 = low_2) ?_ ?_
    · refine TC.block ?_
      refine TC.loop (X := Nat × Int × Int) (fun (m, low, high) => [(0, .int .i64 n), (3, .int .i64 low), (4, .int .i64 high)]) (fun (m, low, high) => []) (fun (m, low, high) => m) (fun (m, low, high) => num_Root_L1 n m low high = some R1) ?_ (34, 0, 3037000499) hR
      rintro ⟨m, low, high⟩ hI
      rcases m with _ | m
      · cases hI
      refine TC.seq ?_
      refine TC.seq ?_
      refine TC.region ?_
      refine TL.run 3 [] [(0, .int .i64 n), (3, .int .i64 low), (4, .int .i64 high), (10, .bool (decide (low < high)))] rfl ⟨by kernel_rfl, by kernel_rfl⟩ ?_
      refine TL.next rfl ?_
      refine TC.cond (decide (low < high)) rfl (by kernel_rfl) (fun h2 => ?_) (fun h2 => ?_)
      · refine TC.skip ?_
        refine TE.next ?_
        refine TC.block ?_
        refine TC.seq ?_
        refine TC.region ?_
        refine TL.run 8 [] [(0, .int .i64 n), (3, .int .i64 low), (4, .int .i64 high), (5, .int .i64 (w64 (low + (w64 ((w64 ((w64 (high - low)) + 1)).tdiv 2)))))] rfl ⟨by kernel_rfl, by kernel_rfl⟩ ?_
        refine TL.next rfl ?_
        refine TC.seq ?_
        refine TC.region ?_
        refine TL.run 5 [] [(0, .int .i64 n), (3, .int .i64 low), (4, .int .i64 high), (5, .int .i64 (w64 (low + (w64 ((w64 ((w64 (high - low)) + 1)).tdiv 2))))), (22, .bool (decide ((w64 ((w64 (low + (w64 ((w64 ((w64 (high - low)) + 1)).tdiv 2)))) * (w64 (low + (w64 ((w64 ((w64 (high - low)) + 1)).tdiv 2)))))) ≤ n)))] rfl ⟨by kernel_rfl, by kernel_rfl⟩ ?_
        refine TL.next rfl ?_
        refine TC.cond (decide ((w64 ((w64 (low + (w64 ((w64 ((w64 (high - low)) + 1)).tdiv 2)))) * (w64 (low + (w64 ((w64 ((w64 (high - low)) + 1)).tdiv 2)))))) ≤ n)) rfl (by kernel_rfl) (fun h3 => ?_) (fun h3 => ?_)
        · refine TC.region ?_
          refine TL.run 2 [] [(0, .int .i64 n), (3, .int .i64 (w64 (low + (w64 ((w64 ((w64 (high - low)) + 1)).tdiv 2))))), (4, .int .i64 high)] rfl ⟨by kernel_rfl, by kernel_rfl⟩ ?_
          refine TL.done rfl ?_
          refine TE.normal_block ?_
          exact TE.again (x := (m + 1, low, high)) (m, w64 (low + (w64 ((w64 ((w64 (high - low)) + 1)).tdiv 2))), high) (by exact (Eq.symm (cond_t h2 (cond_t h3 (rfl)))).trans hI) (Nat.lt_succ_self _) (by kernel_rfl) (.slnil)
        · refine TC.region ?_
          refine TL.run 3 [] [(0, .int .i64 n), (3, .int .i64 low), (4, .int .i64 (w64 ((w64 (low + (w64 ((w64 ((w64 (high - low)) + 1)).tdiv 2)))) - 1)))] rfl ⟨by kernel_rfl, by kernel_rfl⟩ ?_
          refine TL.done rfl ?_
          refine TE.normal_block ?_
          exact TE.again (x := (m + 1, low, high)) (m, low, w64 ((w64 (low + (w64 ((w64 ((w64 (high - low)) + 1)).tdiv 2)))) - 1)) (by exact (Eq.symm (cond_t h2 (cond_f h3 (rfl)))).trans hI) (Nat.lt_succ_self _) (by kernel_rfl) (.slnil)
      · refine TC.exit ?_
        refine TE.exit_then (TE.exit_then (TE.exit_same ?_))
        exact TE.cut low (Option.some.inj (hI.symm.trans (by exact cond_f h2 (rfl)))) (by kernel_rfl) (.slnil)
    · rintro low_2 hJ
      refine TE.next ?_
      refine TC.seq ?_
      refine TC.region ?_
      refine TL.run 2 [] [(2, .int .i64 low_2)] rfl ⟨by kernel_rfl, by kernel_rfl⟩ ?_
      refine TL.next rfl ?_
      refine TC.ret ?_
      have e : num_Root n = low_2 := by unfold num_Root; exact cond_f h1 (bindv_eq ((congrArg (Option.getD · _) hR).trans hJ) (rfl))
      exact TE.ret [] (.int .i64 low_2) ⟨by kernel_rfl, by kernel_rfl⟩ (by rw [e]; first | done | kernel_rfl)

def plane_Distance (a : P) (b_ : P) : Int × Int :=
  let r1 := plane_Square a b_
  let r2 := num_Root r1
  cond (decide ((w64 (r2 * r2)) < r1)) (
    (r2, w64 (r2 + 1))) (
    (r2, r2))

set_option maxRecDepth 100000 in
theorem plane_Distance_w (a : P) (b_ : P) (w : World) : Calls Try.prog 55 #[P.v a, P.v b_] w (Ret w (.tuple #[.int .i64 ((plane_Distance a b_).1), .int .i64 ((plane_Distance a b_).2)])) := by
  refine calls_intro (vs := [P.v a, P.v b_]) (w := w) Try.func55 rfl Try.ntmps55 rfl ?_
  refine TC.weak [(0, P.v a), (1, P.v b_)] (by kernel_rfl) ?_
  refine TC.seq ?_
  refine TC.region ?_
  refine TL.write 0 (fun b1 => [(1, P.v b_), (2, .pointer (some ⟨b1, 0, none⟩))]) (fun b1 => [.inl (b1, .cells (P.c a) 25 (0, 0))]) (fun b1 => ⟨by kernel_rfl, by kernel_rfl⟩) (fun b1 => ?_)
  refine TL.write 0 (fun b2 => [(2, .pointer (some ⟨b1, 0, none⟩)), (3, .pointer (some ⟨b2, 0, none⟩))]) (fun b2 => [.inl (b2, .cells (P.c b_) 25 (0, 0)), .inl (b1, .cells (P.c a) 25 (0, 0))]) (fun b2 => ⟨by kernel_rfl, by kernel_rfl⟩) (fun b2 => ?_)
  refine TL.run 4 [] [(2, .pointer (some ⟨b1, 0, none⟩)), (3, .pointer (some ⟨b2, 0, none⟩))] rfl ⟨by kernel_rfl, by kernel_rfl⟩ ?_
  refine TL.next rfl ?_
  refine TC.seq ?_
  refine TC.region ?_
  refine TL.run 2 [1, 0] [(8, P.v a), (9, P.v b_)] rfl ⟨by kernel_rfl, by kernel_rfl⟩ ?_
  refine TL.call (some 10) [(10, .int .i64 (plane_Square a b_))] (fun w _ => plane_Square_w a b_ w) (by kernel_rfl) (by kernel_rfl) ?_
  generalize hr1 : plane_Square a b_ = r1
  refine TL.run 4 [] [(6, .int .i64 r1)] rfl ⟨by kernel_rfl, by kernel_rfl⟩ ?_
  refine TL.next rfl ?_
  refine TC.seq ?_
  refine TC.region ?_
  refine TL.run 1 [] [(6, .int .i64 r1), (11, .int .i64 r1)] rfl ⟨by kernel_rfl, by kernel_rfl⟩ ?_
  refine TL.call (some 12) [(6, .int .i64 r1), (12, .int .i64 (num_Root r1))] (fun w _ => num_Root_w r1 w) (by kernel_rfl) (by kernel_rfl) ?_
  generalize hr2 : num_Root r1 = r2
  refine TL.run 3 [] [(6, .int .i64 r1), (7, .int .i64 r2)] rfl ⟨by kernel_rfl, by kernel_rfl⟩ ?_
  refine TL.next rfl ?_
  refine TC.seq ?_
  refine TC.seq ?_
  refine TC.region ?_
  refine TL.run 5 [] [(7, .int .i64 r2), (17, .bool (decide ((w64 (r2 * r2)) < r1)))] rfl ⟨by kernel_rfl, by kernel_rfl⟩ ?_
  refine TL.next rfl ?_
  refine TC.cond (decide ((w64 (r2 * r2)) < r1)) rfl (by kernel_rfl) (fun h1 => ?_) (fun h1 => ?_)
  · refine TC.seq ?_
    refine TC.region ?_
    refine TL.run 5 [] [(4, .int .i64 r2), (5, .int .i64 (w64 (r2 + 1)))] rfl ⟨by kernel_rfl, by kernel_rfl⟩ ?_
    refine TL.next rfl ?_
    refine TC.ret ?_
    refine TE.ret_then ?_
    have e : plane_Distance a b_ = (r2, w64 (r2 + 1)) := by subst hr1 hr2; unfold plane_Distance; exact cond_t h1 (rfl)
    exact TE.ret [] (.tuple #[.int .i64 r2, .int .i64 (w64 (r2 + 1))]) ⟨by kernel_rfl, by kernel_rfl⟩ (by rw [e]; first | done | kernel_rfl)
  · refine TC.skip ?_
    refine TE.next ?_
    refine TC.seq ?_
    refine TC.region ?_
    refine TL.run 4 [] [(4, .int .i64 r2), (5, .int .i64 r2)] rfl ⟨by kernel_rfl, by kernel_rfl⟩ ?_
    refine TL.next rfl ?_
    refine TC.ret ?_
    have e : plane_Distance a b_ = (r2, r2) := by subst hr1 hr2; unfold plane_Distance; exact cond_f h1 (rfl)
    exact TE.ret [] (.tuple #[.int .i64 r2, .int .i64 r2]) ⟨by kernel_rfl, by kernel_rfl⟩ (by rw [e]; first | done | kernel_rfl)

def plane_Turn (a : P) (b_ : P) (c : P) : Int :=
  let r1 := plane_Sub b_ a
  let r2 := plane_Sub c a
  let r3 := plane_Cross r1 r2
  cond (decide (r3 > 0)) (
    1) (
    cond (decide (r3 < 0)) (
      (-1)) (
      0))

set_option maxRecDepth 100000 in
theorem plane_Turn_w (a : P) (b_ : P) (c : P) (w : World) : Calls Try.prog 56 #[P.v a, P.v b_, P.v c] w (Ret w (.int .i64 (plane_Turn a b_ c))) := by
  refine calls_intro (vs := [P.v a, P.v b_, P.v c]) (w := w) Try.func56 rfl Try.ntmps56 rfl ?_
  refine TC.weak [(0, P.v a), (1, P.v b_), (2, P.v c)] (by kernel_rfl) ?_
  refine TC.seq ?_
  refine TC.region ?_
  refine TL.write 0 (fun b1 => [(1, P.v b_), (2, P.v c), (3, .pointer (some ⟨b1, 0, none⟩))]) (fun b1 => [.inl (b1, .cells (P.c a) 25 (0, 0))]) (fun b1 => ⟨by kernel_rfl, by kernel_rfl⟩) (fun b1 => ?_)
  refine TL.write 0 (fun b2 => [(2, P.v c), (3, .pointer (some ⟨b1, 0, none⟩)), (4, .pointer (some ⟨b2, 0, none⟩))]) (fun b2 => [.inl (b2, .cells (P.c b_) 25 (0, 0)), .inl (b1, .cells (P.c a) 25 (0, 0))]) (fun b2 => ⟨by kernel_rfl, by kernel_rfl⟩) (fun b2 => ?_)
  refine TL.write 0 (fun b3 => [(3, .pointer (some ⟨b1, 0, none⟩)), (4, .pointer (some ⟨b2, 0, none⟩)), (5, .pointer (some ⟨b3, 0, none⟩))]) (fun b3 => [.inl (b3, .cells (P.c c) 25 (0, 0)), .inl (b2, .cells (P.c b_) 25 (0, 0)), .inl (b1, .cells (P.c a) 25 (0, 0))]) (fun b3 => ⟨by kernel_rfl, by kernel_rfl⟩) (fun b3 => ?_)
  refine TL.run 4 [] [(3, .pointer (some ⟨b1, 0, none⟩)), (4, .pointer (some ⟨b2, 0, none⟩)), (5, .pointer (some ⟨b3, 0, none⟩))] rfl ⟨by kernel_rfl, by kernel_rfl⟩ ?_
  refine TL.next rfl ?_
  refine TC.seq ?_
  refine TC.seq ?_
  refine TC.draw 8 (by kernel_rfl) (by kernel_rfl) (by kernel_rfl) ?_
  refine TQ.run 2 [1, 2] [(3, .pointer (some ⟨b1, 0, none⟩)), (5, .pointer (some ⟨b3, 0, none⟩)), (8, P.v b_), (9, P.v a)] rfl ⟨by kernel_rfl, by kernel_rfl⟩ ?_
  refine TQ.call (some 10) [(3, .pointer (some ⟨b1, 0, none⟩)), (5, .pointer (some ⟨b3, 0, none⟩)), (10, P.v (plane_Sub b_ a))] (fun w _ => plane_Sub_w b_ a w) rfl (by kernel_rfl) (by kernel_rfl) ?_
  generalize hr1 : plane_Sub b_ a = r1
  refine TQ.run 5 [0, 2] [(10, P.v r1), (11, P.v c), (12, P.v a)] rfl ⟨by kernel_rfl, by kernel_rfl⟩ ?_
  refine TQ.call (some 13) [(10, P.v r1), (13, P.v (plane_Sub c a))] (fun w _ => plane_Sub_w c a w) rfl (by kernel_rfl) (by kernel_rfl) ?_
  generalize hr2 : plane_Sub c a = r2
  refine TQ.call (some 14) [(14, .int .i64 (plane_Cross r1 r2))] (fun w _ => plane_Cross_w r1 r2 w) rfl (by kernel_rfl) (by kernel_rfl) ?_
  generalize hr3 : plane_Cross r1 r2 = r3
  refine TQ.run 8 [] [(7, .int .i64 r3)] rfl ⟨by kernel_rfl, by kernel_rfl⟩ ?_
  refine TQ.next rfl ?_
  refine TC.block ?_
  refine TC.seq ?_
  refine TC.region ?_
  refine TL.run 3 [] [(7, .int .i64 r3), (15, .bool (decide (r3 > 0)))] rfl ⟨by kernel_rfl, by kernel_rfl⟩ ?_
  refine TL.next rfl ?_
  refine TC.cond (decide (r3 > 0)) rfl (by kernel_rfl) (fun h1 => ?_) (fun h1 => ?_)
  · refine TC.seq ?_
    refine TC.region ?_
    refine TL.run 1 [] [(6, .int .i64 1)] rfl ⟨by kernel_rfl, by kernel_rfl⟩ ?_
    refine TL.next rfl ?_
    refine TC.ret ?_
    refine TE.ret_block (TE.ret_then ?_)
    have e : plane_Turn a b_ c = 1 := by subst hr1 hr2 hr3; unfold plane_Turn; exact cond_t h1 (rfl)
    exact TE.ret [] (.int .i64 1) ⟨by kernel_rfl, by kernel_rfl⟩ (by rw [e]; first | done | kernel_rfl)
  · refine TC.seq ?_
    refine TC.region ?_
    refine TL.run 3 [] [(18, .bool (decide (r3 < 0)))] rfl ⟨by kernel_rfl, by kernel_rfl⟩ ?_
    refine TL.next rfl ?_
    refine TC.cond (decide (r3 < 0)) rfl (by kernel_rfl) (fun h2 => ?_) (fun h2 => ?_)
    · refine TC.seq ?_
      refine TC.region ?_
      refine TL.run 1 [] [(6, .int .i64 (-1))] rfl ⟨by kernel_rfl, by kernel_rfl⟩ ?_
      refine TL.next rfl ?_
      refine TC.ret ?_
      refine TE.ret_block (TE.ret_then ?_)
      have e : plane_Turn a b_ c = (-1) := by subst hr1 hr2 hr3; unfold plane_Turn; exact cond_f h1 (cond_t h2 (rfl))
      exact TE.ret [] (.int .i64 (-1)) ⟨by kernel_rfl, by kernel_rfl⟩ (by rw [e]; first | done | kernel_rfl)
    · refine TC.skip ?_
      refine TE.normal_block ?_
      refine TE.next ?_
      refine TC.seq ?_
      refine TC.region ?_
      refine TL.run 1 [] [(6, .int .i64 0)] rfl ⟨by kernel_rfl, by kernel_rfl⟩ ?_
      refine TL.next rfl ?_
      refine TC.ret ?_
      have e : plane_Turn a b_ c = 0 := by subst hr1 hr2 hr3; unfold plane_Turn; exact cond_f h1 (cond_f h2 (rfl))
      exact TE.ret [] (.int .i64 0) ⟨by kernel_rfl, by kernel_rfl⟩ (by rw [e]; first | done | kernel_rfl)

def plane_Toward (a : P) (b_ : P) (n : Int) (d : Int) : P × Int :=
  cond (decide (d ≤ 0)) (
    ((⟨0, 0⟩ : P), 10)) (
    cond (((decide (d > 200000)) || (decide (n < 0))) || (decide (n > d))) (
      ((⟨0, 0⟩ : P), 4)) (
      let r1 := plane_Check a
      cond (r1 != 0) (
        let r2 := plane_Check a
        ((⟨0, 0⟩ : P), r2)) (
        let r3 := plane_Check b_
        cond (r3 != 0) (
          let r4 := plane_Check b_
          ((⟨0, 0⟩ : P), r4)) (
          let r5 := num_DivDown (w64 ((w64 (b_.X - a.X)) * n)) d
          let r6 := num_DivDown (w64 ((w64 (b_.Y - a.Y)) * n)) d
          ((⟨w64 (a.X + r5.1), w64 (a.Y + r6.1)⟩ : P), 0)))))

set_option maxRecDepth 100000 in
theorem plane_Toward_w (a : P) (b_ : P) (n : Int) (d : Int) (w : World) : Calls Try.prog 19 #[P.v a, P.v b_, .int .i64 n, .int .i64 d] w (Ret w (.tuple #[P.v ((plane_Toward a b_ n d).1), .int .i64 ((plane_Toward a b_ n d).2)])) := by
  refine calls_intro (vs := [P.v a, P.v b_, .int .i64 n, .int .i64 d]) (w := w) Try.func19 rfl Try.ntmps19 rfl ?_
  refine TC.weak [(0, P.v a), (1, P.v b_), (2, .int .i64 n), (3, .int .i64 d)] (by kernel_rfl) ?_
  refine TC.seq ?_
  refine TC.region ?_
  refine TL.write 0 (fun b1 => [(1, P.v b_), (2, .int .i64 n), (3, .int .i64 d), (4, .pointer (some ⟨b1, 0, none⟩))]) (fun b1 => [.inl (b1, .cells (P.c a) 25 (0, 0))]) (fun b1 => ⟨by kernel_rfl, by kernel_rfl⟩) (fun b1 => ?_)
  refine TL.write 0 (fun b2 => [(2, .int .i64 n), (3, .int .i64 d), (4, .pointer (some ⟨b1, 0, none⟩)), (5, .pointer (some ⟨b2, 0, none⟩))]) (fun b2 => [.inl (b2, .cells (P.c b_) 25 (0, 0)), .inl (b1, .cells (P.c a) 25 (0, 0))]) (fun b2 => ⟨by kernel_rfl, by kernel_rfl⟩) (fun b2 => ?_)
  refine TL.write 0 (fun b3 => [(2, .int .i64 n), (3, .int .i64 d), (4, .pointer (some ⟨b1, 0, none⟩)), (5, .pointer (some ⟨b2, 0, none⟩)), (8, .pointer (some ⟨b3, 0, none⟩))]) (fun b3 => [.inl (b3, .cells (P.c P.zero) 25 (0, 0)), .inl (b2, .cells (P.c b_) 25 (0, 0)), .inl (b1, .cells (P.c a) 25 (0, 0))]) (fun b3 => ⟨by kernel_rfl, by kernel_rfl⟩) (fun b3 => ?_)
  refine TL.run 4 [] [(2, .int .i64 n), (3, .int .i64 d), (4, .pointer (some ⟨b1, 0, none⟩)), (5, .pointer (some ⟨b2, 0, none⟩)), (8, .pointer (some ⟨b3, 0, none⟩))] rfl ⟨by kernel_rfl, by kernel_rfl⟩ ?_
  refine TL.next rfl ?_
  refine TC.seq ?_
  refine TC.block ?_
  refine TC.seq ?_
  refine TC.region ?_
  refine TL.run 3 [] [(2, .int .i64 n), (3, .int .i64 d), (4, .pointer (some ⟨b1, 0, none⟩)), (5, .pointer (some ⟨b2, 0, none⟩)), (8, .pointer (some ⟨b3, 0, none⟩)), (14, .bool (decide (d ≤ 0)))] rfl ⟨by kernel_rfl, by kernel_rfl⟩ ?_
  refine TL.next rfl ?_
  refine TC.cond (decide (d ≤ 0)) rfl (by kernel_rfl) (fun h1 => ?_) (fun h1 => ?_)
  · refine TC.seq ?_
    refine TC.region ?_
    refine TL.run 1 [] [(8, .pointer (some ⟨b3, 0, none⟩)), (17, P.v P.zero)] rfl ⟨by kernel_rfl, by kernel_rfl⟩ ?_
    refine TL.write 0 (fun _ => [(8, .pointer (some ⟨b3, 0, none⟩))]) (fun _ => [.inl (b3, .cells (P.c P.zero) 25 (0, 0)), .inl (b2, .cells (P.c b_) 25 (0, 0)), .inl (b1, .cells (P.c a) 25 (0, 0))]) (fun _ => ⟨by kernel_rfl, by kernel_rfl⟩) (fun _ => ?_)
    refine TL.run 3 [] [(8, .pointer (some ⟨b3, 0, none⟩)), (9, .int .i64 10)] rfl ⟨by kernel_rfl, by kernel_rfl⟩ ?_
    refine TL.next rfl ?_
    refine TC.ret ?_
    refine TE.ret_block (TE.ret_then ?_)
    have e : plane_Toward a b_ n d = ((⟨0, 0⟩ : P), 10) := by unfold plane_Toward; exact cond_t h1 (rfl)
    exact TE.ret [0] (.tuple #[.agg #[.int .i64 0, .int .i64 0], .int .i64 10]) ⟨by kernel_rfl, by kernel_rfl⟩ (by rw [e]; first | done | kernel_rfl)
  · refine TC.seq ?_
    refine TC.region ?_
    refine TL.run 3 [] [(2, .int .i64 n), (3, .int .i64 d), (4, .pointer (some ⟨b1, 0, none⟩)), (5, .pointer (some ⟨b2, 0, none⟩)), (8, .pointer (some ⟨b3, 0, none⟩)), (21, .bool (decide (d > 200000)))] rfl ⟨by kernel_rfl, by kernel_rfl⟩ ?_
    refine TL.join 21 (decide (d > 200000)) 6 [] [] (fun β => [(2, .int .i64 n), (3, .int .i64 d), (4, .pointer (some ⟨b1, 0, none⟩)), (5, .pointer (some ⟨b2, 0, none⟩)), (8, .pointer (some ⟨b3, 0, none⟩)), (24, .bool (β || (decide (n < 0))))]) (by kernel_rfl) rfl ⟨by kernel_rfl, by kernel_rfl⟩ ⟨by kernel_rfl, by kernel_rfl⟩ ?_
    refine TL.run 7 [] [(2, .int .i64 n), (3, .int .i64 d), (4, .pointer (some ⟨b1, 0, none⟩)), (5, .pointer (some ⟨b2, 0, none⟩)), (8, .pointer (some ⟨b3, 0, none⟩)), (25, .bool ((decide (d > 200000)) || (decide (n < 0))))] rfl ⟨by kernel_rfl, by kernel_rfl⟩ ?_
    refine TL.join 25 ((decide (d > 200000)) || (decide (n < 0))) 11 [] [] (fun β => [(2, .int .i64 n), (3, .int .i64 d), (4, .pointer (some ⟨b1, 0, none⟩)), (5, .pointer (some ⟨b2, 0, none⟩)), (8, .pointer (some ⟨b3, 0, none⟩)), (29, .bool (β || (decide (n > d))))]) (by kernel_rfl) rfl ⟨by kernel_rfl, by kernel_rfl⟩ ⟨by kernel_rfl, by kernel_rfl⟩ ?_
    refine TL.run 12 [] [(2, .int .i64 n), (3, .int .i64 d), (4, .pointer (some ⟨b1, 0, none⟩)), (5, .pointer (some ⟨b2, 0, none⟩)), (8, .pointer (some ⟨b3, 0, none⟩)), (18, .bool (((decide (d > 200000)) || (decide (n < 0))) || (decide (n > d))))] rfl ⟨by kernel_rfl, by kernel_rfl⟩ ?_
    refine TL.next rfl ?_
    refine TC.cond (((decide (d > 200000)) || (decide (n < 0))) || (decide (n > d))) rfl (by kernel_rfl) (fun h2 => ?_) (fun h2 => ?_)
    · refine TC.seq ?_
      refine TC.region ?_
      refine TL.run 1 [] [(8, .pointer (some ⟨b3, 0, none⟩)), (30, P.v P.zero)] rfl ⟨by kernel_rfl, by kernel_rfl⟩ ?_
      refine TL.write 0 (fun _ => [(8, .pointer (some ⟨b3, 0, none⟩))]) (fun _ => [.inl (b3, .cells (P.c P.zero) 25 (0, 0)), .inl (b2, .cells (P.c b_) 25 (0, 0)), .inl (b1, .cells (P.c a) 25 (0, 0))]) (fun _ => ⟨by kernel_rfl, by kernel_rfl⟩) (fun _ => ?_)
      refine TL.run 3 [] [(8, .pointer (some ⟨b3, 0, none⟩)), (9, .int .i64 4)] rfl ⟨by kernel_rfl, by kernel_rfl⟩ ?_
      refine TL.next rfl ?_
      refine TC.ret ?_
      refine TE.ret_block (TE.ret_then ?_)
      have e : plane_Toward a b_ n d = ((⟨0, 0⟩ : P), 4) := by unfold plane_Toward; exact cond_f h1 (cond_t h2 (rfl))
      exact TE.ret [0] (.tuple #[.agg #[.int .i64 0, .int .i64 0], .int .i64 4]) ⟨by kernel_rfl, by kernel_rfl⟩ (by rw [e]; first | done | kernel_rfl)
    · refine TC.seq ?_
      refine TC.region ?_
      refine TL.run 1 [2] [(2, .int .i64 n), (3, .int .i64 d), (4, .pointer (some ⟨b1, 0, none⟩)), (5, .pointer (some ⟨b2, 0, none⟩)), (8, .pointer (some ⟨b3, 0, none⟩)), (32, P.v a)] rfl ⟨by kernel_rfl, by kernel_rfl⟩ ?_
      refine TL.call (some 33) [(2, .int .i64 n), (3, .int .i64 d), (4, .pointer (some ⟨b1, 0, none⟩)), (5, .pointer (some ⟨b2, 0, none⟩)), (8, .pointer (some ⟨b3, 0, none⟩)), (33, .int .i64 (plane_Check a))] (fun w _ => plane_Check_w a w) (by kernel_rfl) (by kernel_rfl) ?_
      generalize hr1 : plane_Check a = r1
      refine TL.run 4 [] [(2, .int .i64 n), (3, .int .i64 d), (4, .pointer (some ⟨b1, 0, none⟩)), (5, .pointer (some ⟨b2, 0, none⟩)), (8, .pointer (some ⟨b3, 0, none⟩)), (31, .bool (r1 != 0))] rfl ⟨by kernel_rfl, by kernel_rfl⟩ ?_
      refine TL.next rfl ?_
      refine TC.cond (r1 != 0) rfl (by kernel_rfl) (fun h3 => ?_) (fun h3 => ?_)
      · refine TC.seq ?_
        refine TC.region ?_
        refine TL.run 2 [2] [(8, .pointer (some ⟨b3, 0, none⟩)), (35, P.v P.zero), (36, P.v a)] rfl ⟨by kernel_rfl, by kernel_rfl⟩ ?_
        refine TL.call (some 37) [(8, .pointer (some ⟨b3, 0, none⟩)), (35, P.v P.zero), (37, .int .i64 (plane_Check a))] (fun w _ => plane_Check_w a w) (by kernel_rfl) (by kernel_rfl) ?_
        generalize hr2 : plane_Check a = r2
        refine TL.write 0 (fun _ => [(8, .pointer (some ⟨b3, 0, none⟩)), (37, .int .i64 r2)]) (fun _ => [.inl (b3, .cells (P.c P.zero) 25 (0, 0)), .inl (b2, .cells (P.c b_) 25 (0, 0)), .inl (b1, .cells (P.c a) 25 (0, 0))]) (fun _ => ⟨by kernel_rfl, by kernel_rfl⟩) (fun _ => ?_)
        refine TL.run 5 [] [(8, .pointer (some ⟨b3, 0, none⟩)), (9, .int .i64 r2)] rfl ⟨by kernel_rfl, by kernel_rfl⟩ ?_
        refine TL.next rfl ?_
        refine TC.ret ?_
        refine TE.ret_block (TE.ret_then ?_)
        have e : plane_Toward a b_ n d = ((⟨0, 0⟩ : P), r2) := by subst hr1 hr2; unfold plane_Toward; exact cond_f h1 (cond_f h2 (cond_t h3 (rfl)))
        exact TE.ret [0] (.tuple #[.agg #[.int .i64 0, .int .i64 0], .int .i64 r2]) ⟨by kernel_rfl, by kernel_rfl⟩ (by rw [e]; first | done | kernel_rfl)
      · refine TC.seq ?_
        refine TC.region ?_
        refine TL.run 1 [1] [(2, .int .i64 n), (3, .int .i64 d), (4, .pointer (some ⟨b1, 0, none⟩)), (5, .pointer (some ⟨b2, 0, none⟩)), (8, .pointer (some ⟨b3, 0, none⟩)), (39, P.v b_)] rfl ⟨by kernel_rfl, by kernel_rfl⟩ ?_
        refine TL.call (some 40) [(2, .int .i64 n), (3, .int .i64 d), (4, .pointer (some ⟨b1, 0, none⟩)), (5, .pointer (some ⟨b2, 0, none⟩)), (8, .pointer (some ⟨b3, 0, none⟩)), (40, .int .i64 (plane_Check b_))] (fun w _ => plane_Check_w b_ w) (by kernel_rfl) (by kernel_rfl) ?_
        generalize hr3 : plane_Check b_ = r3
        refine TL.run 4 [] [(2, .int .i64 n), (3, .int .i64 d), (4, .pointer (some ⟨b1, 0, none⟩)), (5, .pointer (some ⟨b2, 0, none⟩)), (8, .pointer (some ⟨b3, 0, none⟩)), (38, .bool (r3 != 0))] rfl ⟨by kernel_rfl, by kernel_rfl⟩ ?_
        refine TL.next rfl ?_
        refine TC.cond (r3 != 0) rfl (by kernel_rfl) (fun h4 => ?_) (fun h4 => ?_)
        · refine TC.seq ?_
          refine TC.region ?_
          refine TL.run 2 [1] [(8, .pointer (some ⟨b3, 0, none⟩)), (42, P.v P.zero), (43, P.v b_)] rfl ⟨by kernel_rfl, by kernel_rfl⟩ ?_
          refine TL.call (some 44) [(8, .pointer (some ⟨b3, 0, none⟩)), (42, P.v P.zero), (44, .int .i64 (plane_Check b_))] (fun w _ => plane_Check_w b_ w) (by kernel_rfl) (by kernel_rfl) ?_
          generalize hr4 : plane_Check b_ = r4
          refine TL.write 0 (fun _ => [(8, .pointer (some ⟨b3, 0, none⟩)), (44, .int .i64 r4)]) (fun _ => [.inl (b3, .cells (P.c P.zero) 25 (0, 0)), .inl (b2, .cells (P.c b_) 25 (0, 0)), .inl (b1, .cells (P.c a) 25 (0, 0))]) (fun _ => ⟨by kernel_rfl, by kernel_rfl⟩) (fun _ => ?_)
          refine TL.run 5 [] [(8, .pointer (some ⟨b3, 0, none⟩)), (9, .int .i64 r4)] rfl ⟨by kernel_rfl, by kernel_rfl⟩ ?_
          refine TL.next rfl ?_
          refine TC.ret ?_
          refine TE.ret_block (TE.ret_then ?_)
          have e : plane_Toward a b_ n d = ((⟨0, 0⟩ : P), r4) := by subst hr1 hr3 hr4; unfold plane_Toward; exact cond_f h1 (cond_f h2 (cond_f h3 (cond_t h4 (rfl))))
          exact TE.ret [0] (.tuple #[.agg #[.int .i64 0, .int .i64 0], .int .i64 r4]) ⟨by kernel_rfl, by kernel_rfl⟩ (by rw [e]; first | done | kernel_rfl)
        · refine TC.skip ?_
          refine TE.normal_block ?_
          refine TE.next ?_
          refine TC.seq ?_
          refine TC.region ?_
          refine TL.run 8 [1, 2] [(2, .int .i64 n), (3, .int .i64 d), (4, .pointer (some ⟨b1, 0, none⟩)), (5, .pointer (some ⟨b2, 0, none⟩)), (8, .pointer (some ⟨b3, 0, none⟩)), (52, .int .i64 (w64 ((w64 (b_.X - a.X)) * n))), (53, .int .i64 d)] rfl ⟨by kernel_rfl, by kernel_rfl⟩ ?_
          refine TL.call (some 54) [(2, .int .i64 n), (3, .int .i64 d), (4, .pointer (some ⟨b1, 0, none⟩)), (5, .pointer (some ⟨b2, 0, none⟩)), (8, .pointer (some ⟨b3, 0, none⟩)), (54, .tuple #[.int .i64 ((num_DivDown (w64 ((w64 (b_.X - a.X)) * n)) d).1), .int .i64 ((num_DivDown (w64 ((w64 (b_.X - a.X)) * n)) d).2)])] (fun w _ => num_DivDown_w (w64 ((w64 (b_.X - a.X)) * n)) d w) (by kernel_rfl) (by kernel_rfl) ?_
          generalize hr5 : num_DivDown (w64 ((w64 (b_.X - a.X)) * n)) d = r5
          refine TL.run 14 [] [(2, .int .i64 n), (3, .int .i64 d), (4, .pointer (some ⟨b1, 0, none⟩)), (5, .pointer (some ⟨b2, 0, none⟩)), (8, .pointer (some ⟨b3, 0, none⟩)), (10, .int .i64 r5.1)] rfl ⟨by kernel_rfl, by kernel_rfl⟩ ?_
          refine TL.next rfl ?_
          refine TC.seq ?_
          refine TC.region ?_
          refine TL.run 8 [1, 2] [(4, .pointer (some ⟨b1, 0, none⟩)), (8, .pointer (some ⟨b3, 0, none⟩)), (10, .int .i64 r5.1), (64, .int .i64 (w64 ((w64 (b_.Y - a.Y)) * n))), (65, .int .i64 d)] rfl ⟨by kernel_rfl, by kernel_rfl⟩ ?_
          refine TL.call (some 66) [(4, .pointer (some ⟨b1, 0, none⟩)), (8, .pointer (some ⟨b3, 0, none⟩)), (10, .int .i64 r5.1), (66, .tuple #[.int .i64 ((num_DivDown (w64 ((w64 (b_.Y - a.Y)) * n)) d).1), .int .i64 ((num_DivDown (w64 ((w64 (b_.Y - a.Y)) * n)) d).2)])] (fun w _ => num_DivDown_w (w64 ((w64 (b_.Y - a.Y)) * n)) d w) (by kernel_rfl) (by kernel_rfl) ?_
          generalize hr6 : num_DivDown (w64 ((w64 (b_.Y - a.Y)) * n)) d = r6
          refine TL.run 14 [] [(4, .pointer (some ⟨b1, 0, none⟩)), (8, .pointer (some ⟨b3, 0, none⟩)), (10, .int .i64 r5.1), (12, .int .i64 r6.1)] rfl ⟨by kernel_rfl, by kernel_rfl⟩ ?_
          refine TL.next rfl ?_
          refine TC.seq ?_
          refine TC.region ?_
          refine TL.run 9 [2, 2] [(8, .pointer (some ⟨b3, 0, none⟩)), (77, .agg #[.int .i64 (w64 (a.X + r5.1)), .int .i64 (w64 (a.Y + r6.1))])] rfl ⟨by kernel_rfl, by kernel_rfl⟩ ?_
          refine TL.write 0 (fun _ => [(8, .pointer (some ⟨b3, 0, none⟩))]) (fun _ => [.inl (b3, .cells #[.int .i64 (w64 (a.X + r5.1)), .int .i64 (w64 (a.Y + r6.1))] 25 (0, 0)), .inl (b2, .cells (P.c b_) 25 (0, 0)), .inl (b1, .cells (P.c a) 25 (0, 0))]) (fun _ => ⟨by kernel_rfl, by kernel_rfl⟩) (fun _ => ?_)
          refine TL.run 11 [] [(8, .pointer (some ⟨b3, 0, none⟩)), (9, .int .i64 0)] rfl ⟨by kernel_rfl, by kernel_rfl⟩ ?_
          refine TL.next rfl ?_
          refine TC.ret ?_
          have e : plane_Toward a b_ n d = ((⟨w64 (a.X + r5.1), w64 (a.Y + r6.1)⟩ : P), 0) := by subst hr1 hr3 hr5 hr6; unfold plane_Toward; exact cond_f h1 (cond_f h2 (cond_f h3 (cond_f h4 (rfl))))
          exact TE.ret [0] (.tuple #[.agg #[.int .i64 (w64 (a.X + r5.1)), .int .i64 (w64 (a.Y + r6.1))], .int .i64 0]) ⟨by kernel_rfl, by kernel_rfl⟩ (by rw [e]; first | done | kernel_rfl)

def gate_CheckTrack (t : Track) : Int :=
  let r1 := radar_CheckSpot (⟨t.Time, t.At, t.Height, t.Code, 0⟩ : Spot)
  cond (((r1 != 0) || (decide (t.Radius < 0))) || (decide (t.Radius > 4000000))) (
    4) (
    0)

set_option maxRecDepth 100000 in
theorem gate_CheckTrack_w (t : Track) (w : World) : Calls Try.prog 52 #[Track.v t] w (Ret w (.int .i64 (gate_CheckTrack t))) := by
  refine calls_intro (vs := [Track.v t]) (w := w) Try.func52 rfl Try.ntmps52 rfl ?_
  refine TC.weak [(0, Track.v t)] (by kernel_rfl) ?_
  refine TC.seq ?_
  refine TC.region ?_
  refine TL.write 0 (fun b1 => [(1, .pointer (some ⟨b1, 0, none⟩))]) (fun b1 => [.inl (b1, .cells (Track.c t) 33 (0, 0))]) (fun b1 => ⟨by kernel_rfl, by kernel_rfl⟩) (fun b1 => ?_)
  refine TL.run 2 [] [(1, .pointer (some ⟨b1, 0, none⟩))] rfl ⟨by kernel_rfl, by kernel_rfl⟩ ?_
  refine TL.next rfl ?_
  refine TC.seq ?_
  refine TC.seq ?_
  refine TC.region ?_
  refine TL.run 9 [0, 0, 0, 0] [(1, .pointer (some ⟨b1, 0, none⟩)), (11, .agg #[.int .i64 t.Time, .int .i64 t.At.X, .int .i64 t.At.Y, .int .i64 t.Height, .int .i64 t.Code, .int .i64 0])] rfl ⟨by kernel_rfl, by kernel_rfl⟩ ?_
  refine TL.call (some 12) [(1, .pointer (some ⟨b1, 0, none⟩)), (12, .int .i64 (radar_CheckSpot (⟨t.Time, t.At, t.Height, t.Code, 0⟩ : Spot)))] (fun w _ => radar_CheckSpot_w (⟨t.Time, t.At, t.Height, t.Code, 0⟩ : Spot) w) (by kernel_rfl) (by kernel_rfl) ?_
  generalize hr1 : radar_CheckSpot (⟨t.Time, t.At, t.Height, t.Code, 0⟩ : Spot) = r1
  refine TL.run 12 [] [(1, .pointer (some ⟨b1, 0, none⟩)), (14, .bool (r1 != 0))] rfl ⟨by kernel_rfl, by kernel_rfl⟩ ?_
  refine TL.join 14 (r1 != 0) 16 [] [0] (fun β => [(1, .pointer (some ⟨b1, 0, none⟩)), (18, .bool (β || (decide (t.Radius < 0))))]) (by kernel_rfl) rfl ⟨by kernel_rfl, by kernel_rfl⟩ ⟨by kernel_rfl, by kernel_rfl⟩ ?_
  refine TL.run 17 [] [(1, .pointer (some ⟨b1, 0, none⟩)), (19, .bool ((r1 != 0) || (decide (t.Radius < 0))))] rfl ⟨by kernel_rfl, by kernel_rfl⟩ ?_
  refine TL.join 19 ((r1 != 0) || (decide (t.Radius < 0))) 21 [] [0] (fun β => [(23, .bool (β || (decide (t.Radius > 4000000))))]) (by kernel_rfl) rfl ⟨by kernel_rfl, by kernel_rfl⟩ ⟨by kernel_rfl, by kernel_rfl⟩ ?_
  refine TL.next rfl ?_
  refine TC.cond (((r1 != 0) || (decide (t.Radius < 0))) || (decide (t.Radius > 4000000))) rfl (by kernel_rfl) (fun h1 => ?_) (fun h1 => ?_)
  · refine TC.seq ?_
    refine TC.region ?_
    refine TL.run 1 [] [(2, .int .i64 4)] rfl ⟨by kernel_rfl, by kernel_rfl⟩ ?_
    refine TL.next rfl ?_
    refine TC.ret ?_
    refine TE.ret_then ?_
    have e : gate_CheckTrack t = 4 := by subst hr1; unfold gate_CheckTrack; exact cond_t h1 (rfl)
    exact TE.ret [] (.int .i64 4) ⟨by kernel_rfl, by kernel_rfl⟩ (by rw [e]; first | done | kernel_rfl)
  · refine TC.skip ?_
    refine TE.next ?_
    refine TC.seq ?_
    refine TC.region ?_
    refine TL.run 1 [] [(2, .int .i64 0)] rfl ⟨by kernel_rfl, by kernel_rfl⟩ ?_
    refine TL.next rfl ?_
    refine TC.ret ?_
    have e : gate_CheckTrack t = 0 := by subst hr1; unfold gate_CheckTrack; exact cond_f h1 (rfl)
    exact TE.ret [] (.int .i64 0) ⟨by kernel_rfl, by kernel_rfl⟩ (by rw [e]; first | done | kernel_rfl)

def gate_Fits (t : Track) (s : Spot) (band : Int) : Bool × Int :=
  let r1 := gate_CheckTrack t
  cond (r1 != 0) (
    (false, r1)) (
    let r2 := radar_CheckSpot s
    cond (r2 != 0) (
      (false, r2)) (
      cond ((decide (band < 0)) || (decide (band > 60000))) (
        (false, 4)) (
        cond (t.Time != s.Time) (
          (false, 12)) (
          let r3 := plane_Within t.At s.At (w64 (t.Radius + s.Error))
          cond (r3 && (decide ((imax (w64 (t.Height - s.Height)) (w64 (s.Height - t.Height))) ≤ band))) (
            cond (t.Code == s.Code) (
              (true, 0)) (
              cond (t.Code == (-1)) (
                (true, 0)) (
                (s.Code == (-1), 0)))) (
            (false, 0))))))

set_option maxRecDepth 100000 in
theorem gate_Fits_w (t : Track) (s : Spot) (band : Int) (w : World) : Calls Try.prog 16 #[Track.v t, Spot.v s, .int .i64 band] w (Ret w (.tuple #[.bool ((gate_Fits t s band).1), .int .i64 ((gate_Fits t s band).2)])) := by
  refine calls_intro (vs := [Track.v t, Spot.v s, .int .i64 band]) (w := w) Try.func16 rfl Try.ntmps16 rfl ?_
  refine TC.weak [(0, Track.v t), (1, Spot.v s), (2, .int .i64 band)] (by kernel_rfl) ?_
  refine TC.seq ?_
  refine TC.region ?_
  refine TL.write 0 (fun b1 => [(1, Spot.v s), (2, .int .i64 band), (3, .pointer (some ⟨b1, 0, none⟩))]) (fun b1 => [.inl (b1, .cells (Track.c t) 33 (0, 0))]) (fun b1 => ⟨by kernel_rfl, by kernel_rfl⟩) (fun b1 => ?_)
  refine TL.write 0 (fun b2 => [(2, .int .i64 band), (3, .pointer (some ⟨b1, 0, none⟩)), (4, .pointer (some ⟨b2, 0, none⟩))]) (fun b2 => [.inl (b2, .cells (Spot.c s) 27 (0, 0)), .inl (b1, .cells (Track.c t) 33 (0, 0))]) (fun b2 => ⟨by kernel_rfl, by kernel_rfl⟩) (fun b2 => ?_)
  refine TL.run 4 [] [(2, .int .i64 band), (3, .pointer (some ⟨b1, 0, none⟩)), (4, .pointer (some ⟨b2, 0, none⟩))] rfl ⟨by kernel_rfl, by kernel_rfl⟩ ?_
  refine TL.next rfl ?_
  refine TC.seq ?_
  refine TC.seq ?_
  refine TC.region ?_
  refine TL.run 1 [1] [(2, .int .i64 band), (3, .pointer (some ⟨b1, 0, none⟩)), (4, .pointer (some ⟨b2, 0, none⟩)), (10, Track.v t)] rfl ⟨by kernel_rfl, by kernel_rfl⟩ ?_
  refine TL.call (some 11) [(2, .int .i64 band), (3, .pointer (some ⟨b1, 0, none⟩)), (4, .pointer (some ⟨b2, 0, none⟩)), (11, .int .i64 (gate_CheckTrack t))] (fun w _ => gate_CheckTrack_w t w) (by kernel_rfl) (by kernel_rfl) ?_
  generalize hr1 : gate_CheckTrack t = r1
  refine TL.run 3 [] [(2, .int .i64 band), (3, .pointer (some ⟨b1, 0, none⟩)), (4, .pointer (some ⟨b2, 0, none⟩)), (8, .int .i64 r1)] rfl ⟨by kernel_rfl, by kernel_rfl⟩ ?_
  refine TL.next rfl ?_
  refine TC.seq ?_
  refine TC.region ?_
  refine TL.run 2 [] [(2, .int .i64 band), (3, .pointer (some ⟨b1, 0, none⟩)), (4, .pointer (some ⟨b2, 0, none⟩)), (8, .int .i64 r1), (13, .bool (r1 != 0))] rfl ⟨by kernel_rfl, by kernel_rfl⟩ ?_
  refine TL.next rfl ?_
  refine TC.cond (r1 != 0) rfl (by kernel_rfl) (fun h1 => ?_) (fun h1 => ?_)
  · refine TC.seq ?_
    refine TC.region ?_
    refine TL.run 3 [] [(6, .bool false), (7, .int .i64 r1)] rfl ⟨by kernel_rfl, by kernel_rfl⟩ ?_
    refine TL.next rfl ?_
    refine TC.ret ?_
    refine TE.ret_then ?_
    have e : gate_Fits t s band = (false, r1) := by subst hr1; unfold gate_Fits; exact cond_t h1 (rfl)
    exact TE.ret [] (.tuple #[.bool false, .int .i64 r1]) ⟨by kernel_rfl, by kernel_rfl⟩ (by rw [e]; first | done | kernel_rfl)
  · refine TC.skip ?_
    refine TE.next ?_
    refine TC.seq ?_
    refine TC.seq ?_
    refine TC.region ?_
    refine TL.run 1 [0] [(2, .int .i64 band), (3, .pointer (some ⟨b1, 0, none⟩)), (4, .pointer (some ⟨b2, 0, none⟩)), (15, Spot.v s)] rfl ⟨by kernel_rfl, by kernel_rfl⟩ ?_
    refine TL.call (some 16) [(2, .int .i64 band), (3, .pointer (some ⟨b1, 0, none⟩)), (4, .pointer (some ⟨b2, 0, none⟩)), (16, .int .i64 (radar_CheckSpot s))] (fun w _ => radar_CheckSpot_w s w) (by kernel_rfl) (by kernel_rfl) ?_
    generalize hr2 : radar_CheckSpot s = r2
    refine TL.run 3 [] [(2, .int .i64 band), (3, .pointer (some ⟨b1, 0, none⟩)), (4, .pointer (some ⟨b2, 0, none⟩)), (9, .int .i64 r2)] rfl ⟨by kernel_rfl, by kernel_rfl⟩ ?_
    refine TL.next rfl ?_
    refine TC.seq ?_
    refine TC.region ?_
    refine TL.run 2 [] [(2, .int .i64 band), (3, .pointer (some ⟨b1, 0, none⟩)), (4, .pointer (some ⟨b2, 0, none⟩)), (9, .int .i64 r2), (18, .bool (r2 != 0))] rfl ⟨by kernel_rfl, by kernel_rfl⟩ ?_
    refine TL.next rfl ?_
    refine TC.cond (r2 != 0) rfl (by kernel_rfl) (fun h2 => ?_) (fun h2 => ?_)
    · refine TC.seq ?_
      refine TC.region ?_
      refine TL.run 3 [] [(6, .bool false), (7, .int .i64 r2)] rfl ⟨by kernel_rfl, by kernel_rfl⟩ ?_
      refine TL.next rfl ?_
      refine TC.ret ?_
      refine TE.ret_then ?_
      have e : gate_Fits t s band = (false, r2) := by subst hr1 hr2; unfold gate_Fits; exact cond_f h1 (cond_t h2 (rfl))
      exact TE.ret [] (.tuple #[.bool false, .int .i64 r2]) ⟨by kernel_rfl, by kernel_rfl⟩ (by rw [e]; first | done | kernel_rfl)
    · refine TC.skip ?_
      refine TE.next ?_
      refine TC.seq ?_
      refine TC.block ?_
      refine TC.seq ?_
      refine TC.region ?_
      refine TL.run 3 [] [(2, .int .i64 band), (3, .pointer (some ⟨b1, 0, none⟩)), (4, .pointer (some ⟨b2, 0, none⟩)), (23, .bool (decide (band < 0)))] rfl ⟨by kernel_rfl, by kernel_rfl⟩ ?_
      refine TL.join 23 (decide (band < 0)) 6 [] [] (fun β => [(2, .int .i64 band), (3, .pointer (some ⟨b1, 0, none⟩)), (4, .pointer (some ⟨b2, 0, none⟩)), (26, .bool (β || (decide (band > 60000))))]) (by kernel_rfl) rfl ⟨by kernel_rfl, by kernel_rfl⟩ ⟨by kernel_rfl, by kernel_rfl⟩ ?_
      refine TL.run 7 [] [(2, .int .i64 band), (3, .pointer (some ⟨b1, 0, none⟩)), (4, .pointer (some ⟨b2, 0, none⟩)), (20, .bool ((decide (band < 0)) || (decide (band > 60000))))] rfl ⟨by kernel_rfl, by kernel_rfl⟩ ?_
      refine TL.next rfl ?_
      refine TC.cond ((decide (band < 0)) || (decide (band > 60000))) rfl (by kernel_rfl) (fun h3 => ?_) (fun h3 => ?_)
      · refine TC.seq ?_
        refine TC.region ?_
        refine TL.run 2 [] [(6, .bool false), (7, .int .i64 4)] rfl ⟨by kernel_rfl, by kernel_rfl⟩ ?_
        refine TL.next rfl ?_
        refine TC.ret ?_
        refine TE.ret_block (TE.ret_then ?_)
        have e : gate_Fits t s band = (false, 4) := by subst hr1 hr2; unfold gate_Fits; exact cond_f h1 (cond_f h2 (cond_t h3 (rfl)))
        exact TE.ret [] (.tuple #[.bool false, .int .i64 4]) ⟨by kernel_rfl, by kernel_rfl⟩ (by rw [e]; first | done | kernel_rfl)
      · refine TC.seq ?_
        refine TC.region ?_
        refine TL.run 6 [1, 0] [(2, .int .i64 band), (3, .pointer (some ⟨b1, 0, none⟩)), (4, .pointer (some ⟨b2, 0, none⟩)), (27, .bool (t.Time != s.Time))] rfl ⟨by kernel_rfl, by kernel_rfl⟩ ?_
        refine TL.next rfl ?_
        refine TC.cond (t.Time != s.Time) rfl (by kernel_rfl) (fun h4 => ?_) (fun h4 => ?_)
        · refine TC.seq ?_
          refine TC.region ?_
          refine TL.run 2 [] [(6, .bool false), (7, .int .i64 12)] rfl ⟨by kernel_rfl, by kernel_rfl⟩ ?_
          refine TL.next rfl ?_
          refine TC.ret ?_
          refine TE.ret_block (TE.ret_then ?_)
          have e : gate_Fits t s band = (false, 12) := by subst hr1 hr2; unfold gate_Fits; exact cond_f h1 (cond_f h2 (cond_f h3 (cond_t h4 (rfl))))
          exact TE.ret [] (.tuple #[.bool false, .int .i64 12]) ⟨by kernel_rfl, by kernel_rfl⟩ (by rw [e]; first | done | kernel_rfl)
        · refine TC.skip ?_
          refine TE.normal_block ?_
          refine TE.next ?_
          refine TC.seq ?_
          refine TC.region ?_
          refine TL.run 9 [1, 0, 1, 0] [(2, .int .i64 band), (3, .pointer (some ⟨b1, 0, none⟩)), (4, .pointer (some ⟨b2, 0, none⟩)), (34, P.v t.At), (36, P.v s.At), (41, .int .i64 (w64 (t.Radius + s.Error)))] rfl ⟨by kernel_rfl, by kernel_rfl⟩ ?_
          refine TL.call (some 42) [(2, .int .i64 band), (3, .pointer (some ⟨b1, 0, none⟩)), (4, .pointer (some ⟨b2, 0, none⟩)), (42, .bool ((plane_Within t.At s.At (w64 (t.Radius + s.Error)))))] (fun w _ => plane_Within_w t.At s.At (w64 (t.Radius + s.Error)) w) (by kernel_rfl) (by kernel_rfl) ?_
          generalize hr3 : plane_Within t.At s.At (w64 (t.Radius + s.Error)) = r3
          refine TL.run 11 [] [(2, .int .i64 band), (3, .pointer (some ⟨b1, 0, none⟩)), (4, .pointer (some ⟨b2, 0, none⟩)), (43, .bool r3)] rfl ⟨by kernel_rfl, by kernel_rfl⟩ ?_
          refine TL.join 43 r3 25 [1, 0, 0, 1] [] (fun β => [(3, .pointer (some ⟨b1, 0, none⟩)), (4, .pointer (some ⟨b2, 0, none⟩)), (57, .bool (β && (decide ((imax (w64 (t.Height - s.Height)) (w64 (s.Height - t.Height))) ≤ band))))]) (by kernel_rfl) rfl ⟨by kernel_rfl, by kernel_rfl⟩ ⟨by kernel_rfl, by kernel_rfl⟩ ?_
          refine TL.run 26 [] [(3, .pointer (some ⟨b1, 0, none⟩)), (4, .pointer (some ⟨b2, 0, none⟩)), (58, .bool (r3 && (decide ((imax (w64 (t.Height - s.Height)) (w64 (s.Height - t.Height))) ≤ band))))] rfl ⟨by kernel_rfl, by kernel_rfl⟩ ?_
          refine TL.split 58 (r3 && (decide ((imax (w64 (t.Height - s.Height)) (w64 (s.Height - t.Height))) ≤ band))) (by kernel_rfl) (fun h5 => ?_) (fun h5 => ?_)
          · refine TL.run 32 [1, 0] [(3, .pointer (some ⟨b1, 0, none⟩)), (4, .pointer (some ⟨b2, 0, none⟩)), (58, .bool true), (64, .bool (t.Code == s.Code))] rfl ⟨by kernel_rfl, by kernel_rfl⟩ ?_
            refine TL.split 64 (t.Code == s.Code) (by kernel_rfl) (fun h6 => ?_) (fun h6 => ?_)
            · refine TL.run 44 [] [(6, .bool true), (7, .int .i64 0)] rfl ⟨by kernel_rfl, by kernel_rfl⟩ ?_
              refine TL.next rfl ?_
              refine TC.ret ?_
              have e : gate_Fits t s band = (true, 0) := by subst hr1 hr2 hr3; unfold gate_Fits; exact cond_f h1 (cond_f h2 (cond_f h3 (cond_f h4 (cond_t h5 (cond_t h6 (rfl))))))
              exact TE.ret [] (.tuple #[.bool true, .int .i64 0]) ⟨by kernel_rfl, by kernel_rfl⟩ (by rw [e]; first | done | kernel_rfl)
            · refine TL.run 37 [1] [(4, .pointer (some ⟨b2, 0, none⟩)), (58, .bool true), (69, .bool (t.Code == (-1)))] rfl ⟨by kernel_rfl, by kernel_rfl⟩ ?_
              refine TL.split 69 (t.Code == (-1)) (by kernel_rfl) (fun h7 => ?_) (fun h7 => ?_)
              · refine TL.run 44 [] [(6, .bool true), (7, .int .i64 0)] rfl ⟨by kernel_rfl, by kernel_rfl⟩ ?_
                refine TL.next rfl ?_
                refine TC.ret ?_
                have e : gate_Fits t s band = (true, 0) := by subst hr1 hr2 hr3; unfold gate_Fits; exact cond_f h1 (cond_f h2 (cond_f h3 (cond_f h4 (cond_t h5 (cond_f h6 (cond_t h7 (rfl)))))))
                exact TE.ret [] (.tuple #[.bool true, .int .i64 0]) ⟨by kernel_rfl, by kernel_rfl⟩ (by rw [e]; first | done | kernel_rfl)
              · refine TL.run 44 [0] [(6, .bool (s.Code == (-1))), (7, .int .i64 0)] rfl ⟨by kernel_rfl, by kernel_rfl⟩ ?_
                refine TL.next rfl ?_
                refine TC.ret ?_
                have e : gate_Fits t s band = (s.Code == (-1), 0) := by subst hr1 hr2 hr3; unfold gate_Fits; exact cond_f h1 (cond_f h2 (cond_f h3 (cond_f h4 (cond_t h5 (cond_f h6 (cond_f h7 (rfl)))))))
                exact TE.ret [] (.tuple #[.bool (s.Code == (-1)), .int .i64 0]) ⟨by kernel_rfl, by kernel_rfl⟩ (by rw [e]; first | done | kernel_rfl)
          · refine TL.run 44 [] [(6, .bool false), (7, .int .i64 0)] rfl ⟨by kernel_rfl, by kernel_rfl⟩ ?_
            refine TL.next rfl ?_
            refine TC.ret ?_
            have e : gate_Fits t s band = (false, 0) := by subst hr1 hr2 hr3; unfold gate_Fits; exact cond_f h1 (cond_f h2 (cond_f h3 (cond_f h4 (cond_f h5 (rfl)))))
            exact TE.ret [] (.tuple #[.bool false, .int .i64 0]) ⟨by kernel_rfl, by kernel_rfl⟩ (by rw [e]; first | done | kernel_rfl)

def skywaykeep2_square (a : P) (b_ : P) : Int :=
  w64 ((w64 ((w64 (a.X - b_.X)) * (w64 (a.X - b_.X)))) + (w64 ((w64 (a.Y - b_.Y)) * (w64 (a.Y - b_.Y)))))

set_option maxRecDepth 100000 in
theorem skywaykeep2_square_w (a : P) (b_ : P) (w : World) : Calls Try.prog 17 #[P.v a, P.v b_] w (Ret w (.int .i64 (skywaykeep2_square a b_))) := by
  refine calls_intro (vs := [P.v a, P.v b_]) (w := w) Try.func17 rfl Try.ntmps17 rfl ?_
  refine TC.weak [(0, P.v a), (1, P.v b_)] (by kernel_rfl) ?_
  refine TC.seq ?_
  refine TC.region ?_
  refine TL.write 0 (fun b1 => [(1, P.v b_), (2, .pointer (some ⟨b1, 0, none⟩))]) (fun b1 => [.inl (b1, .cells (P.c a) 25 (0, 0))]) (fun b1 => ⟨by kernel_rfl, by kernel_rfl⟩) (fun b1 => ?_)
  refine TL.write 0 (fun b2 => [(2, .pointer (some ⟨b1, 0, none⟩)), (3, .pointer (some ⟨b2, 0, none⟩))]) (fun b2 => [.inl (b2, .cells (P.c b_) 25 (0, 0)), .inl (b1, .cells (P.c a) 25 (0, 0))]) (fun b2 => ⟨by kernel_rfl, by kernel_rfl⟩) (fun b2 => ?_)
  refine TL.run 3 [] [(2, .pointer (some ⟨b1, 0, none⟩)), (3, .pointer (some ⟨b2, 0, none⟩))] rfl ⟨by kernel_rfl, by kernel_rfl⟩ ?_
  refine TL.next rfl ?_
  refine TC.seq ?_
  refine TC.region ?_
  refine TL.run 24 [1, 0, 1, 0, 1, 0, 1, 0] [(4, .int .i64 (w64 ((w64 ((w64 (a.X - b_.X)) * (w64 (a.X - b_.X)))) + (w64 ((w64 (a.Y - b_.Y)) * (w64 (a.Y - b_.Y)))))))] rfl ⟨by kernel_rfl, by kernel_rfl⟩ ?_
  refine TL.next rfl ?_
  refine TC.ret ?_
  have e : skywaykeep2_square a b_ = (w64 ((w64 ((w64 (a.X - b_.X)) * (w64 (a.X - b_.X)))) + (w64 ((w64 (a.Y - b_.Y)) * (w64 (a.Y - b_.Y)))))) := by unfold skywaykeep2_square; exact rfl
  exact TE.ret [] (.int .i64 (w64 ((w64 ((w64 (a.X - b_.X)) * (w64 (a.X - b_.X)))) + (w64 ((w64 (a.Y - b_.Y)) * (w64 (a.Y - b_.Y))))))) ⟨by kernel_rfl, by kernel_rfl⟩ (by rw [e]; first | done | kernel_rfl)

def skywayref1_Good (p : P) : Bool :=
  (((decide (p.X ≥ (-1000000))) && (decide (p.X ≤ 1000000))) && (decide (p.Y ≥ (-1000000)))) && (decide (p.Y ≤ 1000000))

set_option maxRecDepth 100000 in
theorem skywayref1_Good_w (p : P) (w : World) : Calls Try.prog 20 #[P.v p] w (Ret w (.bool (skywayref1_Good p))) := by
  refine calls_intro (vs := [P.v p]) (w := w) Try.func20 rfl Try.ntmps20 rfl ?_
  refine TC.weak [(0, P.v p)] (by kernel_rfl) ?_
  refine TC.seq ?_
  refine TC.region ?_
  refine TL.write 0 (fun b1 => [(1, .pointer (some ⟨b1, 0, none⟩))]) (fun b1 => [.inl (b1, .cells (P.c p) 25 (0, 0))]) (fun b1 => ⟨by kernel_rfl, by kernel_rfl⟩) (fun b1 => ?_)
  refine TL.run 2 [] [(1, .pointer (some ⟨b1, 0, none⟩))] rfl ⟨by kernel_rfl, by kernel_rfl⟩ ?_
  refine TL.next rfl ?_
  refine TC.seq ?_
  refine TC.region ?_
  refine TL.run 4 [0] [(1, .pointer (some ⟨b1, 0, none⟩)), (6, .bool (decide (p.X ≥ (-1000000))))] rfl ⟨by kernel_rfl, by kernel_rfl⟩ ?_
  refine TL.join 6 (decide (p.X ≥ (-1000000))) 8 [0] [] (fun β => [(1, .pointer (some ⟨b1, 0, none⟩)), (10, .bool (β && (decide (p.X ≤ 1000000))))]) (by kernel_rfl) rfl ⟨by kernel_rfl, by kernel_rfl⟩ ⟨by kernel_rfl, by kernel_rfl⟩ ?_
  refine TL.run 9 [] [(1, .pointer (some ⟨b1, 0, none⟩)), (11, .bool ((decide (p.X ≥ (-1000000))) && (decide (p.X ≤ 1000000))))] rfl ⟨by kernel_rfl, by kernel_rfl⟩ ?_
  refine TL.join 11 ((decide (p.X ≥ (-1000000))) && (decide (p.X ≤ 1000000))) 13 [0] [] (fun β => [(1, .pointer (some ⟨b1, 0, none⟩)), (15, .bool (β && (decide (p.Y ≥ (-1000000)))))]) (by kernel_rfl) rfl ⟨by kernel_rfl, by kernel_rfl⟩ ⟨by kernel_rfl, by kernel_rfl⟩ ?_
  refine TL.run 14 [] [(1, .pointer (some ⟨b1, 0, none⟩)), (16, .bool (((decide (p.X ≥ (-1000000))) && (decide (p.X ≤ 1000000))) && (decide (p.Y ≥ (-1000000)))))] rfl ⟨by kernel_rfl, by kernel_rfl⟩ ?_
  refine TL.join 16 (((decide (p.X ≥ (-1000000))) && (decide (p.X ≤ 1000000))) && (decide (p.Y ≥ (-1000000)))) 18 [0] [] (fun β => [(20, .bool (β && (decide (p.Y ≤ 1000000))))]) (by kernel_rfl) rfl ⟨by kernel_rfl, by kernel_rfl⟩ ⟨by kernel_rfl, by kernel_rfl⟩ ?_
  refine TL.run 19 [] [(2, .bool ((((decide (p.X ≥ (-1000000))) && (decide (p.X ≤ 1000000))) && (decide (p.Y ≥ (-1000000)))) && (decide (p.Y ≤ 1000000))))] rfl ⟨by kernel_rfl, by kernel_rfl⟩ ?_
  refine TL.next rfl ?_
  refine TC.ret ?_
  have e : skywayref1_Good p = ((((decide (p.X ≥ (-1000000))) && (decide (p.X ≤ 1000000))) && (decide (p.Y ≥ (-1000000)))) && (decide (p.Y ≤ 1000000))) := by unfold skywayref1_Good; exact rfl
  exact TE.ret [] (.bool ((((decide (p.X ≥ (-1000000))) && (decide (p.X ≤ 1000000))) && (decide (p.Y ≥ (-1000000)))) && (decide (p.Y ≤ 1000000)))) ⟨by kernel_rfl, by kernel_rfl⟩ (by rw [e]; first | done | kernel_rfl)

end Go.Sky
