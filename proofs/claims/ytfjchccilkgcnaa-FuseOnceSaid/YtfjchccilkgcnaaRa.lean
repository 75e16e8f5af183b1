/- Functions of the program, each with the Lean function that it computes. Conditions: none. -/
import Derived.Test.YtfjchccilkgcnaaSa
namespace Go.Sky
open Go Go.Eng Go.Proofs
def radar_out (n : Int) (low : Int) (high : Int) : Bool :=
  (decide (n < low)) || (decide (n > high))

set_option maxRecDepth 100000 in
theorem radar_out_w (n : Int) (low : Int) (high : Int) (w : World) : Calls Try.prog 63 #[.int .i64 n, .int .i64 low, .int .i64 high] w (Ret w (.bool (radar_out n low high))) := by
  refine calls_intro (vs := [.int .i64 n, .int .i64 low, .int .i64 high]) (w := w) Try.func63 rfl Try.ntmps63 rfl ?_
  refine TC.weak [(0, .int .i64 n), (1, .int .i64 low), (2, .int .i64 high)] (by kernel_rfl) ?_
  refine TC.seq ?_
  refine TC.region ?_
  refine TL.run 1 [] [(0, .int .i64 n), (1, .int .i64 low), (2, .int .i64 high)] rfl ⟨by kernel_rfl, by kernel_rfl⟩ ?_
  refine TL.next rfl ?_
  refine TC.seq ?_
  refine TC.region ?_
  refine TL.run 4 [] [(0, .int .i64 n), (2, .int .i64 high), (10, .bool (decide (n < low)))] rfl ⟨by kernel_rfl, by kernel_rfl⟩ ?_
  refine TL.join 10 (decide (n < low)) 8 [] [] (fun β => [(14, .bool (β || (decide (n > high))))]) (by kernel_rfl) rfl ⟨by kernel_rfl, by kernel_rfl⟩ ⟨by kernel_rfl, by kernel_rfl⟩ ?_
  refine TL.run 9 [] [(6, .bool ((decide (n < low)) || (decide (n > high))))] rfl ⟨by kernel_rfl, by kernel_rfl⟩ ?_
  refine TL.next rfl ?_
  refine TC.ret ?_
  have e : radar_out n low high = ((decide (n < low)) || (decide (n > high))) := by unfold radar_out; exact rfl
  exact TE.ret [] (.bool ((decide (n < low)) || (decide (n > high)))) ⟨by kernel_rfl, by kernel_rfl⟩ (by rw [e]; first | done | kernel_rfl)

def plane_Check (p : P) : Int :=
  cond ((((decide (p.X < (-1000000))) || (decide (p.X > 1000000))) || (decide (p.Y < (-1000000)))) || (decide (p.Y > 1000000))) (
    4) (
    0)

set_option maxRecDepth 100000 in
theorem plane_Check_w (p : P) (w : World) : Calls Try.prog 74 #[P.v p] w (Ret w (.int .i64 (plane_Check p))) := by
  refine calls_intro (vs := [P.v p]) (w := w) Try.func74 rfl Try.ntmps74 rfl ?_
  refine TC.weak [(0, P.v p)] (by kernel_rfl) ?_
  refine TC.seq ?_
  refine TC.region ?_
  refine TL.write 0 (fun b1 => [(1, .pointer (some ⟨b1, 0, none⟩))]) (fun b1 => [.inl (b1, .cells (P.c p) 81 (0, 0))]) (fun b1 => ⟨by kernel_rfl, by kernel_rfl⟩) (fun b1 => ?_)
  refine TL.run 2 [] [(1, .pointer (some ⟨b1, 0, none⟩))] rfl ⟨by kernel_rfl, by kernel_rfl⟩ ?_
  refine TL.next rfl ?_
  refine TC.seq ?_
  refine TC.seq ?_
  refine TC.region ?_
  refine TL.run 4 [0] [(1, .pointer (some ⟨b1, 0, none⟩)), (6, .bool (decide (p.X < (-1000000))))] rfl ⟨by kernel_rfl, by kernel_rfl⟩ ?_
  refine TL.join 6 (decide (p.X < (-1000000))) 8 [] [0] (fun β => [(1, .pointer (some ⟨b1, 0, none⟩)), (10, .bool (β || (decide (p.X > 1000000))))]) (by kernel_rfl) rfl ⟨by kernel_rfl, by kernel_rfl⟩ ⟨by kernel_rfl, by kernel_rfl⟩ ?_
  refine TL.run 9 [] [(1, .pointer (some ⟨b1, 0, none⟩)), (11, .bool ((decide (p.X < (-1000000))) || (decide (p.X > 1000000))))] rfl ⟨by kernel_rfl, by kernel_rfl⟩ ?_
  refine TL.join 11 ((decide (p.X < (-1000000))) || (decide (p.X > 1000000))) 13 [] [0] (fun β => [(1, .pointer (some ⟨b1, 0, none⟩)), (15, .bool (β || (decide (p.Y < (-1000000)))))]) (by kernel_rfl) rfl ⟨by kernel_rfl, by kernel_rfl⟩ ⟨by kernel_rfl, by kernel_rfl⟩ ?_
  refine TL.run 14 [] [(1, .pointer (some ⟨b1, 0, none⟩)), (16, .bool (((decide (p.X < (-1000000))) || (decide (p.X > 1000000))) || (decide (p.Y < (-1000000)))))] rfl ⟨by kernel_rfl, by kernel_rfl⟩ ?_
  refine TL.join 16 (((decide (p.X < (-1000000))) || (decide (p.X > 1000000))) || (decide (p.Y < (-1000000)))) 18 [] [0] (fun β => [(20, .bool (β || (decide (p.Y > 1000000))))]) (by kernel_rfl) rfl ⟨by kernel_rfl, by kernel_rfl⟩ ⟨by kernel_rfl, by kernel_rfl⟩ ?_
  refine TL.next rfl ?_
  refine TC.cond ((((decide (p.X < (-1000000))) || (decide (p.X > 1000000))) || (decide (p.Y < (-1000000)))) || (decide (p.Y > 1000000))) rfl (by kernel_rfl) (fun h1 => ?_) (fun h1 => ?_)
  · refine TC.seq ?_
    refine TC.region ?_
    refine TL.run 1 [] [(2, .int .i64 4)] rfl ⟨by kernel_rfl, by kernel_rfl⟩ ?_
    refine TL.next rfl ?_
    refine TC.ret ?_
    refine TE.ret_then ?_
    have e : plane_Check p = 4 := by unfold plane_Check; exact cond_t h1 (rfl)
    exact TE.ret [] (.int .i64 4) ⟨by kernel_rfl, by kernel_rfl⟩ (by rw [e]; first | done | kernel_rfl)
  · refine TC.skip ?_
    refine TE.next ?_
    refine TC.seq ?_
    refine TC.region ?_
    refine TL.run 1 [] [(2, .int .i64 0)] rfl ⟨by kernel_rfl, by kernel_rfl⟩ ?_
    refine TL.next rfl ?_
    refine TC.ret ?_
    have e : plane_Check p = 0 := by unfold plane_Check; exact cond_f h1 (rfl)
    exact TE.ret [] (.int .i64 0) ⟨by kernel_rfl, by kernel_rfl⟩ (by rw [e]; first | done | kernel_rfl)

def radar_CheckSpot (s : Spot) : Int :=
  let r1 := radar_out s.Time 0 200000
  cond r1 (
    4) (
    let r2 := plane_Check s.At
    cond (r2 != 0) (
      4) (
      let r3 := radar_out s.Height 0 60000
      cond r3 (
        4) (
        let r4 := radar_out s.Code (-1) 4095
        cond r4 (
          4) (
          let r5 := radar_out s.Error 0 1000000
          cond r5 (
            4) (
            0)))))

set_option maxRecDepth 100000 in
theorem radar_CheckSpot_w (s : Spot) (w : World) : Calls Try.prog 86 #[Spot.v s] w (Ret w (.int .i64 (radar_CheckSpot s))) := by
  refine calls_intro (vs := [Spot.v s]) (w := w) Try.func86 rfl Try.ntmps86 rfl ?_
  refine TC.weak [(0, Spot.v s)] (by kernel_rfl) ?_
  refine TC.seq ?_
  refine TC.region ?_
  refine TL.write 0 (fun b1 => [(1, .pointer (some ⟨b1, 0, none⟩))]) (fun b1 => [.inl (b1, .cells (Spot.c s) 94 (0, 0))]) (fun b1 => ⟨by kernel_rfl, by kernel_rfl⟩) (fun b1 => ?_)
  refine TL.run 2 [] [(1, .pointer (some ⟨b1, 0, none⟩))] rfl ⟨by kernel_rfl, by kernel_rfl⟩ ?_
  refine TL.next rfl ?_
  refine TC.seq ?_
  refine TC.seq ?_
  refine TC.region ?_
  refine TL.run 2 [0] [(1, .pointer (some ⟨b1, 0, none⟩)), (4, .int .i64 s.Time)] rfl ⟨by kernel_rfl, by kernel_rfl⟩ ?_
  refine TL.call (some 5) [(1, .pointer (some ⟨b1, 0, none⟩)), (5, .bool ((radar_out s.Time 0 200000)))] (fun w _ => radar_out_w s.Time 0 200000 w) (by kernel_rfl) (by kernel_rfl) ?_
  generalize hr1 : radar_out s.Time 0 200000 = r1
  refine TL.run 4 [] [(1, .pointer (some ⟨b1, 0, none⟩)), (6, .bool r1)] rfl ⟨by kernel_rfl, by kernel_rfl⟩ ?_
  refine TL.split 6 r1 (by kernel_rfl) (fun h1 => ?_) (fun h1 => ?_)
  · refine TL.run 24 [] [(26, .bool true)] rfl ⟨by kernel_rfl, by kernel_rfl⟩ ?_
    refine TL.next rfl ?_
    refine TC.condT rfl (by kernel_rfl) ?_
    refine TC.seq ?_
    refine TC.region ?_
    refine TL.run 1 [] [(2, .int .i64 4)] rfl ⟨by kernel_rfl, by kernel_rfl⟩ ?_
    refine TL.next rfl ?_
    refine TC.ret ?_
    refine TE.ret_then ?_
    have e : radar_CheckSpot s = 4 := by subst hr1; unfold radar_CheckSpot; exact cond_t h1 (rfl)
    exact TE.ret [] (.int .i64 4) ⟨by kernel_rfl, by kernel_rfl⟩ (by rw [e]; first | done | kernel_rfl)
  · refine TL.run 6 [0] [(1, .pointer (some ⟨b1, 0, none⟩)), (6, .bool false), (8, P.v s.At)] rfl ⟨by kernel_rfl, by kernel_rfl⟩ ?_
    refine TL.call (some 9) [(1, .pointer (some ⟨b1, 0, none⟩)), (6, .bool false), (9, .int .i64 (plane_Check s.At))] (fun w _ => plane_Check_w s.At w) (by kernel_rfl) (by kernel_rfl) ?_
    generalize hr2 : plane_Check s.At = r2
    refine TL.run 10 [] [(1, .pointer (some ⟨b1, 0, none⟩)), (12, .bool (r2 != 0))] rfl ⟨by kernel_rfl, by kernel_rfl⟩ ?_
    refine TL.split 12 (r2 != 0) (by kernel_rfl) (fun h2 => ?_) (fun h2 => ?_)
    · refine TL.run 24 [] [(26, .bool true)] rfl ⟨by kernel_rfl, by kernel_rfl⟩ ?_
      refine TL.next rfl ?_
      refine TC.condT rfl (by kernel_rfl) ?_
      refine TC.seq ?_
      refine TC.region ?_
      refine TL.run 1 [] [(2, .int .i64 4)] rfl ⟨by kernel_rfl, by kernel_rfl⟩ ?_
      refine TL.next rfl ?_
      refine TC.ret ?_
      refine TE.ret_then ?_
      have e : radar_CheckSpot s = 4 := by subst hr1 hr2; unfold radar_CheckSpot; exact cond_f h1 (cond_t h2 (rfl))
      exact TE.ret [] (.int .i64 4) ⟨by kernel_rfl, by kernel_rfl⟩ (by rw [e]; first | done | kernel_rfl)
    · refine TL.run 12 [0] [(1, .pointer (some ⟨b1, 0, none⟩)), (12, .bool false), (14, .int .i64 s.Height)] rfl ⟨by kernel_rfl, by kernel_rfl⟩ ?_
      refine TL.call (some 15) [(1, .pointer (some ⟨b1, 0, none⟩)), (12, .bool false), (15, .bool ((radar_out s.Height 0 60000)))] (fun w _ => radar_out_w s.Height 0 60000 w) (by kernel_rfl) (by kernel_rfl) ?_
      generalize hr3 : radar_out s.Height 0 60000 = r3
      refine TL.run 15 [] [(1, .pointer (some ⟨b1, 0, none⟩)), (17, .bool r3)] rfl ⟨by kernel_rfl, by kernel_rfl⟩ ?_
      refine TL.split 17 r3 (by kernel_rfl) (fun h3 => ?_) (fun h3 => ?_)
      · refine TL.run 24 [] [(26, .bool true)] rfl ⟨by kernel_rfl, by kernel_rfl⟩ ?_
        refine TL.next rfl ?_
        refine TC.condT rfl (by kernel_rfl) ?_
        refine TC.seq ?_
        refine TC.region ?_
        refine TL.run 1 [] [(2, .int .i64 4)] rfl ⟨by kernel_rfl, by kernel_rfl⟩ ?_
        refine TL.next rfl ?_
        refine TC.ret ?_
        refine TE.ret_then ?_
        have e : radar_CheckSpot s = 4 := by subst hr1 hr2 hr3; unfold radar_CheckSpot; exact cond_f h1 (cond_f h2 (cond_t h3 (rfl)))
        exact TE.ret [] (.int .i64 4) ⟨by kernel_rfl, by kernel_rfl⟩ (by rw [e]; first | done | kernel_rfl)
      · refine TL.run 17 [0] [(1, .pointer (some ⟨b1, 0, none⟩)), (17, .bool false), (19, .int .i64 s.Code)] rfl ⟨by kernel_rfl, by kernel_rfl⟩ ?_
        refine TL.call (some 20) [(1, .pointer (some ⟨b1, 0, none⟩)), (17, .bool false), (20, .bool ((radar_out s.Code (-1) 4095)))] (fun w _ => radar_out_w s.Code (-1) 4095 w) (by kernel_rfl) (by kernel_rfl) ?_
        generalize hr4 : radar_out s.Code (-1) 4095 = r4
        refine TL.run 20 [] [(1, .pointer (some ⟨b1, 0, none⟩)), (22, .bool r4)] rfl ⟨by kernel_rfl, by kernel_rfl⟩ ?_
        refine TL.split 22 r4 (by kernel_rfl) (fun h4 => ?_) (fun h4 => ?_)
        · refine TL.run 24 [] [(26, .bool true)] rfl ⟨by kernel_rfl, by kernel_rfl⟩ ?_
          refine TL.next rfl ?_
          refine TC.condT rfl (by kernel_rfl) ?_
          refine TC.seq ?_
          refine TC.region ?_
          refine TL.run 1 [] [(2, .int .i64 4)] rfl ⟨by kernel_rfl, by kernel_rfl⟩ ?_
          refine TL.next rfl ?_
          refine TC.ret ?_
          refine TE.ret_then ?_
          have e : radar_CheckSpot s = 4 := by subst hr1 hr2 hr3 hr4; unfold radar_CheckSpot; exact cond_f h1 (cond_f h2 (cond_f h3 (cond_t h4 (rfl))))
          exact TE.ret [] (.int .i64 4) ⟨by kernel_rfl, by kernel_rfl⟩ (by rw [e]; first | done | kernel_rfl)
        · refine TL.run 22 [0] [(22, .bool false), (24, .int .i64 s.Error)] rfl ⟨by kernel_rfl, by kernel_rfl⟩ ?_
          refine TL.call (some 25) [(22, .bool false), (25, .bool ((radar_out s.Error 0 1000000)))] (fun w _ => radar_out_w s.Error 0 1000000 w) (by kernel_rfl) (by kernel_rfl) ?_
          generalize hr5 : radar_out s.Error 0 1000000 = r5
          refine TL.run 24 [] [(26, .bool r5)] rfl ⟨by kernel_rfl, by kernel_rfl⟩ ?_
          refine TL.next rfl ?_
          refine TC.cond r5 rfl (by kernel_rfl) (fun h5 => ?_) (fun h5 => ?_)
          · refine TC.seq ?_
            refine TC.region ?_
            refine TL.run 1 [] [(2, .int .i64 4)] rfl ⟨by kernel_rfl, by kernel_rfl⟩ ?_
            refine TL.next rfl ?_
            refine TC.ret ?_
            refine TE.ret_then ?_
            have e : radar_CheckSpot s = 4 := by subst hr1 hr2 hr3 hr4 hr5; unfold radar_CheckSpot; exact cond_f h1 (cond_f h2 (cond_f h3 (cond_f h4 (cond_t h5 (rfl)))))
            exact TE.ret [] (.int .i64 4) ⟨by kernel_rfl, by kernel_rfl⟩ (by rw [e]; first | done | kernel_rfl)
          · refine TC.skip ?_
            refine TE.next ?_
            refine TC.seq ?_
            refine TC.region ?_
            refine TL.run 1 [] [(2, .int .i64 0)] rfl ⟨by kernel_rfl, by kernel_rfl⟩ ?_
            refine TL.next rfl ?_
            refine TC.ret ?_
            have e : radar_CheckSpot s = 0 := by subst hr1 hr2 hr3 hr4 hr5; unfold radar_CheckSpot; exact cond_f h1 (cond_f h2 (cond_f h3 (cond_f h4 (cond_f h5 (rfl)))))
            exact TE.ret [] (.int .i64 0) ⟨by kernel_rfl, by kernel_rfl⟩ (by rw [e]; first | done | kernel_rfl)

def fuse_wrong (band : Int) : Bool :=
  (decide (band < 0)) || (decide (band > 60000))

set_option maxRecDepth 100000 in
theorem fuse_wrong_w (band : Int) (w : World) : Calls Try.prog 87 #[.int .i64 band] w (Ret w (.bool (fuse_wrong band))) := by
  refine calls_intro (vs := [.int .i64 band]) (w := w) Try.func87 rfl Try.ntmps87 rfl ?_
  refine TC.weak [(0, .int .i64 band)] (by kernel_rfl) ?_
  refine TC.seq ?_
  refine TC.region ?_
  refine TL.run 1 [] [(0, .int .i64 band)] rfl ⟨by kernel_rfl, by kernel_rfl⟩ ?_
  refine TL.next rfl ?_
  refine TC.seq ?_
  refine TC.region ?_
  refine TL.run 3 [] [(0, .int .i64 band), (5, .bool (decide (band < 0)))] rfl ⟨by kernel_rfl, by kernel_rfl⟩ ?_
  refine TL.join 5 (decide (band < 0)) 6 [] [] (fun β => [(8, .bool (β || (decide (band > 60000))))]) (by kernel_rfl) rfl ⟨by kernel_rfl, by kernel_rfl⟩ ⟨by kernel_rfl, by kernel_rfl⟩ ?_
  refine TL.run 7 [] [(2, .bool ((decide (band < 0)) || (decide (band > 60000))))] rfl ⟨by kernel_rfl, by kernel_rfl⟩ ?_
  refine TL.next rfl ?_
  refine TC.ret ?_
  have e : fuse_wrong band = ((decide (band < 0)) || (decide (band > 60000))) := by unfold fuse_wrong; exact rfl
  exact TE.ret [] (.bool ((decide (band < 0)) || (decide (band > 60000)))) ⟨by kernel_rfl, by kernel_rfl⟩ (by rw [e]; first | done | kernel_rfl)

def plane_Sub (a : P) (b_ : P) : P :=
  (⟨w64 (a.X - b_.X), w64 (a.Y - b_.Y)⟩ : P)

set_option maxRecDepth 100000 in
theorem plane_Sub_w (a : P) (b_ : P) (w : World) : Calls Try.prog 184 #[P.v a, P.v b_] w (Ret w (P.v (plane_Sub a b_))) := by
  refine calls_intro (vs := [P.v a, P.v b_]) (w := w) Try.func184 rfl Try.ntmps184 rfl ?_
  refine TC.weak [(0, P.v a), (1, P.v b_)] (by kernel_rfl) ?_
  refine TC.seq ?_
  refine TC.region ?_
  refine TL.write 0 (fun b1 => [(1, P.v b_), (2, .pointer (some ⟨b1, 0, none⟩))]) (fun b1 => [.inl (b1, .cells (P.c a) 81 (0, 0))]) (fun b1 => ⟨by kernel_rfl, by kernel_rfl⟩) (fun b1 => ?_)
  refine TL.write 0 (fun b2 => [(2, .pointer (some ⟨b1, 0, none⟩)), (3, .pointer (some ⟨b2, 0, none⟩))]) (fun b2 => [.inl (b2, .cells (P.c b_) 81 (0, 0)), .inl (b1, .cells (P.c a) 81 (0, 0))]) (fun b2 => ⟨by kernel_rfl, by kernel_rfl⟩) (fun b2 => ?_)
  refine TL.write 0 (fun b3 => [(2, .pointer (some ⟨b1, 0, none⟩)), (3, .pointer (some ⟨b2, 0, none⟩)), (4, .pointer (some ⟨b3, 0, none⟩))]) (fun b3 => [.inl (b3, .cells (P.c P.zero) 81 (0, 0)), .inl (b2, .cells (P.c b_) 81 (0, 0)), .inl (b1, .cells (P.c a) 81 (0, 0))]) (fun b3 => ⟨by kernel_rfl, by kernel_rfl⟩) (fun b3 => ?_)
  refine TL.next rfl ?_
  refine TC.seq ?_
  refine TC.region ?_
  refine TL.run 11 [2, 1, 2, 1] [(4, .pointer (some ⟨b3, 0, none⟩)), (15, .agg #[.int .i64 (w64 (a.X - b_.X)), .int .i64 (w64 (a.Y - b_.Y))])] rfl ⟨by kernel_rfl, by kernel_rfl⟩ ?_
  refine TL.write 0 (fun _ => [(4, .pointer (some ⟨b3, 0, none⟩))]) (fun _ => [.inl (b3, .cells #[.int .i64 (w64 (a.X - b_.X)), .int .i64 (w64 (a.Y - b_.Y))] 81 (0, 0)), .inl (b2, .cells (P.c b_) 81 (0, 0)), .inl (b1, .cells (P.c a) 81 (0, 0))]) (fun _ => ⟨by kernel_rfl, by kernel_rfl⟩) (fun _ => ?_)
  refine TL.next rfl ?_
  refine TC.ret ?_
  have e : plane_Sub a b_ = (⟨w64 (a.X - b_.X), w64 (a.Y - b_.Y)⟩ : P) := by unfold plane_Sub; exact rfl
  exact TE.ret [0] (.agg #[.int .i64 (w64 (a.X - b_.X)), .int .i64 (w64 (a.Y - b_.Y))]) ⟨by kernel_rfl, by kernel_rfl⟩ (by rw [e]; first | done | kernel_rfl)

def plane_Dot (a : P) (b_ : P) : Int :=
  w64 ((w64 (a.X * b_.X)) + (w64 (a.Y * b_.Y)))

set_option maxRecDepth 100000 in
theorem plane_Dot_w (a : P) (b_ : P) (w : World) : Calls Try.prog 185 #[P.v a, P.v b_] w (Ret w (.int .i64 (plane_Dot a b_))) := by
  refine calls_intro (vs := [P.v a, P.v b_]) (w := w) Try.func185 rfl Try.ntmps185 rfl ?_
  refine TC.weak [(0, P.v a), (1, P.v b_)] (by kernel_rfl) ?_
  refine TC.seq ?_
  refine TC.region ?_
  refine TL.write 0 (fun b1 => [(1, P.v b_), (2, .pointer (some ⟨b1, 0, none⟩))]) (fun b1 => [.inl (b1, .cells (P.c a) 81 (0, 0))]) (fun b1 => ⟨by kernel_rfl, by kernel_rfl⟩) (fun b1 => ?_)
  refine TL.write 0 (fun b2 => [(2, .pointer (some ⟨b1, 0, none⟩)), (3, .pointer (some ⟨b2, 0, none⟩))]) (fun b2 => [.inl (b2, .cells (P.c b_) 81 (0, 0)), .inl (b1, .cells (P.c a) 81 (0, 0))]) (fun b2 => ⟨by kernel_rfl, by kernel_rfl⟩) (fun b2 => ?_)
  refine TL.run 3 [] [(2, .pointer (some ⟨b1, 0, none⟩)), (3, .pointer (some ⟨b2, 0, none⟩))] rfl ⟨by kernel_rfl, by kernel_rfl⟩ ?_
  refine TL.next rfl ?_
  refine TC.seq ?_
  refine TC.region ?_
  refine TL.run 12 [1, 0, 1, 0] [(4, .int .i64 (w64 ((w64 (a.X * b_.X)) + (w64 (a.Y * b_.Y)))))] rfl ⟨by kernel_rfl, by kernel_rfl⟩ ?_
  refine TL.next rfl ?_
  refine TC.ret ?_
  have e : plane_Dot a b_ = (w64 ((w64 (a.X * b_.X)) + (w64 (a.Y * b_.Y)))) := by unfold plane_Dot; exact rfl
  exact TE.ret [] (.int .i64 (w64 ((w64 (a.X * b_.X)) + (w64 (a.Y * b_.Y))))) ⟨by kernel_rfl, by kernel_rfl⟩ (by rw [e]; first | done | kernel_rfl)

def plane_Square (a : P) (b_ : P) : Int :=
  let r1 := plane_Sub a b_
  let r2 := plane_Dot r1 r1
  r2

set_option maxRecDepth 100000 in
theorem plane_Square_w (a : P) (b_ : P) (w : World) : Calls Try.prog 153 #[P.v a, P.v b_] w (Ret w (.int .i64 (plane_Square a b_))) := by
  refine calls_intro (vs := [P.v a, P.v b_]) (w := w) Try.func153 rfl Try.ntmps153 rfl ?_
  refine TC.weak [(0, P.v a), (1, P.v b_)] (by kernel_rfl) ?_
  refine TC.seq ?_
  refine TC.region ?_
  refine TL.write 0 (fun b1 => [(1, P.v b_), (2, .pointer (some ⟨b1, 0, none⟩))]) (fun b1 => [.inl (b1, .cells (P.c a) 81 (0, 0))]) (fun b1 => ⟨by kernel_rfl, by kernel_rfl⟩) (fun b1 => ?_)
  refine TL.write 0 (fun b2 => [(2, .pointer (some ⟨b1, 0, none⟩)), (3, .pointer (some ⟨b2, 0, none⟩))]) (fun b2 => [.inl (b2, .cells (P.c b_) 81 (0, 0)), .inl (b1, .cells (P.c a) 81 (0, 0))]) (fun b2 => ⟨by kernel_rfl, by kernel_rfl⟩) (fun b2 => ?_)
  refine TL.run 3 [] [(2, .pointer (some ⟨b1, 0, none⟩)), (3, .pointer (some ⟨b2, 0, none⟩))] rfl ⟨by kernel_rfl, by kernel_rfl⟩ ?_
  refine TL.next rfl ?_
  refine TC.seq ?_
  refine TC.region ?_
  refine TL.run 2 [1, 0] [(6, P.v a), (7, P.v b_)] rfl ⟨by kernel_rfl, by kernel_rfl⟩ ?_
  refine TL.call (some 8) [(8, P.v (plane_Sub a b_))] (fun w _ => plane_Sub_w a b_ w) (by kernel_rfl) (by kernel_rfl) ?_
  generalize hr1 : plane_Sub a b_ = r1
  refine TL.write 0 (fun b3 => [(5, .pointer (some ⟨b3, 0, none⟩)), (8, P.v r1)]) (fun b3 => [.inl (b3, .cells (P.c P.zero) 81 (0, 0)), .inl (b2, .cells (P.c b_) 81 (0, 0)), .inl (b1, .cells (P.c a) 81 (0, 0))]) (fun b3 => ⟨by kernel_rfl, by kernel_rfl⟩) (fun b3 => ?_)
  refine TL.write 0 (fun _ => [(5, .pointer (some ⟨b3, 0, none⟩))]) (fun _ => [.inl (b3, .cells (P.c r1) 81 (0, 0)), .inl (b2, .cells (P.c b_) 81 (0, 0)), .inl (b1, .cells (P.c a) 81 (0, 0))]) (fun _ => ⟨by kernel_rfl, by kernel_rfl⟩) (fun _ => ?_)
  refine TL.next rfl ?_
  refine TC.seq ?_
  refine TC.region ?_
  refine TL.run 2 [0, 0] [(9, P.v r1), (10, P.v r1)] rfl ⟨by kernel_rfl, by kernel_rfl⟩ ?_
  refine TL.call (some 11) [(11, .int .i64 (plane_Dot r1 r1))] (fun w _ => plane_Dot_w r1 r1 w) (by kernel_rfl) (by kernel_rfl) ?_
  generalize hr2 : plane_Dot r1 r1 = r2
  refine TL.run 4 [] [(4, .int .i64 r2)] rfl ⟨by kernel_rfl, by kernel_rfl⟩ ?_
  refine TL.next rfl ?_
  refine TC.ret ?_
  have e : plane_Square a b_ = r2 := by subst hr1 hr2; unfold plane_Square; exact rfl
  exact TE.ret [] (.int .i64 r2) ⟨by kernel_rfl, by kernel_rfl⟩ (by rw [e]; first | done | kernel_rfl)

def plane_Within (a : P) (b_ : P) (d : Int) : Bool :=
  cond ((decide (d ≥ 0)) && (decide (d ≤ 8000000))) (
    let r1 := plane_Square a b_
    decide (r1 ≤ (w64 (d * d)))) (
    false)

set_option maxRecDepth 100000 in
theorem plane_Within_w (a : P) (b_ : P) (d : Int) (w : World) : Calls Try.prog 120 #[P.v a, P.v b_, .int .i64 d] w (Ret w (.bool (plane_Within a b_ d))) := by
  refine calls_intro (vs := [P.v a, P.v b_, .int .i64 d]) (w := w) Try.func120 rfl Try.ntmps120 rfl ?_
  refine TC.weak [(0, P.v a), (1, P.v b_), (2, .int .i64 d)] (by kernel_rfl) ?_
  refine TC.seq ?_
  refine TC.region ?_
  refine TL.write 0 (fun b1 => [(1, P.v b_), (2, .int .i64 d), (3, .pointer (some ⟨b1, 0, none⟩))]) (fun b1 => [.inl (b1, .cells (P.c a) 81 (0, 0))]) (fun b1 => ⟨by kernel_rfl, by kernel_rfl⟩) (fun b1 => ?_)
  refine TL.write 0 (fun b2 => [(2, .int .i64 d), (3, .pointer (some ⟨b1, 0, none⟩)), (4, .pointer (some ⟨b2, 0, none⟩))]) (fun b2 => [.inl (b2, .cells (P.c b_) 81 (0, 0)), .inl (b1, .cells (P.c a) 81 (0, 0))]) (fun b2 => ⟨by kernel_rfl, by kernel_rfl⟩) (fun b2 => ?_)
  refine TL.run 3 [] [(2, .int .i64 d), (3, .pointer (some ⟨b1, 0, none⟩)), (4, .pointer (some ⟨b2, 0, none⟩))] rfl ⟨by kernel_rfl, by kernel_rfl⟩ ?_
  refine TL.next rfl ?_
  refine TC.seq ?_
  refine TC.region ?_
  refine TL.run 3 [] [(2, .int .i64 d), (3, .pointer (some ⟨b1, 0, none⟩)), (4, .pointer (some ⟨b2, 0, none⟩)), (9, .bool (decide (d ≥ 0)))] rfl ⟨by kernel_rfl, by kernel_rfl⟩ ?_
  refine TL.join 9 (decide (d ≥ 0)) 6 [] [] (fun β => [(2, .int .i64 d), (3, .pointer (some ⟨b1, 0, none⟩)), (4, .pointer (some ⟨b2, 0, none⟩)), (12, .bool (β && (decide (d ≤ 8000000))))]) (by kernel_rfl) rfl ⟨by kernel_rfl, by kernel_rfl⟩ ⟨by kernel_rfl, by kernel_rfl⟩ ?_
  refine TL.run 7 [] [(2, .int .i64 d), (3, .pointer (some ⟨b1, 0, none⟩)), (4, .pointer (some ⟨b2, 0, none⟩)), (13, .bool ((decide (d ≥ 0)) && (decide (d ≤ 8000000))))] rfl ⟨by kernel_rfl, by kernel_rfl⟩ ?_
  refine TL.split 13 ((decide (d ≥ 0)) && (decide (d ≤ 8000000))) (by kernel_rfl) (fun h1 => ?_) (fun h1 => ?_)
  · refine TL.run 9 [1, 0] [(2, .int .i64 d), (13, .bool true), (14, P.v a), (15, P.v b_)] rfl ⟨by kernel_rfl, by kernel_rfl⟩ ?_
    refine TL.call (some 16) [(2, .int .i64 d), (13, .bool true), (16, .int .i64 (plane_Square a b_))] (fun w _ => plane_Square_w a b_ w) (by kernel_rfl) (by kernel_rfl) ?_
    generalize hr1 : plane_Square a b_ = r1
    refine TL.run 16 [] [(6, .bool (decide (r1 ≤ (w64 (d * d)))))] rfl ⟨by kernel_rfl, by kernel_rfl⟩ ?_
    refine TL.next rfl ?_
    refine TC.ret ?_
    have e : plane_Within a b_ d = (decide (r1 ≤ (w64 (d * d)))) := by subst hr1; unfold plane_Within; exact cond_t h1 (rfl)
    exact TE.ret [] (.bool (decide (r1 ≤ (w64 (d * d))))) ⟨by kernel_rfl, by kernel_rfl⟩ (by rw [e]; first | done | kernel_rfl)
  · refine TL.run 16 [] [(6, .bool false)] rfl ⟨by kernel_rfl, by kernel_rfl⟩ ?_
    refine TL.next rfl ?_
    refine TC.ret ?_
    have e : plane_Within a b_ d = false := by unfold plane_Within; exact cond_f h1 (rfl)
    exact TE.ret [] (.bool false) ⟨by kernel_rfl, by kernel_rfl⟩ (by rw [e]; first | done | kernel_rfl)

def fuse_near (a : Int) (b_ : Int) (band : Int) : Bool :=
  decide ((imax (w64 (a - b_)) (w64 (b_ - a))) ≤ band)

set_option maxRecDepth 100000 in
theorem fuse_near_w (a : Int) (b_ : Int) (band : Int) (w : World) : Calls Try.prog 121 #[.int .i64 a, .int .i64 b_, .int .i64 band] w (Ret w (.bool (fuse_near a b_ band))) := by
  refine calls_intro (vs := [.int .i64 a, .int .i64 b_, .int .i64 band]) (w := w) Try.func121 rfl Try.ntmps121 rfl ?_
  refine TC.weak [(0, .int .i64 a), (1, .int .i64 b_), (2, .int .i64 band)] (by kernel_rfl) ?_
  refine TC.seq ?_
  refine TC.region ?_
  refine TL.run 1 [] [(0, .int .i64 a), (1, .int .i64 b_), (2, .int .i64 band)] rfl ⟨by kernel_rfl, by kernel_rfl⟩ ?_
  refine TL.next rfl ?_
  refine TC.seq ?_
  refine TC.region ?_
  refine TL.run 10 [] [(6, .bool (decide ((imax (w64 (a - b_)) (w64 (b_ - a))) ≤ band)))] rfl ⟨by kernel_rfl, by kernel_rfl⟩ ?_
  refine TL.next rfl ?_
  refine TC.ret ?_
  have e : fuse_near a b_ band = (decide ((imax (w64 (a - b_)) (w64 (b_ - a))) ≤ band)) := by unfold fuse_near; exact rfl
  exact TE.ret [] (.bool (decide ((imax (w64 (a - b_)) (w64 (b_ - a))) ≤ band))) ⟨by kernel_rfl, by kernel_rfl⟩ (by rw [e]; first | done | kernel_rfl)

def fuse_alike (a : Spot) (b_ : Spot) (band : Int) : Bool :=
  cond (((a.Time == b_.Time) && (a.Code == b_.Code)) && (a.Code != (-1))) (
    let r1 := plane_Within a.At b_.At (w64 (a.Error + b_.Error))
    cond r1 (
      let r2 := fuse_near a.Height b_.Height band
      r2) (
      false)) (
    false)

set_option maxRecDepth 100000 in
theorem fuse_alike_w (a : Spot) (b_ : Spot) (band : Int) (w : World) : Calls Try.prog 92 #[Spot.v a, Spot.v b_, .int .i64 band] w (Ret w (.bool (fuse_alike a b_ band))) := by
  refine calls_intro (vs := [Spot.v a, Spot.v b_, .int .i64 band]) (w := w) Try.func92 rfl Try.ntmps92 rfl ?_
  refine TC.weak [(0, Spot.v a), (1, Spot.v b_), (2, .int .i64 band)] (by kernel_rfl) ?_
  refine TC.seq ?_
  refine TC.region ?_
  refine TL.write 0 (fun b1 => [(1, Spot.v b_), (2, .int .i64 band), (3, .pointer (some ⟨b1, 0, none⟩))]) (fun b1 => [.inl (b1, .cells (Spot.c a) 94 (0, 0))]) (fun b1 => ⟨by kernel_rfl, by kernel_rfl⟩) (fun b1 => ?_)
  refine TL.write 0 (fun b2 => [(2, .int .i64 band), (3, .pointer (some ⟨b1, 0, none⟩)), (4, .pointer (some ⟨b2, 0, none⟩))]) (fun b2 => [.inl (b2, .cells (Spot.c b_) 94 (0, 0)), .inl (b1, .cells (Spot.c a) 94 (0, 0))]) (fun b2 => ⟨by kernel_rfl, by kernel_rfl⟩) (fun b2 => ?_)
  refine TL.run 3 [] [(2, .int .i64 band), (3, .pointer (some ⟨b1, 0, none⟩)), (4, .pointer (some ⟨b2, 0, none⟩))] rfl ⟨by kernel_rfl, by kernel_rfl⟩ ?_
  refine TL.next rfl ?_
  refine TC.seq ?_
  refine TC.region ?_
  refine TL.run 6 [1, 0] [(2, .int .i64 band), (3, .pointer (some ⟨b1, 0, none⟩)), (4, .pointer (some ⟨b2, 0, none⟩)), (12, .bool (a.Time == b_.Time))] rfl ⟨by kernel_rfl, by kernel_rfl⟩ ?_
  refine TL.join 12 (a.Time == b_.Time) 12 [1, 0] [] (fun β => [(2, .int .i64 band), (3, .pointer (some ⟨b1, 0, none⟩)), (4, .pointer (some ⟨b2, 0, none⟩)), (18, .bool (β && (a.Code == b_.Code)))]) (by kernel_rfl) rfl ⟨by kernel_rfl, by kernel_rfl⟩ ⟨by kernel_rfl, by kernel_rfl⟩ ?_
  refine TL.run 13 [] [(2, .int .i64 band), (3, .pointer (some ⟨b1, 0, none⟩)), (4, .pointer (some ⟨b2, 0, none⟩)), (19, .bool ((a.Time == b_.Time) && (a.Code == b_.Code)))] rfl ⟨by kernel_rfl, by kernel_rfl⟩ ?_
  refine TL.join 19 ((a.Time == b_.Time) && (a.Code == b_.Code)) 17 [1] [] (fun β => [(2, .int .i64 band), (3, .pointer (some ⟨b1, 0, none⟩)), (4, .pointer (some ⟨b2, 0, none⟩)), (23, .bool (β && (a.Code != (-1))))]) (by kernel_rfl) rfl ⟨by kernel_rfl, by kernel_rfl⟩ ⟨by kernel_rfl, by kernel_rfl⟩ ?_
  refine TL.run 18 [] [(2, .int .i64 band), (3, .pointer (some ⟨b1, 0, none⟩)), (4, .pointer (some ⟨b2, 0, none⟩)), (24, .bool (((a.Time == b_.Time) && (a.Code == b_.Code)) && (a.Code != (-1))))] rfl ⟨by kernel_rfl, by kernel_rfl⟩ ?_
  refine TL.split 24 (((a.Time == b_.Time) && (a.Code == b_.Code)) && (a.Code != (-1))) (by kernel_rfl) (fun h1 => ?_) (fun h1 => ?_)
  · refine TL.run 27 [1, 0, 1, 0] [(2, .int .i64 band), (3, .pointer (some ⟨b1, 0, none⟩)), (4, .pointer (some ⟨b2, 0, none⟩)), (24, .bool true), (26, P.v a.At), (28, P.v b_.At), (33, .int .i64 (w64 (a.Error + b_.Error)))] rfl ⟨by kernel_rfl, by kernel_rfl⟩ ?_
    refine TL.call (some 34) [(2, .int .i64 band), (3, .pointer (some ⟨b1, 0, none⟩)), (4, .pointer (some ⟨b2, 0, none⟩)), (24, .bool true), (34, .bool ((plane_Within a.At b_.At (w64 (a.Error + b_.Error)))))] (fun w _ => plane_Within_w a.At b_.At (w64 (a.Error + b_.Error)) w) (by kernel_rfl) (by kernel_rfl) ?_
    generalize hr1 : plane_Within a.At b_.At (w64 (a.Error + b_.Error)) = r1
    refine TL.run 30 [] [(2, .int .i64 band), (3, .pointer (some ⟨b1, 0, none⟩)), (4, .pointer (some ⟨b2, 0, none⟩)), (36, .bool r1)] rfl ⟨by kernel_rfl, by kernel_rfl⟩ ?_
    refine TL.split 36 r1 (by kernel_rfl) (fun h2 => ?_) (fun h2 => ?_)
    · refine TL.run 35 [1, 0] [(36, .bool true), (38, .int .i64 a.Height), (40, .int .i64 b_.Height), (41, .int .i64 band)] rfl ⟨by kernel_rfl, by kernel_rfl⟩ ?_
      refine TL.call (some 42) [(36, .bool true), (42, .bool ((fuse_near a.Height b_.Height band)))] (fun w _ => fuse_near_w a.Height b_.Height band w) (by kernel_rfl) (by kernel_rfl) ?_
      generalize hr2 : fuse_near a.Height b_.Height band = r2
      refine TL.run 38 [] [(6, .bool r2)] rfl ⟨by kernel_rfl, by kernel_rfl⟩ ?_
      refine TL.next rfl ?_
      refine TC.ret ?_
      have e : fuse_alike a b_ band = r2 := by subst hr1 hr2; unfold fuse_alike; exact cond_t h1 (cond_t h2 (rfl))
      exact TE.ret [] (.bool r2) ⟨by kernel_rfl, by kernel_rfl⟩ (by rw [e]; first | done | kernel_rfl)
    · refine TL.run 38 [] [(6, .bool false)] rfl ⟨by kernel_rfl, by kernel_rfl⟩ ?_
      refine TL.next rfl ?_
      refine TC.ret ?_
      have e : fuse_alike a b_ band = false := by subst hr1; unfold fuse_alike; exact cond_t h1 (cond_f h2 (rfl))
      exact TE.ret [] (.bool false) ⟨by kernel_rfl, by kernel_rfl⟩ (by rw [e]; first | done | kernel_rfl)
  · refine TL.run 38 [] [(6, .bool false)] rfl ⟨by kernel_rfl, by kernel_rfl⟩ ?_
    refine TL.next rfl ?_
    refine TC.ret ?_
    have e : fuse_alike a b_ band = false := by unfold fuse_alike; exact cond_f h1 (rfl)
    exact TE.ret [] (.bool false) ⟨by kernel_rfl, by kernel_rfl⟩ (by rw [e]; first | done | kernel_rfl)

def fuse_Alike_L1 (a : Spot) (b_ : Spot) : Nat → Nat → ((Unit) ⊕ (Bool × Int))
  | 0, _ => .inl ()
  | m + 1, k => let r1 := radar_CheckSpot (([a, b_] : List Spot)[k]?.getD Spot.zero)
    cond (r1 != 0) (
      .inr (false, r1)) (
      fuse_Alike_L1 a b_ m (k + 1))
def fuse_Alike (a : Spot) (b_ : Spot) (band : Int) : Bool × Int :=
  Sum.elim (fun _ =>
    let r2 := fuse_wrong band
    cond r2 (
      (false, 4)) (
      let r3 := fuse_alike a b_ band
      (r3, 0))) (fun r => r) (fuse_Alike_L1 a b_ ((2 : Int).toNat) 0)

set_option maxRecDepth 100000 in
theorem fuse_Alike_w (a : Spot) (b_ : Spot) (band : Int) (w : World) : Calls Try.prog 45 #[Spot.v a, Spot.v b_, .int .i64 band] w (Ret w (.tuple #[.bool ((fuse_Alike a b_ band).1), .int .i64 ((fuse_Alike a b_ band).2)])) := by
  refine calls_intro (vs := [Spot.v a, Spot.v b_, .int .i64 band]) (w := w) Try.func45 rfl Try.ntmps45 rfl ?_
  refine TC.weak [(0, Spot.v a), (1, Spot.v b_), (2, .int .i64 band)] (by kernel_rfl) ?_
  refine TC.seq ?_
  refine TC.region ?_
  refine TL.write 0 (fun b1 => [(1, Spot.v b_), (2, .int .i64 band), (3, .pointer (some ⟨b1, 0, none⟩))]) (fun b1 => [.inl (b1, .cells (Spot.c a) 94 (0, 0))]) (fun b1 => ⟨by kernel_rfl, by kernel_rfl⟩) (fun b1 => ?_)
  refine TL.write 0 (fun b2 => [(2, .int .i64 band), (3, .pointer (some ⟨b1, 0, none⟩)), (4, .pointer (some ⟨b2, 0, none⟩))]) (fun b2 => [.inl (b2, .cells (Spot.c b_) 94 (0, 0)), .inl (b1, .cells (Spot.c a) 94 (0, 0))]) (fun b2 => ⟨by kernel_rfl, by kernel_rfl⟩) (fun b2 => ?_)
  refine TL.run 4 [] [(2, .int .i64 band), (3, .pointer (some ⟨b1, 0, none⟩)), (4, .pointer (some ⟨b2, 0, none⟩))] rfl ⟨by kernel_rfl, by kernel_rfl⟩ ?_
  refine TL.next rfl ?_
  refine TC.seq ?_
  refine TC.seq ?_
  refine TC.region ?_
  refine TL.run 2 [1, 0] [(2, .int .i64 band), (3, .pointer (some ⟨b1, 0, none⟩)), (4, .pointer (some ⟨b2, 0, none⟩)), (11, Spot.v a), (12, Spot.v b_)] rfl ⟨by kernel_rfl, by kernel_rfl⟩ ?_
  refine TL.write 0 (fun b3 => [(2, .int .i64 band), (3, .pointer (some ⟨b1, 0, none⟩)), (4, .pointer (some ⟨b2, 0, none⟩)), (13, .slice (some ⟨b3, 0, none⟩) 2 2)]) (fun b3 => [.inl (b3, .cells #[.int .i64 a.Time, .int .i64 a.At.X, .int .i64 a.At.Y, .int .i64 a.Height, .int .i64 a.Code, .int .i64 a.Error, .int .i64 b_.Time, .int .i64 b_.At.X, .int .i64 b_.At.Y, .int .i64 b_.Height, .int .i64 b_.Code, .int .i64 b_.Error] 94 (0, 0)), .inl (b2, .cells (Spot.c b_) 94 (0, 0)), .inl (b1, .cells (Spot.c a) 94 (0, 0))]) (fun b3 => ⟨by kernel_rfl, by kernel_rfl⟩) (fun b3 => ?_)
  refine TL.run 5 [] [(2, .int .i64 band), (3, .pointer (some ⟨b1, 0, none⟩)), (4, .pointer (some ⟨b2, 0, none⟩)), (13, .slice (some ⟨b3, 0, none⟩) 2 2), (14, .int .i64 2), (15, .int .i64 0)] rfl ⟨by kernel_rfl, by kernel_rfl⟩ ?_
  refine TL.next rfl ?_
  refine TC.conv [.inr (Own (some ⟨b3, 0, none⟩) 2 94 6 (([a, b_] : List Spot).map Spot.c)), .inl (b2, .cells (Spot.c b_) 94 (0, 0)), .inl (b1, .cells (Spot.c a) 94 (0, 0))] (fun _ hM => by exact hM.litrow 0 (([a, b_] : List Spot).map Spot.c) rfl (by kernel_rfl) (by kernel_rfl) (by kernel_rfl) (by kernel_rfl)) ?_
  refine TC.weak [(2, .int .i64 band), (3, .pointer (some ⟨b1, 0, none⟩)), (4, .pointer (some ⟨b2, 0, none⟩)), (13, .slice (some ⟨b3, 0, none⟩) (([a, b_] : List Spot).length) 2), (14, .int .i64 2), (15, .int .i64 0)] (by kernel_rfl) ?_
  obtain ⟨R2, hR⟩ : ∃ R, R = fuse_Alike_L1 a b_ ((2 : Int).toNat) 0 := ⟨_, rfl⟩
  refine TC.cut (S := Unit) (fun (_ : Unit) => [(2, .int .i64 band), (3, .pointer (some ⟨b1, 0, none⟩)), (4, .pointer (some ⟨b2, 0, none⟩))]) (fun (_ : Unit) => [.inl (b2, .cells (Spot.c b_) 94 (0, 0)), .inl (b1, .cells (Spot.c a) 94 (0, 0))]) (fun (_ : Unit) => R2 = .inl ()) ?_ ?_
  · refine TC.block ?_
    refine TC.loop (X := Nat) (fun k => [(2, .int .i64 band), (3, .pointer (some ⟨b1, 0, none⟩)), (4, .pointer (some ⟨b2, 0, none⟩)), (13, .slice (some ⟨b3, 0, none⟩) (([a, b_] : List Spot).length) 2), (14, .int .i64 2), (15, .int .i64 (k : Int))]) (fun k => [.inr (Own (some ⟨b3, 0, none⟩) 2 94 6 (([a, b_] : List Spot).map Spot.c)), .inl (b2, .cells (Spot.c b_) 94 (0, 0)), .inl (b1, .cells (Spot.c a) 94 (0, 0))]) (fun k => (2 : Int).toNat - k) (fun k => k ≤ (2 : Int).toNat ∧ R2 = fuse_Alike_L1 a b_ ((2 : Int).toNat - k) k) ?_ 0 ⟨Nat.zero_le _, hR⟩
    rintro k ⟨hk, hI⟩
    refine TC.seq ?_
    refine TC.region ?_
    refine TL.run 1 [] [(2, .int .i64 band), (3, .pointer (some ⟨b1, 0, none⟩)), (4, .pointer (some ⟨b2, 0, none⟩)), (13, .slice (some ⟨b3, 0, none⟩) (([a, b_] : List Spot).length) 2), (14, .int .i64 2), (15, .int .i64 (k : Int)), (16, .bool (decide ((k : Int) < 2)))] rfl ⟨by kernel_rfl, by kernel_rfl⟩ ?_
    refine TL.next rfl ?_
    refine TC.seq ?_
    refine TC.cond (decide ((k : Int) < 2)) rfl (by kernel_rfl) (fun h1 => ?_) (fun h1 => ?_)
    · have hlt : k < (2 : Int).toNat := by have := of_decide_eq_true h1; first | omega | (simp at this; omega)
      have hd : (2 : Int).toNat - k = ((2 : Int).toNat - (k + 1)) + 1 := by omega
      refine TC.skip ?_
      refine TE.next ?_
      refine TC.seq ?_
      refine TC.block ?_
      refine TC.seq ?_
      refine TC.region ?_
      refine TL.val (sV (Instr.indexAt 90 (.slice (some ⟨b3, 0, none⟩) (([a, b_] : List Spot).length) 2) (.int .i64 (k : Int)))) (some 17) (.pointer (some (((some ⟨b3, 0, none⟩).getD noAddr).add (k * 6)))) [(2, .int .i64 band), (3, .pointer (some ⟨b1, 0, none⟩)), (4, .pointer (some ⟨b2, 0, none⟩)), (13, .slice (some ⟨b3, 0, none⟩) (([a, b_] : List Spot).length) 2), (14, .int .i64 2), (15, .int .i64 (k : Int)), (17, .pointer (some (((some ⟨b3, 0, none⟩).getD noAddr).add (k * 6))))] (fun w hM => run_index (hM.rd_at 0 rfl) (by simp) (by kernel_rfl) (by first | omega | (rw [List.length_set]; omega) | (rw [w64_id (by omega)]; omega) | (dsimp only; omega) | (rw [List.length_drop]; omega) | (simp only [w64_eq]; omega) | exact (tm_in (by (first | (rw [w64_id (by omega)]; omega) | (simp only [w64_eq]; omega))) (by omega)).1 | exact (tm_in (by (first | (rw [w64_id (by omega)]; omega) | (simp only [w64_eq]; omega))) (by omega)).2.1 | exact (tm_in (by (first | (rw [w64_id (by omega)]; omega) | (simp only [w64_eq]; omega))) (by omega)).2.2 | (simp only [List.length_take] at *; omega) | (simp <;> omega)) (by first | omega | (rw [List.length_set]; omega) | (rw [w64_id (by omega)]; omega) | (dsimp only; omega) | (rw [List.length_drop]; omega) | (simp only [w64_eq]; omega) | exact (tm_in (by (first | (rw [w64_id (by omega)]; omega) | (simp only [w64_eq]; omega))) (by omega)).1 | exact (tm_in (by (first | (rw [w64_id (by omega)]; omega) | (simp only [w64_eq]; omega))) (by omega)).2.1 | exact (tm_in (by (first | (rw [w64_id (by omega)]; omega) | (simp only [w64_eq]; omega))) (by omega)).2.2 | (simp only [List.length_take] at *; omega) | (simp <;> omega))) (by kernel_rfl) (by kernel_rfl) ?_
      refine TL.val (sV (Instr.loadAt 94 (.pointer (some (((some ⟨b3, 0, none⟩).getD noAddr).add (k * 6)))))) (some 18) (Spot.v (([a, b_] : List Spot)[k]?.getD Spot.zero)) [(2, .int .i64 band), (3, .pointer (some ⟨b1, 0, none⟩)), (4, .pointer (some ⟨b2, 0, none⟩)), (13, .slice (some ⟨b3, 0, none⟩) (([a, b_] : List Spot).length) 2), (14, .int .i64 2), (15, .int .i64 (k : Int)), (18, Spot.v (([a, b_] : List Spot)[k]?.getD Spot.zero))] (fun w hM => run_load_agg (n := 6) (off := 0) (i := k) (Spot.v (([a, b_] : List Spot)[k]?.getD Spot.zero)) (hM.rd_at 0 rfl) (map_at (getD_at _ _ Spot.zero (by first | omega | (rw [List.length_set]; omega) | (rw [w64_id (by omega)]; omega) | (dsimp only; omega) | (rw [List.length_drop]; omega) | (simp only [w64_eq]; omega) | exact (tm_in (by (first | (rw [w64_id (by omega)]; omega) | (simp only [w64_eq]; omega))) (by omega)).1 | exact (tm_in (by (first | (rw [w64_id (by omega)]; omega) | (simp only [w64_eq]; omega))) (by omega)).2.1 | exact (tm_in (by (first | (rw [w64_id (by omega)]; omega) | (simp only [w64_eq]; omega))) (by omega)).2.2 | (simp only [List.length_take] at *; omega) | (simp <;> omega)))) (by kernel_rfl) (by kernel_rfl) (by kernel_rfl)) (by kernel_rfl) (by kernel_rfl) ?_
      refine TL.write 0 (fun b4 => [(2, .int .i64 band), (3, .pointer (some ⟨b1, 0, none⟩)), (4, .pointer (some ⟨b2, 0, none⟩)), (9, .pointer (some ⟨b4, 0, none⟩)), (13, .slice (some ⟨b3, 0, none⟩) (([a, b_] : List Spot).length) 2), (14, .int .i64 2), (15, .int .i64 (k : Int)), (18, Spot.v (([a, b_] : List Spot)[k]?.getD Spot.zero))]) (fun b4 => [.inl (b4, .cells (Spot.c Spot.zero) 94 (0, 0)), .inr (Own (some ⟨b3, 0, none⟩) 2 94 6 (([a, b_] : List Spot).map Spot.c)), .inl (b2, .cells (Spot.c b_) 94 (0, 0)), .inl (b1, .cells (Spot.c a) 94 (0, 0))]) (fun b4 => ⟨by kernel_rfl, by kernel_rfl⟩) (fun b4 => ?_)
      refine TL.write 0 (fun _ => [(2, .int .i64 band), (3, .pointer (some ⟨b1, 0, none⟩)), (4, .pointer (some ⟨b2, 0, none⟩)), (9, .pointer (some ⟨b4, 0, none⟩)), (13, .slice (some ⟨b3, 0, none⟩) (([a, b_] : List Spot).length) 2), (14, .int .i64 2), (15, .int .i64 (k : Int))]) (fun _ => [.inl (b4, .cells (Spot.c (([a, b_] : List Spot)[k]?.getD Spot.zero)) 94 (0, 0)), .inr (Own (some ⟨b3, 0, none⟩) 2 94 6 (([a, b_] : List Spot).map Spot.c)), .inl (b2, .cells (Spot.c b_) 94 (0, 0)), .inl (b1, .cells (Spot.c a) 94 (0, 0))]) (fun _ => ⟨by kernel_rfl, by kernel_rfl⟩) (fun _ => ?_)
      refine TL.next rfl ?_
      refine TC.seq ?_
      refine TC.region ?_
      refine TL.run 1 [0] [(2, .int .i64 band), (3, .pointer (some ⟨b1, 0, none⟩)), (4, .pointer (some ⟨b2, 0, none⟩)), (13, .slice (some ⟨b3, 0, none⟩) (([a, b_] : List Spot).length) 2), (14, .int .i64 2), (15, .int .i64 (k : Int)), (19, Spot.v (([a, b_] : List Spot)[k]?.getD Spot.zero))] rfl ⟨by kernel_rfl, by kernel_rfl⟩ ?_
      refine TL.call (some 20) [(2, .int .i64 band), (3, .pointer (some ⟨b1, 0, none⟩)), (4, .pointer (some ⟨b2, 0, none⟩)), (13, .slice (some ⟨b3, 0, none⟩) (([a, b_] : List Spot).length) 2), (14, .int .i64 2), (15, .int .i64 (k : Int)), (20, .int .i64 (radar_CheckSpot (([a, b_] : List Spot)[k]?.getD Spot.zero)))] (fun w _ => radar_CheckSpot_w (([a, b_] : List Spot)[k]?.getD Spot.zero) w) (by kernel_rfl) (by kernel_rfl) ?_
      generalize hr1 : radar_CheckSpot (([a, b_] : List Spot)[k]?.getD Spot.zero) = r1
      refine TL.run 3 [] [(2, .int .i64 band), (3, .pointer (some ⟨b1, 0, none⟩)), (4, .pointer (some ⟨b2, 0, none⟩)), (10, .int .i64 r1), (13, .slice (some ⟨b3, 0, none⟩) (([a, b_] : List Spot).length) 2), (14, .int .i64 2), (15, .int .i64 (k : Int))] rfl ⟨by kernel_rfl, by kernel_rfl⟩ ?_
      refine TL.next rfl ?_
      refine TC.seq ?_
      refine TC.region ?_
      refine TL.run 2 [] [(2, .int .i64 band), (3, .pointer (some ⟨b1, 0, none⟩)), (4, .pointer (some ⟨b2, 0, none⟩)), (10, .int .i64 r1), (13, .slice (some ⟨b3, 0, none⟩) (([a, b_] : List Spot).length) 2), (14, .int .i64 2), (15, .int .i64 (k : Int)), (22, .bool (r1 != 0))] rfl ⟨by kernel_rfl, by kernel_rfl⟩ ?_
      refine TL.next rfl ?_
      refine TC.cond (r1 != 0) rfl (by kernel_rfl) (fun h2 => ?_) (fun h2 => ?_)
      · refine TC.seq ?_
        refine TC.region ?_
        refine TL.run 3 [] [(6, .bool false), (7, .int .i64 r1)] rfl ⟨by kernel_rfl, by kernel_rfl⟩ ?_
        refine TL.next rfl ?_
        refine TC.ret ?_
        refine TE.ret_block (TE.ret_then (TE.ret_then (TE.ret_block (TE.ret_then (TE.ret_then ?_)))))
        have e : fuse_Alike a b_ band = (false, r1) := by subst hr1; unfold fuse_Alike; exact elim_r (hR.symm.trans (hI.trans (by rw [hd]; exact cond_t h2 (rfl)))) rfl
        exact TE.ret [] (.tuple #[.bool false, .int .i64 r1]) ⟨by kernel_rfl, by kernel_rfl⟩ (by rw [e]; first | done | kernel_rfl)
      · refine TC.skip ?_
        refine TE.normal_block ?_
        refine TE.next ?_
        refine TC.region ?_
        refine TL.run 2 [] [(2, .int .i64 band), (3, .pointer (some ⟨b1, 0, none⟩)), (4, .pointer (some ⟨b2, 0, none⟩)), (13, .slice (some ⟨b3, 0, none⟩) (([a, b_] : List Spot).length) 2), (14, .int .i64 2), (15, .int .i64 (w64 ((k : Int) + 1)))] rfl ⟨by kernel_rfl, by kernel_rfl⟩ ?_
        refine TL.done rfl ?_
        refine TE.rw 15 (.int .i64 (w64 ((k : Int) + 1))) (.int .i64 ((k + 1 : Nat) : Int)) (by kernel_rfl) (w64_cast k (by omega)) ?_
        exact TE.again (x := k) (k + 1) ⟨by omega, hI.trans (by subst hr1; rw [hd]; exact cond_f h2 (rfl))⟩ (by show (2 : Int).toNat - (k + 1) < (2 : Int).toNat - k; omega) (by kernel_rfl) (.cons _ (.cons_cons _ (.cons_cons _ (.cons_cons _ (.slnil)))))
    · have hd : (2 : Int).toNat - k = 0 := by have := of_decide_eq_false h1; first | omega | (simp at this; omega)
      refine TC.exit ?_
      refine TE.exit_then (TE.exit_then (TE.exit_same ?_))
      exact TE.cut () (hI.trans (by rw [hd]; exact rfl)) (by kernel_rfl) (.cons _ (.cons_cons _ (.cons_cons _ (.slnil))))
  · intro _ hJ
    refine TE.next ?_
    refine TC.seq ?_
    refine TC.seq ?_
    refine TC.region ?_
    refine TL.run 1 [] [(2, .int .i64 band), (3, .pointer (some ⟨b1, 0, none⟩)), (4, .pointer (some ⟨b2, 0, none⟩)), (25, .int .i64 band)] rfl ⟨by kernel_rfl, by kernel_rfl⟩ ?_
    refine TL.call (some 26) [(2, .int .i64 band), (3, .pointer (some ⟨b1, 0, none⟩)), (4, .pointer (some ⟨b2, 0, none⟩)), (26, .bool ((fuse_wrong band)))] (fun w _ => fuse_wrong_w band w) (by kernel_rfl) (by kernel_rfl) ?_
    generalize hr2 : fuse_wrong band = r2
    refine TL.next rfl ?_
    refine TC.cond r2 rfl (by kernel_rfl) (fun h3 => ?_) (fun h3 => ?_)
    · refine TC.seq ?_
      refine TC.region ?_
      refine TL.run 2 [] [(6, .bool false), (7, .int .i64 4)] rfl ⟨by kernel_rfl, by kernel_rfl⟩ ?_
      refine TL.next rfl ?_
      refine TC.ret ?_
      refine TE.ret_then ?_
      have e : fuse_Alike a b_ band = (false, 4) := by subst hr2; unfold fuse_Alike; exact elim_l (hR.symm.trans hJ) (cond_t h3 (rfl))
      exact TE.ret [] (.tuple #[.bool false, .int .i64 4]) ⟨by kernel_rfl, by kernel_rfl⟩ (by rw [e]; first | done | kernel_rfl)
    · refine TC.skip ?_
      refine TE.next ?_
      refine TC.seq ?_
      refine TC.region ?_
      refine TL.run 3 [1, 0] [(27, Spot.v a), (28, Spot.v b_), (29, .int .i64 band)] rfl ⟨by kernel_rfl, by kernel_rfl⟩ ?_
      refine TL.call (some 30) [(30, .bool ((fuse_alike a b_ band)))] (fun w _ => fuse_alike_w a b_ band w) (by kernel_rfl) (by kernel_rfl) ?_
      generalize hr3 : fuse_alike a b_ band = r3
      refine TL.run 6 [] [(6, .bool r3), (7, .int .i64 0)] rfl ⟨by kernel_rfl, by kernel_rfl⟩ ?_
      refine TL.next rfl ?_
      refine TC.ret ?_
      have e : fuse_Alike a b_ band = (r3, 0) := by subst hr2 hr3; unfold fuse_Alike; exact elim_l (hR.symm.trans hJ) (cond_f h3 (rfl))
      exact TE.ret [] (.tuple #[.bool r3, .int .i64 0]) ⟨by kernel_rfl, by kernel_rfl⟩ (by rw [e]; first | done | kernel_rfl)

def skywaykeep2_within (n : Int) (low : Int) (high : Int) : Int :=
  w64 (low + ((w64 ((n.tmod (w64 ((w64 (high - low)) + 1))) + (w64 ((w64 (high - low)) + 1)))).tmod (w64 ((w64 (high - low)) + 1))))

theorem within_eq {n low high r : Int} (hr : skywaykeep2_within n low high = r) (h : low ≤ high) (h1 : -1000000000000 ≤ low) (h2 : high ≤ 1000000000000) :
    r = low + (n.tmod (high - low + 1) + (high - low + 1)).tmod (high - low + 1) ∧ low ≤ r ∧ r ≤ high := by
  subst hr
  unfold skywaykeep2_within
  have s : w64 ((w64 (high - low)) + 1) = high - low + 1 := by rw [w64_id (x := high - low) (by omega), w64_id (by omega)]
  simp only [s]
  have t1 := Int.tmod_lt_of_pos n (show 0 < high - low + 1 by omega)
  have t2 := Int.lt_tmod_of_pos n (show 0 < high - low + 1 by omega)
  rw [w64_id (x := n.tmod (high - low + 1) + (high - low + 1)) (by omega)]
  have t3 := Int.tmod_lt_of_pos (n.tmod (high - low + 1) + (high - low + 1)) (show 0 < high - low + 1 by omega)
  have t4 := Int.tmod_nonneg (high - low + 1) (show 0 ≤ n.tmod (high - low + 1) + (high - low + 1) by omega)
  rw [w64_id (by omega)]
  omega
theorem within_in {n low high r : Int} (hr : skywaykeep2_within n low high = r) (h : low ≤ high) (h1 : -1000000000000 ≤ low) (h2 : high ≤ 1000000000000) : low ≤ r ∧ r ≤ high := (within_eq hr h h1 h2).2

set_option maxRecDepth 100000 in
theorem skywaykeep2_within_w (n : Int) (low : Int) (high : Int) (w : World) (hs : w64 ((w64 (high - low)) + 1) ≠ 0) : Calls Try.prog 16 #[.int .i64 n, .int .i64 low, .int .i64 high] w (Ret w (.int .i64 (skywaykeep2_within n low high))) := by
  refine calls_intro (vs := [.int .i64 n, .int .i64 low, .int .i64 high]) (w := w) Try.func16 rfl Try.ntmps16 rfl ?_
  refine TC.weak [(0, .int .i64 n), (1, .int .i64 low), (2, .int .i64 high)] (by kernel_rfl) ?_
  refine TC.seq ?_
  refine TC.region ?_
  refine TL.run 1 [] [(0, .int .i64 n), (1, .int .i64 low), (2, .int .i64 high)] rfl ⟨by kernel_rfl, by kernel_rfl⟩ ?_
  refine TL.next rfl ?_
  refine TC.seq ?_
  refine TC.region ?_
  refine TL.run 5 [] [(0, .int .i64 n), (1, .int .i64 low), (7, .int .i64 (w64 ((w64 (high - low)) + 1)))] rfl ⟨by kernel_rfl, by kernel_rfl⟩ ?_
  refine TL.next rfl ?_
  refine TC.seq ?_
  refine TC.region ?_
  refine TL.run 3 [] [(7, .int .i64 (w64 ((w64 (high - low)) + 1))), (12, .int .i64 low), (13, .int .i64 n), (14, .int .i64 (w64 ((w64 (high - low)) + 1)))] rfl ⟨by kernel_rfl, by kernel_rfl⟩ ?_
  refine TL.val (sV (binOp .rem 3 (.int .i64 n) (.int .i64 (w64 ((w64 (high - low)) + 1))))) (some 15) (.int .i64 (n.tmod (w64 ((w64 (high - low)) + 1)))) [(7, .int .i64 (w64 ((w64 (high - low)) + 1))), (12, .int .i64 low), (15, .int .i64 (n.tmod (w64 ((w64 (high - low)) + 1))))] (fun w hM => run_rem (by first | omega | (rw [List.length_set]; omega) | (rw [w64_id (by omega)]; omega) | (dsimp only; omega) | (rw [List.length_drop]; omega) | (simp only [w64_eq]; omega) | exact (tm_in (by (first | (rw [w64_id (by omega)]; omega) | (simp only [w64_eq]; omega))) (by omega)).1 | exact (tm_in (by (first | (rw [w64_id (by omega)]; omega) | (simp only [w64_eq]; omega))) (by omega)).2.1 | exact (tm_in (by (first | (rw [w64_id (by omega)]; omega) | (simp only [w64_eq]; omega))) (by omega)).2.2 | (simp only [List.length_take] at *; omega) | (simp <;> omega))) (by kernel_rfl) (by kernel_rfl) ?_
  refine TL.run 7 [] [(12, .int .i64 low), (17, .int .i64 (w64 ((n.tmod (w64 ((w64 (high - low)) + 1))) + (w64 ((w64 (high - low)) + 1))))), (18, .int .i64 (w64 ((w64 (high - low)) + 1)))] rfl ⟨by kernel_rfl, by kernel_rfl⟩ ?_
  refine TL.val (sV (binOp .rem 3 (.int .i64 (w64 ((n.tmod (w64 ((w64 (high - low)) + 1))) + (w64 ((w64 (high - low)) + 1))))) (.int .i64 (w64 ((w64 (high - low)) + 1))))) (some 19) (.int .i64 ((w64 ((n.tmod (w64 ((w64 (high - low)) + 1))) + (w64 ((w64 (high - low)) + 1)))).tmod (w64 ((w64 (high - low)) + 1)))) [(12, .int .i64 low), (19, .int .i64 ((w64 ((n.tmod (w64 ((w64 (high - low)) + 1))) + (w64 ((w64 (high - low)) + 1)))).tmod (w64 ((w64 (high - low)) + 1))))] (fun w hM => run_rem (by first | omega | (rw [List.length_set]; omega) | (rw [w64_id (by omega)]; omega) | (dsimp only; omega) | (rw [List.length_drop]; omega) | (simp only [w64_eq]; omega) | exact (tm_in (by (first | (rw [w64_id (by omega)]; omega) | (simp only [w64_eq]; omega))) (by omega)).1 | exact (tm_in (by (first | (rw [w64_id (by omega)]; omega) | (simp only [w64_eq]; omega))) (by omega)).2.1 | exact (tm_in (by (first | (rw [w64_id (by omega)]; omega) | (simp only [w64_eq]; omega))) (by omega)).2.2 | (simp only [List.length_take] at *; omega) | (simp <;> omega))) (by kernel_rfl) (by kernel_rfl) ?_
  refine TL.run 10 [] [(6, .int .i64 (w64 (low + ((w64 ((n.tmod (w64 ((w64 (high - low)) + 1))) + (w64 ((w64 (high - low)) + 1)))).tmod (w64 ((w64 (high - low)) + 1))))))] rfl ⟨by kernel_rfl, by kernel_rfl⟩ ?_
  refine TL.next rfl ?_
  refine TC.ret ?_
  have e : skywaykeep2_within n low high = (w64 (low + ((w64 ((n.tmod (w64 ((w64 (high - low)) + 1))) + (w64 ((w64 (high - low)) + 1)))).tmod (w64 ((w64 (high - low)) + 1))))) := by unfold skywaykeep2_within; exact rfl
  exact TE.ret [] (.int .i64 (w64 (low + ((w64 ((n.tmod (w64 ((w64 (high - low)) + 1))) + (w64 ((w64 (high - low)) + 1)))).tmod (w64 ((w64 (high - low)) + 1)))))) ⟨by kernel_rfl, by kernel_rfl⟩ (by rw [e]; first | done | kernel_rfl)

def slices_Clone_api_Spot_api_Spot (s : List Spot) : List Spot :=
  s

set_option maxRecDepth 100000 in
theorem slices_Clone_api_Spot_api_Spot_w (A_s : Option Addr) (c_s : Nat) (s : List Spot) (w : World) (h_s : Rd w 6 A_s (s.map Spot.c)) (_hc_s : s.length ≤ c_s) (hb : s.length * 48 ≤ 140737488355328) : Calls Try.prog 44 #[.slice A_s s.length c_s] w (RetM (Γ := (Option Addr × Nat)) (cx w) (fun g => .slice g.1 ((slices_Clone_api_Spot_api_Spot s).length) g.2) (fun g => [.inr (Own g.1 g.2 94 6 ((slices_Clone_api_Spot_api_Spot s).map Spot.c))])) := by
  have s_s := h_s.short; rw [List.length_map] at s_s
  rcases A_s with _ | a
  · have hz : s = [] := nil_of_none h_s
    subst hz
    refine calls_intro (vs := [.slice none 0 c_s]) (w := w) Try.func44 rfl Try.ntmps44 rfl ?_
    refine TC.weak [(0, .slice none 0 c_s)] (by kernel_rfl) ?_
    refine TC.seq ?_
    refine TC.region ?_
    refine TL.run 1 [] [(0, .slice none 0 c_s)] rfl ⟨by kernel_rfl, by kernel_rfl⟩ ?_
    refine TL.next rfl ?_
    refine TC.seq ?_
    refine TC.seq ?_
    refine TC.region ?_
    refine TL.run 2 [] [(0, .slice none 0 c_s), (4, .bool true)] rfl ⟨by kernel_rfl, by kernel_rfl⟩ ?_
    refine TL.next rfl ?_
    refine TC.condT rfl (by kernel_rfl) ?_
    refine TC.seq ?_
    refine TC.region ?_
    refine TL.run 1 [] [(2, .slice none 0 0)] rfl ⟨by kernel_rfl, by kernel_rfl⟩ ?_
    refine TL.next rfl ?_
    refine TC.ret ?_
    refine TE.ret_then ?_
    have e : slices_Clone_api_Spot_api_Spot [] = ([]) := rfl
    refine TE.conv [.inr (Own none 0 94 6 (([] : List Spot).map Spot.c))] (fun _ hM => hM.emptyrow none 94 6) ?_
    rw [e]
    exact TE.retM (.inl rfl) (none, 0) [] (.slice none 0 0) ⟨by kernel_rfl, by kernel_rfl⟩ rfl (fun _ hM => hM.sub (.cons_cons _ (.slnil)))
  · refine calls_intro (vs := [.slice (some a) s.length c_s]) (w := w) Try.func44 rfl Try.ntmps44 rfl ?_
    refine TC.weak [(0, .slice (some a) s.length c_s)] (by kernel_rfl) ?_
    refine TC.seq ?_
    refine TC.region ?_
    refine TL.run 1 [] [(0, .slice (some a) s.length c_s)] rfl ⟨by kernel_rfl, by kernel_rfl⟩ ?_
    refine TL.next rfl ?_
    refine TC.seq ?_
    refine TC.seq ?_
    refine TC.region ?_
    refine TL.run 2 [] [(0, .slice (some a) s.length c_s), (4, .bool false)] rfl ⟨by kernel_rfl, by kernel_rfl⟩ ?_
    refine TL.next rfl ?_
    refine TC.condF rfl (by kernel_rfl) ?_
    refine TC.skip ?_
    refine TE.next ?_
    refine TC.seq ?_
    refine TC.region ?_
    refine TL.write 0 (fun b1 => [(0, .slice (some a) s.length c_s), (5, .slice (some ⟨b1, 0, none⟩) 0 0)]) (fun b1 => [.inl (b1, .cells #[] 94 (0, 0))]) (fun b1 => ⟨by kernel_rfl, by kernel_rfl⟩) (fun b1 => ?_)
    refine TL.run 2 [] [(5, .slice (some ⟨b1, 0, none⟩) 0 0), (6, .slice (some a) s.length c_s)] rfl ⟨by kernel_rfl, by kernel_rfl⟩ ?_
    refine TL.conv [.inr (Own (some ⟨b1, 0, none⟩) 0 94 6 (([] : List Spot).map Spot.c))] (fun _ hM => by exact hM.litrow 0 (([] : List Spot).map Spot.c) rfl (by kernel_rfl) (by kernel_rfl) (by kernel_rfl) (by kernel_rfl)) ?_
    refine TL.opM (Γ := Option Addr × Nat) (sV (Builtin.append_ #[90, 90] 90 #[.slice (some ⟨b1, 0, none⟩) (([] : List Spot).length) 0, .slice (some a) s.length c_s])) (some 7) (fun g => .slice g.1 (([] : List Spot) ++ s).length g.2) (fun g => [.inr (Own g.1 g.2 94 6 ((([] : List Spot) ++ s).map Spot.c))]) (fun g => [(7, .slice g.1 ((([] : List Spot) ++ s).length) g.2)]) (app_at (bytes := 48) 90 0 s (by kernel_rfl) rfl rfl Spot.one rfl (fun w hM => (h_s.sat hM)) rfl (by first | omega | (simp <;> omega) | (simp at * <;> omega))) (by kernel_rfl) (fun g => by kernel_rfl) ?_
    rintro ⟨A, c⟩
    refine TL.run 4 [] [(2, .slice A ((([] : List Spot) ++ s).length) c)] rfl ⟨by kernel_rfl, by kernel_rfl⟩ ?_
    refine TL.next rfl ?_
    refine TC.ret ?_
    have e : slices_Clone_api_Spot_api_Spot s = (([] : List Spot) ++ s) := rfl
    rw [e]
    exact TE.retM (.inl rfl) (A, c) [] (.slice A ((([] : List Spot) ++ s).length) c) ⟨by kernel_rfl, by kernel_rfl⟩ rfl (fun _ hM => hM.sub (.cons_cons _ (.slnil)))

def slices_Equal_api_Spot_api_Spot_L1 (s2 : List Spot) : List Spot → Nat → ((Unit) ⊕ (Bool))
  | [], _ => .inl ()
  | x :: xs, k => cond (!(Spot.eqb x (s2[k]?.getD Spot.zero))) (
      .inr false) (
      slices_Equal_api_Spot_api_Spot_L1 s2 xs (k + 1))
def slices_Equal_api_Spot_api_Spot (s1 : List Spot) (s2 : List Spot) : Bool :=
  cond ((s1.length : Int) != (s2.length : Int)) (
    false) (
    Sum.elim (fun _ =>
      true) (fun r => r) (slices_Equal_api_Spot_api_Spot_L1 s2 s1 0))

set_option maxRecDepth 100000 in
theorem slices_Equal_api_Spot_api_Spot_w (A_s1 : Option Addr) (c_s1 : Nat) (s1 : List Spot) (A_s2 : Option Addr) (c_s2 : Nat) (s2 : List Spot) (w : World) (h_s1 : Rd w 6 A_s1 (s1.map Spot.c)) (_hc_s1 : s1.length ≤ c_s1) (h_s2 : Rd w 6 A_s2 (s2.map Spot.c)) (_hc_s2 : s2.length ≤ c_s2) : Calls Try.prog 46 #[.slice A_s1 s1.length c_s1, .slice A_s2 s2.length c_s2] w (Ret w (.bool (slices_Equal_api_Spot_api_Spot s1 s2))) := by
  have s_s1 := h_s1.short; rw [List.length_map] at s_s1
  have s_s2 := h_s2.short; rw [List.length_map] at s_s2
  refine calls_intro (vs := [.slice A_s1 s1.length c_s1, .slice A_s2 s2.length c_s2]) (w := w) Try.func46 rfl Try.ntmps46 rfl ?_
  refine TC.weak [(0, .slice A_s1 s1.length c_s1), (1, .slice A_s2 s2.length c_s2)] (by kernel_rfl) ?_
  refine TC.seq ?_
  refine TC.region ?_
  refine TL.run 1 [] [(0, .slice A_s1 s1.length c_s1), (1, .slice A_s2 s2.length c_s2)] rfl ⟨by kernel_rfl, by kernel_rfl⟩ ?_
  refine TL.next rfl ?_
  refine TC.seq ?_
  refine TC.seq ?_
  refine TC.region ?_
  refine TL.run 5 [] [(0, .slice A_s1 s1.length c_s1), (1, .slice A_s2 s2.length c_s2), (10, .bool ((s1.length : Int) != (s2.length : Int)))] rfl ⟨by kernel_rfl, by kernel_rfl⟩ ?_
  refine TL.next rfl ?_
  refine TC.cond ((s1.length : Int) != (s2.length : Int)) rfl (by kernel_rfl) (fun h1 => ?_) (fun h1 => ?_)
  · refine TC.seq ?_
    refine TC.region ?_
    refine TL.run 1 [] [(4, .bool false)] rfl ⟨by kernel_rfl, by kernel_rfl⟩ ?_
    refine TL.next rfl ?_
    refine TC.ret ?_
    refine TE.ret_then ?_
    have e : slices_Equal_api_Spot_api_Spot s1 s2 = false := by unfold slices_Equal_api_Spot_api_Spot; exact cond_t h1 (rfl)
    exact TE.ret [] (.bool false) ⟨by kernel_rfl, by kernel_rfl⟩ (by rw [e]; first | done | kernel_rfl)
  · refine TC.skip ?_
    refine TE.next ?_
    refine TC.seq ?_
    refine TC.seq ?_
    refine TC.region ?_
    refine TL.run 3 [] [(0, .slice A_s1 s1.length c_s1), (1, .slice A_s2 s2.length c_s2), (12, .int .i64 (s1.length : Int)), (13, .int .i64 0)] rfl ⟨by kernel_rfl, by kernel_rfl⟩ ?_
    refine TL.next rfl ?_
    refine TC.weak [(0, .slice A_s1 s1.length c_s1), (1, .slice A_s2 s2.length c_s2), (12, .int .i64 (s1.length : Int)), (13, .int .i64 0)] (by kernel_rfl) ?_
    obtain ⟨R1, hR⟩ : ∃ R, R = slices_Equal_api_Spot_api_Spot_L1 s2 s1 0 := ⟨_, rfl⟩
    refine TC.cut (S := Unit) (fun (_ : Unit) => []) (fun (_ : Unit) => []) (fun (_ : Unit) => R1 = .inl ()) ?_ ?_
    · refine TC.block ?_
      refine TC.loop (X := Nat) (fun k => [(0, .slice A_s1 s1.length c_s1), (1, .slice A_s2 s2.length c_s2), (12, .int .i64 (s1.length : Int)), (13, .int .i64 (k : Int))]) (fun k => []) (fun k => s1.length - k) (fun k => k ≤ s1.length ∧ R1 = slices_Equal_api_Spot_api_Spot_L1 s2 (s1.drop k) k) ?_ 0 ⟨Nat.zero_le _, hR⟩
      rintro k ⟨hk, hI⟩
      refine TC.seq ?_
      refine TC.region ?_
      refine TL.run 1 [] [(0, .slice A_s1 s1.length c_s1), (1, .slice A_s2 s2.length c_s2), (12, .int .i64 (s1.length : Int)), (13, .int .i64 (k : Int)), (14, .bool (decide ((k : Int) < (s1.length : Int))))] rfl ⟨by kernel_rfl, by kernel_rfl⟩ ?_
      refine TL.next rfl ?_
      refine TC.seq ?_
      refine TC.cond (decide ((k : Int) < (s1.length : Int))) rfl (by kernel_rfl) (fun h2 => ?_) (fun h2 => ?_)
      · have hlt : k < s1.length := by have := of_decide_eq_true h2; first | omega | (simp at this; omega)
        obtain ⟨x, hx⟩ : ∃ e_, s1[k]? = some e_ := ⟨_, List.getElem?_eq_getElem hlt⟩
        have hd := drop_at hx
        refine TC.skip ?_
        refine TE.next ?_
        refine TC.seq ?_
        refine TC.block ?_
        refine TC.seq ?_
        refine TC.region ?_
        refine TL.run 2 [] [(0, .slice A_s1 s1.length c_s1), (1, .slice A_s2 s2.length c_s2), (5, .int .i64 (k : Int)), (12, .int .i64 (s1.length : Int)), (13, .int .i64 (k : Int))] rfl ⟨by kernel_rfl, by kernel_rfl⟩ ?_
        refine TL.next rfl ?_
        refine TC.seq ?_
        refine TC.draw 9 (by kernel_rfl) (by kernel_rfl) (by kernel_rfl) ?_
        refine TQ.run 2 [] [(0, .slice A_s1 s1.length c_s1), (1, .slice A_s2 s2.length c_s2), (5, .int .i64 (k : Int)), (12, .int .i64 (s1.length : Int)), (13, .int .i64 (k : Int)), (16, .slice A_s1 s1.length c_s1), (17, .int .i64 (k : Int))] rfl ⟨by kernel_rfl, by kernel_rfl⟩ ?_
        refine TQ.val (sV (Instr.indexAt 90 (.slice A_s1 s1.length c_s1) (.int .i64 (k : Int)))) (some 18) (.pointer (some ((A_s1.getD noAddr).add (k * 6)))) [(0, .slice A_s1 s1.length c_s1), (1, .slice A_s2 s2.length c_s2), (5, .int .i64 (k : Int)), (12, .int .i64 (s1.length : Int)), (13, .int .i64 (k : Int)), (18, .pointer (some ((A_s1.getD noAddr).add (k * 6))))] (fun w hM => run_index (h_s1.sat hM) (by simp) (by kernel_rfl) (by have q0_ := (bne_f h1); first | omega | (rw [List.length_set]; omega) | (rw [w64_id (by omega)]; omega) | (dsimp only; omega) | (rw [List.length_drop]; omega) | (simp only [w64_eq]; omega) | exact (tm_in (by (first | (rw [w64_id (by omega)]; omega) | (simp only [w64_eq]; omega))) (by omega)).1 | exact (tm_in (by (first | (rw [w64_id (by omega)]; omega) | (simp only [w64_eq]; omega))) (by omega)).2.1 | exact (tm_in (by (first | (rw [w64_id (by omega)]; omega) | (simp only [w64_eq]; omega))) (by omega)).2.2 | (simp only [List.length_take] at *; omega) | (simp <;> omega)) (by have q0_ := (bne_f h1); first | omega | (rw [List.length_set]; omega) | (rw [w64_id (by omega)]; omega) | (dsimp only; omega) | (rw [List.length_drop]; omega) | (simp only [w64_eq]; omega) | exact (tm_in (by (first | (rw [w64_id (by omega)]; omega) | (simp only [w64_eq]; omega))) (by omega)).1 | exact (tm_in (by (first | (rw [w64_id (by omega)]; omega) | (simp only [w64_eq]; omega))) (by omega)).2.1 | exact (tm_in (by (first | (rw [w64_id (by omega)]; omega) | (simp only [w64_eq]; omega))) (by omega)).2.2 | (simp only [List.length_take] at *; omega) | (simp <;> omega))) rfl (by kernel_rfl) (by kernel_rfl) ?_
        refine TQ.val (sV (Instr.loadAt 94 (.pointer (some ((A_s1.getD noAddr).add (k * 6)))))) (some 19) (Spot.v x) [(0, .slice A_s1 s1.length c_s1), (1, .slice A_s2 s2.length c_s2), (5, .int .i64 (k : Int)), (12, .int .i64 (s1.length : Int)), (13, .int .i64 (k : Int)), (19, Spot.v x)] (fun w hM => run_load_agg (n := 6) (off := 0) (i := k) (Spot.v x) (h_s1.sat hM) (map_at hx) (by kernel_rfl) (by kernel_rfl) (by kernel_rfl)) rfl (by kernel_rfl) (by kernel_rfl) ?_
        refine TQ.run 6 [] [(0, .slice A_s1 s1.length c_s1), (1, .slice A_s2 s2.length c_s2), (12, .int .i64 (s1.length : Int)), (13, .int .i64 (k : Int)), (19, Spot.v x), (20, .slice A_s2 s2.length c_s2), (21, .int .i64 (k : Int))] rfl ⟨by kernel_rfl, by kernel_rfl⟩ ?_
        refine TQ.val (sV (Instr.indexAt 90 (.slice A_s2 s2.length c_s2) (.int .i64 (k : Int)))) (some 22) (.pointer (some ((A_s2.getD noAddr).add (k * 6)))) [(0, .slice A_s1 s1.length c_s1), (1, .slice A_s2 s2.length c_s2), (12, .int .i64 (s1.length : Int)), (13, .int .i64 (k : Int)), (19, Spot.v x), (22, .pointer (some ((A_s2.getD noAddr).add (k * 6))))] (fun w hM => run_index (h_s2.sat hM) (by simp) (by kernel_rfl) (by have q0_ := (bne_f h1); first | omega | (rw [List.length_set]; omega) | (rw [w64_id (by omega)]; omega) | (dsimp only; omega) | (rw [List.length_drop]; omega) | (simp only [w64_eq]; omega) | exact (tm_in (by (first | (rw [w64_id (by omega)]; omega) | (simp only [w64_eq]; omega))) (by omega)).1 | exact (tm_in (by (first | (rw [w64_id (by omega)]; omega) | (simp only [w64_eq]; omega))) (by omega)).2.1 | exact (tm_in (by (first | (rw [w64_id (by omega)]; omega) | (simp only [w64_eq]; omega))) (by omega)).2.2 | (simp only [List.length_take] at *; omega) | (simp <;> omega)) (by have q0_ := (bne_f h1); first | omega | (rw [List.length_set]; omega) | (rw [w64_id (by omega)]; omega) | (dsimp only; omega) | (rw [List.length_drop]; omega) | (simp only [w64_eq]; omega) | exact (tm_in (by (first | (rw [w64_id (by omega)]; omega) | (simp only [w64_eq]; omega))) (by omega)).1 | exact (tm_in (by (first | (rw [w64_id (by omega)]; omega) | (simp only [w64_eq]; omega))) (by omega)).2.1 | exact (tm_in (by (first | (rw [w64_id (by omega)]; omega) | (simp only [w64_eq]; omega))) (by omega)).2.2 | (simp only [List.length_take] at *; omega) | (simp <;> omega))) rfl (by kernel_rfl) (by kernel_rfl) ?_
        refine TQ.val (sV (Instr.loadAt 94 (.pointer (some ((A_s2.getD noAddr).add (k * 6)))))) (some 23) (Spot.v (s2[k]?.getD Spot.zero)) [(0, .slice A_s1 s1.length c_s1), (1, .slice A_s2 s2.length c_s2), (12, .int .i64 (s1.length : Int)), (13, .int .i64 (k : Int)), (19, Spot.v x), (23, Spot.v (s2[k]?.getD Spot.zero))] (fun w hM => run_load_agg (n := 6) (off := 0) (i := k) (Spot.v (s2[k]?.getD Spot.zero)) (h_s2.sat hM) (map_at (getD_at _ _ Spot.zero (by have q0_ := (bne_f h1); first | omega | (rw [List.length_set]; omega) | (rw [w64_id (by omega)]; omega) | (dsimp only; omega) | (rw [List.length_drop]; omega) | (simp only [w64_eq]; omega) | exact (tm_in (by (first | (rw [w64_id (by omega)]; omega) | (simp only [w64_eq]; omega))) (by omega)).1 | exact (tm_in (by (first | (rw [w64_id (by omega)]; omega) | (simp only [w64_eq]; omega))) (by omega)).2.1 | exact (tm_in (by (first | (rw [w64_id (by omega)]; omega) | (simp only [w64_eq]; omega))) (by omega)).2.2 | (simp only [List.length_take] at *; omega) | (simp <;> omega)))) (by kernel_rfl) (by kernel_rfl) (by kernel_rfl)) rfl (by kernel_rfl) (by kernel_rfl) ?_
        refine TQ.val (sV (do eqGuard .neq 94 (.tmp 19) (.tmp 23) (Spot.v x) (Spot.v (s2[k]?.getD Spot.zero)); binOp .neq 94 (Spot.v x) (Spot.v (s2[k]?.getD Spot.zero)))) (some 24) (.bool (!(Spot.eqb x (s2[k]?.getD Spot.zero)))) [(0, .slice A_s1 s1.length c_s1), (1, .slice A_s2 s2.length c_s2), (12, .int .i64 (s1.length : Int)), (13, .int .i64 (k : Int)), (24, .bool (!(Spot.eqb x (s2[k]?.getD Spot.zero))))] (fun w hM => run_neq (b := Spot.eqb x (s2[k]?.getD Spot.zero)) (by kernel_rfl) (by kernel_rfl) w) rfl (by kernel_rfl) (by kernel_rfl) ?_
        refine TQ.next rfl ?_
        refine TC.cond (!(Spot.eqb x (s2[k]?.getD Spot.zero))) rfl (by kernel_rfl) (fun h3 => ?_) (fun h3 => ?_)
        · refine TC.seq ?_
          refine TC.region ?_
          refine TL.run 1 [] [(4, .bool false)] rfl ⟨by kernel_rfl, by kernel_rfl⟩ ?_
          refine TL.next rfl ?_
          refine TC.ret ?_
          refine TE.ret_block (TE.ret_then (TE.ret_then (TE.ret_block (TE.ret_then (TE.ret_then ?_)))))
          have e : slices_Equal_api_Spot_api_Spot s1 s2 = false := by unfold slices_Equal_api_Spot_api_Spot; exact cond_f h1 (elim_r (hR.symm.trans (hI.trans (by rw [hd]; exact cond_t h3 (rfl)))) rfl)
          exact TE.ret [] (.bool false) ⟨by kernel_rfl, by kernel_rfl⟩ (by rw [e]; first | done | kernel_rfl)
        · refine TC.skip ?_
          refine TE.normal_block ?_
          refine TE.next ?_
          refine TC.region ?_
          refine TL.run 2 [] [(0, .slice A_s1 s1.length c_s1), (1, .slice A_s2 s2.length c_s2), (12, .int .i64 (s1.length : Int)), (13, .int .i64 (w64 ((k : Int) + 1)))] rfl ⟨by kernel_rfl, by kernel_rfl⟩ ?_
          refine TL.done rfl ?_
          refine TE.rw 13 (.int .i64 (w64 ((k : Int) + 1))) (.int .i64 ((k + 1 : Nat) : Int)) (by kernel_rfl) (w64_cast k (by omega)) ?_
          exact TE.again (x := k) (k + 1) ⟨by omega, hI.trans (by rw [hd]; exact cond_f h3 (rfl))⟩ (by show s1.length - (k + 1) < s1.length - k; omega) (by kernel_rfl) (.slnil)
      · have hd : s1.drop k = [] := List.drop_eq_nil_of_le (by have := of_decide_eq_false h2; first | omega | (simp at this; omega))
        refine TC.exit ?_
        refine TE.exit_then (TE.exit_then (TE.exit_same ?_))
        exact TE.cut () (hI.trans (by rw [hd]; exact rfl)) (by kernel_rfl) (.slnil)
    · intro _ hJ
      refine TE.next ?_
      refine TC.seq ?_
      refine TC.region ?_
      refine TL.run 1 [] [(4, .bool true)] rfl ⟨by kernel_rfl, by kernel_rfl⟩ ?_
      refine TL.next rfl ?_
      refine TC.ret ?_
      have e : slices_Equal_api_Spot_api_Spot s1 s2 = true := by unfold slices_Equal_api_Spot_api_Spot; exact cond_f h1 (elim_l (hR.symm.trans hJ) (rfl))
      exact TE.ret [] (.bool true) ⟨by kernel_rfl, by kernel_rfl⟩ (by rw [e]; first | done | kernel_rfl)

end Go.Sky
