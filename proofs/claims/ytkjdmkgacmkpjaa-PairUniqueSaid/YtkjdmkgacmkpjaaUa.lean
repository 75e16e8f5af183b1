/- Functions of the program, each with the Lean function that it computes. Conditions: none. -/
import Derived.Test.YtkjdmkgacmkpjaaNum
namespace Go.Sky
open Go Go.Eng Go.Proofs
def plane_Toward (a : P) (b_ : P) (n : Int) (d : Int) : P × Int :=
  cond (decide (d ≤ 0)) (
    ((⟨0, 0⟩ : P), 10)) (
    cond (((decide (d > 200000)) || (decide (n < 0))) || (decide (n > d))) (
      ((⟨0, 0⟩ : P), 4)) (
      let r1 := plane_Check a
      cond (r1 != 0) (
        let r2 := plane_Check a
        ((⟨0, 0⟩ : P), r2)) (
        let r3 := plane_Check b_
        cond (r3 != 0) (
          let r4 := plane_Check b_
          ((⟨0, 0⟩ : P), r4)) (
          let r5 := num_DivDown (w64 ((w64 (b_.X - a.X)) * n)) d
          let r6 := num_DivDown (w64 ((w64 (b_.Y - a.Y)) * n)) d
          ((⟨w64 (a.X + r5.1), w64 (a.Y + r6.1)⟩ : P), 0)))))

set_option maxRecDepth 100000 in
theorem plane_Toward_w (a : P) (b_ : P) (n : Int) (d : Int) (w : World) : Calls Try.prog 98 #[P.v a, P.v b_, .int .i64 n, .int .i64 d] w (Ret w (.tuple #[P.v ((plane_Toward a b_ n d).1), .int .i64 ((plane_Toward a b_ n d).2)])) := by
  refine calls_intro (vs := [P.v a, P.v b_, .int .i64 n, .int .i64 d]) (w := w) Try.func98 rfl Try.ntmps98 rfl ?_
  refine TC.weak [(0, P.v a), (1, P.v b_), (2, .int .i64 n), (3, .int .i64 d)] (by kernel_rfl) ?_
  refine TC.seq ?_
  refine TC.region ?_
  refine TL.write 0 (fun b1 => [(1, P.v b_), (2, .int .i64 n), (3, .int .i64 d), (4, .pointer (some ⟨b1, 0, none⟩))]) (fun b1 => [.inl (b1, .cells (P.c a) 23 (0, 0))]) (fun b1 => ⟨by kernel_rfl, by kernel_rfl⟩) (fun b1 => ?_)
  refine TL.write 0 (fun b2 => [(2, .int .i64 n), (3, .int .i64 d), (4, .pointer (some ⟨b1, 0, none⟩)), (5, .pointer (some ⟨b2, 0, none⟩))]) (fun b2 => [.inl (b2, .cells (P.c b_) 23 (0, 0)), .inl (b1, .cells (P.c a) 23 (0, 0))]) (fun b2 => ⟨by kernel_rfl, by kernel_rfl⟩) (fun b2 => ?_)
  refine TL.write 0 (fun b3 => [(2, .int .i64 n), (3, .int .i64 d), (4, .pointer (some ⟨b1, 0, none⟩)), (5, .pointer (some ⟨b2, 0, none⟩)), (8, .pointer (some ⟨b3, 0, none⟩))]) (fun b3 => [.inl (b3, .cells (P.c P.zero) 23 (0, 0)), .inl (b2, .cells (P.c b_) 23 (0, 0)), .inl (b1, .cells (P.c a) 23 (0, 0))]) (fun b3 => ⟨by kernel_rfl, by kernel_rfl⟩) (fun b3 => ?_)
  refine TL.run 4 [] [(2, .int .i64 n), (3, .int .i64 d), (4, .pointer (some ⟨b1, 0, none⟩)), (5, .pointer (some ⟨b2, 0, none⟩)), (8, .pointer (some ⟨b3, 0, none⟩))] rfl ⟨by kernel_rfl, by kernel_rfl⟩ ?_
  refine TL.next rfl ?_
  refine TC.seq ?_
  refine TC.block ?_
  refine TC.seq ?_
  refine TC.region ?_
  refine TL.run 3 [] [(2, .int .i64 n), (3, .int .i64 d), (4, .pointer (some ⟨b1, 0, none⟩)), (5, .pointer (some ⟨b2, 0, none⟩)), (8, .pointer (some ⟨b3, 0, none⟩)), (14, .bool (decide (d ≤ 0)))] rfl ⟨by kernel_rfl, by kernel_rfl⟩ ?_
  refine TL.next rfl ?_
  refine TC.cond (decide (d ≤ 0)) rfl (by kernel_rfl) (fun h1 => ?_) (fun h1 => ?_)
  · refine TC.seq ?_
    refine TC.region ?_
    refine TL.run 1 [] [(8, .pointer (some ⟨b3, 0, none⟩)), (17, P.v P.zero)] rfl ⟨by kernel_rfl, by kernel_rfl⟩ ?_
    refine TL.write 0 (fun _ => [(8, .pointer (some ⟨b3, 0, none⟩))]) (fun _ => [.inl (b3, .cells (P.c P.zero) 23 (0, 0)), .inl (b2, .cells (P.c b_) 23 (0, 0)), .inl (b1, .cells (P.c a) 23 (0, 0))]) (fun _ => ⟨by kernel_rfl, by kernel_rfl⟩) (fun _ => ?_)
    refine TL.run 3 [] [(8, .pointer (some ⟨b3, 0, none⟩)), (9, .int .i64 10)] rfl ⟨by kernel_rfl, by kernel_rfl⟩ ?_
    refine TL.next rfl ?_
    refine TC.ret ?_
    refine TE.ret_block (TE.ret_then ?_)
    have e : plane_Toward a b_ n d = ((⟨0, 0⟩ : P), 10) := by unfold plane_Toward; exact cond_t h1 (rfl)
    exact TE.ret [0] (.tuple #[.agg #[.int .i64 0, .int .i64 0], .int .i64 10]) ⟨by kernel_rfl, by kernel_rfl⟩ (by rw [e]; first | done | kernel_rfl)
  · refine TC.seq ?_
    refine TC.region ?_
    refine TL.run 3 [] [(2, .int .i64 n), (3, .int .i64 d), (4, .pointer (some ⟨b1, 0, none⟩)), (5, .pointer (some ⟨b2, 0, none⟩)), (8, .pointer (some ⟨b3, 0, none⟩)), (21, .bool (decide (d > 200000)))] rfl ⟨by kernel_rfl, by kernel_rfl⟩ ?_
    refine TL.join 21 (decide (d > 200000)) 6 [] [] (fun β => [(2, .int .i64 n), (3, .int .i64 d), (4, .pointer (some ⟨b1, 0, none⟩)), (5, .pointer (some ⟨b2, 0, none⟩)), (8, .pointer (some ⟨b3, 0, none⟩)), (24, .bool (β || (decide (n < 0))))]) (by kernel_rfl) rfl ⟨by kernel_rfl, by kernel_rfl⟩ ⟨by kernel_rfl, by kernel_rfl⟩ ?_
    refine TL.run 7 [] [(2, .int .i64 n), (3, .int .i64 d), (4, .pointer (some ⟨b1, 0, none⟩)), (5, .pointer (some ⟨b2, 0, none⟩)), (8, .pointer (some ⟨b3, 0, none⟩)), (25, .bool ((decide (d > 200000)) || (decide (n < 0))))] rfl ⟨by kernel_rfl, by kernel_rfl⟩ ?_
    refine TL.join 25 ((decide (d > 200000)) || (decide (n < 0))) 11 [] [] (fun β => [(2, .int .i64 n), (3, .int .i64 d), (4, .pointer (some ⟨b1, 0, none⟩)), (5, .pointer (some ⟨b2, 0, none⟩)), (8, .pointer (some ⟨b3, 0, none⟩)), (29, .bool (β || (decide (n > d))))]) (by kernel_rfl) rfl ⟨by kernel_rfl, by kernel_rfl⟩ ⟨by kernel_rfl, by kernel_rfl⟩ ?_
    refine TL.run 12 [] [(2, .int .i64 n), (3, .int .i64 d), (4, .pointer (some ⟨b1, 0, none⟩)), (5, .pointer (some ⟨b2, 0, none⟩)), (8, .pointer (some ⟨b3, 0, none⟩)), (18, .bool (((decide (d > 200000)) || (decide (n < 0))) || (decide (n > d))))] rfl ⟨by kernel_rfl, by kernel_rfl⟩ ?_
    refine TL.next rfl ?_
    refine TC.cond (((decide (d > 200000)) || (decide (n < 0))) || (decide (n > d))) rfl (by kernel_rfl) (fun h2 => ?_) (fun h2 => ?_)
    · refine TC.seq ?_
      refine TC.region ?_
      refine TL.run 1 [] [(8, .pointer (some ⟨b3, 0, none⟩)), (30, P.v P.zero)] rfl ⟨by kernel_rfl, by kernel_rfl⟩ ?_
      refine TL.write 0 (fun _ => [(8, .pointer (some ⟨b3, 0, none⟩))]) (fun _ => [.inl (b3, .cells (P.c P.zero) 23 (0, 0)), .inl (b2, .cells (P.c b_) 23 (0, 0)), .inl (b1, .cells (P.c a) 23 (0, 0))]) (fun _ => ⟨by kernel_rfl, by kernel_rfl⟩) (fun _ => ?_)
      refine TL.run 3 [] [(8, .pointer (some ⟨b3, 0, none⟩)), (9, .int .i64 4)] rfl ⟨by kernel_rfl, by kernel_rfl⟩ ?_
      refine TL.next rfl ?_
      refine TC.ret ?_
      refine TE.ret_block (TE.ret_then ?_)
      have e : plane_Toward a b_ n d = ((⟨0, 0⟩ : P), 4) := by unfold plane_Toward; exact cond_f h1 (cond_t h2 (rfl))
      exact TE.ret [0] (.tuple #[.agg #[.int .i64 0, .int .i64 0], .int .i64 4]) ⟨by kernel_rfl, by kernel_rfl⟩ (by rw [e]; first | done | kernel_rfl)
    · refine TC.seq ?_
      refine TC.region ?_
      refine TL.run 1 [2] [(2, .int .i64 n), (3, .int .i64 d), (4, .pointer (some ⟨b1, 0, none⟩)), (5, .pointer (some ⟨b2, 0, none⟩)), (8, .pointer (some ⟨b3, 0, none⟩)), (32, P.v a)] rfl ⟨by kernel_rfl, by kernel_rfl⟩ ?_
      refine TL.call (some 33) [(2, .int .i64 n), (3, .int .i64 d), (4, .pointer (some ⟨b1, 0, none⟩)), (5, .pointer (some ⟨b2, 0, none⟩)), (8, .pointer (some ⟨b3, 0, none⟩)), (33, .int .i64 (plane_Check a))] (fun w _ => plane_Check_w a w) (by kernel_rfl) (by kernel_rfl) ?_
      generalize hr1 : plane_Check a = r1
      refine TL.run 4 [] [(2, .int .i64 n), (3, .int .i64 d), (4, .pointer (some ⟨b1, 0, none⟩)), (5, .pointer (some ⟨b2, 0, none⟩)), (8, .pointer (some ⟨b3, 0, none⟩)), (31, .bool (r1 != 0))] rfl ⟨by kernel_rfl, by kernel_rfl⟩ ?_
      refine TL.next rfl ?_
      refine TC.cond (r1 != 0) rfl (by kernel_rfl) (fun h3 => ?_) (fun h3 => ?_)
      · refine TC.seq ?_
        refine TC.region ?_
        refine TL.run 2 [2] [(8, .pointer (some ⟨b3, 0, none⟩)), (35, P.v P.zero), (36, P.v a)] rfl ⟨by kernel_rfl, by kernel_rfl⟩ ?_
        refine TL.call (some 37) [(8, .pointer (some ⟨b3, 0, none⟩)), (35, P.v P.zero), (37, .int .i64 (plane_Check a))] (fun w _ => plane_Check_w a w) (by kernel_rfl) (by kernel_rfl) ?_
        generalize hr2 : plane_Check a = r2
        refine TL.write 0 (fun _ => [(8, .pointer (some ⟨b3, 0, none⟩)), (37, .int .i64 r2)]) (fun _ => [.inl (b3, .cells (P.c P.zero) 23 (0, 0)), .inl (b2, .cells (P.c b_) 23 (0, 0)), .inl (b1, .cells (P.c a) 23 (0, 0))]) (fun _ => ⟨by kernel_rfl, by kernel_rfl⟩) (fun _ => ?_)
        refine TL.run 5 [] [(8, .pointer (some ⟨b3, 0, none⟩)), (9, .int .i64 r2)] rfl ⟨by kernel_rfl, by kernel_rfl⟩ ?_
        refine TL.next rfl ?_
        refine TC.ret ?_
        refine TE.ret_block (TE.ret_then ?_)
        have e : plane_Toward a b_ n d = ((⟨0, 0⟩ : P), r2) := by subst hr1 hr2; unfold plane_Toward; exact cond_f h1 (cond_f h2 (cond_t h3 (rfl)))
        exact TE.ret [0] (.tuple #[.agg #[.int .i64 0, .int .i64 0], .int .i64 r2]) ⟨by kernel_rfl, by kernel_rfl⟩ (by rw [e]; first | done | kernel_rfl)
      · refine TC.seq ?_
        refine TC.region ?_
        refine TL.run 1 [1] [(2, .int .i64 n), (3, .int .i64 d), (4, .pointer (some ⟨b1, 0, none⟩)), (5, .pointer (some ⟨b2, 0, none⟩)), (8, .pointer (some ⟨b3, 0, none⟩)), (39, P.v b_)] rfl ⟨by kernel_rfl, by kernel_rfl⟩ ?_
        refine TL.call (some 40) [(2, .int .i64 n), (3, .int .i64 d), (4, .pointer (some ⟨b1, 0, none⟩)), (5, .pointer (some ⟨b2, 0, none⟩)), (8, .pointer (some ⟨b3, 0, none⟩)), (40, .int .i64 (plane_Check b_))] (fun w _ => plane_Check_w b_ w) (by kernel_rfl) (by kernel_rfl) ?_
        generalize hr3 : plane_Check b_ = r3
        refine TL.run 4 [] [(2, .int .i64 n), (3, .int .i64 d), (4, .pointer (some ⟨b1, 0, none⟩)), (5, .pointer (some ⟨b2, 0, none⟩)), (8, .pointer (some ⟨b3, 0, none⟩)), (38, .bool (r3 != 0))] rfl ⟨by kernel_rfl, by kernel_rfl⟩ ?_
        refine TL.next rfl ?_
        refine TC.cond (r3 != 0) rfl (by kernel_rfl) (fun h4 => ?_) (fun h4 => ?_)
        · refine TC.seq ?_
          refine TC.region ?_
          refine TL.run 2 [1] [(8, .pointer (some ⟨b3, 0, none⟩)), (42, P.v P.zero), (43, P.v b_)] rfl ⟨by kernel_rfl, by kernel_rfl⟩ ?_
          refine TL.call (some 44) [(8, .pointer (some ⟨b3, 0, none⟩)), (42, P.v P.zero), (44, .int .i64 (plane_Check b_))] (fun w _ => plane_Check_w b_ w) (by kernel_rfl) (by kernel_rfl) ?_
          generalize hr4 : plane_Check b_ = r4
          refine TL.write 0 (fun _ => [(8, .pointer (some ⟨b3, 0, none⟩)), (44, .int .i64 r4)]) (fun _ => [.inl (b3, .cells (P.c P.zero) 23 (0, 0)), .inl (b2, .cells (P.c b_) 23 (0, 0)), .inl (b1, .cells (P.c a) 23 (0, 0))]) (fun _ => ⟨by kernel_rfl, by kernel_rfl⟩) (fun _ => ?_)
          refine TL.run 5 [] [(8, .pointer (some ⟨b3, 0, none⟩)), (9, .int .i64 r4)] rfl ⟨by kernel_rfl, by kernel_rfl⟩ ?_
          refine TL.next rfl ?_
          refine TC.ret ?_
          refine TE.ret_block (TE.ret_then ?_)
          have e : plane_Toward a b_ n d = ((⟨0, 0⟩ : P), r4) := by subst hr1 hr3 hr4; unfold plane_Toward; exact cond_f h1 (cond_f h2 (cond_f h3 (cond_t h4 (rfl))))
          exact TE.ret [0] (.tuple #[.agg #[.int .i64 0, .int .i64 0], .int .i64 r4]) ⟨by kernel_rfl, by kernel_rfl⟩ (by rw [e]; first | done | kernel_rfl)
        · refine TC.skip ?_
          refine TE.normal_block ?_
          refine TE.next ?_
          refine TC.seq ?_
          refine TC.region ?_
          refine TL.run 8 [1, 2] [(2, .int .i64 n), (3, .int .i64 d), (4, .pointer (some ⟨b1, 0, none⟩)), (5, .pointer (some ⟨b2, 0, none⟩)), (8, .pointer (some ⟨b3, 0, none⟩)), (52, .int .i64 (w64 ((w64 (b_.X - a.X)) * n))), (53, .int .i64 d)] rfl ⟨by kernel_rfl, by kernel_rfl⟩ ?_
          refine TL.call (some 54) [(2, .int .i64 n), (3, .int .i64 d), (4, .pointer (some ⟨b1, 0, none⟩)), (5, .pointer (some ⟨b2, 0, none⟩)), (8, .pointer (some ⟨b3, 0, none⟩)), (54, .tuple #[.int .i64 ((num_DivDown (w64 ((w64 (b_.X - a.X)) * n)) d).1), .int .i64 ((num_DivDown (w64 ((w64 (b_.X - a.X)) * n)) d).2)])] (fun w _ => num_DivDown_w (w64 ((w64 (b_.X - a.X)) * n)) d w) (by kernel_rfl) (by kernel_rfl) ?_
          generalize hr5 : num_DivDown (w64 ((w64 (b_.X - a.X)) * n)) d = r5
          refine TL.run 14 [] [(2, .int .i64 n), (3, .int .i64 d), (4, .pointer (some ⟨b1, 0, none⟩)), (5, .pointer (some ⟨b2, 0, none⟩)), (8, .pointer (some ⟨b3, 0, none⟩)), (10, .int .i64 r5.1)] rfl ⟨by kernel_rfl, by kernel_rfl⟩ ?_
          refine TL.next rfl ?_
          refine TC.seq ?_
          refine TC.region ?_
          refine TL.run 8 [1, 2] [(4, .pointer (some ⟨b1, 0, none⟩)), (8, .pointer (some ⟨b3, 0, none⟩)), (10, .int .i64 r5.1), (64, .int .i64 (w64 ((w64 (b_.Y - a.Y)) * n))), (65, .int .i64 d)] rfl ⟨by kernel_rfl, by kernel_rfl⟩ ?_
          refine TL.call (some 66) [(4, .pointer (some ⟨b1, 0, none⟩)), (8, .pointer (some ⟨b3, 0, none⟩)), (10, .int .i64 r5.1), (66, .tuple #[.int .i64 ((num_DivDown (w64 ((w64 (b_.Y - a.Y)) * n)) d).1), .int .i64 ((num_DivDown (w64 ((w64 (b_.Y - a.Y)) * n)) d).2)])] (fun w _ => num_DivDown_w (w64 ((w64 (b_.Y - a.Y)) * n)) d w) (by kernel_rfl) (by kernel_rfl) ?_
          generalize hr6 : num_DivDown (w64 ((w64 (b_.Y - a.Y)) * n)) d = r6
          refine TL.run 14 [] [(4, .pointer (some ⟨b1, 0, none⟩)), (8, .pointer (some ⟨b3, 0, none⟩)), (10, .int .i64 r5.1), (12, .int .i64 r6.1)] rfl ⟨by kernel_rfl, by kernel_rfl⟩ ?_
          refine TL.next rfl ?_
          refine TC.seq ?_
          refine TC.region ?_
          refine TL.run 9 [2, 2] [(8, .pointer (some ⟨b3, 0, none⟩)), (77, .agg #[.int .i64 (w64 (a.X + r5.1)), .int .i64 (w64 (a.Y + r6.1))])] rfl ⟨by kernel_rfl, by kernel_rfl⟩ ?_
          refine TL.write 0 (fun _ => [(8, .pointer (some ⟨b3, 0, none⟩))]) (fun _ => [.inl (b3, .cells #[.int .i64 (w64 (a.X + r5.1)), .int .i64 (w64 (a.Y + r6.1))] 23 (0, 0)), .inl (b2, .cells (P.c b_) 23 (0, 0)), .inl (b1, .cells (P.c a) 23 (0, 0))]) (fun _ => ⟨by kernel_rfl, by kernel_rfl⟩) (fun _ => ?_)
          refine TL.run 11 [] [(8, .pointer (some ⟨b3, 0, none⟩)), (9, .int .i64 0)] rfl ⟨by kernel_rfl, by kernel_rfl⟩ ?_
          refine TL.next rfl ?_
          refine TC.ret ?_
          have e : plane_Toward a b_ n d = ((⟨w64 (a.X + r5.1), w64 (a.Y + r6.1)⟩ : P), 0) := by subst hr1 hr3 hr5 hr6; unfold plane_Toward; exact cond_f h1 (cond_f h2 (cond_f h3 (cond_f h4 (rfl))))
          exact TE.ret [0] (.tuple #[.agg #[.int .i64 (w64 (a.X + r5.1)), .int .i64 (w64 (a.Y + r6.1))], .int .i64 0]) ⟨by kernel_rfl, by kernel_rfl⟩ (by rw [e]; first | done | kernel_rfl)

def tube_Check_L1 (l : List TubeNode) : List TubeNode → Nat → ((Unit) ⊕ (Int))
  | [], _ => .inl ()
  | x :: xs, k => cond ((decide (x.Node.Time < 0)) || (decide (x.Node.Time > 200000))) (
      .inr 12) (
      cond (decide ((k : Int) > 0)) (
        cond (decide (x.Node.Time ≤ (((l[(k - 1)]?.getD TubeNode.zero).Node).Time))) (
          .inr 12) (
          let r1 := plane_Check x.Node.At
          cond (r1 != 0) (
            .inr r1) (
            cond ((((((decide (x.Node.Height < 0)) || (decide (x.Node.Height > 60000))) || (decide (x.Radius < 0))) || (decide (x.Radius > 1000000))) || (decide (x.Band < 0))) || (decide (x.Band > 60000))) (
              .inr 4) (
              tube_Check_L1 l xs (k + 1))))) (
        let r2 := plane_Check x.Node.At
        cond (r2 != 0) (
          .inr r2) (
          cond ((((((decide (x.Node.Height < 0)) || (decide (x.Node.Height > 60000))) || (decide (x.Radius < 0))) || (decide (x.Radius > 1000000))) || (decide (x.Band < 0))) || (decide (x.Band > 60000))) (
            .inr 4) (
            tube_Check_L1 l xs (k + 1)))))
def tube_Check (l : List TubeNode) : Int :=
  cond (decide ((l.length : Int) > 64)) (
    2) (
    cond ((l.length : Int) == 0) (
      3) (
      Sum.elim (fun _ =>
        0) (fun r => r) (tube_Check_L1 l l 0)))

set_option maxRecDepth 100000 in
theorem tube_Check_w (A_l : Option Addr) (c_l : Nat) (l : List TubeNode) (w : World) (h_l : Rd w 6 A_l (l.map TubeNode.c)) (_hc_l : l.length ≤ c_l) : Calls Try.prog 80 #[.slice A_l l.length c_l] w (Ret w (.int .i64 (tube_Check l))) := by
  have s_l := h_l.short; rw [List.length_map] at s_l
  refine calls_intro (vs := [.slice A_l l.length c_l]) (w := w) Try.func80 rfl Try.ntmps80 rfl ?_
  refine TC.weak [(0, .slice A_l l.length c_l)] (by kernel_rfl) ?_
  refine TC.seq ?_
  refine TC.region ?_
  refine TL.run 1 [] [(0, .slice A_l l.length c_l)] rfl ⟨by kernel_rfl, by kernel_rfl⟩ ?_
  refine TL.next rfl ?_
  refine TC.seq ?_
  refine TC.block ?_
  refine TC.seq ?_
  refine TC.region ?_
  refine TL.run 4 [] [(0, .slice A_l l.length c_l), (6, .bool (decide ((l.length : Int) > 64)))] rfl ⟨by kernel_rfl, by kernel_rfl⟩ ?_
  refine TL.next rfl ?_
  refine TC.cond (decide ((l.length : Int) > 64)) rfl (by kernel_rfl) (fun h1 => ?_) (fun h1 => ?_)
  · refine TC.seq ?_
    refine TC.region ?_
    refine TL.run 1 [] [(2, .int .i64 2)] rfl ⟨by kernel_rfl, by kernel_rfl⟩ ?_
    refine TL.next rfl ?_
    refine TC.ret ?_
    refine TE.ret_block (TE.ret_then ?_)
    have e : tube_Check l = 2 := by unfold tube_Check; exact cond_t h1 (rfl)
    exact TE.ret [] (.int .i64 2) ⟨by kernel_rfl, by kernel_rfl⟩ (by rw [e]; first | done | kernel_rfl)
  · refine TC.seq ?_
    refine TC.region ?_
    refine TL.run 4 [] [(0, .slice A_l l.length c_l), (10, .bool ((l.length : Int) == 0))] rfl ⟨by kernel_rfl, by kernel_rfl⟩ ?_
    refine TL.next rfl ?_
    refine TC.cond ((l.length : Int) == 0) rfl (by kernel_rfl) (fun h2 => ?_) (fun h2 => ?_)
    · refine TC.seq ?_
      refine TC.region ?_
      refine TL.run 1 [] [(2, .int .i64 3)] rfl ⟨by kernel_rfl, by kernel_rfl⟩ ?_
      refine TL.next rfl ?_
      refine TC.ret ?_
      refine TE.ret_block (TE.ret_then ?_)
      have e : tube_Check l = 3 := by unfold tube_Check; exact cond_f h1 (cond_t h2 (rfl))
      exact TE.ret [] (.int .i64 3) ⟨by kernel_rfl, by kernel_rfl⟩ (by rw [e]; first | done | kernel_rfl)
    · refine TC.skip ?_
      refine TE.normal_block ?_
      refine TE.next ?_
      refine TC.seq ?_
      refine TC.seq ?_
      refine TC.region ?_
      refine TL.run 3 [] [(0, .slice A_l l.length c_l), (14, .slice A_l l.length c_l), (15, .int .i64 (l.length : Int)), (16, .int .i64 0)] rfl ⟨by kernel_rfl, by kernel_rfl⟩ ?_
      refine TL.next rfl ?_
      refine TC.weak [(0, .slice A_l l.length c_l), (14, .slice A_l l.length c_l), (15, .int .i64 (l.length : Int)), (16, .int .i64 0)] (by kernel_rfl) ?_
      obtain ⟨R1, hR⟩ : ∃ R, R = tube_Check_L1 l l 0 := ⟨_, rfl⟩
      refine TC.cut (S := Unit) (fun (_ : Unit) => []) (fun (_ : Unit) => []) (fun (_ : Unit) => R1 = .inl ()) ?_ ?_
      · refine TC.block ?_
        refine TC.loop (X := Nat) (fun k => [(0, .slice A_l l.length c_l), (14, .slice A_l l.length c_l), (15, .int .i64 (l.length : Int)), (16, .int .i64 (k : Int))]) (fun k => []) (fun k => l.length - k) (fun k => k ≤ l.length ∧ R1 = tube_Check_L1 l (l.drop k) k) ?_ 0 ⟨Nat.zero_le _, hR⟩
        rintro k ⟨hk, hI⟩
        refine TC.seq ?_
        refine TC.region ?_
        refine TL.run 1 [] [(0, .slice A_l l.length c_l), (14, .slice A_l l.length c_l), (15, .int .i64 (l.length : Int)), (16, .int .i64 (k : Int)), (17, .bool (decide ((k : Int) < (l.length : Int))))] rfl ⟨by kernel_rfl, by kernel_rfl⟩ ?_
        refine TL.next rfl ?_
        refine TC.seq ?_
        refine TC.cond (decide ((k : Int) < (l.length : Int))) rfl (by kernel_rfl) (fun h3 => ?_) (fun h3 => ?_)
        · have hlt : k < l.length := by have := of_decide_eq_true h3; first | omega | (simp at this; omega)
          obtain ⟨x, hx⟩ : ∃ e_, l[k]? = some e_ := ⟨_, List.getElem?_eq_getElem hlt⟩
          have hd := drop_at hx
          refine TC.skip ?_
          refine TE.next ?_
          refine TC.seq ?_
          refine TC.block ?_
          refine TC.seq ?_
          refine TC.region ?_
          refine TL.run 1 [] [(0, .slice A_l l.length c_l), (14, .slice A_l l.length c_l), (15, .int .i64 (l.length : Int)), (16, .int .i64 (k : Int)), (18, .int .i64 (k : Int))] rfl ⟨by kernel_rfl, by kernel_rfl⟩ ?_
          refine TL.val (sV (Instr.indexAt 88 (.slice A_l l.length c_l) (.int .i64 (k : Int)))) (some 19) (.pointer (some ((A_l.getD noAddr).add (k * 6)))) [(0, .slice A_l l.length c_l), (14, .slice A_l l.length c_l), (15, .int .i64 (l.length : Int)), (16, .int .i64 (k : Int)), (18, .int .i64 (k : Int)), (19, .pointer (some ((A_l.getD noAddr).add (k * 6))))] (fun w hM => run_index (h_l.sat hM) (by simp) (by kernel_rfl) (by have q0_ := (dec_f h1); have q1_ := (beq_f h2); first | omega | (rw [List.length_set]; omega) | (dsimp only; omega) | (rw [List.length_drop]; omega) | (simp only [w64_eq]; omega) | exact (tm_in (by (first | (rw [w64_id (by omega)]; omega) | (simp only [w64_eq]; omega))) (by omega)).1 | exact (tm_in (by (first | (rw [w64_id (by omega)]; omega) | (simp only [w64_eq]; omega))) (by omega)).2.1 | exact (tm_in (by (first | (rw [w64_id (by omega)]; omega) | (simp only [w64_eq]; omega))) (by omega)).2.2 | (simp only [List.length_take] at *; omega) | (simp <;> omega)) (by have q0_ := (dec_f h1); have q1_ := (beq_f h2); first | omega | (rw [List.length_set]; omega) | (dsimp only; omega) | (rw [List.length_drop]; omega) | (simp only [w64_eq]; omega) | exact (tm_in (by (first | (rw [w64_id (by omega)]; omega) | (simp only [w64_eq]; omega))) (by omega)).1 | exact (tm_in (by (first | (rw [w64_id (by omega)]; omega) | (simp only [w64_eq]; omega))) (by omega)).2.1 | exact (tm_in (by (first | (rw [w64_id (by omega)]; omega) | (simp only [w64_eq]; omega))) (by omega)).2.2 | (simp only [List.length_take] at *; omega) | (simp <;> omega))) (by kernel_rfl) (by kernel_rfl) ?_
          refine TL.val (sV (Instr.loadAt 97 (.pointer (some ((A_l.getD noAddr).add (k * 6)))))) (some 20) (TubeNode.v x) [(0, .slice A_l l.length c_l), (14, .slice A_l l.length c_l), (15, .int .i64 (l.length : Int)), (16, .int .i64 (k : Int)), (18, .int .i64 (k : Int)), (20, TubeNode.v x)] (fun w hM => run_load_agg (n := 6) (off := 0) (i := k) (TubeNode.v x) (h_l.sat hM) (map_at hx) (by kernel_rfl) (by kernel_rfl) (by kernel_rfl)) (by kernel_rfl) (by kernel_rfl) ?_
          refine TL.write 0 (fun b1 => [(0, .slice A_l l.length c_l), (4, .pointer (some ⟨b1, 0, none⟩)), (14, .slice A_l l.length c_l), (15, .int .i64 (l.length : Int)), (16, .int .i64 (k : Int)), (18, .int .i64 (k : Int)), (20, TubeNode.v x)]) (fun b1 => [.inl (b1, .cells (TubeNode.c TubeNode.zero) 97 (0, 0))]) (fun b1 => ⟨by kernel_rfl, by kernel_rfl⟩) (fun b1 => ?_)
          refine TL.run 5 [] [(0, .slice A_l l.length c_l), (3, .int .i64 (k : Int)), (4, .pointer (some ⟨b1, 0, none⟩)), (14, .slice A_l l.length c_l), (15, .int .i64 (l.length : Int)), (16, .int .i64 (k : Int)), (20, TubeNode.v x)] rfl ⟨by kernel_rfl, by kernel_rfl⟩ ?_
          refine TL.write 0 (fun _ => [(0, .slice A_l l.length c_l), (3, .int .i64 (k : Int)), (4, .pointer (some ⟨b1, 0, none⟩)), (14, .slice A_l l.length c_l), (15, .int .i64 (l.length : Int)), (16, .int .i64 (k : Int))]) (fun _ => [.inl (b1, .cells (TubeNode.c x) 97 (0, 0))]) (fun _ => ⟨by kernel_rfl, by kernel_rfl⟩) (fun _ => ?_)
          refine TL.next rfl ?_
          refine TC.seq ?_
          refine TC.seq ?_
          refine TC.draw 27 (by kernel_rfl) (by kernel_rfl) (by kernel_rfl) ?_
          refine TQ.run 5 [0] [(0, .slice A_l l.length c_l), (3, .int .i64 (k : Int)), (4, .pointer (some ⟨b1, 0, none⟩)), (14, .slice A_l l.length c_l), (15, .int .i64 (l.length : Int)), (16, .int .i64 (k : Int)), (25, .bool (decide (x.Node.Time < 0)))] rfl ⟨by kernel_rfl, by kernel_rfl⟩ ?_
          refine TQ.join 25 (decide (x.Node.Time < 0)) 10 [] [0] (fun β => [(0, .slice A_l l.length c_l), (3, .int .i64 (k : Int)), (4, .pointer (some ⟨b1, 0, none⟩)), (14, .slice A_l l.length c_l), (15, .int .i64 (l.length : Int)), (16, .int .i64 (k : Int)), (30, .bool (β || (decide (x.Node.Time > 200000))))]) (by kernel_rfl) rfl ⟨by kernel_rfl, by kernel_rfl⟩ ⟨by kernel_rfl, by kernel_rfl⟩ ?_
          refine TQ.run 11 [] [(0, .slice A_l l.length c_l), (3, .int .i64 (k : Int)), (4, .pointer (some ⟨b1, 0, none⟩)), (14, .slice A_l l.length c_l), (15, .int .i64 (l.length : Int)), (16, .int .i64 (k : Int)), (31, .bool ((decide (x.Node.Time < 0)) || (decide (x.Node.Time > 200000))))] rfl ⟨by kernel_rfl, by kernel_rfl⟩ ?_
          refine TQ.split 31 ((decide (x.Node.Time < 0)) || (decide (x.Node.Time > 200000))) (by kernel_rfl) (fun h4 => ?_) (fun h4 => ?_)
          · refine TQ.run 27 [] [(0, .slice A_l l.length c_l), (4, .pointer (some ⟨b1, 0, none⟩)), (14, .slice A_l l.length c_l), (15, .int .i64 (l.length : Int)), (16, .int .i64 (k : Int)), (47, .bool true)] rfl ⟨by kernel_rfl, by kernel_rfl⟩ ?_
            refine TQ.next rfl ?_
            refine TC.condT rfl (by kernel_rfl) ?_
            refine TC.seq ?_
            refine TC.region ?_
            refine TL.run 1 [] [(2, .int .i64 12)] rfl ⟨by kernel_rfl, by kernel_rfl⟩ ?_
            refine TL.next rfl ?_
            refine TC.ret ?_
            refine TE.ret_then (TE.ret_block (TE.ret_then (TE.ret_then (TE.ret_block (TE.ret_then (TE.ret_then ?_))))))
            have e : tube_Check l = 12 := by unfold tube_Check; exact cond_f h1 (cond_f h2 (elim_r (hR.symm.trans (hI.trans (by rw [hd]; exact cond_t h4 (rfl)))) rfl))
            exact TE.ret [] (.int .i64 12) ⟨by kernel_rfl, by kernel_rfl⟩ (by rw [e]; first | done | kernel_rfl)
          · refine TQ.run 14 [] [(0, .slice A_l l.length c_l), (3, .int .i64 (k : Int)), (4, .pointer (some ⟨b1, 0, none⟩)), (14, .slice A_l l.length c_l), (15, .int .i64 (l.length : Int)), (16, .int .i64 (k : Int)), (31, .bool false), (34, .bool (decide ((k : Int) > 0)))] rfl ⟨by kernel_rfl, by kernel_rfl⟩ ?_
            refine TQ.split 34 (decide ((k : Int) > 0)) (by kernel_rfl) (fun h5 => ?_) (fun h5 => ?_)
            · refine TQ.run 20 [0] [(0, .slice A_l l.length c_l), (4, .pointer (some ⟨b1, 0, none⟩)), (14, .slice A_l l.length c_l), (15, .int .i64 (l.length : Int)), (16, .int .i64 (k : Int)), (31, .bool false), (34, .bool true), (37, .int .i64 x.Node.Time), (38, .slice A_l l.length c_l), (40, .int .i64 (w64 ((k : Int) - 1)))] rfl ⟨by kernel_rfl, by kernel_rfl⟩ ?_
              refine TQ.rw 40 (.int .i64 (w64 ((k : Int) - 1))) (.int .i64 ((k - 1 : Nat) : Int)) (by kernel_rfl) (w64_pred k (by have q0_ := (dec_f h1); have q1_ := (beq_f h2); have q2_ := (dec_f (or_f1 h4)); have q3_ := (dec_f (or_f2 h4)); have q4_ := (dec_t h5); first | omega | (rw [List.length_set]; omega) | (dsimp only; omega) | (rw [List.length_drop]; omega) | (simp only [w64_eq]; omega) | exact (tm_in (by (first | (rw [w64_id (by omega)]; omega) | (simp only [w64_eq]; omega))) (by omega)).1 | exact (tm_in (by (first | (rw [w64_id (by omega)]; omega) | (simp only [w64_eq]; omega))) (by omega)).2.1 | exact (tm_in (by (first | (rw [w64_id (by omega)]; omega) | (simp only [w64_eq]; omega))) (by omega)).2.2 | (simp only [List.length_take] at *; omega) | (simp <;> omega))) ?_
              refine TQ.val (sV (Instr.indexAt 88 (.slice A_l l.length c_l) (.int .i64 ((k - 1 : Nat) : Int)))) (some 41) (.pointer (some ((A_l.getD noAddr).add ((k - 1) * 6)))) [(0, .slice A_l l.length c_l), (4, .pointer (some ⟨b1, 0, none⟩)), (14, .slice A_l l.length c_l), (15, .int .i64 (l.length : Int)), (16, .int .i64 (k : Int)), (31, .bool false), (34, .bool true), (37, .int .i64 x.Node.Time), (41, .pointer (some ((A_l.getD noAddr).add ((k - 1) * 6))))] (fun w hM => run_index (h_l.sat hM) (by simp) (by kernel_rfl) (by have q0_ := (dec_f h1); have q1_ := (beq_f h2); have q2_ := (dec_f (or_f1 h4)); have q3_ := (dec_f (or_f2 h4)); have q4_ := (dec_t h5); first | omega | (rw [List.length_set]; omega) | (dsimp only; omega) | (rw [List.length_drop]; omega) | (simp only [w64_eq]; omega) | exact (tm_in (by (first | (rw [w64_id (by omega)]; omega) | (simp only [w64_eq]; omega))) (by omega)).1 | exact (tm_in (by (first | (rw [w64_id (by omega)]; omega) | (simp only [w64_eq]; omega))) (by omega)).2.1 | exact (tm_in (by (first | (rw [w64_id (by omega)]; omega) | (simp only [w64_eq]; omega))) (by omega)).2.2 | (simp only [List.length_take] at *; omega) | (simp <;> omega)) (by have q0_ := (dec_f h1); have q1_ := (beq_f h2); have q2_ := (dec_f (or_f1 h4)); have q3_ := (dec_f (or_f2 h4)); have q4_ := (dec_t h5); first | omega | (rw [List.length_set]; omega) | (dsimp only; omega) | (rw [List.length_drop]; omega) | (simp only [w64_eq]; omega) | exact (tm_in (by (first | (rw [w64_id (by omega)]; omega) | (simp only [w64_eq]; omega))) (by omega)).1 | exact (tm_in (by (first | (rw [w64_id (by omega)]; omega) | (simp only [w64_eq]; omega))) (by omega)).2.1 | exact (tm_in (by (first | (rw [w64_id (by omega)]; omega) | (simp only [w64_eq]; omega))) (by omega)).2.2 | (simp only [List.length_take] at *; omega) | (simp <;> omega))) rfl (by kernel_rfl) (by kernel_rfl) ?_
              refine TQ.run 23 [] [(0, .slice A_l l.length c_l), (4, .pointer (some ⟨b1, 0, none⟩)), (14, .slice A_l l.length c_l), (15, .int .i64 (l.length : Int)), (16, .int .i64 (k : Int)), (31, .bool false), (34, .bool true), (37, .int .i64 x.Node.Time), (43, .pointer (some ((A_l.getD noAddr).add ((k - 1) * 6))))] rfl ⟨by kernel_rfl, by kernel_rfl⟩ ?_
              refine TQ.val (sV (Instr.loadAt 3 (.pointer (some ((A_l.getD noAddr).add ((k - 1) * 6)))))) (some 44) (.int .i64 (((l[(k - 1)]?.getD TubeNode.zero).Node).Time)) [(0, .slice A_l l.length c_l), (4, .pointer (some ⟨b1, 0, none⟩)), (14, .slice A_l l.length c_l), (15, .int .i64 (l.length : Int)), (16, .int .i64 (k : Int)), (31, .bool false), (34, .bool true), (37, .int .i64 x.Node.Time), (44, .int .i64 (((l[(k - 1)]?.getD TubeNode.zero).Node).Time))] (fun w hM => run_load_one (off := 0) (i := (k - 1)) (.int .i64 (((l[(k - 1)]?.getD TubeNode.zero).Node).Time)) (h_l.sat hM) (map_at (getD_at _ _ TubeNode.zero (by have q0_ := (dec_f h1); have q1_ := (beq_f h2); have q2_ := (dec_f (or_f1 h4)); have q3_ := (dec_f (or_f2 h4)); have q4_ := (dec_t h5); first | omega | (rw [List.length_set]; omega) | (dsimp only; omega) | (rw [List.length_drop]; omega) | (simp only [w64_eq]; omega) | exact (tm_in (by (first | (rw [w64_id (by omega)]; omega) | (simp only [w64_eq]; omega))) (by omega)).1 | exact (tm_in (by (first | (rw [w64_id (by omega)]; omega) | (simp only [w64_eq]; omega))) (by omega)).2.1 | exact (tm_in (by (first | (rw [w64_id (by omega)]; omega) | (simp only [w64_eq]; omega))) (by omega)).2.2 | (simp only [List.length_take] at *; omega) | (simp <;> omega)))) (by kernel_rfl) (by kernel_rfl)) rfl (by kernel_rfl) (by kernel_rfl) ?_
              refine TQ.run 27 [] [(0, .slice A_l l.length c_l), (4, .pointer (some ⟨b1, 0, none⟩)), (14, .slice A_l l.length c_l), (15, .int .i64 (l.length : Int)), (16, .int .i64 (k : Int)), (47, .bool (decide (x.Node.Time ≤ (((l[(k - 1)]?.getD TubeNode.zero).Node).Time))))] rfl ⟨by kernel_rfl, by kernel_rfl⟩ ?_
              refine TQ.next rfl ?_
              refine TC.cond (decide (x.Node.Time ≤ (((l[(k - 1)]?.getD TubeNode.zero).Node).Time))) rfl (by kernel_rfl) (fun h6 => ?_) (fun h6 => ?_)
              · refine TC.seq ?_
                refine TC.region ?_
                refine TL.run 1 [] [(2, .int .i64 12)] rfl ⟨by kernel_rfl, by kernel_rfl⟩ ?_
                refine TL.next rfl ?_
                refine TC.ret ?_
                refine TE.ret_then (TE.ret_block (TE.ret_then (TE.ret_then (TE.ret_block (TE.ret_then (TE.ret_then ?_))))))
                have e : tube_Check l = 12 := by unfold tube_Check; exact cond_f h1 (cond_f h2 (elim_r (hR.symm.trans (hI.trans (by rw [hd]; exact cond_f h4 (cond_t h5 (cond_t h6 (rfl)))))) rfl))
                exact TE.ret [] (.int .i64 12) ⟨by kernel_rfl, by kernel_rfl⟩ (by rw [e]; first | done | kernel_rfl)
              · refine TC.skip ?_
                refine TE.next ?_
                refine TC.seq ?_
                refine TC.seq ?_
                refine TC.region ?_
                refine TL.run 3 [0] [(0, .slice A_l l.length c_l), (4, .pointer (some ⟨b1, 0, none⟩)), (14, .slice A_l l.length c_l), (15, .int .i64 (l.length : Int)), (16, .int .i64 (k : Int)), (50, P.v x.Node.At)] rfl ⟨by kernel_rfl, by kernel_rfl⟩ ?_
                refine TL.call (some 51) [(0, .slice A_l l.length c_l), (4, .pointer (some ⟨b1, 0, none⟩)), (14, .slice A_l l.length c_l), (15, .int .i64 (l.length : Int)), (16, .int .i64 (k : Int)), (51, .int .i64 (plane_Check x.Node.At))] (fun w _ => plane_Check_w x.Node.At w) (by kernel_rfl) (by kernel_rfl) ?_
                generalize hr1 : plane_Check x.Node.At = r1
                refine TL.run 5 [] [(0, .slice A_l l.length c_l), (4, .pointer (some ⟨b1, 0, none⟩)), (5, .int .i64 r1), (14, .slice A_l l.length c_l), (15, .int .i64 (l.length : Int)), (16, .int .i64 (k : Int))] rfl ⟨by kernel_rfl, by kernel_rfl⟩ ?_
                refine TL.next rfl ?_
                refine TC.seq ?_
                refine TC.region ?_
                refine TL.run 2 [] [(0, .slice A_l l.length c_l), (4, .pointer (some ⟨b1, 0, none⟩)), (5, .int .i64 r1), (14, .slice A_l l.length c_l), (15, .int .i64 (l.length : Int)), (16, .int .i64 (k : Int)), (53, .bool (r1 != 0))] rfl ⟨by kernel_rfl, by kernel_rfl⟩ ?_
                refine TL.next rfl ?_
                refine TC.cond (r1 != 0) rfl (by kernel_rfl) (fun h7 => ?_) (fun h7 => ?_)
                · refine TC.seq ?_
                  refine TC.region ?_
                  refine TL.run 2 [] [(2, .int .i64 r1)] rfl ⟨by kernel_rfl, by kernel_rfl⟩ ?_
                  refine TL.next rfl ?_
                  refine TC.ret ?_
                  refine TE.ret_then (TE.ret_block (TE.ret_then (TE.ret_then (TE.ret_block (TE.ret_then (TE.ret_then ?_))))))
                  have e : tube_Check l = r1 := by subst hr1; unfold tube_Check; exact cond_f h1 (cond_f h2 (elim_r (hR.symm.trans (hI.trans (by rw [hd]; exact cond_f h4 (cond_t h5 (cond_f h6 (cond_t h7 (rfl))))))) rfl))
                  exact TE.ret [] (.int .i64 r1) ⟨by kernel_rfl, by kernel_rfl⟩ (by rw [e]; first | done | kernel_rfl)
                · refine TC.skip ?_
                  refine TE.next ?_
                  refine TC.seq ?_
                  refine TC.region ?_
                  refine TL.run 5 [0] [(0, .slice A_l l.length c_l), (4, .pointer (some ⟨b1, 0, none⟩)), (14, .slice A_l l.length c_l), (15, .int .i64 (l.length : Int)), (16, .int .i64 (k : Int)), (59, .bool (decide (x.Node.Height < 0)))] rfl ⟨by kernel_rfl, by kernel_rfl⟩ ?_
                  refine TL.join 59 (decide (x.Node.Height < 0)) 10 [] [0] (fun β => [(0, .slice A_l l.length c_l), (4, .pointer (some ⟨b1, 0, none⟩)), (14, .slice A_l l.length c_l), (15, .int .i64 (l.length : Int)), (16, .int .i64 (k : Int)), (64, .bool (β || (decide (x.Node.Height > 60000))))]) (by kernel_rfl) rfl ⟨by kernel_rfl, by kernel_rfl⟩ ⟨by kernel_rfl, by kernel_rfl⟩ ?_
                  refine TL.run 11 [] [(0, .slice A_l l.length c_l), (4, .pointer (some ⟨b1, 0, none⟩)), (14, .slice A_l l.length c_l), (15, .int .i64 (l.length : Int)), (16, .int .i64 (k : Int)), (65, .bool ((decide (x.Node.Height < 0)) || (decide (x.Node.Height > 60000))))] rfl ⟨by kernel_rfl, by kernel_rfl⟩ ?_
                  refine TL.join 65 ((decide (x.Node.Height < 0)) || (decide (x.Node.Height > 60000))) 15 [] [0] (fun β => [(0, .slice A_l l.length c_l), (4, .pointer (some ⟨b1, 0, none⟩)), (14, .slice A_l l.length c_l), (15, .int .i64 (l.length : Int)), (16, .int .i64 (k : Int)), (69, .bool (β || (decide (x.Radius < 0))))]) (by kernel_rfl) rfl ⟨by kernel_rfl, by kernel_rfl⟩ ⟨by kernel_rfl, by kernel_rfl⟩ ?_
                  refine TL.run 16 [] [(0, .slice A_l l.length c_l), (4, .pointer (some ⟨b1, 0, none⟩)), (14, .slice A_l l.length c_l), (15, .int .i64 (l.length : Int)), (16, .int .i64 (k : Int)), (70, .bool (((decide (x.Node.Height < 0)) || (decide (x.Node.Height > 60000))) || (decide (x.Radius < 0))))] rfl ⟨by kernel_rfl, by kernel_rfl⟩ ?_
                  refine TL.join 70 (((decide (x.Node.Height < 0)) || (decide (x.Node.Height > 60000))) || (decide (x.Radius < 0))) 20 [] [0] (fun β => [(0, .slice A_l l.length c_l), (4, .pointer (some ⟨b1, 0, none⟩)), (14, .slice A_l l.length c_l), (15, .int .i64 (l.length : Int)), (16, .int .i64 (k : Int)), (74, .bool (β || (decide (x.Radius > 1000000))))]) (by kernel_rfl) rfl ⟨by kernel_rfl, by kernel_rfl⟩ ⟨by kernel_rfl, by kernel_rfl⟩ ?_
                  refine TL.run 21 [] [(0, .slice A_l l.length c_l), (4, .pointer (some ⟨b1, 0, none⟩)), (14, .slice A_l l.length c_l), (15, .int .i64 (l.length : Int)), (16, .int .i64 (k : Int)), (75, .bool ((((decide (x.Node.Height < 0)) || (decide (x.Node.Height > 60000))) || (decide (x.Radius < 0))) || (decide (x.Radius > 1000000))))] rfl ⟨by kernel_rfl, by kernel_rfl⟩ ?_
                  refine TL.join 75 ((((decide (x.Node.Height < 0)) || (decide (x.Node.Height > 60000))) || (decide (x.Radius < 0))) || (decide (x.Radius > 1000000))) 25 [] [0] (fun β => [(0, .slice A_l l.length c_l), (4, .pointer (some ⟨b1, 0, none⟩)), (14, .slice A_l l.length c_l), (15, .int .i64 (l.length : Int)), (16, .int .i64 (k : Int)), (79, .bool (β || (decide (x.Band < 0))))]) (by kernel_rfl) rfl ⟨by kernel_rfl, by kernel_rfl⟩ ⟨by kernel_rfl, by kernel_rfl⟩ ?_
                  refine TL.run 26 [] [(0, .slice A_l l.length c_l), (4, .pointer (some ⟨b1, 0, none⟩)), (14, .slice A_l l.length c_l), (15, .int .i64 (l.length : Int)), (16, .int .i64 (k : Int)), (80, .bool (((((decide (x.Node.Height < 0)) || (decide (x.Node.Height > 60000))) || (decide (x.Radius < 0))) || (decide (x.Radius > 1000000))) || (decide (x.Band < 0))))] rfl ⟨by kernel_rfl, by kernel_rfl⟩ ?_
                  refine TL.join 80 (((((decide (x.Node.Height < 0)) || (decide (x.Node.Height > 60000))) || (decide (x.Radius < 0))) || (decide (x.Radius > 1000000))) || (decide (x.Band < 0))) 30 [] [0] (fun β => [(0, .slice A_l l.length c_l), (14, .slice A_l l.length c_l), (15, .int .i64 (l.length : Int)), (16, .int .i64 (k : Int)), (84, .bool (β || (decide (x.Band > 60000))))]) (by kernel_rfl) rfl ⟨by kernel_rfl, by kernel_rfl⟩ ⟨by kernel_rfl, by kernel_rfl⟩ ?_
                  refine TL.next rfl ?_
                  refine TC.cond ((((((decide (x.Node.Height < 0)) || (decide (x.Node.Height > 60000))) || (decide (x.Radius < 0))) || (decide (x.Radius > 1000000))) || (decide (x.Band < 0))) || (decide (x.Band > 60000))) rfl (by kernel_rfl) (fun h8 => ?_) (fun h8 => ?_)
                  · refine TC.seq ?_
                    refine TC.region ?_
                    refine TL.run 1 [] [(2, .int .i64 4)] rfl ⟨by kernel_rfl, by kernel_rfl⟩ ?_
                    refine TL.next rfl ?_
                    refine TC.ret ?_
                    refine TE.ret_block (TE.ret_then (TE.ret_then (TE.ret_block (TE.ret_then (TE.ret_then ?_)))))
                    have e : tube_Check l = 4 := by subst hr1; unfold tube_Check; exact cond_f h1 (cond_f h2 (elim_r (hR.symm.trans (hI.trans (by rw [hd]; exact cond_f h4 (cond_t h5 (cond_f h6 (cond_f h7 (cond_t h8 (rfl)))))))) rfl))
                    exact TE.ret [] (.int .i64 4) ⟨by kernel_rfl, by kernel_rfl⟩ (by rw [e]; first | done | kernel_rfl)
                  · refine TC.skip ?_
                    refine TE.normal_block ?_
                    refine TE.next ?_
                    refine TC.region ?_
                    refine TL.run 2 [] [(0, .slice A_l l.length c_l), (14, .slice A_l l.length c_l), (15, .int .i64 (l.length : Int)), (16, .int .i64 (w64 ((k : Int) + 1)))] rfl ⟨by kernel_rfl, by kernel_rfl⟩ ?_
                    refine TL.done rfl ?_
                    refine TE.rw 16 (.int .i64 (w64 ((k : Int) + 1))) (.int .i64 ((k + 1 : Nat) : Int)) (by kernel_rfl) (w64_cast k (by omega)) ?_
                    exact TE.again (x := k) (k + 1) ⟨by omega, hI.trans (by subst hr1; rw [hd]; exact cond_f h4 (cond_t h5 (cond_f h6 (cond_f h7 (cond_f h8 (rfl))))))⟩ (by show l.length - (k + 1) < l.length - k; omega) (by kernel_rfl) (.cons _ (.slnil))
            · refine TQ.run 27 [] [(0, .slice A_l l.length c_l), (4, .pointer (some ⟨b1, 0, none⟩)), (14, .slice A_l l.length c_l), (15, .int .i64 (l.length : Int)), (16, .int .i64 (k : Int)), (47, .bool false)] rfl ⟨by kernel_rfl, by kernel_rfl⟩ ?_
              refine TQ.next rfl ?_
              refine TC.condF rfl (by kernel_rfl) ?_
              refine TC.skip ?_
              refine TE.next ?_
              refine TC.seq ?_
              refine TC.seq ?_
              refine TC.region ?_
              refine TL.run 3 [0] [(0, .slice A_l l.length c_l), (4, .pointer (some ⟨b1, 0, none⟩)), (14, .slice A_l l.length c_l), (15, .int .i64 (l.length : Int)), (16, .int .i64 (k : Int)), (50, P.v x.Node.At)] rfl ⟨by kernel_rfl, by kernel_rfl⟩ ?_
              refine TL.call (some 51) [(0, .slice A_l l.length c_l), (4, .pointer (some ⟨b1, 0, none⟩)), (14, .slice A_l l.length c_l), (15, .int .i64 (l.length : Int)), (16, .int .i64 (k : Int)), (51, .int .i64 (plane_Check x.Node.At))] (fun w _ => plane_Check_w x.Node.At w) (by kernel_rfl) (by kernel_rfl) ?_
              generalize hr2 : plane_Check x.Node.At = r2
              refine TL.run 5 [] [(0, .slice A_l l.length c_l), (4, .pointer (some ⟨b1, 0, none⟩)), (5, .int .i64 r2), (14, .slice A_l l.length c_l), (15, .int .i64 (l.length : Int)), (16, .int .i64 (k : Int))] rfl ⟨by kernel_rfl, by kernel_rfl⟩ ?_
              refine TL.next rfl ?_
              refine TC.seq ?_
              refine TC.region ?_
              refine TL.run 2 [] [(0, .slice A_l l.length c_l), (4, .pointer (some ⟨b1, 0, none⟩)), (5, .int .i64 r2), (14, .slice A_l l.length c_l), (15, .int .i64 (l.length : Int)), (16, .int .i64 (k : Int)), (53, .bool (r2 != 0))] rfl ⟨by kernel_rfl, by kernel_rfl⟩ ?_
              refine TL.next rfl ?_
              refine TC.cond (r2 != 0) rfl (by kernel_rfl) (fun h9 => ?_) (fun h9 => ?_)
              · refine TC.seq ?_
                refine TC.region ?_
                refine TL.run 2 [] [(2, .int .i64 r2)] rfl ⟨by kernel_rfl, by kernel_rfl⟩ ?_
                refine TL.next rfl ?_
                refine TC.ret ?_
                refine TE.ret_then (TE.ret_block (TE.ret_then (TE.ret_then (TE.ret_block (TE.ret_then (TE.ret_then ?_))))))
                have e : tube_Check l = r2 := by subst hr2; unfold tube_Check; exact cond_f h1 (cond_f h2 (elim_r (hR.symm.trans (hI.trans (by rw [hd]; exact cond_f h4 (cond_f h5 (cond_t h9 (rfl)))))) rfl))
                exact TE.ret [] (.int .i64 r2) ⟨by kernel_rfl, by kernel_rfl⟩ (by rw [e]; first | done | kernel_rfl)
              · refine TC.skip ?_
                refine TE.next ?_
                refine TC.seq ?_
                refine TC.region ?_
                refine TL.run 5 [0] [(0, .slice A_l l.length c_l), (4, .pointer (some ⟨b1, 0, none⟩)), (14, .slice A_l l.length c_l), (15, .int .i64 (l.length : Int)), (16, .int .i64 (k : Int)), (59, .bool (decide (x.Node.Height < 0)))] rfl ⟨by kernel_rfl, by kernel_rfl⟩ ?_
                refine TL.join 59 (decide (x.Node.Height < 0)) 10 [] [0] (fun β => [(0, .slice A_l l.length c_l), (4, .pointer (some ⟨b1, 0, none⟩)), (14, .slice A_l l.length c_l), (15, .int .i64 (l.length : Int)), (16, .int .i64 (k : Int)), (64, .bool (β || (decide (x.Node.Height > 60000))))]) (by kernel_rfl) rfl ⟨by kernel_rfl, by kernel_rfl⟩ ⟨by kernel_rfl, by kernel_rfl⟩ ?_
                refine TL.run 11 [] [(0, .slice A_l l.length c_l), (4, .pointer (some ⟨b1, 0, none⟩)), (14, .slice A_l l.length c_l), (15, .int .i64 (l.length : Int)), (16, .int .i64 (k : Int)), (65, .bool ((decide (x.Node.Height < 0)) || (decide (x.Node.Height > 60000))))] rfl ⟨by kernel_rfl, by kernel_rfl⟩ ?_
                refine TL.join 65 ((decide (x.Node.Height < 0)) || (decide (x.Node.Height > 60000))) 15 [] [0] (fun β => [(0, .slice A_l l.length c_l), (4, .pointer (some ⟨b1, 0, none⟩)), (14, .slice A_l l.length c_l), (15, .int .i64 (l.length : Int)), (16, .int .i64 (k : Int)), (69, .bool (β || (decide (x.Radius < 0))))]) (by kernel_rfl) rfl ⟨by kernel_rfl, by kernel_rfl⟩ ⟨by kernel_rfl, by kernel_rfl⟩ ?_
                refine TL.run 16 [] [(0, .slice A_l l.length c_l), (4, .pointer (some ⟨b1, 0, none⟩)), (14, .slice A_l l.length c_l), (15, .int .i64 (l.length : Int)), (16, .int .i64 (k : Int)), (70, .bool (((decide (x.Node.Height < 0)) || (decide (x.Node.Height > 60000))) || (decide (x.Radius < 0))))] rfl ⟨by kernel_rfl, by kernel_rfl⟩ ?_
                refine TL.join 70 (((decide (x.Node.Height < 0)) || (decide (x.Node.Height > 60000))) || (decide (x.Radius < 0))) 20 [] [0] (fun β => [(0, .slice A_l l.length c_l), (4, .pointer (some ⟨b1, 0, none⟩)), (14, .slice A_l l.length c_l), (15, .int .i64 (l.length : Int)), (16, .int .i64 (k : Int)), (74, .bool (β || (decide (x.Radius > 1000000))))]) (by kernel_rfl) rfl ⟨by kernel_rfl, by kernel_rfl⟩ ⟨by kernel_rfl, by kernel_rfl⟩ ?_
                refine TL.run 21 [] [(0, .slice A_l l.length c_l), (4, .pointer (some ⟨b1, 0, none⟩)), (14, .slice A_l l.length c_l), (15, .int .i64 (l.length : Int)), (16, .int .i64 (k : Int)), (75, .bool ((((decide (x.Node.Height < 0)) || (decide (x.Node.Height > 60000))) || (decide (x.Radius < 0))) || (decide (x.Radius > 1000000))))] rfl ⟨by kernel_rfl, by kernel_rfl⟩ ?_
                refine TL.join 75 ((((decide (x.Node.Height < 0)) || (decide (x.Node.Height > 60000))) || (decide (x.Radius < 0))) || (decide (x.Radius > 1000000))) 25 [] [0] (fun β => [(0, .slice A_l l.length c_l), (4, .pointer (some ⟨b1, 0, none⟩)), (14, .slice A_l l.length c_l), (15, .int .i64 (l.length : Int)), (16, .int .i64 (k : Int)), (79, .bool (β || (decide (x.Band < 0))))]) (by kernel_rfl) rfl ⟨by kernel_rfl, by kernel_rfl⟩ ⟨by kernel_rfl, by kernel_rfl⟩ ?_
                refine TL.run 26 [] [(0, .slice A_l l.length c_l), (4, .pointer (some ⟨b1, 0, none⟩)), (14, .slice A_l l.length c_l), (15, .int .i64 (l.length : Int)), (16, .int .i64 (k : Int)), (80, .bool (((((decide (x.Node.Height < 0)) || (decide (x.Node.Height > 60000))) || (decide (x.Radius < 0))) || (decide (x.Radius > 1000000))) || (decide (x.Band < 0))))] rfl ⟨by kernel_rfl, by kernel_rfl⟩ ?_
                refine TL.join 80 (((((decide (x.Node.Height < 0)) || (decide (x.Node.Height > 60000))) || (decide (x.Radius < 0))) || (decide (x.Radius > 1000000))) || (decide (x.Band < 0))) 30 [] [0] (fun β => [(0, .slice A_l l.length c_l), (14, .slice A_l l.length c_l), (15, .int .i64 (l.length : Int)), (16, .int .i64 (k : Int)), (84, .bool (β || (decide (x.Band > 60000))))]) (by kernel_rfl) rfl ⟨by kernel_rfl, by kernel_rfl⟩ ⟨by kernel_rfl, by kernel_rfl⟩ ?_
                refine TL.next rfl ?_
                refine TC.cond ((((((decide (x.Node.Height < 0)) || (decide (x.Node.Height > 60000))) || (decide (x.Radius < 0))) || (decide (x.Radius > 1000000))) || (decide (x.Band < 0))) || (decide (x.Band > 60000))) rfl (by kernel_rfl) (fun h10 => ?_) (fun h10 => ?_)
                · refine TC.seq ?_
                  refine TC.region ?_
                  refine TL.run 1 [] [(2, .int .i64 4)] rfl ⟨by kernel_rfl, by kernel_rfl⟩ ?_
                  refine TL.next rfl ?_
                  refine TC.ret ?_
                  refine TE.ret_block (TE.ret_then (TE.ret_then (TE.ret_block (TE.ret_then (TE.ret_then ?_)))))
                  have e : tube_Check l = 4 := by subst hr2; unfold tube_Check; exact cond_f h1 (cond_f h2 (elim_r (hR.symm.trans (hI.trans (by rw [hd]; exact cond_f h4 (cond_f h5 (cond_f h9 (cond_t h10 (rfl))))))) rfl))
                  exact TE.ret [] (.int .i64 4) ⟨by kernel_rfl, by kernel_rfl⟩ (by rw [e]; first | done | kernel_rfl)
                · refine TC.skip ?_
                  refine TE.normal_block ?_
                  refine TE.next ?_
                  refine TC.region ?_
                  refine TL.run 2 [] [(0, .slice A_l l.length c_l), (14, .slice A_l l.length c_l), (15, .int .i64 (l.length : Int)), (16, .int .i64 (w64 ((k : Int) + 1)))] rfl ⟨by kernel_rfl, by kernel_rfl⟩ ?_
                  refine TL.done rfl ?_
                  refine TE.rw 16 (.int .i64 (w64 ((k : Int) + 1))) (.int .i64 ((k + 1 : Nat) : Int)) (by kernel_rfl) (w64_cast k (by omega)) ?_
                  exact TE.again (x := k) (k + 1) ⟨by omega, hI.trans (by subst hr2; rw [hd]; exact cond_f h4 (cond_f h5 (cond_f h9 (cond_f h10 (rfl)))))⟩ (by show l.length - (k + 1) < l.length - k; omega) (by kernel_rfl) (.cons _ (.slnil))
        · have hd : l.drop k = [] := List.drop_eq_nil_of_le (by have := of_decide_eq_false h3; first | omega | (simp at this; omega))
          refine TC.exit ?_
          refine TE.exit_then (TE.exit_then (TE.exit_same ?_))
          exact TE.cut () (hI.trans (by rw [hd]; exact rfl)) (by kernel_rfl) (.slnil)
      · intro _ hJ
        refine TE.next ?_
        refine TC.seq ?_
        refine TC.region ?_
        refine TL.run 1 [] [(2, .int .i64 0)] rfl ⟨by kernel_rfl, by kernel_rfl⟩ ?_
        refine TL.next rfl ?_
        refine TC.ret ?_
        have e : tube_Check l = 0 := by unfold tube_Check; exact cond_f h1 (cond_f h2 (elim_l (hR.symm.trans hJ) (rfl)))
        exact TE.ret [] (.int .i64 0) ⟨by kernel_rfl, by kernel_rfl⟩ (by rw [e]; first | done | kernel_rfl)

def tube_ends (l : List TubeNode) : Int × Int :=
  (((l[0]?.getD TubeNode.zero).Node).Time, ((l[(l.length - 1)]?.getD TubeNode.zero).Node).Time)

set_option maxRecDepth 100000 in
theorem tube_ends_w (A_l : Option Addr) (c_l : Nat) (l : List TubeNode) (w : World) (h_l : Rd w 6 A_l (l.map TubeNode.c)) (_hc_l : l.length ≤ c_l) (h0 : 1 ≤ l.length) : Calls Try.prog 83 #[.slice A_l l.length c_l] w (Ret w (.tuple #[.int .i64 ((tube_ends l).1), .int .i64 ((tube_ends l).2)])) := by
  have s_l := h_l.short; rw [List.length_map] at s_l
  refine calls_intro (vs := [.slice A_l l.length c_l]) (w := w) Try.func83 rfl Try.ntmps83 rfl ?_
  refine TC.weak [(0, .slice A_l l.length c_l)] (by kernel_rfl) ?_
  refine TC.seq ?_
  refine TC.region ?_
  refine TL.run 2 [] [(0, .slice A_l l.length c_l)] rfl ⟨by kernel_rfl, by kernel_rfl⟩ ?_
  refine TL.next rfl ?_
  refine TC.seq ?_
  refine TC.draw 15 (by kernel_rfl) (by kernel_rfl) (by kernel_rfl) ?_
  refine TQ.run 1 [] [(0, .slice A_l l.length c_l), (4, .slice A_l l.length c_l)] rfl ⟨by kernel_rfl, by kernel_rfl⟩ ?_
  refine TQ.val (sV (Instr.indexAt 88 (.slice A_l l.length c_l) (.int .i64 0))) (some 5) (.pointer (some ((A_l.getD noAddr).add (0 * 6)))) [(0, .slice A_l l.length c_l), (5, .pointer (some ((A_l.getD noAddr).add (0 * 6))))] (fun w hM => run_index (h_l.sat hM) (by simp) (by kernel_rfl) (by first | omega | (rw [List.length_set]; omega) | (dsimp only; omega) | (rw [List.length_drop]; omega) | (simp only [w64_eq]; omega) | exact (tm_in (by (first | (rw [w64_id (by omega)]; omega) | (simp only [w64_eq]; omega))) (by omega)).1 | exact (tm_in (by (first | (rw [w64_id (by omega)]; omega) | (simp only [w64_eq]; omega))) (by omega)).2.1 | exact (tm_in (by (first | (rw [w64_id (by omega)]; omega) | (simp only [w64_eq]; omega))) (by omega)).2.2 | (simp only [List.length_take] at *; omega) | (simp <;> omega)) (by first | omega | (rw [List.length_set]; omega) | (dsimp only; omega) | (rw [List.length_drop]; omega) | (simp only [w64_eq]; omega) | exact (tm_in (by (first | (rw [w64_id (by omega)]; omega) | (simp only [w64_eq]; omega))) (by omega)).1 | exact (tm_in (by (first | (rw [w64_id (by omega)]; omega) | (simp only [w64_eq]; omega))) (by omega)).2.1 | exact (tm_in (by (first | (rw [w64_id (by omega)]; omega) | (simp only [w64_eq]; omega))) (by omega)).2.2 | (simp only [List.length_take] at *; omega) | (simp <;> omega))) rfl (by kernel_rfl) (by kernel_rfl) ?_
  refine TQ.run 4 [] [(0, .slice A_l l.length c_l), (7, .pointer (some ((A_l.getD noAddr).add (0 * 6))))] rfl ⟨by kernel_rfl, by kernel_rfl⟩ ?_
  refine TQ.val (sV (Instr.loadAt 3 (.pointer (some ((A_l.getD noAddr).add (0 * 6)))))) (some 8) (.int .i64 (((l[0]?.getD TubeNode.zero).Node).Time)) [(0, .slice A_l l.length c_l), (8, .int .i64 (((l[0]?.getD TubeNode.zero).Node).Time))] (fun w hM => run_load_one (off := 0) (i := 0) (.int .i64 (((l[0]?.getD TubeNode.zero).Node).Time)) (h_l.sat hM) (map_at (getD_at _ _ TubeNode.zero (by first | omega | (rw [List.length_set]; omega) | (dsimp only; omega) | (rw [List.length_drop]; omega) | (simp only [w64_eq]; omega) | exact (tm_in (by (first | (rw [w64_id (by omega)]; omega) | (simp only [w64_eq]; omega))) (by omega)).1 | exact (tm_in (by (first | (rw [w64_id (by omega)]; omega) | (simp only [w64_eq]; omega))) (by omega)).2.1 | exact (tm_in (by (first | (rw [w64_id (by omega)]; omega) | (simp only [w64_eq]; omega))) (by omega)).2.2 | (simp only [List.length_take] at *; omega) | (simp <;> omega)))) (by kernel_rfl) (by kernel_rfl)) rfl (by kernel_rfl) (by kernel_rfl) ?_
  refine TQ.run 9 [] [(8, .int .i64 (((l[0]?.getD TubeNode.zero).Node).Time)), (9, .slice A_l l.length c_l), (12, .int .i64 (w64 ((l.length : Int) - 1)))] rfl ⟨by kernel_rfl, by kernel_rfl⟩ ?_
  refine TQ.rw 12 (.int .i64 (w64 ((l.length : Int) - 1))) (.int .i64 ((l.length - 1 : Nat) : Int)) (by kernel_rfl) (w64_pred l.length (by first | omega | (rw [List.length_set]; omega) | (dsimp only; omega) | (rw [List.length_drop]; omega) | (simp only [w64_eq]; omega) | exact (tm_in (by (first | (rw [w64_id (by omega)]; omega) | (simp only [w64_eq]; omega))) (by omega)).1 | exact (tm_in (by (first | (rw [w64_id (by omega)]; omega) | (simp only [w64_eq]; omega))) (by omega)).2.1 | exact (tm_in (by (first | (rw [w64_id (by omega)]; omega) | (simp only [w64_eq]; omega))) (by omega)).2.2 | (simp only [List.length_take] at *; omega) | (simp <;> omega))) ?_
  refine TQ.val (sV (Instr.indexAt 88 (.slice A_l l.length c_l) (.int .i64 ((l.length - 1 : Nat) : Int)))) (some 13) (.pointer (some ((A_l.getD noAddr).add ((l.length - 1) * 6)))) [(8, .int .i64 (((l[0]?.getD TubeNode.zero).Node).Time)), (13, .pointer (some ((A_l.getD noAddr).add ((l.length - 1) * 6))))] (fun w hM => run_index (h_l.sat hM) (by simp) (by kernel_rfl) (by first | omega | (rw [List.length_set]; omega) | (dsimp only; omega) | (rw [List.length_drop]; omega) | (simp only [w64_eq]; omega) | exact (tm_in (by (first | (rw [w64_id (by omega)]; omega) | (simp only [w64_eq]; omega))) (by omega)).1 | exact (tm_in (by (first | (rw [w64_id (by omega)]; omega) | (simp only [w64_eq]; omega))) (by omega)).2.1 | exact (tm_in (by (first | (rw [w64_id (by omega)]; omega) | (simp only [w64_eq]; omega))) (by omega)).2.2 | (simp only [List.length_take] at *; omega) | (simp <;> omega)) (by first | omega | (rw [List.length_set]; omega) | (dsimp only; omega) | (rw [List.length_drop]; omega) | (simp only [w64_eq]; omega) | exact (tm_in (by (first | (rw [w64_id (by omega)]; omega) | (simp only [w64_eq]; omega))) (by omega)).1 | exact (tm_in (by (first | (rw [w64_id (by omega)]; omega) | (simp only [w64_eq]; omega))) (by omega)).2.1 | exact (tm_in (by (first | (rw [w64_id (by omega)]; omega) | (simp only [w64_eq]; omega))) (by omega)).2.2 | (simp only [List.length_take] at *; omega) | (simp <;> omega))) rfl (by kernel_rfl) (by kernel_rfl) ?_
  refine TQ.run 12 [] [(8, .int .i64 (((l[0]?.getD TubeNode.zero).Node).Time)), (15, .pointer (some ((A_l.getD noAddr).add ((l.length - 1) * 6))))] rfl ⟨by kernel_rfl, by kernel_rfl⟩ ?_
  refine TQ.val (sV (Instr.loadAt 3 (.pointer (some ((A_l.getD noAddr).add ((l.length - 1) * 6)))))) (some 16) (.int .i64 (((l[(l.length - 1)]?.getD TubeNode.zero).Node).Time)) [(8, .int .i64 (((l[0]?.getD TubeNode.zero).Node).Time)), (16, .int .i64 (((l[(l.length - 1)]?.getD TubeNode.zero).Node).Time))] (fun w hM => run_load_one (off := 0) (i := (l.length - 1)) (.int .i64 (((l[(l.length - 1)]?.getD TubeNode.zero).Node).Time)) (h_l.sat hM) (map_at (getD_at _ _ TubeNode.zero (by first | omega | (rw [List.length_set]; omega) | (dsimp only; omega) | (rw [List.length_drop]; omega) | (simp only [w64_eq]; omega) | exact (tm_in (by (first | (rw [w64_id (by omega)]; omega) | (simp only [w64_eq]; omega))) (by omega)).1 | exact (tm_in (by (first | (rw [w64_id (by omega)]; omega) | (simp only [w64_eq]; omega))) (by omega)).2.1 | exact (tm_in (by (first | (rw [w64_id (by omega)]; omega) | (simp only [w64_eq]; omega))) (by omega)).2.2 | (simp only [List.length_take] at *; omega) | (simp <;> omega)))) (by kernel_rfl) (by kernel_rfl)) rfl (by kernel_rfl) (by kernel_rfl) ?_
  refine TQ.run 15 [] [(2, .int .i64 (((l[0]?.getD TubeNode.zero).Node).Time)), (3, .int .i64 (((l[(l.length - 1)]?.getD TubeNode.zero).Node).Time))] rfl ⟨by kernel_rfl, by kernel_rfl⟩ ?_
  refine TQ.next rfl ?_
  refine TC.ret ?_
  have e : tube_ends l = (((l[0]?.getD TubeNode.zero).Node).Time, ((l[(l.length - 1)]?.getD TubeNode.zero).Node).Time) := by unfold tube_ends; exact rfl
  exact TE.ret [] (.tuple #[.int .i64 (((l[0]?.getD TubeNode.zero).Node).Time), .int .i64 (((l[(l.length - 1)]?.getD TubeNode.zero).Node).Time)]) ⟨by kernel_rfl, by kernel_rfl⟩ (by rw [e]; first | done | kernel_rfl)

def tube_at_1 (n : TubeNode) (t : Int) : Int :=
  w64 (n.Node.Time - t)

set_option maxRecDepth 100000 in
theorem tube_at_1_w (n : TubeNode) (t : Int) (w : World) : Calls Try.prog 97 #[TubeNode.v n, .int .i64 t] w (Ret w (.int .i64 (tube_at_1 n t))) := by
  refine calls_intro (vs := [TubeNode.v n, .int .i64 t]) (w := w) Try.func97 rfl Try.ntmps97 rfl ?_
  refine TC.weak [(0, TubeNode.v n), (1, .int .i64 t)] (by kernel_rfl) ?_
  refine TC.seq ?_
  refine TC.region ?_
  refine TL.write 0 (fun b1 => [(1, .int .i64 t), (2, .pointer (some ⟨b1, 0, none⟩))]) (fun b1 => [.inl (b1, .cells (TubeNode.c n) 97 (0, 0))]) (fun b1 => ⟨by kernel_rfl, by kernel_rfl⟩) (fun b1 => ?_)
  refine TL.run 2 [] [(1, .int .i64 t), (2, .pointer (some ⟨b1, 0, none⟩))] rfl ⟨by kernel_rfl, by kernel_rfl⟩ ?_
  refine TL.next rfl ?_
  refine TC.seq ?_
  refine TC.region ?_
  refine TL.run 6 [0] [(4, .int .i64 (w64 (n.Node.Time - t)))] rfl ⟨by kernel_rfl, by kernel_rfl⟩ ?_
  refine TL.next rfl ?_
  refine TC.ret ?_
  have e : tube_at_1 n t = (w64 (n.Node.Time - t)) := by unfold tube_at_1; exact rfl
  exact TE.ret [] (.int .i64 (w64 (n.Node.Time - t))) ⟨by kernel_rfl, by kernel_rfl⟩ (by rw [e]; first | done | kernel_rfl)

def BinarySearch_tube_L1 (x : List TubeNode) (target : Int) : Nat → Int → Int → Option Int
  | 0, _, _ => none
  | m + 1, i, j => cond (decide (i < j)) (
      let r1 := tube_at_1 (x[(w64 ((wu64 (w64 (i + j))).fdiv (2 ^ 1))).toNat]?.getD TubeNode.zero) target
      cond (decide (r1 < 0)) (
        BinarySearch_tube_L1 x target m (w64 ((w64 ((wu64 (w64 (i + j))).fdiv (2 ^ 1))) + 1)) j) (
        BinarySearch_tube_L1 x target m i (w64 ((wu64 (w64 (i + j))).fdiv (2 ^ 1))))) (
      some (i))
def BinarySearch_tube (x : List TubeNode) (target : Int) : Int × Bool :=
  bindv ((BinarySearch_tube_L1 x target (x.length + 1) 0 (x.length : Int)).getD 0) (fun i_2 =>
    cond (decide (i_2 < (x.length : Int))) (
      let r2 := tube_at_1 (x[i_2.toNat]?.getD TubeNode.zero) target
      (i_2, r2 == 0)) (
      (i_2, false)))

theorem mid_in {i j : Int} {n : Nat} (h : 0 ≤ i ∧ i ≤ j ∧ j ≤ (n : Int)) (hlt : i < j) (hn : n < 4611686018427387904) : w64 ((wu64 (w64 (i + j))).fdiv (2 ^ 1)) = (i + j) / 2 ∧ 0 ≤ (i + j) / 2 ∧ i ≤ (i + j) / 2 ∧ (i + j) / 2 < j ∧ w64 (w64 ((wu64 (w64 (i + j))).fdiv (2 ^ 1)) + 1) = (i + j) / 2 + 1 := by
  have e1 : w64 (i + j) = i + j := w64_id (by omega)
  have e2 : wu64 (i + j) = i + j := IntWalk.u64_in _ (by omega)
  have e3 : (i + j).fdiv (2 ^ 1) = (i + j) / 2 := Int.fdiv_eq_ediv_of_nonneg _ (by decide)
  rw [e1, e2, e3, w64_id (x := (i + j) / 2) (by omega), w64_id (x := (i + j) / 2 + 1) (by omega)]
  omega
theorem bs_total (x : List TubeNode) (target : Int) (hn : x.length < 4611686018427387904) : ∀ (m : Nat) (i j : Int), 0 ≤ i ∧ i ≤ j ∧ j ≤ (x.length : Int) ∧ j - i < (m : Int) → ∃ R, BinarySearch_tube_L1 x target m i j = some R
  | 0, i, j, h => by omega
  | m + 1, i, j, h => by
    unfold BinarySearch_tube_L1
    by_cases hk : i < j
    · have u := mid_in (n := x.length) ⟨h.1, h.2.1, h.2.2.1⟩ hk hn
      rw [decide_eq_true hk, cond_true, u.2.2.2.2, u.1]
      show ∃ R, cond (decide (tube_at_1 (x[((i + j) / 2).toNat]?.getD TubeNode.zero) target < 0)) _ _ = some R
      cases decide (tube_at_1 (x[((i + j) / 2).toNat]?.getD TubeNode.zero) target < 0)
      · exact bs_total x target hn m i ((i + j) / 2) (by omega)
      · exact bs_total x target hn m ((i + j) / 2 + 1) j (by omega)
    · rw [decide_eq_false hk]; exact ⟨i, rfl⟩

set_option maxRecDepth 100000 in
theorem BinarySearch_tube_w (A_x : Option Addr) (c_x : Nat) (x : List TubeNode) (target : Int) (w : World) (h_x : Rd w 6 A_x (x.map TubeNode.c)) (_hc_x : x.length ≤ c_x) : Calls Try.prog 96 #[.slice A_x x.length c_x, .int .i64 target, .func (.func 97) #[] #[]] w (Ret w (.tuple #[.int .i64 ((BinarySearch_tube x target).1), .bool ((BinarySearch_tube x target).2)])) := by
  have s_x := h_x.short; rw [List.length_map] at s_x
  refine calls_intro (vs := [.slice A_x x.length c_x, .int .i64 target, .func (.func 97) #[] #[]]) (w := w) Try.func96 rfl Try.ntmps96 rfl ?_
  refine TC.weak [(0, .slice A_x x.length c_x), (1, .int .i64 target), (2, .func (.func 97) #[] #[])] (by kernel_rfl) ?_
  refine TC.seq ?_
  refine TC.region ?_
  refine TL.run 2 [] [(0, .slice A_x x.length c_x), (1, .int .i64 target), (2, .func (.func 97) #[] #[])] rfl ⟨by kernel_rfl, by kernel_rfl⟩ ?_
  refine TL.next rfl ?_
  refine TC.seq ?_
  refine TC.region ?_
  refine TL.run 3 [] [(0, .slice A_x x.length c_x), (1, .int .i64 target), (2, .func (.func 97) #[] #[]), (8, .int .i64 (x.length : Int))] rfl ⟨by kernel_rfl, by kernel_rfl⟩ ?_
  refine TL.next rfl ?_
  refine TC.seq ?_
  refine TC.region ?_
  refine TL.run 3 [] [(0, .slice A_x x.length c_x), (1, .int .i64 target), (2, .func (.func 97) #[] #[]), (8, .int .i64 (x.length : Int)), (9, .int .i64 0), (10, .int .i64 (x.length : Int))] rfl ⟨by kernel_rfl, by kernel_rfl⟩ ?_
  refine TL.next rfl ?_
  refine TC.seq ?_
  refine TC.weak [(0, .slice A_x x.length c_x), (1, .int .i64 target), (2, .func (.func 97) #[] #[]), (8, .int .i64 (x.length : Int)), (9, .int .i64 0), (10, .int .i64 (x.length : Int))] (by kernel_rfl) ?_
  obtain ⟨R1, hR⟩ : ∃ R, BinarySearch_tube_L1 x target (x.length + 1) 0 (x.length : Int) = some R := bs_total x target (by omega) (x.length + 1) 0 (x.length : Int) (by omega)
  refine TC.cut (S := Int) (fun i_2 => [(0, .slice A_x x.length c_x), (1, .int .i64 target), (2, .func (.func 97) #[] #[]), (8, .int .i64 (x.length : Int)), (9, .int .i64 i_2)]) (fun i_2 => []) (fun i_2 => R1 = i_2 ∧ (0 ≤ i_2 ∧ i_2 ≤ (x.length : Int))) ?_ ?_
  · refine TC.block ?_
    refine TC.loop (X := Nat × Int × Int) (fun (m, i, j) => [(0, .slice A_x x.length c_x), (1, .int .i64 target), (2, .func (.func 97) #[] #[]), (8, .int .i64 (x.length : Int)), (9, .int .i64 i), (10, .int .i64 j)]) (fun (m, i, j) => []) (fun (m, i, j) => m) (fun (m, i, j) => m ≤ (x.length + 1) ∧ BinarySearch_tube_L1 x target m i j = some R1 ∧ (0 ≤ i ∧ i ≤ j ∧ j ≤ (x.length : Int))) ?_ (x.length + 1, 0, (x.length : Int)) ⟨Nat.le_refl _, hR, (by first | omega | (simp; omega) | simp)⟩
    rintro ⟨m, i, j⟩ ⟨hk, hI, hl_iv0⟩
    rcases m with _ | m
    · cases hI
    refine TC.seq ?_
    refine TC.seq ?_
    refine TC.region ?_
    refine TL.run 3 [] [(0, .slice A_x x.length c_x), (1, .int .i64 target), (2, .func (.func 97) #[] #[]), (8, .int .i64 (x.length : Int)), (9, .int .i64 i), (10, .int .i64 j), (17, .bool (decide (i < j)))] rfl ⟨by kernel_rfl, by kernel_rfl⟩ ?_
    refine TL.next rfl ?_
    refine TC.cond (decide (i < j)) rfl (by kernel_rfl) (fun h1 => ?_) (fun h1 => ?_)
    · refine TC.skip ?_
      refine TE.next ?_
      refine TC.block ?_
      refine TC.seq ?_
      refine TC.region ?_
      refine TL.run 7 [] [(0, .slice A_x x.length c_x), (1, .int .i64 target), (2, .func (.func 97) #[] #[]), (8, .int .i64 (x.length : Int)), (9, .int .i64 i), (10, .int .i64 j), (11, .int .i64 (w64 ((wu64 (w64 (i + j))).fdiv (2 ^ 1))))] rfl ⟨by kernel_rfl, by kernel_rfl⟩ ?_
      refine TL.next rfl ?_
      refine TC.seq ?_
      refine TC.region ?_
      refine TL.run 3 [] [(0, .slice A_x x.length c_x), (1, .int .i64 target), (2, .func (.func 97) #[] #[]), (8, .int .i64 (x.length : Int)), (9, .int .i64 i), (10, .int .i64 j), (11, .int .i64 (w64 ((wu64 (w64 (i + j))).fdiv (2 ^ 1)))), (24, .func (.func 97) #[] #[]), (25, .slice A_x x.length c_x), (26, .int .i64 (w64 ((wu64 (w64 (i + j))).fdiv (2 ^ 1))))] rfl ⟨by kernel_rfl, by kernel_rfl⟩ ?_
      refine TL.val (sV (Instr.indexAt 88 (.slice A_x x.length c_x) (.int .i64 (w64 ((wu64 (w64 (i + j))).fdiv (2 ^ 1)))))) (some 27) (.pointer (some ((A_x.getD noAddr).add ((w64 ((wu64 (w64 (i + j))).fdiv (2 ^ 1))).toNat * 6)))) [(0, .slice A_x x.length c_x), (1, .int .i64 target), (2, .func (.func 97) #[] #[]), (8, .int .i64 (x.length : Int)), (9, .int .i64 i), (10, .int .i64 j), (11, .int .i64 (w64 ((wu64 (w64 (i + j))).fdiv (2 ^ 1)))), (24, .func (.func 97) #[] #[]), (27, .pointer (some ((A_x.getD noAddr).add ((w64 ((wu64 (w64 (i + j))).fdiv (2 ^ 1))).toNat * 6))))] (fun w hM => run_index (h_x.sat hM) (by simp) (by kernel_rfl) (by have q0_ := (dec_t h1); (try have um_ := mid_in hl_iv0 (dec_t h1) (by omega)); first | omega | (rw [List.length_set]; omega) | (dsimp only; omega) | (rw [List.length_drop]; omega) | (simp only [w64_eq]; omega) | exact (tm_in (by (first | (rw [w64_id (by omega)]; omega) | (simp only [w64_eq]; omega))) (by omega)).1 | exact (tm_in (by (first | (rw [w64_id (by omega)]; omega) | (simp only [w64_eq]; omega))) (by omega)).2.1 | exact (tm_in (by (first | (rw [w64_id (by omega)]; omega) | (simp only [w64_eq]; omega))) (by omega)).2.2 | (simp only [List.length_take] at *; omega) | (simp <;> omega)) (by have q0_ := (dec_t h1); (try have um_ := mid_in hl_iv0 (dec_t h1) (by omega)); first | omega | (rw [List.length_set]; omega) | (dsimp only; omega) | (rw [List.length_drop]; omega) | (simp only [w64_eq]; omega) | exact (tm_in (by (first | (rw [w64_id (by omega)]; omega) | (simp only [w64_eq]; omega))) (by omega)).1 | exact (tm_in (by (first | (rw [w64_id (by omega)]; omega) | (simp only [w64_eq]; omega))) (by omega)).2.1 | exact (tm_in (by (first | (rw [w64_id (by omega)]; omega) | (simp only [w64_eq]; omega))) (by omega)).2.2 | (simp only [List.length_take] at *; omega) | (simp <;> omega))) (by kernel_rfl) (by kernel_rfl) ?_
      refine TL.val (sV (Instr.loadAt 97 (.pointer (some ((A_x.getD noAddr).add ((w64 ((wu64 (w64 (i + j))).fdiv (2 ^ 1))).toNat * 6)))))) (some 28) (TubeNode.v (x[(w64 ((wu64 (w64 (i + j))).fdiv (2 ^ 1))).toNat]?.getD TubeNode.zero)) [(0, .slice A_x x.length c_x), (1, .int .i64 target), (2, .func (.func 97) #[] #[]), (8, .int .i64 (x.length : Int)), (9, .int .i64 i), (10, .int .i64 j), (11, .int .i64 (w64 ((wu64 (w64 (i + j))).fdiv (2 ^ 1)))), (24, .func (.func 97) #[] #[]), (28, TubeNode.v (x[(w64 ((wu64 (w64 (i + j))).fdiv (2 ^ 1))).toNat]?.getD TubeNode.zero))] (fun w hM => run_load_agg (n := 6) (off := 0) (i := (w64 ((wu64 (w64 (i + j))).fdiv (2 ^ 1))).toNat) (TubeNode.v (x[(w64 ((wu64 (w64 (i + j))).fdiv (2 ^ 1))).toNat]?.getD TubeNode.zero)) (h_x.sat hM) (map_at (getD_at _ _ TubeNode.zero (by have q0_ := (dec_t h1); (try have um_ := mid_in hl_iv0 (dec_t h1) (by omega)); first | omega | (rw [List.length_set]; omega) | (dsimp only; omega) | (rw [List.length_drop]; omega) | (simp only [w64_eq]; omega) | exact (tm_in (by (first | (rw [w64_id (by omega)]; omega) | (simp only [w64_eq]; omega))) (by omega)).1 | exact (tm_in (by (first | (rw [w64_id (by omega)]; omega) | (simp only [w64_eq]; omega))) (by omega)).2.1 | exact (tm_in (by (first | (rw [w64_id (by omega)]; omega) | (simp only [w64_eq]; omega))) (by omega)).2.2 | (simp only [List.length_take] at *; omega) | (simp <;> omega)))) (by kernel_rfl) (by kernel_rfl) (by kernel_rfl)) (by kernel_rfl) (by kernel_rfl) ?_
      refine TL.run 6 [] [(0, .slice A_x x.length c_x), (1, .int .i64 target), (2, .func (.func 97) #[] #[]), (8, .int .i64 (x.length : Int)), (9, .int .i64 i), (10, .int .i64 j), (11, .int .i64 (w64 ((wu64 (w64 (i + j))).fdiv (2 ^ 1)))), (24, .func (.func 97) #[] #[]), (28, TubeNode.v (x[(w64 ((wu64 (w64 (i + j))).fdiv (2 ^ 1))).toNat]?.getD TubeNode.zero)), (29, .int .i64 target)] rfl ⟨by kernel_rfl, by kernel_rfl⟩ ?_
      refine TL.call (some 30) [(0, .slice A_x x.length c_x), (1, .int .i64 target), (2, .func (.func 97) #[] #[]), (8, .int .i64 (x.length : Int)), (9, .int .i64 i), (10, .int .i64 j), (11, .int .i64 (w64 ((wu64 (w64 (i + j))).fdiv (2 ^ 1)))), (30, .int .i64 (tube_at_1 (x[(w64 ((wu64 (w64 (i + j))).fdiv (2 ^ 1))).toNat]?.getD TubeNode.zero) target))] (fun w _ => tube_at_1_w (x[(w64 ((wu64 (w64 (i + j))).fdiv (2 ^ 1))).toNat]?.getD TubeNode.zero) target w) (by kernel_rfl) (by kernel_rfl) ?_
      generalize hr1 : tube_at_1 (x[(w64 ((wu64 (w64 (i + j))).fdiv (2 ^ 1))).toNat]?.getD TubeNode.zero) target = r1
      refine TL.run 8 [] [(0, .slice A_x x.length c_x), (1, .int .i64 target), (2, .func (.func 97) #[] #[]), (8, .int .i64 (x.length : Int)), (9, .int .i64 i), (10, .int .i64 j), (11, .int .i64 (w64 ((wu64 (w64 (i + j))).fdiv (2 ^ 1)))), (31, .bool (decide (r1 < 0)))] rfl ⟨by kernel_rfl, by kernel_rfl⟩ ?_
      refine TL.next rfl ?_
      refine TC.cond (decide (r1 < 0)) rfl (by kernel_rfl) (fun h2 => ?_) (fun h2 => ?_)
      · refine TC.region ?_
        refine TL.run 3 [] [(0, .slice A_x x.length c_x), (1, .int .i64 target), (2, .func (.func 97) #[] #[]), (8, .int .i64 (x.length : Int)), (9, .int .i64 (w64 ((w64 ((wu64 (w64 (i + j))).fdiv (2 ^ 1))) + 1))), (10, .int .i64 j)] rfl ⟨by kernel_rfl, by kernel_rfl⟩ ?_
        refine TL.done rfl ?_
        refine TE.normal_block ?_
        exact TE.again (x := (m + 1, i, j)) (m, w64 ((w64 ((wu64 (w64 (i + j))).fdiv (2 ^ 1))) + 1), j) ⟨by omega, (by subst hr1; refine Eq.trans (Eq.symm ?_) hI; exact cond_t h1 (cond_t h2 (rfl))), (by have q0_ := (dec_t h1); have q1_ := (dec_t h2); (try have um_ := mid_in hl_iv0 (dec_t h1) (by omega)); first | omega | (simp <;> omega) | (simp at * <;> omega) | (simp only [w64_eq] at *; omega) | (simp only [List.length_append, List.length_cons, List.length_nil]; omega))⟩ (Nat.lt_succ_self _) (by kernel_rfl) (.slnil)
      · refine TC.region ?_
        refine TL.run 2 [] [(0, .slice A_x x.length c_x), (1, .int .i64 target), (2, .func (.func 97) #[] #[]), (8, .int .i64 (x.length : Int)), (9, .int .i64 i), (10, .int .i64 (w64 ((wu64 (w64 (i + j))).fdiv (2 ^ 1))))] rfl ⟨by kernel_rfl, by kernel_rfl⟩ ?_
        refine TL.done rfl ?_
        refine TE.normal_block ?_
        exact TE.again (x := (m + 1, i, j)) (m, i, w64 ((wu64 (w64 (i + j))).fdiv (2 ^ 1))) ⟨by omega, (by subst hr1; refine Eq.trans (Eq.symm ?_) hI; exact cond_t h1 (cond_f h2 (rfl))), (by have q0_ := (dec_t h1); have q1_ := (dec_f h2); (try have um_ := mid_in hl_iv0 (dec_t h1) (by omega)); first | omega | (simp <;> omega) | (simp at * <;> omega) | (simp only [w64_eq] at *; omega) | (simp only [List.length_append, List.length_cons, List.length_nil]; omega))⟩ (Nat.lt_succ_self _) (by kernel_rfl) (.slnil)
    · refine TC.exit ?_
      refine TE.exit_then (TE.exit_then (TE.exit_same ?_))
      exact TE.cut i (⟨Option.some.inj (hI.symm.trans (by exact cond_f h1 (rfl))), (by have q0_ := (dec_f h1); (try have um_ := mid_in hl_iv0 (dec_t h1) (by omega)); first | omega | (simp <;> omega) | (simp at * <;> omega) | (simp only [w64_eq] at *; omega) | (simp only [List.length_append, List.length_cons, List.length_nil]; omega))⟩) (by kernel_rfl) (.slnil)
  · rintro i_2 ⟨hJ, hl_ov0_0⟩
    refine TE.next ?_
    refine TC.seq ?_
    refine TC.region ?_
    refine TL.run 5 [] [(0, .slice A_x x.length c_x), (1, .int .i64 target), (2, .func (.func 97) #[] #[]), (9, .int .i64 i_2), (35, .int .i64 i_2), (39, .bool (decide (i_2 < (x.length : Int))))] rfl ⟨by kernel_rfl, by kernel_rfl⟩ ?_
    refine TL.split 39 (decide (i_2 < (x.length : Int))) (by kernel_rfl) (fun h3 => ?_) (fun h3 => ?_)
    · refine TL.run 8 [] [(1, .int .i64 target), (35, .int .i64 i_2), (39, .bool true), (40, .func (.func 97) #[] #[]), (41, .slice A_x x.length c_x), (42, .int .i64 i_2)] rfl ⟨by kernel_rfl, by kernel_rfl⟩ ?_
      refine TL.val (sV (Instr.indexAt 88 (.slice A_x x.length c_x) (.int .i64 i_2))) (some 43) (.pointer (some ((A_x.getD noAddr).add (i_2.toNat * 6)))) [(1, .int .i64 target), (35, .int .i64 i_2), (39, .bool true), (40, .func (.func 97) #[] #[]), (43, .pointer (some ((A_x.getD noAddr).add (i_2.toNat * 6))))] (fun w hM => run_index (h_x.sat hM) (by simp) (by kernel_rfl) (by have q0_ := (dec_t h3); first | omega | (rw [List.length_set]; omega) | (dsimp only; omega) | (rw [List.length_drop]; omega) | (simp only [w64_eq]; omega) | exact (tm_in (by (first | (rw [w64_id (by omega)]; omega) | (simp only [w64_eq]; omega))) (by omega)).1 | exact (tm_in (by (first | (rw [w64_id (by omega)]; omega) | (simp only [w64_eq]; omega))) (by omega)).2.1 | exact (tm_in (by (first | (rw [w64_id (by omega)]; omega) | (simp only [w64_eq]; omega))) (by omega)).2.2 | (simp only [List.length_take] at *; omega) | (simp <;> omega)) (by have q0_ := (dec_t h3); first | omega | (rw [List.length_set]; omega) | (dsimp only; omega) | (rw [List.length_drop]; omega) | (simp only [w64_eq]; omega) | exact (tm_in (by (first | (rw [w64_id (by omega)]; omega) | (simp only [w64_eq]; omega))) (by omega)).1 | exact (tm_in (by (first | (rw [w64_id (by omega)]; omega) | (simp only [w64_eq]; omega))) (by omega)).2.1 | exact (tm_in (by (first | (rw [w64_id (by omega)]; omega) | (simp only [w64_eq]; omega))) (by omega)).2.2 | (simp only [List.length_take] at *; omega) | (simp <;> omega))) (by kernel_rfl) (by kernel_rfl) ?_
      refine TL.val (sV (Instr.loadAt 97 (.pointer (some ((A_x.getD noAddr).add (i_2.toNat * 6)))))) (some 44) (TubeNode.v (x[i_2.toNat]?.getD TubeNode.zero)) [(1, .int .i64 target), (35, .int .i64 i_2), (39, .bool true), (40, .func (.func 97) #[] #[]), (44, TubeNode.v (x[i_2.toNat]?.getD TubeNode.zero))] (fun w hM => run_load_agg (n := 6) (off := 0) (i := i_2.toNat) (TubeNode.v (x[i_2.toNat]?.getD TubeNode.zero)) (h_x.sat hM) (map_at (getD_at _ _ TubeNode.zero (by have q0_ := (dec_t h3); first | omega | (rw [List.length_set]; omega) | (dsimp only; omega) | (rw [List.length_drop]; omega) | (simp only [w64_eq]; omega) | exact (tm_in (by (first | (rw [w64_id (by omega)]; omega) | (simp only [w64_eq]; omega))) (by omega)).1 | exact (tm_in (by (first | (rw [w64_id (by omega)]; omega) | (simp only [w64_eq]; omega))) (by omega)).2.1 | exact (tm_in (by (first | (rw [w64_id (by omega)]; omega) | (simp only [w64_eq]; omega))) (by omega)).2.2 | (simp only [List.length_take] at *; omega) | (simp <;> omega)))) (by kernel_rfl) (by kernel_rfl) (by kernel_rfl)) (by kernel_rfl) (by kernel_rfl) ?_
      refine TL.run 11 [] [(35, .int .i64 i_2), (39, .bool true), (40, .func (.func 97) #[] #[]), (44, TubeNode.v (x[i_2.toNat]?.getD TubeNode.zero)), (45, .int .i64 target)] rfl ⟨by kernel_rfl, by kernel_rfl⟩ ?_
      refine TL.call (some 46) [(35, .int .i64 i_2), (39, .bool true), (46, .int .i64 (tube_at_1 (x[i_2.toNat]?.getD TubeNode.zero) target))] (fun w _ => tube_at_1_w (x[i_2.toNat]?.getD TubeNode.zero) target w) (by kernel_rfl) (by kernel_rfl) ?_
      generalize hr2 : tube_at_1 (x[i_2.toNat]?.getD TubeNode.zero) target = r2
      refine TL.run 16 [] [(6, .int .i64 i_2), (7, .bool (r2 == 0))] rfl ⟨by kernel_rfl, by kernel_rfl⟩ ?_
      refine TL.next rfl ?_
      refine TC.ret ?_
      have e : BinarySearch_tube x target = (i_2, r2 == 0) := by subst hr2; unfold BinarySearch_tube; exact bindv_eq ((congrArg (Option.getD · _) hR).trans hJ) (cond_t h3 (rfl))
      exact TE.ret [] (.tuple #[.int .i64 i_2, .bool (r2 == 0)]) ⟨by kernel_rfl, by kernel_rfl⟩ (by rw [e]; first | done | kernel_rfl)
    · refine TL.run 16 [] [(6, .int .i64 i_2), (7, .bool false)] rfl ⟨by kernel_rfl, by kernel_rfl⟩ ?_
      refine TL.next rfl ?_
      refine TC.ret ?_
      have e : BinarySearch_tube x target = (i_2, false) := by unfold BinarySearch_tube; exact bindv_eq ((congrArg (Option.getD · _) hR).trans hJ) (cond_f h3 (rfl))
      exact TE.ret [] (.tuple #[.int .i64 i_2, .bool false]) ⟨by kernel_rfl, by kernel_rfl⟩ (by rw [e]; first | done | kernel_rfl)

end Go.Sky
