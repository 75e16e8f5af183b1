/- Functions of the program, each with the Lean function that it computes. Conditions: none. -/
import Derived.Test.YtkjdmkgacmkpjaaNum
namespace Go.Sky
open Go Go.Eng Go.Proofs
def skywaykeep2_square (a : P) (b_ : P) : Int :=
  w64 ((w64 ((w64 (a.X - b_.X)) * (w64 (a.X - b_.X)))) + (w64 ((w64 (a.Y - b_.Y)) * (w64 (a.Y - b_.Y)))))

set_option maxRecDepth 100000 in
theorem skywaykeep2_square_w (a : P) (b_ : P) (w : World) : Calls Try.prog 35 #[P.v a, P.v b_] w (Ret w (.int .i64 (skywaykeep2_square a b_))) := by
  refine calls_intro (vs := [P.v a, P.v b_]) (w := w) Try.func35 rfl Try.ntmps35 rfl ?_
  refine TC.weak [(0, P.v a), (1, P.v b_)] (by kernel_rfl) ?_
  refine TC.seq ?_
  refine TC.region ?_
  refine TL.write 0 (fun b1 => [(1, P.v b_), (2, .pointer (some ⟨b1, 0, none⟩))]) (fun b1 => [.inl (b1, .cells (P.c a) 23 (0, 0))]) (fun b1 => ⟨by kernel_rfl, by kernel_rfl⟩) (fun b1 => ?_)
  refine TL.write 0 (fun b2 => [(2, .pointer (some ⟨b1, 0, none⟩)), (3, .pointer (some ⟨b2, 0, none⟩))]) (fun b2 => [.inl (b2, .cells (P.c b_) 23 (0, 0)), .inl (b1, .cells (P.c a) 23 (0, 0))]) (fun b2 => ⟨by kernel_rfl, by kernel_rfl⟩) (fun b2 => ?_)
  refine TL.run 3 [] [(2, .pointer (some ⟨b1, 0, none⟩)), (3, .pointer (some ⟨b2, 0, none⟩))] rfl ⟨by kernel_rfl, by kernel_rfl⟩ ?_
  refine TL.next rfl ?_
  refine TC.seq ?_
  refine TC.region ?_
  refine TL.run 24 [1, 0, 1, 0, 1, 0, 1, 0] [(4, .int .i64 (w64 ((w64 ((w64 (a.X - b_.X)) * (w64 (a.X - b_.X)))) + (w64 ((w64 (a.Y - b_.Y)) * (w64 (a.Y - b_.Y)))))))] rfl ⟨by kernel_rfl, by kernel_rfl⟩ ?_
  refine TL.next rfl ?_
  refine TC.ret ?_
  have e : skywaykeep2_square a b_ = (w64 ((w64 ((w64 (a.X - b_.X)) * (w64 (a.X - b_.X)))) + (w64 ((w64 (a.Y - b_.Y)) * (w64 (a.Y - b_.Y)))))) := by unfold skywaykeep2_square; exact rfl
  exact TE.ret [] (.int .i64 (w64 ((w64 ((w64 (a.X - b_.X)) * (w64 (a.X - b_.X)))) + (w64 ((w64 (a.Y - b_.Y)) * (w64 (a.Y - b_.Y))))))) ⟨by kernel_rfl, by kernel_rfl⟩ (by rw [e]; first | done | kernel_rfl)

def skywaykeep2_within (n : Int) (low : Int) (high : Int) : Int :=
  w64 (low + ((w64 ((n.tmod (w64 ((w64 (high - low)) + 1))) + (w64 ((w64 (high - low)) + 1)))).tmod (w64 ((w64 (high - low)) + 1))))

theorem within_eq {n low high r : Int} (hr : skywaykeep2_within n low high = r) (h : low ≤ high) (h1 : -1000000000000 ≤ low) (h2 : high ≤ 1000000000000) :
    r = low + (n.tmod (high - low + 1) + (high - low + 1)).tmod (high - low + 1) ∧ low ≤ r ∧ r ≤ high := by
  subst hr
  unfold skywaykeep2_within
  have s : w64 ((w64 (high - low)) + 1) = high - low + 1 := by rw [w64_id (x := high - low) (by omega), w64_id (by omega)]
  simp only [s]
  have t1 := Int.tmod_lt_of_pos n (show 0 < high - low + 1 by omega)
  have t2 := Int.lt_tmod_of_pos n (show 0 < high - low + 1 by omega)
  rw [w64_id (x := n.tmod (high - low + 1) + (high - low + 1)) (by omega)]
  have t3 := Int.tmod_lt_of_pos (n.tmod (high - low + 1) + (high - low + 1)) (show 0 < high - low + 1 by omega)
  have t4 := Int.tmod_nonneg (high - low + 1) (show 0 ≤ n.tmod (high - low + 1) + (high - low + 1) by omega)
  rw [w64_id (by omega)]
  omega
theorem within_in {n low high r : Int} (hr : skywaykeep2_within n low high = r) (h : low ≤ high) (h1 : -1000000000000 ≤ low) (h2 : high ≤ 1000000000000) : low ≤ r ∧ r ≤ high := (within_eq hr h h1 h2).2

set_option maxRecDepth 100000 in
theorem skywaykeep2_within_w (n : Int) (low : Int) (high : Int) (w : World) (hs : w64 ((w64 (high - low)) + 1) ≠ 0) : Calls Try.prog 16 #[.int .i64 n, .int .i64 low, .int .i64 high] w (Ret w (.int .i64 (skywaykeep2_within n low high))) := by
  refine calls_intro (vs := [.int .i64 n, .int .i64 low, .int .i64 high]) (w := w) Try.func16 rfl Try.ntmps16 rfl ?_
  refine TC.weak [(0, .int .i64 n), (1, .int .i64 low), (2, .int .i64 high)] (by kernel_rfl) ?_
  refine TC.seq ?_
  refine TC.region ?_
  refine TL.run 1 [] [(0, .int .i64 n), (1, .int .i64 low), (2, .int .i64 high)] rfl ⟨by kernel_rfl, by kernel_rfl⟩ ?_
  refine TL.next rfl ?_
  refine TC.seq ?_
  refine TC.region ?_
  refine TL.run 5 [] [(0, .int .i64 n), (1, .int .i64 low), (7, .int .i64 (w64 ((w64 (high - low)) + 1)))] rfl ⟨by kernel_rfl, by kernel_rfl⟩ ?_
  refine TL.next rfl ?_
  refine TC.seq ?_
  refine TC.region ?_
  refine TL.run 3 [] [(7, .int .i64 (w64 ((w64 (high - low)) + 1))), (12, .int .i64 low), (13, .int .i64 n), (14, .int .i64 (w64 ((w64 (high - low)) + 1)))] rfl ⟨by kernel_rfl, by kernel_rfl⟩ ?_
  refine TL.val (sV (binOp .rem 3 (.int .i64 n) (.int .i64 (w64 ((w64 (high - low)) + 1))))) (some 15) (.int .i64 (n.tmod (w64 ((w64 (high - low)) + 1)))) [(7, .int .i64 (w64 ((w64 (high - low)) + 1))), (12, .int .i64 low), (15, .int .i64 (n.tmod (w64 ((w64 (high - low)) + 1))))] (fun w hM => run_rem (by first | omega | (simp only [List.length_drop]; omega) | (simp only [w64_eq]; omega) | exact (tm_in (by (first | (rw [w64_id (by omega)]; omega) | (simp only [w64_eq]; omega))) (by omega)).1 | exact (tm_in (by (first | (rw [w64_id (by omega)]; omega) | (simp only [w64_eq]; omega))) (by omega)).2.1 | exact (tm_in (by (first | (rw [w64_id (by omega)]; omega) | (simp only [w64_eq]; omega))) (by omega)).2.2 | (simp <;> omega))) (by kernel_rfl) (by kernel_rfl) ?_
  refine TL.run 7 [] [(12, .int .i64 low), (17, .int .i64 (w64 ((n.tmod (w64 ((w64 (high - low)) + 1))) + (w64 ((w64 (high - low)) + 1))))), (18, .int .i64 (w64 ((w64 (high - low)) + 1)))] rfl ⟨by kernel_rfl, by kernel_rfl⟩ ?_
  refine TL.val (sV (binOp .rem 3 (.int .i64 (w64 ((n.tmod (w64 ((w64 (high - low)) + 1))) + (w64 ((w64 (high - low)) + 1))))) (.int .i64 (w64 ((w64 (high - low)) + 1))))) (some 19) (.int .i64 ((w64 ((n.tmod (w64 ((w64 (high - low)) + 1))) + (w64 ((w64 (high - low)) + 1)))).tmod (w64 ((w64 (high - low)) + 1)))) [(12, .int .i64 low), (19, .int .i64 ((w64 ((n.tmod (w64 ((w64 (high - low)) + 1))) + (w64 ((w64 (high - low)) + 1)))).tmod (w64 ((w64 (high - low)) + 1))))] (fun w hM => run_rem (by first | omega | (simp only [List.length_drop]; omega) | (simp only [w64_eq]; omega) | exact (tm_in (by (first | (rw [w64_id (by omega)]; omega) | (simp only [w64_eq]; omega))) (by omega)).1 | exact (tm_in (by (first | (rw [w64_id (by omega)]; omega) | (simp only [w64_eq]; omega))) (by omega)).2.1 | exact (tm_in (by (first | (rw [w64_id (by omega)]; omega) | (simp only [w64_eq]; omega))) (by omega)).2.2 | (simp <;> omega))) (by kernel_rfl) (by kernel_rfl) ?_
  refine TL.run 10 [] [(6, .int .i64 (w64 (low + ((w64 ((n.tmod (w64 ((w64 (high - low)) + 1))) + (w64 ((w64 (high - low)) + 1)))).tmod (w64 ((w64 (high - low)) + 1))))))] rfl ⟨by kernel_rfl, by kernel_rfl⟩ ?_
  refine TL.next rfl ?_
  refine TC.ret ?_
  have e : skywaykeep2_within n low high = (w64 (low + ((w64 ((n.tmod (w64 ((w64 (high - low)) + 1))) + (w64 ((w64 (high - low)) + 1)))).tmod (w64 ((w64 (high - low)) + 1))))) := by unfold skywaykeep2_within; exact rfl
  exact TE.ret [] (.int .i64 (w64 (low + ((w64 ((n.tmod (w64 ((w64 (high - low)) + 1))) + (w64 ((w64 (high - low)) + 1)))).tmod (w64 ((w64 (high - low)) + 1)))))) ⟨by kernel_rfl, by kernel_rfl⟩ (by rw [e]; first | done | kernel_rfl)

end Go.Sky
