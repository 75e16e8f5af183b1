/- Functions of the program, each with the Lean function that it computes. Conditions: none. -/
import Derived.Test.YtlaealgmaalgfaaNum
namespace Go.Sky
open Go Go.Eng Go.Proofs
def polygon_next (p : List P) (i : Int) : P :=
  (p[((w64 (i + 1)).tmod (p.length : Int)).toNat]?.getD P.zero)

set_option maxRecDepth 100000 in
theorem polygon_next_w (A_p : Option Addr) (c_p : Nat) (p : List P) (i : Int) (w : World) (h_p : Rd w 2 A_p (p.map P.c)) (_hc_p : p.length ≤ c_p) (h0 : 0 ≤ i ∧ i < 4611686018427387904) (h1 : 1 ≤ p.length) : Calls Try.prog 62 #[.slice A_p p.length c_p, .int .i64 i] w (Ret w (P.v (polygon_next p i))) := by
  have s_p := h_p.short; rw [List.length_map] at s_p
  refine calls_intro (vs := [.slice A_p p.length c_p, .int .i64 i]) (w := w) Try.func62 rfl Try.ntmps62 rfl ?_
  refine TC.weak [(0, .slice A_p p.length c_p), (1, .int .i64 i)] (by kernel_rfl) ?_
  refine TC.seq ?_
  refine TC.region ?_
  refine TL.write 0 (fun b1 => [(0, .slice A_p p.length c_p), (1, .int .i64 i), (4, .pointer (some ⟨b1, 0, none⟩))]) (fun b1 => [.inl (b1, .cells (P.c P.zero) 25 (0, 0))]) (fun b1 => ⟨by kernel_rfl, by kernel_rfl⟩) (fun b1 => ?_)
  refine TL.next rfl ?_
  refine TC.seq ?_
  refine TC.region ?_
  refine TL.run 5 [] [(4, .pointer (some ⟨b1, 0, none⟩)), (5, .slice A_p p.length c_p), (7, .int .i64 (w64 (i + 1))), (9, .int .i64 (p.length : Int))] rfl ⟨by kernel_rfl, by kernel_rfl⟩ ?_
  refine TL.val (sV (binOp .rem 3 (.int .i64 (w64 (i + 1))) (.int .i64 (p.length : Int)))) (some 10) (.int .i64 ((w64 (i + 1)).tmod (p.length : Int))) [(4, .pointer (some ⟨b1, 0, none⟩)), (5, .slice A_p p.length c_p), (10, .int .i64 ((w64 (i + 1)).tmod (p.length : Int)))] (fun w hM => run_rem (by first | omega | (simp only [List.length_drop]; omega) | (simp only [w64_eq]; omega) | exact (tm_in (by (first | (rw [w64_id (by omega)]; omega) | (simp only [w64_eq]; omega))) (by omega)).1 | exact (tm_in (by (first | (rw [w64_id (by omega)]; omega) | (simp only [w64_eq]; omega))) (by omega)).2.1 | exact (tm_in (by (first | (rw [w64_id (by omega)]; omega) | (simp only [w64_eq]; omega))) (by omega)).2.2 | (simp <;> omega))) (by kernel_rfl) (by kernel_rfl) ?_
  refine TL.val (sV (Instr.indexAt 46 (.slice A_p p.length c_p) (.int .i64 ((w64 (i + 1)).tmod (p.length : Int))))) (some 11) (.pointer (some ((A_p.getD noAddr).add (((w64 (i + 1)).tmod (p.length : Int)).toNat * 2)))) [(4, .pointer (some ⟨b1, 0, none⟩)), (11, .pointer (some ((A_p.getD noAddr).add (((w64 (i + 1)).tmod (p.length : Int)).toNat * 2))))] (fun w hM => run_index (h_p.sat hM) (by simp) (by kernel_rfl) (by first | omega | (simp only [List.length_drop]; omega) | (simp only [w64_eq]; omega) | exact (tm_in (by (first | (rw [w64_id (by omega)]; omega) | (simp only [w64_eq]; omega))) (by omega)).1 | exact (tm_in (by (first | (rw [w64_id (by omega)]; omega) | (simp only [w64_eq]; omega))) (by omega)).2.1 | exact (tm_in (by (first | (rw [w64_id (by omega)]; omega) | (simp only [w64_eq]; omega))) (by omega)).2.2 | (simp <;> omega)) (by first | omega | (simp only [List.length_drop]; omega) | (simp only [w64_eq]; omega) | exact (tm_in (by (first | (rw [w64_id (by omega)]; omega) | (simp only [w64_eq]; omega))) (by omega)).1 | exact (tm_in (by (first | (rw [w64_id (by omega)]; omega) | (simp only [w64_eq]; omega))) (by omega)).2.1 | exact (tm_in (by (first | (rw [w64_id (by omega)]; omega) | (simp only [w64_eq]; omega))) (by omega)).2.2 | (simp <;> omega))) (by kernel_rfl) (by kernel_rfl) ?_
  refine TL.val (sV (Instr.loadAt 25 (.pointer (some ((A_p.getD noAddr).add (((w64 (i + 1)).tmod (p.length : Int)).toNat * 2)))))) (some 12) (P.v (p[((w64 (i + 1)).tmod (p.length : Int)).toNat]?.getD P.zero)) [(4, .pointer (some ⟨b1, 0, none⟩)), (12, P.v (p[((w64 (i + 1)).tmod (p.length : Int)).toNat]?.getD P.zero))] (fun w hM => run_load_agg (n := 2) (off := 0) (P.v (p[((w64 (i + 1)).tmod (p.length : Int)).toNat]?.getD P.zero)) (h_p.sat hM) (map_at (getD_at _ _ P.zero (by first | omega | (simp only [List.length_drop]; omega) | (simp only [w64_eq]; omega) | exact (tm_in (by (first | (rw [w64_id (by omega)]; omega) | (simp only [w64_eq]; omega))) (by omega)).1 | exact (tm_in (by (first | (rw [w64_id (by omega)]; omega) | (simp only [w64_eq]; omega))) (by omega)).2.1 | exact (tm_in (by (first | (rw [w64_id (by omega)]; omega) | (simp only [w64_eq]; omega))) (by omega)).2.2 | (simp <;> omega)))) (by kernel_rfl) (by kernel_rfl) (by kernel_rfl)) (by kernel_rfl) (by kernel_rfl) ?_
  refine TL.write 0 (fun _ => [(4, .pointer (some ⟨b1, 0, none⟩))]) (fun _ => [.inl (b1, .cells (P.c (p[((w64 (i + 1)).tmod (p.length : Int)).toNat]?.getD P.zero)) 25 (0, 0))]) (fun _ => ⟨by kernel_rfl, by kernel_rfl⟩) (fun _ => ?_)
  refine TL.next rfl ?_
  refine TC.ret ?_
  have e : polygon_next p i = (p[((w64 (i + 1)).tmod (p.length : Int)).toNat]?.getD P.zero) := by unfold polygon_next; exact rfl
  exact TE.ret [0] (P.v (p[((w64 (i + 1)).tmod (p.length : Int)).toNat]?.getD P.zero)) ⟨by kernel_rfl, by kernel_rfl⟩ (by rw [e]; first | done | kernel_rfl)

def polygon_between (a : P) (b_ : P) (c : P) : Bool :=
  (((decide ((imin a.X b_.X) ≤ c.X)) && (decide (c.X ≤ (imax a.X b_.X)))) && (decide ((imin a.Y b_.Y) ≤ c.Y))) && (decide (c.Y ≤ (imax a.Y b_.Y)))

set_option maxRecDepth 100000 in
theorem polygon_between_w (a : P) (b_ : P) (c : P) (w : World) : Calls Try.prog 108 #[P.v a, P.v b_, P.v c] w (Ret w (.bool (polygon_between a b_ c))) := by
  refine calls_intro (vs := [P.v a, P.v b_, P.v c]) (w := w) Try.func108 rfl Try.ntmps108 rfl ?_
  refine TC.weak [(0, P.v a), (1, P.v b_), (2, P.v c)] (by kernel_rfl) ?_
  refine TC.seq ?_
  refine TC.region ?_
  refine TL.write 0 (fun b1 => [(1, P.v b_), (2, P.v c), (3, .pointer (some ⟨b1, 0, none⟩))]) (fun b1 => [.inl (b1, .cells (P.c a) 25 (0, 0))]) (fun b1 => ⟨by kernel_rfl, by kernel_rfl⟩) (fun b1 => ?_)
  refine TL.write 0 (fun b2 => [(2, P.v c), (3, .pointer (some ⟨b1, 0, none⟩)), (4, .pointer (some ⟨b2, 0, none⟩))]) (fun b2 => [.inl (b2, .cells (P.c b_) 25 (0, 0)), .inl (b1, .cells (P.c a) 25 (0, 0))]) (fun b2 => ⟨by kernel_rfl, by kernel_rfl⟩) (fun b2 => ?_)
  refine TL.write 0 (fun b3 => [(3, .pointer (some ⟨b1, 0, none⟩)), (4, .pointer (some ⟨b2, 0, none⟩)), (5, .pointer (some ⟨b3, 0, none⟩))]) (fun b3 => [.inl (b3, .cells (P.c c) 25 (0, 0)), .inl (b2, .cells (P.c b_) 25 (0, 0)), .inl (b1, .cells (P.c a) 25 (0, 0))]) (fun b3 => ⟨by kernel_rfl, by kernel_rfl⟩) (fun b3 => ?_)
  refine TL.run 4 [] [(3, .pointer (some ⟨b1, 0, none⟩)), (4, .pointer (some ⟨b2, 0, none⟩)), (5, .pointer (some ⟨b3, 0, none⟩))] rfl ⟨by kernel_rfl, by kernel_rfl⟩ ?_
  refine TL.next rfl ?_
  refine TC.seq ?_
  refine TC.region ?_
  refine TL.run 9 [2, 1, 0] [(3, .pointer (some ⟨b1, 0, none⟩)), (4, .pointer (some ⟨b2, 0, none⟩)), (5, .pointer (some ⟨b3, 0, none⟩)), (15, .bool (decide ((imin a.X b_.X) ≤ c.X)))] rfl ⟨by kernel_rfl, by kernel_rfl⟩ ?_
  refine TL.join 15 (decide ((imin a.X b_.X) ≤ c.X)) 18 [0, 2, 1] [] (fun β => [(3, .pointer (some ⟨b1, 0, none⟩)), (4, .pointer (some ⟨b2, 0, none⟩)), (5, .pointer (some ⟨b3, 0, none⟩)), (24, .bool (β && (decide (c.X ≤ (imax a.X b_.X)))))]) (by kernel_rfl) rfl ⟨by kernel_rfl, by kernel_rfl⟩ ⟨by kernel_rfl, by kernel_rfl⟩ ?_
  refine TL.run 19 [] [(3, .pointer (some ⟨b1, 0, none⟩)), (4, .pointer (some ⟨b2, 0, none⟩)), (5, .pointer (some ⟨b3, 0, none⟩)), (25, .bool ((decide ((imin a.X b_.X) ≤ c.X)) && (decide (c.X ≤ (imax a.X b_.X)))))] rfl ⟨by kernel_rfl, by kernel_rfl⟩ ?_
  refine TL.join 25 ((decide ((imin a.X b_.X) ≤ c.X)) && (decide (c.X ≤ (imax a.X b_.X)))) 28 [2, 1, 0] [] (fun β => [(3, .pointer (some ⟨b1, 0, none⟩)), (4, .pointer (some ⟨b2, 0, none⟩)), (5, .pointer (some ⟨b3, 0, none⟩)), (34, .bool (β && (decide ((imin a.Y b_.Y) ≤ c.Y))))]) (by kernel_rfl) rfl ⟨by kernel_rfl, by kernel_rfl⟩ ⟨by kernel_rfl, by kernel_rfl⟩ ?_
  refine TL.run 29 [] [(3, .pointer (some ⟨b1, 0, none⟩)), (4, .pointer (some ⟨b2, 0, none⟩)), (5, .pointer (some ⟨b3, 0, none⟩)), (35, .bool (((decide ((imin a.X b_.X) ≤ c.X)) && (decide (c.X ≤ (imax a.X b_.X)))) && (decide ((imin a.Y b_.Y) ≤ c.Y))))] rfl ⟨by kernel_rfl, by kernel_rfl⟩ ?_
  refine TL.join 35 (((decide ((imin a.X b_.X) ≤ c.X)) && (decide (c.X ≤ (imax a.X b_.X)))) && (decide ((imin a.Y b_.Y) ≤ c.Y))) 38 [0, 2, 1] [] (fun β => [(44, .bool (β && (decide (c.Y ≤ (imax a.Y b_.Y)))))]) (by kernel_rfl) rfl ⟨by kernel_rfl, by kernel_rfl⟩ ⟨by kernel_rfl, by kernel_rfl⟩ ?_
  refine TL.run 39 [] [(6, .bool ((((decide ((imin a.X b_.X) ≤ c.X)) && (decide (c.X ≤ (imax a.X b_.X)))) && (decide ((imin a.Y b_.Y) ≤ c.Y))) && (decide (c.Y ≤ (imax a.Y b_.Y)))))] rfl ⟨by kernel_rfl, by kernel_rfl⟩ ?_
  refine TL.next rfl ?_
  refine TC.ret ?_
  have e : polygon_between a b_ c = ((((decide ((imin a.X b_.X) ≤ c.X)) && (decide (c.X ≤ (imax a.X b_.X)))) && (decide ((imin a.Y b_.Y) ≤ c.Y))) && (decide (c.Y ≤ (imax a.Y b_.Y)))) := by unfold polygon_between; exact rfl
  exact TE.ret [] (.bool ((((decide ((imin a.X b_.X) ≤ c.X)) && (decide (c.X ≤ (imax a.X b_.X)))) && (decide ((imin a.Y b_.Y) ≤ c.Y))) && (decide (c.Y ≤ (imax a.Y b_.Y))))) ⟨by kernel_rfl, by kernel_rfl⟩ (by rw [e]; first | done | kernel_rfl)

def polygon_on (a : P) (b_ : P) (c : P) : Bool :=
  let r1 := plane_Turn a b_ c
  cond (r1 == 0) (
    let r2 := polygon_between a b_ c
    r2) (
    false)

set_option maxRecDepth 100000 in
theorem polygon_on_w (a : P) (b_ : P) (c : P) (w : World) : Calls Try.prog 91 #[P.v a, P.v b_, P.v c] w (Ret w (.bool (polygon_on a b_ c))) := by
  refine calls_intro (vs := [P.v a, P.v b_, P.v c]) (w := w) Try.func91 rfl Try.ntmps91 rfl ?_
  refine TC.weak [(0, P.v a), (1, P.v b_), (2, P.v c)] (by kernel_rfl) ?_
  refine TC.seq ?_
  refine TC.region ?_
  refine TL.write 0 (fun b1 => [(1, P.v b_), (2, P.v c), (3, .pointer (some ⟨b1, 0, none⟩))]) (fun b1 => [.inl (b1, .cells (P.c a) 25 (0, 0))]) (fun b1 => ⟨by kernel_rfl, by kernel_rfl⟩) (fun b1 => ?_)
  refine TL.write 0 (fun b2 => [(2, P.v c), (3, .pointer (some ⟨b1, 0, none⟩)), (4, .pointer (some ⟨b2, 0, none⟩))]) (fun b2 => [.inl (b2, .cells (P.c b_) 25 (0, 0)), .inl (b1, .cells (P.c a) 25 (0, 0))]) (fun b2 => ⟨by kernel_rfl, by kernel_rfl⟩) (fun b2 => ?_)
  refine TL.write 0 (fun b3 => [(3, .pointer (some ⟨b1, 0, none⟩)), (4, .pointer (some ⟨b2, 0, none⟩)), (5, .pointer (some ⟨b3, 0, none⟩))]) (fun b3 => [.inl (b3, .cells (P.c c) 25 (0, 0)), .inl (b2, .cells (P.c b_) 25 (0, 0)), .inl (b1, .cells (P.c a) 25 (0, 0))]) (fun b3 => ⟨by kernel_rfl, by kernel_rfl⟩) (fun b3 => ?_)
  refine TL.run 4 [] [(3, .pointer (some ⟨b1, 0, none⟩)), (4, .pointer (some ⟨b2, 0, none⟩)), (5, .pointer (some ⟨b3, 0, none⟩))] rfl ⟨by kernel_rfl, by kernel_rfl⟩ ?_
  refine TL.next rfl ?_
  refine TC.seq ?_
  refine TC.region ?_
  refine TL.run 3 [2, 1, 0] [(3, .pointer (some ⟨b1, 0, none⟩)), (4, .pointer (some ⟨b2, 0, none⟩)), (5, .pointer (some ⟨b3, 0, none⟩)), (7, P.v a), (8, P.v b_), (9, P.v c)] rfl ⟨by kernel_rfl, by kernel_rfl⟩ ?_
  refine TL.call (some 10) [(3, .pointer (some ⟨b1, 0, none⟩)), (4, .pointer (some ⟨b2, 0, none⟩)), (5, .pointer (some ⟨b3, 0, none⟩)), (10, .int .i64 (plane_Turn a b_ c))] (fun w _ => plane_Turn_w a b_ c w) (by kernel_rfl) (by kernel_rfl) ?_
  generalize hr1 : plane_Turn a b_ c = r1
  refine TL.run 6 [] [(3, .pointer (some ⟨b1, 0, none⟩)), (4, .pointer (some ⟨b2, 0, none⟩)), (5, .pointer (some ⟨b3, 0, none⟩)), (12, .bool (r1 == 0))] rfl ⟨by kernel_rfl, by kernel_rfl⟩ ?_
  refine TL.split 12 (r1 == 0) (by kernel_rfl) (fun h1 => ?_) (fun h1 => ?_)
  · refine TL.run 9 [2, 1, 0] [(12, .bool true), (13, P.v a), (14, P.v b_), (15, P.v c)] rfl ⟨by kernel_rfl, by kernel_rfl⟩ ?_
    refine TL.call (some 16) [(12, .bool true), (16, .bool ((polygon_between a b_ c)))] (fun w _ => polygon_between_w a b_ c w) (by kernel_rfl) (by kernel_rfl) ?_
    generalize hr2 : polygon_between a b_ c = r2
    refine TL.run 12 [] [(6, .bool r2)] rfl ⟨by kernel_rfl, by kernel_rfl⟩ ?_
    refine TL.next rfl ?_
    refine TC.ret ?_
    have e : polygon_on a b_ c = r2 := by subst hr1 hr2; unfold polygon_on; exact cond_t h1 (rfl)
    exact TE.ret [] (.bool r2) ⟨by kernel_rfl, by kernel_rfl⟩ (by rw [e]; first | done | kernel_rfl)
  · refine TL.run 12 [] [(6, .bool false)] rfl ⟨by kernel_rfl, by kernel_rfl⟩ ?_
    refine TL.next rfl ?_
    refine TC.ret ?_
    have e : polygon_on a b_ c = false := by subst hr1; unfold polygon_on; exact cond_f h1 (rfl)
    exact TE.ret [] (.bool false) ⟨by kernel_rfl, by kernel_rfl⟩ (by rw [e]; first | done | kernel_rfl)

def polygon_crosses (a : P) (b_ : P) (c : P) (d : P) : Bool :=
  let r1 := plane_Turn a b_ c
  let r2 := plane_Turn a b_ d
  cond (decide ((w64 (r1 * r2)) < 0)) (
    let r3 := plane_Turn c d a
    let r4 := plane_Turn c d b_
    decide ((w64 (r3 * r4)) < 0)) (
    false)

set_option maxRecDepth 100000 in
theorem polygon_crosses_w (a : P) (b_ : P) (c : P) (d : P) (w : World) : Calls Try.prog 92 #[P.v a, P.v b_, P.v c, P.v d] w (Ret w (.bool (polygon_crosses a b_ c d))) := by
  refine calls_intro (vs := [P.v a, P.v b_, P.v c, P.v d]) (w := w) Try.func92 rfl Try.ntmps92 rfl ?_
  refine TC.weak [(0, P.v a), (1, P.v b_), (2, P.v c), (3, P.v d)] (by kernel_rfl) ?_
  refine TC.seq ?_
  refine TC.region ?_
  refine TL.write 0 (fun b1 => [(1, P.v b_), (2, P.v c), (3, P.v d), (4, .pointer (some ⟨b1, 0, none⟩))]) (fun b1 => [.inl (b1, .cells (P.c a) 25 (0, 0))]) (fun b1 => ⟨by kernel_rfl, by kernel_rfl⟩) (fun b1 => ?_)
  refine TL.write 0 (fun b2 => [(2, P.v c), (3, P.v d), (4, .pointer (some ⟨b1, 0, none⟩)), (5, .pointer (some ⟨b2, 0, none⟩))]) (fun b2 => [.inl (b2, .cells (P.c b_) 25 (0, 0)), .inl (b1, .cells (P.c a) 25 (0, 0))]) (fun b2 => ⟨by kernel_rfl, by kernel_rfl⟩) (fun b2 => ?_)
  refine TL.write 0 (fun b3 => [(3, P.v d), (4, .pointer (some ⟨b1, 0, none⟩)), (5, .pointer (some ⟨b2, 0, none⟩)), (6, .pointer (some ⟨b3, 0, none⟩))]) (fun b3 => [.inl (b3, .cells (P.c c) 25 (0, 0)), .inl (b2, .cells (P.c b_) 25 (0, 0)), .inl (b1, .cells (P.c a) 25 (0, 0))]) (fun b3 => ⟨by kernel_rfl, by kernel_rfl⟩) (fun b3 => ?_)
  refine TL.write 0 (fun b4 => [(4, .pointer (some ⟨b1, 0, none⟩)), (5, .pointer (some ⟨b2, 0, none⟩)), (6, .pointer (some ⟨b3, 0, none⟩)), (7, .pointer (some ⟨b4, 0, none⟩))]) (fun b4 => [.inl (b4, .cells (P.c d) 25 (0, 0)), .inl (b3, .cells (P.c c) 25 (0, 0)), .inl (b2, .cells (P.c b_) 25 (0, 0)), .inl (b1, .cells (P.c a) 25 (0, 0))]) (fun b4 => ⟨by kernel_rfl, by kernel_rfl⟩) (fun b4 => ?_)
  refine TL.run 5 [] [(4, .pointer (some ⟨b1, 0, none⟩)), (5, .pointer (some ⟨b2, 0, none⟩)), (6, .pointer (some ⟨b3, 0, none⟩)), (7, .pointer (some ⟨b4, 0, none⟩))] rfl ⟨by kernel_rfl, by kernel_rfl⟩ ?_
  refine TL.next rfl ?_
  refine TC.seq ?_
  refine TC.draw 23 (by kernel_rfl) (by kernel_rfl) (by kernel_rfl) ?_
  refine TQ.run 3 [3, 2, 1] [(4, .pointer (some ⟨b1, 0, none⟩)), (5, .pointer (some ⟨b2, 0, none⟩)), (6, .pointer (some ⟨b3, 0, none⟩)), (7, .pointer (some ⟨b4, 0, none⟩)), (9, P.v a), (10, P.v b_), (11, P.v c)] rfl ⟨by kernel_rfl, by kernel_rfl⟩ ?_
  refine TQ.call (some 12) [(4, .pointer (some ⟨b1, 0, none⟩)), (5, .pointer (some ⟨b2, 0, none⟩)), (6, .pointer (some ⟨b3, 0, none⟩)), (7, .pointer (some ⟨b4, 0, none⟩)), (12, .int .i64 (plane_Turn a b_ c))] (fun w _ => plane_Turn_w a b_ c w) rfl (by kernel_rfl) (by kernel_rfl) ?_
  generalize hr1 : plane_Turn a b_ c = r1
  refine TQ.run 7 [3, 2, 0] [(4, .pointer (some ⟨b1, 0, none⟩)), (5, .pointer (some ⟨b2, 0, none⟩)), (6, .pointer (some ⟨b3, 0, none⟩)), (7, .pointer (some ⟨b4, 0, none⟩)), (12, .int .i64 r1), (13, P.v a), (14, P.v b_), (15, P.v d)] rfl ⟨by kernel_rfl, by kernel_rfl⟩ ?_
  refine TQ.call (some 16) [(4, .pointer (some ⟨b1, 0, none⟩)), (5, .pointer (some ⟨b2, 0, none⟩)), (6, .pointer (some ⟨b3, 0, none⟩)), (7, .pointer (some ⟨b4, 0, none⟩)), (12, .int .i64 r1), (16, .int .i64 (plane_Turn a b_ d))] (fun w _ => plane_Turn_w a b_ d w) rfl (by kernel_rfl) (by kernel_rfl) ?_
  generalize hr2 : plane_Turn a b_ d = r2
  refine TQ.run 11 [] [(4, .pointer (some ⟨b1, 0, none⟩)), (5, .pointer (some ⟨b2, 0, none⟩)), (6, .pointer (some ⟨b3, 0, none⟩)), (7, .pointer (some ⟨b4, 0, none⟩)), (19, .bool (decide ((w64 (r1 * r2)) < 0)))] rfl ⟨by kernel_rfl, by kernel_rfl⟩ ?_
  refine TQ.split 19 (decide ((w64 (r1 * r2)) < 0)) (by kernel_rfl) (fun h1 => ?_) (fun h1 => ?_)
  · refine TQ.run 14 [1, 0, 3] [(5, .pointer (some ⟨b2, 0, none⟩)), (6, .pointer (some ⟨b3, 0, none⟩)), (7, .pointer (some ⟨b4, 0, none⟩)), (19, .bool true), (20, P.v c), (21, P.v d), (22, P.v a)] rfl ⟨by kernel_rfl, by kernel_rfl⟩ ?_
    refine TQ.call (some 23) [(5, .pointer (some ⟨b2, 0, none⟩)), (6, .pointer (some ⟨b3, 0, none⟩)), (7, .pointer (some ⟨b4, 0, none⟩)), (19, .bool true), (23, .int .i64 (plane_Turn c d a))] (fun w _ => plane_Turn_w c d a w) rfl (by kernel_rfl) (by kernel_rfl) ?_
    generalize hr3 : plane_Turn c d a = r3
    refine TQ.run 18 [1, 0, 2] [(19, .bool true), (23, .int .i64 r3), (24, P.v c), (25, P.v d), (26, P.v b_)] rfl ⟨by kernel_rfl, by kernel_rfl⟩ ?_
    refine TQ.call (some 27) [(19, .bool true), (23, .int .i64 r3), (27, .int .i64 (plane_Turn c d b_))] (fun w _ => plane_Turn_w c d b_ w) rfl (by kernel_rfl) (by kernel_rfl) ?_
    generalize hr4 : plane_Turn c d b_ = r4
    refine TQ.run 23 [] [(8, .bool (decide ((w64 (r3 * r4)) < 0)))] rfl ⟨by kernel_rfl, by kernel_rfl⟩ ?_
    refine TQ.next rfl ?_
    refine TC.ret ?_
    have e : polygon_crosses a b_ c d = (decide ((w64 (r3 * r4)) < 0)) := by subst hr1 hr2 hr3 hr4; unfold polygon_crosses; exact cond_t h1 (rfl)
    exact TE.ret [] (.bool (decide ((w64 (r3 * r4)) < 0))) ⟨by kernel_rfl, by kernel_rfl⟩ (by rw [e]; first | done | kernel_rfl)
  · refine TQ.run 23 [] [(8, .bool false)] rfl ⟨by kernel_rfl, by kernel_rfl⟩ ?_
    refine TQ.next rfl ?_
    refine TC.ret ?_
    have e : polygon_crosses a b_ c d = false := by subst hr1 hr2; unfold polygon_crosses; exact cond_f h1 (rfl)
    exact TE.ret [] (.bool false) ⟨by kernel_rfl, by kernel_rfl⟩ (by rw [e]; first | done | kernel_rfl)

def polygon_Common (a : P) (b_ : P) (c : P) (d : P) : Bool :=
  let r1 := polygon_crosses a b_ c d
  cond r1 (
    true) (
    let r2 := polygon_on a b_ c
    cond r2 (
      true) (
      let r3 := polygon_on a b_ d
      cond r3 (
        true) (
        let r4 := polygon_on c d a
        cond r4 (
          true) (
          let r5 := polygon_on c d b_
          r5))))

set_option maxRecDepth 100000 in
theorem polygon_Common_w (a : P) (b_ : P) (c : P) (d : P) (w : World) : Calls Try.prog 63 #[P.v a, P.v b_, P.v c, P.v d] w (Ret w (.bool (polygon_Common a b_ c d))) := by
  refine calls_intro (vs := [P.v a, P.v b_, P.v c, P.v d]) (w := w) Try.func63 rfl Try.ntmps63 rfl ?_
  refine TC.weak [(0, P.v a), (1, P.v b_), (2, P.v c), (3, P.v d)] (by kernel_rfl) ?_
  refine TC.seq ?_
  refine TC.region ?_
  refine TL.write 0 (fun b1 => [(1, P.v b_), (2, P.v c), (3, P.v d), (4, .pointer (some ⟨b1, 0, none⟩))]) (fun b1 => [.inl (b1, .cells (P.c a) 25 (0, 0))]) (fun b1 => ⟨by kernel_rfl, by kernel_rfl⟩) (fun b1 => ?_)
  refine TL.write 0 (fun b2 => [(2, P.v c), (3, P.v d), (4, .pointer (some ⟨b1, 0, none⟩)), (5, .pointer (some ⟨b2, 0, none⟩))]) (fun b2 => [.inl (b2, .cells (P.c b_) 25 (0, 0)), .inl (b1, .cells (P.c a) 25 (0, 0))]) (fun b2 => ⟨by kernel_rfl, by kernel_rfl⟩) (fun b2 => ?_)
  refine TL.write 0 (fun b3 => [(3, P.v d), (4, .pointer (some ⟨b1, 0, none⟩)), (5, .pointer (some ⟨b2, 0, none⟩)), (6, .pointer (some ⟨b3, 0, none⟩))]) (fun b3 => [.inl (b3, .cells (P.c c) 25 (0, 0)), .inl (b2, .cells (P.c b_) 25 (0, 0)), .inl (b1, .cells (P.c a) 25 (0, 0))]) (fun b3 => ⟨by kernel_rfl, by kernel_rfl⟩) (fun b3 => ?_)
  refine TL.write 0 (fun b4 => [(4, .pointer (some ⟨b1, 0, none⟩)), (5, .pointer (some ⟨b2, 0, none⟩)), (6, .pointer (some ⟨b3, 0, none⟩)), (7, .pointer (some ⟨b4, 0, none⟩))]) (fun b4 => [.inl (b4, .cells (P.c d) 25 (0, 0)), .inl (b3, .cells (P.c c) 25 (0, 0)), .inl (b2, .cells (P.c b_) 25 (0, 0)), .inl (b1, .cells (P.c a) 25 (0, 0))]) (fun b4 => ⟨by kernel_rfl, by kernel_rfl⟩) (fun b4 => ?_)
  refine TL.run 5 [] [(4, .pointer (some ⟨b1, 0, none⟩)), (5, .pointer (some ⟨b2, 0, none⟩)), (6, .pointer (some ⟨b3, 0, none⟩)), (7, .pointer (some ⟨b4, 0, none⟩))] rfl ⟨by kernel_rfl, by kernel_rfl⟩ ?_
  refine TL.next rfl ?_
  refine TC.seq ?_
  refine TC.region ?_
  refine TL.run 4 [3, 2, 1, 0] [(4, .pointer (some ⟨b1, 0, none⟩)), (5, .pointer (some ⟨b2, 0, none⟩)), (6, .pointer (some ⟨b3, 0, none⟩)), (7, .pointer (some ⟨b4, 0, none⟩)), (9, P.v a), (10, P.v b_), (11, P.v c), (12, P.v d)] rfl ⟨by kernel_rfl, by kernel_rfl⟩ ?_
  refine TL.call (some 13) [(4, .pointer (some ⟨b1, 0, none⟩)), (5, .pointer (some ⟨b2, 0, none⟩)), (6, .pointer (some ⟨b3, 0, none⟩)), (7, .pointer (some ⟨b4, 0, none⟩)), (13, .bool ((polygon_crosses a b_ c d)))] (fun w _ => polygon_crosses_w a b_ c d w) (by kernel_rfl) (by kernel_rfl) ?_
  generalize hr1 : polygon_crosses a b_ c d = r1
  refine TL.run 6 [] [(4, .pointer (some ⟨b1, 0, none⟩)), (5, .pointer (some ⟨b2, 0, none⟩)), (6, .pointer (some ⟨b3, 0, none⟩)), (7, .pointer (some ⟨b4, 0, none⟩)), (14, .bool r1)] rfl ⟨by kernel_rfl, by kernel_rfl⟩ ?_
  refine TL.split 14 r1 (by kernel_rfl) (fun h1 => ?_) (fun h1 => ?_)
  · refine TL.run 30 [] [(8, .bool true)] rfl ⟨by kernel_rfl, by kernel_rfl⟩ ?_
    refine TL.next rfl ?_
    refine TC.ret ?_
    have e : polygon_Common a b_ c d = true := by subst hr1; unfold polygon_Common; exact cond_t h1 (rfl)
    exact TE.ret [] (.bool true) ⟨by kernel_rfl, by kernel_rfl⟩ (by rw [e]; first | done | kernel_rfl)
  · refine TL.run 9 [3, 2, 1] [(4, .pointer (some ⟨b1, 0, none⟩)), (5, .pointer (some ⟨b2, 0, none⟩)), (6, .pointer (some ⟨b3, 0, none⟩)), (7, .pointer (some ⟨b4, 0, none⟩)), (14, .bool false), (15, P.v a), (16, P.v b_), (17, P.v c)] rfl ⟨by kernel_rfl, by kernel_rfl⟩ ?_
    refine TL.call (some 18) [(4, .pointer (some ⟨b1, 0, none⟩)), (5, .pointer (some ⟨b2, 0, none⟩)), (6, .pointer (some ⟨b3, 0, none⟩)), (7, .pointer (some ⟨b4, 0, none⟩)), (14, .bool false), (18, .bool ((polygon_on a b_ c)))] (fun w _ => polygon_on_w a b_ c w) (by kernel_rfl) (by kernel_rfl) ?_
    generalize hr2 : polygon_on a b_ c = r2
    refine TL.run 12 [] [(4, .pointer (some ⟨b1, 0, none⟩)), (5, .pointer (some ⟨b2, 0, none⟩)), (6, .pointer (some ⟨b3, 0, none⟩)), (7, .pointer (some ⟨b4, 0, none⟩)), (20, .bool r2)] rfl ⟨by kernel_rfl, by kernel_rfl⟩ ?_
    refine TL.split 20 r2 (by kernel_rfl) (fun h2 => ?_) (fun h2 => ?_)
    · refine TL.run 30 [] [(8, .bool true)] rfl ⟨by kernel_rfl, by kernel_rfl⟩ ?_
      refine TL.next rfl ?_
      refine TC.ret ?_
      have e : polygon_Common a b_ c d = true := by subst hr1 hr2; unfold polygon_Common; exact cond_f h1 (cond_t h2 (rfl))
      exact TE.ret [] (.bool true) ⟨by kernel_rfl, by kernel_rfl⟩ (by rw [e]; first | done | kernel_rfl)
    · refine TL.run 15 [3, 2, 0] [(4, .pointer (some ⟨b1, 0, none⟩)), (5, .pointer (some ⟨b2, 0, none⟩)), (6, .pointer (some ⟨b3, 0, none⟩)), (7, .pointer (some ⟨b4, 0, none⟩)), (20, .bool false), (21, P.v a), (22, P.v b_), (23, P.v d)] rfl ⟨by kernel_rfl, by kernel_rfl⟩ ?_
      refine TL.call (some 24) [(4, .pointer (some ⟨b1, 0, none⟩)), (5, .pointer (some ⟨b2, 0, none⟩)), (6, .pointer (some ⟨b3, 0, none⟩)), (7, .pointer (some ⟨b4, 0, none⟩)), (20, .bool false), (24, .bool ((polygon_on a b_ d)))] (fun w _ => polygon_on_w a b_ d w) (by kernel_rfl) (by kernel_rfl) ?_
      generalize hr3 : polygon_on a b_ d = r3
      refine TL.run 18 [] [(4, .pointer (some ⟨b1, 0, none⟩)), (5, .pointer (some ⟨b2, 0, none⟩)), (6, .pointer (some ⟨b3, 0, none⟩)), (7, .pointer (some ⟨b4, 0, none⟩)), (26, .bool r3)] rfl ⟨by kernel_rfl, by kernel_rfl⟩ ?_
      refine TL.split 26 r3 (by kernel_rfl) (fun h3 => ?_) (fun h3 => ?_)
      · refine TL.run 30 [] [(8, .bool true)] rfl ⟨by kernel_rfl, by kernel_rfl⟩ ?_
        refine TL.next rfl ?_
        refine TC.ret ?_
        have e : polygon_Common a b_ c d = true := by subst hr1 hr2 hr3; unfold polygon_Common; exact cond_f h1 (cond_f h2 (cond_t h3 (rfl)))
        exact TE.ret [] (.bool true) ⟨by kernel_rfl, by kernel_rfl⟩ (by rw [e]; first | done | kernel_rfl)
      · refine TL.run 21 [1, 0, 3] [(5, .pointer (some ⟨b2, 0, none⟩)), (6, .pointer (some ⟨b3, 0, none⟩)), (7, .pointer (some ⟨b4, 0, none⟩)), (26, .bool false), (27, P.v c), (28, P.v d), (29, P.v a)] rfl ⟨by kernel_rfl, by kernel_rfl⟩ ?_
        refine TL.call (some 30) [(5, .pointer (some ⟨b2, 0, none⟩)), (6, .pointer (some ⟨b3, 0, none⟩)), (7, .pointer (some ⟨b4, 0, none⟩)), (26, .bool false), (30, .bool ((polygon_on c d a)))] (fun w _ => polygon_on_w c d a w) (by kernel_rfl) (by kernel_rfl) ?_
        generalize hr4 : polygon_on c d a = r4
        refine TL.run 24 [] [(5, .pointer (some ⟨b2, 0, none⟩)), (6, .pointer (some ⟨b3, 0, none⟩)), (7, .pointer (some ⟨b4, 0, none⟩)), (32, .bool r4)] rfl ⟨by kernel_rfl, by kernel_rfl⟩ ?_
        refine TL.split 32 r4 (by kernel_rfl) (fun h4 => ?_) (fun h4 => ?_)
        · refine TL.run 30 [] [(8, .bool true)] rfl ⟨by kernel_rfl, by kernel_rfl⟩ ?_
          refine TL.next rfl ?_
          refine TC.ret ?_
          have e : polygon_Common a b_ c d = true := by subst hr1 hr2 hr3 hr4; unfold polygon_Common; exact cond_f h1 (cond_f h2 (cond_f h3 (cond_t h4 (rfl))))
          exact TE.ret [] (.bool true) ⟨by kernel_rfl, by kernel_rfl⟩ (by rw [e]; first | done | kernel_rfl)
        · refine TL.run 27 [1, 0, 2] [(32, .bool false), (33, P.v c), (34, P.v d), (35, P.v b_)] rfl ⟨by kernel_rfl, by kernel_rfl⟩ ?_
          refine TL.call (some 36) [(32, .bool false), (36, .bool ((polygon_on c d b_)))] (fun w _ => polygon_on_w c d b_ w) (by kernel_rfl) (by kernel_rfl) ?_
          generalize hr5 : polygon_on c d b_ = r5
          refine TL.run 30 [] [(8, .bool r5)] rfl ⟨by kernel_rfl, by kernel_rfl⟩ ?_
          refine TL.next rfl ?_
          refine TC.ret ?_
          have e : polygon_Common a b_ c d = r5 := by subst hr1 hr2 hr3 hr4 hr5; unfold polygon_Common; exact cond_f h1 (cond_f h2 (cond_f h3 (cond_f h4 (rfl))))
          exact TE.ret [] (.bool r5) ⟨by kernel_rfl, by kernel_rfl⟩ (by rw [e]; first | done | kernel_rfl)

def polygon_twice_L1 (p : List P) : List P → Nat → Int → Int
  | [], _, n => n
  | x :: xs, k, n => let r1 := polygon_next p (k : Int)
    let r2 := plane_Cross x r1
    polygon_twice_L1 p xs (k + 1) (w64 (n + r2))
def polygon_twice (p : List P) : Int :=
  bindv (polygon_twice_L1 p p 0 0) (fun n_2 =>
    n_2)

set_option maxRecDepth 100000 in
theorem polygon_twice_w (A_p : Option Addr) (c_p : Nat) (p : List P) (w : World) (h_p : Rd w 2 A_p (p.map P.c)) (hc_p : p.length ≤ c_p) : Calls Try.prog 64 #[.slice A_p p.length c_p] w (Ret w (.int .i64 (polygon_twice p))) := by
  have s_p := h_p.short; rw [List.length_map] at s_p
  refine calls_intro (vs := [.slice A_p p.length c_p]) (w := w) Try.func64 rfl Try.ntmps64 rfl ?_
  refine TC.weak [(0, .slice A_p p.length c_p)] (by kernel_rfl) ?_
  refine TC.seq ?_
  refine TC.region ?_
  refine TL.run 1 [] [(0, .slice A_p p.length c_p)] rfl ⟨by kernel_rfl, by kernel_rfl⟩ ?_
  refine TL.next rfl ?_
  refine TC.seq ?_
  refine TC.region ?_
  refine TL.run 1 [] [(0, .slice A_p p.length c_p), (3, .int .i64 0)] rfl ⟨by kernel_rfl, by kernel_rfl⟩ ?_
  refine TL.next rfl ?_
  refine TC.seq ?_
  refine TC.seq ?_
  refine TC.region ?_
  refine TL.run 3 [] [(0, .slice A_p p.length c_p), (3, .int .i64 0), (6, .int .i64 (p.length : Int)), (7, .int .i64 0)] rfl ⟨by kernel_rfl, by kernel_rfl⟩ ?_
  refine TL.next rfl ?_
  refine TC.weak [(0, .slice A_p p.length c_p), (3, .int .i64 0), (6, .int .i64 (p.length : Int)), (7, .int .i64 0)] (by kernel_rfl) ?_
  obtain ⟨R1, hR⟩ : ∃ R, R = polygon_twice_L1 p p 0 0 := ⟨_, rfl⟩
  refine TC.cut (S := Int) (fun n_2 => [(3, .int .i64 n_2)]) (fun n_2 => []) (fun n_2 => R1 = n_2) ?_ ?_
  · refine TC.block ?_
    refine TC.loop (X := Nat × Int) (fun (k, n) => [(0, .slice A_p p.length c_p), (3, .int .i64 n), (6, .int .i64 (p.length : Int)), (7, .int .i64 (k : Int))]) (fun (k, n) => []) (fun (k, n) => p.length - k) (fun (k, n) => k ≤ p.length ∧ R1 = polygon_twice_L1 p (p.drop k) k n) ?_ (0, 0) ⟨Nat.zero_le _, hR⟩
    rintro ⟨k, n⟩ ⟨hk, hI⟩
    refine TC.seq ?_
    refine TC.region ?_
    refine TL.run 1 [] [(0, .slice A_p p.length c_p), (3, .int .i64 n), (6, .int .i64 (p.length : Int)), (7, .int .i64 (k : Int)), (8, .bool (decide ((k : Int) < (p.length : Int))))] rfl ⟨by kernel_rfl, by kernel_rfl⟩ ?_
    refine TL.next rfl ?_
    refine TC.seq ?_
    refine TC.cond (decide ((k : Int) < (p.length : Int))) rfl (by kernel_rfl) (fun h1 => ?_) (fun h1 => ?_)
    · have hlt : k < p.length := by have := of_decide_eq_true h1; first | omega | (simp at this; omega)
      obtain ⟨x, hx⟩ : ∃ x, p[k]? = some x := ⟨_, List.getElem?_eq_getElem hlt⟩
      have hd := drop_at hx
      refine TC.skip ?_
      refine TE.next ?_
      refine TC.seq ?_
      refine TC.block ?_
      refine TC.seq ?_
      refine TC.region ?_
      refine TL.run 2 [] [(0, .slice A_p p.length c_p), (3, .int .i64 n), (4, .int .i64 (k : Int)), (6, .int .i64 (p.length : Int)), (7, .int .i64 (k : Int))] rfl ⟨by kernel_rfl, by kernel_rfl⟩ ?_
      refine TL.next rfl ?_
      refine TC.draw 11 (by kernel_rfl) (by kernel_rfl) (by kernel_rfl) ?_
      refine TQ.run 3 [] [(0, .slice A_p p.length c_p), (4, .int .i64 (k : Int)), (6, .int .i64 (p.length : Int)), (7, .int .i64 (k : Int)), (10, .int .i64 n), (11, .slice A_p p.length c_p), (12, .int .i64 (k : Int))] rfl ⟨by kernel_rfl, by kernel_rfl⟩ ?_
      refine TQ.val (sV (Instr.indexAt 46 (.slice A_p p.length c_p) (.int .i64 (k : Int)))) (some 13) (.pointer (some ((A_p.getD noAddr).add (k * 2)))) [(0, .slice A_p p.length c_p), (4, .int .i64 (k : Int)), (6, .int .i64 (p.length : Int)), (7, .int .i64 (k : Int)), (10, .int .i64 n), (13, .pointer (some ((A_p.getD noAddr).add (k * 2))))] (fun w hM => run_index (h_p.sat hM) (by simp) (by kernel_rfl) (by first | omega | (simp only [List.length_drop]; omega) | (simp only [w64_eq]; omega) | exact (tm_in (by (first | (rw [w64_id (by omega)]; omega) | (simp only [w64_eq]; omega))) (by omega)).1 | exact (tm_in (by (first | (rw [w64_id (by omega)]; omega) | (simp only [w64_eq]; omega))) (by omega)).2.1 | exact (tm_in (by (first | (rw [w64_id (by omega)]; omega) | (simp only [w64_eq]; omega))) (by omega)).2.2 | (simp <;> omega)) (by first | omega | (simp only [List.length_drop]; omega) | (simp only [w64_eq]; omega) | exact (tm_in (by (first | (rw [w64_id (by omega)]; omega) | (simp only [w64_eq]; omega))) (by omega)).1 | exact (tm_in (by (first | (rw [w64_id (by omega)]; omega) | (simp only [w64_eq]; omega))) (by omega)).2.1 | exact (tm_in (by (first | (rw [w64_id (by omega)]; omega) | (simp only [w64_eq]; omega))) (by omega)).2.2 | (simp <;> omega))) rfl (by kernel_rfl) (by kernel_rfl) ?_
      refine TQ.val (sV (Instr.loadAt 25 (.pointer (some ((A_p.getD noAddr).add (k * 2)))))) (some 14) (P.v x) [(0, .slice A_p p.length c_p), (4, .int .i64 (k : Int)), (6, .int .i64 (p.length : Int)), (7, .int .i64 (k : Int)), (10, .int .i64 n), (14, P.v x)] (fun w hM => run_load_agg (n := 2) (off := 0) (P.v x) (h_p.sat hM) (map_at hx) (by kernel_rfl) (by kernel_rfl) (by kernel_rfl)) rfl (by kernel_rfl) (by kernel_rfl) ?_
      refine TQ.run 7 [] [(0, .slice A_p p.length c_p), (6, .int .i64 (p.length : Int)), (7, .int .i64 (k : Int)), (10, .int .i64 n), (14, P.v x), (15, .slice A_p p.length c_p), (16, .int .i64 (k : Int))] rfl ⟨by kernel_rfl, by kernel_rfl⟩ ?_
      refine TQ.call (some 17) [(0, .slice A_p p.length c_p), (6, .int .i64 (p.length : Int)), (7, .int .i64 (k : Int)), (10, .int .i64 n), (14, P.v x), (17, P.v (polygon_next p (k : Int)))] (fun w hM => polygon_next_w A_p c_p p (k : Int) w (h_p.sat hM) hc_p (by first | omega | (simp only [w64_eq]; omega) | (simp <;> omega)) (by first | omega | (simp only [w64_eq]; omega) | (simp <;> omega))) rfl (by kernel_rfl) (by kernel_rfl) ?_
      generalize hr1 : polygon_next p (k : Int) = r1
      refine TQ.call (some 18) [(0, .slice A_p p.length c_p), (6, .int .i64 (p.length : Int)), (7, .int .i64 (k : Int)), (10, .int .i64 n), (18, .int .i64 (plane_Cross x r1))] (fun w _ => plane_Cross_w x r1 w) rfl (by kernel_rfl) (by kernel_rfl) ?_
      generalize hr2 : plane_Cross x r1 = r2
      refine TQ.run 11 [] [(0, .slice A_p p.length c_p), (3, .int .i64 (w64 (n + r2))), (6, .int .i64 (p.length : Int)), (7, .int .i64 (k : Int))] rfl ⟨by kernel_rfl, by kernel_rfl⟩ ?_
      refine TQ.done rfl ?_
      refine TE.normal_block ?_
      refine TE.next ?_
      refine TC.region ?_
      refine TL.run 2 [] [(0, .slice A_p p.length c_p), (3, .int .i64 (w64 (n + r2))), (6, .int .i64 (p.length : Int)), (7, .int .i64 (w64 ((k : Int) + 1)))] rfl ⟨by kernel_rfl, by kernel_rfl⟩ ?_
      refine TL.done rfl ?_
      refine TE.rw 7 (.int .i64 (w64 ((k : Int) + 1))) (.int .i64 ((k + 1 : Nat) : Int)) (by kernel_rfl) (w64_cast k (by omega)) ?_
      exact TE.again (x := (k, n)) (k + 1, w64 (n + r2)) ⟨by omega, hI.trans (by subst hr1 hr2; rw [hd]; exact rfl)⟩ (by show p.length - (k + 1) < p.length - k; omega) (by kernel_rfl) (.slnil)
    · have hd : p.drop k = [] := List.drop_eq_nil_of_le (by have := of_decide_eq_false h1; first | omega | (simp at this; omega))
      refine TC.exit ?_
      refine TE.exit_then (TE.exit_then (TE.exit_same ?_))
      exact TE.cut n (hI.trans (by rw [hd]; exact rfl)) (by kernel_rfl) (.slnil)
  · rintro n_2 hJ
    refine TE.next ?_
    refine TC.seq ?_
    refine TC.region ?_
    refine TL.run 2 [] [(2, .int .i64 n_2)] rfl ⟨by kernel_rfl, by kernel_rfl⟩ ?_
    refine TL.next rfl ?_
    refine TC.ret ?_
    have e : polygon_twice p = n_2 := by unfold polygon_twice; exact bindv_eq (hR.symm.trans hJ) (rfl)
    exact TE.ret [] (.int .i64 n_2) ⟨by kernel_rfl, by kernel_rfl⟩ (by rw [e]; first | done | kernel_rfl)

def polygon_Check_L1 : List P → Nat → ((Unit) ⊕ (Int))
  | [], _ => .inl ()
  | x :: xs, k => let r1 := plane_Check x
    cond (r1 != 0) (
      .inr r1) (
      polygon_Check_L1 xs (k + 1))
def polygon_Check_L3 (p : List P) (k_2 : Nat) (x_2 : P) : Nat → Nat → ((Unit) ⊕ (Int))
  | 0, _ => .inl ()
  | m + 1, k_3 => cond (((w64 ((((k_2 : Int) + 2) + (k_3 : Int)) + 1)).tmod (p.length : Int)) != (k_2 : Int)) (
      let r4 := polygon_next p (k_2 : Int)
      let r5 := polygon_next p (((k_2 : Int) + 2) + (k_3 : Int))
      let r6 := polygon_Common x_2 r4 (p[(((k_2 : Int) + 2) + (k_3 : Int)).toNat]?.getD P.zero) r5
      cond r6 (
        .inr 3) (
        polygon_Check_L3 p k_2 x_2 m (k_3 + 1))) (
      polygon_Check_L3 p k_2 x_2 m (k_3 + 1))
def polygon_Check_L2 (p : List P) : List P → Nat → ((Unit) ⊕ (Int))
  | [], _ => .inl ()
  | x_2 :: xs, k_2 => let r2 := polygon_next p (k_2 : Int)
    let r3 := plane_Turn x_2 r2 (p[((w64 ((k_2 : Int) + 2)).tmod (p.length : Int)).toNat]?.getD P.zero)
    cond (r3 == 0) (
      .inr 3) (
      Sum.elim (fun _ =>
        polygon_Check_L2 p xs (k_2 + 1)) (fun r => .inr r) (polygon_Check_L3 p k_2 x_2 (((p.length : Int) - (w64 ((k_2 : Int) + 2))).toNat) 0))
def polygon_Check (p : List P) : Int :=
  cond (decide ((p.length : Int) > 16)) (
    2) (
    cond (decide ((p.length : Int) < 3)) (
      3) (
      Sum.elim (fun _ =>
        Sum.elim (fun _ =>
          let r7 := polygon_twice p
          cond (decide (r7 ≤ 0)) (
            3) (
            0)) (fun r => r) (polygon_Check_L2 p p 0)) (fun r => r) (polygon_Check_L1 p 0)))

set_option maxRecDepth 100000 in
theorem polygon_Check_w (A_p : Option Addr) (c_p : Nat) (p : List P) (w : World) (h_p : Rd w 2 A_p (p.map P.c)) (hc_p : p.length ≤ c_p) : Calls Try.prog 24 #[.slice A_p p.length c_p] w (Ret w (.int .i64 (polygon_Check p))) := by
  have s_p := h_p.short; rw [List.length_map] at s_p
  refine calls_intro (vs := [.slice A_p p.length c_p]) (w := w) Try.func24 rfl Try.ntmps24 rfl ?_
  refine TC.weak [(0, .slice A_p p.length c_p)] (by kernel_rfl) ?_
  refine TC.seq ?_
  refine TC.region ?_
  refine TL.run 1 [] [(0, .slice A_p p.length c_p)] rfl ⟨by kernel_rfl, by kernel_rfl⟩ ?_
  refine TL.next rfl ?_
  refine TC.seq ?_
  refine TC.region ?_
  refine TL.run 3 [] [(0, .slice A_p p.length c_p), (3, .int .i64 (p.length : Int))] rfl ⟨by kernel_rfl, by kernel_rfl⟩ ?_
  refine TL.next rfl ?_
  refine TC.seq ?_
  refine TC.block ?_
  refine TC.seq ?_
  refine TC.region ?_
  refine TL.run 3 [] [(0, .slice A_p p.length c_p), (3, .int .i64 (p.length : Int)), (11, .bool (decide ((p.length : Int) > 16)))] rfl ⟨by kernel_rfl, by kernel_rfl⟩ ?_
  refine TL.next rfl ?_
  refine TC.cond (decide ((p.length : Int) > 16)) rfl (by kernel_rfl) (fun h1 => ?_) (fun h1 => ?_)
  · refine TC.seq ?_
    refine TC.region ?_
    refine TL.run 1 [] [(2, .int .i64 2)] rfl ⟨by kernel_rfl, by kernel_rfl⟩ ?_
    refine TL.next rfl ?_
    refine TC.ret ?_
    refine TE.ret_block (TE.ret_then ?_)
    have e : polygon_Check p = 2 := by unfold polygon_Check; exact cond_t h1 (rfl)
    exact TE.ret [] (.int .i64 2) ⟨by kernel_rfl, by kernel_rfl⟩ (by rw [e]; first | done | kernel_rfl)
  · refine TC.seq ?_
    refine TC.region ?_
    refine TL.run 3 [] [(0, .slice A_p p.length c_p), (3, .int .i64 (p.length : Int)), (14, .bool (decide ((p.length : Int) < 3)))] rfl ⟨by kernel_rfl, by kernel_rfl⟩ ?_
    refine TL.next rfl ?_
    refine TC.cond (decide ((p.length : Int) < 3)) rfl (by kernel_rfl) (fun h2 => ?_) (fun h2 => ?_)
    · refine TC.seq ?_
      refine TC.region ?_
      refine TL.run 1 [] [(2, .int .i64 3)] rfl ⟨by kernel_rfl, by kernel_rfl⟩ ?_
      refine TL.next rfl ?_
      refine TC.ret ?_
      refine TE.ret_block (TE.ret_then ?_)
      have e : polygon_Check p = 3 := by unfold polygon_Check; exact cond_f h1 (cond_t h2 (rfl))
      exact TE.ret [] (.int .i64 3) ⟨by kernel_rfl, by kernel_rfl⟩ (by rw [e]; first | done | kernel_rfl)
    · refine TC.skip ?_
      refine TE.normal_block ?_
      refine TE.next ?_
      refine TC.seq ?_
      refine TC.seq ?_
      refine TC.region ?_
      refine TL.run 3 [] [(0, .slice A_p p.length c_p), (3, .int .i64 (p.length : Int)), (17, .slice A_p p.length c_p), (18, .int .i64 (p.length : Int)), (19, .int .i64 0)] rfl ⟨by kernel_rfl, by kernel_rfl⟩ ?_
      refine TL.next rfl ?_
      refine TC.weak [(0, .slice A_p p.length c_p), (3, .int .i64 (p.length : Int)), (17, .slice A_p p.length c_p), (18, .int .i64 (p.length : Int)), (19, .int .i64 0)] (by kernel_rfl) ?_
      obtain ⟨R1, hR⟩ : ∃ R, R = polygon_Check_L1 p 0 := ⟨_, rfl⟩
      refine TC.cut (S := Unit) (fun (_ : Unit) => [(0, .slice A_p p.length c_p), (3, .int .i64 (p.length : Int))]) (fun (_ : Unit) => []) (fun (_ : Unit) => R1 = .inl ()) ?_ ?_
      · refine TC.block ?_
        refine TC.loop (X := Nat) (fun k => [(0, .slice A_p p.length c_p), (3, .int .i64 (p.length : Int)), (17, .slice A_p p.length c_p), (18, .int .i64 (p.length : Int)), (19, .int .i64 (k : Int))]) (fun k => []) (fun k => p.length - k) (fun k => k ≤ p.length ∧ R1 = polygon_Check_L1 (p.drop k) k) ?_ 0 ⟨Nat.zero_le _, hR⟩
        rintro k ⟨hk, hI⟩
        refine TC.seq ?_
        refine TC.region ?_
        refine TL.run 1 [] [(0, .slice A_p p.length c_p), (3, .int .i64 (p.length : Int)), (17, .slice A_p p.length c_p), (18, .int .i64 (p.length : Int)), (19, .int .i64 (k : Int)), (20, .bool (decide ((k : Int) < (p.length : Int))))] rfl ⟨by kernel_rfl, by kernel_rfl⟩ ?_
        refine TL.next rfl ?_
        refine TC.seq ?_
        refine TC.cond (decide ((k : Int) < (p.length : Int))) rfl (by kernel_rfl) (fun h3 => ?_) (fun h3 => ?_)
        · have hlt : k < p.length := by have := of_decide_eq_true h3; first | omega | (simp at this; omega)
          obtain ⟨x, hx⟩ : ∃ x, p[k]? = some x := ⟨_, List.getElem?_eq_getElem hlt⟩
          have hd := drop_at hx
          refine TC.skip ?_
          refine TE.next ?_
          refine TC.seq ?_
          refine TC.block ?_
          refine TC.seq ?_
          refine TC.region ?_
          refine TL.val (sV (Instr.indexAt 46 (.slice A_p p.length c_p) (.int .i64 (k : Int)))) (some 21) (.pointer (some ((A_p.getD noAddr).add (k * 2)))) [(0, .slice A_p p.length c_p), (3, .int .i64 (p.length : Int)), (17, .slice A_p p.length c_p), (18, .int .i64 (p.length : Int)), (19, .int .i64 (k : Int)), (21, .pointer (some ((A_p.getD noAddr).add (k * 2))))] (fun w hM => run_index (h_p.sat hM) (by simp) (by kernel_rfl) (by have q0_ := (dec_f h1); have q1_ := (dec_f h2); first | omega | (simp only [List.length_drop]; omega) | (simp only [w64_eq]; omega) | exact (tm_in (by (first | (rw [w64_id (by omega)]; omega) | (simp only [w64_eq]; omega))) (by omega)).1 | exact (tm_in (by (first | (rw [w64_id (by omega)]; omega) | (simp only [w64_eq]; omega))) (by omega)).2.1 | exact (tm_in (by (first | (rw [w64_id (by omega)]; omega) | (simp only [w64_eq]; omega))) (by omega)).2.2 | (simp <;> omega)) (by have q0_ := (dec_f h1); have q1_ := (dec_f h2); first | omega | (simp only [List.length_drop]; omega) | (simp only [w64_eq]; omega) | exact (tm_in (by (first | (rw [w64_id (by omega)]; omega) | (simp only [w64_eq]; omega))) (by omega)).1 | exact (tm_in (by (first | (rw [w64_id (by omega)]; omega) | (simp only [w64_eq]; omega))) (by omega)).2.1 | exact (tm_in (by (first | (rw [w64_id (by omega)]; omega) | (simp only [w64_eq]; omega))) (by omega)).2.2 | (simp <;> omega))) (by kernel_rfl) (by kernel_rfl) ?_
          refine TL.val (sV (Instr.loadAt 25 (.pointer (some ((A_p.getD noAddr).add (k * 2)))))) (some 22) (P.v x) [(0, .slice A_p p.length c_p), (3, .int .i64 (p.length : Int)), (17, .slice A_p p.length c_p), (18, .int .i64 (p.length : Int)), (19, .int .i64 (k : Int)), (22, P.v x)] (fun w hM => run_load_agg (n := 2) (off := 0) (P.v x) (h_p.sat hM) (map_at hx) (by kernel_rfl) (by kernel_rfl) (by kernel_rfl)) (by kernel_rfl) (by kernel_rfl) ?_
          refine TL.write 0 (fun b1 => [(0, .slice A_p p.length c_p), (3, .int .i64 (p.length : Int)), (5, .pointer (some ⟨b1, 0, none⟩)), (17, .slice A_p p.length c_p), (18, .int .i64 (p.length : Int)), (19, .int .i64 (k : Int)), (22, P.v x)]) (fun b1 => [.inl (b1, .cells (P.c P.zero) 25 (0, 0))]) (fun b1 => ⟨by kernel_rfl, by kernel_rfl⟩) (fun b1 => ?_)
          refine TL.write 0 (fun _ => [(0, .slice A_p p.length c_p), (3, .int .i64 (p.length : Int)), (5, .pointer (some ⟨b1, 0, none⟩)), (17, .slice A_p p.length c_p), (18, .int .i64 (p.length : Int)), (19, .int .i64 (k : Int))]) (fun _ => [.inl (b1, .cells (P.c x) 25 (0, 0))]) (fun _ => ⟨by kernel_rfl, by kernel_rfl⟩) (fun _ => ?_)
          refine TL.next rfl ?_
          refine TC.seq ?_
          refine TC.region ?_
          refine TL.run 1 [0] [(0, .slice A_p p.length c_p), (3, .int .i64 (p.length : Int)), (17, .slice A_p p.length c_p), (18, .int .i64 (p.length : Int)), (19, .int .i64 (k : Int)), (23, P.v x)] rfl ⟨by kernel_rfl, by kernel_rfl⟩ ?_
          refine TL.call (some 24) [(0, .slice A_p p.length c_p), (3, .int .i64 (p.length : Int)), (17, .slice A_p p.length c_p), (18, .int .i64 (p.length : Int)), (19, .int .i64 (k : Int)), (24, .int .i64 (plane_Check x))] (fun w _ => plane_Check_w x w) (by kernel_rfl) (by kernel_rfl) ?_
          generalize hr1 : plane_Check x = r1
          refine TL.run 3 [] [(0, .slice A_p p.length c_p), (3, .int .i64 (p.length : Int)), (6, .int .i64 r1), (17, .slice A_p p.length c_p), (18, .int .i64 (p.length : Int)), (19, .int .i64 (k : Int))] rfl ⟨by kernel_rfl, by kernel_rfl⟩ ?_
          refine TL.next rfl ?_
          refine TC.seq ?_
          refine TC.region ?_
          refine TL.run 2 [] [(0, .slice A_p p.length c_p), (3, .int .i64 (p.length : Int)), (6, .int .i64 r1), (17, .slice A_p p.length c_p), (18, .int .i64 (p.length : Int)), (19, .int .i64 (k : Int)), (26, .bool (r1 != 0))] rfl ⟨by kernel_rfl, by kernel_rfl⟩ ?_
          refine TL.next rfl ?_
          refine TC.cond (r1 != 0) rfl (by kernel_rfl) (fun h4 => ?_) (fun h4 => ?_)
          · refine TC.seq ?_
            refine TC.region ?_
            refine TL.run 2 [] [(2, .int .i64 r1)] rfl ⟨by kernel_rfl, by kernel_rfl⟩ ?_
            refine TL.next rfl ?_
            refine TC.ret ?_
            refine TE.ret_block (TE.ret_then (TE.ret_then (TE.ret_block (TE.ret_then (TE.ret_then ?_)))))
            have e : polygon_Check p = r1 := by subst hr1; unfold polygon_Check; exact cond_f h1 (cond_f h2 (elim_r (hR.symm.trans (hI.trans (by rw [hd]; exact cond_t h4 (rfl)))) rfl))
            exact TE.ret [] (.int .i64 r1) ⟨by kernel_rfl, by kernel_rfl⟩ (by rw [e]; first | done | kernel_rfl)
          · refine TC.skip ?_
            refine TE.normal_block ?_
            refine TE.next ?_
            refine TC.region ?_
            refine TL.run 2 [] [(0, .slice A_p p.length c_p), (3, .int .i64 (p.length : Int)), (17, .slice A_p p.length c_p), (18, .int .i64 (p.length : Int)), (19, .int .i64 (w64 ((k : Int) + 1)))] rfl ⟨by kernel_rfl, by kernel_rfl⟩ ?_
            refine TL.done rfl ?_
            refine TE.rw 19 (.int .i64 (w64 ((k : Int) + 1))) (.int .i64 ((k + 1 : Nat) : Int)) (by kernel_rfl) (w64_cast k (by omega)) ?_
            exact TE.again (x := k) (k + 1) ⟨by omega, hI.trans (by subst hr1; rw [hd]; exact cond_f h4 (rfl))⟩ (by show p.length - (k + 1) < p.length - k; omega) (by kernel_rfl) (.cons _ (.slnil))
        · have hd : p.drop k = [] := List.drop_eq_nil_of_le (by have := of_decide_eq_false h3; first | omega | (simp at this; omega))
          refine TC.exit ?_
          refine TE.exit_then (TE.exit_then (TE.exit_same ?_))
          exact TE.cut () (hI.trans (by rw [hd]; exact rfl)) (by kernel_rfl) (.slnil)
      · intro _ hJ
        refine TE.next ?_
        refine TC.seq ?_
        refine TC.seq ?_
        refine TC.region ?_
        refine TL.run 3 [] [(0, .slice A_p p.length c_p), (3, .int .i64 (p.length : Int)), (30, .int .i64 (p.length : Int)), (31, .int .i64 0)] rfl ⟨by kernel_rfl, by kernel_rfl⟩ ?_
        refine TL.next rfl ?_
        refine TC.weak [(0, .slice A_p p.length c_p), (3, .int .i64 (p.length : Int)), (30, .int .i64 (p.length : Int)), (31, .int .i64 0)] (by kernel_rfl) ?_
        obtain ⟨R2, hR_2⟩ : ∃ R, R = polygon_Check_L2 p p 0 := ⟨_, rfl⟩
        refine TC.cut (S := Unit) (fun (_ : Unit) => [(0, .slice A_p p.length c_p)]) (fun (_ : Unit) => []) (fun (_ : Unit) => R2 = .inl ()) ?_ ?_
        · refine TC.block ?_
          refine TC.loop (X := Nat) (fun k_2 => [(0, .slice A_p p.length c_p), (3, .int .i64 (p.length : Int)), (30, .int .i64 (p.length : Int)), (31, .int .i64 (k_2 : Int))]) (fun k_2 => []) (fun k_2 => p.length - k_2) (fun k_2 => k_2 ≤ p.length ∧ R2 = polygon_Check_L2 p (p.drop k_2) k_2) ?_ 0 ⟨Nat.zero_le _, hR_2⟩
          rintro k_2 ⟨hk_2, hI_2⟩
          refine TC.seq ?_
          refine TC.region ?_
          refine TL.run 1 [] [(0, .slice A_p p.length c_p), (3, .int .i64 (p.length : Int)), (30, .int .i64 (p.length : Int)), (31, .int .i64 (k_2 : Int)), (32, .bool (decide ((k_2 : Int) < (p.length : Int))))] rfl ⟨by kernel_rfl, by kernel_rfl⟩ ?_
          refine TL.next rfl ?_
          refine TC.seq ?_
          refine TC.cond (decide ((k_2 : Int) < (p.length : Int))) rfl (by kernel_rfl) (fun h5 => ?_) (fun h5 => ?_)
          · have hlt_2 : k_2 < p.length := by have := of_decide_eq_true h5; first | omega | (simp at this; omega)
            obtain ⟨x_2, hx_2⟩ : ∃ x, p[k_2]? = some x := ⟨_, List.getElem?_eq_getElem hlt_2⟩
            have hd_2 := drop_at hx_2
            refine TC.skip ?_
            refine TE.next ?_
            refine TC.seq ?_
            refine TC.block ?_
            refine TC.seq ?_
            refine TC.region ?_
            refine TL.run 2 [] [(0, .slice A_p p.length c_p), (3, .int .i64 (p.length : Int)), (7, .int .i64 (k_2 : Int)), (30, .int .i64 (p.length : Int)), (31, .int .i64 (k_2 : Int))] rfl ⟨by kernel_rfl, by kernel_rfl⟩ ?_
            refine TL.next rfl ?_
            refine TC.seq ?_
            refine TC.seq ?_
            refine TC.draw 16 (by kernel_rfl) (by kernel_rfl) (by kernel_rfl) ?_
            refine TQ.run 2 [] [(0, .slice A_p p.length c_p), (3, .int .i64 (p.length : Int)), (7, .int .i64 (k_2 : Int)), (30, .int .i64 (p.length : Int)), (31, .int .i64 (k_2 : Int)), (34, .slice A_p p.length c_p), (35, .int .i64 (k_2 : Int))] rfl ⟨by kernel_rfl, by kernel_rfl⟩ ?_
            refine TQ.val (sV (Instr.indexAt 46 (.slice A_p p.length c_p) (.int .i64 (k_2 : Int)))) (some 36) (.pointer (some ((A_p.getD noAddr).add (k_2 * 2)))) [(0, .slice A_p p.length c_p), (3, .int .i64 (p.length : Int)), (7, .int .i64 (k_2 : Int)), (30, .int .i64 (p.length : Int)), (31, .int .i64 (k_2 : Int)), (36, .pointer (some ((A_p.getD noAddr).add (k_2 * 2))))] (fun w hM => run_index (h_p.sat hM) (by simp) (by kernel_rfl) (by have q0_ := (dec_f h1); have q1_ := (dec_f h2); first | omega | (simp only [List.length_drop]; omega) | (simp only [w64_eq]; omega) | exact (tm_in (by (first | (rw [w64_id (by omega)]; omega) | (simp only [w64_eq]; omega))) (by omega)).1 | exact (tm_in (by (first | (rw [w64_id (by omega)]; omega) | (simp only [w64_eq]; omega))) (by omega)).2.1 | exact (tm_in (by (first | (rw [w64_id (by omega)]; omega) | (simp only [w64_eq]; omega))) (by omega)).2.2 | (simp <;> omega)) (by have q0_ := (dec_f h1); have q1_ := (dec_f h2); first | omega | (simp only [List.length_drop]; omega) | (simp only [w64_eq]; omega) | exact (tm_in (by (first | (rw [w64_id (by omega)]; omega) | (simp only [w64_eq]; omega))) (by omega)).1 | exact (tm_in (by (first | (rw [w64_id (by omega)]; omega) | (simp only [w64_eq]; omega))) (by omega)).2.1 | exact (tm_in (by (first | (rw [w64_id (by omega)]; omega) | (simp only [w64_eq]; omega))) (by omega)).2.2 | (simp <;> omega))) rfl (by kernel_rfl) (by kernel_rfl) ?_
            refine TQ.val (sV (Instr.loadAt 25 (.pointer (some ((A_p.getD noAddr).add (k_2 * 2)))))) (some 37) (P.v x_2) [(0, .slice A_p p.length c_p), (3, .int .i64 (p.length : Int)), (7, .int .i64 (k_2 : Int)), (30, .int .i64 (p.length : Int)), (31, .int .i64 (k_2 : Int)), (37, P.v x_2)] (fun w hM => run_load_agg (n := 2) (off := 0) (P.v x_2) (h_p.sat hM) (map_at hx_2) (by kernel_rfl) (by kernel_rfl) (by kernel_rfl)) rfl (by kernel_rfl) (by kernel_rfl) ?_
            refine TQ.run 6 [] [(0, .slice A_p p.length c_p), (3, .int .i64 (p.length : Int)), (7, .int .i64 (k_2 : Int)), (30, .int .i64 (p.length : Int)), (31, .int .i64 (k_2 : Int)), (37, P.v x_2), (38, .slice A_p p.length c_p), (39, .int .i64 (k_2 : Int))] rfl ⟨by kernel_rfl, by kernel_rfl⟩ ?_
            refine TQ.call (some 40) [(0, .slice A_p p.length c_p), (3, .int .i64 (p.length : Int)), (7, .int .i64 (k_2 : Int)), (30, .int .i64 (p.length : Int)), (31, .int .i64 (k_2 : Int)), (37, P.v x_2), (40, P.v (polygon_next p (k_2 : Int)))] (fun w hM => polygon_next_w A_p c_p p (k_2 : Int) w (h_p.sat hM) hc_p (by have q0_ := (dec_f h1); have q1_ := (dec_f h2); first | omega | (simp only [w64_eq]; omega) | (simp <;> omega)) (by have q0_ := (dec_f h1); have q1_ := (dec_f h2); first | omega | (simp only [w64_eq]; omega) | (simp <;> omega))) rfl (by kernel_rfl) (by kernel_rfl) ?_
            generalize hr2 : polygon_next p (k_2 : Int) = r2
            refine TQ.run 11 [] [(0, .slice A_p p.length c_p), (3, .int .i64 (p.length : Int)), (7, .int .i64 (k_2 : Int)), (30, .int .i64 (p.length : Int)), (31, .int .i64 (k_2 : Int)), (37, P.v x_2), (40, P.v r2), (41, .slice A_p p.length c_p), (43, .int .i64 (w64 ((k_2 : Int) + 2))), (44, .int .i64 (p.length : Int))] rfl ⟨by kernel_rfl, by kernel_rfl⟩ ?_
            refine TQ.val (sV (binOp .rem 3 (.int .i64 (w64 ((k_2 : Int) + 2))) (.int .i64 (p.length : Int)))) (some 45) (.int .i64 ((w64 ((k_2 : Int) + 2)).tmod (p.length : Int))) [(0, .slice A_p p.length c_p), (3, .int .i64 (p.length : Int)), (7, .int .i64 (k_2 : Int)), (30, .int .i64 (p.length : Int)), (31, .int .i64 (k_2 : Int)), (37, P.v x_2), (40, P.v r2), (41, .slice A_p p.length c_p), (45, .int .i64 ((w64 ((k_2 : Int) + 2)).tmod (p.length : Int)))] (fun w hM => run_rem (by have q0_ := (dec_f h1); have q1_ := (dec_f h2); first | omega | (simp only [List.length_drop]; omega) | (simp only [w64_eq]; omega) | exact (tm_in (by (first | (rw [w64_id (by omega)]; omega) | (simp only [w64_eq]; omega))) (by omega)).1 | exact (tm_in (by (first | (rw [w64_id (by omega)]; omega) | (simp only [w64_eq]; omega))) (by omega)).2.1 | exact (tm_in (by (first | (rw [w64_id (by omega)]; omega) | (simp only [w64_eq]; omega))) (by omega)).2.2 | (simp <;> omega))) rfl (by kernel_rfl) (by kernel_rfl) ?_
            refine TQ.val (sV (Instr.indexAt 46 (.slice A_p p.length c_p) (.int .i64 ((w64 ((k_2 : Int) + 2)).tmod (p.length : Int))))) (some 46) (.pointer (some ((A_p.getD noAddr).add (((w64 ((k_2 : Int) + 2)).tmod (p.length : Int)).toNat * 2)))) [(0, .slice A_p p.length c_p), (3, .int .i64 (p.length : Int)), (7, .int .i64 (k_2 : Int)), (30, .int .i64 (p.length : Int)), (31, .int .i64 (k_2 : Int)), (37, P.v x_2), (40, P.v r2), (46, .pointer (some ((A_p.getD noAddr).add (((w64 ((k_2 : Int) + 2)).tmod (p.length : Int)).toNat * 2))))] (fun w hM => run_index (h_p.sat hM) (by simp) (by kernel_rfl) (by have q0_ := (dec_f h1); have q1_ := (dec_f h2); first | omega | (simp only [List.length_drop]; omega) | (simp only [w64_eq]; omega) | exact (tm_in (by (first | (rw [w64_id (by omega)]; omega) | (simp only [w64_eq]; omega))) (by omega)).1 | exact (tm_in (by (first | (rw [w64_id (by omega)]; omega) | (simp only [w64_eq]; omega))) (by omega)).2.1 | exact (tm_in (by (first | (rw [w64_id (by omega)]; omega) | (simp only [w64_eq]; omega))) (by omega)).2.2 | (simp <;> omega)) (by have q0_ := (dec_f h1); have q1_ := (dec_f h2); first | omega | (simp only [List.length_drop]; omega) | (simp only [w64_eq]; omega) | exact (tm_in (by (first | (rw [w64_id (by omega)]; omega) | (simp only [w64_eq]; omega))) (by omega)).1 | exact (tm_in (by (first | (rw [w64_id (by omega)]; omega) | (simp only [w64_eq]; omega))) (by omega)).2.1 | exact (tm_in (by (first | (rw [w64_id (by omega)]; omega) | (simp only [w64_eq]; omega))) (by omega)).2.2 | (simp <;> omega))) rfl (by kernel_rfl) (by kernel_rfl) ?_
            refine TQ.val (sV (Instr.loadAt 25 (.pointer (some ((A_p.getD noAddr).add (((w64 ((k_2 : Int) + 2)).tmod (p.length : Int)).toNat * 2)))))) (some 47) (P.v (p[((w64 ((k_2 : Int) + 2)).tmod (p.length : Int)).toNat]?.getD P.zero)) [(0, .slice A_p p.length c_p), (3, .int .i64 (p.length : Int)), (7, .int .i64 (k_2 : Int)), (30, .int .i64 (p.length : Int)), (31, .int .i64 (k_2 : Int)), (37, P.v x_2), (40, P.v r2), (47, P.v (p[((w64 ((k_2 : Int) + 2)).tmod (p.length : Int)).toNat]?.getD P.zero))] (fun w hM => run_load_agg (n := 2) (off := 0) (P.v (p[((w64 ((k_2 : Int) + 2)).tmod (p.length : Int)).toNat]?.getD P.zero)) (h_p.sat hM) (map_at (getD_at _ _ P.zero (by have q0_ := (dec_f h1); have q1_ := (dec_f h2); first | omega | (simp only [List.length_drop]; omega) | (simp only [w64_eq]; omega) | exact (tm_in (by (first | (rw [w64_id (by omega)]; omega) | (simp only [w64_eq]; omega))) (by omega)).1 | exact (tm_in (by (first | (rw [w64_id (by omega)]; omega) | (simp only [w64_eq]; omega))) (by omega)).2.1 | exact (tm_in (by (first | (rw [w64_id (by omega)]; omega) | (simp only [w64_eq]; omega))) (by omega)).2.2 | (simp <;> omega)))) (by kernel_rfl) (by kernel_rfl) (by kernel_rfl)) rfl (by kernel_rfl) (by kernel_rfl) ?_
            refine TQ.call (some 48) [(0, .slice A_p p.length c_p), (3, .int .i64 (p.length : Int)), (7, .int .i64 (k_2 : Int)), (30, .int .i64 (p.length : Int)), (31, .int .i64 (k_2 : Int)), (48, .int .i64 (plane_Turn x_2 r2 (p[((w64 ((k_2 : Int) + 2)).tmod (p.length : Int)).toNat]?.getD P.zero)))] (fun w _ => plane_Turn_w x_2 r2 (p[((w64 ((k_2 : Int) + 2)).tmod (p.length : Int)).toNat]?.getD P.zero) w) rfl (by kernel_rfl) (by kernel_rfl) ?_
            generalize hr3 : plane_Turn x_2 r2 (p[((w64 ((k_2 : Int) + 2)).tmod (p.length : Int)).toNat]?.getD P.zero) = r3
            refine TQ.run 16 [] [(0, .slice A_p p.length c_p), (3, .int .i64 (p.length : Int)), (7, .int .i64 (k_2 : Int)), (30, .int .i64 (p.length : Int)), (31, .int .i64 (k_2 : Int)), (49, .bool (r3 == 0))] rfl ⟨by kernel_rfl, by kernel_rfl⟩ ?_
            refine TQ.next rfl ?_
            refine TC.cond (r3 == 0) rfl (by kernel_rfl) (fun h6 => ?_) (fun h6 => ?_)
            · refine TC.seq ?_
              refine TC.region ?_
              refine TL.run 1 [] [(2, .int .i64 3)] rfl ⟨by kernel_rfl, by kernel_rfl⟩ ?_
              refine TL.next rfl ?_
              refine TC.ret ?_
              refine TE.ret_then (TE.ret_block (TE.ret_then (TE.ret_then (TE.ret_block (TE.ret_then (TE.ret_then ?_))))))
              have e : polygon_Check p = 3 := by subst hr2 hr3; unfold polygon_Check; exact cond_f h1 (cond_f h2 (elim_l (hR.symm.trans hJ) (elim_r (hR_2.symm.trans (hI_2.trans (by rw [hd_2]; exact cond_t h6 (rfl)))) rfl)))
              exact TE.ret [] (.int .i64 3) ⟨by kernel_rfl, by kernel_rfl⟩ (by rw [e]; first | done | kernel_rfl)
            · refine TC.skip ?_
              refine TE.next ?_
              refine TC.seq ?_
              refine TC.region ?_
              refine TL.run 3 [] [(0, .slice A_p p.length c_p), (3, .int .i64 (p.length : Int)), (7, .int .i64 (k_2 : Int)), (8, .int .i64 (w64 ((k_2 : Int) + 2))), (30, .int .i64 (p.length : Int)), (31, .int .i64 (k_2 : Int))] rfl ⟨by kernel_rfl, by kernel_rfl⟩ ?_
              refine TL.next rfl ?_
              refine TC.weak [(0, .slice A_p p.length c_p), (3, .int .i64 (p.length : Int)), (7, .int .i64 (k_2 : Int)), (8, .int .i64 (w64 ((k_2 : Int) + 2))), (30, .int .i64 (p.length : Int)), (31, .int .i64 (k_2 : Int))] (by kernel_rfl) ?_
              obtain ⟨R3, hR_3⟩ : ∃ R, R = polygon_Check_L3 p k_2 x_2 (((p.length : Int) - (w64 ((k_2 : Int) + 2))).toNat) 0 := ⟨_, rfl⟩
              refine TC.cut (S := Unit) (fun (_ : Unit) => [(0, .slice A_p p.length c_p), (3, .int .i64 (p.length : Int)), (30, .int .i64 (p.length : Int)), (31, .int .i64 (k_2 : Int))]) (fun (_ : Unit) => []) (fun (_ : Unit) => R3 = .inl ()) ?_ ?_
              · refine TC.block ?_
                refine TC.rw 8 (.int .i64 (w64 ((k_2 : Int) + 2))) (.int .i64 (((k_2 : Int) + 2) + ((0 : Nat) : Int))) (by kernel_rfl) (int_eq (by have q0_ := (dec_f h1); have q1_ := (dec_f h2); have q2_ := (beq_f h6); first | omega | (rw [w64_id (by omega)]; omega) | (simp only [w64_eq]; omega))) ?_
                refine TC.weak [(0, .slice A_p p.length c_p), (3, .int .i64 (p.length : Int)), (7, .int .i64 (k_2 : Int)), (8, .int .i64 (((k_2 : Int) + 2) + ((0 : Nat) : Int))), (30, .int .i64 (p.length : Int)), (31, .int .i64 (k_2 : Int))] (by kernel_rfl) ?_
                refine TC.loop (X := Nat) (fun k_3 => [(0, .slice A_p p.length c_p), (3, .int .i64 (p.length : Int)), (7, .int .i64 (k_2 : Int)), (8, .int .i64 (((k_2 : Int) + 2) + (k_3 : Int))), (30, .int .i64 (p.length : Int)), (31, .int .i64 (k_2 : Int))]) (fun k_3 => []) (fun k_3 => (((p.length : Int) - (w64 ((k_2 : Int) + 2))).toNat) - k_3) (fun k_3 => k_3 ≤ (((p.length : Int) - (w64 ((k_2 : Int) + 2))).toNat) ∧ R3 = polygon_Check_L3 p k_2 x_2 ((((p.length : Int) - (w64 ((k_2 : Int) + 2))).toNat) - k_3) k_3) ?_ 0 ⟨Nat.zero_le _, hR_3⟩
                rintro k_3 ⟨hk_3, hI_3⟩
                refine TC.seq ?_
                refine TC.seq ?_
                refine TC.region ?_
                refine TL.run 3 [] [(0, .slice A_p p.length c_p), (3, .int .i64 (p.length : Int)), (7, .int .i64 (k_2 : Int)), (8, .int .i64 (((k_2 : Int) + 2) + (k_3 : Int))), (30, .int .i64 (p.length : Int)), (31, .int .i64 (k_2 : Int)), (54, .bool (decide ((((k_2 : Int) + 2) + (k_3 : Int)) < (p.length : Int))))] rfl ⟨by kernel_rfl, by kernel_rfl⟩ ?_
                refine TL.next rfl ?_
                refine TC.cond (decide ((((k_2 : Int) + 2) + (k_3 : Int)) < (p.length : Int))) rfl (by kernel_rfl) (fun h7 => ?_) (fun h7 => ?_)
                · have hlt_3 : k_3 < (((p.length : Int) - (w64 ((k_2 : Int) + 2))).toNat) := by have q0_ := (dec_f h1); have q1_ := (dec_f h2); have q2_ := (beq_f h6); have p0_ := (dec_t h7); first | omega | (simp only [w64_eq] at *; omega)
                  have hd_3 : (((p.length : Int) - (w64 ((k_2 : Int) + 2))).toNat) - k_3 = ((((p.length : Int) - (w64 ((k_2 : Int) + 2))).toNat) - (k_3 + 1)) + 1 := by omega
                  refine TC.skip ?_
                  refine TE.next ?_
                  refine TC.seq ?_
                  refine TC.block ?_
                  refine TC.seq ?_
                  refine TC.draw 23 (by kernel_rfl) (by kernel_rfl) (by kernel_rfl) ?_
                  refine TQ.run 3 [] [(0, .slice A_p p.length c_p), (3, .int .i64 (p.length : Int)), (7, .int .i64 (k_2 : Int)), (8, .int .i64 (((k_2 : Int) + 2) + (k_3 : Int))), (30, .int .i64 (p.length : Int)), (31, .int .i64 (k_2 : Int)), (58, .int .i64 (w64 ((((k_2 : Int) + 2) + (k_3 : Int)) + 1))), (59, .int .i64 (p.length : Int))] rfl ⟨by kernel_rfl, by kernel_rfl⟩ ?_
                  refine TQ.val (sV (binOp .rem 3 (.int .i64 (w64 ((((k_2 : Int) + 2) + (k_3 : Int)) + 1))) (.int .i64 (p.length : Int)))) (some 60) (.int .i64 ((w64 ((((k_2 : Int) + 2) + (k_3 : Int)) + 1)).tmod (p.length : Int))) [(0, .slice A_p p.length c_p), (3, .int .i64 (p.length : Int)), (7, .int .i64 (k_2 : Int)), (8, .int .i64 (((k_2 : Int) + 2) + (k_3 : Int))), (30, .int .i64 (p.length : Int)), (31, .int .i64 (k_2 : Int)), (60, .int .i64 ((w64 ((((k_2 : Int) + 2) + (k_3 : Int)) + 1)).tmod (p.length : Int)))] (fun w hM => run_rem (by have q0_ := (dec_f h1); have q1_ := (dec_f h2); have q2_ := (beq_f h6); have q3_ := (dec_t h7); first | omega | (simp only [List.length_drop]; omega) | (simp only [w64_eq]; omega) | exact (tm_in (by (first | (rw [w64_id (by omega)]; omega) | (simp only [w64_eq]; omega))) (by omega)).1 | exact (tm_in (by (first | (rw [w64_id (by omega)]; omega) | (simp only [w64_eq]; omega))) (by omega)).2.1 | exact (tm_in (by (first | (rw [w64_id (by omega)]; omega) | (simp only [w64_eq]; omega))) (by omega)).2.2 | (simp <;> omega))) rfl (by kernel_rfl) (by kernel_rfl) ?_
                  refine TQ.run 7 [] [(0, .slice A_p p.length c_p), (3, .int .i64 (p.length : Int)), (7, .int .i64 (k_2 : Int)), (8, .int .i64 (((k_2 : Int) + 2) + (k_3 : Int))), (30, .int .i64 (p.length : Int)), (31, .int .i64 (k_2 : Int)), (63, .bool (((w64 ((((k_2 : Int) + 2) + (k_3 : Int)) + 1)).tmod (p.length : Int)) != (k_2 : Int)))] rfl ⟨by kernel_rfl, by kernel_rfl⟩ ?_
                  refine TQ.split 63 (((w64 ((((k_2 : Int) + 2) + (k_3 : Int)) + 1)).tmod (p.length : Int)) != (k_2 : Int)) (by kernel_rfl) (fun h8 => ?_) (fun h8 => ?_)
                  · refine TQ.run 9 [] [(0, .slice A_p p.length c_p), (3, .int .i64 (p.length : Int)), (7, .int .i64 (k_2 : Int)), (8, .int .i64 (((k_2 : Int) + 2) + (k_3 : Int))), (30, .int .i64 (p.length : Int)), (31, .int .i64 (k_2 : Int)), (63, .bool true), (64, .slice A_p p.length c_p), (65, .int .i64 (k_2 : Int))] rfl ⟨by kernel_rfl, by kernel_rfl⟩ ?_
                    refine TQ.val (sV (Instr.indexAt 46 (.slice A_p p.length c_p) (.int .i64 (k_2 : Int)))) (some 66) (.pointer (some ((A_p.getD noAddr).add (k_2 * 2)))) [(0, .slice A_p p.length c_p), (3, .int .i64 (p.length : Int)), (7, .int .i64 (k_2 : Int)), (8, .int .i64 (((k_2 : Int) + 2) + (k_3 : Int))), (30, .int .i64 (p.length : Int)), (31, .int .i64 (k_2 : Int)), (63, .bool true), (66, .pointer (some ((A_p.getD noAddr).add (k_2 * 2))))] (fun w hM => run_index (h_p.sat hM) (by simp) (by kernel_rfl) (by have q0_ := (dec_f h1); have q1_ := (dec_f h2); have q2_ := (beq_f h6); have q3_ := (dec_t h7); have q4_ := (bne_t h8); first | omega | (simp only [List.length_drop]; omega) | (simp only [w64_eq]; omega) | exact (tm_in (by (first | (rw [w64_id (by omega)]; omega) | (simp only [w64_eq]; omega))) (by omega)).1 | exact (tm_in (by (first | (rw [w64_id (by omega)]; omega) | (simp only [w64_eq]; omega))) (by omega)).2.1 | exact (tm_in (by (first | (rw [w64_id (by omega)]; omega) | (simp only [w64_eq]; omega))) (by omega)).2.2 | (simp <;> omega)) (by have q0_ := (dec_f h1); have q1_ := (dec_f h2); have q2_ := (beq_f h6); have q3_ := (dec_t h7); have q4_ := (bne_t h8); first | omega | (simp only [List.length_drop]; omega) | (simp only [w64_eq]; omega) | exact (tm_in (by (first | (rw [w64_id (by omega)]; omega) | (simp only [w64_eq]; omega))) (by omega)).1 | exact (tm_in (by (first | (rw [w64_id (by omega)]; omega) | (simp only [w64_eq]; omega))) (by omega)).2.1 | exact (tm_in (by (first | (rw [w64_id (by omega)]; omega) | (simp only [w64_eq]; omega))) (by omega)).2.2 | (simp <;> omega))) rfl (by kernel_rfl) (by kernel_rfl) ?_
                    refine TQ.val (sV (Instr.loadAt 25 (.pointer (some ((A_p.getD noAddr).add (k_2 * 2)))))) (some 67) (P.v x_2) [(0, .slice A_p p.length c_p), (3, .int .i64 (p.length : Int)), (7, .int .i64 (k_2 : Int)), (8, .int .i64 (((k_2 : Int) + 2) + (k_3 : Int))), (30, .int .i64 (p.length : Int)), (31, .int .i64 (k_2 : Int)), (63, .bool true), (67, P.v x_2)] (fun w hM => run_load_agg (n := 2) (off := 0) (P.v x_2) (h_p.sat hM) (map_at hx_2) (by kernel_rfl) (by kernel_rfl) (by kernel_rfl)) rfl (by kernel_rfl) (by kernel_rfl) ?_
                    refine TQ.run 13 [] [(0, .slice A_p p.length c_p), (3, .int .i64 (p.length : Int)), (7, .int .i64 (k_2 : Int)), (8, .int .i64 (((k_2 : Int) + 2) + (k_3 : Int))), (30, .int .i64 (p.length : Int)), (31, .int .i64 (k_2 : Int)), (63, .bool true), (67, P.v x_2), (68, .slice A_p p.length c_p), (69, .int .i64 (k_2 : Int))] rfl ⟨by kernel_rfl, by kernel_rfl⟩ ?_
                    refine TQ.call (some 70) [(0, .slice A_p p.length c_p), (3, .int .i64 (p.length : Int)), (7, .int .i64 (k_2 : Int)), (8, .int .i64 (((k_2 : Int) + 2) + (k_3 : Int))), (30, .int .i64 (p.length : Int)), (31, .int .i64 (k_2 : Int)), (63, .bool true), (67, P.v x_2), (70, P.v (polygon_next p (k_2 : Int)))] (fun w hM => polygon_next_w A_p c_p p (k_2 : Int) w (h_p.sat hM) hc_p (by have q0_ := (dec_f h1); have q1_ := (dec_f h2); have q2_ := (beq_f h6); have q3_ := (dec_t h7); have q4_ := (bne_t h8); first | omega | (simp only [w64_eq]; omega) | (simp <;> omega)) (by have q0_ := (dec_f h1); have q1_ := (dec_f h2); have q2_ := (beq_f h6); have q3_ := (dec_t h7); have q4_ := (bne_t h8); first | omega | (simp only [w64_eq]; omega) | (simp <;> omega))) rfl (by kernel_rfl) (by kernel_rfl) ?_
                    generalize hr4 : polygon_next p (k_2 : Int) = r4
                    refine TQ.run 16 [] [(0, .slice A_p p.length c_p), (3, .int .i64 (p.length : Int)), (7, .int .i64 (k_2 : Int)), (8, .int .i64 (((k_2 : Int) + 2) + (k_3 : Int))), (30, .int .i64 (p.length : Int)), (31, .int .i64 (k_2 : Int)), (63, .bool true), (67, P.v x_2), (70, P.v r4), (71, .slice A_p p.length c_p), (72, .int .i64 (((k_2 : Int) + 2) + (k_3 : Int)))] rfl ⟨by kernel_rfl, by kernel_rfl⟩ ?_
                    refine TQ.val (sV (Instr.indexAt 46 (.slice A_p p.length c_p) (.int .i64 (((k_2 : Int) + 2) + (k_3 : Int))))) (some 73) (.pointer (some ((A_p.getD noAddr).add ((((k_2 : Int) + 2) + (k_3 : Int)).toNat * 2)))) [(0, .slice A_p p.length c_p), (3, .int .i64 (p.length : Int)), (7, .int .i64 (k_2 : Int)), (8, .int .i64 (((k_2 : Int) + 2) + (k_3 : Int))), (30, .int .i64 (p.length : Int)), (31, .int .i64 (k_2 : Int)), (63, .bool true), (67, P.v x_2), (70, P.v r4), (73, .pointer (some ((A_p.getD noAddr).add ((((k_2 : Int) + 2) + (k_3 : Int)).toNat * 2))))] (fun w hM => run_index (h_p.sat hM) (by simp) (by kernel_rfl) (by have q0_ := (dec_f h1); have q1_ := (dec_f h2); have q2_ := (beq_f h6); have q3_ := (dec_t h7); have q4_ := (bne_t h8); first | omega | (simp only [List.length_drop]; omega) | (simp only [w64_eq]; omega) | exact (tm_in (by (first | (rw [w64_id (by omega)]; omega) | (simp only [w64_eq]; omega))) (by omega)).1 | exact (tm_in (by (first | (rw [w64_id (by omega)]; omega) | (simp only [w64_eq]; omega))) (by omega)).2.1 | exact (tm_in (by (first | (rw [w64_id (by omega)]; omega) | (simp only [w64_eq]; omega))) (by omega)).2.2 | (simp <;> omega)) (by have q0_ := (dec_f h1); have q1_ := (dec_f h2); have q2_ := (beq_f h6); have q3_ := (dec_t h7); have q4_ := (bne_t h8); first | omega | (simp only [List.length_drop]; omega) | (simp only [w64_eq]; omega) | exact (tm_in (by (first | (rw [w64_id (by omega)]; omega) | (simp only [w64_eq]; omega))) (by omega)).1 | exact (tm_in (by (first | (rw [w64_id (by omega)]; omega) | (simp only [w64_eq]; omega))) (by omega)).2.1 | exact (tm_in (by (first | (rw [w64_id (by omega)]; omega) | (simp only [w64_eq]; omega))) (by omega)).2.2 | (simp <;> omega))) rfl (by kernel_rfl) (by kernel_rfl) ?_
                    refine TQ.val (sV (Instr.loadAt 25 (.pointer (some ((A_p.getD noAddr).add ((((k_2 : Int) + 2) + (k_3 : Int)).toNat * 2)))))) (some 74) (P.v (p[(((k_2 : Int) + 2) + (k_3 : Int)).toNat]?.getD P.zero)) [(0, .slice A_p p.length c_p), (3, .int .i64 (p.length : Int)), (7, .int .i64 (k_2 : Int)), (8, .int .i64 (((k_2 : Int) + 2) + (k_3 : Int))), (30, .int .i64 (p.length : Int)), (31, .int .i64 (k_2 : Int)), (63, .bool true), (67, P.v x_2), (70, P.v r4), (74, P.v (p[(((k_2 : Int) + 2) + (k_3 : Int)).toNat]?.getD P.zero))] (fun w hM => run_load_agg (n := 2) (off := 0) (P.v (p[(((k_2 : Int) + 2) + (k_3 : Int)).toNat]?.getD P.zero)) (h_p.sat hM) (map_at (getD_at _ _ P.zero (by have q0_ := (dec_f h1); have q1_ := (dec_f h2); have q2_ := (beq_f h6); have q3_ := (dec_t h7); have q4_ := (bne_t h8); first | omega | (simp only [List.length_drop]; omega) | (simp only [w64_eq]; omega) | exact (tm_in (by (first | (rw [w64_id (by omega)]; omega) | (simp only [w64_eq]; omega))) (by omega)).1 | exact (tm_in (by (first | (rw [w64_id (by omega)]; omega) | (simp only [w64_eq]; omega))) (by omega)).2.1 | exact (tm_in (by (first | (rw [w64_id (by omega)]; omega) | (simp only [w64_eq]; omega))) (by omega)).2.2 | (simp <;> omega)))) (by kernel_rfl) (by kernel_rfl) (by kernel_rfl)) rfl (by kernel_rfl) (by kernel_rfl) ?_
                    refine TQ.run 20 [] [(0, .slice A_p p.length c_p), (3, .int .i64 (p.length : Int)), (7, .int .i64 (k_2 : Int)), (8, .int .i64 (((k_2 : Int) + 2) + (k_3 : Int))), (30, .int .i64 (p.length : Int)), (31, .int .i64 (k_2 : Int)), (63, .bool true), (67, P.v x_2), (70, P.v r4), (74, P.v (p[(((k_2 : Int) + 2) + (k_3 : Int)).toNat]?.getD P.zero)), (75, .slice A_p p.length c_p), (76, .int .i64 (((k_2 : Int) + 2) + (k_3 : Int)))] rfl ⟨by kernel_rfl, by kernel_rfl⟩ ?_
                    refine TQ.call (some 77) [(0, .slice A_p p.length c_p), (3, .int .i64 (p.length : Int)), (7, .int .i64 (k_2 : Int)), (8, .int .i64 (((k_2 : Int) + 2) + (k_3 : Int))), (30, .int .i64 (p.length : Int)), (31, .int .i64 (k_2 : Int)), (63, .bool true), (67, P.v x_2), (70, P.v r4), (74, P.v (p[(((k_2 : Int) + 2) + (k_3 : Int)).toNat]?.getD P.zero)), (77, P.v (polygon_next p (((k_2 : Int) + 2) + (k_3 : Int))))] (fun w hM => polygon_next_w A_p c_p p (((k_2 : Int) + 2) + (k_3 : Int)) w (h_p.sat hM) hc_p (by have q0_ := (dec_f h1); have q1_ := (dec_f h2); have q2_ := (beq_f h6); have q3_ := (dec_t h7); have q4_ := (bne_t h8); first | omega | (simp only [w64_eq]; omega) | (simp <;> omega)) (by have q0_ := (dec_f h1); have q1_ := (dec_f h2); have q2_ := (beq_f h6); have q3_ := (dec_t h7); have q4_ := (bne_t h8); first | omega | (simp only [w64_eq]; omega) | (simp <;> omega))) rfl (by kernel_rfl) (by kernel_rfl) ?_
                    generalize hr5 : polygon_next p (((k_2 : Int) + 2) + (k_3 : Int)) = r5
                    refine TQ.call (some 78) [(0, .slice A_p p.length c_p), (3, .int .i64 (p.length : Int)), (7, .int .i64 (k_2 : Int)), (8, .int .i64 (((k_2 : Int) + 2) + (k_3 : Int))), (30, .int .i64 (p.length : Int)), (31, .int .i64 (k_2 : Int)), (63, .bool true), (78, .bool ((polygon_Common x_2 r4 (p[(((k_2 : Int) + 2) + (k_3 : Int)).toNat]?.getD P.zero) r5)))] (fun w _ => polygon_Common_w x_2 r4 (p[(((k_2 : Int) + 2) + (k_3 : Int)).toNat]?.getD P.zero) r5 w) rfl (by kernel_rfl) (by kernel_rfl) ?_
                    generalize hr6 : polygon_Common x_2 r4 (p[(((k_2 : Int) + 2) + (k_3 : Int)).toNat]?.getD P.zero) r5 = r6
                    refine TQ.run 23 [] [(0, .slice A_p p.length c_p), (3, .int .i64 (p.length : Int)), (7, .int .i64 (k_2 : Int)), (8, .int .i64 (((k_2 : Int) + 2) + (k_3 : Int))), (30, .int .i64 (p.length : Int)), (31, .int .i64 (k_2 : Int)), (79, .bool r6)] rfl ⟨by kernel_rfl, by kernel_rfl⟩ ?_
                    refine TQ.next rfl ?_
                    refine TC.cond r6 rfl (by kernel_rfl) (fun h9 => ?_) (fun h9 => ?_)
                    · refine TC.seq ?_
                      refine TC.region ?_
                      refine TL.run 1 [] [(2, .int .i64 3)] rfl ⟨by kernel_rfl, by kernel_rfl⟩ ?_
                      refine TL.next rfl ?_
                      refine TC.ret ?_
                      refine TE.ret_block (TE.ret_then (TE.ret_then (TE.ret_block (TE.ret_then (TE.ret_block (TE.ret_then (TE.ret_then (TE.ret_block (TE.ret_then (TE.ret_then ?_))))))))))
                      have e : polygon_Check p = 3 := by subst hr2 hr3 hr4 hr5 hr6; unfold polygon_Check; exact cond_f h1 (cond_f h2 (elim_l (hR.symm.trans hJ) (elim_r (hR_2.symm.trans (hI_2.trans (by rw [hd_2]; exact cond_f h6 (elim_r (hR_3.symm.trans (hI_3.trans (by rw [hd_3]; exact cond_t h8 (cond_t h9 (rfl))))) rfl)))) rfl)))
                      exact TE.ret [] (.int .i64 3) ⟨by kernel_rfl, by kernel_rfl⟩ (by rw [e]; first | done | kernel_rfl)
                    · refine TC.skip ?_
                      refine TE.normal_block ?_
                      refine TE.next ?_
                      refine TC.region ?_
                      refine TL.run 3 [] [(0, .slice A_p p.length c_p), (3, .int .i64 (p.length : Int)), (7, .int .i64 (k_2 : Int)), (8, .int .i64 (w64 ((((k_2 : Int) + 2) + (k_3 : Int)) + 1))), (30, .int .i64 (p.length : Int)), (31, .int .i64 (k_2 : Int))] rfl ⟨by kernel_rfl, by kernel_rfl⟩ ?_
                      refine TL.done rfl ?_
                      refine TE.rw 8 (.int .i64 (w64 ((((k_2 : Int) + 2) + (k_3 : Int)) + 1))) (.int .i64 (((k_2 : Int) + 2) + ((k_3 + 1 : Nat) : Int))) (by kernel_rfl) (int_eq (by have q0_ := (dec_f h1); have q1_ := (dec_f h2); have q2_ := (beq_f h6); have q3_ := (dec_t h7); have q4_ := (bne_t h8); first | omega | (rw [w64_id (by omega)]; omega) | (simp only [w64_eq] at *; omega))) ?_
                      exact TE.again (x := k_3) (k_3 + 1) ⟨by omega, hI_3.trans (by subst hr2 hr3 hr4 hr5 hr6; rw [hd_3]; exact cond_t h8 (cond_f h9 (rfl)))⟩ (by show (((p.length : Int) - (w64 ((k_2 : Int) + 2))).toNat) - (k_3 + 1) < (((p.length : Int) - (w64 ((k_2 : Int) + 2))).toNat) - k_3; omega) (by kernel_rfl) (.slnil)
                  · refine TQ.run 23 [] [(0, .slice A_p p.length c_p), (3, .int .i64 (p.length : Int)), (7, .int .i64 (k_2 : Int)), (8, .int .i64 (((k_2 : Int) + 2) + (k_3 : Int))), (30, .int .i64 (p.length : Int)), (31, .int .i64 (k_2 : Int)), (79, .bool false)] rfl ⟨by kernel_rfl, by kernel_rfl⟩ ?_
                    refine TQ.next rfl ?_
                    refine TC.condF rfl (by kernel_rfl) ?_
                    refine TC.skip ?_
                    refine TE.normal_block ?_
                    refine TE.next ?_
                    refine TC.region ?_
                    refine TL.run 3 [] [(0, .slice A_p p.length c_p), (3, .int .i64 (p.length : Int)), (7, .int .i64 (k_2 : Int)), (8, .int .i64 (w64 ((((k_2 : Int) + 2) + (k_3 : Int)) + 1))), (30, .int .i64 (p.length : Int)), (31, .int .i64 (k_2 : Int))] rfl ⟨by kernel_rfl, by kernel_rfl⟩ ?_
                    refine TL.done rfl ?_
                    refine TE.rw 8 (.int .i64 (w64 ((((k_2 : Int) + 2) + (k_3 : Int)) + 1))) (.int .i64 (((k_2 : Int) + 2) + ((k_3 + 1 : Nat) : Int))) (by kernel_rfl) (int_eq (by have q0_ := (dec_f h1); have q1_ := (dec_f h2); have q2_ := (beq_f h6); have q3_ := (dec_t h7); have q4_ := (bne_f h8); first | omega | (rw [w64_id (by omega)]; omega) | (simp only [w64_eq] at *; omega))) ?_
                    exact TE.again (x := k_3) (k_3 + 1) ⟨by omega, hI_3.trans (by subst hr2 hr3; rw [hd_3]; exact cond_f h8 (rfl))⟩ (by show (((p.length : Int) - (w64 ((k_2 : Int) + 2))).toNat) - (k_3 + 1) < (((p.length : Int) - (w64 ((k_2 : Int) + 2))).toNat) - k_3; omega) (by kernel_rfl) (.slnil)
                · have hd_3 : (((p.length : Int) - (w64 ((k_2 : Int) + 2))).toNat) - k_3 = 0 := by have q0_ := (dec_f h1); have q1_ := (dec_f h2); have q2_ := (beq_f h6); have p0_ := (dec_f h7); first | omega | (simp only [w64_eq] at *; omega)
                  refine TC.exit ?_
                  refine TE.exit_then (TE.exit_then (TE.exit_same ?_))
                  exact TE.cut () (hI_3.trans (by subst hr2 hr3; rw [hd_3]; exact rfl)) (by kernel_rfl) (.slnil)
              · intro _ hJ_3
                refine TE.normal_block ?_
                refine TE.next ?_
                refine TC.region ?_
                refine TL.run 2 [] [(0, .slice A_p p.length c_p), (3, .int .i64 (p.length : Int)), (30, .int .i64 (p.length : Int)), (31, .int .i64 (w64 ((k_2 : Int) + 1)))] rfl ⟨by kernel_rfl, by kernel_rfl⟩ ?_
                refine TL.done rfl ?_
                refine TE.rw 31 (.int .i64 (w64 ((k_2 : Int) + 1))) (.int .i64 ((k_2 + 1 : Nat) : Int)) (by kernel_rfl) (w64_cast k_2 (by omega)) ?_
                exact TE.again (x := k_2) (k_2 + 1) ⟨by omega, hI_2.trans (by subst hr2 hr3; rw [hd_2]; exact cond_f h6 (elim_l (hR_3.symm.trans hJ_3) (rfl)))⟩ (by show p.length - (k_2 + 1) < p.length - k_2; omega) (by kernel_rfl) (.slnil)
          · have hd_2 : p.drop k_2 = [] := List.drop_eq_nil_of_le (by have := of_decide_eq_false h5; first | omega | (simp at this; omega))
            refine TC.exit ?_
            refine TE.exit_then (TE.exit_then (TE.exit_same ?_))
            exact TE.cut () (hI_2.trans (by rw [hd_2]; exact rfl)) (by kernel_rfl) (.slnil)
        · intro _ hJ_2
          refine TE.next ?_
          refine TC.seq ?_
          refine TC.seq ?_
          refine TC.region ?_
          refine TL.run 1 [] [(81, .slice A_p p.length c_p)] rfl ⟨by kernel_rfl, by kernel_rfl⟩ ?_
          refine TL.call (some 82) [(82, .int .i64 (polygon_twice p))] (fun w hM => polygon_twice_w A_p c_p p w (h_p.sat hM) hc_p) (by kernel_rfl) (by kernel_rfl) ?_
          generalize hr7 : polygon_twice p = r7
          refine TL.run 3 [] [(83, .bool (decide (r7 ≤ 0)))] rfl ⟨by kernel_rfl, by kernel_rfl⟩ ?_
          refine TL.next rfl ?_
          refine TC.cond (decide (r7 ≤ 0)) rfl (by kernel_rfl) (fun h10 => ?_) (fun h10 => ?_)
          · refine TC.seq ?_
            refine TC.region ?_
            refine TL.run 1 [] [(2, .int .i64 3)] rfl ⟨by kernel_rfl, by kernel_rfl⟩ ?_
            refine TL.next rfl ?_
            refine TC.ret ?_
            refine TE.ret_then ?_
            have e : polygon_Check p = 3 := by subst hr7; unfold polygon_Check; exact cond_f h1 (cond_f h2 (elim_l (hR.symm.trans hJ) (elim_l (hR_2.symm.trans hJ_2) (cond_t h10 (rfl)))))
            exact TE.ret [] (.int .i64 3) ⟨by kernel_rfl, by kernel_rfl⟩ (by rw [e]; first | done | kernel_rfl)
          · refine TC.skip ?_
            refine TE.next ?_
            refine TC.seq ?_
            refine TC.region ?_
            refine TL.run 1 [] [(2, .int .i64 0)] rfl ⟨by kernel_rfl, by kernel_rfl⟩ ?_
            refine TL.next rfl ?_
            refine TC.ret ?_
            have e : polygon_Check p = 0 := by subst hr7; unfold polygon_Check; exact cond_f h1 (cond_f h2 (elim_l (hR.symm.trans hJ) (elim_l (hR_2.symm.trans hJ_2) (cond_f h10 (rfl)))))
            exact TE.ret [] (.int .i64 0) ⟨by kernel_rfl, by kernel_rfl⟩ (by rw [e]; first | done | kernel_rfl)

def polygon_Place_L1 (p : List P) (q : P) : List P → Nat → Int → ((Int) ⊕ (Int))
  | [], _, inside => .inl inside
  | x :: xs, k, inside => let r1 := polygon_next p (k : Int)
    let r2 := polygon_on x r1 q
    cond r2 (
      .inr 0) (
      cond (!((decide (x.Y > q.Y)) == (decide (r1.Y > q.Y)))) (
        let r3 := plane_Turn x r1 q
        cond ((decide (r1.Y > x.Y)) && (decide (r3 > 0))) (
          polygon_Place_L1 p q xs (k + 1) (w64 (0 - inside))) (
          cond (decide (r1.Y < x.Y)) (
            cond (decide (r3 < 0)) (
              polygon_Place_L1 p q xs (k + 1) (w64 (0 - inside))) (
              polygon_Place_L1 p q xs (k + 1) inside)) (
            polygon_Place_L1 p q xs (k + 1) inside))) (
        polygon_Place_L1 p q xs (k + 1) inside))
def polygon_Place (p : List P) (q : P) : Int :=
  Sum.elim (fun inside_2 =>
    inside_2) (fun r => r) (polygon_Place_L1 p q p 0 (-1))

set_option maxRecDepth 100000 in
theorem polygon_Place_w (A_p : Option Addr) (c_p : Nat) (p : List P) (q : P) (w : World) (h_p : Rd w 2 A_p (p.map P.c)) (hc_p : p.length ≤ c_p) : Calls Try.prog 61 #[.slice A_p p.length c_p, P.v q] w (Ret w (.int .i64 (polygon_Place p q))) := by
  have s_p := h_p.short; rw [List.length_map] at s_p
  refine calls_intro (vs := [.slice A_p p.length c_p, P.v q]) (w := w) Try.func61 rfl Try.ntmps61 rfl ?_
  refine TC.weak [(0, .slice A_p p.length c_p), (1, P.v q)] (by kernel_rfl) ?_
  refine TC.seq ?_
  refine TC.region ?_
  refine TL.write 0 (fun b1 => [(0, .slice A_p p.length c_p), (3, .pointer (some ⟨b1, 0, none⟩))]) (fun b1 => [.inl (b1, .cells (P.c q) 25 (0, 0))]) (fun b1 => ⟨by kernel_rfl, by kernel_rfl⟩) (fun b1 => ?_)
  refine TL.run 2 [] [(0, .slice A_p p.length c_p), (3, .pointer (some ⟨b1, 0, none⟩))] rfl ⟨by kernel_rfl, by kernel_rfl⟩ ?_
  refine TL.next rfl ?_
  refine TC.seq ?_
  refine TC.region ?_
  refine TL.run 1 [] [(0, .slice A_p p.length c_p), (3, .pointer (some ⟨b1, 0, none⟩)), (5, .int .i64 (-1))] rfl ⟨by kernel_rfl, by kernel_rfl⟩ ?_
  refine TL.next rfl ?_
  refine TC.seq ?_
  refine TC.seq ?_
  refine TC.region ?_
  refine TL.run 3 [] [(0, .slice A_p p.length c_p), (3, .pointer (some ⟨b1, 0, none⟩)), (5, .int .i64 (-1)), (11, .int .i64 (p.length : Int)), (12, .int .i64 0)] rfl ⟨by kernel_rfl, by kernel_rfl⟩ ?_
  refine TL.next rfl ?_
  refine TC.weak [(0, .slice A_p p.length c_p), (3, .pointer (some ⟨b1, 0, none⟩)), (5, .int .i64 (-1)), (11, .int .i64 (p.length : Int)), (12, .int .i64 0)] (by kernel_rfl) ?_
  obtain ⟨R1, hR⟩ : ∃ R, R = polygon_Place_L1 p q p 0 (-1) := ⟨_, rfl⟩
  refine TC.cut (S := Int) (fun inside_2 => [(5, .int .i64 inside_2)]) (fun inside_2 => []) (fun inside_2 => R1 = .inl inside_2) ?_ ?_
  · refine TC.block ?_
    refine TC.loop (X := Nat × Int) (fun (k, inside) => [(0, .slice A_p p.length c_p), (3, .pointer (some ⟨b1, 0, none⟩)), (5, .int .i64 inside), (11, .int .i64 (p.length : Int)), (12, .int .i64 (k : Int))]) (fun (k, inside) => [.inl (b1, .cells (P.c q) 25 (0, 0))]) (fun (k, inside) => p.length - k) (fun (k, inside) => k ≤ p.length ∧ R1 = polygon_Place_L1 p q (p.drop k) k inside) ?_ (0, (-1)) ⟨Nat.zero_le _, hR⟩
    rintro ⟨k, inside⟩ ⟨hk, hI⟩
    refine TC.seq ?_
    refine TC.region ?_
    refine TL.run 1 [] [(0, .slice A_p p.length c_p), (3, .pointer (some ⟨b1, 0, none⟩)), (5, .int .i64 inside), (11, .int .i64 (p.length : Int)), (12, .int .i64 (k : Int)), (13, .bool (decide ((k : Int) < (p.length : Int))))] rfl ⟨by kernel_rfl, by kernel_rfl⟩ ?_
    refine TL.next rfl ?_
    refine TC.seq ?_
    refine TC.cond (decide ((k : Int) < (p.length : Int))) rfl (by kernel_rfl) (fun h1 => ?_) (fun h1 => ?_)
    · have hlt : k < p.length := by have := of_decide_eq_true h1; first | omega | (simp at this; omega)
      obtain ⟨x, hx⟩ : ∃ x, p[k]? = some x := ⟨_, List.getElem?_eq_getElem hlt⟩
      have hd := drop_at hx
      refine TC.skip ?_
      refine TE.next ?_
      refine TC.seq ?_
      refine TC.block ?_
      refine TC.seq ?_
      refine TC.region ?_
      refine TL.run 2 [] [(0, .slice A_p p.length c_p), (3, .pointer (some ⟨b1, 0, none⟩)), (5, .int .i64 inside), (6, .int .i64 (k : Int)), (11, .int .i64 (p.length : Int)), (12, .int .i64 (k : Int))] rfl ⟨by kernel_rfl, by kernel_rfl⟩ ?_
      refine TL.next rfl ?_
      refine TC.seq ?_
      obtain ⟨r1, hr1⟩ : ∃ r, polygon_next p (k : Int) = r := ⟨_, rfl⟩
      refine TC.plan (G := Nat × Nat) (base := [(0, .slice A_p p.length c_p), (3, .pointer (some ⟨b1, 0, none⟩)), (5, .int .i64 inside), (6, .int .i64 (k : Int)), (11, .int .i64 (p.length : Int)), (12, .int .i64 (k : Int))]) (vals := fun γ => [.slice A_p p.length c_p, .int .i64 (k : Int), .pointer (some ((A_p.getD noAddr).add (k * 2))), P.v x, .slice A_p p.length c_p, .int .i64 (k : Int), P.v r1, .pointer (some ⟨γ.1, 0, none⟩), .pointer (some ⟨γ.2, 0, none⟩), undef, undef]) (writes := [7, 8, 9, 10]) (mem := fun bs γ => match bs with | [x7_, x8_, x9_, x10_] => (bif x9_ then [.inl (γ.1, .cells (P.c x) 25 (0, 0))] else bif x7_ then [.inl (γ.1, .cells (P.c P.zero) 25 (0, 0))] else []) ++ ((bif x10_ then [.inl (γ.2, .cells (P.c r1) 25 (0, 0))] else bif x8_ then [.inl (γ.2, .cells (P.c P.zero) 25 (0, 0))] else []) ++ ([.inl (b1, .cells (P.c q) 25 (0, 0))])) | _ => []) (0, 0) (fun γ => [(0, .slice A_p p.length c_p), (3, .pointer (some ⟨b1, 0, none⟩)), (5, .int .i64 inside), (7, .pointer (some ⟨γ.1, 0, none⟩)), (8, .pointer (some ⟨γ.2, 0, none⟩)), (11, .int .i64 (p.length : Int)), (12, .int .i64 (k : Int))]) (by kernel_rfl) (by kernel_rfl) (by kernel_rfl) (by kernel_rfl) (by kernel_rfl) (fun γ => by kernel_rfl) (fun _ hM => hM) (fun γ => by kernel_rfl) ?_ ?_
      · skip
        refine Steps.run (i := 0) 2 [0, 0] [.inl (b1, .cells (P.c q) 25 (0, 0))] (by kernel_rfl) (by kernel_rfl) (fun S (γ : Nat × Nat) w hM => by change Sat _ ((bif S 9 then [.inl (γ.1, .cells (P.c x) 25 (0, 0))] else bif S 7 then [.inl (γ.1, .cells (P.c P.zero) 25 (0, 0))] else []) ++ ((bif S 10 then [.inl (γ.2, .cells (P.c r1) 25 (0, 0))] else bif S 8 then [.inl (γ.2, .cells (P.c P.zero) 25 (0, 0))] else []) ++ ([.inl (b1, .cells (P.c q) 25 (0, 0))]))) w at hM; exact hM.sub (sub_skip (sub_skip (List.Sublist.refl _)))) (by kernel_rfl) (fun (γ : Nat × Nat) => ⟨by kernel_rfl, by kernel_rfl⟩) ?_
        refine Steps.val (i := 2) (fun (γ : Nat × Nat) => sV (Instr.indexAt 46 (.slice A_p p.length c_p) (.int .i64 (k : Int)))) (some 17) (fun (γ : Nat × Nat) => .pointer (some ((A_p.getD noAddr).add (k * 2)))) (fun _ => [.inl (b1, .cells (P.c q) 25 (0, 0))]) (by kernel_rfl) (fun S (γ : Nat × Nat) w _ hM => by change Sat _ ((bif S 9 then [.inl (γ.1, .cells (P.c x) 25 (0, 0))] else bif S 7 then [.inl (γ.1, .cells (P.c P.zero) 25 (0, 0))] else []) ++ ((bif S 10 then [.inl (γ.2, .cells (P.c r1) 25 (0, 0))] else bif S 8 then [.inl (γ.2, .cells (P.c P.zero) 25 (0, 0))] else []) ++ ([.inl (b1, .cells (P.c q) 25 (0, 0))]))) w at hM; exact hM.sub (sub_skip (sub_skip (List.Sublist.refl _)))) (fun (γ : Nat × Nat) w hM => run_index (h_p.sat hM) (by simp) (by kernel_rfl) (by first | omega | (simp only [List.length_drop]; omega) | (simp only [w64_eq]; omega) | exact (tm_in (by (first | (rw [w64_id (by omega)]; omega) | (simp only [w64_eq]; omega))) (by omega)).1 | exact (tm_in (by (first | (rw [w64_id (by omega)]; omega) | (simp only [w64_eq]; omega))) (by omega)).2.1 | exact (tm_in (by (first | (rw [w64_id (by omega)]; omega) | (simp only [w64_eq]; omega))) (by omega)).2.2 | (simp <;> omega)) (by first | omega | (simp only [List.length_drop]; omega) | (simp only [w64_eq]; omega) | exact (tm_in (by (first | (rw [w64_id (by omega)]; omega) | (simp only [w64_eq]; omega))) (by omega)).1 | exact (tm_in (by (first | (rw [w64_id (by omega)]; omega) | (simp only [w64_eq]; omega))) (by omega)).2.1 | exact (tm_in (by (first | (rw [w64_id (by omega)]; omega) | (simp only [w64_eq]; omega))) (by omega)).2.2 | (simp <;> omega))) (fun (γ : Nat × Nat) => by kernel_rfl) (fun (γ : Nat × Nat) => by kernel_rfl) ?_
        refine Steps.val (i := 3) (fun (γ : Nat × Nat) => sV (Instr.loadAt 25 (.pointer (some ((A_p.getD noAddr).add (k * 2)))))) (some 18) (fun (γ : Nat × Nat) => P.v x) (fun _ => [.inl (b1, .cells (P.c q) 25 (0, 0))]) (by kernel_rfl) (fun S (γ : Nat × Nat) w _ hM => by change Sat _ ((bif S 9 then [.inl (γ.1, .cells (P.c x) 25 (0, 0))] else bif S 7 then [.inl (γ.1, .cells (P.c P.zero) 25 (0, 0))] else []) ++ ((bif S 10 then [.inl (γ.2, .cells (P.c r1) 25 (0, 0))] else bif S 8 then [.inl (γ.2, .cells (P.c P.zero) 25 (0, 0))] else []) ++ ([.inl (b1, .cells (P.c q) 25 (0, 0))]))) w at hM; exact hM.sub (sub_skip (sub_skip (List.Sublist.refl _)))) (fun (γ : Nat × Nat) w hM => run_load_agg (n := 2) (off := 0) (P.v x) (h_p.sat hM) (map_at hx) (by kernel_rfl) (by kernel_rfl) (by kernel_rfl)) (fun (γ : Nat × Nat) => by kernel_rfl) (fun (γ : Nat × Nat) => by kernel_rfl) ?_
        refine Steps.run (i := 4) 6 [0, 0] [.inl (b1, .cells (P.c q) 25 (0, 0))] (by kernel_rfl) (by kernel_rfl) (fun S (γ : Nat × Nat) w hM => by change Sat _ ((bif S 9 then [.inl (γ.1, .cells (P.c x) 25 (0, 0))] else bif S 7 then [.inl (γ.1, .cells (P.c P.zero) 25 (0, 0))] else []) ++ ((bif S 10 then [.inl (γ.2, .cells (P.c r1) 25 (0, 0))] else bif S 8 then [.inl (γ.2, .cells (P.c P.zero) 25 (0, 0))] else []) ++ ([.inl (b1, .cells (P.c q) 25 (0, 0))]))) w at hM; exact hM.sub (sub_skip (sub_skip (List.Sublist.refl _)))) (by kernel_rfl) (fun (γ : Nat × Nat) => ⟨by kernel_rfl, by kernel_rfl⟩) ?_
        refine Steps.call (i := 6) 62 (fun (γ : Nat × Nat) => #[.slice A_p p.length c_p, .int .i64 (k : Int)]) (some 21) (fun (γ : Nat × Nat) => P.v r1) (fun (γ : Nat × Nat) => [.inl (b1, .cells (P.c q) 25 (0, 0))]) (by kernel_rfl) (fun S (γ : Nat × Nat) w _ hM => by change Sat _ ((bif S 9 then [.inl (γ.1, .cells (P.c x) 25 (0, 0))] else bif S 7 then [.inl (γ.1, .cells (P.c P.zero) 25 (0, 0))] else []) ++ ((bif S 10 then [.inl (γ.2, .cells (P.c r1) 25 (0, 0))] else bif S 8 then [.inl (γ.2, .cells (P.c P.zero) 25 (0, 0))] else []) ++ ([.inl (b1, .cells (P.c q) 25 (0, 0))]))) w at hM; exact hM.sub (sub_skip (sub_skip (List.Sublist.refl _)))) (fun (γ : Nat × Nat) w hM => by have h := polygon_next_w A_p c_p p (k : Int) w (h_p.sat hM) hc_p (by first | omega | (simp only [w64_eq]; omega) | (simp <;> omega)) (by first | omega | (simp only [w64_eq]; omega) | (simp <;> omega)); rw [hr1] at h; exact h) (fun (γ : Nat × Nat) => by kernel_rfl) (fun (γ : Nat × Nat) => by kernel_rfl) ?_
        refine Steps.op (i := 7) (Γ := Nat) (fun g (γ : Nat × Nat) => (g, γ.2)) (fun _ => []) (fun b (γ : Nat × Nat) => [.inl (b, .cells (P.c P.zero) 25 (0, 0))]) (fun S (γ : Nat × Nat) => (bif S 10 then [.inl (γ.2, .cells (P.c r1) 25 (0, 0))] else bif S 8 then [.inl (γ.2, .cells (P.c P.zero) 25 (0, 0))] else []) ++ ([.inl (b1, .cells (P.c q) 25 (0, 0))])) [7, 9, 10] (fun (γ : Nat × Nat) => sV (Instr.alloc 25 true (.tuple #[]))) (some 7) (fun b (γ : Nat × Nat) => .pointer (some ⟨b, 0, none⟩)) (fun S (γ : Nat × Nat) hj hd hl => by change List.Perm (((bif S 9 then [.inl (γ.1, .cells (P.c x) 25 (0, 0))] else bif S 7 then [.inl (γ.1, .cells (P.c P.zero) 25 (0, 0))] else []) ++ ((bif S 10 then [.inl (γ.2, .cells (P.c r1) 25 (0, 0))] else bif S 8 then [.inl (γ.2, .cells (P.c P.zero) 25 (0, 0))] else []) ++ ([.inl (b1, .cells (P.c q) 25 (0, 0))]))) : Mem) _; rw [hj, hl 9 (by kernel_rfl)]; exact List.Perm.refl _) (fun S (γ : Nat × Nat) g hl => by change List.Perm _ (((bif S 9 then [.inl (g, .cells (P.c x) 25 (0, 0))] else bif true then [.inl (g, .cells (P.c P.zero) 25 (0, 0))] else []) ++ ((bif S 10 then [.inl (γ.2, .cells (P.c r1) 25 (0, 0))] else bif S 8 then [.inl (γ.2, .cells (P.c P.zero) 25 (0, 0))] else []) ++ ([.inl (b1, .cells (P.c q) 25 (0, 0))]))) : Mem); rw [hl 9 (by kernel_rfl)]; exact (List.Perm.refl _).symm) (fun (γ : Nat × Nat) M' w hM => run_new (v := fun b => .pointer (some ⟨b, 0, none⟩)) (fun b M => by kernel_rfl) M' w hM) (fun (γ : Nat × Nat) => by kernel_rfl) (fun (γ : Nat × Nat) g => by kernel_rfl) (by kernel_rfl) (fun (γ : Nat × Nat) g => by kernel_rfl) ?_
        refine Steps.op (i := 8) (Γ := Nat) (fun g (γ : Nat × Nat) => (γ.1, g)) (fun _ => []) (fun b (γ : Nat × Nat) => [.inl (b, .cells (P.c P.zero) 25 (0, 0))]) (fun S (γ : Nat × Nat) => (bif S 9 then [.inl (γ.1, .cells (P.c x) 25 (0, 0))] else bif S 7 then [.inl (γ.1, .cells (P.c P.zero) 25 (0, 0))] else []) ++ ([.inl (b1, .cells (P.c q) 25 (0, 0))])) [8, 9, 10] (fun (γ : Nat × Nat) => sV (Instr.alloc 25 true (.tuple #[]))) (some 8) (fun b (γ : Nat × Nat) => .pointer (some ⟨b, 0, none⟩)) (fun S (γ : Nat × Nat) hj hd hl => by change List.Perm (((bif S 9 then [.inl (γ.1, .cells (P.c x) 25 (0, 0))] else bif S 7 then [.inl (γ.1, .cells (P.c P.zero) 25 (0, 0))] else []) ++ ((bif S 10 then [.inl (γ.2, .cells (P.c r1) 25 (0, 0))] else bif S 8 then [.inl (γ.2, .cells (P.c P.zero) 25 (0, 0))] else []) ++ ([.inl (b1, .cells (P.c q) 25 (0, 0))]))) : Mem) _; rw [hj, hl 10 (by kernel_rfl)]; exact (List.Perm.append_left _ (List.Perm.refl _)).trans (perm_mid _ _ _)) (fun S (γ : Nat × Nat) g hl => by change List.Perm _ (((bif S 9 then [.inl (γ.1, .cells (P.c x) 25 (0, 0))] else bif S 7 then [.inl (γ.1, .cells (P.c P.zero) 25 (0, 0))] else []) ++ ((bif S 10 then [.inl (g, .cells (P.c r1) 25 (0, 0))] else bif true then [.inl (g, .cells (P.c P.zero) 25 (0, 0))] else []) ++ ([.inl (b1, .cells (P.c q) 25 (0, 0))]))) : Mem); rw [hl 10 (by kernel_rfl)]; exact ((List.Perm.append_left _ (List.Perm.refl _)).trans (perm_mid _ _ _)).symm) (fun (γ : Nat × Nat) M' w hM => run_new (v := fun b => .pointer (some ⟨b, 0, none⟩)) (fun b M => by kernel_rfl) M' w hM) (fun (γ : Nat × Nat) => by kernel_rfl) (fun (γ : Nat × Nat) g => by kernel_rfl) (by kernel_rfl) (fun (γ : Nat × Nat) g => by kernel_rfl) ?_
        refine Steps.put (i := 9) (fun (γ : Nat × Nat) => [.inl (γ.1, .cells (P.c P.zero) 25 (0, 0))]) (fun (γ : Nat × Nat) => [.inl (γ.1, .cells (P.c x) 25 (0, 0))]) (fun S (γ : Nat × Nat) => (bif S 10 then [.inl (γ.2, .cells (P.c r1) 25 (0, 0))] else bif S 8 then [.inl (γ.2, .cells (P.c P.zero) 25 (0, 0))] else []) ++ ([.inl (b1, .cells (P.c q) 25 (0, 0))])) (fun (γ : Nat × Nat) => sU (Instr.storeAt 25 (.pointer (some ⟨γ.1, 0, none⟩)) (P.v x))) none (fun S (γ : Nat × Nat) hj hd hl => by change List.Perm (((bif S 9 then [.inl (γ.1, .cells (P.c x) 25 (0, 0))] else bif S 7 then [.inl (γ.1, .cells (P.c P.zero) 25 (0, 0))] else []) ++ ((bif S 10 then [.inl (γ.2, .cells (P.c r1) 25 (0, 0))] else bif S 8 then [.inl (γ.2, .cells (P.c P.zero) 25 (0, 0))] else []) ++ ([.inl (b1, .cells (P.c q) 25 (0, 0))]))) : Mem) _; rw [hj, hd 7 (by kernel_rfl)]; exact List.Perm.refl _) (fun S (γ : Nat × Nat) _ => (List.Perm.refl _).symm) (fun (γ : Nat × Nat) M' w hM => run_put (fun b M => by kernel_rfl) (fun b M => by kernel_rfl) M' w hM) (fun (γ : Nat × Nat) => by kernel_rfl) (fun (γ : Nat × Nat) => by kernel_rfl) ?_
        refine Steps.put (i := 10) (fun (γ : Nat × Nat) => [.inl (γ.2, .cells (P.c P.zero) 25 (0, 0))]) (fun (γ : Nat × Nat) => [.inl (γ.2, .cells (P.c r1) 25 (0, 0))]) (fun S (γ : Nat × Nat) => (bif S 9 then [.inl (γ.1, .cells (P.c x) 25 (0, 0))] else bif S 7 then [.inl (γ.1, .cells (P.c P.zero) 25 (0, 0))] else []) ++ ([.inl (b1, .cells (P.c q) 25 (0, 0))])) (fun (γ : Nat × Nat) => sU (Instr.storeAt 25 (.pointer (some ⟨γ.2, 0, none⟩)) (P.v r1))) none (fun S (γ : Nat × Nat) hj hd hl => by change List.Perm (((bif S 9 then [.inl (γ.1, .cells (P.c x) 25 (0, 0))] else bif S 7 then [.inl (γ.1, .cells (P.c P.zero) 25 (0, 0))] else []) ++ ((bif S 10 then [.inl (γ.2, .cells (P.c r1) 25 (0, 0))] else bif S 8 then [.inl (γ.2, .cells (P.c P.zero) 25 (0, 0))] else []) ++ ([.inl (b1, .cells (P.c q) 25 (0, 0))]))) : Mem) _; rw [hj, hd 8 (by kernel_rfl)]; exact (List.Perm.append_left _ (List.Perm.refl _)).trans (perm_mid _ _ _)) (fun S (γ : Nat × Nat) _ => ((List.Perm.append_left _ (List.Perm.refl _)).trans (perm_mid _ _ _)).symm) (fun (γ : Nat × Nat) M' w hM => run_put (fun b M => by kernel_rfl) (fun b M => by kernel_rfl) M' w hM) (fun (γ : Nat × Nat) => by kernel_rfl) (fun (γ : Nat × Nat) => by kernel_rfl) ?_
        exact Steps.done (by kernel_rfl)
      · rintro ⟨b2, b3⟩
        refine TE.conv [.inl (b2, .cells (P.c x) 25 (0, 0)), .inl (b3, .cells (P.c r1) 25 (0, 0)), .inl (b1, .cells (P.c q) 25 (0, 0))] (fun _ hM => hM) ?_
        refine TE.next ?_
        refine TC.seq ?_
        refine TC.seq ?_
        refine TC.region ?_
        refine TL.run 3 [0, 1, 2] [(0, .slice A_p p.length c_p), (3, .pointer (some ⟨b1, 0, none⟩)), (5, .int .i64 inside), (7, .pointer (some ⟨b2, 0, none⟩)), (8, .pointer (some ⟨b3, 0, none⟩)), (11, .int .i64 (p.length : Int)), (12, .int .i64 (k : Int)), (22, P.v x), (23, P.v r1), (24, P.v q)] rfl ⟨by kernel_rfl, by kernel_rfl⟩ ?_
        refine TL.call (some 25) [(0, .slice A_p p.length c_p), (3, .pointer (some ⟨b1, 0, none⟩)), (5, .int .i64 inside), (7, .pointer (some ⟨b2, 0, none⟩)), (8, .pointer (some ⟨b3, 0, none⟩)), (11, .int .i64 (p.length : Int)), (12, .int .i64 (k : Int)), (25, .bool ((polygon_on x r1 q)))] (fun w _ => polygon_on_w x r1 q w) (by kernel_rfl) (by kernel_rfl) ?_
        generalize hr2 : polygon_on x r1 q = r2
        refine TL.next rfl ?_
        refine TC.cond r2 rfl (by kernel_rfl) (fun h2 => ?_) (fun h2 => ?_)
        · refine TC.seq ?_
          refine TC.region ?_
          refine TL.run 1 [] [(4, .int .i64 0)] rfl ⟨by kernel_rfl, by kernel_rfl⟩ ?_
          refine TL.next rfl ?_
          refine TC.ret ?_
          refine TE.ret_then (TE.ret_block (TE.ret_then (TE.ret_then (TE.ret_block (TE.ret_then (TE.ret_then ?_))))))
          have e : polygon_Place p q = 0 := by subst hr1 hr2; unfold polygon_Place; exact elim_r (hR.symm.trans (hI.trans (by rw [hd]; exact cond_t h2 (rfl)))) rfl
          exact TE.ret [] (.int .i64 0) ⟨by kernel_rfl, by kernel_rfl⟩ (by rw [e]; first | done | kernel_rfl)
        · refine TC.skip ?_
          refine TE.next ?_
          refine TC.seq ?_
          refine TC.region ?_
          refine TL.run 11 [0, 2, 1, 2] [(0, .slice A_p p.length c_p), (3, .pointer (some ⟨b1, 0, none⟩)), (5, .int .i64 inside), (7, .pointer (some ⟨b2, 0, none⟩)), (8, .pointer (some ⟨b3, 0, none⟩)), (11, .int .i64 (p.length : Int)), (12, .int .i64 (k : Int)), (36, .bool (!((decide (x.Y > q.Y)) == (decide (r1.Y > q.Y)))))] rfl ⟨by kernel_rfl, by kernel_rfl⟩ ?_
          refine TL.next rfl ?_
          refine TC.cond (!((decide (x.Y > q.Y)) == (decide (r1.Y > q.Y)))) rfl (by kernel_rfl) (fun h3 => ?_) (fun h3 => ?_)
          · refine TC.seq ?_
            refine TC.region ?_
            refine TL.run 3 [0, 1, 2] [(0, .slice A_p p.length c_p), (3, .pointer (some ⟨b1, 0, none⟩)), (5, .int .i64 inside), (7, .pointer (some ⟨b2, 0, none⟩)), (8, .pointer (some ⟨b3, 0, none⟩)), (11, .int .i64 (p.length : Int)), (12, .int .i64 (k : Int)), (37, P.v x), (38, P.v r1), (39, P.v q)] rfl ⟨by kernel_rfl, by kernel_rfl⟩ ?_
            refine TL.call (some 40) [(0, .slice A_p p.length c_p), (3, .pointer (some ⟨b1, 0, none⟩)), (5, .int .i64 inside), (7, .pointer (some ⟨b2, 0, none⟩)), (8, .pointer (some ⟨b3, 0, none⟩)), (11, .int .i64 (p.length : Int)), (12, .int .i64 (k : Int)), (40, .int .i64 (plane_Turn x r1 q))] (fun w _ => plane_Turn_w x r1 q w) (by kernel_rfl) (by kernel_rfl) ?_
            generalize hr3 : plane_Turn x r1 q = r3
            refine TL.run 5 [] [(0, .slice A_p p.length c_p), (3, .pointer (some ⟨b1, 0, none⟩)), (5, .int .i64 inside), (7, .pointer (some ⟨b2, 0, none⟩)), (8, .pointer (some ⟨b3, 0, none⟩)), (9, .int .i64 r3), (11, .int .i64 (p.length : Int)), (12, .int .i64 (k : Int))] rfl ⟨by kernel_rfl, by kernel_rfl⟩ ?_
            refine TL.next rfl ?_
            refine TC.seq ?_
            refine TC.region ?_
            refine TL.run 6 [1, 0] [(0, .slice A_p p.length c_p), (3, .pointer (some ⟨b1, 0, none⟩)), (5, .int .i64 inside), (7, .pointer (some ⟨b2, 0, none⟩)), (8, .pointer (some ⟨b3, 0, none⟩)), (9, .int .i64 r3), (11, .int .i64 (p.length : Int)), (12, .int .i64 (k : Int)), (46, .bool (decide (r1.Y > x.Y)))] rfl ⟨by kernel_rfl, by kernel_rfl⟩ ?_
            refine TL.join 46 (decide (r1.Y > x.Y)) 9 [] [] (fun β => [(0, .slice A_p p.length c_p), (3, .pointer (some ⟨b1, 0, none⟩)), (5, .int .i64 inside), (7, .pointer (some ⟨b2, 0, none⟩)), (8, .pointer (some ⟨b3, 0, none⟩)), (9, .int .i64 r3), (11, .int .i64 (p.length : Int)), (12, .int .i64 (k : Int)), (49, .bool (β && (decide (r3 > 0))))]) (by kernel_rfl) rfl ⟨by kernel_rfl, by kernel_rfl⟩ ⟨by kernel_rfl, by kernel_rfl⟩ ?_
            refine TL.run 10 [] [(0, .slice A_p p.length c_p), (3, .pointer (some ⟨b1, 0, none⟩)), (5, .int .i64 inside), (7, .pointer (some ⟨b2, 0, none⟩)), (8, .pointer (some ⟨b3, 0, none⟩)), (9, .int .i64 r3), (11, .int .i64 (p.length : Int)), (12, .int .i64 (k : Int)), (50, .bool ((decide (r1.Y > x.Y)) && (decide (r3 > 0))))] rfl ⟨by kernel_rfl, by kernel_rfl⟩ ?_
            refine TL.split 50 ((decide (r1.Y > x.Y)) && (decide (r3 > 0))) (by kernel_rfl) (fun h4 => ?_) (fun h4 => ?_)
            · refine TL.run 20 [] [(0, .slice A_p p.length c_p), (3, .pointer (some ⟨b1, 0, none⟩)), (5, .int .i64 inside), (11, .int .i64 (p.length : Int)), (12, .int .i64 (k : Int)), (60, .bool true)] rfl ⟨by kernel_rfl, by kernel_rfl⟩ ?_
              refine TL.next rfl ?_
              refine TC.condT rfl (by kernel_rfl) ?_
              refine TC.region ?_
              refine TL.run 3 [] [(0, .slice A_p p.length c_p), (3, .pointer (some ⟨b1, 0, none⟩)), (5, .int .i64 (w64 (0 - inside))), (11, .int .i64 (p.length : Int)), (12, .int .i64 (k : Int))] rfl ⟨by kernel_rfl, by kernel_rfl⟩ ?_
              refine TL.done rfl ?_
              refine TE.normal_block ?_
              refine TE.next ?_
              refine TC.region ?_
              refine TL.run 2 [] [(0, .slice A_p p.length c_p), (3, .pointer (some ⟨b1, 0, none⟩)), (5, .int .i64 (w64 (0 - inside))), (11, .int .i64 (p.length : Int)), (12, .int .i64 (w64 ((k : Int) + 1)))] rfl ⟨by kernel_rfl, by kernel_rfl⟩ ?_
              refine TL.done rfl ?_
              refine TE.rw 12 (.int .i64 (w64 ((k : Int) + 1))) (.int .i64 ((k + 1 : Nat) : Int)) (by kernel_rfl) (w64_cast k (by omega)) ?_
              exact TE.again (x := (k, inside)) (k + 1, w64 (0 - inside)) ⟨by omega, hI.trans (by subst hr1 hr2 hr3; rw [hd]; exact cond_f h2 (cond_t h3 (cond_t h4 (rfl))))⟩ (by show p.length - (k + 1) < p.length - k; omega) (by kernel_rfl) (.cons _ (.cons _ (.cons_cons _ (.slnil))))
            · refine TL.run 16 [1, 0] [(0, .slice A_p p.length c_p), (3, .pointer (some ⟨b1, 0, none⟩)), (5, .int .i64 inside), (9, .int .i64 r3), (11, .int .i64 (p.length : Int)), (12, .int .i64 (k : Int)), (50, .bool false), (56, .bool (decide (r1.Y < x.Y)))] rfl ⟨by kernel_rfl, by kernel_rfl⟩ ?_
              refine TL.split 56 (decide (r1.Y < x.Y)) (by kernel_rfl) (fun h5 => ?_) (fun h5 => ?_)
              · refine TL.run 20 [] [(0, .slice A_p p.length c_p), (3, .pointer (some ⟨b1, 0, none⟩)), (5, .int .i64 inside), (11, .int .i64 (p.length : Int)), (12, .int .i64 (k : Int)), (60, .bool (decide (r3 < 0)))] rfl ⟨by kernel_rfl, by kernel_rfl⟩ ?_
                refine TL.next rfl ?_
                refine TC.cond (decide (r3 < 0)) rfl (by kernel_rfl) (fun h6 => ?_) (fun h6 => ?_)
                · refine TC.region ?_
                  refine TL.run 3 [] [(0, .slice A_p p.length c_p), (3, .pointer (some ⟨b1, 0, none⟩)), (5, .int .i64 (w64 (0 - inside))), (11, .int .i64 (p.length : Int)), (12, .int .i64 (k : Int))] rfl ⟨by kernel_rfl, by kernel_rfl⟩ ?_
                  refine TL.done rfl ?_
                  refine TE.normal_block ?_
                  refine TE.next ?_
                  refine TC.region ?_
                  refine TL.run 2 [] [(0, .slice A_p p.length c_p), (3, .pointer (some ⟨b1, 0, none⟩)), (5, .int .i64 (w64 (0 - inside))), (11, .int .i64 (p.length : Int)), (12, .int .i64 (w64 ((k : Int) + 1)))] rfl ⟨by kernel_rfl, by kernel_rfl⟩ ?_
                  refine TL.done rfl ?_
                  refine TE.rw 12 (.int .i64 (w64 ((k : Int) + 1))) (.int .i64 ((k + 1 : Nat) : Int)) (by kernel_rfl) (w64_cast k (by omega)) ?_
                  exact TE.again (x := (k, inside)) (k + 1, w64 (0 - inside)) ⟨by omega, hI.trans (by subst hr1 hr2 hr3; rw [hd]; exact cond_f h2 (cond_t h3 (cond_f h4 (cond_t h5 (cond_t h6 (rfl))))))⟩ (by show p.length - (k + 1) < p.length - k; omega) (by kernel_rfl) (.cons _ (.cons _ (.cons_cons _ (.slnil))))
                · refine TC.skip ?_
                  refine TE.normal_block ?_
                  refine TE.next ?_
                  refine TC.region ?_
                  refine TL.run 2 [] [(0, .slice A_p p.length c_p), (3, .pointer (some ⟨b1, 0, none⟩)), (5, .int .i64 inside), (11, .int .i64 (p.length : Int)), (12, .int .i64 (w64 ((k : Int) + 1)))] rfl ⟨by kernel_rfl, by kernel_rfl⟩ ?_
                  refine TL.done rfl ?_
                  refine TE.rw 12 (.int .i64 (w64 ((k : Int) + 1))) (.int .i64 ((k + 1 : Nat) : Int)) (by kernel_rfl) (w64_cast k (by omega)) ?_
                  exact TE.again (x := (k, inside)) (k + 1, inside) ⟨by omega, hI.trans (by subst hr1 hr2 hr3; rw [hd]; exact cond_f h2 (cond_t h3 (cond_f h4 (cond_t h5 (cond_f h6 (rfl))))))⟩ (by show p.length - (k + 1) < p.length - k; omega) (by kernel_rfl) (.cons _ (.cons _ (.cons_cons _ (.slnil))))
              · refine TL.run 20 [] [(0, .slice A_p p.length c_p), (3, .pointer (some ⟨b1, 0, none⟩)), (5, .int .i64 inside), (11, .int .i64 (p.length : Int)), (12, .int .i64 (k : Int)), (60, .bool false)] rfl ⟨by kernel_rfl, by kernel_rfl⟩ ?_
                refine TL.next rfl ?_
                refine TC.condF rfl (by kernel_rfl) ?_
                refine TC.skip ?_
                refine TE.normal_block ?_
                refine TE.next ?_
                refine TC.region ?_
                refine TL.run 2 [] [(0, .slice A_p p.length c_p), (3, .pointer (some ⟨b1, 0, none⟩)), (5, .int .i64 inside), (11, .int .i64 (p.length : Int)), (12, .int .i64 (w64 ((k : Int) + 1)))] rfl ⟨by kernel_rfl, by kernel_rfl⟩ ?_
                refine TL.done rfl ?_
                refine TE.rw 12 (.int .i64 (w64 ((k : Int) + 1))) (.int .i64 ((k + 1 : Nat) : Int)) (by kernel_rfl) (w64_cast k (by omega)) ?_
                exact TE.again (x := (k, inside)) (k + 1, inside) ⟨by omega, hI.trans (by subst hr1 hr2 hr3; rw [hd]; exact cond_f h2 (cond_t h3 (cond_f h4 (cond_f h5 (rfl)))))⟩ (by show p.length - (k + 1) < p.length - k; omega) (by kernel_rfl) (.cons _ (.cons _ (.cons_cons _ (.slnil))))
          · refine TC.skip ?_
            refine TE.normal_block ?_
            refine TE.next ?_
            refine TC.region ?_
            refine TL.run 2 [] [(0, .slice A_p p.length c_p), (3, .pointer (some ⟨b1, 0, none⟩)), (5, .int .i64 inside), (11, .int .i64 (p.length : Int)), (12, .int .i64 (w64 ((k : Int) + 1)))] rfl ⟨by kernel_rfl, by kernel_rfl⟩ ?_
            refine TL.done rfl ?_
            refine TE.rw 12 (.int .i64 (w64 ((k : Int) + 1))) (.int .i64 ((k + 1 : Nat) : Int)) (by kernel_rfl) (w64_cast k (by omega)) ?_
            exact TE.again (x := (k, inside)) (k + 1, inside) ⟨by omega, hI.trans (by subst hr1 hr2; rw [hd]; exact cond_f h2 (cond_f h3 (rfl)))⟩ (by show p.length - (k + 1) < p.length - k; omega) (by kernel_rfl) (.cons _ (.cons _ (.cons_cons _ (.slnil))))
    · have hd : p.drop k = [] := List.drop_eq_nil_of_le (by have := of_decide_eq_false h1; first | omega | (simp at this; omega))
      refine TC.exit ?_
      refine TE.exit_then (TE.exit_then (TE.exit_same ?_))
      exact TE.cut inside (hI.trans (by rw [hd]; exact rfl)) (by kernel_rfl) (.cons _ (.slnil))
  · rintro inside_2 hJ
    refine TE.next ?_
    refine TC.seq ?_
    refine TC.region ?_
    refine TL.run 2 [] [(4, .int .i64 inside_2)] rfl ⟨by kernel_rfl, by kernel_rfl⟩ ?_
    refine TL.next rfl ?_
    refine TC.ret ?_
    have e : polygon_Place p q = inside_2 := by unfold polygon_Place; exact elim_l (hR.symm.trans hJ) (rfl)
    exact TE.ret [] (.int .i64 inside_2) ⟨by kernel_rfl, by kernel_rfl⟩ (by rw [e]; first | done | kernel_rfl)

def polygon_Locate (p : List P) (q : P) : Int × Int :=
  let r1 := polygon_Check p
  cond (r1 != 0) (
    (0, r1)) (
    let r2 := plane_Check q
    cond (r2 != 0) (
      (0, r2)) (
      let r3 := polygon_Place p q
      (r3, 0)))

set_option maxRecDepth 100000 in
theorem polygon_Locate_w (A_p : Option Addr) (c_p : Nat) (p : List P) (q : P) (w : World) (h_p : Rd w 2 A_p (p.map P.c)) (hc_p : p.length ≤ c_p) : Calls Try.prog 23 #[.slice A_p p.length c_p, P.v q] w (Ret w (.tuple #[.int .i64 ((polygon_Locate p q).1), .int .i64 ((polygon_Locate p q).2)])) := by
  have s_p := h_p.short; rw [List.length_map] at s_p
  refine calls_intro (vs := [.slice A_p p.length c_p, P.v q]) (w := w) Try.func23 rfl Try.ntmps23 rfl ?_
  refine TC.weak [(0, .slice A_p p.length c_p), (1, P.v q)] (by kernel_rfl) ?_
  refine TC.seq ?_
  refine TC.region ?_
  refine TL.write 0 (fun b1 => [(0, .slice A_p p.length c_p), (3, .pointer (some ⟨b1, 0, none⟩))]) (fun b1 => [.inl (b1, .cells (P.c q) 25 (0, 0))]) (fun b1 => ⟨by kernel_rfl, by kernel_rfl⟩) (fun b1 => ?_)
  refine TL.run 3 [] [(0, .slice A_p p.length c_p), (3, .pointer (some ⟨b1, 0, none⟩))] rfl ⟨by kernel_rfl, by kernel_rfl⟩ ?_
  refine TL.next rfl ?_
  refine TC.seq ?_
  refine TC.seq ?_
  refine TC.region ?_
  refine TL.run 1 [] [(0, .slice A_p p.length c_p), (3, .pointer (some ⟨b1, 0, none⟩)), (8, .slice A_p p.length c_p)] rfl ⟨by kernel_rfl, by kernel_rfl⟩ ?_
  refine TL.call (some 9) [(0, .slice A_p p.length c_p), (3, .pointer (some ⟨b1, 0, none⟩)), (9, .int .i64 (polygon_Check p))] (fun w hM => polygon_Check_w A_p c_p p w (h_p.sat hM) hc_p) (by kernel_rfl) (by kernel_rfl) ?_
  generalize hr1 : polygon_Check p = r1
  refine TL.run 3 [] [(0, .slice A_p p.length c_p), (3, .pointer (some ⟨b1, 0, none⟩)), (6, .int .i64 r1)] rfl ⟨by kernel_rfl, by kernel_rfl⟩ ?_
  refine TL.next rfl ?_
  refine TC.seq ?_
  refine TC.region ?_
  refine TL.run 2 [] [(0, .slice A_p p.length c_p), (3, .pointer (some ⟨b1, 0, none⟩)), (6, .int .i64 r1), (11, .bool (r1 != 0))] rfl ⟨by kernel_rfl, by kernel_rfl⟩ ?_
  refine TL.next rfl ?_
  refine TC.cond (r1 != 0) rfl (by kernel_rfl) (fun h1 => ?_) (fun h1 => ?_)
  · refine TC.seq ?_
    refine TC.region ?_
    refine TL.run 3 [] [(4, .int .i64 0), (5, .int .i64 r1)] rfl ⟨by kernel_rfl, by kernel_rfl⟩ ?_
    refine TL.next rfl ?_
    refine TC.ret ?_
    refine TE.ret_then ?_
    have e : polygon_Locate p q = (0, r1) := by subst hr1; unfold polygon_Locate; exact cond_t h1 (rfl)
    exact TE.ret [] (.tuple #[.int .i64 0, .int .i64 r1]) ⟨by kernel_rfl, by kernel_rfl⟩ (by rw [e]; first | done | kernel_rfl)
  · refine TC.skip ?_
    refine TE.next ?_
    refine TC.seq ?_
    refine TC.seq ?_
    refine TC.region ?_
    refine TL.run 1 [0] [(0, .slice A_p p.length c_p), (3, .pointer (some ⟨b1, 0, none⟩)), (13, P.v q)] rfl ⟨by kernel_rfl, by kernel_rfl⟩ ?_
    refine TL.call (some 14) [(0, .slice A_p p.length c_p), (3, .pointer (some ⟨b1, 0, none⟩)), (14, .int .i64 (plane_Check q))] (fun w _ => plane_Check_w q w) (by kernel_rfl) (by kernel_rfl) ?_
    generalize hr2 : plane_Check q = r2
    refine TL.run 3 [] [(0, .slice A_p p.length c_p), (3, .pointer (some ⟨b1, 0, none⟩)), (7, .int .i64 r2)] rfl ⟨by kernel_rfl, by kernel_rfl⟩ ?_
    refine TL.next rfl ?_
    refine TC.seq ?_
    refine TC.region ?_
    refine TL.run 2 [] [(0, .slice A_p p.length c_p), (3, .pointer (some ⟨b1, 0, none⟩)), (7, .int .i64 r2), (16, .bool (r2 != 0))] rfl ⟨by kernel_rfl, by kernel_rfl⟩ ?_
    refine TL.next rfl ?_
    refine TC.cond (r2 != 0) rfl (by kernel_rfl) (fun h2 => ?_) (fun h2 => ?_)
    · refine TC.seq ?_
      refine TC.region ?_
      refine TL.run 3 [] [(4, .int .i64 0), (5, .int .i64 r2)] rfl ⟨by kernel_rfl, by kernel_rfl⟩ ?_
      refine TL.next rfl ?_
      refine TC.ret ?_
      refine TE.ret_then ?_
      have e : polygon_Locate p q = (0, r2) := by subst hr1 hr2; unfold polygon_Locate; exact cond_f h1 (cond_t h2 (rfl))
      exact TE.ret [] (.tuple #[.int .i64 0, .int .i64 r2]) ⟨by kernel_rfl, by kernel_rfl⟩ (by rw [e]; first | done | kernel_rfl)
    · refine TC.skip ?_
      refine TE.next ?_
      refine TC.seq ?_
      refine TC.region ?_
      refine TL.run 2 [0] [(18, .slice A_p p.length c_p), (19, P.v q)] rfl ⟨by kernel_rfl, by kernel_rfl⟩ ?_
      refine TL.call (some 20) [(20, .int .i64 (polygon_Place p q))] (fun w hM => polygon_Place_w A_p c_p p q w (h_p.sat hM) hc_p) (by kernel_rfl) (by kernel_rfl) ?_
      generalize hr3 : polygon_Place p q = r3
      refine TL.run 5 [] [(4, .int .i64 r3), (5, .int .i64 0)] rfl ⟨by kernel_rfl, by kernel_rfl⟩ ?_
      refine TL.next rfl ?_
      refine TC.ret ?_
      have e : polygon_Locate p q = (r3, 0) := by subst hr1 hr2 hr3; unfold polygon_Locate; exact cond_f h1 (cond_f h2 (rfl))
      exact TE.ret [] (.tuple #[.int .i64 r3, .int .i64 0]) ⟨by kernel_rfl, by kernel_rfl⟩ (by rw [e]; first | done | kernel_rfl)

def polygon_Area (p : List P) : Int × Int :=
  let r1 := polygon_Check p
  cond (r1 != 0) (
    (0, r1)) (
    let r2 := polygon_twice p
    (r2, 0))

set_option maxRecDepth 100000 in
theorem polygon_Area_w (A_p : Option Addr) (c_p : Nat) (p : List P) (w : World) (h_p : Rd w 2 A_p (p.map P.c)) (hc_p : p.length ≤ c_p) : Calls Try.prog 60 #[.slice A_p p.length c_p] w (Ret w (.tuple #[.int .i64 ((polygon_Area p).1), .int .i64 ((polygon_Area p).2)])) := by
  have s_p := h_p.short; rw [List.length_map] at s_p
  refine calls_intro (vs := [.slice A_p p.length c_p]) (w := w) Try.func60 rfl Try.ntmps60 rfl ?_
  refine TC.weak [(0, .slice A_p p.length c_p)] (by kernel_rfl) ?_
  refine TC.seq ?_
  refine TC.region ?_
  refine TL.run 2 [] [(0, .slice A_p p.length c_p)] rfl ⟨by kernel_rfl, by kernel_rfl⟩ ?_
  refine TL.next rfl ?_
  refine TC.seq ?_
  refine TC.seq ?_
  refine TC.region ?_
  refine TL.run 1 [] [(0, .slice A_p p.length c_p), (5, .slice A_p p.length c_p)] rfl ⟨by kernel_rfl, by kernel_rfl⟩ ?_
  refine TL.call (some 6) [(0, .slice A_p p.length c_p), (6, .int .i64 (polygon_Check p))] (fun w hM => polygon_Check_w A_p c_p p w (h_p.sat hM) hc_p) (by kernel_rfl) (by kernel_rfl) ?_
  generalize hr1 : polygon_Check p = r1
  refine TL.run 3 [] [(0, .slice A_p p.length c_p), (4, .int .i64 r1)] rfl ⟨by kernel_rfl, by kernel_rfl⟩ ?_
  refine TL.next rfl ?_
  refine TC.seq ?_
  refine TC.region ?_
  refine TL.run 2 [] [(0, .slice A_p p.length c_p), (4, .int .i64 r1), (8, .bool (r1 != 0))] rfl ⟨by kernel_rfl, by kernel_rfl⟩ ?_
  refine TL.next rfl ?_
  refine TC.cond (r1 != 0) rfl (by kernel_rfl) (fun h1 => ?_) (fun h1 => ?_)
  · refine TC.seq ?_
    refine TC.region ?_
    refine TL.run 3 [] [(2, .int .i64 0), (3, .int .i64 r1)] rfl ⟨by kernel_rfl, by kernel_rfl⟩ ?_
    refine TL.next rfl ?_
    refine TC.ret ?_
    refine TE.ret_then ?_
    have e : polygon_Area p = (0, r1) := by subst hr1; unfold polygon_Area; exact cond_t h1 (rfl)
    exact TE.ret [] (.tuple #[.int .i64 0, .int .i64 r1]) ⟨by kernel_rfl, by kernel_rfl⟩ (by rw [e]; first | done | kernel_rfl)
  · refine TC.skip ?_
    refine TE.next ?_
    refine TC.seq ?_
    refine TC.region ?_
    refine TL.run 1 [] [(10, .slice A_p p.length c_p)] rfl ⟨by kernel_rfl, by kernel_rfl⟩ ?_
    refine TL.call (some 11) [(11, .int .i64 (polygon_twice p))] (fun w hM => polygon_twice_w A_p c_p p w (h_p.sat hM) hc_p) (by kernel_rfl) (by kernel_rfl) ?_
    generalize hr2 : polygon_twice p = r2
    refine TL.run 4 [] [(2, .int .i64 r2), (3, .int .i64 0)] rfl ⟨by kernel_rfl, by kernel_rfl⟩ ?_
    refine TL.next rfl ?_
    refine TC.ret ?_
    have e : polygon_Area p = (r2, 0) := by subst hr1 hr2; unfold polygon_Area; exact cond_f h1 (rfl)
    exact TE.ret [] (.tuple #[.int .i64 r2, .int .i64 0]) ⟨by kernel_rfl, by kernel_rfl⟩ (by rw [e]; first | done | kernel_rfl)

def skywayref1_Cross (a : P) (b_ : P) (c : P) : Int :=
  w64 ((w64 ((w64 (b_.X - a.X)) * (w64 (c.Y - a.Y)))) - (w64 ((w64 (b_.Y - a.Y)) * (w64 (c.X - a.X)))))

set_option maxRecDepth 100000 in
theorem skywayref1_Cross_w (a : P) (b_ : P) (c : P) (w : World) : Calls Try.prog 66 #[P.v a, P.v b_, P.v c] w (Ret w (.int .i64 (skywayref1_Cross a b_ c))) := by
  refine calls_intro (vs := [P.v a, P.v b_, P.v c]) (w := w) Try.func66 rfl Try.ntmps66 rfl ?_
  refine TC.weak [(0, P.v a), (1, P.v b_), (2, P.v c)] (by kernel_rfl) ?_
  refine TC.seq ?_
  refine TC.region ?_
  refine TL.write 0 (fun b1 => [(1, P.v b_), (2, P.v c), (3, .pointer (some ⟨b1, 0, none⟩))]) (fun b1 => [.inl (b1, .cells (P.c a) 25 (0, 0))]) (fun b1 => ⟨by kernel_rfl, by kernel_rfl⟩) (fun b1 => ?_)
  refine TL.write 0 (fun b2 => [(2, P.v c), (3, .pointer (some ⟨b1, 0, none⟩)), (4, .pointer (some ⟨b2, 0, none⟩))]) (fun b2 => [.inl (b2, .cells (P.c b_) 25 (0, 0)), .inl (b1, .cells (P.c a) 25 (0, 0))]) (fun b2 => ⟨by kernel_rfl, by kernel_rfl⟩) (fun b2 => ?_)
  refine TL.write 0 (fun b3 => [(3, .pointer (some ⟨b1, 0, none⟩)), (4, .pointer (some ⟨b2, 0, none⟩)), (5, .pointer (some ⟨b3, 0, none⟩))]) (fun b3 => [.inl (b3, .cells (P.c c) 25 (0, 0)), .inl (b2, .cells (P.c b_) 25 (0, 0)), .inl (b1, .cells (P.c a) 25 (0, 0))]) (fun b3 => ⟨by kernel_rfl, by kernel_rfl⟩) (fun b3 => ?_)
  refine TL.run 4 [] [(3, .pointer (some ⟨b1, 0, none⟩)), (4, .pointer (some ⟨b2, 0, none⟩)), (5, .pointer (some ⟨b3, 0, none⟩))] rfl ⟨by kernel_rfl, by kernel_rfl⟩ ?_
  refine TL.next rfl ?_
  refine TC.seq ?_
  refine TC.region ?_
  refine TL.run 24 [1, 2, 0, 2, 1, 2, 0, 2] [(6, .int .i64 (w64 ((w64 ((w64 (b_.X - a.X)) * (w64 (c.Y - a.Y)))) - (w64 ((w64 (b_.Y - a.Y)) * (w64 (c.X - a.X)))))))] rfl ⟨by kernel_rfl, by kernel_rfl⟩ ?_
  refine TL.next rfl ?_
  refine TC.ret ?_
  have e : skywayref1_Cross a b_ c = (w64 ((w64 ((w64 (b_.X - a.X)) * (w64 (c.Y - a.Y)))) - (w64 ((w64 (b_.Y - a.Y)) * (w64 (c.X - a.X)))))) := by unfold skywayref1_Cross; exact rfl
  exact TE.ret [] (.int .i64 (w64 ((w64 ((w64 (b_.X - a.X)) * (w64 (c.Y - a.Y)))) - (w64 ((w64 (b_.Y - a.Y)) * (w64 (c.X - a.X))))))) ⟨by kernel_rfl, by kernel_rfl⟩ (by rw [e]; first | done | kernel_rfl)

def skywayref1_OnEdge (a : P) (b_ : P) (q : P) : Bool :=
  let r1 := skywayref1_Cross a b_ q
  ((((r1 == 0) && (decide ((imin a.X b_.X) ≤ q.X))) && (decide (q.X ≤ (imax a.X b_.X)))) && (decide ((imin a.Y b_.Y) ≤ q.Y))) && (decide (q.Y ≤ (imax a.Y b_.Y)))

set_option maxRecDepth 100000 in
theorem skywayref1_OnEdge_w (a : P) (b_ : P) (q : P) (w : World) : Calls Try.prog 65 #[P.v a, P.v b_, P.v q] w (Ret w (.bool (skywayref1_OnEdge a b_ q))) := by
  refine calls_intro (vs := [P.v a, P.v b_, P.v q]) (w := w) Try.func65 rfl Try.ntmps65 rfl ?_
  refine TC.weak [(0, P.v a), (1, P.v b_), (2, P.v q)] (by kernel_rfl) ?_
  refine TC.seq ?_
  refine TC.region ?_
  refine TL.write 0 (fun b1 => [(1, P.v b_), (2, P.v q), (3, .pointer (some ⟨b1, 0, none⟩))]) (fun b1 => [.inl (b1, .cells (P.c a) 25 (0, 0))]) (fun b1 => ⟨by kernel_rfl, by kernel_rfl⟩) (fun b1 => ?_)
  refine TL.write 0 (fun b2 => [(2, P.v q), (3, .pointer (some ⟨b1, 0, none⟩)), (4, .pointer (some ⟨b2, 0, none⟩))]) (fun b2 => [.inl (b2, .cells (P.c b_) 25 (0, 0)), .inl (b1, .cells (P.c a) 25 (0, 0))]) (fun b2 => ⟨by kernel_rfl, by kernel_rfl⟩) (fun b2 => ?_)
  refine TL.write 0 (fun b3 => [(3, .pointer (some ⟨b1, 0, none⟩)), (4, .pointer (some ⟨b2, 0, none⟩)), (5, .pointer (some ⟨b3, 0, none⟩))]) (fun b3 => [.inl (b3, .cells (P.c q) 25 (0, 0)), .inl (b2, .cells (P.c b_) 25 (0, 0)), .inl (b1, .cells (P.c a) 25 (0, 0))]) (fun b3 => ⟨by kernel_rfl, by kernel_rfl⟩) (fun b3 => ?_)
  refine TL.run 4 [] [(3, .pointer (some ⟨b1, 0, none⟩)), (4, .pointer (some ⟨b2, 0, none⟩)), (5, .pointer (some ⟨b3, 0, none⟩))] rfl ⟨by kernel_rfl, by kernel_rfl⟩ ?_
  refine TL.next rfl ?_
  refine TC.seq ?_
  refine TC.region ?_
  refine TL.run 3 [2, 1, 0] [(3, .pointer (some ⟨b1, 0, none⟩)), (4, .pointer (some ⟨b2, 0, none⟩)), (5, .pointer (some ⟨b3, 0, none⟩)), (7, P.v a), (8, P.v b_), (9, P.v q)] rfl ⟨by kernel_rfl, by kernel_rfl⟩ ?_
  refine TL.call (some 10) [(3, .pointer (some ⟨b1, 0, none⟩)), (4, .pointer (some ⟨b2, 0, none⟩)), (5, .pointer (some ⟨b3, 0, none⟩)), (10, .int .i64 (skywayref1_Cross a b_ q))] (fun w _ => skywayref1_Cross_w a b_ q w) (by kernel_rfl) (by kernel_rfl) ?_
  generalize hr1 : skywayref1_Cross a b_ q = r1
  refine TL.run 6 [] [(3, .pointer (some ⟨b1, 0, none⟩)), (4, .pointer (some ⟨b2, 0, none⟩)), (5, .pointer (some ⟨b3, 0, none⟩)), (12, .bool (r1 == 0))] rfl ⟨by kernel_rfl, by kernel_rfl⟩ ?_
  refine TL.join 12 (r1 == 0) 15 [2, 1, 0] [] (fun β => [(3, .pointer (some ⟨b1, 0, none⟩)), (4, .pointer (some ⟨b2, 0, none⟩)), (5, .pointer (some ⟨b3, 0, none⟩)), (21, .bool (β && (decide ((imin a.X b_.X) ≤ q.X))))]) (by kernel_rfl) rfl ⟨by kernel_rfl, by kernel_rfl⟩ ⟨by kernel_rfl, by kernel_rfl⟩ ?_
  refine TL.run 16 [] [(3, .pointer (some ⟨b1, 0, none⟩)), (4, .pointer (some ⟨b2, 0, none⟩)), (5, .pointer (some ⟨b3, 0, none⟩)), (22, .bool ((r1 == 0) && (decide ((imin a.X b_.X) ≤ q.X))))] rfl ⟨by kernel_rfl, by kernel_rfl⟩ ?_
  refine TL.join 22 ((r1 == 0) && (decide ((imin a.X b_.X) ≤ q.X))) 25 [0, 2, 1] [] (fun β => [(3, .pointer (some ⟨b1, 0, none⟩)), (4, .pointer (some ⟨b2, 0, none⟩)), (5, .pointer (some ⟨b3, 0, none⟩)), (31, .bool (β && (decide (q.X ≤ (imax a.X b_.X)))))]) (by kernel_rfl) rfl ⟨by kernel_rfl, by kernel_rfl⟩ ⟨by kernel_rfl, by kernel_rfl⟩ ?_
  refine TL.run 26 [] [(3, .pointer (some ⟨b1, 0, none⟩)), (4, .pointer (some ⟨b2, 0, none⟩)), (5, .pointer (some ⟨b3, 0, none⟩)), (32, .bool (((r1 == 0) && (decide ((imin a.X b_.X) ≤ q.X))) && (decide (q.X ≤ (imax a.X b_.X)))))] rfl ⟨by kernel_rfl, by kernel_rfl⟩ ?_
  refine TL.join 32 (((r1 == 0) && (decide ((imin a.X b_.X) ≤ q.X))) && (decide (q.X ≤ (imax a.X b_.X)))) 35 [2, 1, 0] [] (fun β => [(3, .pointer (some ⟨b1, 0, none⟩)), (4, .pointer (some ⟨b2, 0, none⟩)), (5, .pointer (some ⟨b3, 0, none⟩)), (41, .bool (β && (decide ((imin a.Y b_.Y) ≤ q.Y))))]) (by kernel_rfl) rfl ⟨by kernel_rfl, by kernel_rfl⟩ ⟨by kernel_rfl, by kernel_rfl⟩ ?_
  refine TL.run 36 [] [(3, .pointer (some ⟨b1, 0, none⟩)), (4, .pointer (some ⟨b2, 0, none⟩)), (5, .pointer (some ⟨b3, 0, none⟩)), (42, .bool ((((r1 == 0) && (decide ((imin a.X b_.X) ≤ q.X))) && (decide (q.X ≤ (imax a.X b_.X)))) && (decide ((imin a.Y b_.Y) ≤ q.Y))))] rfl ⟨by kernel_rfl, by kernel_rfl⟩ ?_
  refine TL.join 42 ((((r1 == 0) && (decide ((imin a.X b_.X) ≤ q.X))) && (decide (q.X ≤ (imax a.X b_.X)))) && (decide ((imin a.Y b_.Y) ≤ q.Y))) 45 [0, 2, 1] [] (fun β => [(51, .bool (β && (decide (q.Y ≤ (imax a.Y b_.Y)))))]) (by kernel_rfl) rfl ⟨by kernel_rfl, by kernel_rfl⟩ ⟨by kernel_rfl, by kernel_rfl⟩ ?_
  refine TL.run 46 [] [(6, .bool (((((r1 == 0) && (decide ((imin a.X b_.X) ≤ q.X))) && (decide (q.X ≤ (imax a.X b_.X)))) && (decide ((imin a.Y b_.Y) ≤ q.Y))) && (decide (q.Y ≤ (imax a.Y b_.Y)))))] rfl ⟨by kernel_rfl, by kernel_rfl⟩ ?_
  refine TL.next rfl ?_
  refine TC.ret ?_
  have e : skywayref1_OnEdge a b_ q = (((((r1 == 0) && (decide ((imin a.X b_.X) ≤ q.X))) && (decide (q.X ≤ (imax a.X b_.X)))) && (decide ((imin a.Y b_.Y) ≤ q.Y))) && (decide (q.Y ≤ (imax a.Y b_.Y)))) := by subst hr1; unfold skywayref1_OnEdge; exact rfl
  exact TE.ret [] (.bool (((((r1 == 0) && (decide ((imin a.X b_.X) ≤ q.X))) && (decide (q.X ≤ (imax a.X b_.X)))) && (decide ((imin a.Y b_.Y) ≤ q.Y))) && (decide (q.Y ≤ (imax a.Y b_.Y))))) ⟨by kernel_rfl, by kernel_rfl⟩ (by rw [e]; first | done | kernel_rfl)

def skywayref1_Place_L1 (p : List P) (q : P) : List P → Nat → Int → ((Int) ⊕ (Int))
  | [], _, above => .inl above
  | x :: xs, k, above => let r1 := skywayref1_OnEdge (p[((w64 ((w64 ((k : Int) + (p.length : Int))) - 1)).tmod (p.length : Int)).toNat]?.getD P.zero) x q
    cond r1 (
      .inr 0) (
      cond (decide (((p[((w64 ((w64 ((k : Int) + (p.length : Int))) - 1)).tmod (p.length : Int)).toNat]?.getD P.zero).X) > x.X)) (
        cond ((decide (x.X ≤ q.X)) && (decide (q.X < ((p[((w64 ((w64 ((k : Int) + (p.length : Int))) - 1)).tmod (p.length : Int)).toNat]?.getD P.zero).X)))) (
          let r2 := skywayref1_Cross x (p[((w64 ((w64 ((k : Int) + (p.length : Int))) - 1)).tmod (p.length : Int)).toNat]?.getD P.zero) q
          cond (decide (r2 < 0)) (
            skywayref1_Place_L1 p q xs (k + 1) (w64 (above + 1))) (
            skywayref1_Place_L1 p q xs (k + 1) above)) (
          skywayref1_Place_L1 p q xs (k + 1) above)) (
        cond ((decide (((p[((w64 ((w64 ((k : Int) + (p.length : Int))) - 1)).tmod (p.length : Int)).toNat]?.getD P.zero).X) ≤ q.X)) && (decide (q.X < x.X))) (
          let r3 := skywayref1_Cross (p[((w64 ((w64 ((k : Int) + (p.length : Int))) - 1)).tmod (p.length : Int)).toNat]?.getD P.zero) x q
          cond (decide (r3 < 0)) (
            skywayref1_Place_L1 p q xs (k + 1) (w64 (above + 1))) (
            skywayref1_Place_L1 p q xs (k + 1) above)) (
          skywayref1_Place_L1 p q xs (k + 1) above)))
def skywayref1_Place (p : List P) (q : P) : Int :=
  Sum.elim (fun above_2 =>
    cond ((above_2.tmod 2) == 1) (
      1) (
      (-1))) (fun r => r) (skywayref1_Place_L1 p q p 0 0)

set_option maxRecDepth 100000 in
theorem skywayref1_Place_w (A_p : Option Addr) (c_p : Nat) (p : List P) (q : P) (w : World) (h_p : Rd w 2 A_p (p.map P.c)) (_hc_p : p.length ≤ c_p) : Calls Try.prog 25 #[.slice A_p p.length c_p, P.v q] w (Ret w (.int .i64 (skywayref1_Place p q))) := by
  have s_p := h_p.short; rw [List.length_map] at s_p
  refine calls_intro (vs := [.slice A_p p.length c_p, P.v q]) (w := w) Try.func25 rfl Try.ntmps25 rfl ?_
  refine TC.weak [(0, .slice A_p p.length c_p), (1, P.v q)] (by kernel_rfl) ?_
  refine TC.seq ?_
  refine TC.region ?_
  refine TL.write 0 (fun b1 => [(0, .slice A_p p.length c_p), (3, .pointer (some ⟨b1, 0, none⟩))]) (fun b1 => [.inl (b1, .cells (P.c q) 25 (0, 0))]) (fun b1 => ⟨by kernel_rfl, by kernel_rfl⟩) (fun b1 => ?_)
  refine TL.run 2 [] [(0, .slice A_p p.length c_p), (3, .pointer (some ⟨b1, 0, none⟩))] rfl ⟨by kernel_rfl, by kernel_rfl⟩ ?_
  refine TL.next rfl ?_
  refine TC.seq ?_
  refine TC.region ?_
  refine TL.run 1 [] [(0, .slice A_p p.length c_p), (3, .pointer (some ⟨b1, 0, none⟩)), (5, .int .i64 0)] rfl ⟨by kernel_rfl, by kernel_rfl⟩ ?_
  refine TL.next rfl ?_
  refine TC.seq ?_
  refine TC.seq ?_
  refine TC.region ?_
  refine TL.run 3 [] [(0, .slice A_p p.length c_p), (3, .pointer (some ⟨b1, 0, none⟩)), (5, .int .i64 0), (9, .slice A_p p.length c_p), (10, .int .i64 (p.length : Int)), (11, .int .i64 0)] rfl ⟨by kernel_rfl, by kernel_rfl⟩ ?_
  refine TL.next rfl ?_
  refine TC.weak [(0, .slice A_p p.length c_p), (3, .pointer (some ⟨b1, 0, none⟩)), (5, .int .i64 0), (9, .slice A_p p.length c_p), (10, .int .i64 (p.length : Int)), (11, .int .i64 0)] (by kernel_rfl) ?_
  obtain ⟨R1, hR⟩ : ∃ R, R = skywayref1_Place_L1 p q p 0 0 := ⟨_, rfl⟩
  refine TC.cut (S := Int) (fun above_2 => [(5, .int .i64 above_2)]) (fun above_2 => []) (fun above_2 => R1 = .inl above_2) ?_ ?_
  · refine TC.block ?_
    refine TC.loop (X := Nat × Int) (fun (k, above) => [(0, .slice A_p p.length c_p), (3, .pointer (some ⟨b1, 0, none⟩)), (5, .int .i64 above), (9, .slice A_p p.length c_p), (10, .int .i64 (p.length : Int)), (11, .int .i64 (k : Int))]) (fun (k, above) => [.inl (b1, .cells (P.c q) 25 (0, 0))]) (fun (k, above) => p.length - k) (fun (k, above) => k ≤ p.length ∧ R1 = skywayref1_Place_L1 p q (p.drop k) k above) ?_ (0, 0) ⟨Nat.zero_le _, hR⟩
    rintro ⟨k, above⟩ ⟨hk, hI⟩
    refine TC.seq ?_
    refine TC.region ?_
    refine TL.run 1 [] [(0, .slice A_p p.length c_p), (3, .pointer (some ⟨b1, 0, none⟩)), (5, .int .i64 above), (9, .slice A_p p.length c_p), (10, .int .i64 (p.length : Int)), (11, .int .i64 (k : Int)), (12, .bool (decide ((k : Int) < (p.length : Int))))] rfl ⟨by kernel_rfl, by kernel_rfl⟩ ?_
    refine TL.next rfl ?_
    refine TC.seq ?_
    refine TC.cond (decide ((k : Int) < (p.length : Int))) rfl (by kernel_rfl) (fun h1 => ?_) (fun h1 => ?_)
    · have hlt : k < p.length := by have := of_decide_eq_true h1; first | omega | (simp at this; omega)
      obtain ⟨x, hx⟩ : ∃ x, p[k]? = some x := ⟨_, List.getElem?_eq_getElem hlt⟩
      have hd := drop_at hx
      refine TC.skip ?_
      refine TE.next ?_
      refine TC.seq ?_
      refine TC.block ?_
      refine TC.seq ?_
      refine TC.region ?_
      refine TL.run 1 [] [(0, .slice A_p p.length c_p), (3, .pointer (some ⟨b1, 0, none⟩)), (5, .int .i64 above), (9, .slice A_p p.length c_p), (10, .int .i64 (p.length : Int)), (11, .int .i64 (k : Int)), (13, .int .i64 (k : Int))] rfl ⟨by kernel_rfl, by kernel_rfl⟩ ?_
      refine TL.val (sV (Instr.indexAt 46 (.slice A_p p.length c_p) (.int .i64 (k : Int)))) (some 14) (.pointer (some ((A_p.getD noAddr).add (k * 2)))) [(0, .slice A_p p.length c_p), (3, .pointer (some ⟨b1, 0, none⟩)), (5, .int .i64 above), (9, .slice A_p p.length c_p), (10, .int .i64 (p.length : Int)), (11, .int .i64 (k : Int)), (13, .int .i64 (k : Int)), (14, .pointer (some ((A_p.getD noAddr).add (k * 2))))] (fun w hM => run_index (h_p.sat hM) (by simp) (by kernel_rfl) (by first | omega | (simp only [List.length_drop]; omega) | (simp only [w64_eq]; omega) | exact (tm_in (by (first | (rw [w64_id (by omega)]; omega) | (simp only [w64_eq]; omega))) (by omega)).1 | exact (tm_in (by (first | (rw [w64_id (by omega)]; omega) | (simp only [w64_eq]; omega))) (by omega)).2.1 | exact (tm_in (by (first | (rw [w64_id (by omega)]; omega) | (simp only [w64_eq]; omega))) (by omega)).2.2 | (simp <;> omega)) (by first | omega | (simp only [List.length_drop]; omega) | (simp only [w64_eq]; omega) | exact (tm_in (by (first | (rw [w64_id (by omega)]; omega) | (simp only [w64_eq]; omega))) (by omega)).1 | exact (tm_in (by (first | (rw [w64_id (by omega)]; omega) | (simp only [w64_eq]; omega))) (by omega)).2.1 | exact (tm_in (by (first | (rw [w64_id (by omega)]; omega) | (simp only [w64_eq]; omega))) (by omega)).2.2 | (simp <;> omega))) (by kernel_rfl) (by kernel_rfl) ?_
      refine TL.val (sV (Instr.loadAt 25 (.pointer (some ((A_p.getD noAddr).add (k * 2)))))) (some 15) (P.v x) [(0, .slice A_p p.length c_p), (3, .pointer (some ⟨b1, 0, none⟩)), (5, .int .i64 above), (9, .slice A_p p.length c_p), (10, .int .i64 (p.length : Int)), (11, .int .i64 (k : Int)), (13, .int .i64 (k : Int)), (15, P.v x)] (fun w hM => run_load_agg (n := 2) (off := 0) (P.v x) (h_p.sat hM) (map_at hx) (by kernel_rfl) (by kernel_rfl) (by kernel_rfl)) (by kernel_rfl) (by kernel_rfl) ?_
      refine TL.write 0 (fun b2 => [(0, .slice A_p p.length c_p), (3, .pointer (some ⟨b1, 0, none⟩)), (5, .int .i64 above), (7, .pointer (some ⟨b2, 0, none⟩)), (9, .slice A_p p.length c_p), (10, .int .i64 (p.length : Int)), (11, .int .i64 (k : Int)), (13, .int .i64 (k : Int)), (15, P.v x)]) (fun b2 => [.inl (b2, .cells (P.c P.zero) 25 (0, 0)), .inl (b1, .cells (P.c q) 25 (0, 0))]) (fun b2 => ⟨by kernel_rfl, by kernel_rfl⟩) (fun b2 => ?_)
      refine TL.run 5 [] [(0, .slice A_p p.length c_p), (3, .pointer (some ⟨b1, 0, none⟩)), (5, .int .i64 above), (6, .int .i64 (k : Int)), (7, .pointer (some ⟨b2, 0, none⟩)), (9, .slice A_p p.length c_p), (10, .int .i64 (p.length : Int)), (11, .int .i64 (k : Int)), (15, P.v x)] rfl ⟨by kernel_rfl, by kernel_rfl⟩ ?_
      refine TL.write 0 (fun _ => [(0, .slice A_p p.length c_p), (3, .pointer (some ⟨b1, 0, none⟩)), (5, .int .i64 above), (6, .int .i64 (k : Int)), (7, .pointer (some ⟨b2, 0, none⟩)), (9, .slice A_p p.length c_p), (10, .int .i64 (p.length : Int)), (11, .int .i64 (k : Int))]) (fun _ => [.inl (b2, .cells (P.c x) 25 (0, 0)), .inl (b1, .cells (P.c q) 25 (0, 0))]) (fun _ => ⟨by kernel_rfl, by kernel_rfl⟩) (fun _ => ?_)
      refine TL.next rfl ?_
      refine TC.seq ?_
      refine TC.region ?_
      refine TL.run 8 [] [(0, .slice A_p p.length c_p), (3, .pointer (some ⟨b1, 0, none⟩)), (5, .int .i64 above), (7, .pointer (some ⟨b2, 0, none⟩)), (9, .slice A_p p.length c_p), (10, .int .i64 (p.length : Int)), (11, .int .i64 (k : Int)), (16, .slice A_p p.length c_p), (21, .int .i64 (w64 ((w64 ((k : Int) + (p.length : Int))) - 1))), (23, .int .i64 (p.length : Int))] rfl ⟨by kernel_rfl, by kernel_rfl⟩ ?_
      refine TL.val (sV (binOp .rem 3 (.int .i64 (w64 ((w64 ((k : Int) + (p.length : Int))) - 1))) (.int .i64 (p.length : Int)))) (some 24) (.int .i64 ((w64 ((w64 ((k : Int) + (p.length : Int))) - 1)).tmod (p.length : Int))) [(0, .slice A_p p.length c_p), (3, .pointer (some ⟨b1, 0, none⟩)), (5, .int .i64 above), (7, .pointer (some ⟨b2, 0, none⟩)), (9, .slice A_p p.length c_p), (10, .int .i64 (p.length : Int)), (11, .int .i64 (k : Int)), (16, .slice A_p p.length c_p), (24, .int .i64 ((w64 ((w64 ((k : Int) + (p.length : Int))) - 1)).tmod (p.length : Int)))] (fun w hM => run_rem (by first | omega | (simp only [List.length_drop]; omega) | (simp only [w64_eq]; omega) | exact (tm_in (by (first | (rw [w64_id (by omega)]; omega) | (simp only [w64_eq]; omega))) (by omega)).1 | exact (tm_in (by (first | (rw [w64_id (by omega)]; omega) | (simp only [w64_eq]; omega))) (by omega)).2.1 | exact (tm_in (by (first | (rw [w64_id (by omega)]; omega) | (simp only [w64_eq]; omega))) (by omega)).2.2 | (simp <;> omega))) (by kernel_rfl) (by kernel_rfl) ?_
      refine TL.val (sV (Instr.indexAt 46 (.slice A_p p.length c_p) (.int .i64 ((w64 ((w64 ((k : Int) + (p.length : Int))) - 1)).tmod (p.length : Int))))) (some 25) (.pointer (some ((A_p.getD noAddr).add (((w64 ((w64 ((k : Int) + (p.length : Int))) - 1)).tmod (p.length : Int)).toNat * 2)))) [(0, .slice A_p p.length c_p), (3, .pointer (some ⟨b1, 0, none⟩)), (5, .int .i64 above), (7, .pointer (some ⟨b2, 0, none⟩)), (9, .slice A_p p.length c_p), (10, .int .i64 (p.length : Int)), (11, .int .i64 (k : Int)), (25, .pointer (some ((A_p.getD noAddr).add (((w64 ((w64 ((k : Int) + (p.length : Int))) - 1)).tmod (p.length : Int)).toNat * 2))))] (fun w hM => run_index (h_p.sat hM) (by simp) (by kernel_rfl) (by first | omega | (simp only [List.length_drop]; omega) | (simp only [w64_eq]; omega) | exact (tm_in (by (first | (rw [w64_id (by omega)]; omega) | (simp only [w64_eq]; omega))) (by omega)).1 | exact (tm_in (by (first | (rw [w64_id (by omega)]; omega) | (simp only [w64_eq]; omega))) (by omega)).2.1 | exact (tm_in (by (first | (rw [w64_id (by omega)]; omega) | (simp only [w64_eq]; omega))) (by omega)).2.2 | (simp <;> omega)) (by first | omega | (simp only [List.length_drop]; omega) | (simp only [w64_eq]; omega) | exact (tm_in (by (first | (rw [w64_id (by omega)]; omega) | (simp only [w64_eq]; omega))) (by omega)).1 | exact (tm_in (by (first | (rw [w64_id (by omega)]; omega) | (simp only [w64_eq]; omega))) (by omega)).2.1 | exact (tm_in (by (first | (rw [w64_id (by omega)]; omega) | (simp only [w64_eq]; omega))) (by omega)).2.2 | (simp <;> omega))) (by kernel_rfl) (by kernel_rfl) ?_
      refine TL.val (sV (Instr.loadAt 25 (.pointer (some ((A_p.getD noAddr).add (((w64 ((w64 ((k : Int) + (p.length : Int))) - 1)).tmod (p.length : Int)).toNat * 2)))))) (some 26) (P.v (p[((w64 ((w64 ((k : Int) + (p.length : Int))) - 1)).tmod (p.length : Int)).toNat]?.getD P.zero)) [(0, .slice A_p p.length c_p), (3, .pointer (some ⟨b1, 0, none⟩)), (5, .int .i64 above), (7, .pointer (some ⟨b2, 0, none⟩)), (9, .slice A_p p.length c_p), (10, .int .i64 (p.length : Int)), (11, .int .i64 (k : Int)), (26, P.v (p[((w64 ((w64 ((k : Int) + (p.length : Int))) - 1)).tmod (p.length : Int)).toNat]?.getD P.zero))] (fun w hM => run_load_agg (n := 2) (off := 0) (P.v (p[((w64 ((w64 ((k : Int) + (p.length : Int))) - 1)).tmod (p.length : Int)).toNat]?.getD P.zero)) (h_p.sat hM) (map_at (getD_at _ _ P.zero (by first | omega | (simp only [List.length_drop]; omega) | (simp only [w64_eq]; omega) | exact (tm_in (by (first | (rw [w64_id (by omega)]; omega) | (simp only [w64_eq]; omega))) (by omega)).1 | exact (tm_in (by (first | (rw [w64_id (by omega)]; omega) | (simp only [w64_eq]; omega))) (by omega)).2.1 | exact (tm_in (by (first | (rw [w64_id (by omega)]; omega) | (simp only [w64_eq]; omega))) (by omega)).2.2 | (simp <;> omega)))) (by kernel_rfl) (by kernel_rfl) (by kernel_rfl)) (by kernel_rfl) (by kernel_rfl) ?_
      refine TL.write 0 (fun b3 => [(0, .slice A_p p.length c_p), (3, .pointer (some ⟨b1, 0, none⟩)), (5, .int .i64 above), (7, .pointer (some ⟨b2, 0, none⟩)), (8, .pointer (some ⟨b3, 0, none⟩)), (9, .slice A_p p.length c_p), (10, .int .i64 (p.length : Int)), (11, .int .i64 (k : Int)), (26, P.v (p[((w64 ((w64 ((k : Int) + (p.length : Int))) - 1)).tmod (p.length : Int)).toNat]?.getD P.zero))]) (fun b3 => [.inl (b3, .cells (P.c P.zero) 25 (0, 0)), .inl (b2, .cells (P.c x) 25 (0, 0)), .inl (b1, .cells (P.c q) 25 (0, 0))]) (fun b3 => ⟨by kernel_rfl, by kernel_rfl⟩) (fun b3 => ?_)
      refine TL.write 0 (fun _ => [(0, .slice A_p p.length c_p), (3, .pointer (some ⟨b1, 0, none⟩)), (5, .int .i64 above), (7, .pointer (some ⟨b2, 0, none⟩)), (8, .pointer (some ⟨b3, 0, none⟩)), (9, .slice A_p p.length c_p), (10, .int .i64 (p.length : Int)), (11, .int .i64 (k : Int))]) (fun _ => [.inl (b3, .cells (P.c (p[((w64 ((w64 ((k : Int) + (p.length : Int))) - 1)).tmod (p.length : Int)).toNat]?.getD P.zero)) 25 (0, 0)), .inl (b2, .cells (P.c x) 25 (0, 0)), .inl (b1, .cells (P.c q) 25 (0, 0))]) (fun _ => ⟨by kernel_rfl, by kernel_rfl⟩) (fun _ => ?_)
      refine TL.next rfl ?_
      refine TC.seq ?_
      refine TC.seq ?_
      refine TC.region ?_
      refine TL.run 3 [0, 1, 2] [(0, .slice A_p p.length c_p), (3, .pointer (some ⟨b1, 0, none⟩)), (5, .int .i64 above), (7, .pointer (some ⟨b2, 0, none⟩)), (8, .pointer (some ⟨b3, 0, none⟩)), (9, .slice A_p p.length c_p), (10, .int .i64 (p.length : Int)), (11, .int .i64 (k : Int)), (27, P.v (p[((w64 ((w64 ((k : Int) + (p.length : Int))) - 1)).tmod (p.length : Int)).toNat]?.getD P.zero)), (28, P.v x), (29, P.v q)] rfl ⟨by kernel_rfl, by kernel_rfl⟩ ?_
      refine TL.call (some 30) [(0, .slice A_p p.length c_p), (3, .pointer (some ⟨b1, 0, none⟩)), (5, .int .i64 above), (7, .pointer (some ⟨b2, 0, none⟩)), (8, .pointer (some ⟨b3, 0, none⟩)), (9, .slice A_p p.length c_p), (10, .int .i64 (p.length : Int)), (11, .int .i64 (k : Int)), (30, .bool ((skywayref1_OnEdge (p[((w64 ((w64 ((k : Int) + (p.length : Int))) - 1)).tmod (p.length : Int)).toNat]?.getD P.zero) x q)))] (fun w _ => skywayref1_OnEdge_w (p[((w64 ((w64 ((k : Int) + (p.length : Int))) - 1)).tmod (p.length : Int)).toNat]?.getD P.zero) x q w) (by kernel_rfl) (by kernel_rfl) ?_
      generalize hr1 : skywayref1_OnEdge (p[((w64 ((w64 ((k : Int) + (p.length : Int))) - 1)).tmod (p.length : Int)).toNat]?.getD P.zero) x q = r1
      refine TL.next rfl ?_
      refine TC.cond r1 rfl (by kernel_rfl) (fun h2 => ?_) (fun h2 => ?_)
      · refine TC.seq ?_
        refine TC.region ?_
        refine TL.run 1 [] [(4, .int .i64 0)] rfl ⟨by kernel_rfl, by kernel_rfl⟩ ?_
        refine TL.next rfl ?_
        refine TC.ret ?_
        refine TE.ret_then (TE.ret_block (TE.ret_then (TE.ret_then (TE.ret_block (TE.ret_then (TE.ret_then ?_))))))
        have e : skywayref1_Place p q = 0 := by subst hr1; unfold skywayref1_Place; exact elim_r (hR.symm.trans (hI.trans (by rw [hd]; exact cond_t h2 (rfl)))) rfl
        exact TE.ret [] (.int .i64 0) ⟨by kernel_rfl, by kernel_rfl⟩ (by rw [e]; first | done | kernel_rfl)
      · refine TC.skip ?_
        refine TE.next ?_
        refine TC.seq ?_
        refine TC.seq ?_
        refine TC.region ?_
        refine TL.run 5 [0, 1] [(0, .slice A_p p.length c_p), (3, .pointer (some ⟨b1, 0, none⟩)), (5, .int .i64 above), (7, .pointer (some ⟨b2, 0, none⟩)), (8, .pointer (some ⟨b3, 0, none⟩)), (9, .slice A_p p.length c_p), (10, .int .i64 (p.length : Int)), (11, .int .i64 (k : Int)), (35, .bool (decide (((p[((w64 ((w64 ((k : Int) + (p.length : Int))) - 1)).tmod (p.length : Int)).toNat]?.getD P.zero).X) > x.X)))] rfl ⟨by kernel_rfl, by kernel_rfl⟩ ?_
        refine TL.next rfl ?_
        refine TC.cond (decide (((p[((w64 ((w64 ((k : Int) + (p.length : Int))) - 1)).tmod (p.length : Int)).toNat]?.getD P.zero).X) > x.X)) rfl (by kernel_rfl) (fun h3 => ?_) (fun h3 => ?_)
        · refine TC.region ?_
          refine TL.run 2 [1, 0] [(0, .slice A_p p.length c_p), (3, .pointer (some ⟨b1, 0, none⟩)), (5, .int .i64 above), (7, .pointer (some ⟨b2, 0, none⟩)), (8, .pointer (some ⟨b3, 0, none⟩)), (9, .slice A_p p.length c_p), (10, .int .i64 (p.length : Int)), (11, .int .i64 (k : Int)), (36, P.v x), (37, P.v (p[((w64 ((w64 ((k : Int) + (p.length : Int))) - 1)).tmod (p.length : Int)).toNat]?.getD P.zero))] rfl ⟨by kernel_rfl, by kernel_rfl⟩ ?_
          refine TL.write 0 (fun _ => [(0, .slice A_p p.length c_p), (3, .pointer (some ⟨b1, 0, none⟩)), (5, .int .i64 above), (7, .pointer (some ⟨b2, 0, none⟩)), (8, .pointer (some ⟨b3, 0, none⟩)), (9, .slice A_p p.length c_p), (10, .int .i64 (p.length : Int)), (11, .int .i64 (k : Int)), (37, P.v (p[((w64 ((w64 ((k : Int) + (p.length : Int))) - 1)).tmod (p.length : Int)).toNat]?.getD P.zero))]) (fun _ => [.inl (b3, .cells (P.c x) 25 (0, 0)), .inl (b2, .cells (P.c x) 25 (0, 0)), .inl (b1, .cells (P.c q) 25 (0, 0))]) (fun _ => ⟨by kernel_rfl, by kernel_rfl⟩) (fun _ => ?_)
          refine TL.write 1 (fun _ => [(0, .slice A_p p.length c_p), (3, .pointer (some ⟨b1, 0, none⟩)), (5, .int .i64 above), (7, .pointer (some ⟨b2, 0, none⟩)), (8, .pointer (some ⟨b3, 0, none⟩)), (9, .slice A_p p.length c_p), (10, .int .i64 (p.length : Int)), (11, .int .i64 (k : Int))]) (fun _ => [.inl (b3, .cells (P.c x) 25 (0, 0)), .inl (b2, .cells (P.c (p[((w64 ((w64 ((k : Int) + (p.length : Int))) - 1)).tmod (p.length : Int)).toNat]?.getD P.zero)) 25 (0, 0)), .inl (b1, .cells (P.c q) 25 (0, 0))]) (fun _ => ⟨by kernel_rfl, by kernel_rfl⟩) (fun _ => ?_)
          refine TL.next rfl ?_
          refine TC.seq ?_
          refine TC.region ?_
          refine TL.run 6 [0, 2] [(0, .slice A_p p.length c_p), (3, .pointer (some ⟨b1, 0, none⟩)), (5, .int .i64 above), (7, .pointer (some ⟨b2, 0, none⟩)), (8, .pointer (some ⟨b3, 0, none⟩)), (9, .slice A_p p.length c_p), (10, .int .i64 (p.length : Int)), (11, .int .i64 (k : Int)), (43, .bool (decide (x.X ≤ q.X)))] rfl ⟨by kernel_rfl, by kernel_rfl⟩ ?_
          refine TL.join 43 (decide (x.X ≤ q.X)) 12 [2, 1] [] (fun β => [(0, .slice A_p p.length c_p), (3, .pointer (some ⟨b1, 0, none⟩)), (5, .int .i64 above), (7, .pointer (some ⟨b2, 0, none⟩)), (8, .pointer (some ⟨b3, 0, none⟩)), (9, .slice A_p p.length c_p), (10, .int .i64 (p.length : Int)), (11, .int .i64 (k : Int)), (49, .bool (β && (decide (q.X < ((p[((w64 ((w64 ((k : Int) + (p.length : Int))) - 1)).tmod (p.length : Int)).toNat]?.getD P.zero).X)))))]) (by kernel_rfl) rfl ⟨by kernel_rfl, by kernel_rfl⟩ ⟨by kernel_rfl, by kernel_rfl⟩ ?_
          refine TL.run 13 [] [(0, .slice A_p p.length c_p), (3, .pointer (some ⟨b1, 0, none⟩)), (5, .int .i64 above), (7, .pointer (some ⟨b2, 0, none⟩)), (8, .pointer (some ⟨b3, 0, none⟩)), (9, .slice A_p p.length c_p), (10, .int .i64 (p.length : Int)), (11, .int .i64 (k : Int)), (50, .bool ((decide (x.X ≤ q.X)) && (decide (q.X < ((p[((w64 ((w64 ((k : Int) + (p.length : Int))) - 1)).tmod (p.length : Int)).toNat]?.getD P.zero).X)))))] rfl ⟨by kernel_rfl, by kernel_rfl⟩ ?_
          refine TL.split 50 ((decide (x.X ≤ q.X)) && (decide (q.X < ((p[((w64 ((w64 ((k : Int) + (p.length : Int))) - 1)).tmod (p.length : Int)).toNat]?.getD P.zero).X)))) (by kernel_rfl) (fun h4 => ?_) (fun h4 => ?_)
          · refine TL.run 16 [0, 1, 2] [(0, .slice A_p p.length c_p), (3, .pointer (some ⟨b1, 0, none⟩)), (5, .int .i64 above), (9, .slice A_p p.length c_p), (10, .int .i64 (p.length : Int)), (11, .int .i64 (k : Int)), (50, .bool true), (51, P.v x), (52, P.v (p[((w64 ((w64 ((k : Int) + (p.length : Int))) - 1)).tmod (p.length : Int)).toNat]?.getD P.zero)), (53, P.v q)] rfl ⟨by kernel_rfl, by kernel_rfl⟩ ?_
            refine TL.call (some 54) [(0, .slice A_p p.length c_p), (3, .pointer (some ⟨b1, 0, none⟩)), (5, .int .i64 above), (9, .slice A_p p.length c_p), (10, .int .i64 (p.length : Int)), (11, .int .i64 (k : Int)), (50, .bool true), (54, .int .i64 (skywayref1_Cross x (p[((w64 ((w64 ((k : Int) + (p.length : Int))) - 1)).tmod (p.length : Int)).toNat]?.getD P.zero) q))] (fun w _ => skywayref1_Cross_w x (p[((w64 ((w64 ((k : Int) + (p.length : Int))) - 1)).tmod (p.length : Int)).toNat]?.getD P.zero) q w) (by kernel_rfl) (by kernel_rfl) ?_
            generalize hr2 : skywayref1_Cross x (p[((w64 ((w64 ((k : Int) + (p.length : Int))) - 1)).tmod (p.length : Int)).toNat]?.getD P.zero) q = r2
            refine TL.run 19 [] [(0, .slice A_p p.length c_p), (3, .pointer (some ⟨b1, 0, none⟩)), (5, .int .i64 above), (9, .slice A_p p.length c_p), (10, .int .i64 (p.length : Int)), (11, .int .i64 (k : Int)), (56, .bool (decide (r2 < 0)))] rfl ⟨by kernel_rfl, by kernel_rfl⟩ ?_
            refine TL.next rfl ?_
            refine TC.cond (decide (r2 < 0)) rfl (by kernel_rfl) (fun h5 => ?_) (fun h5 => ?_)
            · refine TC.region ?_
              refine TL.run 3 [] [(0, .slice A_p p.length c_p), (3, .pointer (some ⟨b1, 0, none⟩)), (5, .int .i64 (w64 (above + 1))), (9, .slice A_p p.length c_p), (10, .int .i64 (p.length : Int)), (11, .int .i64 (k : Int))] rfl ⟨by kernel_rfl, by kernel_rfl⟩ ?_
              refine TL.done rfl ?_
              refine TE.normal_block ?_
              refine TE.next ?_
              refine TC.region ?_
              refine TL.run 2 [] [(0, .slice A_p p.length c_p), (3, .pointer (some ⟨b1, 0, none⟩)), (5, .int .i64 (w64 (above + 1))), (9, .slice A_p p.length c_p), (10, .int .i64 (p.length : Int)), (11, .int .i64 (w64 ((k : Int) + 1)))] rfl ⟨by kernel_rfl, by kernel_rfl⟩ ?_
              refine TL.done rfl ?_
              refine TE.rw 11 (.int .i64 (w64 ((k : Int) + 1))) (.int .i64 ((k + 1 : Nat) : Int)) (by kernel_rfl) (w64_cast k (by omega)) ?_
              exact TE.again (x := (k, above)) (k + 1, w64 (above + 1)) ⟨by omega, hI.trans (by subst hr1 hr2; rw [hd]; exact cond_f h2 (cond_t h3 (cond_t h4 (cond_t h5 (rfl)))))⟩ (by show p.length - (k + 1) < p.length - k; omega) (by kernel_rfl) (.cons _ (.cons _ (.cons_cons _ (.slnil))))
            · refine TC.skip ?_
              refine TE.normal_block ?_
              refine TE.next ?_
              refine TC.region ?_
              refine TL.run 2 [] [(0, .slice A_p p.length c_p), (3, .pointer (some ⟨b1, 0, none⟩)), (5, .int .i64 above), (9, .slice A_p p.length c_p), (10, .int .i64 (p.length : Int)), (11, .int .i64 (w64 ((k : Int) + 1)))] rfl ⟨by kernel_rfl, by kernel_rfl⟩ ?_
              refine TL.done rfl ?_
              refine TE.rw 11 (.int .i64 (w64 ((k : Int) + 1))) (.int .i64 ((k + 1 : Nat) : Int)) (by kernel_rfl) (w64_cast k (by omega)) ?_
              exact TE.again (x := (k, above)) (k + 1, above) ⟨by omega, hI.trans (by subst hr1 hr2; rw [hd]; exact cond_f h2 (cond_t h3 (cond_t h4 (cond_f h5 (rfl)))))⟩ (by show p.length - (k + 1) < p.length - k; omega) (by kernel_rfl) (.cons _ (.cons _ (.cons_cons _ (.slnil))))
          · refine TL.run 19 [] [(0, .slice A_p p.length c_p), (3, .pointer (some ⟨b1, 0, none⟩)), (5, .int .i64 above), (9, .slice A_p p.length c_p), (10, .int .i64 (p.length : Int)), (11, .int .i64 (k : Int)), (56, .bool false)] rfl ⟨by kernel_rfl, by kernel_rfl⟩ ?_
            refine TL.next rfl ?_
            refine TC.condF rfl (by kernel_rfl) ?_
            refine TC.skip ?_
            refine TE.normal_block ?_
            refine TE.next ?_
            refine TC.region ?_
            refine TL.run 2 [] [(0, .slice A_p p.length c_p), (3, .pointer (some ⟨b1, 0, none⟩)), (5, .int .i64 above), (9, .slice A_p p.length c_p), (10, .int .i64 (p.length : Int)), (11, .int .i64 (w64 ((k : Int) + 1)))] rfl ⟨by kernel_rfl, by kernel_rfl⟩ ?_
            refine TL.done rfl ?_
            refine TE.rw 11 (.int .i64 (w64 ((k : Int) + 1))) (.int .i64 ((k + 1 : Nat) : Int)) (by kernel_rfl) (w64_cast k (by omega)) ?_
            exact TE.again (x := (k, above)) (k + 1, above) ⟨by omega, hI.trans (by subst hr1; rw [hd]; exact cond_f h2 (cond_t h3 (cond_f h4 (rfl))))⟩ (by show p.length - (k + 1) < p.length - k; omega) (by kernel_rfl) (.cons _ (.cons _ (.cons_cons _ (.slnil))))
        · refine TC.skip ?_
          refine TE.next ?_
          refine TC.seq ?_
          refine TC.region ?_
          refine TL.run 6 [0, 2] [(0, .slice A_p p.length c_p), (3, .pointer (some ⟨b1, 0, none⟩)), (5, .int .i64 above), (7, .pointer (some ⟨b2, 0, none⟩)), (8, .pointer (some ⟨b3, 0, none⟩)), (9, .slice A_p p.length c_p), (10, .int .i64 (p.length : Int)), (11, .int .i64 (k : Int)), (43, .bool (decide (((p[((w64 ((w64 ((k : Int) + (p.length : Int))) - 1)).tmod (p.length : Int)).toNat]?.getD P.zero).X) ≤ q.X)))] rfl ⟨by kernel_rfl, by kernel_rfl⟩ ?_
          refine TL.join 43 (decide (((p[((w64 ((w64 ((k : Int) + (p.length : Int))) - 1)).tmod (p.length : Int)).toNat]?.getD P.zero).X) ≤ q.X)) 12 [2, 1] [] (fun β => [(0, .slice A_p p.length c_p), (3, .pointer (some ⟨b1, 0, none⟩)), (5, .int .i64 above), (7, .pointer (some ⟨b2, 0, none⟩)), (8, .pointer (some ⟨b3, 0, none⟩)), (9, .slice A_p p.length c_p), (10, .int .i64 (p.length : Int)), (11, .int .i64 (k : Int)), (49, .bool (β && (decide (q.X < x.X))))]) (by kernel_rfl) rfl ⟨by kernel_rfl, by kernel_rfl⟩ ⟨by kernel_rfl, by kernel_rfl⟩ ?_
          refine TL.run 13 [] [(0, .slice A_p p.length c_p), (3, .pointer (some ⟨b1, 0, none⟩)), (5, .int .i64 above), (7, .pointer (some ⟨b2, 0, none⟩)), (8, .pointer (some ⟨b3, 0, none⟩)), (9, .slice A_p p.length c_p), (10, .int .i64 (p.length : Int)), (11, .int .i64 (k : Int)), (50, .bool ((decide (((p[((w64 ((w64 ((k : Int) + (p.length : Int))) - 1)).tmod (p.length : Int)).toNat]?.getD P.zero).X) ≤ q.X)) && (decide (q.X < x.X))))] rfl ⟨by kernel_rfl, by kernel_rfl⟩ ?_
          refine TL.split 50 ((decide (((p[((w64 ((w64 ((k : Int) + (p.length : Int))) - 1)).tmod (p.length : Int)).toNat]?.getD P.zero).X) ≤ q.X)) && (decide (q.X < x.X))) (by kernel_rfl) (fun h6 => ?_) (fun h6 => ?_)
          · refine TL.run 16 [0, 1, 2] [(0, .slice A_p p.length c_p), (3, .pointer (some ⟨b1, 0, none⟩)), (5, .int .i64 above), (9, .slice A_p p.length c_p), (10, .int .i64 (p.length : Int)), (11, .int .i64 (k : Int)), (50, .bool true), (51, P.v (p[((w64 ((w64 ((k : Int) + (p.length : Int))) - 1)).tmod (p.length : Int)).toNat]?.getD P.zero)), (52, P.v x), (53, P.v q)] rfl ⟨by kernel_rfl, by kernel_rfl⟩ ?_
            refine TL.call (some 54) [(0, .slice A_p p.length c_p), (3, .pointer (some ⟨b1, 0, none⟩)), (5, .int .i64 above), (9, .slice A_p p.length c_p), (10, .int .i64 (p.length : Int)), (11, .int .i64 (k : Int)), (50, .bool true), (54, .int .i64 (skywayref1_Cross (p[((w64 ((w64 ((k : Int) + (p.length : Int))) - 1)).tmod (p.length : Int)).toNat]?.getD P.zero) x q))] (fun w _ => skywayref1_Cross_w (p[((w64 ((w64 ((k : Int) + (p.length : Int))) - 1)).tmod (p.length : Int)).toNat]?.getD P.zero) x q w) (by kernel_rfl) (by kernel_rfl) ?_
            generalize hr3 : skywayref1_Cross (p[((w64 ((w64 ((k : Int) + (p.length : Int))) - 1)).tmod (p.length : Int)).toNat]?.getD P.zero) x q = r3
            refine TL.run 19 [] [(0, .slice A_p p.length c_p), (3, .pointer (some ⟨b1, 0, none⟩)), (5, .int .i64 above), (9, .slice A_p p.length c_p), (10, .int .i64 (p.length : Int)), (11, .int .i64 (k : Int)), (56, .bool (decide (r3 < 0)))] rfl ⟨by kernel_rfl, by kernel_rfl⟩ ?_
            refine TL.next rfl ?_
            refine TC.cond (decide (r3 < 0)) rfl (by kernel_rfl) (fun h7 => ?_) (fun h7 => ?_)
            · refine TC.region ?_
              refine TL.run 3 [] [(0, .slice A_p p.length c_p), (3, .pointer (some ⟨b1, 0, none⟩)), (5, .int .i64 (w64 (above + 1))), (9, .slice A_p p.length c_p), (10, .int .i64 (p.length : Int)), (11, .int .i64 (k : Int))] rfl ⟨by kernel_rfl, by kernel_rfl⟩ ?_
              refine TL.done rfl ?_
              refine TE.normal_block ?_
              refine TE.next ?_
              refine TC.region ?_
              refine TL.run 2 [] [(0, .slice A_p p.length c_p), (3, .pointer (some ⟨b1, 0, none⟩)), (5, .int .i64 (w64 (above + 1))), (9, .slice A_p p.length c_p), (10, .int .i64 (p.length : Int)), (11, .int .i64 (w64 ((k : Int) + 1)))] rfl ⟨by kernel_rfl, by kernel_rfl⟩ ?_
              refine TL.done rfl ?_
              refine TE.rw 11 (.int .i64 (w64 ((k : Int) + 1))) (.int .i64 ((k + 1 : Nat) : Int)) (by kernel_rfl) (w64_cast k (by omega)) ?_
              exact TE.again (x := (k, above)) (k + 1, w64 (above + 1)) ⟨by omega, hI.trans (by subst hr1 hr3; rw [hd]; exact cond_f h2 (cond_f h3 (cond_t h6 (cond_t h7 (rfl)))))⟩ (by show p.length - (k + 1) < p.length - k; omega) (by kernel_rfl) (.cons _ (.cons _ (.cons_cons _ (.slnil))))
            · refine TC.skip ?_
              refine TE.normal_block ?_
              refine TE.next ?_
              refine TC.region ?_
              refine TL.run 2 [] [(0, .slice A_p p.length c_p), (3, .pointer (some ⟨b1, 0, none⟩)), (5, .int .i64 above), (9, .slice A_p p.length c_p), (10, .int .i64 (p.length : Int)), (11, .int .i64 (w64 ((k : Int) + 1)))] rfl ⟨by kernel_rfl, by kernel_rfl⟩ ?_
              refine TL.done rfl ?_
              refine TE.rw 11 (.int .i64 (w64 ((k : Int) + 1))) (.int .i64 ((k + 1 : Nat) : Int)) (by kernel_rfl) (w64_cast k (by omega)) ?_
              exact TE.again (x := (k, above)) (k + 1, above) ⟨by omega, hI.trans (by subst hr1 hr3; rw [hd]; exact cond_f h2 (cond_f h3 (cond_t h6 (cond_f h7 (rfl)))))⟩ (by show p.length - (k + 1) < p.length - k; omega) (by kernel_rfl) (.cons _ (.cons _ (.cons_cons _ (.slnil))))
          · refine TL.run 19 [] [(0, .slice A_p p.length c_p), (3, .pointer (some ⟨b1, 0, none⟩)), (5, .int .i64 above), (9, .slice A_p p.length c_p), (10, .int .i64 (p.length : Int)), (11, .int .i64 (k : Int)), (56, .bool false)] rfl ⟨by kernel_rfl, by kernel_rfl⟩ ?_
            refine TL.next rfl ?_
            refine TC.condF rfl (by kernel_rfl) ?_
            refine TC.skip ?_
            refine TE.normal_block ?_
            refine TE.next ?_
            refine TC.region ?_
            refine TL.run 2 [] [(0, .slice A_p p.length c_p), (3, .pointer (some ⟨b1, 0, none⟩)), (5, .int .i64 above), (9, .slice A_p p.length c_p), (10, .int .i64 (p.length : Int)), (11, .int .i64 (w64 ((k : Int) + 1)))] rfl ⟨by kernel_rfl, by kernel_rfl⟩ ?_
            refine TL.done rfl ?_
            refine TE.rw 11 (.int .i64 (w64 ((k : Int) + 1))) (.int .i64 ((k + 1 : Nat) : Int)) (by kernel_rfl) (w64_cast k (by omega)) ?_
            exact TE.again (x := (k, above)) (k + 1, above) ⟨by omega, hI.trans (by subst hr1; rw [hd]; exact cond_f h2 (cond_f h3 (cond_f h6 (rfl))))⟩ (by show p.length - (k + 1) < p.length - k; omega) (by kernel_rfl) (.cons _ (.cons _ (.cons_cons _ (.slnil))))
    · have hd : p.drop k = [] := List.drop_eq_nil_of_le (by have := of_decide_eq_false h1; first | omega | (simp at this; omega))
      refine TC.exit ?_
      refine TE.exit_then (TE.exit_then (TE.exit_same ?_))
      exact TE.cut above (hI.trans (by rw [hd]; exact rfl)) (by kernel_rfl) (.cons _ (.slnil))
  · rintro above_2 hJ
    refine TE.next ?_
    refine TC.seq ?_
    refine TC.seq ?_
    refine TC.region ?_
    refine TL.run 3 [] [(62, .bool ((above_2.tmod 2) == 1))] rfl ⟨by kernel_rfl, by kernel_rfl⟩ ?_
    refine TL.next rfl ?_
    refine TC.cond ((above_2.tmod 2) == 1) rfl (by kernel_rfl) (fun h8 => ?_) (fun h8 => ?_)
    · refine TC.seq ?_
      refine TC.region ?_
      refine TL.run 1 [] [(4, .int .i64 1)] rfl ⟨by kernel_rfl, by kernel_rfl⟩ ?_
      refine TL.next rfl ?_
      refine TC.ret ?_
      refine TE.ret_then ?_
      have e : skywayref1_Place p q = 1 := by unfold skywayref1_Place; exact elim_l (hR.symm.trans hJ) (cond_t h8 (rfl))
      exact TE.ret [] (.int .i64 1) ⟨by kernel_rfl, by kernel_rfl⟩ (by rw [e]; first | done | kernel_rfl)
    · refine TC.skip ?_
      refine TE.next ?_
      refine TC.seq ?_
      refine TC.region ?_
      refine TL.run 1 [] [(4, .int .i64 (-1))] rfl ⟨by kernel_rfl, by kernel_rfl⟩ ?_
      refine TL.next rfl ?_
      refine TC.ret ?_
      have e : skywayref1_Place p q = (-1) := by unfold skywayref1_Place; exact elim_l (hR.symm.trans hJ) (cond_f h8 (rfl))
      exact TE.ret [] (.int .i64 (-1)) ⟨by kernel_rfl, by kernel_rfl⟩ (by rw [e]; first | done | kernel_rfl)

def skywaylaw1_polygonWorks : Bool :=
  let r1 := polygon_Locate ([P.zero, (⟨4, 0⟩ : P), (⟨4, 4⟩ : P), (⟨0, 4⟩ : P)]) (⟨1, 1⟩ : P)
  let r2 := polygon_Area ([P.zero, (⟨4, 0⟩ : P), (⟨4, 4⟩ : P), (⟨0, 4⟩ : P)])
  cond ((((r1.2 == 0) && (r1.1 == 1)) && (r2.2 == 0)) && (r2.1 == 32)) (
    let r3 := polygon_Check []
    r3 == 3) (
    false)

set_option maxRecDepth 100000 in
theorem skywaylaw1_polygonWorks_w (w : World) : Calls Try.prog 22 #[] w (Ret w (.bool (skywaylaw1_polygonWorks))) := by
  refine calls_intro (vs := []) (w := w) Try.func22 rfl Try.ntmps22 rfl ?_
  refine TC.weak [] (by kernel_rfl) ?_
  refine TC.seq ?_
  refine TC.region ?_
  refine TL.run 1 [] [] rfl ⟨by kernel_rfl, by kernel_rfl⟩ ?_
  refine TL.next rfl ?_
  refine TC.seq ?_
  refine TC.region ?_
  refine TL.run 4 [] [(6, P.v P.zero), (7, .agg #[.int .i64 4, .int .i64 0]), (8, .agg #[.int .i64 4, .int .i64 4]), (9, .agg #[.int .i64 0, .int .i64 4])] rfl ⟨by kernel_rfl, by kernel_rfl⟩ ?_
  refine TL.write 0 (fun b1 => [(10, .slice (some ⟨b1, 0, none⟩) 4 4)]) (fun b1 => [.inl (b1, .cells #[.int .i64 0, .int .i64 0, .int .i64 4, .int .i64 0, .int .i64 4, .int .i64 4, .int .i64 0, .int .i64 4] 25 (0, 0))]) (fun b1 => ⟨by kernel_rfl, by kernel_rfl⟩) (fun b1 => ?_)
  refine TL.run 6 [] [(1, .slice (some ⟨b1, 0, none⟩) 4 4)] rfl ⟨by kernel_rfl, by kernel_rfl⟩ ?_
  refine TL.next rfl ?_
  refine TC.seq ?_
  refine TC.region ?_
  refine TL.run 2 [] [(1, .slice (some ⟨b1, 0, none⟩) 4 4), (12, .slice (some ⟨b1, 0, none⟩) 4 4), (13, .agg #[.int .i64 1, .int .i64 1])] rfl ⟨by kernel_rfl, by kernel_rfl⟩ ?_
  refine TL.call (some 14) [(1, .slice (some ⟨b1, 0, none⟩) 4 4), (14, .tuple #[.int .i64 ((polygon_Locate ([P.zero, (⟨4, 0⟩ : P), (⟨4, 4⟩ : P), (⟨0, 4⟩ : P)]) (⟨1, 1⟩ : P)).1), .int .i64 ((polygon_Locate ([P.zero, (⟨4, 0⟩ : P), (⟨4, 4⟩ : P), (⟨0, 4⟩ : P)]) (⟨1, 1⟩ : P)).2)])] (fun w hM => polygon_Locate_w (some ⟨b1, 0, none⟩) 4 ([P.zero, (⟨4, 0⟩ : P), (⟨4, 4⟩ : P), (⟨0, 4⟩ : P)]) (⟨1, 1⟩ : P) w (Rd.lit hM 0 _ rfl (by kernel_rfl) (by kernel_rfl) (by kernel_rfl)) (Nat.le_refl _)) (by kernel_rfl) (by kernel_rfl) ?_
  generalize hr1 : polygon_Locate ([P.zero, (⟨4, 0⟩ : P), (⟨4, 4⟩ : P), (⟨0, 4⟩ : P)]) (⟨1, 1⟩ : P) = r1
  refine TL.run 8 [] [(1, .slice (some ⟨b1, 0, none⟩) 4 4), (2, .int .i64 r1.1), (3, .int .i64 r1.2)] rfl ⟨by kernel_rfl, by kernel_rfl⟩ ?_
  refine TL.next rfl ?_
  refine TC.seq ?_
  refine TC.region ?_
  refine TL.run 1 [] [(2, .int .i64 r1.1), (3, .int .i64 r1.2), (18, .slice (some ⟨b1, 0, none⟩) 4 4)] rfl ⟨by kernel_rfl, by kernel_rfl⟩ ?_
  refine TL.call (some 19) [(2, .int .i64 r1.1), (3, .int .i64 r1.2), (19, .tuple #[.int .i64 ((polygon_Area ([P.zero, (⟨4, 0⟩ : P), (⟨4, 4⟩ : P), (⟨0, 4⟩ : P)])).1), .int .i64 ((polygon_Area ([P.zero, (⟨4, 0⟩ : P), (⟨4, 4⟩ : P), (⟨0, 4⟩ : P)])).2)])] (fun w hM => polygon_Area_w (some ⟨b1, 0, none⟩) 4 ([P.zero, (⟨4, 0⟩ : P), (⟨4, 4⟩ : P), (⟨0, 4⟩ : P)]) w (Rd.lit hM 0 _ rfl (by kernel_rfl) (by kernel_rfl) (by kernel_rfl)) (Nat.le_refl _)) (by kernel_rfl) (by kernel_rfl) ?_
  generalize hr2 : polygon_Area ([P.zero, (⟨4, 0⟩ : P), (⟨4, 4⟩ : P), (⟨0, 4⟩ : P)]) = r2
  refine TL.run 7 [] [(2, .int .i64 r1.1), (3, .int .i64 r1.2), (4, .int .i64 r2.1), (5, .int .i64 r2.2)] rfl ⟨by kernel_rfl, by kernel_rfl⟩ ?_
  refine TL.next rfl ?_
  refine TC.seq ?_
  refine TC.region ?_
  refine TL.run 3 [] [(2, .int .i64 r1.1), (4, .int .i64 r2.1), (5, .int .i64 r2.2), (24, .bool (r1.2 == 0))] rfl ⟨by kernel_rfl, by kernel_rfl⟩ ?_
  refine TL.join 24 (r1.2 == 0) 6 [] [] (fun β => [(4, .int .i64 r2.1), (5, .int .i64 r2.2), (27, .bool (β && (r1.1 == 1)))]) (by kernel_rfl) rfl ⟨by kernel_rfl, by kernel_rfl⟩ ⟨by kernel_rfl, by kernel_rfl⟩ ?_
  refine TL.run 7 [] [(4, .int .i64 r2.1), (5, .int .i64 r2.2), (28, .bool ((r1.2 == 0) && (r1.1 == 1)))] rfl ⟨by kernel_rfl, by kernel_rfl⟩ ?_
  refine TL.join 28 ((r1.2 == 0) && (r1.1 == 1)) 10 [] [] (fun β => [(4, .int .i64 r2.1), (31, .bool (β && (r2.2 == 0)))]) (by kernel_rfl) rfl ⟨by kernel_rfl, by kernel_rfl⟩ ⟨by kernel_rfl, by kernel_rfl⟩ ?_
  refine TL.run 11 [] [(4, .int .i64 r2.1), (32, .bool (((r1.2 == 0) && (r1.1 == 1)) && (r2.2 == 0)))] rfl ⟨by kernel_rfl, by kernel_rfl⟩ ?_
  refine TL.join 32 (((r1.2 == 0) && (r1.1 == 1)) && (r2.2 == 0)) 14 [] [] (fun β => [(35, .bool (β && (r2.1 == 32)))]) (by kernel_rfl) rfl ⟨by kernel_rfl, by kernel_rfl⟩ ⟨by kernel_rfl, by kernel_rfl⟩ ?_
  refine TL.run 15 [] [(36, .bool ((((r1.2 == 0) && (r1.1 == 1)) && (r2.2 == 0)) && (r2.1 == 32)))] rfl ⟨by kernel_rfl, by kernel_rfl⟩ ?_
  refine TL.split 36 ((((r1.2 == 0) && (r1.1 == 1)) && (r2.2 == 0)) && (r2.1 == 32)) (by kernel_rfl) (fun h1 => ?_) (fun h1 => ?_)
  · refine TL.call (some 37) [(36, .bool true), (37, .int .i64 (polygon_Check []))] (fun w hM => polygon_Check_w none 0 [] w (Rd.nil _ _) (Nat.le_refl _)) (by kernel_rfl) (by kernel_rfl) ?_
    generalize hr3 : polygon_Check [] = r3
    refine TL.run 19 [] [(0, .bool (r3 == 3))] rfl ⟨by kernel_rfl, by kernel_rfl⟩ ?_
    refine TL.next rfl ?_
    refine TC.ret ?_
    have e : skywaylaw1_polygonWorks = (r3 == 3) := by subst hr1 hr2 hr3; unfold skywaylaw1_polygonWorks; exact cond_t h1 (rfl)
    exact TE.ret [] (.bool (r3 == 3)) ⟨by kernel_rfl, by kernel_rfl⟩ (by rw [e]; first | done | kernel_rfl)
  · refine TL.run 19 [] [(0, .bool false)] rfl ⟨by kernel_rfl, by kernel_rfl⟩ ?_
    refine TL.next rfl ?_
    refine TC.ret ?_
    have e : skywaylaw1_polygonWorks = false := by subst hr1 hr2; unfold skywaylaw1_polygonWorks; exact cond_f h1 (rfl)
    exact TE.ret [] (.bool false) ⟨by kernel_rfl, by kernel_rfl⟩ (by rw [e]; first | done | kernel_rfl)

def skywaylaw1_PolygonPlaces (p : List P) (q : P) : Bool :=
  let r1 := skywaylaw1_polygonWorks
  cond (!r1) (
    false) (
    let r2 := polygon_Locate p q
    let r3 := polygon_Check p
    cond (r3 != 0) (
      (r2.2 == r3) && (r2.1 == 0)) (
      let r4 := skywayref1_Good q
      cond (!r4) (
        (r2.2 == 4) && (r2.1 == 0)) (
        cond (r2.2 == 0) (
          let r5 := skywayref1_Place p q
          r2.1 == r5) (
          false))))

set_option maxRecDepth 100000 in
theorem skywaylaw1_PolygonPlaces_w (A_p : Option Addr) (c_p : Nat) (p : List P) (q : P) (w : World) (h_p : Rd w 2 A_p (p.map P.c)) (hc_p : p.length ≤ c_p) : Calls Try.prog 5 #[.slice A_p p.length c_p, P.v q] w (Ret w (.bool (skywaylaw1_PolygonPlaces p q))) := by
  have s_p := h_p.short; rw [List.length_map] at s_p
  refine calls_intro (vs := [.slice A_p p.length c_p, P.v q]) (w := w) Try.func5 rfl Try.ntmps5 rfl ?_
  refine TC.weak [(0, .slice A_p p.length c_p), (1, P.v q)] (by kernel_rfl) ?_
  refine TC.seq ?_
  refine TC.region ?_
  refine TL.write 0 (fun b1 => [(0, .slice A_p p.length c_p), (3, .pointer (some ⟨b1, 0, none⟩))]) (fun b1 => [.inl (b1, .cells (P.c q) 25 (0, 0))]) (fun b1 => ⟨by kernel_rfl, by kernel_rfl⟩) (fun b1 => ?_)
  refine TL.run 2 [] [(0, .slice A_p p.length c_p), (3, .pointer (some ⟨b1, 0, none⟩))] rfl ⟨by kernel_rfl, by kernel_rfl⟩ ?_
  refine TL.next rfl ?_
  refine TC.seq ?_
  refine TC.seq ?_
  refine TC.region ?_
  refine TL.call (some 8) [(0, .slice A_p p.length c_p), (3, .pointer (some ⟨b1, 0, none⟩)), (8, .bool ((skywaylaw1_polygonWorks)))] (fun w _ => skywaylaw1_polygonWorks_w w) (by kernel_rfl) (by kernel_rfl) ?_
  generalize hr1 : skywaylaw1_polygonWorks = r1
  refine TL.run 2 [] [(0, .slice A_p p.length c_p), (3, .pointer (some ⟨b1, 0, none⟩)), (9, .bool (!r1))] rfl ⟨by kernel_rfl, by kernel_rfl⟩ ?_
  refine TL.next rfl ?_
  refine TC.cond (!r1) rfl (by kernel_rfl) (fun h1 => ?_) (fun h1 => ?_)
  · refine TC.seq ?_
    refine TC.region ?_
    refine TL.run 1 [] [(4, .bool false)] rfl ⟨by kernel_rfl, by kernel_rfl⟩ ?_
    refine TL.next rfl ?_
    refine TC.ret ?_
    refine TE.ret_then ?_
    have e : skywaylaw1_PolygonPlaces p q = false := by subst hr1; unfold skywaylaw1_PolygonPlaces; exact cond_t h1 (rfl)
    exact TE.ret [] (.bool false) ⟨by kernel_rfl, by kernel_rfl⟩ (by rw [e]; first | done | kernel_rfl)
  · refine TC.skip ?_
    refine TE.next ?_
    refine TC.seq ?_
    refine TC.region ?_
    refine TL.run 2 [0] [(0, .slice A_p p.length c_p), (3, .pointer (some ⟨b1, 0, none⟩)), (11, .slice A_p p.length c_p), (12, P.v q)] rfl ⟨by kernel_rfl, by kernel_rfl⟩ ?_
    refine TL.call (some 13) [(0, .slice A_p p.length c_p), (3, .pointer (some ⟨b1, 0, none⟩)), (13, .tuple #[.int .i64 ((polygon_Locate p q).1), .int .i64 ((polygon_Locate p q).2)])] (fun w hM => polygon_Locate_w A_p c_p p q w (h_p.sat hM) hc_p) (by kernel_rfl) (by kernel_rfl) ?_
    generalize hr2 : polygon_Locate p q = r2
    refine TL.run 8 [] [(0, .slice A_p p.length c_p), (3, .pointer (some ⟨b1, 0, none⟩)), (5, .int .i64 r2.1), (6, .int .i64 r2.2)] rfl ⟨by kernel_rfl, by kernel_rfl⟩ ?_
    refine TL.next rfl ?_
    refine TC.seq ?_
    refine TC.seq ?_
    refine TC.region ?_
    refine TL.run 1 [] [(0, .slice A_p p.length c_p), (3, .pointer (some ⟨b1, 0, none⟩)), (5, .int .i64 r2.1), (6, .int .i64 r2.2), (16, .slice A_p p.length c_p)] rfl ⟨by kernel_rfl, by kernel_rfl⟩ ?_
    refine TL.call (some 17) [(0, .slice A_p p.length c_p), (3, .pointer (some ⟨b1, 0, none⟩)), (5, .int .i64 r2.1), (6, .int .i64 r2.2), (17, .int .i64 (polygon_Check p))] (fun w hM => polygon_Check_w A_p c_p p w (h_p.sat hM) hc_p) (by kernel_rfl) (by kernel_rfl) ?_
    generalize hr3 : polygon_Check p = r3
    refine TL.run 3 [] [(0, .slice A_p p.length c_p), (3, .pointer (some ⟨b1, 0, none⟩)), (5, .int .i64 r2.1), (6, .int .i64 r2.2), (7, .int .i64 r3)] rfl ⟨by kernel_rfl, by kernel_rfl⟩ ?_
    refine TL.next rfl ?_
    refine TC.seq ?_
    refine TC.region ?_
    refine TL.run 2 [] [(0, .slice A_p p.length c_p), (3, .pointer (some ⟨b1, 0, none⟩)), (5, .int .i64 r2.1), (6, .int .i64 r2.2), (7, .int .i64 r3), (19, .bool (r3 != 0))] rfl ⟨by kernel_rfl, by kernel_rfl⟩ ?_
    refine TL.next rfl ?_
    refine TC.cond (r3 != 0) rfl (by kernel_rfl) (fun h2 => ?_) (fun h2 => ?_)
    · refine TC.seq ?_
      refine TC.region ?_
      refine TL.run 4 [] [(5, .int .i64 r2.1), (23, .bool (r2.2 == r3))] rfl ⟨by kernel_rfl, by kernel_rfl⟩ ?_
      refine TL.join 23 (r2.2 == r3) 7 [] [] (fun β => [(26, .bool (β && (r2.1 == 0)))]) (by kernel_rfl) rfl ⟨by kernel_rfl, by kernel_rfl⟩ ⟨by kernel_rfl, by kernel_rfl⟩ ?_
      refine TL.run 8 [] [(4, .bool ((r2.2 == r3) && (r2.1 == 0)))] rfl ⟨by kernel_rfl, by kernel_rfl⟩ ?_
      refine TL.next rfl ?_
      refine TC.ret ?_
      refine TE.ret_then ?_
      have e : skywaylaw1_PolygonPlaces p q = ((r2.2 == r3) && (r2.1 == 0)) := by subst hr1 hr2 hr3; unfold skywaylaw1_PolygonPlaces; exact cond_f h1 (cond_t h2 (rfl))
      exact TE.ret [] (.bool ((r2.2 == r3) && (r2.1 == 0))) ⟨by kernel_rfl, by kernel_rfl⟩ (by rw [e]; first | done | kernel_rfl)
    · refine TC.skip ?_
      refine TE.next ?_
      refine TC.seq ?_
      refine TC.seq ?_
      refine TC.region ?_
      refine TL.run 1 [0] [(0, .slice A_p p.length c_p), (3, .pointer (some ⟨b1, 0, none⟩)), (5, .int .i64 r2.1), (6, .int .i64 r2.2), (27, P.v q)] rfl ⟨by kernel_rfl, by kernel_rfl⟩ ?_
      refine TL.call (some 28) [(0, .slice A_p p.length c_p), (3, .pointer (some ⟨b1, 0, none⟩)), (5, .int .i64 r2.1), (6, .int .i64 r2.2), (28, .bool ((skywayref1_Good q)))] (fun w _ => skywayref1_Good_w q w) (by kernel_rfl) (by kernel_rfl) ?_
      generalize hr4 : skywayref1_Good q = r4
      refine TL.run 3 [] [(0, .slice A_p p.length c_p), (3, .pointer (some ⟨b1, 0, none⟩)), (5, .int .i64 r2.1), (6, .int .i64 r2.2), (29, .bool (!r4))] rfl ⟨by kernel_rfl, by kernel_rfl⟩ ?_
      refine TL.next rfl ?_
      refine TC.cond (!r4) rfl (by kernel_rfl) (fun h3 => ?_) (fun h3 => ?_)
      · refine TC.seq ?_
        refine TC.region ?_
        refine TL.run 3 [] [(5, .int .i64 r2.1), (32, .bool (r2.2 == 4))] rfl ⟨by kernel_rfl, by kernel_rfl⟩ ?_
        refine TL.join 32 (r2.2 == 4) 6 [] [] (fun β => [(35, .bool (β && (r2.1 == 0)))]) (by kernel_rfl) rfl ⟨by kernel_rfl, by kernel_rfl⟩ ⟨by kernel_rfl, by kernel_rfl⟩ ?_
        refine TL.run 7 [] [(4, .bool ((r2.2 == 4) && (r2.1 == 0)))] rfl ⟨by kernel_rfl, by kernel_rfl⟩ ?_
        refine TL.next rfl ?_
        refine TC.ret ?_
        refine TE.ret_then ?_
        have e : skywaylaw1_PolygonPlaces p q = ((r2.2 == 4) && (r2.1 == 0)) := by subst hr1 hr2 hr3 hr4; unfold skywaylaw1_PolygonPlaces; exact cond_f h1 (cond_f h2 (cond_t h3 (rfl)))
        exact TE.ret [] (.bool ((r2.2 == 4) && (r2.1 == 0))) ⟨by kernel_rfl, by kernel_rfl⟩ (by rw [e]; first | done | kernel_rfl)
      · refine TC.skip ?_
        refine TE.next ?_
        refine TC.seq ?_
        refine TC.region ?_
        refine TL.run 3 [] [(0, .slice A_p p.length c_p), (3, .pointer (some ⟨b1, 0, none⟩)), (5, .int .i64 r2.1), (38, .bool (r2.2 == 0))] rfl ⟨by kernel_rfl, by kernel_rfl⟩ ?_
        refine TL.split 38 (r2.2 == 0) (by kernel_rfl) (fun h4 => ?_) (fun h4 => ?_)
        · refine TL.run 6 [0] [(38, .bool true), (39, .int .i64 r2.1), (40, .slice A_p p.length c_p), (41, P.v q)] rfl ⟨by kernel_rfl, by kernel_rfl⟩ ?_
          refine TL.call (some 42) [(38, .bool true), (39, .int .i64 r2.1), (42, .int .i64 (skywayref1_Place p q))] (fun w hM => skywayref1_Place_w A_p c_p p q w (h_p.sat hM) hc_p) (by kernel_rfl) (by kernel_rfl) ?_
          generalize hr5 : skywayref1_Place p q = r5
          refine TL.run 10 [] [(4, .bool (r2.1 == r5))] rfl ⟨by kernel_rfl, by kernel_rfl⟩ ?_
          refine TL.next rfl ?_
          refine TC.ret ?_
          have e : skywaylaw1_PolygonPlaces p q = (r2.1 == r5) := by subst hr1 hr2 hr3 hr4 hr5; unfold skywaylaw1_PolygonPlaces; exact cond_f h1 (cond_f h2 (cond_f h3 (cond_t h4 (rfl))))
          exact TE.ret [] (.bool (r2.1 == r5)) ⟨by kernel_rfl, by kernel_rfl⟩ (by rw [e]; first | done | kernel_rfl)
        · refine TL.run 10 [] [(4, .bool false)] rfl ⟨by kernel_rfl, by kernel_rfl⟩ ?_
          refine TL.next rfl ?_
          refine TC.ret ?_
          have e : skywaylaw1_PolygonPlaces p q = false := by subst hr1 hr2 hr3 hr4; unfold skywaylaw1_PolygonPlaces; exact cond_f h1 (cond_f h2 (cond_f h3 (cond_f h4 (rfl))))
          exact TE.ret [] (.bool false) ⟨by kernel_rfl, by kernel_rfl⟩ (by rw [e]; first | done | kernel_rfl)

end Go.Sky
