/- Functions of the program, each with the Lean function that it computes. Conditions: none. -/
import Derived.Test.YtlaealgmaalgfaaWj
namespace Go.Sky
open Go Go.Eng Go.Proofs
def skywaykeep2_within (n : Int) (low : Int) (high : Int) : Int :=
  w64 (low + ((w64 ((n.tmod (w64 ((w64 (high - low)) + 1))) + (w64 ((w64 (high - low)) + 1)))).tmod (w64 ((w64 (high - low)) + 1))))

theorem within_eq {n low high r : Int} (hr : skywaykeep2_within n low high = r) (h : low ≤ high) (h1 : -1000000000000 ≤ low) (h2 : high ≤ 1000000000000) :
    r = low + (n.tmod (high - low + 1) + (high - low + 1)).tmod (high - low + 1) ∧ low ≤ r ∧ r ≤ high := by
  subst hr
  unfold skywaykeep2_within
  have s : w64 ((w64 (high - low)) + 1) = high - low + 1 := by rw [w64_id (x := high - low) (by omega), w64_id (by omega)]
  simp only [s]
  have t1 := Int.tmod_lt_of_pos n (show 0 < high - low + 1 by omega)
  have t2 := Int.lt_tmod_of_pos n (show 0 < high - low + 1 by omega)
  rw [w64_id (x := n.tmod (high - low + 1) + (high - low + 1)) (by omega)]
  have t3 := Int.tmod_lt_of_pos (n.tmod (high - low + 1) + (high - low + 1)) (show 0 < high - low + 1 by omega)
  have t4 := Int.tmod_nonneg (high - low + 1) (show 0 ≤ n.tmod (high - low + 1) + (high - low + 1) by omega)
  rw [w64_id (by omega)]
  omega
theorem within_in {n low high r : Int} (hr : skywaykeep2_within n low high = r) (h : low ≤ high) (h1 : -1000000000000 ≤ low) (h2 : high ≤ 1000000000000) : low ≤ r ∧ r ≤ high := (within_eq hr h h1 h2).2

set_option maxRecDepth 100000 in
theorem skywaykeep2_within_w (n : Int) (low : Int) (high : Int) (w : World) (hs : w64 ((w64 (high - low)) + 1) ≠ 0) : Calls Try.prog 40 #[.int .i64 n, .int .i64 low, .int .i64 high] w (Ret w (.int .i64 (skywaykeep2_within n low high))) := by
  refine calls_intro (vs := [.int .i64 n, .int .i64 low, .int .i64 high]) (w := w) Try.func40 rfl Try.ntmps40 rfl ?_
  refine TC.weak [(0, .int .i64 n), (1, .int .i64 low), (2, .int .i64 high)] (by kernel_rfl) ?_
  refine TC.seq ?_
  refine TC.region ?_
  refine TL.run 1 [] [(0, .int .i64 n), (1, .int .i64 low), (2, .int .i64 high)] rfl ⟨by kernel_rfl, by kernel_rfl⟩ ?_
  refine TL.next rfl ?_
  refine TC.seq ?_
  refine TC.region ?_
  refine TL.run 5 [] [(0, .int .i64 n), (1, .int .i64 low), (7, .int .i64 (w64 ((w64 (high - low)) + 1)))] rfl ⟨by kernel_rfl, by kernel_rfl⟩ ?_
  refine TL.next rfl ?_
  refine TC.seq ?_
  refine TC.region ?_
  refine TL.run 3 [] [(7, .int .i64 (w64 ((w64 (high - low)) + 1))), (12, .int .i64 low), (13, .int .i64 n), (14, .int .i64 (w64 ((w64 (high - low)) + 1)))] rfl ⟨by kernel_rfl, by kernel_rfl⟩ ?_
  refine TL.val (sV (binOp .rem 3 (.int .i64 n) (.int .i64 (w64 ((w64 (high - low)) + 1))))) (some 15) (.int .i64 (n.tmod (w64 ((w64 (high - low)) + 1)))) [(7, .int .i64 (w64 ((w64 (high - low)) + 1))), (12, .int .i64 low), (15, .int .i64 (n.tmod (w64 ((w64 (high - low)) + 1))))] (fun w hM => run_rem (by first | omega | (simp only [List.length_drop]; omega) | (simp only [w64_eq]; omega) | exact (tm_in (by (first | (rw [w64_id (by omega)]; omega) | (simp only [w64_eq]; omega))) (by omega)).1 | exact (tm_in (by (first | (rw [w64_id (by omega)]; omega) | (simp only [w64_eq]; omega))) (by omega)).2.1 | exact (tm_in (by (first | (rw [w64_id (by omega)]; omega) | (simp only [w64_eq]; omega))) (by omega)).2.2 | (simp <;> omega))) (by kernel_rfl) (by kernel_rfl) ?_
  refine TL.run 7 [] [(12, .int .i64 low), (17, .int .i64 (w64 ((n.tmod (w64 ((w64 (high - low)) + 1))) + (w64 ((w64 (high - low)) + 1))))), (18, .int .i64 (w64 ((w64 (high - low)) + 1)))] rfl ⟨by kernel_rfl, by kernel_rfl⟩ ?_
  refine TL.val (sV (binOp .rem 3 (.int .i64 (w64 ((n.tmod (w64 ((w64 (high - low)) + 1))) + (w64 ((w64 (high - low)) + 1))))) (.int .i64 (w64 ((w64 (high - low)) + 1))))) (some 19) (.int .i64 ((w64 ((n.tmod (w64 ((w64 (high - low)) + 1))) + (w64 ((w64 (high - low)) + 1)))).tmod (w64 ((w64 (high - low)) + 1)))) [(12, .int .i64 low), (19, .int .i64 ((w64 ((n.tmod (w64 ((w64 (high - low)) + 1))) + (w64 ((w64 (high - low)) + 1)))).tmod (w64 ((w64 (high - low)) + 1))))] (fun w hM => run_rem (by first | omega | (simp only [List.length_drop]; omega) | (simp only [w64_eq]; omega) | exact (tm_in (by (first | (rw [w64_id (by omega)]; omega) | (simp only [w64_eq]; omega))) (by omega)).1 | exact (tm_in (by (first | (rw [w64_id (by omega)]; omega) | (simp only [w64_eq]; omega))) (by omega)).2.1 | exact (tm_in (by (first | (rw [w64_id (by omega)]; omega) | (simp only [w64_eq]; omega))) (by omega)).2.2 | (simp <;> omega))) (by kernel_rfl) (by kernel_rfl) ?_
  refine TL.run 10 [] [(6, .int .i64 (w64 (low + ((w64 ((n.tmod (w64 ((w64 (high - low)) + 1))) + (w64 ((w64 (high - low)) + 1)))).tmod (w64 ((w64 (high - low)) + 1))))))] rfl ⟨by kernel_rfl, by kernel_rfl⟩ ?_
  refine TL.next rfl ?_
  refine TC.ret ?_
  have e : skywaykeep2_within n low high = (w64 (low + ((w64 ((n.tmod (w64 ((w64 (high - low)) + 1))) + (w64 ((w64 (high - low)) + 1)))).tmod (w64 ((w64 (high - low)) + 1))))) := by unfold skywaykeep2_within; exact rfl
  exact TE.ret [] (.int .i64 (w64 (low + ((w64 ((n.tmod (w64 ((w64 (high - low)) + 1))) + (w64 ((w64 (high - low)) + 1)))).tmod (w64 ((w64 (high - low)) + 1)))))) ⟨by kernel_rfl, by kernel_rfl⟩ (by rw [e]; first | done | kernel_rfl)

def skywaykeep2_line (radius : Int) (band : Int) : List TubeNode :=
  [(⟨⟨0, ⟨0, 0⟩, 5000⟩, radius, band⟩ : TubeNode), (⟨⟨100, ⟨20000, 0⟩, 5000⟩, radius, band⟩ : TubeNode)]

set_option maxRecDepth 100000 in
theorem skywaykeep2_line_w (radius : Int) (band : Int) (w : World) : Calls Try.prog 39 #[.int .i64 radius, .int .i64 band] w (RetM (Γ := Option Addr × Nat) (cx w) (fun g => .slice g.1 (skywaykeep2_line radius band).length g.2) (fun g => [.inr (Own g.1 g.2 57 6 ((skywaykeep2_line radius band).map TubeNode.c))])) := by
  refine calls_intro (vs := [.int .i64 radius, .int .i64 band]) (w := w) Try.func39 rfl Try.ntmps39 rfl ?_
  refine TC.weak [(0, .int .i64 radius), (1, .int .i64 band)] (by kernel_rfl) ?_
  refine TC.seq ?_
  refine TC.region ?_
  refine TL.run 1 [] [(0, .int .i64 radius), (1, .int .i64 band)] rfl ⟨by kernel_rfl, by kernel_rfl⟩ ?_
  refine TL.next rfl ?_
  refine TC.seq ?_
  refine TC.region ?_
  refine TL.run 9 [] [(8, .agg #[.int .i64 0, .int .i64 0, .int .i64 0, .int .i64 5000, .int .i64 radius, .int .i64 band]), (13, .agg #[.int .i64 100, .int .i64 20000, .int .i64 0, .int .i64 5000, .int .i64 radius, .int .i64 band])] rfl ⟨by kernel_rfl, by kernel_rfl⟩ ?_
  refine TL.write 0 (fun b1 => [(14, .slice (some ⟨b1, 0, none⟩) 2 2)]) (fun b1 => [.inl (b1, .cells #[.int .i64 0, .int .i64 0, .int .i64 0, .int .i64 5000, .int .i64 radius, .int .i64 band, .int .i64 100, .int .i64 20000, .int .i64 0, .int .i64 5000, .int .i64 radius, .int .i64 band] 57 (0, 0))]) (fun b1 => ⟨by kernel_rfl, by kernel_rfl⟩) (fun b1 => ?_)
  refine TL.run 11 [] [(4, .slice (some ⟨b1, 0, none⟩) 2 2)] rfl ⟨by kernel_rfl, by kernel_rfl⟩ ?_
  refine TL.next rfl ?_
  refine TC.ret ?_
  have e : skywaykeep2_line radius band = ([(⟨⟨0, ⟨0, 0⟩, 5000⟩, radius, band⟩ : TubeNode), (⟨⟨100, ⟨20000, 0⟩, 5000⟩, radius, band⟩ : TubeNode)]) := by unfold skywaykeep2_line; exact rfl
  refine TE.conv [.inr (Own (some ⟨b1, 0, none⟩) 2 57 6 (([(⟨⟨0, ⟨0, 0⟩, 5000⟩, radius, band⟩ : TubeNode), (⟨⟨100, ⟨20000, 0⟩, 5000⟩, radius, band⟩ : TubeNode)] : List TubeNode).map TubeNode.c))] (fun _ hM => by exact hM.litrow 0 (([(⟨⟨0, ⟨0, 0⟩, 5000⟩, radius, band⟩ : TubeNode), (⟨⟨100, ⟨20000, 0⟩, 5000⟩, radius, band⟩ : TubeNode)] : List TubeNode).map TubeNode.c) rfl (by kernel_rfl) (by kernel_rfl) (by kernel_rfl) (by kernel_rfl)) ?_
  rw [e]
  exact TE.retM (.inl rfl) ((some ⟨b1, 0, none⟩), 2) [] (.slice (some ⟨b1, 0, none⟩) 2 2) ⟨by kernel_rfl, by kernel_rfl⟩ rfl (fun _ hM => hM.sub (.cons_cons _ (.slnil)))

def pair_fits (t : Track) (l : List TubeNode) : TubeNode × Bool :=
  let r1 := tube_At l t.Time
  cond (r1.2 == 0) (
    let r2 := plane_Within r1.1.Node.At t.At (w64 (r1.1.Radius + t.Radius))
    (r1.1, r2 && (decide ((imax (w64 (r1.1.Node.Height - t.Height)) (w64 (t.Height - r1.1.Node.Height))) ≤ (w64 (r1.1.Band + 100)))))) (
    (r1.1, false))

set_option maxRecDepth 100000 in
theorem pair_fits_w (t : Track) (A_l : Option Addr) (c_l : Nat) (l : List TubeNode) (w : World) (h_l : Rd w 6 A_l (l.map TubeNode.c)) (hc_l : l.length ≤ c_l) : Calls Try.prog 79 #[Track.v t, .slice A_l l.length c_l] w (Ret w (.tuple #[TubeNode.v ((pair_fits t l).1), .bool ((pair_fits t l).2)])) := by
  have s_l := h_l.short; rw [List.length_map] at s_l
  refine calls_intro (vs := [Track.v t, .slice A_l l.length c_l]) (w := w) Try.func79 rfl Try.ntmps79 rfl ?_
  refine TC.weak [(0, Track.v t), (1, .slice A_l l.length c_l)] (by kernel_rfl) ?_
  refine TC.seq ?_
  refine TC.region ?_
  refine TL.write 0 (fun b1 => [(1, .slice A_l l.length c_l), (2, .pointer (some ⟨b1, 0, none⟩))]) (fun b1 => [.inl (b1, .cells (Track.c t) 33 (0, 0))]) (fun b1 => ⟨by kernel_rfl, by kernel_rfl⟩) (fun b1 => ?_)
  refine TL.write 0 (fun b2 => [(1, .slice A_l l.length c_l), (2, .pointer (some ⟨b1, 0, none⟩)), (4, .pointer (some ⟨b2, 0, none⟩))]) (fun b2 => [.inl (b2, .cells (TubeNode.c TubeNode.zero) 57 (0, 0)), .inl (b1, .cells (Track.c t) 33 (0, 0))]) (fun b2 => ⟨by kernel_rfl, by kernel_rfl⟩) (fun b2 => ?_)
  refine TL.run 3 [] [(1, .slice A_l l.length c_l), (2, .pointer (some ⟨b1, 0, none⟩)), (4, .pointer (some ⟨b2, 0, none⟩))] rfl ⟨by kernel_rfl, by kernel_rfl⟩ ?_
  refine TL.next rfl ?_
  refine TC.seq ?_
  refine TC.region ?_
  refine TL.run 3 [1] [(2, .pointer (some ⟨b1, 0, none⟩)), (4, .pointer (some ⟨b2, 0, none⟩)), (9, .slice A_l l.length c_l), (11, .int .i64 t.Time)] rfl ⟨by kernel_rfl, by kernel_rfl⟩ ?_
  refine TL.call (some 12) [(2, .pointer (some ⟨b1, 0, none⟩)), (4, .pointer (some ⟨b2, 0, none⟩)), (12, .tuple #[TubeNode.v ((tube_At l t.Time).1), .int .i64 ((tube_At l t.Time).2)])] (fun w hM => tube_At_w A_l c_l l t.Time w (h_l.sat hM) hc_l) (by kernel_rfl) (by kernel_rfl) ?_
  generalize hr1 : tube_At l t.Time = r1
  refine TL.run 7 [] [(2, .pointer (some ⟨b1, 0, none⟩)), (4, .pointer (some ⟨b2, 0, none⟩)), (13, TubeNode.v r1.1), (14, .int .i64 r1.2)] rfl ⟨by kernel_rfl, by kernel_rfl⟩ ?_
  refine TL.write 0 (fun b3 => [(2, .pointer (some ⟨b1, 0, none⟩)), (4, .pointer (some ⟨b2, 0, none⟩)), (6, .pointer (some ⟨b3, 0, none⟩)), (13, TubeNode.v r1.1), (14, .int .i64 r1.2)]) (fun b3 => [.inl (b3, .cells (TubeNode.c TubeNode.zero) 57 (0, 0)), .inl (b2, .cells (TubeNode.c TubeNode.zero) 57 (0, 0)), .inl (b1, .cells (Track.c t) 33 (0, 0))]) (fun b3 => ⟨by kernel_rfl, by kernel_rfl⟩) (fun b3 => ?_)
  refine TL.write 0 (fun _ => [(2, .pointer (some ⟨b1, 0, none⟩)), (4, .pointer (some ⟨b2, 0, none⟩)), (6, .pointer (some ⟨b3, 0, none⟩)), (14, .int .i64 r1.2)]) (fun _ => [.inl (b3, .cells (TubeNode.c r1.1) 57 (0, 0)), .inl (b2, .cells (TubeNode.c TubeNode.zero) 57 (0, 0)), .inl (b1, .cells (Track.c t) 33 (0, 0))]) (fun _ => ⟨by kernel_rfl, by kernel_rfl⟩) (fun _ => ?_)
  refine TL.run 10 [] [(2, .pointer (some ⟨b1, 0, none⟩)), (4, .pointer (some ⟨b2, 0, none⟩)), (6, .pointer (some ⟨b3, 0, none⟩)), (7, .int .i64 r1.2)] rfl ⟨by kernel_rfl, by kernel_rfl⟩ ?_
  refine TL.next rfl ?_
  refine TC.seq ?_
  refine TC.drawG 35 [.inl (b3, .cells (TubeNode.c r1.1) 57 (0, 0)), .inl (b1, .cells (Track.c t) 33 (0, 0))] [.inl (b3, .cells (TubeNode.c r1.1) 57 (0, 0)), .inl (b2, .cells (TubeNode.c r1.1) 57 (0, 0)), .inl (b1, .cells (Track.c t) 33 (0, 0))] (.cons_cons _ (.cons _ (.cons_cons _ (.slnil)))) (.cons_cons _ (.cons _ (.cons_cons _ (.slnil)))) (by kernel_rfl) (by kernel_rfl) ?_
  refine TG.run 4 [0] [(2, .pointer (some ⟨b1, 0, none⟩)), (4, .pointer (some ⟨b2, 0, none⟩)), (6, .pointer (some ⟨b3, 0, none⟩)), (15, TubeNode.v r1.1), (18, .bool (r1.2 == 0))] rfl rfl rfl ⟨by kernel_rfl, by kernel_rfl⟩ ?_
  refine TG.split 18 (r1.2 == 0) (by kernel_rfl) (fun h1 => ?_) (fun h1 => ?_)
  · refine TG.run 14 [0, 1, 0, 1] [(2, .pointer (some ⟨b1, 0, none⟩)), (4, .pointer (some ⟨b2, 0, none⟩)), (6, .pointer (some ⟨b3, 0, none⟩)), (15, TubeNode.v r1.1), (18, .bool true), (21, P.v r1.1.Node.At), (23, P.v t.At), (28, .int .i64 (w64 (r1.1.Radius + t.Radius)))] rfl rfl rfl ⟨by kernel_rfl, by kernel_rfl⟩ ?_
    refine TG.call (some 29) [(2, .pointer (some ⟨b1, 0, none⟩)), (4, .pointer (some ⟨b2, 0, none⟩)), (6, .pointer (some ⟨b3, 0, none⟩)), (15, TubeNode.v r1.1), (18, .bool true), (29, .bool ((plane_Within r1.1.Node.At t.At (w64 (r1.1.Radius + t.Radius)))))] (fun w _ => plane_Within_w r1.1.Node.At t.At (w64 (r1.1.Radius + t.Radius)) w) rfl (by kernel_rfl) (by kernel_rfl) ?_
    generalize hr2 : plane_Within r1.1.Node.At t.At (w64 (r1.1.Radius + t.Radius)) = r2
    refine TG.run 17 [] [(2, .pointer (some ⟨b1, 0, none⟩)), (4, .pointer (some ⟨b2, 0, none⟩)), (6, .pointer (some ⟨b3, 0, none⟩)), (15, TubeNode.v r1.1), (31, .bool r2)] rfl rfl rfl ⟨by kernel_rfl, by kernel_rfl⟩ ?_
    refine TG.join 31 r2 35 [0, 1, 1, 0, 0] [] (fun β => [(4, .pointer (some ⟨b2, 0, none⟩)), (15, TubeNode.v r1.1), (49, .bool (β && (decide ((imax (w64 (r1.1.Node.Height - t.Height)) (w64 (t.Height - r1.1.Node.Height))) ≤ (w64 (r1.1.Band + 100))))))]) (by kernel_rfl) rfl rfl rfl ⟨by kernel_rfl, by kernel_rfl⟩ ⟨by kernel_rfl, by kernel_rfl⟩ ?_
    refine TG.store 1 rfl (fun _ => ⟨by kernel_rfl, by kernel_rfl⟩) ?_
    refine TG.run 37 [] [(4, .pointer (some ⟨b2, 0, none⟩)), (5, .bool (r2 && (decide ((imax (w64 (r1.1.Node.Height - t.Height)) (w64 (t.Height - r1.1.Node.Height))) ≤ (w64 (r1.1.Band + 100))))))] rfl rfl rfl ⟨by kernel_rfl, by kernel_rfl⟩ ?_
    refine TG.next rfl rfl ?_
    refine TC.ret ?_
    have e : pair_fits t l = (r1.1, r2 && (decide ((imax (w64 (r1.1.Node.Height - t.Height)) (w64 (t.Height - r1.1.Node.Height))) ≤ (w64 (r1.1.Band + 100))))) := by subst hr1 hr2; unfold pair_fits; exact cond_t h1 (rfl)
    exact TE.ret [1] (.tuple #[TubeNode.v r1.1, .bool (r2 && (decide ((imax (w64 (r1.1.Node.Height - t.Height)) (w64 (t.Height - r1.1.Node.Height))) ≤ (w64 (r1.1.Band + 100)))))]) ⟨by kernel_rfl, by kernel_rfl⟩ (by rw [e]; first | done | kernel_rfl)
  · refine TG.run 35 [] [(4, .pointer (some ⟨b2, 0, none⟩)), (15, TubeNode.v r1.1), (49, .bool false)] rfl rfl rfl ⟨by kernel_rfl, by kernel_rfl⟩ ?_
    refine TG.store 1 rfl (fun _ => ⟨by kernel_rfl, by kernel_rfl⟩) ?_
    refine TG.run 37 [] [(4, .pointer (some ⟨b2, 0, none⟩)), (5, .bool false)] rfl rfl rfl ⟨by kernel_rfl, by kernel_rfl⟩ ?_
    refine TG.next rfl rfl ?_
    refine TC.ret ?_
    have e : pair_fits t l = (r1.1, false) := by subst hr1; unfold pair_fits; exact cond_f h1 (rfl)
    exact TE.ret [1] (.tuple #[TubeNode.v r1.1, .bool false]) ⟨by kernel_rfl, by kernel_rfl⟩ (by rw [e]; first | done | kernel_rfl)

def pair_Fits (t : Track) (l : List TubeNode) : Bool × Int :=
  let r1 := gate_CheckTrack t
  cond (r1 != 0) (
    (false, r1)) (
    let r2 := tube_Check l
    cond (r2 != 0) (
      (false, r2)) (
      let r3 := pair_fits t l
      (r3.2, 0)))

set_option maxRecDepth 100000 in
theorem pair_Fits_w (t : Track) (A_l : Option Addr) (c_l : Nat) (l : List TubeNode) (w : World) (h_l : Rd w 6 A_l (l.map TubeNode.c)) (hc_l : l.length ≤ c_l) : Calls Try.prog 38 #[Track.v t, .slice A_l l.length c_l] w (Ret w (.tuple #[.bool ((pair_Fits t l).1), .int .i64 ((pair_Fits t l).2)])) := by
  have s_l := h_l.short; rw [List.length_map] at s_l
  refine calls_intro (vs := [Track.v t, .slice A_l l.length c_l]) (w := w) Try.func38 rfl Try.ntmps38 rfl ?_
  refine TC.weak [(0, Track.v t), (1, .slice A_l l.length c_l)] (by kernel_rfl) ?_
  refine TC.seq ?_
  refine TC.region ?_
  refine TL.write 0 (fun b1 => [(1, .slice A_l l.length c_l), (2, .pointer (some ⟨b1, 0, none⟩))]) (fun b1 => [.inl (b1, .cells (Track.c t) 33 (0, 0))]) (fun b1 => ⟨by kernel_rfl, by kernel_rfl⟩) (fun b1 => ?_)
  refine TL.run 3 [] [(1, .slice A_l l.length c_l), (2, .pointer (some ⟨b1, 0, none⟩))] rfl ⟨by kernel_rfl, by kernel_rfl⟩ ?_
  refine TL.next rfl ?_
  refine TC.seq ?_
  refine TC.seq ?_
  refine TC.region ?_
  refine TL.run 1 [0] [(1, .slice A_l l.length c_l), (2, .pointer (some ⟨b1, 0, none⟩)), (10, Track.v t)] rfl ⟨by kernel_rfl, by kernel_rfl⟩ ?_
  refine TL.call (some 11) [(1, .slice A_l l.length c_l), (2, .pointer (some ⟨b1, 0, none⟩)), (11, .int .i64 (gate_CheckTrack t))] (fun w _ => gate_CheckTrack_w t w) (by kernel_rfl) (by kernel_rfl) ?_
  generalize hr1 : gate_CheckTrack t = r1
  refine TL.run 3 [] [(1, .slice A_l l.length c_l), (2, .pointer (some ⟨b1, 0, none⟩)), (6, .int .i64 r1)] rfl ⟨by kernel_rfl, by kernel_rfl⟩ ?_
  refine TL.next rfl ?_
  refine TC.seq ?_
  refine TC.region ?_
  refine TL.run 2 [] [(1, .slice A_l l.length c_l), (2, .pointer (some ⟨b1, 0, none⟩)), (6, .int .i64 r1), (13, .bool (r1 != 0))] rfl ⟨by kernel_rfl, by kernel_rfl⟩ ?_
  refine TL.next rfl ?_
  refine TC.cond (r1 != 0) rfl (by kernel_rfl) (fun h1 => ?_) (fun h1 => ?_)
  · refine TC.seq ?_
    refine TC.region ?_
    refine TL.run 3 [] [(4, .bool false), (5, .int .i64 r1)] rfl ⟨by kernel_rfl, by kernel_rfl⟩ ?_
    refine TL.next rfl ?_
    refine TC.ret ?_
    refine TE.ret_then ?_
    have e : pair_Fits t l = (false, r1) := by subst hr1; unfold pair_Fits; exact cond_t h1 (rfl)
    exact TE.ret [] (.tuple #[.bool false, .int .i64 r1]) ⟨by kernel_rfl, by kernel_rfl⟩ (by rw [e]; first | done | kernel_rfl)
  · refine TC.skip ?_
    refine TE.next ?_
    refine TC.seq ?_
    refine TC.seq ?_
    refine TC.region ?_
    refine TL.run 1 [] [(1, .slice A_l l.length c_l), (2, .pointer (some ⟨b1, 0, none⟩)), (15, .slice A_l l.length c_l)] rfl ⟨by kernel_rfl, by kernel_rfl⟩ ?_
    refine TL.call (some 16) [(1, .slice A_l l.length c_l), (2, .pointer (some ⟨b1, 0, none⟩)), (16, .int .i64 (tube_Check l))] (fun w hM => tube_Check_w A_l c_l l w (h_l.sat hM) hc_l) (by kernel_rfl) (by kernel_rfl) ?_
    generalize hr2 : tube_Check l = r2
    refine TL.run 3 [] [(1, .slice A_l l.length c_l), (2, .pointer (some ⟨b1, 0, none⟩)), (7, .int .i64 r2)] rfl ⟨by kernel_rfl, by kernel_rfl⟩ ?_
    refine TL.next rfl ?_
    refine TC.seq ?_
    refine TC.region ?_
    refine TL.run 2 [] [(1, .slice A_l l.length c_l), (2, .pointer (some ⟨b1, 0, none⟩)), (7, .int .i64 r2), (18, .bool (r2 != 0))] rfl ⟨by kernel_rfl, by kernel_rfl⟩ ?_
    refine TL.next rfl ?_
    refine TC.cond (r2 != 0) rfl (by kernel_rfl) (fun h2 => ?_) (fun h2 => ?_)
    · refine TC.seq ?_
      refine TC.region ?_
      refine TL.run 3 [] [(4, .bool false), (5, .int .i64 r2)] rfl ⟨by kernel_rfl, by kernel_rfl⟩ ?_
      refine TL.next rfl ?_
      refine TC.ret ?_
      refine TE.ret_then ?_
      have e : pair_Fits t l = (false, r2) := by subst hr1 hr2; unfold pair_Fits; exact cond_f h1 (cond_t h2 (rfl))
      exact TE.ret [] (.tuple #[.bool false, .int .i64 r2]) ⟨by kernel_rfl, by kernel_rfl⟩ (by rw [e]; first | done | kernel_rfl)
    · refine TC.skip ?_
      refine TE.next ?_
      refine TC.seq ?_
      refine TC.region ?_
      refine TL.run 2 [0] [(21, Track.v t), (22, .slice A_l l.length c_l)] rfl ⟨by kernel_rfl, by kernel_rfl⟩ ?_
      refine TL.call (some 23) [(23, .tuple #[TubeNode.v ((pair_fits t l).1), .bool ((pair_fits t l).2)])] (fun w hM => pair_fits_w t A_l c_l l w (h_l.sat hM) hc_l) (by kernel_rfl) (by kernel_rfl) ?_
      generalize hr3 : pair_fits t l = r3
      refine TL.run 6 [] [(24, TubeNode.v r3.1), (25, .bool r3.2)] rfl ⟨by kernel_rfl, by kernel_rfl⟩ ?_
      refine TL.write 0 (fun b2 => [(8, .pointer (some ⟨b2, 0, none⟩)), (24, TubeNode.v r3.1), (25, .bool r3.2)]) (fun b2 => [.inl (b2, .cells (TubeNode.c TubeNode.zero) 57 (0, 0)), .inl (b1, .cells (Track.c t) 33 (0, 0))]) (fun b2 => ⟨by kernel_rfl, by kernel_rfl⟩) (fun b2 => ?_)
      refine TL.write 0 (fun _ => [(25, .bool r3.2)]) (fun _ => [.inl (b2, .cells (TubeNode.c r3.1) 57 (0, 0)), .inl (b1, .cells (Track.c t) 33 (0, 0))]) (fun _ => ⟨by kernel_rfl, by kernel_rfl⟩) (fun _ => ?_)
      refine TL.run 9 [] [(9, .bool r3.2)] rfl ⟨by kernel_rfl, by kernel_rfl⟩ ?_
      refine TL.next rfl ?_
      refine TC.seq ?_
      refine TC.region ?_
      refine TL.run 3 [] [(4, .bool r3.2), (5, .int .i64 0)] rfl ⟨by kernel_rfl, by kernel_rfl⟩ ?_
      refine TL.next rfl ?_
      refine TC.ret ?_
      have e : pair_Fits t l = (r3.2, 0) := by subst hr1 hr2 hr3; unfold pair_Fits; exact cond_f h1 (cond_f h2 (rfl))
      exact TE.ret [] (.tuple #[.bool r3.2, .int .i64 0]) ⟨by kernel_rfl, by kernel_rfl⟩ (by rw [e]; first | done | kernel_rfl)

def skywaykeep2_PairFits (t : Track) (l : List TubeNode) (p : P) (high : Int) : Bool :=
  let r1 := skywaykeep2_line 100 300
  let r2 := pair_Fits (⟨0, 0, 50, ⟨10000, 0⟩, ⟨0, 0⟩, 5000, 0, 0, 7, 0, 0⟩ : Track) r1
  cond ((r2.2 != 0) || (!r2.1)) (
    false) (
    let r3 := pair_Fits t l
    cond (r3.2 != 0) (
      !r3.1) (
      let r4 := skywaykeep2_within high (-100) 100
      let r5 := tube_Has l t.Time p (w64 (t.Height + r4))
      cond ((r5.2 != 0) || (!r5.1)) (
        true) (
        let r6 := skywaykeep2_square p t.At
        (decide (r6 > (w64 (t.Radius * t.Radius)))) || r3.1)))

set_option maxRecDepth 100000 in
theorem skywaykeep2_PairFits_w (t : Track) (A_l : Option Addr) (c_l : Nat) (l : List TubeNode) (p : P) (high : Int) (w : World) (h_l : Rd w 6 A_l (l.map TubeNode.c)) (hc_l : l.length ≤ c_l) : Calls Try.prog 10 #[Track.v t, .slice A_l l.length c_l, P.v p, .int .i64 high] w (Ret w (.bool (skywaykeep2_PairFits t l p high))) := by
  have s_l := h_l.short; rw [List.length_map] at s_l
  refine calls_intro (vs := [Track.v t, .slice A_l l.length c_l, P.v p, .int .i64 high]) (w := w) Try.func10 rfl Try.ntmps10 rfl ?_
  refine TC.weak [(0, Track.v t), (1, .slice A_l l.length c_l), (2, P.v p), (3, .int .i64 high)] (by kernel_rfl) ?_
  refine TC.seq ?_
  refine TC.region ?_
  refine TL.write 0 (fun b1 => [(1, .slice A_l l.length c_l), (2, P.v p), (3, .int .i64 high), (4, .pointer (some ⟨b1, 0, none⟩))]) (fun b1 => [.inl (b1, .cells (Track.c t) 33 (0, 0))]) (fun b1 => ⟨by kernel_rfl, by kernel_rfl⟩) (fun b1 => ?_)
  refine TL.write 0 (fun b2 => [(1, .slice A_l l.length c_l), (3, .int .i64 high), (4, .pointer (some ⟨b1, 0, none⟩)), (6, .pointer (some ⟨b2, 0, none⟩))]) (fun b2 => [.inl (b2, .cells (P.c p) 25 (0, 0)), .inl (b1, .cells (Track.c t) 33 (0, 0))]) (fun b2 => ⟨by kernel_rfl, by kernel_rfl⟩) (fun b2 => ?_)
  refine TL.run 3 [] [(1, .slice A_l l.length c_l), (3, .int .i64 high), (4, .pointer (some ⟨b1, 0, none⟩)), (6, .pointer (some ⟨b2, 0, none⟩))] rfl ⟨by kernel_rfl, by kernel_rfl⟩ ?_
  refine TL.next rfl ?_
  refine TC.seq ?_
  refine TC.region ?_
  refine TL.run 2 [] [(1, .slice A_l l.length c_l), (3, .int .i64 high), (4, .pointer (some ⟨b1, 0, none⟩)), (6, .pointer (some ⟨b2, 0, none⟩)), (18, .agg #[.int .i64 0, .int .i64 0, .int .i64 50, .int .i64 10000, .int .i64 0, .int .i64 0, .int .i64 0, .int .i64 5000, .int .i64 0, .int .i64 0, .int .i64 7, .int .i64 0, .int .i64 0])] rfl ⟨by kernel_rfl, by kernel_rfl⟩ ?_
  refine TL.write 0 (fun b3 => [(1, .slice A_l l.length c_l), (3, .int .i64 high), (4, .pointer (some ⟨b1, 0, none⟩)), (6, .pointer (some ⟨b2, 0, none⟩)), (9, .pointer (some ⟨b3, 0, none⟩)), (18, .agg #[.int .i64 0, .int .i64 0, .int .i64 50, .int .i64 10000, .int .i64 0, .int .i64 0, .int .i64 0, .int .i64 5000, .int .i64 0, .int .i64 0, .int .i64 7, .int .i64 0, .int .i64 0])]) (fun b3 => [.inl (b3, .cells (Track.c Track.zero) 33 (0, 0)), .inl (b2, .cells (P.c p) 25 (0, 0)), .inl (b1, .cells (Track.c t) 33 (0, 0))]) (fun b3 => ⟨by kernel_rfl, by kernel_rfl⟩) (fun b3 => ?_)
  refine TL.write 0 (fun _ => [(1, .slice A_l l.length c_l), (3, .int .i64 high), (4, .pointer (some ⟨b1, 0, none⟩)), (6, .pointer (some ⟨b2, 0, none⟩)), (9, .pointer (some ⟨b3, 0, none⟩))]) (fun _ => [.inl (b3, .cells #[.int .i64 0, .int .i64 0, .int .i64 50, .int .i64 10000, .int .i64 0, .int .i64 0, .int .i64 0, .int .i64 5000, .int .i64 0, .int .i64 0, .int .i64 7, .int .i64 0, .int .i64 0] 33 (0, 0)), .inl (b2, .cells (P.c p) 25 (0, 0)), .inl (b1, .cells (Track.c t) 33 (0, 0))]) (fun _ => ⟨by kernel_rfl, by kernel_rfl⟩) (fun _ => ?_)
  refine TL.next rfl ?_
  refine TC.seq ?_
  refine TC.seq ?_
  obtain ⟨r1, hr1⟩ : ∃ r, skywaykeep2_line 100 300 = r := ⟨_, rfl⟩
  obtain ⟨r2, hr2⟩ : ∃ r, pair_Fits (⟨0, 0, 50, ⟨10000, 0⟩, ⟨0, 0⟩, 5000, 0, 0, 7, 0, 0⟩ : Track) r1 = r := ⟨_, rfl⟩
  refine TC.plan (G := (Option Addr × Nat)) (base := [(1, .slice A_l l.length c_l), (3, .int .i64 high), (4, .pointer (some ⟨b1, 0, none⟩)), (6, .pointer (some ⟨b2, 0, none⟩)), (9, .pointer (some ⟨b3, 0, none⟩))]) (vals := fun γ => [.agg #[.int .i64 0, .int .i64 0, .int .i64 50, .int .i64 10000, .int .i64 0, .int .i64 0, .int .i64 0, .int .i64 5000, .int .i64 0, .int .i64 0, .int .i64 7, .int .i64 0, .int .i64 0], .slice (γ.1) r1.length (γ.2), .tuple #[.bool r2.1, .int .i64 r2.2], .tuple #[.bool r2.1, .int .i64 r2.2], .bool r2.1, .int .i64 r2.2, .bool r2.1, .int .i64 r2.2]) (writes := [1]) (mem := fun bs γ => match bs with | [x1_] => (bif x1_ then [.inr (Own (γ.1) (γ.2) 57 6 (r1.map TubeNode.c))] else []) ++ ([.inl (b3, .cells #[.int .i64 0, .int .i64 0, .int .i64 50, .int .i64 10000, .int .i64 0, .int .i64 0, .int .i64 0, .int .i64 5000, .int .i64 0, .int .i64 0, .int .i64 7, .int .i64 0, .int .i64 0] 33 (0, 0)), .inl (b2, .cells (P.c p) 25 (0, 0)), .inl (b1, .cells (Track.c t) 33 (0, 0))]) | _ => []) ((none, 0)) (fun γ => [(1, .slice A_l l.length c_l), (3, .int .i64 high), (4, .pointer (some ⟨b1, 0, none⟩)), (6, .pointer (some ⟨b2, 0, none⟩)), (10, .bool r2.1), (11, .int .i64 r2.2)]) (by kernel_rfl) (by kernel_rfl) (by kernel_rfl) (by kernel_rfl) (by kernel_rfl) (fun γ => by kernel_rfl) (fun _ hM => hM) (fun γ => by kernel_rfl) ?_ ?_
  · skip
    refine Steps.run (i := 0) 1 [0] [.inl (b3, .cells #[.int .i64 0, .int .i64 0, .int .i64 50, .int .i64 10000, .int .i64 0, .int .i64 0, .int .i64 0, .int .i64 5000, .int .i64 0, .int .i64 0, .int .i64 7, .int .i64 0, .int .i64 0] 33 (0, 0)), .inl (b2, .cells (P.c p) 25 (0, 0)), .inl (b1, .cells (Track.c t) 33 (0, 0))] (by kernel_rfl) (by kernel_rfl) (fun S (γ : (Option Addr × Nat)) w hM => by change Sat _ ((bif S 1 then [.inr (Own (γ.1) (γ.2) 57 6 (r1.map TubeNode.c))] else []) ++ ([.inl (b3, .cells #[.int .i64 0, .int .i64 0, .int .i64 50, .int .i64 10000, .int .i64 0, .int .i64 0, .int .i64 0, .int .i64 5000, .int .i64 0, .int .i64 0, .int .i64 7, .int .i64 0, .int .i64 0] 33 (0, 0)), .inl (b2, .cells (P.c p) 25 (0, 0)), .inl (b1, .cells (Track.c t) 33 (0, 0))])) w at hM; exact hM.sub (sub_skip (List.Sublist.refl _))) (by kernel_rfl) (fun (γ : (Option Addr × Nat)) => ⟨by kernel_rfl, by kernel_rfl⟩) ?_
    refine Steps.callN (i := 1) (Γ := Option Addr × Nat) (fun g (γ : (Option Addr × Nat)) => g) 39 (fun (γ : (Option Addr × Nat)) => #[.int .i64 100, .int .i64 300]) (fun (γ : (Option Addr × Nat)) => [.inl (b3, .cells #[.int .i64 0, .int .i64 0, .int .i64 50, .int .i64 10000, .int .i64 0, .int .i64 0, .int .i64 0, .int .i64 5000, .int .i64 0, .int .i64 0, .int .i64 7, .int .i64 0, .int .i64 0] 33 (0, 0)), .inl (b2, .cells (P.c p) 25 (0, 0)), .inl (b1, .cells (Track.c t) 33 (0, 0))]) (fun g (γ : (Option Addr × Nat)) => [.inr (Own (g.1) (g.2) 57 6 (r1.map TubeNode.c))]) [1, 2, 3, 4, 5, 6, 7] (some 21) (fun g (γ : (Option Addr × Nat)) => .slice (g.1) r1.length (g.2)) (fun S (γ : (Option Addr × Nat)) w _ hM => by change Sat _ ((bif S 1 then [.inr (Own (γ.1) (γ.2) 57 6 (r1.map TubeNode.c))] else []) ++ ([.inl (b3, .cells #[.int .i64 0, .int .i64 0, .int .i64 50, .int .i64 10000, .int .i64 0, .int .i64 0, .int .i64 0, .int .i64 5000, .int .i64 0, .int .i64 0, .int .i64 7, .int .i64 0, .int .i64 0] 33 (0, 0)), .inl (b2, .cells (P.c p) 25 (0, 0)), .inl (b1, .cells (Track.c t) 33 (0, 0))])) w at hM; exact hM.sub (sub_skip (List.Sublist.refl _))) (fun S (γ : (Option Addr × Nat)) g hj _ => by change List.Perm (_ ++ (((bif S 1 then [.inr (Own (γ.1) (γ.2) 57 6 (r1.map TubeNode.c))] else []) ++ ([.inl (b3, .cells #[.int .i64 0, .int .i64 0, .int .i64 50, .int .i64 10000, .int .i64 0, .int .i64 0, .int .i64 0, .int .i64 5000, .int .i64 0, .int .i64 0, .int .i64 7, .int .i64 0, .int .i64 0] 33 (0, 0)), .inl (b2, .cells (P.c p) 25 (0, 0)), .inl (b1, .cells (Track.c t) 33 (0, 0))])) : Mem)) _; rw [hj]; exact (List.Perm.refl _).symm) (fun (γ : (Option Addr × Nat)) w _ => by have h := skywaykeep2_line_w 100 300 w; rw [hr1] at h; exact h) (fun (γ : (Option Addr × Nat)) => by kernel_rfl) (fun (γ : (Option Addr × Nat)) g => by kernel_rfl) (by kernel_rfl) (fun (γ : (Option Addr × Nat)) g => by kernel_rfl) ?_
    refine Steps.call (i := 2) 38 (fun (γ : (Option Addr × Nat)) => #[.agg #[.int .i64 0, .int .i64 0, .int .i64 50, .int .i64 10000, .int .i64 0, .int .i64 0, .int .i64 0, .int .i64 5000, .int .i64 0, .int .i64 0, .int .i64 7, .int .i64 0, .int .i64 0], .slice (γ.1) r1.length (γ.2)]) (some 22) (fun (γ : (Option Addr × Nat)) => .tuple #[.bool r2.1, .int .i64 r2.2]) (fun (γ : (Option Addr × Nat)) => [.inr (Own (γ.1) (γ.2) 57 6 (r1.map TubeNode.c)), .inl (b3, .cells #[.int .i64 0, .int .i64 0, .int .i64 50, .int .i64 10000, .int .i64 0, .int .i64 0, .int .i64 0, .int .i64 5000, .int .i64 0, .int .i64 0, .int .i64 7, .int .i64 0, .int .i64 0] 33 (0, 0)), .inl (b2, .cells (P.c p) 25 (0, 0)), .inl (b1, .cells (Track.c t) 33 (0, 0))]) (by kernel_rfl) (fun S (γ : (Option Addr × Nat)) w hd hM => by change Sat _ ((bif S 1 then [.inr (Own (γ.1) (γ.2) 57 6 (r1.map TubeNode.c))] else []) ++ ([.inl (b3, .cells #[.int .i64 0, .int .i64 0, .int .i64 50, .int .i64 10000, .int .i64 0, .int .i64 0, .int .i64 0, .int .i64 5000, .int .i64 0, .int .i64 0, .int .i64 7, .int .i64 0, .int .i64 0] 33 (0, 0)), .inl (b2, .cells (P.c p) 25 (0, 0)), .inl (b1, .cells (Track.c t) 33 (0, 0))])) w at hM; exact hM.sub (sub_keep (by rw [hd 1 (by kernel_rfl)]; rfl) (List.Sublist.refl _))) (fun (γ : (Option Addr × Nat)) w hM => by have h := pair_Fits_w (⟨0, 0, 50, ⟨10000, 0⟩, ⟨0, 0⟩, 5000, 0, 0, 7, 0, 0⟩ : Track) (γ.1) (γ.2) r1 w (hM.rd_at 0 rfl) (hM.le_at 0 rfl); rw [hr2] at h; exact h) (fun (γ : (Option Addr × Nat)) => by kernel_rfl) (fun (γ : (Option Addr × Nat)) => by kernel_rfl) ?_
    refine Steps.run (i := 3) 8 [0, 0, 0, 0, 0] [.inl (b3, .cells #[.int .i64 0, .int .i64 0, .int .i64 50, .int .i64 10000, .int .i64 0, .int .i64 0, .int .i64 0, .int .i64 5000, .int .i64 0, .int .i64 0, .int .i64 7, .int .i64 0, .int .i64 0] 33 (0, 0)), .inl (b2, .cells (P.c p) 25 (0, 0)), .inl (b1, .cells (Track.c t) 33 (0, 0))] (by kernel_rfl) (by kernel_rfl) (fun S (γ : (Option Addr × Nat)) w hM => by change Sat _ ((bif S 1 then [.inr (Own (γ.1) (γ.2) 57 6 (r1.map TubeNode.c))] else []) ++ ([.inl (b3, .cells #[.int .i64 0, .int .i64 0, .int .i64 50, .int .i64 10000, .int .i64 0, .int .i64 0, .int .i64 0, .int .i64 5000, .int .i64 0, .int .i64 0, .int .i64 7, .int .i64 0, .int .i64 0] 33 (0, 0)), .inl (b2, .cells (P.c p) 25 (0, 0)), .inl (b1, .cells (Track.c t) 33 (0, 0))])) w at hM; exact hM.sub (sub_skip (List.Sublist.refl _))) (by kernel_rfl) (fun (γ : (Option Addr × Nat)) => ⟨by kernel_rfl, by kernel_rfl⟩) ?_
    exact Steps.done (by kernel_rfl)
  · rintro ⟨A, c⟩
    refine TE.conv [.inr (Own A c 57 6 (r1.map TubeNode.c)), .inl (b3, .cells #[.int .i64 0, .int .i64 0, .int .i64 50, .int .i64 10000, .int .i64 0, .int .i64 0, .int .i64 0, .int .i64 5000, .int .i64 0, .int .i64 0, .int .i64 7, .int .i64 0, .int .i64 0] 33 (0, 0)), .inl (b2, .cells (P.c p) 25 (0, 0)), .inl (b1, .cells (Track.c t) 33 (0, 0))] (fun _ hM => hM) ?_
    refine TE.next ?_
    refine TC.seq ?_
    refine TC.region ?_
    refine TL.run 3 [] [(1, .slice A_l l.length c_l), (3, .int .i64 high), (4, .pointer (some ⟨b1, 0, none⟩)), (6, .pointer (some ⟨b2, 0, none⟩)), (10, .bool r2.1), (27, .bool (r2.2 != 0))] rfl ⟨by kernel_rfl, by kernel_rfl⟩ ?_
    refine TL.join 27 (r2.2 != 0) 6 [] [] (fun β => [(1, .slice A_l l.length c_l), (3, .int .i64 high), (4, .pointer (some ⟨b1, 0, none⟩)), (6, .pointer (some ⟨b2, 0, none⟩)), (30, .bool (β || (!r2.1)))]) (by kernel_rfl) rfl ⟨by kernel_rfl, by kernel_rfl⟩ ⟨by kernel_rfl, by kernel_rfl⟩ ?_
    refine TL.next rfl ?_
    refine TC.cond ((r2.2 != 0) || (!r2.1)) rfl (by kernel_rfl) (fun h1 => ?_) (fun h1 => ?_)
    · refine TC.seq ?_
      refine TC.region ?_
      refine TL.run 1 [] [(8, .bool false)] rfl ⟨by kernel_rfl, by kernel_rfl⟩ ?_
      refine TL.next rfl ?_
      refine TC.ret ?_
      refine TE.ret_then ?_
      have e : skywaykeep2_PairFits t l p high = false := by subst hr1 hr2; unfold skywaykeep2_PairFits; exact cond_t h1 (rfl)
      exact TE.ret [] (.bool false) ⟨by kernel_rfl, by kernel_rfl⟩ (by rw [e]; first | done | kernel_rfl)
    · refine TC.skip ?_
      refine TE.next ?_
      refine TC.seq ?_
      refine TC.region ?_
      refine TL.run 2 [3] [(1, .slice A_l l.length c_l), (3, .int .i64 high), (4, .pointer (some ⟨b1, 0, none⟩)), (6, .pointer (some ⟨b2, 0, none⟩)), (32, Track.v t), (33, .slice A_l l.length c_l)] rfl ⟨by kernel_rfl, by kernel_rfl⟩ ?_
      refine TL.call (some 34) [(1, .slice A_l l.length c_l), (3, .int .i64 high), (4, .pointer (some ⟨b1, 0, none⟩)), (6, .pointer (some ⟨b2, 0, none⟩)), (34, .tuple #[.bool ((pair_Fits t l).1), .int .i64 ((pair_Fits t l).2)])] (fun w hM => pair_Fits_w t A_l c_l l w (h_l.sat hM) hc_l) (by kernel_rfl) (by kernel_rfl) ?_
      generalize hr3 : pair_Fits t l = r3
      refine TL.run 8 [] [(1, .slice A_l l.length c_l), (3, .int .i64 high), (4, .pointer (some ⟨b1, 0, none⟩)), (6, .pointer (some ⟨b2, 0, none⟩)), (12, .bool r3.1), (13, .int .i64 r3.2)] rfl ⟨by kernel_rfl, by kernel_rfl⟩ ?_
      refine TL.next rfl ?_
      refine TC.seq ?_
      refine TC.seq ?_
      refine TC.region ?_
      refine TL.run 2 [] [(1, .slice A_l l.length c_l), (3, .int .i64 high), (4, .pointer (some ⟨b1, 0, none⟩)), (6, .pointer (some ⟨b2, 0, none⟩)), (12, .bool r3.1), (38, .bool (r3.2 != 0))] rfl ⟨by kernel_rfl, by kernel_rfl⟩ ?_
      refine TL.next rfl ?_
      refine TC.cond (r3.2 != 0) rfl (by kernel_rfl) (fun h2 => ?_) (fun h2 => ?_)
      · refine TC.seq ?_
        refine TC.region ?_
        refine TL.run 3 [] [(8, .bool (!r3.1))] rfl ⟨by kernel_rfl, by kernel_rfl⟩ ?_
        refine TL.next rfl ?_
        refine TC.ret ?_
        refine TE.ret_then ?_
        have e : skywaykeep2_PairFits t l p high = (!r3.1) := by subst hr1 hr2 hr3; unfold skywaykeep2_PairFits; exact cond_f h1 (cond_t h2 (rfl))
        exact TE.ret [] (.bool (!r3.1)) ⟨by kernel_rfl, by kernel_rfl⟩ (by rw [e]; first | done | kernel_rfl)
      · refine TC.skip ?_
        refine TE.next ?_
        refine TC.seq ?_
        refine TC.draw 6 (by kernel_rfl) (by kernel_rfl) (by kernel_rfl) ?_
        refine TQ.run 3 [3] [(1, .slice A_l l.length c_l), (4, .pointer (some ⟨b1, 0, none⟩)), (6, .pointer (some ⟨b2, 0, none⟩)), (12, .bool r3.1), (42, .int .i64 t.Height), (43, .int .i64 high)] rfl ⟨by kernel_rfl, by kernel_rfl⟩ ?_
        refine TQ.call (some 44) [(1, .slice A_l l.length c_l), (4, .pointer (some ⟨b1, 0, none⟩)), (6, .pointer (some ⟨b2, 0, none⟩)), (12, .bool r3.1), (42, .int .i64 t.Height), (44, .int .i64 (skywaykeep2_within high (-100) 100))] (fun w _ => skywaykeep2_within_w high (-100) 100 w (by have q0_ := (bne_f (or_f1 h1)); have q1_ := (bne_f h2); first | omega | first | decide | omega | (simp only [w64_eq]; omega) | (simp <;> omega))) rfl (by kernel_rfl) (by kernel_rfl) ?_
        generalize hr4 : skywaykeep2_within high (-100) 100 = r4
        refine TQ.run 6 [] [(1, .slice A_l l.length c_l), (4, .pointer (some ⟨b1, 0, none⟩)), (6, .pointer (some ⟨b2, 0, none⟩)), (12, .bool r3.1), (14, .int .i64 (w64 (t.Height + r4)))] rfl ⟨by kernel_rfl, by kernel_rfl⟩ ?_
        refine TQ.next rfl ?_
        refine TC.seq ?_
        refine TC.region ?_
        refine TL.run 5 [3, 2] [(4, .pointer (some ⟨b1, 0, none⟩)), (6, .pointer (some ⟨b2, 0, none⟩)), (12, .bool r3.1), (47, .slice A_l l.length c_l), (49, .int .i64 t.Time), (50, P.v p), (51, .int .i64 (w64 (t.Height + r4)))] rfl ⟨by kernel_rfl, by kernel_rfl⟩ ?_
        refine TL.call (some 52) [(4, .pointer (some ⟨b1, 0, none⟩)), (6, .pointer (some ⟨b2, 0, none⟩)), (12, .bool r3.1), (52, .tuple #[.bool ((tube_Has l t.Time p (w64 (t.Height + r4))).1), .int .i64 ((tube_Has l t.Time p (w64 (t.Height + r4))).2)])] (fun w hM => tube_Has_w A_l c_l l t.Time p (w64 (t.Height + r4)) w (h_l.sat hM) hc_l) (by kernel_rfl) (by kernel_rfl) ?_
        generalize hr5 : tube_Has l t.Time p (w64 (t.Height + r4)) = r5
        refine TL.run 11 [] [(4, .pointer (some ⟨b1, 0, none⟩)), (6, .pointer (some ⟨b2, 0, none⟩)), (12, .bool r3.1), (15, .bool r5.1), (16, .int .i64 r5.2)] rfl ⟨by kernel_rfl, by kernel_rfl⟩ ?_
        refine TL.next rfl ?_
        refine TC.seq ?_
        refine TC.draw 22 (by kernel_rfl) (by kernel_rfl) (by kernel_rfl) ?_
        refine TQ.run 3 [] [(4, .pointer (some ⟨b1, 0, none⟩)), (6, .pointer (some ⟨b2, 0, none⟩)), (12, .bool r3.1), (15, .bool r5.1), (57, .bool (r5.2 != 0))] rfl ⟨by kernel_rfl, by kernel_rfl⟩ ?_
        refine TQ.join 57 (r5.2 != 0) 6 [] [] (fun β => [(4, .pointer (some ⟨b1, 0, none⟩)), (6, .pointer (some ⟨b2, 0, none⟩)), (12, .bool r3.1), (60, .bool (β || (!r5.1)))]) (by kernel_rfl) rfl ⟨by kernel_rfl, by kernel_rfl⟩ ⟨by kernel_rfl, by kernel_rfl⟩ ?_
        refine TQ.run 7 [] [(4, .pointer (some ⟨b1, 0, none⟩)), (6, .pointer (some ⟨b2, 0, none⟩)), (12, .bool r3.1), (61, .bool ((r5.2 != 0) || (!r5.1)))] rfl ⟨by kernel_rfl, by kernel_rfl⟩ ?_
        refine TQ.split 61 ((r5.2 != 0) || (!r5.1)) (by kernel_rfl) (fun h3 => ?_) (fun h3 => ?_)
        · refine TQ.run 22 [] [(8, .bool true)] rfl ⟨by kernel_rfl, by kernel_rfl⟩ ?_
          refine TQ.next rfl ?_
          refine TC.ret ?_
          have e : skywaykeep2_PairFits t l p high = true := by subst hr1 hr2 hr3 hr4 hr5; unfold skywaykeep2_PairFits; exact cond_f h1 (cond_f h2 (cond_t h3 (rfl)))
          exact TE.ret [] (.bool true) ⟨by kernel_rfl, by kernel_rfl⟩ (by rw [e]; first | done | kernel_rfl)
        · refine TQ.run 10 [2, 3] [(4, .pointer (some ⟨b1, 0, none⟩)), (12, .bool r3.1), (61, .bool false), (62, P.v p), (64, P.v t.At)] rfl ⟨by kernel_rfl, by kernel_rfl⟩ ?_
          refine TQ.call (some 65) [(4, .pointer (some ⟨b1, 0, none⟩)), (12, .bool r3.1), (61, .bool false), (65, .int .i64 (skywaykeep2_square p t.At))] (fun w _ => skywaykeep2_square_w p t.At w) rfl (by kernel_rfl) (by kernel_rfl) ?_
          generalize hr6 : skywaykeep2_square p t.At = r6
          refine TQ.run 19 [3, 3] [(12, .bool r3.1), (73, .bool (decide (r6 > (w64 (t.Radius * t.Radius)))))] rfl ⟨by kernel_rfl, by kernel_rfl⟩ ?_
          refine TQ.join 73 (decide (r6 > (w64 (t.Radius * t.Radius)))) 21 [] [] (fun β => [(75, .bool (β || r3.1))]) (by kernel_rfl) rfl ⟨by kernel_rfl, by kernel_rfl⟩ ⟨by kernel_rfl, by kernel_rfl⟩ ?_
          refine TQ.run 22 [] [(8, .bool ((decide (r6 > (w64 (t.Radius * t.Radius)))) || r3.1))] rfl ⟨by kernel_rfl, by kernel_rfl⟩ ?_
          refine TQ.next rfl ?_
          refine TC.ret ?_
          have e : skywaykeep2_PairFits t l p high = ((decide (r6 > (w64 (t.Radius * t.Radius)))) || r3.1) := by subst hr1 hr2 hr3 hr4 hr5 hr6; unfold skywaykeep2_PairFits; exact cond_f h1 (cond_f h2 (cond_f h3 (rfl)))
          exact TE.ret [] (.bool ((decide (r6 > (w64 (t.Radius * t.Radius)))) || r3.1)) ⟨by kernel_rfl, by kernel_rfl⟩ (by rw [e]; first | done | kernel_rfl)

def conform_permitted (t : Track) : Bool :=
  let r1 := gate_CheckTrack (⟨t.ID, t.State, t.Time, t.At, t.Speed, t.Height, t.Rate, t.Radius, 0, t.Hits, t.Misses⟩ : Track)
  r1 == 0

set_option maxRecDepth 100000 in
theorem conform_permitted_w (t : Track) (w : World) : Calls Try.prog 82 #[Track.v t] w (Ret w (.bool (conform_permitted t))) := by
  refine calls_intro (vs := [Track.v t]) (w := w) Try.func82 rfl Try.ntmps82 rfl ?_
  refine TC.weak [(0, Track.v t)] (by kernel_rfl) ?_
  refine TC.seq ?_
  refine TC.region ?_
  refine TL.write 0 (fun b1 => [(1, .pointer (some ⟨b1, 0, none⟩))]) (fun b1 => [.inl (b1, .cells (Track.c t) 33 (0, 0))]) (fun b1 => ⟨by kernel_rfl, by kernel_rfl⟩) (fun b1 => ?_)
  refine TL.run 2 [] [(1, .pointer (some ⟨b1, 0, none⟩))] rfl ⟨by kernel_rfl, by kernel_rfl⟩ ?_
  refine TL.next rfl ?_
  refine TC.seq ?_
  refine TC.region ?_
  refine TL.run 1 [] [(1, .pointer (some ⟨b1, 0, none⟩)), (3, .pointer (some ⟨b1, 10, none⟩))] rfl ⟨by kernel_rfl, by kernel_rfl⟩ ?_
  refine TL.write 0 (fun _ => [(1, .pointer (some ⟨b1, 0, none⟩))]) (fun _ => [.inl (b1, .cells #[.int .i64 t.ID, .int .i64 t.State, .int .i64 t.Time, .int .i64 t.At.X, .int .i64 t.At.Y, .int .i64 t.Speed.X, .int .i64 t.Speed.Y, .int .i64 t.Height, .int .i64 t.Rate, .int .i64 t.Radius, .int .i64 0, .int .i64 t.Hits, .int .i64 t.Misses] 33 (0, 0))]) (fun _ => ⟨by kernel_rfl, by kernel_rfl⟩) (fun _ => ?_)
  refine TL.next rfl ?_
  refine TC.seq ?_
  refine TC.region ?_
  refine TL.run 1 [0] [(4, .agg #[.int .i64 t.ID, .int .i64 t.State, .int .i64 t.Time, .int .i64 t.At.X, .int .i64 t.At.Y, .int .i64 t.Speed.X, .int .i64 t.Speed.Y, .int .i64 t.Height, .int .i64 t.Rate, .int .i64 t.Radius, .int .i64 0, .int .i64 t.Hits, .int .i64 t.Misses])] rfl ⟨by kernel_rfl, by kernel_rfl⟩ ?_
  refine TL.call (some 5) [(5, .int .i64 (gate_CheckTrack (⟨t.ID, t.State, t.Time, t.At, t.Speed, t.Height, t.Rate, t.Radius, 0, t.Hits, t.Misses⟩ : Track)))] (fun w _ => gate_CheckTrack_w (⟨t.ID, t.State, t.Time, t.At, t.Speed, t.Height, t.Rate, t.Radius, 0, t.Hits, t.Misses⟩ : Track) w) (by kernel_rfl) (by kernel_rfl) ?_
  generalize hr1 : gate_CheckTrack (⟨t.ID, t.State, t.Time, t.At, t.Speed, t.Height, t.Rate, t.Radius, 0, t.Hits, t.Misses⟩ : Track) = r1
  refine TL.run 4 [] [(2, .bool (r1 == 0))] rfl ⟨by kernel_rfl, by kernel_rfl⟩ ?_
  refine TL.next rfl ?_
  refine TC.ret ?_
  have e : conform_permitted t = (r1 == 0) := by subst hr1; unfold conform_permitted; exact rfl
  exact TE.ret [] (.bool (r1 == 0)) ⟨by kernel_rfl, by kernel_rfl⟩ (by rw [e]; first | done | kernel_rfl)

def conform_node (t : Track) (l : List TubeNode) : TubeNode × Int :=
  let r1 := conform_permitted t
  cond (!r1) (
    ((⟨⟨0, ⟨0, 0⟩, 0⟩, 0, 0⟩ : TubeNode), 4)) (
    let r2 := tube_At l t.Time
    (r2.1, r2.2))

set_option maxRecDepth 100000 in
theorem conform_node_w (t : Track) (A_l : Option Addr) (c_l : Nat) (l : List TubeNode) (w : World) (h_l : Rd w 6 A_l (l.map TubeNode.c)) (hc_l : l.length ≤ c_l) : Calls Try.prog 80 #[Track.v t, .slice A_l l.length c_l] w (Ret w (.tuple #[TubeNode.v ((conform_node t l).1), .int .i64 ((conform_node t l).2)])) := by
  have s_l := h_l.short; rw [List.length_map] at s_l
  refine calls_intro (vs := [Track.v t, .slice A_l l.length c_l]) (w := w) Try.func80 rfl Try.ntmps80 rfl ?_
  refine TC.weak [(0, Track.v t), (1, .slice A_l l.length c_l)] (by kernel_rfl) ?_
  refine TC.seq ?_
  refine TC.region ?_
  refine TL.write 0 (fun b1 => [(1, .slice A_l l.length c_l), (2, .pointer (some ⟨b1, 0, none⟩))]) (fun b1 => [.inl (b1, .cells (Track.c t) 33 (0, 0))]) (fun b1 => ⟨by kernel_rfl, by kernel_rfl⟩) (fun b1 => ?_)
  refine TL.write 0 (fun b2 => [(1, .slice A_l l.length c_l), (2, .pointer (some ⟨b1, 0, none⟩)), (4, .pointer (some ⟨b2, 0, none⟩))]) (fun b2 => [.inl (b2, .cells (TubeNode.c TubeNode.zero) 57 (0, 0)), .inl (b1, .cells (Track.c t) 33 (0, 0))]) (fun b2 => ⟨by kernel_rfl, by kernel_rfl⟩) (fun b2 => ?_)
  refine TL.run 3 [] [(1, .slice A_l l.length c_l), (2, .pointer (some ⟨b1, 0, none⟩)), (4, .pointer (some ⟨b2, 0, none⟩))] rfl ⟨by kernel_rfl, by kernel_rfl⟩ ?_
  refine TL.next rfl ?_
  refine TC.seq ?_
  refine TC.seq ?_
  refine TC.region ?_
  refine TL.run 1 [1] [(1, .slice A_l l.length c_l), (2, .pointer (some ⟨b1, 0, none⟩)), (4, .pointer (some ⟨b2, 0, none⟩)), (6, Track.v t)] rfl ⟨by kernel_rfl, by kernel_rfl⟩ ?_
  refine TL.call (some 7) [(1, .slice A_l l.length c_l), (2, .pointer (some ⟨b1, 0, none⟩)), (4, .pointer (some ⟨b2, 0, none⟩)), (7, .bool ((conform_permitted t)))] (fun w _ => conform_permitted_w t w) (by kernel_rfl) (by kernel_rfl) ?_
  generalize hr1 : conform_permitted t = r1
  refine TL.run 3 [] [(1, .slice A_l l.length c_l), (2, .pointer (some ⟨b1, 0, none⟩)), (4, .pointer (some ⟨b2, 0, none⟩)), (8, .bool (!r1))] rfl ⟨by kernel_rfl, by kernel_rfl⟩ ?_
  refine TL.next rfl ?_
  refine TC.cond (!r1) rfl (by kernel_rfl) (fun h1 => ?_) (fun h1 => ?_)
  · refine TC.seq ?_
    refine TC.region ?_
    refine TL.run 1 [] [(4, .pointer (some ⟨b2, 0, none⟩)), (9, TubeNode.v TubeNode.zero)] rfl ⟨by kernel_rfl, by kernel_rfl⟩ ?_
    refine TL.write 0 (fun _ => [(4, .pointer (some ⟨b2, 0, none⟩))]) (fun _ => [.inl (b2, .cells (TubeNode.c TubeNode.zero) 57 (0, 0)), .inl (b1, .cells (Track.c t) 33 (0, 0))]) (fun _ => ⟨by kernel_rfl, by kernel_rfl⟩) (fun _ => ?_)
    refine TL.run 3 [] [(4, .pointer (some ⟨b2, 0, none⟩)), (5, .int .i64 4)] rfl ⟨by kernel_rfl, by kernel_rfl⟩ ?_
    refine TL.next rfl ?_
    refine TC.ret ?_
    refine TE.ret_then ?_
    have e : conform_node t l = ((⟨⟨0, ⟨0, 0⟩, 0⟩, 0, 0⟩ : TubeNode), 4) := by subst hr1; unfold conform_node; exact cond_t h1 (rfl)
    exact TE.ret [0] (.tuple #[.agg #[.int .i64 0, .int .i64 0, .int .i64 0, .int .i64 0, .int .i64 0, .int .i64 0], .int .i64 4]) ⟨by kernel_rfl, by kernel_rfl⟩ (by rw [e]; first | done | kernel_rfl)
  · refine TC.skip ?_
    refine TE.next ?_
    refine TC.seq ?_
    refine TC.region ?_
    refine TL.run 3 [1] [(4, .pointer (some ⟨b2, 0, none⟩)), (10, .slice A_l l.length c_l), (12, .int .i64 t.Time)] rfl ⟨by kernel_rfl, by kernel_rfl⟩ ?_
    refine TL.call (some 13) [(4, .pointer (some ⟨b2, 0, none⟩)), (13, .tuple #[TubeNode.v ((tube_At l t.Time).1), .int .i64 ((tube_At l t.Time).2)])] (fun w hM => tube_At_w A_l c_l l t.Time w (h_l.sat hM) hc_l) (by kernel_rfl) (by kernel_rfl) ?_
    generalize hr2 : tube_At l t.Time = r2
    refine TL.run 6 [] [(4, .pointer (some ⟨b2, 0, none⟩)), (14, TubeNode.v r2.1), (15, .int .i64 r2.2)] rfl ⟨by kernel_rfl, by kernel_rfl⟩ ?_
    refine TL.write 0 (fun _ => [(4, .pointer (some ⟨b2, 0, none⟩)), (15, .int .i64 r2.2)]) (fun _ => [.inl (b2, .cells (TubeNode.c r2.1) 57 (0, 0)), .inl (b1, .cells (Track.c t) 33 (0, 0))]) (fun _ => ⟨by kernel_rfl, by kernel_rfl⟩) (fun _ => ?_)
    refine TL.run 8 [] [(4, .pointer (some ⟨b2, 0, none⟩)), (5, .int .i64 r2.2)] rfl ⟨by kernel_rfl, by kernel_rfl⟩ ?_
    refine TL.next rfl ?_
    refine TC.ret ?_
    have e : conform_node t l = (r2.1, r2.2) := by subst hr1 hr2; unfold conform_node; exact cond_f h1 (rfl)
    exact TE.ret [0] (.tuple #[TubeNode.v r2.1, .int .i64 r2.2]) ⟨by kernel_rfl, by kernel_rfl⟩ (by rw [e]; first | done | kernel_rfl)

def conform_compare (t : Track) (n : TubeNode) : Int :=
  let r1 := plane_Within t.At n.Node.At (w64 (n.Radius + t.Radius))
  cond ((!r1) || (decide ((imax (w64 (t.Height - n.Node.Height)) (w64 (n.Node.Height - t.Height))) > (w64 (n.Band + 100))))) (
    2) (
    let r2 := plane_Within t.At n.Node.At (w64 (n.Radius - t.Radius))
    cond (r2 && (decide ((imax (w64 (t.Height - n.Node.Height)) (w64 (n.Node.Height - t.Height))) ≤ (w64 (n.Band - 100))))) (
      0) (
      1))

set_option maxRecDepth 100000 in
theorem conform_compare_w (t : Track) (n : TubeNode) (w : World) : Calls Try.prog 81 #[Track.v t, TubeNode.v n] w (Ret w (.int .i64 (conform_compare t n))) := by
  refine calls_intro (vs := [Track.v t, TubeNode.v n]) (w := w) Try.func81 rfl Try.ntmps81 rfl ?_
  refine TC.weak [(0, Track.v t), (1, TubeNode.v n)] (by kernel_rfl) ?_
  refine TC.seq ?_
  refine TC.region ?_
  refine TL.write 0 (fun b1 => [(1, TubeNode.v n), (2, .pointer (some ⟨b1, 0, none⟩))]) (fun b1 => [.inl (b1, .cells (Track.c t) 33 (0, 0))]) (fun b1 => ⟨by kernel_rfl, by kernel_rfl⟩) (fun b1 => ?_)
  refine TL.write 0 (fun b2 => [(2, .pointer (some ⟨b1, 0, none⟩)), (3, .pointer (some ⟨b2, 0, none⟩))]) (fun b2 => [.inl (b2, .cells (TubeNode.c n) 57 (0, 0)), .inl (b1, .cells (Track.c t) 33 (0, 0))]) (fun b2 => ⟨by kernel_rfl, by kernel_rfl⟩) (fun b2 => ?_)
  refine TL.run 3 [] [(2, .pointer (some ⟨b1, 0, none⟩)), (3, .pointer (some ⟨b2, 0, none⟩))] rfl ⟨by kernel_rfl, by kernel_rfl⟩ ?_
  refine TL.next rfl ?_
  refine TC.seq ?_
  refine TC.region ?_
  refine TL.run 14 [1, 0, 0, 1] [(2, .pointer (some ⟨b1, 0, none⟩)), (3, .pointer (some ⟨b2, 0, none⟩)), (5, .int .i64 (imax (w64 (t.Height - n.Node.Height)) (w64 (n.Node.Height - t.Height))))] rfl ⟨by kernel_rfl, by kernel_rfl⟩ ?_
  refine TL.next rfl ?_
  refine TC.seq ?_
  refine TC.block ?_
  refine TC.seq ?_
  refine TC.region ?_
  refine TL.run 10 [1, 0, 0, 1] [(2, .pointer (some ⟨b1, 0, none⟩)), (3, .pointer (some ⟨b2, 0, none⟩)), (5, .int .i64 (imax (w64 (t.Height - n.Node.Height)) (w64 (n.Node.Height - t.Height)))), (21, P.v t.At), (24, P.v n.Node.At), (29, .int .i64 (w64 (n.Radius + t.Radius)))] rfl ⟨by kernel_rfl, by kernel_rfl⟩ ?_
  refine TL.call (some 30) [(2, .pointer (some ⟨b1, 0, none⟩)), (3, .pointer (some ⟨b2, 0, none⟩)), (5, .int .i64 (imax (w64 (t.Height - n.Node.Height)) (w64 (n.Node.Height - t.Height)))), (30, .bool ((plane_Within t.At n.Node.At (w64 (n.Radius + t.Radius)))))] (fun w _ => plane_Within_w t.At n.Node.At (w64 (n.Radius + t.Radius)) w) (by kernel_rfl) (by kernel_rfl) ?_
  generalize hr1 : plane_Within t.At n.Node.At (w64 (n.Radius + t.Radius)) = r1
  refine TL.run 13 [] [(2, .pointer (some ⟨b1, 0, none⟩)), (3, .pointer (some ⟨b2, 0, none⟩)), (5, .int .i64 (imax (w64 (t.Height - n.Node.Height)) (w64 (n.Node.Height - t.Height)))), (32, .bool (!r1))] rfl ⟨by kernel_rfl, by kernel_rfl⟩ ?_
  refine TL.join 32 (!r1) 19 [] [0] (fun β => [(2, .pointer (some ⟨b1, 0, none⟩)), (3, .pointer (some ⟨b2, 0, none⟩)), (5, .int .i64 (imax (w64 (t.Height - n.Node.Height)) (w64 (n.Node.Height - t.Height)))), (38, .bool (β || (decide ((imax (w64 (t.Height - n.Node.Height)) (w64 (n.Node.Height - t.Height))) > (w64 (n.Band + 100))))))]) (by kernel_rfl) rfl ⟨by kernel_rfl, by kernel_rfl⟩ ⟨by kernel_rfl, by kernel_rfl⟩ ?_
  refine TL.run 20 [] [(2, .pointer (some ⟨b1, 0, none⟩)), (3, .pointer (some ⟨b2, 0, none⟩)), (5, .int .i64 (imax (w64 (t.Height - n.Node.Height)) (w64 (n.Node.Height - t.Height)))), (19, .bool ((!r1) || (decide ((imax (w64 (t.Height - n.Node.Height)) (w64 (n.Node.Height - t.Height))) > (w64 (n.Band + 100))))))] rfl ⟨by kernel_rfl, by kernel_rfl⟩ ?_
  refine TL.next rfl ?_
  refine TC.cond ((!r1) || (decide ((imax (w64 (t.Height - n.Node.Height)) (w64 (n.Node.Height - t.Height))) > (w64 (n.Band + 100))))) rfl (by kernel_rfl) (fun h1 => ?_) (fun h1 => ?_)
  · refine TC.seq ?_
    refine TC.region ?_
    refine TL.run 1 [] [(4, .int .i64 2)] rfl ⟨by kernel_rfl, by kernel_rfl⟩ ?_
    refine TL.next rfl ?_
    refine TC.ret ?_
    refine TE.ret_block (TE.ret_then ?_)
    have e : conform_compare t n = 2 := by subst hr1; unfold conform_compare; exact cond_t h1 (rfl)
    exact TE.ret [] (.int .i64 2) ⟨by kernel_rfl, by kernel_rfl⟩ (by rw [e]; first | done | kernel_rfl)
  · refine TC.seq ?_
    refine TC.region ?_
    refine TL.run 10 [1, 0, 0, 1] [(3, .pointer (some ⟨b2, 0, none⟩)), (5, .int .i64 (imax (w64 (t.Height - n.Node.Height)) (w64 (n.Node.Height - t.Height)))), (41, P.v t.At), (44, P.v n.Node.At), (49, .int .i64 (w64 (n.Radius - t.Radius)))] rfl ⟨by kernel_rfl, by kernel_rfl⟩ ?_
    refine TL.call (some 50) [(3, .pointer (some ⟨b2, 0, none⟩)), (5, .int .i64 (imax (w64 (t.Height - n.Node.Height)) (w64 (n.Node.Height - t.Height)))), (50, .bool ((plane_Within t.At n.Node.At (w64 (n.Radius - t.Radius)))))] (fun w _ => plane_Within_w t.At n.Node.At (w64 (n.Radius - t.Radius)) w) (by kernel_rfl) (by kernel_rfl) ?_
    generalize hr2 : plane_Within t.At n.Node.At (w64 (n.Radius - t.Radius)) = r2
    refine TL.run 12 [] [(3, .pointer (some ⟨b2, 0, none⟩)), (5, .int .i64 (imax (w64 (t.Height - n.Node.Height)) (w64 (n.Node.Height - t.Height)))), (51, .bool r2)] rfl ⟨by kernel_rfl, by kernel_rfl⟩ ?_
    refine TL.join 51 r2 18 [0] [] (fun β => [(57, .bool (β && (decide ((imax (w64 (t.Height - n.Node.Height)) (w64 (n.Node.Height - t.Height))) ≤ (w64 (n.Band - 100))))))]) (by kernel_rfl) rfl ⟨by kernel_rfl, by kernel_rfl⟩ ⟨by kernel_rfl, by kernel_rfl⟩ ?_
    refine TL.run 19 [] [(39, .bool (r2 && (decide ((imax (w64 (t.Height - n.Node.Height)) (w64 (n.Node.Height - t.Height))) ≤ (w64 (n.Band - 100))))))] rfl ⟨by kernel_rfl, by kernel_rfl⟩ ?_
    refine TL.next rfl ?_
    refine TC.cond (r2 && (decide ((imax (w64 (t.Height - n.Node.Height)) (w64 (n.Node.Height - t.Height))) ≤ (w64 (n.Band - 100))))) rfl (by kernel_rfl) (fun h2 => ?_) (fun h2 => ?_)
    · refine TC.seq ?_
      refine TC.region ?_
      refine TL.run 1 [] [(4, .int .i64 0)] rfl ⟨by kernel_rfl, by kernel_rfl⟩ ?_
      refine TL.next rfl ?_
      refine TC.ret ?_
      refine TE.ret_block (TE.ret_then ?_)
      have e : conform_compare t n = 0 := by subst hr1 hr2; unfold conform_compare; exact cond_f h1 (cond_t h2 (rfl))
      exact TE.ret [] (.int .i64 0) ⟨by kernel_rfl, by kernel_rfl⟩ (by rw [e]; first | done | kernel_rfl)
    · refine TC.skip ?_
      refine TE.normal_block ?_
      refine TE.next ?_
      refine TC.seq ?_
      refine TC.region ?_
      refine TL.run 1 [] [(4, .int .i64 1)] rfl ⟨by kernel_rfl, by kernel_rfl⟩ ?_
      refine TL.next rfl ?_
      refine TC.ret ?_
      have e : conform_compare t n = 1 := by subst hr1 hr2; unfold conform_compare; exact cond_f h1 (cond_f h2 (rfl))
      exact TE.ret [] (.int .i64 1) ⟨by kernel_rfl, by kernel_rfl⟩ (by rw [e]; first | done | kernel_rfl)

def conform_Compare (t : Track) (l : List TubeNode) : Int × Int :=
  let r1 := conform_node t l
  cond (r1.2 != 0) (
    (0, r1.2)) (
    let r2 := conform_compare t r1.1
    (r2, 0))

set_option maxRecDepth 100000 in
theorem conform_Compare_w (t : Track) (A_l : Option Addr) (c_l : Nat) (l : List TubeNode) (w : World) (h_l : Rd w 6 A_l (l.map TubeNode.c)) (hc_l : l.length ≤ c_l) : Calls Try.prog 42 #[Track.v t, .slice A_l l.length c_l] w (Ret w (.tuple #[.int .i64 ((conform_Compare t l).1), .int .i64 ((conform_Compare t l).2)])) := by
  have s_l := h_l.short; rw [List.length_map] at s_l
  refine calls_intro (vs := [Track.v t, .slice A_l l.length c_l]) (w := w) Try.func42 rfl Try.ntmps42 rfl ?_
  refine TC.weak [(0, Track.v t), (1, .slice A_l l.length c_l)] (by kernel_rfl) ?_
  refine TC.seq ?_
  refine TC.region ?_
  refine TL.write 0 (fun b1 => [(1, .slice A_l l.length c_l), (2, .pointer (some ⟨b1, 0, none⟩))]) (fun b1 => [.inl (b1, .cells (Track.c t) 33 (0, 0))]) (fun b1 => ⟨by kernel_rfl, by kernel_rfl⟩) (fun b1 => ?_)
  refine TL.run 3 [] [(1, .slice A_l l.length c_l), (2, .pointer (some ⟨b1, 0, none⟩))] rfl ⟨by kernel_rfl, by kernel_rfl⟩ ?_
  refine TL.next rfl ?_
  refine TC.seq ?_
  refine TC.region ?_
  refine TL.run 2 [0] [(2, .pointer (some ⟨b1, 0, none⟩)), (9, Track.v t), (10, .slice A_l l.length c_l)] rfl ⟨by kernel_rfl, by kernel_rfl⟩ ?_
  refine TL.call (some 11) [(2, .pointer (some ⟨b1, 0, none⟩)), (11, .tuple #[TubeNode.v ((conform_node t l).1), .int .i64 ((conform_node t l).2)])] (fun w hM => conform_node_w t A_l c_l l w (h_l.sat hM) hc_l) (by kernel_rfl) (by kernel_rfl) ?_
  generalize hr1 : conform_node t l = r1
  refine TL.run 6 [] [(2, .pointer (some ⟨b1, 0, none⟩)), (12, TubeNode.v r1.1), (13, .int .i64 r1.2)] rfl ⟨by kernel_rfl, by kernel_rfl⟩ ?_
  refine TL.write 0 (fun b2 => [(2, .pointer (some ⟨b1, 0, none⟩)), (6, .pointer (some ⟨b2, 0, none⟩)), (12, TubeNode.v r1.1), (13, .int .i64 r1.2)]) (fun b2 => [.inl (b2, .cells (TubeNode.c TubeNode.zero) 57 (0, 0)), .inl (b1, .cells (Track.c t) 33 (0, 0))]) (fun b2 => ⟨by kernel_rfl, by kernel_rfl⟩) (fun b2 => ?_)
  refine TL.write 0 (fun _ => [(2, .pointer (some ⟨b1, 0, none⟩)), (6, .pointer (some ⟨b2, 0, none⟩)), (13, .int .i64 r1.2)]) (fun _ => [.inl (b2, .cells (TubeNode.c r1.1) 57 (0, 0)), .inl (b1, .cells (Track.c t) 33 (0, 0))]) (fun _ => ⟨by kernel_rfl, by kernel_rfl⟩) (fun _ => ?_)
  refine TL.run 9 [] [(2, .pointer (some ⟨b1, 0, none⟩)), (6, .pointer (some ⟨b2, 0, none⟩)), (7, .int .i64 r1.2)] rfl ⟨by kernel_rfl, by kernel_rfl⟩ ?_
  refine TL.next rfl ?_
  refine TC.seq ?_
  refine TC.seq ?_
  refine TC.region ?_
  refine TL.run 2 [] [(2, .pointer (some ⟨b1, 0, none⟩)), (6, .pointer (some ⟨b2, 0, none⟩)), (7, .int .i64 r1.2), (15, .bool (r1.2 != 0))] rfl ⟨by kernel_rfl, by kernel_rfl⟩ ?_
  refine TL.next rfl ?_
  refine TC.cond (r1.2 != 0) rfl (by kernel_rfl) (fun h1 => ?_) (fun h1 => ?_)
  · refine TC.seq ?_
    refine TC.region ?_
    refine TL.run 3 [] [(4, .int .i64 0), (5, .int .i64 r1.2)] rfl ⟨by kernel_rfl, by kernel_rfl⟩ ?_
    refine TL.next rfl ?_
    refine TC.ret ?_
    refine TE.ret_then ?_
    have e : conform_Compare t l = (0, r1.2) := by subst hr1; unfold conform_Compare; exact cond_t h1 (rfl)
    exact TE.ret [] (.tuple #[.int .i64 0, .int .i64 r1.2]) ⟨by kernel_rfl, by kernel_rfl⟩ (by rw [e]; first | done | kernel_rfl)
  · refine TC.skip ?_
    refine TE.next ?_
    refine TC.seq ?_
    refine TC.region ?_
    refine TL.run 2 [1, 0] [(17, Track.v t), (18, TubeNode.v r1.1)] rfl ⟨by kernel_rfl, by kernel_rfl⟩ ?_
    refine TL.call (some 19) [(19, .int .i64 (conform_compare t r1.1))] (fun w _ => conform_compare_w t r1.1 w) (by kernel_rfl) (by kernel_rfl) ?_
    generalize hr2 : conform_compare t r1.1 = r2
    refine TL.run 5 [] [(4, .int .i64 r2), (5, .int .i64 0)] rfl ⟨by kernel_rfl, by kernel_rfl⟩ ?_
    refine TL.next rfl ?_
    refine TC.ret ?_
    have e : conform_Compare t l = (r2, 0) := by subst hr1 hr2; unfold conform_Compare; exact cond_f h1 (rfl)
    exact TE.ret [] (.tuple #[.int .i64 r2, .int .i64 0]) ⟨by kernel_rfl, by kernel_rfl⟩ (by rw [e]; first | done | kernel_rfl)

def skywaykeep2_ConformSound (t : Track) (l : List TubeNode) (p : P) (high : Int) : Bool :=
  let r1 := skywaykeep2_line 100 300
  let r2 := conform_Compare (⟨0, 0, 50, ⟨10000, 0⟩, ⟨0, 0⟩, 5000, 0, 20, 0, 0, 0⟩ : Track) r1
  cond ((r2.2 != 0) || (r2.1 != 0)) (
    false) (
    let r3 := skywaykeep2_line 1 300
    let r4 := conform_Compare (⟨0, 0, 50, ⟨10000, 0⟩, ⟨0, 0⟩, 5000, 0, 20, 0, 0, 0⟩ : Track) r3
    cond ((r4.2 != 0) || (r4.1 != 1)) (
      false) (
      let r5 := conform_Compare t l
      cond (r5.2 != 0) (
        (r5.2 == 0) || (r5.1 == 0)) (
        let r6 := skywaykeep2_square p t.At
        cond (decide (r6 > (w64 (t.Radius * t.Radius)))) (
          (r5.2 == 0) || (r5.1 == 0)) (
          let r7 := skywaykeep2_within high (-100) 100
          let r8 := tube_Has l t.Time p (w64 (t.Height + r7))
          ((r8.2 != 0) || (r5.1 == 1)) || (r8.1 == (r5.1 == 0))))))

set_option maxRecDepth 100000 in
theorem skywaykeep2_ConformSound_w (t : Track) (A_l : Option Addr) (c_l : Nat) (l : List TubeNode) (p : P) (high : Int) (w : World) (h_l : Rd w 6 A_l (l.map TubeNode.c)) (hc_l : l.length ≤ c_l) : Calls Try.prog 11 #[Track.v t, .slice A_l l.length c_l, P.v p, .int .i64 high] w (Ret w (.bool (skywaykeep2_ConformSound t l p high))) := by
  have s_l := h_l.short; rw [List.length_map] at s_l
  refine calls_intro (vs := [Track.v t, .slice A_l l.length c_l, P.v p, .int .i64 high]) (w := w) Try.func11 rfl Try.ntmps11 rfl ?_
  refine TC.weak [(0, Track.v t), (1, .slice A_l l.length c_l), (2, P.v p), (3, .int .i64 high)] (by kernel_rfl) ?_
  refine TC.seq ?_
  refine TC.region ?_
  refine TL.write 0 (fun b1 => [(1, .slice A_l l.length c_l), (2, P.v p), (3, .int .i64 high), (4, .pointer (some ⟨b1, 0, none⟩))]) (fun b1 => [.inl (b1, .cells (Track.c t) 33 (0, 0))]) (fun b1 => ⟨by kernel_rfl, by kernel_rfl⟩) (fun b1 => ?_)
  refine TL.write 0 (fun b2 => [(1, .slice A_l l.length c_l), (3, .int .i64 high), (4, .pointer (some ⟨b1, 0, none⟩)), (6, .pointer (some ⟨b2, 0, none⟩))]) (fun b2 => [.inl (b2, .cells (P.c p) 25 (0, 0)), .inl (b1, .cells (Track.c t) 33 (0, 0))]) (fun b2 => ⟨by kernel_rfl, by kernel_rfl⟩) (fun b2 => ?_)
  refine TL.run 3 [] [(1, .slice A_l l.length c_l), (3, .int .i64 high), (4, .pointer (some ⟨b1, 0, none⟩)), (6, .pointer (some ⟨b2, 0, none⟩))] rfl ⟨by kernel_rfl, by kernel_rfl⟩ ?_
  refine TL.next rfl ?_
  refine TC.seq ?_
  refine TC.region ?_
  refine TL.run 2 [] [(1, .slice A_l l.length c_l), (3, .int .i64 high), (4, .pointer (some ⟨b1, 0, none⟩)), (6, .pointer (some ⟨b2, 0, none⟩)), (19, .agg #[.int .i64 0, .int .i64 0, .int .i64 50, .int .i64 10000, .int .i64 0, .int .i64 0, .int .i64 0, .int .i64 5000, .int .i64 0, .int .i64 20, .int .i64 0, .int .i64 0, .int .i64 0])] rfl ⟨by kernel_rfl, by kernel_rfl⟩ ?_
  refine TL.write 0 (fun b3 => [(1, .slice A_l l.length c_l), (3, .int .i64 high), (4, .pointer (some ⟨b1, 0, none⟩)), (6, .pointer (some ⟨b2, 0, none⟩)), (9, .pointer (some ⟨b3, 0, none⟩)), (19, .agg #[.int .i64 0, .int .i64 0, .int .i64 50, .int .i64 10000, .int .i64 0, .int .i64 0, .int .i64 0, .int .i64 5000, .int .i64 0, .int .i64 20, .int .i64 0, .int .i64 0, .int .i64 0])]) (fun b3 => [.inl (b3, .cells (Track.c Track.zero) 33 (0, 0)), .inl (b2, .cells (P.c p) 25 (0, 0)), .inl (b1, .cells (Track.c t) 33 (0, 0))]) (fun b3 => ⟨by kernel_rfl, by kernel_rfl⟩) (fun b3 => ?_)
  refine TL.write 0 (fun _ => [(1, .slice A_l l.length c_l), (3, .int .i64 high), (4, .pointer (some ⟨b1, 0, none⟩)), (6, .pointer (some ⟨b2, 0, none⟩)), (9, .pointer (some ⟨b3, 0, none⟩))]) (fun _ => [.inl (b3, .cells #[.int .i64 0, .int .i64 0, .int .i64 50, .int .i64 10000, .int .i64 0, .int .i64 0, .int .i64 0, .int .i64 5000, .int .i64 0, .int .i64 20, .int .i64 0, .int .i64 0, .int .i64 0] 33 (0, 0)), .inl (b2, .cells (P.c p) 25 (0, 0)), .inl (b1, .cells (Track.c t) 33 (0, 0))]) (fun _ => ⟨by kernel_rfl, by kernel_rfl⟩) (fun _ => ?_)
  refine TL.next rfl ?_
  refine TC.seq ?_
  refine TC.seq ?_
  obtain ⟨r1, hr1⟩ : ∃ r, skywaykeep2_line 100 300 = r := ⟨_, rfl⟩
  obtain ⟨r2, hr2⟩ : ∃ r, conform_Compare (⟨0, 0, 50, ⟨10000, 0⟩, ⟨0, 0⟩, 5000, 0, 20, 0, 0, 0⟩ : Track) r1 = r := ⟨_, rfl⟩
  refine TC.plan (G := (Option Addr × Nat)) (base := [(1, .slice A_l l.length c_l), (3, .int .i64 high), (4, .pointer (some ⟨b1, 0, none⟩)), (6, .pointer (some ⟨b2, 0, none⟩)), (9, .pointer (some ⟨b3, 0, none⟩))]) (vals := fun γ => [.agg #[.int .i64 0, .int .i64 0, .int .i64 50, .int .i64 10000, .int .i64 0, .int .i64 0, .int .i64 0, .int .i64 5000, .int .i64 0, .int .i64 20, .int .i64 0, .int .i64 0, .int .i64 0], .slice (γ.1) r1.length (γ.2), .tuple #[.int .i64 r2.1, .int .i64 r2.2], .tuple #[.int .i64 r2.1, .int .i64 r2.2], .int .i64 r2.1, .int .i64 r2.2, .int .i64 r2.1, .int .i64 r2.2]) (writes := [1]) (mem := fun bs γ => match bs with | [x1_] => (bif x1_ then [.inr (Own (γ.1) (γ.2) 57 6 (r1.map TubeNode.c))] else []) ++ ([.inl (b3, .cells #[.int .i64 0, .int .i64 0, .int .i64 50, .int .i64 10000, .int .i64 0, .int .i64 0, .int .i64 0, .int .i64 5000, .int .i64 0, .int .i64 20, .int .i64 0, .int .i64 0, .int .i64 0] 33 (0, 0)), .inl (b2, .cells (P.c p) 25 (0, 0)), .inl (b1, .cells (Track.c t) 33 (0, 0))]) | _ => []) ((none, 0)) (fun γ => [(1, .slice A_l l.length c_l), (3, .int .i64 high), (4, .pointer (some ⟨b1, 0, none⟩)), (6, .pointer (some ⟨b2, 0, none⟩)), (9, .pointer (some ⟨b3, 0, none⟩)), (10, .int .i64 r2.1), (11, .int .i64 r2.2)]) (by kernel_rfl) (by kernel_rfl) (by kernel_rfl) (by kernel_rfl) (by kernel_rfl) (fun γ => by kernel_rfl) (fun _ hM => hM) (fun γ => by kernel_rfl) ?_ ?_
  · skip
    refine Steps.run (i := 0) 1 [0] [.inl (b3, .cells #[.int .i64 0, .int .i64 0, .int .i64 50, .int .i64 10000, .int .i64 0, .int .i64 0, .int .i64 0, .int .i64 5000, .int .i64 0, .int .i64 20, .int .i64 0, .int .i64 0, .int .i64 0] 33 (0, 0)), .inl (b2, .cells (P.c p) 25 (0, 0)), .inl (b1, .cells (Track.c t) 33 (0, 0))] (by kernel_rfl) (by kernel_rfl) (fun S (γ : (Option Addr × Nat)) w hM => by change Sat _ ((bif S 1 then [.inr (Own (γ.1) (γ.2) 57 6 (r1.map TubeNode.c))] else []) ++ ([.inl (b3, .cells #[.int .i64 0, .int .i64 0, .int .i64 50, .int .i64 10000, .int .i64 0, .int .i64 0, .int .i64 0, .int .i64 5000, .int .i64 0, .int .i64 20, .int .i64 0, .int .i64 0, .int .i64 0] 33 (0, 0)), .inl (b2, .cells (P.c p) 25 (0, 0)), .inl (b1, .cells (Track.c t) 33 (0, 0))])) w at hM; exact hM.sub (sub_skip (List.Sublist.refl _))) (by kernel_rfl) (fun (γ : (Option Addr × Nat)) => ⟨by kernel_rfl, by kernel_rfl⟩) ?_
    refine Steps.callN (i := 1) (Γ := Option Addr × Nat) (fun g (γ : (Option Addr × Nat)) => g) 39 (fun (γ : (Option Addr × Nat)) => #[.int .i64 100, .int .i64 300]) (fun (γ : (Option Addr × Nat)) => [.inl (b3, .cells #[.int .i64 0, .int .i64 0, .int .i64 50, .int .i64 10000, .int .i64 0, .int .i64 0, .int .i64 0, .int .i64 5000, .int .i64 0, .int .i64 20, .int .i64 0, .int .i64 0, .int .i64 0] 33 (0, 0)), .inl (b2, .cells (P.c p) 25 (0, 0)), .inl (b1, .cells (Track.c t) 33 (0, 0))]) (fun g (γ : (Option Addr × Nat)) => [.inr (Own (g.1) (g.2) 57 6 (r1.map TubeNode.c))]) [1, 2, 3, 4, 5, 6, 7] (some 22) (fun g (γ : (Option Addr × Nat)) => .slice (g.1) r1.length (g.2)) (fun S (γ : (Option Addr × Nat)) w _ hM => by change Sat _ ((bif S 1 then [.inr (Own (γ.1) (γ.2) 57 6 (r1.map TubeNode.c))] else []) ++ ([.inl (b3, .cells #[.int .i64 0, .int .i64 0, .int .i64 50, .int .i64 10000, .int .i64 0, .int .i64 0, .int .i64 0, .int .i64 5000, .int .i64 0, .int .i64 20, .int .i64 0, .int .i64 0, .int .i64 0] 33 (0, 0)), .inl (b2, .cells (P.c p) 25 (0, 0)), .inl (b1, .cells (Track.c t) 33 (0, 0))])) w at hM; exact hM.sub (sub_skip (List.Sublist.refl _))) (fun S (γ : (Option Addr × Nat)) g hj _ => by change List.Perm (_ ++ (((bif S 1 then [.inr (Own (γ.1) (γ.2) 57 6 (r1.map TubeNode.c))] else []) ++ ([.inl (b3, .cells #[.int .i64 0, .int .i64 0, .int .i64 50, .int .i64 10000, .int .i64 0, .int .i64 0, .int .i64 0, .int .i64 5000, .int .i64 0, .int .i64 20, .int .i64 0, .int .i64 0, .int .i64 0] 33 (0, 0)), .inl (b2, .cells (P.c p) 25 (0, 0)), .inl (b1, .cells (Track.c t) 33 (0, 0))])) : Mem)) _; rw [hj]; exact (List.Perm.refl _).symm) (fun (γ : (Option Addr × Nat)) w _ => by have h := skywaykeep2_line_w 100 300 w; rw [hr1] at h; exact h) (fun (γ : (Option Addr × Nat)) => by kernel_rfl) (fun (γ : (Option Addr × Nat)) g => by kernel_rfl) (by kernel_rfl) (fun (γ : (Option Addr × Nat)) g => by kernel_rfl) ?_
    refine Steps.call (i := 2) 42 (fun (γ : (Option Addr × Nat)) => #[.agg #[.int .i64 0, .int .i64 0, .int .i64 50, .int .i64 10000, .int .i64 0, .int .i64 0, .int .i64 0, .int .i64 5000, .int .i64 0, .int .i64 20, .int .i64 0, .int .i64 0, .int .i64 0], .slice (γ.1) r1.length (γ.2)]) (some 23) (fun (γ : (Option Addr × Nat)) => .tuple #[.int .i64 r2.1, .int .i64 r2.2]) (fun (γ : (Option Addr × Nat)) => [.inr (Own (γ.1) (γ.2) 57 6 (r1.map TubeNode.c)), .inl (b3, .cells #[.int .i64 0, .int .i64 0, .int .i64 50, .int .i64 10000, .int .i64 0, .int .i64 0, .int .i64 0, .int .i64 5000, .int .i64 0, .int .i64 20, .int .i64 0, .int .i64 0, .int .i64 0] 33 (0, 0)), .inl (b2, .cells (P.c p) 25 (0, 0)), .inl (b1, .cells (Track.c t) 33 (0, 0))]) (by kernel_rfl) (fun S (γ : (Option Addr × Nat)) w hd hM => by change Sat _ ((bif S 1 then [.inr (Own (γ.1) (γ.2) 57 6 (r1.map TubeNode.c))] else []) ++ ([.inl (b3, .cells #[.int .i64 0, .int .i64 0, .int .i64 50, .int .i64 10000, .int .i64 0, .int .i64 0, .int .i64 0, .int .i64 5000, .int .i64 0, .int .i64 20, .int .i64 0, .int .i64 0, .int .i64 0] 33 (0, 0)), .inl (b2, .cells (P.c p) 25 (0, 0)), .inl (b1, .cells (Track.c t) 33 (0, 0))])) w at hM; exact hM.sub (sub_keep (by rw [hd 1 (by kernel_rfl)]; rfl) (List.Sublist.refl _))) (fun (γ : (Option Addr × Nat)) w hM => by have h := conform_Compare_w (⟨0, 0, 50, ⟨10000, 0⟩, ⟨0, 0⟩, 5000, 0, 20, 0, 0, 0⟩ : Track) (γ.1) (γ.2) r1 w (hM.rd_at 0 rfl) (hM.le_at 0 rfl); rw [hr2] at h; exact h) (fun (γ : (Option Addr × Nat)) => by kernel_rfl) (fun (γ : (Option Addr × Nat)) => by kernel_rfl) ?_
    refine Steps.run (i := 3) 8 [0, 0, 0, 0, 0] [.inl (b3, .cells #[.int .i64 0, .int .i64 0, .int .i64 50, .int .i64 10000, .int .i64 0, .int .i64 0, .int .i64 0, .int .i64 5000, .int .i64 0, .int .i64 20, .int .i64 0, .int .i64 0, .int .i64 0] 33 (0, 0)), .inl (b2, .cells (P.c p) 25 (0, 0)), .inl (b1, .cells (Track.c t) 33 (0, 0))] (by kernel_rfl) (by kernel_rfl) (fun S (γ : (Option Addr × Nat)) w hM => by change Sat _ ((bif S 1 then [.inr (Own (γ.1) (γ.2) 57 6 (r1.map TubeNode.c))] else []) ++ ([.inl (b3, .cells #[.int .i64 0, .int .i64 0, .int .i64 50, .int .i64 10000, .int .i64 0, .int .i64 0, .int .i64 0, .int .i64 5000, .int .i64 0, .int .i64 20, .int .i64 0, .int .i64 0, .int .i64 0] 33 (0, 0)), .inl (b2, .cells (P.c p) 25 (0, 0)), .inl (b1, .cells (Track.c t) 33 (0, 0))])) w at hM; exact hM.sub (sub_skip (List.Sublist.refl _))) (by kernel_rfl) (fun (γ : (Option Addr × Nat)) => ⟨by kernel_rfl, by kernel_rfl⟩) ?_
    exact Steps.done (by kernel_rfl)
  · rintro ⟨A, c⟩
    refine TE.conv [.inr (Own A c 57 6 (r1.map TubeNode.c)), .inl (b3, .cells #[.int .i64 0, .int .i64 0, .int .i64 50, .int .i64 10000, .int .i64 0, .int .i64 0, .int .i64 0, .int .i64 5000, .int .i64 0, .int .i64 20, .int .i64 0, .int .i64 0, .int .i64 0] 33 (0, 0)), .inl (b2, .cells (P.c p) 25 (0, 0)), .inl (b1, .cells (Track.c t) 33 (0, 0))] (fun _ hM => hM) ?_
    refine TE.next ?_
    refine TC.seq ?_
    refine TC.region ?_
    refine TL.run 3 [] [(1, .slice A_l l.length c_l), (3, .int .i64 high), (4, .pointer (some ⟨b1, 0, none⟩)), (6, .pointer (some ⟨b2, 0, none⟩)), (9, .pointer (some ⟨b3, 0, none⟩)), (10, .int .i64 r2.1), (28, .bool (r2.2 != 0))] rfl ⟨by kernel_rfl, by kernel_rfl⟩ ?_
    refine TL.join 28 (r2.2 != 0) 6 [] [] (fun β => [(1, .slice A_l l.length c_l), (3, .int .i64 high), (4, .pointer (some ⟨b1, 0, none⟩)), (6, .pointer (some ⟨b2, 0, none⟩)), (9, .pointer (some ⟨b3, 0, none⟩)), (31, .bool (β || (r2.1 != 0)))]) (by kernel_rfl) rfl ⟨by kernel_rfl, by kernel_rfl⟩ ⟨by kernel_rfl, by kernel_rfl⟩ ?_
    refine TL.next rfl ?_
    refine TC.cond ((r2.2 != 0) || (r2.1 != 0)) rfl (by kernel_rfl) (fun h1 => ?_) (fun h1 => ?_)
    · refine TC.seq ?_
      refine TC.region ?_
      refine TL.run 1 [] [(8, .bool false)] rfl ⟨by kernel_rfl, by kernel_rfl⟩ ?_
      refine TL.next rfl ?_
      refine TC.ret ?_
      refine TE.ret_then ?_
      have e : skywaykeep2_ConformSound t l p high = false := by subst hr1 hr2; unfold skywaykeep2_ConformSound; exact cond_t h1 (rfl)
      exact TE.ret [] (.bool false) ⟨by kernel_rfl, by kernel_rfl⟩ (by rw [e]; first | done | kernel_rfl)
    · refine TC.skip ?_
      refine TE.next ?_
      refine TC.seq ?_
      refine TC.seq ?_
      obtain ⟨r3, hr3⟩ : ∃ r, skywaykeep2_line 1 300 = r := ⟨_, rfl⟩
      obtain ⟨r4, hr4⟩ : ∃ r, conform_Compare (⟨0, 0, 50, ⟨10000, 0⟩, ⟨0, 0⟩, 5000, 0, 20, 0, 0, 0⟩ : Track) r3 = r := ⟨_, rfl⟩
      refine TC.plan (G := (Option Addr × Nat)) (base := [(1, .slice A_l l.length c_l), (3, .int .i64 high), (4, .pointer (some ⟨b1, 0, none⟩)), (6, .pointer (some ⟨b2, 0, none⟩)), (9, .pointer (some ⟨b3, 0, none⟩))]) (vals := fun γ => [.agg #[.int .i64 0, .int .i64 0, .int .i64 50, .int .i64 10000, .int .i64 0, .int .i64 0, .int .i64 0, .int .i64 5000, .int .i64 0, .int .i64 20, .int .i64 0, .int .i64 0, .int .i64 0], .slice (γ.1) r3.length (γ.2), .tuple #[.int .i64 r4.1, .int .i64 r4.2], .tuple #[.int .i64 r4.1, .int .i64 r4.2], .int .i64 r4.1, .int .i64 r4.2, .int .i64 r4.1, .int .i64 r4.2]) (writes := [1]) (mem := fun bs γ => match bs with | [x1_] => (bif x1_ then [.inr (Own (γ.1) (γ.2) 57 6 (r3.map TubeNode.c))] else []) ++ ([.inr (Own A c 57 6 (r1.map TubeNode.c)), .inl (b3, .cells #[.int .i64 0, .int .i64 0, .int .i64 50, .int .i64 10000, .int .i64 0, .int .i64 0, .int .i64 0, .int .i64 5000, .int .i64 0, .int .i64 20, .int .i64 0, .int .i64 0, .int .i64 0] 33 (0, 0)), .inl (b2, .cells (P.c p) 25 (0, 0)), .inl (b1, .cells (Track.c t) 33 (0, 0))]) | _ => []) ((none, 0)) (fun γ => [(1, .slice A_l l.length c_l), (3, .int .i64 high), (4, .pointer (some ⟨b1, 0, none⟩)), (6, .pointer (some ⟨b2, 0, none⟩)), (12, .int .i64 r4.1), (13, .int .i64 r4.2)]) (by kernel_rfl) (by kernel_rfl) (by kernel_rfl) (by kernel_rfl) (by kernel_rfl) (fun γ => by kernel_rfl) (fun _ hM => hM) (fun γ => by kernel_rfl) ?_ ?_
      · skip
        refine Steps.run (i := 0) 1 [1] [.inr (Own A c 57 6 (r1.map TubeNode.c)), .inl (b3, .cells #[.int .i64 0, .int .i64 0, .int .i64 50, .int .i64 10000, .int .i64 0, .int .i64 0, .int .i64 0, .int .i64 5000, .int .i64 0, .int .i64 20, .int .i64 0, .int .i64 0, .int .i64 0] 33 (0, 0)), .inl (b2, .cells (P.c p) 25 (0, 0)), .inl (b1, .cells (Track.c t) 33 (0, 0))] (by kernel_rfl) (by kernel_rfl) (fun S (γ : (Option Addr × Nat)) w hM => by change Sat _ ((bif S 1 then [.inr (Own (γ.1) (γ.2) 57 6 (r3.map TubeNode.c))] else []) ++ ([.inr (Own A c 57 6 (r1.map TubeNode.c)), .inl (b3, .cells #[.int .i64 0, .int .i64 0, .int .i64 50, .int .i64 10000, .int .i64 0, .int .i64 0, .int .i64 0, .int .i64 5000, .int .i64 0, .int .i64 20, .int .i64 0, .int .i64 0, .int .i64 0] 33 (0, 0)), .inl (b2, .cells (P.c p) 25 (0, 0)), .inl (b1, .cells (Track.c t) 33 (0, 0))])) w at hM; exact hM.sub (sub_skip (List.Sublist.refl _))) (by kernel_rfl) (fun (γ : (Option Addr × Nat)) => ⟨by kernel_rfl, by kernel_rfl⟩) ?_
        refine Steps.callN (i := 1) (Γ := Option Addr × Nat) (fun g (γ : (Option Addr × Nat)) => g) 39 (fun (γ : (Option Addr × Nat)) => #[.int .i64 1, .int .i64 300]) (fun (γ : (Option Addr × Nat)) => [.inr (Own A c 57 6 (r1.map TubeNode.c)), .inl (b3, .cells #[.int .i64 0, .int .i64 0, .int .i64 50, .int .i64 10000, .int .i64 0, .int .i64 0, .int .i64 0, .int .i64 5000, .int .i64 0, .int .i64 20, .int .i64 0, .int .i64 0, .int .i64 0] 33 (0, 0)), .inl (b2, .cells (P.c p) 25 (0, 0)), .inl (b1, .cells (Track.c t) 33 (0, 0))]) (fun g (γ : (Option Addr × Nat)) => [.inr (Own (g.1) (g.2) 57 6 (r3.map TubeNode.c))]) [1, 2, 3, 4, 5, 6, 7] (some 34) (fun g (γ : (Option Addr × Nat)) => .slice (g.1) r3.length (g.2)) (fun S (γ : (Option Addr × Nat)) w _ hM => by change Sat _ ((bif S 1 then [.inr (Own (γ.1) (γ.2) 57 6 (r3.map TubeNode.c))] else []) ++ ([.inr (Own A c 57 6 (r1.map TubeNode.c)), .inl (b3, .cells #[.int .i64 0, .int .i64 0, .int .i64 50, .int .i64 10000, .int .i64 0, .int .i64 0, .int .i64 0, .int .i64 5000, .int .i64 0, .int .i64 20, .int .i64 0, .int .i64 0, .int .i64 0] 33 (0, 0)), .inl (b2, .cells (P.c p) 25 (0, 0)), .inl (b1, .cells (Track.c t) 33 (0, 0))])) w at hM; exact hM.sub (sub_skip (List.Sublist.refl _))) (fun S (γ : (Option Addr × Nat)) g hj _ => by change List.Perm (_ ++ (((bif S 1 then [.inr (Own (γ.1) (γ.2) 57 6 (r3.map TubeNode.c))] else []) ++ ([.inr (Own A c 57 6 (r1.map TubeNode.c)), .inl (b3, .cells #[.int .i64 0, .int .i64 0, .int .i64 50, .int .i64 10000, .int .i64 0, .int .i64 0, .int .i64 0, .int .i64 5000, .int .i64 0, .int .i64 20, .int .i64 0, .int .i64 0, .int .i64 0] 33 (0, 0)), .inl (b2, .cells (P.c p) 25 (0, 0)), .inl (b1, .cells (Track.c t) 33 (0, 0))])) : Mem)) _; rw [hj]; exact (List.Perm.refl _).symm) (fun (γ : (Option Addr × Nat)) w _ => by have h := skywaykeep2_line_w 1 300 w; rw [hr3] at h; exact h) (fun (γ : (Option Addr × Nat)) => by kernel_rfl) (fun (γ : (Option Addr × Nat)) g => by kernel_rfl) (by kernel_rfl) (fun (γ : (Option Addr × Nat)) g => by kernel_rfl) ?_
        refine Steps.call (i := 2) 42 (fun (γ : (Option Addr × Nat)) => #[.agg #[.int .i64 0, .int .i64 0, .int .i64 50, .int .i64 10000, .int .i64 0, .int .i64 0, .int .i64 0, .int .i64 5000, .int .i64 0, .int .i64 20, .int .i64 0, .int .i64 0, .int .i64 0], .slice (γ.1) r3.length (γ.2)]) (some 35) (fun (γ : (Option Addr × Nat)) => .tuple #[.int .i64 r4.1, .int .i64 r4.2]) (fun (γ : (Option Addr × Nat)) => [.inr (Own (γ.1) (γ.2) 57 6 (r3.map TubeNode.c)), .inr (Own A c 57 6 (r1.map TubeNode.c)), .inl (b3, .cells #[.int .i64 0, .int .i64 0, .int .i64 50, .int .i64 10000, .int .i64 0, .int .i64 0, .int .i64 0, .int .i64 5000, .int .i64 0, .int .i64 20, .int .i64 0, .int .i64 0, .int .i64 0] 33 (0, 0)), .inl (b2, .cells (P.c p) 25 (0, 0)), .inl (b1, .cells (Track.c t) 33 (0, 0))]) (by kernel_rfl) (fun S (γ : (Option Addr × Nat)) w hd hM => by change Sat _ ((bif S 1 then [.inr (Own (γ.1) (γ.2) 57 6 (r3.map TubeNode.c))] else []) ++ ([.inr (Own A c 57 6 (r1.map TubeNode.c)), .inl (b3, .cells #[.int .i64 0, .int .i64 0, .int .i64 50, .int .i64 10000, .int .i64 0, .int .i64 0, .int .i64 0, .int .i64 5000, .int .i64 0, .int .i64 20, .int .i64 0, .int .i64 0, .int .i64 0] 33 (0, 0)), .inl (b2, .cells (P.c p) 25 (0, 0)), .inl (b1, .cells (Track.c t) 33 (0, 0))])) w at hM; exact hM.sub (sub_keep (by rw [hd 1 (by kernel_rfl)]; rfl) (List.Sublist.refl _))) (fun (γ : (Option Addr × Nat)) w hM => by have h := conform_Compare_w (⟨0, 0, 50, ⟨10000, 0⟩, ⟨0, 0⟩, 5000, 0, 20, 0, 0, 0⟩ : Track) (γ.1) (γ.2) r3 w (hM.rd_at 0 rfl) (hM.le_at 0 rfl); rw [hr4] at h; exact h) (fun (γ : (Option Addr × Nat)) => by kernel_rfl) (fun (γ : (Option Addr × Nat)) => by kernel_rfl) ?_
        refine Steps.run (i := 3) 8 [0, 0, 0, 0, 0] [.inr (Own A c 57 6 (r1.map TubeNode.c)), .inl (b3, .cells #[.int .i64 0, .int .i64 0, .int .i64 50, .int .i64 10000, .int .i64 0, .int .i64 0, .int .i64 0, .int .i64 5000, .int .i64 0, .int .i64 20, .int .i64 0, .int .i64 0, .int .i64 0] 33 (0, 0)), .inl (b2, .cells (P.c p) 25 (0, 0)), .inl (b1, .cells (Track.c t) 33 (0, 0))] (by kernel_rfl) (by kernel_rfl) (fun S (γ : (Option Addr × Nat)) w hM => by change Sat _ ((bif S 1 then [.inr (Own (γ.1) (γ.2) 57 6 (r3.map TubeNode.c))] else []) ++ ([.inr (Own A c 57 6 (r1.map TubeNode.c)), .inl (b3, .cells #[.int .i64 0, .int .i64 0, .int .i64 50, .int .i64 10000, .int .i64 0, .int .i64 0, .int .i64 0, .int .i64 5000, .int .i64 0, .int .i64 20, .int .i64 0, .int .i64 0, .int .i64 0] 33 (0, 0)), .inl (b2, .cells (P.c p) 25 (0, 0)), .inl (b1, .cells (Track.c t) 33 (0, 0))])) w at hM; exact hM.sub (sub_skip (List.Sublist.refl _))) (by kernel_rfl) (fun (γ : (Option Addr × Nat)) => ⟨by kernel_rfl, by kernel_rfl⟩) ?_
        exact Steps.done (by kernel_rfl)
      · rintro ⟨A_2, c_2⟩
        refine TE.conv [.inr (Own A_2 c_2 57 6 (r3.map TubeNode.c)), .inr (Own A c 57 6 (r1.map TubeNode.c)), .inl (b3, .cells #[.int .i64 0, .int .i64 0, .int .i64 50, .int .i64 10000, .int .i64 0, .int .i64 0, .int .i64 0, .int .i64 5000, .int .i64 0, .int .i64 20, .int .i64 0, .int .i64 0, .int .i64 0] 33 (0, 0)), .inl (b2, .cells (P.c p) 25 (0, 0)), .inl (b1, .cells (Track.c t) 33 (0, 0))] (fun _ hM => hM) ?_
        refine TE.next ?_
        refine TC.seq ?_
        refine TC.region ?_
        refine TL.run 3 [] [(1, .slice A_l l.length c_l), (3, .int .i64 high), (4, .pointer (some ⟨b1, 0, none⟩)), (6, .pointer (some ⟨b2, 0, none⟩)), (12, .int .i64 r4.1), (40, .bool (r4.2 != 0))] rfl ⟨by kernel_rfl, by kernel_rfl⟩ ?_
        refine TL.join 40 (r4.2 != 0) 6 [] [] (fun β => [(1, .slice A_l l.length c_l), (3, .int .i64 high), (4, .pointer (some ⟨b1, 0, none⟩)), (6, .pointer (some ⟨b2, 0, none⟩)), (43, .bool (β || (r4.1 != 1)))]) (by kernel_rfl) rfl ⟨by kernel_rfl, by kernel_rfl⟩ ⟨by kernel_rfl, by kernel_rfl⟩ ?_
        refine TL.next rfl ?_
        refine TC.cond ((r4.2 != 0) || (r4.1 != 1)) rfl (by kernel_rfl) (fun h2 => ?_) (fun h2 => ?_)
        · refine TC.seq ?_
          refine TC.region ?_
          refine TL.run 1 [] [(8, .bool false)] rfl ⟨by kernel_rfl, by kernel_rfl⟩ ?_
          refine TL.next rfl ?_
          refine TC.ret ?_
          refine TE.ret_then ?_
          have e : skywaykeep2_ConformSound t l p high = false := by subst hr1 hr2 hr3 hr4; unfold skywaykeep2_ConformSound; exact cond_f h1 (cond_t h2 (rfl))
          exact TE.ret [] (.bool false) ⟨by kernel_rfl, by kernel_rfl⟩ (by rw [e]; first | done | kernel_rfl)
        · refine TC.skip ?_
          refine TE.next ?_
          refine TC.seq ?_
          refine TC.region ?_
          refine TL.run 2 [4] [(1, .slice A_l l.length c_l), (3, .int .i64 high), (4, .pointer (some ⟨b1, 0, none⟩)), (6, .pointer (some ⟨b2, 0, none⟩)), (45, Track.v t), (46, .slice A_l l.length c_l)] rfl ⟨by kernel_rfl, by kernel_rfl⟩ ?_
          refine TL.call (some 47) [(1, .slice A_l l.length c_l), (3, .int .i64 high), (4, .pointer (some ⟨b1, 0, none⟩)), (6, .pointer (some ⟨b2, 0, none⟩)), (47, .tuple #[.int .i64 ((conform_Compare t l).1), .int .i64 ((conform_Compare t l).2)])] (fun w hM => conform_Compare_w t A_l c_l l w (h_l.sat hM) hc_l) (by kernel_rfl) (by kernel_rfl) ?_
          generalize hr5 : conform_Compare t l = r5
          refine TL.run 8 [] [(1, .slice A_l l.length c_l), (3, .int .i64 high), (4, .pointer (some ⟨b1, 0, none⟩)), (6, .pointer (some ⟨b2, 0, none⟩)), (14, .int .i64 r5.1), (15, .int .i64 r5.2)] rfl ⟨by kernel_rfl, by kernel_rfl⟩ ?_
          refine TL.next rfl ?_
          refine TC.seq ?_
          refine TC.seq ?_
          refine TC.draw 14 (by kernel_rfl) (by kernel_rfl) (by kernel_rfl) ?_
          refine TQ.run 3 [] [(1, .slice A_l l.length c_l), (3, .int .i64 high), (4, .pointer (some ⟨b1, 0, none⟩)), (6, .pointer (some ⟨b2, 0, none⟩)), (14, .int .i64 r5.1), (15, .int .i64 r5.2), (52, .bool (r5.2 != 0))] rfl ⟨by kernel_rfl, by kernel_rfl⟩ ?_
          refine TQ.split 52 (r5.2 != 0) (by kernel_rfl) (fun h3 => ?_) (fun h3 => ?_)
          · refine TQ.run 14 [] [(1, .slice A_l l.length c_l), (3, .int .i64 high), (4, .pointer (some ⟨b1, 0, none⟩)), (6, .pointer (some ⟨b2, 0, none⟩)), (14, .int .i64 r5.1), (15, .int .i64 r5.2), (63, .bool true)] rfl ⟨by kernel_rfl, by kernel_rfl⟩ ?_
            refine TQ.next rfl ?_
            refine TC.condT rfl (by kernel_rfl) ?_
            refine TC.seq ?_
            refine TC.region ?_
            refine TL.run 3 [] [(14, .int .i64 r5.1), (66, .bool (r5.2 == 0))] rfl ⟨by kernel_rfl, by kernel_rfl⟩ ?_
            refine TL.join 66 (r5.2 == 0) 6 [] [] (fun β => [(69, .bool (β || (r5.1 == 0)))]) (by kernel_rfl) rfl ⟨by kernel_rfl, by kernel_rfl⟩ ⟨by kernel_rfl, by kernel_rfl⟩ ?_
            refine TL.run 7 [] [(8, .bool ((r5.2 == 0) || (r5.1 == 0)))] rfl ⟨by kernel_rfl, by kernel_rfl⟩ ?_
            refine TL.next rfl ?_
            refine TC.ret ?_
            refine TE.ret_then ?_
            have e : skywaykeep2_ConformSound t l p high = ((r5.2 == 0) || (r5.1 == 0)) := by subst hr1 hr2 hr3 hr4 hr5; unfold skywaykeep2_ConformSound; exact cond_f h1 (cond_f h2 (cond_t h3 (rfl)))
            exact TE.ret [] (.bool ((r5.2 == 0) || (r5.1 == 0))) ⟨by kernel_rfl, by kernel_rfl⟩ (by rw [e]; first | done | kernel_rfl)
          · refine TQ.run 6 [3, 4] [(1, .slice A_l l.length c_l), (3, .int .i64 high), (4, .pointer (some ⟨b1, 0, none⟩)), (6, .pointer (some ⟨b2, 0, none⟩)), (14, .int .i64 r5.1), (15, .int .i64 r5.2), (52, .bool false), (53, P.v p), (55, P.v t.At)] rfl ⟨by kernel_rfl, by kernel_rfl⟩ ?_
            refine TQ.call (some 56) [(1, .slice A_l l.length c_l), (3, .int .i64 high), (4, .pointer (some ⟨b1, 0, none⟩)), (6, .pointer (some ⟨b2, 0, none⟩)), (14, .int .i64 r5.1), (15, .int .i64 r5.2), (52, .bool false), (56, .int .i64 (skywaykeep2_square p t.At))] (fun w _ => skywaykeep2_square_w p t.At w) rfl (by kernel_rfl) (by kernel_rfl) ?_
            generalize hr6 : skywaykeep2_square p t.At = r6
            refine TQ.run 14 [4, 4] [(1, .slice A_l l.length c_l), (3, .int .i64 high), (4, .pointer (some ⟨b1, 0, none⟩)), (6, .pointer (some ⟨b2, 0, none⟩)), (14, .int .i64 r5.1), (15, .int .i64 r5.2), (63, .bool (decide (r6 > (w64 (t.Radius * t.Radius)))))] rfl ⟨by kernel_rfl, by kernel_rfl⟩ ?_
            refine TQ.next rfl ?_
            refine TC.cond (decide (r6 > (w64 (t.Radius * t.Radius)))) rfl (by kernel_rfl) (fun h4 => ?_) (fun h4 => ?_)
            · refine TC.seq ?_
              refine TC.region ?_
              refine TL.run 3 [] [(14, .int .i64 r5.1), (66, .bool (r5.2 == 0))] rfl ⟨by kernel_rfl, by kernel_rfl⟩ ?_
              refine TL.join 66 (r5.2 == 0) 6 [] [] (fun β => [(69, .bool (β || (r5.1 == 0)))]) (by kernel_rfl) rfl ⟨by kernel_rfl, by kernel_rfl⟩ ⟨by kernel_rfl, by kernel_rfl⟩ ?_
              refine TL.run 7 [] [(8, .bool ((r5.2 == 0) || (r5.1 == 0)))] rfl ⟨by kernel_rfl, by kernel_rfl⟩ ?_
              refine TL.next rfl ?_
              refine TC.ret ?_
              refine TE.ret_then ?_
              have e : skywaykeep2_ConformSound t l p high = ((r5.2 == 0) || (r5.1 == 0)) := by subst hr1 hr2 hr3 hr4 hr5 hr6; unfold skywaykeep2_ConformSound; exact cond_f h1 (cond_f h2 (cond_f h3 (cond_t h4 (rfl))))
              exact TE.ret [] (.bool ((r5.2 == 0) || (r5.1 == 0))) ⟨by kernel_rfl, by kernel_rfl⟩ (by rw [e]; first | done | kernel_rfl)
            · refine TC.skip ?_
              refine TE.next ?_
              refine TC.seq ?_
              refine TC.draw 15 (by kernel_rfl) (by kernel_rfl) (by kernel_rfl) ?_
              refine TQ.run 7 [4, 3, 4] [(14, .int .i64 r5.1), (71, .slice A_l l.length c_l), (73, .int .i64 t.Time), (74, P.v p), (76, .int .i64 t.Height), (77, .int .i64 high)] rfl ⟨by kernel_rfl, by kernel_rfl⟩ ?_
              refine TQ.call (some 78) [(14, .int .i64 r5.1), (71, .slice A_l l.length c_l), (73, .int .i64 t.Time), (74, P.v p), (76, .int .i64 t.Height), (78, .int .i64 (skywaykeep2_within high (-100) 100))] (fun w _ => skywaykeep2_within_w high (-100) 100 w (by have q0_ := (bne_f (or_f1 h1)); have q1_ := (bne_f (or_f2 h1)); have q2_ := (bne_f (or_f1 h2)); have q3_ := (bne_f (or_f2 h2)); have q4_ := (bne_f h3); have q5_ := (dec_f h4); first | omega | first | decide | omega | (simp only [w64_eq]; omega) | (simp <;> omega))) rfl (by kernel_rfl) (by kernel_rfl) ?_
              generalize hr7 : skywaykeep2_within high (-100) 100 = r7
              refine TQ.run 9 [] [(14, .int .i64 r5.1), (71, .slice A_l l.length c_l), (73, .int .i64 t.Time), (74, P.v p), (79, .int .i64 (w64 (t.Height + r7)))] rfl ⟨by kernel_rfl, by kernel_rfl⟩ ?_
              refine TQ.call (some 80) [(14, .int .i64 r5.1), (80, .tuple #[.bool ((tube_Has l t.Time p (w64 (t.Height + r7))).1), .int .i64 ((tube_Has l t.Time p (w64 (t.Height + r7))).2)])] (fun w hM => tube_Has_w A_l c_l l t.Time p (w64 (t.Height + r7)) w (h_l.sat hM) hc_l) rfl (by kernel_rfl) (by kernel_rfl) ?_
              generalize hr8 : tube_Has l t.Time p (w64 (t.Height + r7)) = r8
              refine TQ.run 15 [] [(14, .int .i64 r5.1), (16, .bool r8.1), (17, .int .i64 r8.2)] rfl ⟨by kernel_rfl, by kernel_rfl⟩ ?_
              refine TQ.next rfl ?_
              refine TC.seq ?_
              refine TC.region ?_
              refine TL.run 3 [] [(14, .int .i64 r5.1), (16, .bool r8.1), (85, .bool (r8.2 != 0))] rfl ⟨by kernel_rfl, by kernel_rfl⟩ ?_
              refine TL.join 85 (r8.2 != 0) 6 [] [] (fun β => [(14, .int .i64 r5.1), (16, .bool r8.1), (88, .bool (β || (r5.1 == 1)))]) (by kernel_rfl) rfl ⟨by kernel_rfl, by kernel_rfl⟩ ⟨by kernel_rfl, by kernel_rfl⟩ ?_
              refine TL.run 7 [] [(14, .int .i64 r5.1), (16, .bool r8.1), (89, .bool ((r8.2 != 0) || (r5.1 == 1)))] rfl ⟨by kernel_rfl, by kernel_rfl⟩ ?_
              refine TL.join 89 ((r8.2 != 0) || (r5.1 == 1)) 12 [] [] (fun β => [(94, .bool (β || (r8.1 == (r5.1 == 0))))]) (by kernel_rfl) rfl ⟨by kernel_rfl, by kernel_rfl⟩ ⟨by kernel_rfl, by kernel_rfl⟩ ?_
              refine TL.run 13 [] [(8, .bool (((r8.2 != 0) || (r5.1 == 1)) || (r8.1 == (r5.1 == 0))))] rfl ⟨by kernel_rfl, by kernel_rfl⟩ ?_
              refine TL.next rfl ?_
              refine TC.ret ?_
              have e : skywaykeep2_ConformSound t l p high = (((r8.2 != 0) || (r5.1 == 1)) || (r8.1 == (r5.1 == 0))) := by subst hr1 hr2 hr3 hr4 hr5 hr6 hr7 hr8; unfold skywaykeep2_ConformSound; exact cond_f h1 (cond_f h2 (cond_f h3 (cond_f h4 (rfl))))
              exact TE.ret [] (.bool (((r8.2 != 0) || (r5.1 == 1)) || (r8.1 == (r5.1 == 0)))) ⟨by kernel_rfl, by kernel_rfl⟩ (by rw [e]; first | done | kernel_rfl)

def conform_First_L1 (l : List Track) : List Track → Nat → ((Unit) ⊕ (Int × Int))
  | [], _ => .inl ()
  | x :: xs, k => let r2 := conform_permitted x
    cond (!r2) (
      .inr (0, 4)) (
      cond (decide ((k : Int) > 0)) (
        cond (decide (x.Time ≤ ((l[(k - 1)]?.getD Track.zero).Time))) (
          .inr (0, 12)) (
          conform_First_L1 l xs (k + 1))) (
        conform_First_L1 l xs (k + 1)))
def conform_First_L2 (t : List TubeNode) : List Track → Nat → ((Unit) ⊕ (Int × Int))
  | [], _ => .inl ()
  | x_2 :: xs, k_2 => let r3 := conform_Compare x_2 t
    cond ((r3.2 == 0) && (r3.1 == 2)) (
      .inr ((k_2 : Int), 0)) (
      conform_First_L2 t xs (k_2 + 1))
def conform_First (l : List Track) (t : List TubeNode) : Int × Int :=
  cond (decide ((l.length : Int) > 256)) (
    (0, 2)) (
    let r1 := tube_Check t
    cond (r1 != 0) (
      (0, r1)) (
      Sum.elim (fun _ =>
        Sum.elim (fun _ =>
          (0, 8)) (fun r => r) (conform_First_L2 t l 0)) (fun r => r) (conform_First_L1 l l 0)))

set_option maxRecDepth 100000 in
theorem conform_First_w (A_l : Option Addr) (c_l : Nat) (l : List Track) (A_t : Option Addr) (c_t : Nat) (t : List TubeNode) (w : World) (h_l : Rd w 13 A_l (l.map Track.c)) (_hc_l : l.length ≤ c_l) (h_t : Rd w 6 A_t (t.map TubeNode.c)) (hc_t : t.length ≤ c_t) : Calls Try.prog 43 #[.slice A_l l.length c_l, .slice A_t t.length c_t] w (Ret w (.tuple #[.int .i64 ((conform_First l t).1), .int .i64 ((conform_First l t).2)])) := by
  have s_l := h_l.short; rw [List.length_map] at s_l
  have s_t := h_t.short; rw [List.length_map] at s_t
  refine calls_intro (vs := [.slice A_l l.length c_l, .slice A_t t.length c_t]) (w := w) Try.func43 rfl Try.ntmps43 rfl ?_
  refine TC.weak [(0, .slice A_l l.length c_l), (1, .slice A_t t.length c_t)] (by kernel_rfl) ?_
  refine TC.seq ?_
  refine TC.region ?_
  refine TL.run 2 [] [(0, .slice A_l l.length c_l), (1, .slice A_t t.length c_t)] rfl ⟨by kernel_rfl, by kernel_rfl⟩ ?_
  refine TL.next rfl ?_
  refine TC.seq ?_
  refine TC.seq ?_
  refine TC.region ?_
  refine TL.run 3 [] [(0, .slice A_l l.length c_l), (1, .slice A_t t.length c_t), (15, .bool (decide ((l.length : Int) > 256)))] rfl ⟨by kernel_rfl, by kernel_rfl⟩ ?_
  refine TL.next rfl ?_
  refine TC.cond (decide ((l.length : Int) > 256)) rfl (by kernel_rfl) (fun h1 => ?_) (fun h1 => ?_)
  · refine TC.seq ?_
    refine TC.region ?_
    refine TL.run 2 [] [(4, .int .i64 0), (5, .int .i64 2)] rfl ⟨by kernel_rfl, by kernel_rfl⟩ ?_
    refine TL.next rfl ?_
    refine TC.ret ?_
    refine TE.ret_then ?_
    have e : conform_First l t = (0, 2) := by unfold conform_First; exact cond_t h1 (rfl)
    exact TE.ret [] (.tuple #[.int .i64 0, .int .i64 2]) ⟨by kernel_rfl, by kernel_rfl⟩ (by rw [e]; first | done | kernel_rfl)
  · refine TC.skip ?_
    refine TE.next ?_
    refine TC.seq ?_
    refine TC.seq ?_
    refine TC.region ?_
    refine TL.run 1 [] [(0, .slice A_l l.length c_l), (1, .slice A_t t.length c_t), (16, .slice A_t t.length c_t)] rfl ⟨by kernel_rfl, by kernel_rfl⟩ ?_
    refine TL.call (some 17) [(0, .slice A_l l.length c_l), (1, .slice A_t t.length c_t), (17, .int .i64 (tube_Check t))] (fun w hM => tube_Check_w A_t c_t t w (h_t.sat hM) hc_t) (by kernel_rfl) (by kernel_rfl) ?_
    generalize hr1 : tube_Check t = r1
    refine TL.run 3 [] [(0, .slice A_l l.length c_l), (1, .slice A_t t.length c_t), (6, .int .i64 r1)] rfl ⟨by kernel_rfl, by kernel_rfl⟩ ?_
    refine TL.next rfl ?_
    refine TC.seq ?_
    refine TC.region ?_
    refine TL.run 2 [] [(0, .slice A_l l.length c_l), (1, .slice A_t t.length c_t), (6, .int .i64 r1), (19, .bool (r1 != 0))] rfl ⟨by kernel_rfl, by kernel_rfl⟩ ?_
    refine TL.next rfl ?_
    refine TC.cond (r1 != 0) rfl (by kernel_rfl) (fun h2 => ?_) (fun h2 => ?_)
    · refine TC.seq ?_
      refine TC.region ?_
      refine TL.run 3 [] [(4, .int .i64 0), (5, .int .i64 r1)] rfl ⟨by kernel_rfl, by kernel_rfl⟩ ?_
      refine TL.next rfl ?_
      refine TC.ret ?_
      refine TE.ret_then ?_
      have e : conform_First l t = (0, r1) := by subst hr1; unfold conform_First; exact cond_f h1 (cond_t h2 (rfl))
      exact TE.ret [] (.tuple #[.int .i64 0, .int .i64 r1]) ⟨by kernel_rfl, by kernel_rfl⟩ (by rw [e]; first | done | kernel_rfl)
    · refine TC.skip ?_
      refine TE.next ?_
      refine TC.seq ?_
      refine TC.seq ?_
      refine TC.region ?_
      refine TL.run 3 [] [(0, .slice A_l l.length c_l), (1, .slice A_t t.length c_t), (21, .slice A_l l.length c_l), (22, .int .i64 (l.length : Int)), (23, .int .i64 0)] rfl ⟨by kernel_rfl, by kernel_rfl⟩ ?_
      refine TL.next rfl ?_
      refine TC.weak [(0, .slice A_l l.length c_l), (1, .slice A_t t.length c_t), (21, .slice A_l l.length c_l), (22, .int .i64 (l.length : Int)), (23, .int .i64 0)] (by kernel_rfl) ?_
      obtain ⟨R1, hR⟩ : ∃ R, R = conform_First_L1 l l 0 := ⟨_, rfl⟩
      refine TC.cut (S := Unit) (fun (_ : Unit) => [(0, .slice A_l l.length c_l), (1, .slice A_t t.length c_t)]) (fun (_ : Unit) => []) (fun (_ : Unit) => R1 = .inl ()) ?_ ?_
      · refine TC.block ?_
        refine TC.loop (X := Nat) (fun k => [(0, .slice A_l l.length c_l), (1, .slice A_t t.length c_t), (21, .slice A_l l.length c_l), (22, .int .i64 (l.length : Int)), (23, .int .i64 (k : Int))]) (fun k => []) (fun k => l.length - k) (fun k => k ≤ l.length ∧ R1 = conform_First_L1 l (l.drop k) k) ?_ 0 ⟨Nat.zero_le _, hR⟩
        rintro k ⟨hk, hI⟩
        refine TC.seq ?_
        refine TC.region ?_
        refine TL.run 1 [] [(0, .slice A_l l.length c_l), (1, .slice A_t t.length c_t), (21, .slice A_l l.length c_l), (22, .int .i64 (l.length : Int)), (23, .int .i64 (k : Int)), (24, .bool (decide ((k : Int) < (l.length : Int))))] rfl ⟨by kernel_rfl, by kernel_rfl⟩ ?_
        refine TL.next rfl ?_
        refine TC.seq ?_
        refine TC.cond (decide ((k : Int) < (l.length : Int))) rfl (by kernel_rfl) (fun h3 => ?_) (fun h3 => ?_)
        · have hlt : k < l.length := by have := of_decide_eq_true h3; first | omega | (simp at this; omega)
          obtain ⟨x, hx⟩ : ∃ x, l[k]? = some x := ⟨_, List.getElem?_eq_getElem hlt⟩
          have hd := drop_at hx
          refine TC.skip ?_
          refine TE.next ?_
          refine TC.seq ?_
          refine TC.block ?_
          refine TC.seq ?_
          refine TC.region ?_
          refine TL.run 1 [] [(0, .slice A_l l.length c_l), (1, .slice A_t t.length c_t), (21, .slice A_l l.length c_l), (22, .int .i64 (l.length : Int)), (23, .int .i64 (k : Int)), (25, .int .i64 (k : Int))] rfl ⟨by kernel_rfl, by kernel_rfl⟩ ?_
          refine TL.val (sV (Instr.indexAt 22 (.slice A_l l.length c_l) (.int .i64 (k : Int)))) (some 26) (.pointer (some ((A_l.getD noAddr).add (k * 13)))) [(0, .slice A_l l.length c_l), (1, .slice A_t t.length c_t), (21, .slice A_l l.length c_l), (22, .int .i64 (l.length : Int)), (23, .int .i64 (k : Int)), (25, .int .i64 (k : Int)), (26, .pointer (some ((A_l.getD noAddr).add (k * 13))))] (fun w hM => run_index (h_l.sat hM) (by simp) (by kernel_rfl) (by have q0_ := (dec_f h1); have q1_ := (bne_f h2); first | omega | (simp only [List.length_drop]; omega) | (simp only [w64_eq]; omega) | exact (tm_in (by (first | (rw [w64_id (by omega)]; omega) | (simp only [w64_eq]; omega))) (by omega)).1 | exact (tm_in (by (first | (rw [w64_id (by omega)]; omega) | (simp only [w64_eq]; omega))) (by omega)).2.1 | exact (tm_in (by (first | (rw [w64_id (by omega)]; omega) | (simp only [w64_eq]; omega))) (by omega)).2.2 | (simp <;> omega)) (by have q0_ := (dec_f h1); have q1_ := (bne_f h2); first | omega | (simp only [List.length_drop]; omega) | (simp only [w64_eq]; omega) | exact (tm_in (by (first | (rw [w64_id (by omega)]; omega) | (simp only [w64_eq]; omega))) (by omega)).1 | exact (tm_in (by (first | (rw [w64_id (by omega)]; omega) | (simp only [w64_eq]; omega))) (by omega)).2.1 | exact (tm_in (by (first | (rw [w64_id (by omega)]; omega) | (simp only [w64_eq]; omega))) (by omega)).2.2 | (simp <;> omega))) (by kernel_rfl) (by kernel_rfl) ?_
          refine TL.val (sV (Instr.loadAt 33 (.pointer (some ((A_l.getD noAddr).add (k * 13)))))) (some 27) (Track.v x) [(0, .slice A_l l.length c_l), (1, .slice A_t t.length c_t), (21, .slice A_l l.length c_l), (22, .int .i64 (l.length : Int)), (23, .int .i64 (k : Int)), (25, .int .i64 (k : Int)), (27, Track.v x)] (fun w hM => run_load_agg (n := 13) (off := 0) (i := k) (Track.v x) (h_l.sat hM) (map_at hx) (by kernel_rfl) (by kernel_rfl) (by kernel_rfl)) (by kernel_rfl) (by kernel_rfl) ?_
          refine TL.write 0 (fun b1 => [(0, .slice A_l l.length c_l), (1, .slice A_t t.length c_t), (8, .pointer (some ⟨b1, 0, none⟩)), (21, .slice A_l l.length c_l), (22, .int .i64 (l.length : Int)), (23, .int .i64 (k : Int)), (25, .int .i64 (k : Int)), (27, Track.v x)]) (fun b1 => [.inl (b1, .cells (Track.c Track.zero) 33 (0, 0))]) (fun b1 => ⟨by kernel_rfl, by kernel_rfl⟩) (fun b1 => ?_)
          refine TL.run 5 [] [(0, .slice A_l l.length c_l), (1, .slice A_t t.length c_t), (7, .int .i64 (k : Int)), (8, .pointer (some ⟨b1, 0, none⟩)), (21, .slice A_l l.length c_l), (22, .int .i64 (l.length : Int)), (23, .int .i64 (k : Int)), (27, Track.v x)] rfl ⟨by kernel_rfl, by kernel_rfl⟩ ?_
          refine TL.write 0 (fun _ => [(0, .slice A_l l.length c_l), (1, .slice A_t t.length c_t), (7, .int .i64 (k : Int)), (8, .pointer (some ⟨b1, 0, none⟩)), (21, .slice A_l l.length c_l), (22, .int .i64 (l.length : Int)), (23, .int .i64 (k : Int))]) (fun _ => [.inl (b1, .cells (Track.c x) 33 (0, 0))]) (fun _ => ⟨by kernel_rfl, by kernel_rfl⟩) (fun _ => ?_)
          refine TL.next rfl ?_
          refine TC.seq ?_
          refine TC.seq ?_
          refine TC.region ?_
          refine TL.run 1 [0] [(0, .slice A_l l.length c_l), (1, .slice A_t t.length c_t), (7, .int .i64 (k : Int)), (8, .pointer (some ⟨b1, 0, none⟩)), (21, .slice A_l l.length c_l), (22, .int .i64 (l.length : Int)), (23, .int .i64 (k : Int)), (28, Track.v x)] rfl ⟨by kernel_rfl, by kernel_rfl⟩ ?_
          refine TL.call (some 29) [(0, .slice A_l l.length c_l), (1, .slice A_t t.length c_t), (7, .int .i64 (k : Int)), (8, .pointer (some ⟨b1, 0, none⟩)), (21, .slice A_l l.length c_l), (22, .int .i64 (l.length : Int)), (23, .int .i64 (k : Int)), (29, .bool ((conform_permitted x)))] (fun w _ => conform_permitted_w x w) (by kernel_rfl) (by kernel_rfl) ?_
          generalize hr2 : conform_permitted x = r2
          refine TL.run 3 [] [(0, .slice A_l l.length c_l), (1, .slice A_t t.length c_t), (7, .int .i64 (k : Int)), (8, .pointer (some ⟨b1, 0, none⟩)), (21, .slice A_l l.length c_l), (22, .int .i64 (l.length : Int)), (23, .int .i64 (k : Int)), (30, .bool (!r2))] rfl ⟨by kernel_rfl, by kernel_rfl⟩ ?_
          refine TL.next rfl ?_
          refine TC.cond (!r2) rfl (by kernel_rfl) (fun h4 => ?_) (fun h4 => ?_)
          · refine TC.seq ?_
            refine TC.region ?_
            refine TL.run 2 [] [(4, .int .i64 0), (5, .int .i64 4)] rfl ⟨by kernel_rfl, by kernel_rfl⟩ ?_
            refine TL.next rfl ?_
            refine TC.ret ?_
            refine TE.ret_then (TE.ret_block (TE.ret_then (TE.ret_then (TE.ret_block (TE.ret_then (TE.ret_then ?_))))))
            have e : conform_First l t = (0, 4) := by subst hr1 hr2; unfold conform_First; exact cond_f h1 (cond_f h2 (elim_r (hR.symm.trans (hI.trans (by rw [hd]; exact cond_t h4 (rfl)))) rfl))
            exact TE.ret [] (.tuple #[.int .i64 0, .int .i64 4]) ⟨by kernel_rfl, by kernel_rfl⟩ (by rw [e]; first | done | kernel_rfl)
          · refine TC.skip ?_
            refine TE.next ?_
            refine TC.seq ?_
            refine TC.draw 13 (by kernel_rfl) (by kernel_rfl) (by kernel_rfl) ?_
            refine TQ.run 3 [] [(0, .slice A_l l.length c_l), (1, .slice A_t t.length c_t), (7, .int .i64 (k : Int)), (8, .pointer (some ⟨b1, 0, none⟩)), (21, .slice A_l l.length c_l), (22, .int .i64 (l.length : Int)), (23, .int .i64 (k : Int)), (33, .bool (decide ((k : Int) > 0)))] rfl ⟨by kernel_rfl, by kernel_rfl⟩ ?_
            refine TQ.split 33 (decide ((k : Int) > 0)) (by kernel_rfl) (fun h5 => ?_) (fun h5 => ?_)
            · refine TQ.run 8 [0] [(0, .slice A_l l.length c_l), (1, .slice A_t t.length c_t), (21, .slice A_l l.length c_l), (22, .int .i64 (l.length : Int)), (23, .int .i64 (k : Int)), (33, .bool true), (35, .int .i64 x.Time), (36, .slice A_l l.length c_l), (38, .int .i64 (w64 ((k : Int) - 1)))] rfl ⟨by kernel_rfl, by kernel_rfl⟩ ?_
              refine TQ.rw 38 (.int .i64 (w64 ((k : Int) - 1))) (.int .i64 ((k - 1 : Nat) : Int)) (by kernel_rfl) (w64_pred k (by have q0_ := (dec_f h1); have q1_ := (bne_f h2); have q2_ := (dec_t h5); first | omega | (simp only [List.length_drop]; omega) | (simp only [w64_eq]; omega) | exact (tm_in (by (first | (rw [w64_id (by omega)]; omega) | (simp only [w64_eq]; omega))) (by omega)).1 | exact (tm_in (by (first | (rw [w64_id (by omega)]; omega) | (simp only [w64_eq]; omega))) (by omega)).2.1 | exact (tm_in (by (first | (rw [w64_id (by omega)]; omega) | (simp only [w64_eq]; omega))) (by omega)).2.2 | (simp <;> omega))) ?_
              refine TQ.val (sV (Instr.indexAt 22 (.slice A_l l.length c_l) (.int .i64 ((k - 1 : Nat) : Int)))) (some 39) (.pointer (some ((A_l.getD noAddr).add ((k - 1) * 13)))) [(0, .slice A_l l.length c_l), (1, .slice A_t t.length c_t), (21, .slice A_l l.length c_l), (22, .int .i64 (l.length : Int)), (23, .int .i64 (k : Int)), (33, .bool true), (35, .int .i64 x.Time), (39, .pointer (some ((A_l.getD noAddr).add ((k - 1) * 13))))] (fun w hM => run_index (h_l.sat hM) (by simp) (by kernel_rfl) (by have q0_ := (dec_f h1); have q1_ := (bne_f h2); have q2_ := (dec_t h5); first | omega | (simp only [List.length_drop]; omega) | (simp only [w64_eq]; omega) | exact (tm_in (by (first | (rw [w64_id (by omega)]; omega) | (simp only [w64_eq]; omega))) (by omega)).1 | exact (tm_in (by (first | (rw [w64_id (by omega)]; omega) | (simp only [w64_eq]; omega))) (by omega)).2.1 | exact (tm_in (by (first | (rw [w64_id (by omega)]; omega) | (simp only [w64_eq]; omega))) (by omega)).2.2 | (simp <;> omega)) (by have q0_ := (dec_f h1); have q1_ := (bne_f h2); have q2_ := (dec_t h5); first | omega | (simp only [List.length_drop]; omega) | (simp only [w64_eq]; omega) | exact (tm_in (by (first | (rw [w64_id (by omega)]; omega) | (simp only [w64_eq]; omega))) (by omega)).1 | exact (tm_in (by (first | (rw [w64_id (by omega)]; omega) | (simp only [w64_eq]; omega))) (by omega)).2.1 | exact (tm_in (by (first | (rw [w64_id (by omega)]; omega) | (simp only [w64_eq]; omega))) (by omega)).2.2 | (simp <;> omega))) rfl (by kernel_rfl) (by kernel_rfl) ?_
              refine TQ.run 10 [] [(0, .slice A_l l.length c_l), (1, .slice A_t t.length c_t), (21, .slice A_l l.length c_l), (22, .int .i64 (l.length : Int)), (23, .int .i64 (k : Int)), (33, .bool true), (35, .int .i64 x.Time), (40, .pointer (some (((A_l.getD noAddr).add ((k - 1) * 13)).add 2)))] rfl ⟨by kernel_rfl, by kernel_rfl⟩ ?_
              refine TQ.val (sV (Instr.loadAt 3 (.pointer (some (((A_l.getD noAddr).add ((k - 1) * 13)).add 2))))) (some 41) (.int .i64 ((l[(k - 1)]?.getD Track.zero).Time)) [(0, .slice A_l l.length c_l), (1, .slice A_t t.length c_t), (21, .slice A_l l.length c_l), (22, .int .i64 (l.length : Int)), (23, .int .i64 (k : Int)), (33, .bool true), (35, .int .i64 x.Time), (41, .int .i64 ((l[(k - 1)]?.getD Track.zero).Time))] (fun w hM => run_load_one (off := 2) (i := (k - 1)) (.int .i64 ((l[(k - 1)]?.getD Track.zero).Time)) (h_l.sat hM) (map_at (getD_at _ _ Track.zero (by have q0_ := (dec_f h1); have q1_ := (bne_f h2); have q2_ := (dec_t h5); first | omega | (simp only [List.length_drop]; omega) | (simp only [w64_eq]; omega) | exact (tm_in (by (first | (rw [w64_id (by omega)]; omega) | (simp only [w64_eq]; omega))) (by omega)).1 | exact (tm_in (by (first | (rw [w64_id (by omega)]; omega) | (simp only [w64_eq]; omega))) (by omega)).2.1 | exact (tm_in (by (first | (rw [w64_id (by omega)]; omega) | (simp only [w64_eq]; omega))) (by omega)).2.2 | (simp <;> omega)))) (by kernel_rfl) (by kernel_rfl)) rfl (by kernel_rfl) (by kernel_rfl) ?_
              refine TQ.run 13 [] [(0, .slice A_l l.length c_l), (1, .slice A_t t.length c_t), (21, .slice A_l l.length c_l), (22, .int .i64 (l.length : Int)), (23, .int .i64 (k : Int)), (43, .bool (decide (x.Time ≤ ((l[(k - 1)]?.getD Track.zero).Time))))] rfl ⟨by kernel_rfl, by kernel_rfl⟩ ?_
              refine TQ.next rfl ?_
              refine TC.cond (decide (x.Time ≤ ((l[(k - 1)]?.getD Track.zero).Time))) rfl (by kernel_rfl) (fun h6 => ?_) (fun h6 => ?_)
              · refine TC.seq ?_
                refine TC.region ?_
                refine TL.run 2 [] [(4, .int .i64 0), (5, .int .i64 12)] rfl ⟨by kernel_rfl, by kernel_rfl⟩ ?_
                refine TL.next rfl ?_
                refine TC.ret ?_
                refine TE.ret_block (TE.ret_then (TE.ret_then (TE.ret_block (TE.ret_then (TE.ret_then ?_)))))
                have e : conform_First l t = (0, 12) := by subst hr1 hr2; unfold conform_First; exact cond_f h1 (cond_f h2 (elim_r (hR.symm.trans (hI.trans (by rw [hd]; exact cond_f h4 (cond_t h5 (cond_t h6 (rfl)))))) rfl))
                exact TE.ret [] (.tuple #[.int .i64 0, .int .i64 12]) ⟨by kernel_rfl, by kernel_rfl⟩ (by rw [e]; first | done | kernel_rfl)
              · refine TC.skip ?_
                refine TE.normal_block ?_
                refine TE.next ?_
                refine TC.region ?_
                refine TL.run 2 [] [(0, .slice A_l l.length c_l), (1, .slice A_t t.length c_t), (21, .slice A_l l.length c_l), (22, .int .i64 (l.length : Int)), (23, .int .i64 (w64 ((k : Int) + 1)))] rfl ⟨by kernel_rfl, by kernel_rfl⟩ ?_
                refine TL.done rfl ?_
                refine TE.rw 23 (.int .i64 (w64 ((k : Int) + 1))) (.int .i64 ((k + 1 : Nat) : Int)) (by kernel_rfl) (w64_cast k (by omega)) ?_
                exact TE.again (x := k) (k + 1) ⟨by omega, hI.trans (by subst hr1 hr2; rw [hd]; exact cond_f h4 (cond_t h5 (cond_f h6 (rfl))))⟩ (by show l.length - (k + 1) < l.length - k; omega) (by kernel_rfl) (.cons _ (.slnil))
            · refine TQ.run 13 [] [(0, .slice A_l l.length c_l), (1, .slice A_t t.length c_t), (21, .slice A_l l.length c_l), (22, .int .i64 (l.length : Int)), (23, .int .i64 (k : Int)), (43, .bool false)] rfl ⟨by kernel_rfl, by kernel_rfl⟩ ?_
              refine TQ.next rfl ?_
              refine TC.condF rfl (by kernel_rfl) ?_
              refine TC.skip ?_
              refine TE.normal_block ?_
              refine TE.next ?_
              refine TC.region ?_
              refine TL.run 2 [] [(0, .slice A_l l.length c_l), (1, .slice A_t t.length c_t), (21, .slice A_l l.length c_l), (22, .int .i64 (l.length : Int)), (23, .int .i64 (w64 ((k : Int) + 1)))] rfl ⟨by kernel_rfl, by kernel_rfl⟩ ?_
              refine TL.done rfl ?_
              refine TE.rw 23 (.int .i64 (w64 ((k : Int) + 1))) (.int .i64 ((k + 1 : Nat) : Int)) (by kernel_rfl) (w64_cast k (by omega)) ?_
              exact TE.again (x := k) (k + 1) ⟨by omega, hI.trans (by subst hr1 hr2; rw [hd]; exact cond_f h4 (cond_f h5 (rfl)))⟩ (by show l.length - (k + 1) < l.length - k; omega) (by kernel_rfl) (.cons _ (.slnil))
        · have hd : l.drop k = [] := List.drop_eq_nil_of_le (by have := of_decide_eq_false h3; first | omega | (simp at this; omega))
          refine TC.exit ?_
          refine TE.exit_then (TE.exit_then (TE.exit_same ?_))
          exact TE.cut () (hI.trans (by subst hr1; rw [hd]; exact rfl)) (by kernel_rfl) (.slnil)
      · intro _ hJ
        refine TE.next ?_
        refine TC.seq ?_
        refine TC.seq ?_
        refine TC.region ?_
        refine TL.run 3 [] [(1, .slice A_t t.length c_t), (45, .slice A_l l.length c_l), (46, .int .i64 (l.length : Int)), (47, .int .i64 0)] rfl ⟨by kernel_rfl, by kernel_rfl⟩ ?_
        refine TL.next rfl ?_
        refine TC.weak [(1, .slice A_t t.length c_t), (45, .slice A_l l.length c_l), (46, .int .i64 (l.length : Int)), (47, .int .i64 0)] (by kernel_rfl) ?_
        obtain ⟨R2, hR_2⟩ : ∃ R, R = conform_First_L2 t l 0 := ⟨_, rfl⟩
        refine TC.cut (S := Unit) (fun (_ : Unit) => []) (fun (_ : Unit) => []) (fun (_ : Unit) => R2 = .inl ()) ?_ ?_
        · refine TC.block ?_
          refine TC.loop (X := Nat) (fun k_2 => [(1, .slice A_t t.length c_t), (45, .slice A_l l.length c_l), (46, .int .i64 (l.length : Int)), (47, .int .i64 (k_2 : Int))]) (fun k_2 => []) (fun k_2 => l.length - k_2) (fun k_2 => k_2 ≤ l.length ∧ R2 = conform_First_L2 t (l.drop k_2) k_2) ?_ 0 ⟨Nat.zero_le _, hR_2⟩
          rintro k_2 ⟨hk_2, hI_2⟩
          refine TC.seq ?_
          refine TC.region ?_
          refine TL.run 1 [] [(1, .slice A_t t.length c_t), (45, .slice A_l l.length c_l), (46, .int .i64 (l.length : Int)), (47, .int .i64 (k_2 : Int)), (48, .bool (decide ((k_2 : Int) < (l.length : Int))))] rfl ⟨by kernel_rfl, by kernel_rfl⟩ ?_
          refine TL.next rfl ?_
          refine TC.seq ?_
          refine TC.cond (decide ((k_2 : Int) < (l.length : Int))) rfl (by kernel_rfl) (fun h7 => ?_) (fun h7 => ?_)
          · have hlt_2 : k_2 < l.length := by have := of_decide_eq_true h7; first | omega | (simp at this; omega)
            obtain ⟨x_2, hx_2⟩ : ∃ x, l[k_2]? = some x := ⟨_, List.getElem?_eq_getElem hlt_2⟩
            have hd_2 := drop_at hx_2
            refine TC.skip ?_
            refine TE.next ?_
            refine TC.seq ?_
            refine TC.block ?_
            refine TC.seq ?_
            refine TC.region ?_
            refine TL.run 1 [] [(1, .slice A_t t.length c_t), (45, .slice A_l l.length c_l), (46, .int .i64 (l.length : Int)), (47, .int .i64 (k_2 : Int)), (49, .int .i64 (k_2 : Int))] rfl ⟨by kernel_rfl, by kernel_rfl⟩ ?_
            refine TL.val (sV (Instr.indexAt 22 (.slice A_l l.length c_l) (.int .i64 (k_2 : Int)))) (some 50) (.pointer (some ((A_l.getD noAddr).add (k_2 * 13)))) [(1, .slice A_t t.length c_t), (45, .slice A_l l.length c_l), (46, .int .i64 (l.length : Int)), (47, .int .i64 (k_2 : Int)), (49, .int .i64 (k_2 : Int)), (50, .pointer (some ((A_l.getD noAddr).add (k_2 * 13))))] (fun w hM => run_index (h_l.sat hM) (by simp) (by kernel_rfl) (by have q0_ := (dec_f h1); have q1_ := (bne_f h2); first | omega | (simp only [List.length_drop]; omega) | (simp only [w64_eq]; omega) | exact (tm_in (by (first | (rw [w64_id (by omega)]; omega) | (simp only [w64_eq]; omega))) (by omega)).1 | exact (tm_in (by (first | (rw [w64_id (by omega)]; omega) | (simp only [w64_eq]; omega))) (by omega)).2.1 | exact (tm_in (by (first | (rw [w64_id (by omega)]; omega) | (simp only [w64_eq]; omega))) (by omega)).2.2 | (simp <;> omega)) (by have q0_ := (dec_f h1); have q1_ := (bne_f h2); first | omega | (simp only [List.length_drop]; omega) | (simp only [w64_eq]; omega) | exact (tm_in (by (first | (rw [w64_id (by omega)]; omega) | (simp only [w64_eq]; omega))) (by omega)).1 | exact (tm_in (by (first | (rw [w64_id (by omega)]; omega) | (simp only [w64_eq]; omega))) (by omega)).2.1 | exact (tm_in (by (first | (rw [w64_id (by omega)]; omega) | (simp only [w64_eq]; omega))) (by omega)).2.2 | (simp <;> omega))) (by kernel_rfl) (by kernel_rfl) ?_
            refine TL.val (sV (Instr.loadAt 33 (.pointer (some ((A_l.getD noAddr).add (k_2 * 13)))))) (some 51) (Track.v x_2) [(1, .slice A_t t.length c_t), (45, .slice A_l l.length c_l), (46, .int .i64 (l.length : Int)), (47, .int .i64 (k_2 : Int)), (49, .int .i64 (k_2 : Int)), (51, Track.v x_2)] (fun w hM => run_load_agg (n := 13) (off := 0) (i := k_2) (Track.v x_2) (h_l.sat hM) (map_at hx_2) (by kernel_rfl) (by kernel_rfl) (by kernel_rfl)) (by kernel_rfl) (by kernel_rfl) ?_
            refine TL.write 0 (fun b2 => [(1, .slice A_t t.length c_t), (10, .pointer (some ⟨b2, 0, none⟩)), (45, .slice A_l l.length c_l), (46, .int .i64 (l.length : Int)), (47, .int .i64 (k_2 : Int)), (49, .int .i64 (k_2 : Int)), (51, Track.v x_2)]) (fun b2 => [.inl (b2, .cells (Track.c Track.zero) 33 (0, 0))]) (fun b2 => ⟨by kernel_rfl, by kernel_rfl⟩) (fun b2 => ?_)
            refine TL.run 5 [] [(1, .slice A_t t.length c_t), (9, .int .i64 (k_2 : Int)), (10, .pointer (some ⟨b2, 0, none⟩)), (45, .slice A_l l.length c_l), (46, .int .i64 (l.length : Int)), (47, .int .i64 (k_2 : Int)), (51, Track.v x_2)] rfl ⟨by kernel_rfl, by kernel_rfl⟩ ?_
            refine TL.write 0 (fun _ => [(1, .slice A_t t.length c_t), (9, .int .i64 (k_2 : Int)), (10, .pointer (some ⟨b2, 0, none⟩)), (45, .slice A_l l.length c_l), (46, .int .i64 (l.length : Int)), (47, .int .i64 (k_2 : Int))]) (fun _ => [.inl (b2, .cells (Track.c x_2) 33 (0, 0))]) (fun _ => ⟨by kernel_rfl, by kernel_rfl⟩) (fun _ => ?_)
            refine TL.next rfl ?_
            refine TC.seq ?_
            refine TC.region ?_
            refine TL.run 2 [0] [(1, .slice A_t t.length c_t), (9, .int .i64 (k_2 : Int)), (45, .slice A_l l.length c_l), (46, .int .i64 (l.length : Int)), (47, .int .i64 (k_2 : Int)), (53, Track.v x_2), (54, .slice A_t t.length c_t)] rfl ⟨by kernel_rfl, by kernel_rfl⟩ ?_
            refine TL.call (some 55) [(1, .slice A_t t.length c_t), (9, .int .i64 (k_2 : Int)), (45, .slice A_l l.length c_l), (46, .int .i64 (l.length : Int)), (47, .int .i64 (k_2 : Int)), (55, .tuple #[.int .i64 ((conform_Compare x_2 t).1), .int .i64 ((conform_Compare x_2 t).2)])] (fun w hM => conform_Compare_w x_2 A_t c_t t w (h_t.sat hM) hc_t) (by kernel_rfl) (by kernel_rfl) ?_
            generalize hr3 : conform_Compare x_2 t = r3
            refine TL.run 8 [] [(1, .slice A_t t.length c_t), (9, .int .i64 (k_2 : Int)), (11, .int .i64 r3.1), (12, .int .i64 r3.2), (45, .slice A_l l.length c_l), (46, .int .i64 (l.length : Int)), (47, .int .i64 (k_2 : Int))] rfl ⟨by kernel_rfl, by kernel_rfl⟩ ?_
            refine TL.next rfl ?_
            refine TC.seq ?_
            refine TC.region ?_
            refine TL.run 3 [] [(1, .slice A_t t.length c_t), (9, .int .i64 (k_2 : Int)), (11, .int .i64 r3.1), (45, .slice A_l l.length c_l), (46, .int .i64 (l.length : Int)), (47, .int .i64 (k_2 : Int)), (60, .bool (r3.2 == 0))] rfl ⟨by kernel_rfl, by kernel_rfl⟩ ?_
            refine TL.join 60 (r3.2 == 0) 6 [] [] (fun β => [(1, .slice A_t t.length c_t), (9, .int .i64 (k_2 : Int)), (45, .slice A_l l.length c_l), (46, .int .i64 (l.length : Int)), (47, .int .i64 (k_2 : Int)), (63, .bool (β && (r3.1 == 2)))]) (by kernel_rfl) rfl ⟨by kernel_rfl, by kernel_rfl⟩ ⟨by kernel_rfl, by kernel_rfl⟩ ?_
            refine TL.next rfl ?_
            refine TC.cond ((r3.2 == 0) && (r3.1 == 2)) rfl (by kernel_rfl) (fun h8 => ?_) (fun h8 => ?_)
            · refine TC.seq ?_
              refine TC.region ?_
              refine TL.run 3 [] [(4, .int .i64 (k_2 : Int)), (5, .int .i64 0)] rfl ⟨by kernel_rfl, by kernel_rfl⟩ ?_
              refine TL.next rfl ?_
              refine TC.ret ?_
              refine TE.ret_block (TE.ret_then (TE.ret_then (TE.ret_block (TE.ret_then (TE.ret_then ?_)))))
              have e : conform_First l t = ((k_2 : Int), 0) := by subst hr1 hr3; unfold conform_First; exact cond_f h1 (cond_f h2 (elim_l (hR.symm.trans hJ) (elim_r (hR_2.symm.trans (hI_2.trans (by rw [hd_2]; exact cond_t h8 (rfl)))) rfl)))
              exact TE.ret [] (.tuple #[.int .i64 (k_2 : Int), .int .i64 0]) ⟨by kernel_rfl, by kernel_rfl⟩ (by rw [e]; first | done | kernel_rfl)
            · refine TC.skip ?_
              refine TE.normal_block ?_
              refine TE.next ?_
              refine TC.region ?_
              refine TL.run 2 [] [(1, .slice A_t t.length c_t), (45, .slice A_l l.length c_l), (46, .int .i64 (l.length : Int)), (47, .int .i64 (w64 ((k_2 : Int) + 1)))] rfl ⟨by kernel_rfl, by kernel_rfl⟩ ?_
              refine TL.done rfl ?_
              refine TE.rw 47 (.int .i64 (w64 ((k_2 : Int) + 1))) (.int .i64 ((k_2 + 1 : Nat) : Int)) (by kernel_rfl) (w64_cast k_2 (by omega)) ?_
              exact TE.again (x := k_2) (k_2 + 1) ⟨by omega, hI_2.trans (by subst hr1 hr3; rw [hd_2]; exact cond_f h8 (rfl))⟩ (by show l.length - (k_2 + 1) < l.length - k_2; omega) (by kernel_rfl) (.cons _ (.slnil))
          · have hd_2 : l.drop k_2 = [] := List.drop_eq_nil_of_le (by have := of_decide_eq_false h7; first | omega | (simp at this; omega))
            refine TC.exit ?_
            refine TE.exit_then (TE.exit_then (TE.exit_same ?_))
            exact TE.cut () (hI_2.trans (by subst hr1; rw [hd_2]; exact rfl)) (by kernel_rfl) (.slnil)
        · intro _ hJ_2
          refine TE.next ?_
          refine TC.seq ?_
          refine TC.region ?_
          refine TL.run 2 [] [(4, .int .i64 0), (5, .int .i64 8)] rfl ⟨by kernel_rfl, by kernel_rfl⟩ ?_
          refine TL.next rfl ?_
          refine TC.ret ?_
          have e : conform_First l t = (0, 8) := by subst hr1; unfold conform_First; exact cond_f h1 (cond_f h2 (elim_l (hR.symm.trans hJ) (elim_l (hR_2.symm.trans hJ_2) (rfl))))
          exact TE.ret [] (.tuple #[.int .i64 0, .int .i64 8]) ⟨by kernel_rfl, by kernel_rfl⟩ (by rw [e]; first | done | kernel_rfl)

def conform_Late_L2 (x : Track) (l : List TubeNode) (k : Nat) : Nat → Nat → ((Unit) ⊕ (Int × Int))
  | 0, _ => .inl ()
  | m + 1, k_2 => let r3 := conform_Compare (⟨x.ID, x.State, w64 (x.Time - (([(k : Int), w64 (0 - (k : Int))] : List Int)[k_2]?.getD 0)), x.At, x.Speed, x.Height, x.Rate, x.Radius, x.Code, x.Hits, x.Misses⟩ : Track) l
    cond ((r3.2 == 0) && (decide (r3.1 < 2))) (
      .inr ((([(k : Int), w64 (0 - (k : Int))] : List Int)[k_2]?.getD 0), 0)) (
      conform_Late_L2 x l k m (k_2 + 1))
def conform_Late_L1 (x : Track) (l : List TubeNode) : Nat → Nat → ((Unit) ⊕ (Int × Int))
  | 0, _ => .inl ()
  | m + 1, k => Sum.elim (fun _ =>
      conform_Late_L1 x l m (k + 1)) (fun r => .inr r) (conform_Late_L2 x l k ((2 : Int).toNat) 0)
def conform_Late (x : Track) (l : List TubeNode) : Int × Int :=
  let r1 := conform_permitted x
  cond (!r1) (
    (0, 4)) (
    let r2 := tube_Check l
    cond (r2 != 0) (
      (0, r2)) (
      Sum.elim (fun _ =>
        (0, 8)) (fun r => r) (conform_Late_L1 x l ((601 : Int).toNat) 0)))

set_option maxRecDepth 100000 in
theorem conform_Late_w (x : Track) (A_l : Option Addr) (c_l : Nat) (l : List TubeNode) (w : World) (h_l : Rd w 6 A_l (l.map TubeNode.c)) (hc_l : l.length ≤ c_l) : Calls Try.prog 46 #[Track.v x, .slice A_l l.length c_l] w (Ret w (.tuple #[.int .i64 ((conform_Late x l).1), .int .i64 ((conform_Late x l).2)])) := by
  have s_l := h_l.short; rw [List.length_map] at s_l
  refine calls_intro (vs := [Track.v x, .slice A_l l.length c_l]) (w := w) Try.func46 rfl Try.ntmps46 rfl ?_
  refine TC.weak [(0, Track.v x), (1, .slice A_l l.length c_l)] (by kernel_rfl) ?_
  refine TC.seq ?_
  refine TC.region ?_
  refine TL.write 0 (fun b1 => [(1, .slice A_l l.length c_l), (2, .pointer (some ⟨b1, 0, none⟩))]) (fun b1 => [.inl (b1, .cells (Track.c x) 33 (0, 0))]) (fun b1 => ⟨by kernel_rfl, by kernel_rfl⟩) (fun b1 => ?_)
  refine TL.run 3 [] [(1, .slice A_l l.length c_l), (2, .pointer (some ⟨b1, 0, none⟩))] rfl ⟨by kernel_rfl, by kernel_rfl⟩ ?_
  refine TL.next rfl ?_
  refine TC.seq ?_
  refine TC.seq ?_
  refine TC.region ?_
  refine TL.run 1 [0] [(1, .slice A_l l.length c_l), (2, .pointer (some ⟨b1, 0, none⟩)), (13, Track.v x)] rfl ⟨by kernel_rfl, by kernel_rfl⟩ ?_
  refine TL.call (some 14) [(1, .slice A_l l.length c_l), (2, .pointer (some ⟨b1, 0, none⟩)), (14, .bool ((conform_permitted x)))] (fun w _ => conform_permitted_w x w) (by kernel_rfl) (by kernel_rfl) ?_
  generalize hr1 : conform_permitted x = r1
  refine TL.run 3 [] [(1, .slice A_l l.length c_l), (2, .pointer (some ⟨b1, 0, none⟩)), (15, .bool (!r1))] rfl ⟨by kernel_rfl, by kernel_rfl⟩ ?_
  refine TL.next rfl ?_
  refine TC.cond (!r1) rfl (by kernel_rfl) (fun h1 => ?_) (fun h1 => ?_)
  · refine TC.seq ?_
    refine TC.region ?_
    refine TL.run 2 [] [(4, .int .i64 0), (5, .int .i64 4)] rfl ⟨by kernel_rfl, by kernel_rfl⟩ ?_
    refine TL.next rfl ?_
    refine TC.ret ?_
    refine TE.ret_then ?_
    have e : conform_Late x l = (0, 4) := by subst hr1; unfold conform_Late; exact cond_t h1 (rfl)
    exact TE.ret [] (.tuple #[.int .i64 0, .int .i64 4]) ⟨by kernel_rfl, by kernel_rfl⟩ (by rw [e]; first | done | kernel_rfl)
  · refine TC.skip ?_
    refine TE.next ?_
    refine TC.seq ?_
    refine TC.seq ?_
    refine TC.region ?_
    refine TL.run 1 [] [(1, .slice A_l l.length c_l), (2, .pointer (some ⟨b1, 0, none⟩)), (16, .slice A_l l.length c_l)] rfl ⟨by kernel_rfl, by kernel_rfl⟩ ?_
    refine TL.call (some 17) [(1, .slice A_l l.length c_l), (2, .pointer (some ⟨b1, 0, none⟩)), (17, .int .i64 (tube_Check l))] (fun w hM => tube_Check_w A_l c_l l w (h_l.sat hM) hc_l) (by kernel_rfl) (by kernel_rfl) ?_
    generalize hr2 : tube_Check l = r2
    refine TL.run 3 [] [(1, .slice A_l l.length c_l), (2, .pointer (some ⟨b1, 0, none⟩)), (6, .int .i64 r2)] rfl ⟨by kernel_rfl, by kernel_rfl⟩ ?_
    refine TL.next rfl ?_
    refine TC.seq ?_
    refine TC.region ?_
    refine TL.run 2 [] [(1, .slice A_l l.length c_l), (2, .pointer (some ⟨b1, 0, none⟩)), (6, .int .i64 r2), (19, .bool (r2 != 0))] rfl ⟨by kernel_rfl, by kernel_rfl⟩ ?_
    refine TL.next rfl ?_
    refine TC.cond (r2 != 0) rfl (by kernel_rfl) (fun h2 => ?_) (fun h2 => ?_)
    · refine TC.seq ?_
      refine TC.region ?_
      refine TL.run 3 [] [(4, .int .i64 0), (5, .int .i64 r2)] rfl ⟨by kernel_rfl, by kernel_rfl⟩ ?_
      refine TL.next rfl ?_
      refine TC.ret ?_
      refine TE.ret_then ?_
      have e : conform_Late x l = (0, r2) := by subst hr1 hr2; unfold conform_Late; exact cond_f h1 (cond_t h2 (rfl))
      exact TE.ret [] (.tuple #[.int .i64 0, .int .i64 r2]) ⟨by kernel_rfl, by kernel_rfl⟩ (by rw [e]; first | done | kernel_rfl)
    · refine TC.skip ?_
      refine TE.next ?_
      refine TC.seq ?_
      refine TC.seq ?_
      refine TC.region ?_
      refine TL.run 1 [] [(1, .slice A_l l.length c_l), (2, .pointer (some ⟨b1, 0, none⟩)), (21, .int .i64 0)] rfl ⟨by kernel_rfl, by kernel_rfl⟩ ?_
      refine TL.next rfl ?_
      refine TC.weak [(1, .slice A_l l.length c_l), (2, .pointer (some ⟨b1, 0, none⟩)), (21, .int .i64 0)] (by kernel_rfl) ?_
      obtain ⟨R1, hR⟩ : ∃ R, R = conform_Late_L1 x l ((601 : Int).toNat) 0 := ⟨_, rfl⟩
      refine TC.cut (S := Unit) (fun (_ : Unit) => []) (fun (_ : Unit) => []) (fun (_ : Unit) => R1 = .inl ()) ?_ ?_
      · refine TC.block ?_
        refine TC.loop (X := Nat) (fun k => [(1, .slice A_l l.length c_l), (2, .pointer (some ⟨b1, 0, none⟩)), (21, .int .i64 (k : Int))]) (fun k => [.inl (b1, .cells (Track.c x) 33 (0, 0))]) (fun k => (601 : Int).toNat - k) (fun k => k ≤ (601 : Int).toNat ∧ R1 = conform_Late_L1 x l ((601 : Int).toNat - k) k) ?_ 0 ⟨Nat.zero_le _, hR⟩
        rintro k ⟨hk, hI⟩
        refine TC.seq ?_
        refine TC.region ?_
        refine TL.run 1 [] [(1, .slice A_l l.length c_l), (2, .pointer (some ⟨b1, 0, none⟩)), (21, .int .i64 (k : Int)), (22, .bool (decide ((k : Int) < 601)))] rfl ⟨by kernel_rfl, by kernel_rfl⟩ ?_
        refine TL.next rfl ?_
        refine TC.seq ?_
        refine TC.cond (decide ((k : Int) < 601)) rfl (by kernel_rfl) (fun h3 => ?_) (fun h3 => ?_)
        · have hlt : k < (601 : Int).toNat := by have := of_decide_eq_true h3; first | omega | (simp at this; omega)
          have hd : (601 : Int).toNat - k = ((601 : Int).toNat - (k + 1)) + 1 := by omega
          refine TC.skip ?_
          refine TE.next ?_
          refine TC.seq ?_
          refine TC.block ?_
          refine TC.seq ?_
          refine TC.region ?_
          refine TL.run 2 [] [(1, .slice A_l l.length c_l), (2, .pointer (some ⟨b1, 0, none⟩)), (7, .int .i64 (k : Int)), (21, .int .i64 (k : Int))] rfl ⟨by kernel_rfl, by kernel_rfl⟩ ?_
          refine TL.next rfl ?_
          refine TC.seq ?_
          refine TC.region ?_
          refine TL.run 3 [] [(1, .slice A_l l.length c_l), (2, .pointer (some ⟨b1, 0, none⟩)), (21, .int .i64 (k : Int)), (24, .int .i64 (k : Int)), (26, .int .i64 (w64 (0 - (k : Int))))] rfl ⟨by kernel_rfl, by kernel_rfl⟩ ?_
          refine TL.write 0 (fun b2 => [(1, .slice A_l l.length c_l), (2, .pointer (some ⟨b1, 0, none⟩)), (21, .int .i64 (k : Int)), (27, .slice (some ⟨b2, 0, none⟩) 2 2)]) (fun b2 => [.inl (b2, .cells #[.int .i64 (k : Int), .int .i64 (w64 (0 - (k : Int)))] 3 (0, 0)), .inl (b1, .cells (Track.c x) 33 (0, 0))]) (fun b2 => ⟨by kernel_rfl, by kernel_rfl⟩) (fun b2 => ?_)
          refine TL.run 6 [] [(1, .slice A_l l.length c_l), (2, .pointer (some ⟨b1, 0, none⟩)), (21, .int .i64 (k : Int)), (27, .slice (some ⟨b2, 0, none⟩) 2 2), (28, .int .i64 2), (29, .int .i64 0)] rfl ⟨by kernel_rfl, by kernel_rfl⟩ ?_
          refine TL.next rfl ?_
          refine TC.conv [.inr (Own (some ⟨b2, 0, none⟩) 2 3 1 (([(k : Int), w64 (0 - (k : Int))] : List Int).map ic)), .inl (b1, .cells (Track.c x) 33 (0, 0))] (fun _ hM => by exact hM.litrow 0 (([(k : Int), w64 (0 - (k : Int))] : List Int).map ic) rfl (by kernel_rfl) (by kernel_rfl) (by kernel_rfl) (by kernel_rfl)) ?_
          refine TC.weak [(1, .slice A_l l.length c_l), (2, .pointer (some ⟨b1, 0, none⟩)), (21, .int .i64 (k : Int)), (27, .slice (some ⟨b2, 0, none⟩) (([(k : Int), w64 (0 - (k : Int))] : List Int).length) 2), (28, .int .i64 2), (29, .int .i64 0)] (by kernel_rfl) ?_
          obtain ⟨R3, hR_2⟩ : ∃ R, R = conform_Late_L2 x l k ((2 : Int).toNat) 0 := ⟨_, rfl⟩
          refine TC.cut (S := Unit) (fun (_ : Unit) => [(1, .slice A_l l.length c_l), (2, .pointer (some ⟨b1, 0, none⟩)), (21, .int .i64 (k : Int))]) (fun (_ : Unit) => [.inl (b1, .cells (Track.c x) 33 (0, 0))]) (fun (_ : Unit) => R3 = .inl ()) ?_ ?_
          · refine TC.block ?_
            refine TC.loop (X := Nat) (fun k_2 => [(1, .slice A_l l.length c_l), (2, .pointer (some ⟨b1, 0, none⟩)), (21, .int .i64 (k : Int)), (27, .slice (some ⟨b2, 0, none⟩) (([(k : Int), w64 (0 - (k : Int))] : List Int).length) 2), (28, .int .i64 2), (29, .int .i64 (k_2 : Int))]) (fun k_2 => [.inr (Own (some ⟨b2, 0, none⟩) 2 3 1 (([(k : Int), w64 (0 - (k : Int))] : List Int).map ic)), .inl (b1, .cells (Track.c x) 33 (0, 0))]) (fun k_2 => (2 : Int).toNat - k_2) (fun k_2 => k_2 ≤ (2 : Int).toNat ∧ R3 = conform_Late_L2 x l k ((2 : Int).toNat - k_2) k_2) ?_ 0 ⟨Nat.zero_le _, hR_2⟩
            rintro k_2 ⟨hk_2, hI_2⟩
            refine TC.seq ?_
            refine TC.region ?_
            refine TL.run 1 [] [(1, .slice A_l l.length c_l), (2, .pointer (some ⟨b1, 0, none⟩)), (21, .int .i64 (k : Int)), (27, .slice (some ⟨b2, 0, none⟩) (([(k : Int), w64 (0 - (k : Int))] : List Int).length) 2), (28, .int .i64 2), (29, .int .i64 (k_2 : Int)), (30, .bool (decide ((k_2 : Int) < 2)))] rfl ⟨by kernel_rfl, by kernel_rfl⟩ ?_
            refine TL.next rfl ?_
            refine TC.seq ?_
            refine TC.cond (decide ((k_2 : Int) < 2)) rfl (by kernel_rfl) (fun h4 => ?_) (fun h4 => ?_)
            · have hlt_2 : k_2 < (2 : Int).toNat := by have := of_decide_eq_true h4; first | omega | (simp at this; omega)
              have hd_2 : (2 : Int).toNat - k_2 = ((2 : Int).toNat - (k_2 + 1)) + 1 := by omega
              refine TC.skip ?_
              refine TE.next ?_
              refine TC.seq ?_
              refine TC.block ?_
              refine TC.seq ?_
              refine TC.region ?_
              refine TL.val (sV (Instr.indexAt 34 (.slice (some ⟨b2, 0, none⟩) (([(k : Int), w64 (0 - (k : Int))] : List Int).length) 2) (.int .i64 (k_2 : Int)))) (some 31) (.pointer (some (((some ⟨b2, 0, none⟩).getD noAddr).add (k_2 * 1)))) [(1, .slice A_l l.length c_l), (2, .pointer (some ⟨b1, 0, none⟩)), (21, .int .i64 (k : Int)), (27, .slice (some ⟨b2, 0, none⟩) (([(k : Int), w64 (0 - (k : Int))] : List Int).length) 2), (28, .int .i64 2), (29, .int .i64 (k_2 : Int)), (31, .pointer (some (((some ⟨b2, 0, none⟩).getD noAddr).add (k_2 * 1))))] (fun w hM => run_index (hM.rd_at 0 rfl) (by simp) (by kernel_rfl) (by have q0_ := (bne_f h2); first | omega | (simp only [List.length_drop]; omega) | (simp only [w64_eq]; omega) | exact (tm_in (by (first | (rw [w64_id (by omega)]; omega) | (simp only [w64_eq]; omega))) (by omega)).1 | exact (tm_in (by (first | (rw [w64_id (by omega)]; omega) | (simp only [w64_eq]; omega))) (by omega)).2.1 | exact (tm_in (by (first | (rw [w64_id (by omega)]; omega) | (simp only [w64_eq]; omega))) (by omega)).2.2 | (simp <;> omega)) (by have q0_ := (bne_f h2); first | omega | (simp only [List.length_drop]; omega) | (simp only [w64_eq]; omega) | exact (tm_in (by (first | (rw [w64_id (by omega)]; omega) | (simp only [w64_eq]; omega))) (by omega)).1 | exact (tm_in (by (first | (rw [w64_id (by omega)]; omega) | (simp only [w64_eq]; omega))) (by omega)).2.1 | exact (tm_in (by (first | (rw [w64_id (by omega)]; omega) | (simp only [w64_eq]; omega))) (by omega)).2.2 | (simp <;> omega))) (by kernel_rfl) (by kernel_rfl) ?_
              refine TL.val (sV (Instr.loadAt 3 (.pointer (some (((some ⟨b2, 0, none⟩).getD noAddr).add (k_2 * 1)))))) (some 32) (.int .i64 (([(k : Int), w64 (0 - (k : Int))] : List Int)[k_2]?.getD 0)) [(1, .slice A_l l.length c_l), (2, .pointer (some ⟨b1, 0, none⟩)), (21, .int .i64 (k : Int)), (27, .slice (some ⟨b2, 0, none⟩) (([(k : Int), w64 (0 - (k : Int))] : List Int).length) 2), (28, .int .i64 2), (29, .int .i64 (k_2 : Int)), (32, .int .i64 (([(k : Int), w64 (0 - (k : Int))] : List Int)[k_2]?.getD 0))] (fun w hM => run_load_one (off := 0) (i := k_2) (.int .i64 (([(k : Int), w64 (0 - (k : Int))] : List Int)[k_2]?.getD 0)) (hM.rd_at 0 rfl) (map_at (getD_at _ _ 0 (by have q0_ := (bne_f h2); first | omega | (simp only [List.length_drop]; omega) | (simp only [w64_eq]; omega) | exact (tm_in (by (first | (rw [w64_id (by omega)]; omega) | (simp only [w64_eq]; omega))) (by omega)).1 | exact (tm_in (by (first | (rw [w64_id (by omega)]; omega) | (simp only [w64_eq]; omega))) (by omega)).2.1 | exact (tm_in (by (first | (rw [w64_id (by omega)]; omega) | (simp only [w64_eq]; omega))) (by omega)).2.2 | (simp <;> omega)))) (by kernel_rfl) (by kernel_rfl)) (by kernel_rfl) (by kernel_rfl) ?_
              refine TL.run 3 [] [(1, .slice A_l l.length c_l), (2, .pointer (some ⟨b1, 0, none⟩)), (9, .int .i64 (([(k : Int), w64 (0 - (k : Int))] : List Int)[k_2]?.getD 0)), (21, .int .i64 (k : Int)), (27, .slice (some ⟨b2, 0, none⟩) (([(k : Int), w64 (0 - (k : Int))] : List Int).length) 2), (28, .int .i64 2), (29, .int .i64 (k_2 : Int))] rfl ⟨by kernel_rfl, by kernel_rfl⟩ ?_
              refine TL.next rfl ?_
              refine TC.seq ?_
              refine TC.region ?_
              refine TL.run 1 [1] [(1, .slice A_l l.length c_l), (2, .pointer (some ⟨b1, 0, none⟩)), (9, .int .i64 (([(k : Int), w64 (0 - (k : Int))] : List Int)[k_2]?.getD 0)), (21, .int .i64 (k : Int)), (27, .slice (some ⟨b2, 0, none⟩) (([(k : Int), w64 (0 - (k : Int))] : List Int).length) 2), (28, .int .i64 2), (29, .int .i64 (k_2 : Int)), (33, Track.v x)] rfl ⟨by kernel_rfl, by kernel_rfl⟩ ?_
              refine TL.write 0 (fun b3 => [(1, .slice A_l l.length c_l), (2, .pointer (some ⟨b1, 0, none⟩)), (9, .int .i64 (([(k : Int), w64 (0 - (k : Int))] : List Int)[k_2]?.getD 0)), (10, .pointer (some ⟨b3, 0, none⟩)), (21, .int .i64 (k : Int)), (27, .slice (some ⟨b2, 0, none⟩) (([(k : Int), w64 (0 - (k : Int))] : List Int).length) 2), (28, .int .i64 2), (29, .int .i64 (k_2 : Int)), (33, Track.v x)]) (fun b3 => [.inl (b3, .cells (Track.c Track.zero) 33 (0, 0)), .inr (Own (some ⟨b2, 0, none⟩) 2 3 1 (([(k : Int), w64 (0 - (k : Int))] : List Int).map ic)), .inl (b1, .cells (Track.c x) 33 (0, 0))]) (fun b3 => ⟨by kernel_rfl, by kernel_rfl⟩) (fun b3 => ?_)
              refine TL.write 0 (fun _ => [(1, .slice A_l l.length c_l), (2, .pointer (some ⟨b1, 0, none⟩)), (9, .int .i64 (([(k : Int), w64 (0 - (k : Int))] : List Int)[k_2]?.getD 0)), (10, .pointer (some ⟨b3, 0, none⟩)), (21, .int .i64 (k : Int)), (27, .slice (some ⟨b2, 0, none⟩) (([(k : Int), w64 (0 - (k : Int))] : List Int).length) 2), (28, .int .i64 2), (29, .int .i64 (k_2 : Int))]) (fun _ => [.inl (b3, .cells (Track.c x) 33 (0, 0)), .inr (Own (some ⟨b2, 0, none⟩) 2 3 1 (([(k : Int), w64 (0 - (k : Int))] : List Int).map ic)), .inl (b1, .cells (Track.c x) 33 (0, 0))]) (fun _ => ⟨by kernel_rfl, by kernel_rfl⟩) (fun _ => ?_)
              refine TL.next rfl ?_
              refine TC.seq ?_
              refine TC.region ?_
              refine TL.run 5 [0] [(1, .slice A_l l.length c_l), (2, .pointer (some ⟨b1, 0, none⟩)), (9, .int .i64 (([(k : Int), w64 (0 - (k : Int))] : List Int)[k_2]?.getD 0)), (10, .pointer (some ⟨b3, 0, none⟩)), (21, .int .i64 (k : Int)), (27, .slice (some ⟨b2, 0, none⟩) (([(k : Int), w64 (0 - (k : Int))] : List Int).length) 2), (28, .int .i64 2), (29, .int .i64 (k_2 : Int)), (37, .int .i64 (w64 (x.Time - (([(k : Int), w64 (0 - (k : Int))] : List Int)[k_2]?.getD 0)))), (38, .pointer (some ⟨b3, 2, none⟩))] rfl ⟨by kernel_rfl, by kernel_rfl⟩ ?_
              refine TL.write 0 (fun _ => [(1, .slice A_l l.length c_l), (2, .pointer (some ⟨b1, 0, none⟩)), (9, .int .i64 (([(k : Int), w64 (0 - (k : Int))] : List Int)[k_2]?.getD 0)), (10, .pointer (some ⟨b3, 0, none⟩)), (21, .int .i64 (k : Int)), (27, .slice (some ⟨b2, 0, none⟩) (([(k : Int), w64 (0 - (k : Int))] : List Int).length) 2), (28, .int .i64 2), (29, .int .i64 (k_2 : Int))]) (fun _ => [.inl (b3, .cells #[.int .i64 x.ID, .int .i64 x.State, .int .i64 (w64 (x.Time - (([(k : Int), w64 (0 - (k : Int))] : List Int)[k_2]?.getD 0))), .int .i64 x.At.X, .int .i64 x.At.Y, .int .i64 x.Speed.X, .int .i64 x.Speed.Y, .int .i64 x.Height, .int .i64 x.Rate, .int .i64 x.Radius, .int .i64 x.Code, .int .i64 x.Hits, .int .i64 x.Misses] 33 (0, 0)), .inr (Own (some ⟨b2, 0, none⟩) 2 3 1 (([(k : Int), w64 (0 - (k : Int))] : List Int).map ic)), .inl (b1, .cells (Track.c x) 33 (0, 0))]) (fun _ => ⟨by kernel_rfl, by kernel_rfl⟩) (fun _ => ?_)
              refine TL.next rfl ?_
              refine TC.seq ?_
              refine TC.region ?_
              refine TL.run 2 [0] [(1, .slice A_l l.length c_l), (2, .pointer (some ⟨b1, 0, none⟩)), (9, .int .i64 (([(k : Int), w64 (0 - (k : Int))] : List Int)[k_2]?.getD 0)), (21, .int .i64 (k : Int)), (27, .slice (some ⟨b2, 0, none⟩) (([(k : Int), w64 (0 - (k : Int))] : List Int).length) 2), (28, .int .i64 2), (29, .int .i64 (k_2 : Int)), (40, .agg #[.int .i64 x.ID, .int .i64 x.State, .int .i64 (w64 (x.Time - (([(k : Int), w64 (0 - (k : Int))] : List Int)[k_2]?.getD 0))), .int .i64 x.At.X, .int .i64 x.At.Y, .int .i64 x.Speed.X, .int .i64 x.Speed.Y, .int .i64 x.Height, .int .i64 x.Rate, .int .i64 x.Radius, .int .i64 x.Code, .int .i64 x.Hits, .int .i64 x.Misses]), (41, .slice A_l l.length c_l)] rfl ⟨by kernel_rfl, by kernel_rfl⟩ ?_
              refine TL.call (some 42) [(1, .slice A_l l.length c_l), (2, .pointer (some ⟨b1, 0, none⟩)), (9, .int .i64 (([(k : Int), w64 (0 - (k : Int))] : List Int)[k_2]?.getD 0)), (21, .int .i64 (k : Int)), (27, .slice (some ⟨b2, 0, none⟩) (([(k : Int), w64 (0 - (k : Int))] : List Int).length) 2), (28, .int .i64 2), (29, .int .i64 (k_2 : Int)), (42, .tuple #[.int .i64 ((conform_Compare (⟨x.ID, x.State, w64 (x.Time - (([(k : Int), w64 (0 - (k : Int))] : List Int)[k_2]?.getD 0)), x.At, x.Speed, x.Height, x.Rate, x.Radius, x.Code, x.Hits, x.Misses⟩ : Track) l).1), .int .i64 ((conform_Compare (⟨x.ID, x.State, w64 (x.Time - (([(k : Int), w64 (0 - (k : Int))] : List Int)[k_2]?.getD 0)), x.At, x.Speed, x.Height, x.Rate, x.Radius, x.Code, x.Hits, x.Misses⟩ : Track) l).2)])] (fun w hM => conform_Compare_w (⟨x.ID, x.State, w64 (x.Time - (([(k : Int), w64 (0 - (k : Int))] : List Int)[k_2]?.getD 0)), x.At, x.Speed, x.Height, x.Rate, x.Radius, x.Code, x.Hits, x.Misses⟩ : Track) A_l c_l l w (h_l.sat hM) hc_l) (by kernel_rfl) (by kernel_rfl) ?_
              generalize hr3 : conform_Compare (⟨x.ID, x.State, w64 (x.Time - (([(k : Int), w64 (0 - (k : Int))] : List Int)[k_2]?.getD 0)), x.At, x.Speed, x.Height, x.Rate, x.Radius, x.Code, x.Hits, x.Misses⟩ : Track) l = r3
              refine TL.run 8 [] [(1, .slice A_l l.length c_l), (2, .pointer (some ⟨b1, 0, none⟩)), (9, .int .i64 (([(k : Int), w64 (0 - (k : Int))] : List Int)[k_2]?.getD 0)), (11, .int .i64 r3.1), (12, .int .i64 r3.2), (21, .int .i64 (k : Int)), (27, .slice (some ⟨b2, 0, none⟩) (([(k : Int), w64 (0 - (k : Int))] : List Int).length) 2), (28, .int .i64 2), (29, .int .i64 (k_2 : Int))] rfl ⟨by kernel_rfl, by kernel_rfl⟩ ?_
              refine TL.next rfl ?_
              refine TC.seq ?_
              refine TC.region ?_
              refine TL.run 3 [] [(1, .slice A_l l.length c_l), (2, .pointer (some ⟨b1, 0, none⟩)), (9, .int .i64 (([(k : Int), w64 (0 - (k : Int))] : List Int)[k_2]?.getD 0)), (11, .int .i64 r3.1), (21, .int .i64 (k : Int)), (27, .slice (some ⟨b2, 0, none⟩) (([(k : Int), w64 (0 - (k : Int))] : List Int).length) 2), (28, .int .i64 2), (29, .int .i64 (k_2 : Int)), (47, .bool (r3.2 == 0))] rfl ⟨by kernel_rfl, by kernel_rfl⟩ ?_
              refine TL.join 47 (r3.2 == 0) 6 [] [] (fun β => [(1, .slice A_l l.length c_l), (2, .pointer (some ⟨b1, 0, none⟩)), (9, .int .i64 (([(k : Int), w64 (0 - (k : Int))] : List Int)[k_2]?.getD 0)), (21, .int .i64 (k : Int)), (27, .slice (some ⟨b2, 0, none⟩) (([(k : Int), w64 (0 - (k : Int))] : List Int).length) 2), (28, .int .i64 2), (29, .int .i64 (k_2 : Int)), (50, .bool (β && (decide (r3.1 < 2))))]) (by kernel_rfl) rfl ⟨by kernel_rfl, by kernel_rfl⟩ ⟨by kernel_rfl, by kernel_rfl⟩ ?_
              refine TL.next rfl ?_
              refine TC.cond ((r3.2 == 0) && (decide (r3.1 < 2))) rfl (by kernel_rfl) (fun h5 => ?_) (fun h5 => ?_)
              · refine TC.seq ?_
                refine TC.region ?_
                refine TL.run 3 [] [(4, .int .i64 (([(k : Int), w64 (0 - (k : Int))] : List Int)[k_2]?.getD 0)), (5, .int .i64 0)] rfl ⟨by kernel_rfl, by kernel_rfl⟩ ?_
                refine TL.next rfl ?_
                refine TC.ret ?_
                refine TE.ret_block (TE.ret_then (TE.ret_then (TE.ret_block (TE.ret_then (TE.ret_block (TE.ret_then (TE.ret_then (TE.ret_block (TE.ret_then (TE.ret_then ?_))))))))))
                have e : conform_Late x l = ((([(k : Int), w64 (0 - (k : Int))] : List Int)[k_2]?.getD 0), 0) := by subst hr1 hr2 hr3; unfold conform_Late; exact cond_f h1 (cond_f h2 (elim_r (hR.symm.trans (hI.trans (by rw [hd]; exact elim_r (hR_2.symm.trans (hI_2.trans (by rw [hd_2]; exact cond_t h5 (rfl)))) rfl))) rfl))
                exact TE.ret [] (.tuple #[.int .i64 (([(k : Int), w64 (0 - (k : Int))] : List Int)[k_2]?.getD 0), .int .i64 0]) ⟨by kernel_rfl, by kernel_rfl⟩ (by rw [e]; first | done | kernel_rfl)
              · refine TC.skip ?_
                refine TE.normal_block ?_
                refine TE.next ?_
                refine TC.region ?_
                refine TL.run 2 [] [(1, .slice A_l l.length c_l), (2, .pointer (some ⟨b1, 0, none⟩)), (21, .int .i64 (k : Int)), (27, .slice (some ⟨b2, 0, none⟩) (([(k : Int), w64 (0 - (k : Int))] : List Int).length) 2), (28, .int .i64 2), (29, .int .i64 (w64 ((k_2 : Int) + 1)))] rfl ⟨by kernel_rfl, by kernel_rfl⟩ ?_
                refine TL.done rfl ?_
                refine TE.rw 29 (.int .i64 (w64 ((k_2 : Int) + 1))) (.int .i64 ((k_2 + 1 : Nat) : Int)) (by kernel_rfl) (w64_cast k_2 (by omega)) ?_
                exact TE.again (x := k_2) (k_2 + 1) ⟨by omega, hI_2.trans (by subst hr1 hr2 hr3; rw [hd_2]; exact cond_f h5 (rfl))⟩ (by show (2 : Int).toNat - (k_2 + 1) < (2 : Int).toNat - k_2; omega) (by kernel_rfl) (.cons _ (.cons_cons _ (.cons_cons _ (.slnil))))
            · have hd_2 : (2 : Int).toNat - k_2 = 0 := by have := of_decide_eq_false h4; first | omega | (simp at this; omega)
              refine TC.exit ?_
              refine TE.exit_then (TE.exit_then (TE.exit_same ?_))
              exact TE.cut () (hI_2.trans (by subst hr1 hr2; rw [hd_2]; exact rfl)) (by kernel_rfl) (.cons _ (.cons_cons _ (.slnil)))
          · intro _ hJ_2
            refine TE.normal_block ?_
            refine TE.next ?_
            refine TC.region ?_
            refine TL.run 2 [] [(1, .slice A_l l.length c_l), (2, .pointer (some ⟨b1, 0, none⟩)), (21, .int .i64 (w64 ((k : Int) + 1)))] rfl ⟨by kernel_rfl, by kernel_rfl⟩ ?_
            refine TL.done rfl ?_
            refine TE.rw 21 (.int .i64 (w64 ((k : Int) + 1))) (.int .i64 ((k + 1 : Nat) : Int)) (by kernel_rfl) (w64_cast k (by omega)) ?_
            exact TE.again (x := k) (k + 1) ⟨by omega, hI.trans (by subst hr1 hr2; rw [hd]; exact elim_l (hR_2.symm.trans hJ_2) (rfl))⟩ (by show (601 : Int).toNat - (k + 1) < (601 : Int).toNat - k; omega) (by kernel_rfl) (.cons_cons _ (.slnil))
        · have hd : (601 : Int).toNat - k = 0 := by have := of_decide_eq_false h3; first | omega | (simp at this; omega)
          refine TC.exit ?_
          refine TE.exit_then (TE.exit_then (TE.exit_same ?_))
          exact TE.cut () (hI.trans (by subst hr1 hr2; rw [hd]; exact rfl)) (by kernel_rfl) (.cons _ (.slnil))
      · intro _ hJ
        refine TE.next ?_
        refine TC.seq ?_
        refine TC.region ?_
        refine TL.run 2 [] [(4, .int .i64 0), (5, .int .i64 8)] rfl ⟨by kernel_rfl, by kernel_rfl⟩ ?_
        refine TL.next rfl ?_
        refine TC.ret ?_
        have e : conform_Late x l = (0, 8) := by subst hr1 hr2; unfold conform_Late; exact cond_f h1 (cond_f h2 (elim_l (hR.symm.trans hJ) (rfl)))
        exact TE.ret [] (.tuple #[.int .i64 0, .int .i64 8]) ⟨by kernel_rfl, by kernel_rfl⟩ (by rw [e]; first | done | kernel_rfl)

end Go.Sky
