/- Functions of the program, each with the Lean function that it computes. Conditions: none. -/
import Derived.Test.YtkjdmkgacmkpjaaUb
import Derived.Test.YtkjdmkgacmkpjaaThick
namespace Go.Sky
open Go Go.Eng Go.Proofs
def skywaykeep2_line (radius : Int) (band : Int) : List TubeNode :=
  [(⟨⟨0, ⟨0, 0⟩, 5000⟩, radius, band⟩ : TubeNode), (⟨⟨100, ⟨20000, 0⟩, 5000⟩, radius, band⟩ : TubeNode)]

set_option maxRecDepth 100000 in
theorem skywaykeep2_line_w (radius : Int) (band : Int) (w : World) : Calls Try.prog 43 #[.int .i64 radius, .int .i64 band] w (RetM (Γ := (Option Addr × Nat)) (cx w) (fun g => .slice g.1 ((skywaykeep2_line radius band).length) g.2) (fun g => [.inr (Own g.1 g.2 97 6 ((skywaykeep2_line radius band).map TubeNode.c))])) := by
  refine calls_intro (vs := [.int .i64 radius, .int .i64 band]) (w := w) Try.func43 rfl Try.ntmps43 rfl ?_
  refine TC.weak [(0, .int .i64 radius), (1, .int .i64 band)] (by kernel_rfl) ?_
  refine TC.seq ?_
  refine TC.region ?_
  refine TL.run 1 [] [(0, .int .i64 radius), (1, .int .i64 band)] rfl ⟨by kernel_rfl, by kernel_rfl⟩ ?_
  refine TL.next rfl ?_
  refine TC.seq ?_
  refine TC.region ?_
  refine TL.run 9 [] [(8, .agg #[.int .i64 0, .int .i64 0, .int .i64 0, .int .i64 5000, .int .i64 radius, .int .i64 band]), (13, .agg #[.int .i64 100, .int .i64 20000, .int .i64 0, .int .i64 5000, .int .i64 radius, .int .i64 band])] rfl ⟨by kernel_rfl, by kernel_rfl⟩ ?_
  refine TL.write 0 (fun b1 => [(14, .slice (some ⟨b1, 0, none⟩) 2 2)]) (fun b1 => [.inl (b1, .cells #[.int .i64 0, .int .i64 0, .int .i64 0, .int .i64 5000, .int .i64 radius, .int .i64 band, .int .i64 100, .int .i64 20000, .int .i64 0, .int .i64 5000, .int .i64 radius, .int .i64 band] 97 (0, 0))]) (fun b1 => ⟨by kernel_rfl, by kernel_rfl⟩) (fun b1 => ?_)
  refine TL.run 11 [] [(4, .slice (some ⟨b1, 0, none⟩) 2 2)] rfl ⟨by kernel_rfl, by kernel_rfl⟩ ?_
  refine TL.next rfl ?_
  refine TC.ret ?_
  have e : skywaykeep2_line radius band = ([(⟨⟨0, ⟨0, 0⟩, 5000⟩, radius, band⟩ : TubeNode), (⟨⟨100, ⟨20000, 0⟩, 5000⟩, radius, band⟩ : TubeNode)]) := by unfold skywaykeep2_line; exact rfl
  refine TE.conv [.inr (Own (some ⟨b1, 0, none⟩) 2 97 6 (([(⟨⟨0, ⟨0, 0⟩, 5000⟩, radius, band⟩ : TubeNode), (⟨⟨100, ⟨20000, 0⟩, 5000⟩, radius, band⟩ : TubeNode)] : List TubeNode).map TubeNode.c))] (fun _ hM => by exact hM.litrow 0 (([(⟨⟨0, ⟨0, 0⟩, 5000⟩, radius, band⟩ : TubeNode), (⟨⟨100, ⟨20000, 0⟩, 5000⟩, radius, band⟩ : TubeNode)] : List TubeNode).map TubeNode.c) rfl (by kernel_rfl) (by kernel_rfl) (by kernel_rfl) (by kernel_rfl)) ?_
  rw [e]
  exact TE.retM (.inl rfl) ((some ⟨b1, 0, none⟩), 2) [] (.slice (some ⟨b1, 0, none⟩) 2 2) ⟨by kernel_rfl, by kernel_rfl⟩ rfl (fun _ hM => hM.sub (.cons_cons _ (.slnil)))

def pair_fits (t : Track) (l : List TubeNode) : TubeNode × Bool :=
  let r1 := tube_At l t.Time
  cond (r1.2 == 0) (
    let r2 := plane_Within r1.1.Node.At t.At (w64 (r1.1.Radius + t.Radius))
    (r1.1, r2 && (decide ((imax (w64 (r1.1.Node.Height - t.Height)) (w64 (t.Height - r1.1.Node.Height))) ≤ (w64 (r1.1.Band + 100)))))) (
    (r1.1, false))

set_option maxRecDepth 100000 in
theorem pair_fits_w (t : Track) (A_l : Option Addr) (c_l : Nat) (l : List TubeNode) (w : World) (h_l : Rd w 6 A_l (l.map TubeNode.c)) (hc_l : l.length ≤ c_l) : Calls Try.prog 81 #[Track.v t, .slice A_l l.length c_l] w (Ret w (.tuple #[TubeNode.v ((pair_fits t l).1), .bool ((pair_fits t l).2)])) := by
  have s_l := h_l.short; rw [List.length_map] at s_l
  refine calls_intro (vs := [Track.v t, .slice A_l l.length c_l]) (w := w) Try.func81 rfl Try.ntmps81 rfl ?_
  refine TC.weak [(0, Track.v t), (1, .slice A_l l.length c_l)] (by kernel_rfl) ?_
  refine TC.seq ?_
  refine TC.region ?_
  refine TL.write 0 (fun b1 => [(1, .slice A_l l.length c_l), (2, .pointer (some ⟨b1, 0, none⟩))]) (fun b1 => [.inl (b1, .cells (Track.c t) 25 (0, 0))]) (fun b1 => ⟨by kernel_rfl, by kernel_rfl⟩) (fun b1 => ?_)
  refine TL.write 0 (fun b2 => [(1, .slice A_l l.length c_l), (2, .pointer (some ⟨b1, 0, none⟩)), (4, .pointer (some ⟨b2, 0, none⟩))]) (fun b2 => [.inl (b2, .cells (TubeNode.c TubeNode.zero) 97 (0, 0)), .inl (b1, .cells (Track.c t) 25 (0, 0))]) (fun b2 => ⟨by kernel_rfl, by kernel_rfl⟩) (fun b2 => ?_)
  refine TL.run 3 [] [(1, .slice A_l l.length c_l), (2, .pointer (some ⟨b1, 0, none⟩)), (4, .pointer (some ⟨b2, 0, none⟩))] rfl ⟨by kernel_rfl, by kernel_rfl⟩ ?_
  refine TL.next rfl ?_
  refine TC.seq ?_
  refine TC.region ?_
  refine TL.run 3 [1] [(2, .pointer (some ⟨b1, 0, none⟩)), (4, .pointer (some ⟨b2, 0, none⟩)), (9, .slice A_l l.length c_l), (11, .int .i64 t.Time)] rfl ⟨by kernel_rfl, by kernel_rfl⟩ ?_
  refine TL.call (some 12) [(2, .pointer (some ⟨b1, 0, none⟩)), (4, .pointer (some ⟨b2, 0, none⟩)), (12, .tuple #[TubeNode.v ((tube_At l t.Time).1), .int .i64 ((tube_At l t.Time).2)])] (fun w hM => tube_At_w A_l c_l l t.Time w (h_l.sat hM) hc_l) (by kernel_rfl) (by kernel_rfl) ?_
  generalize hr1 : tube_At l t.Time = r1
  refine TL.run 7 [] [(2, .pointer (some ⟨b1, 0, none⟩)), (4, .pointer (some ⟨b2, 0, none⟩)), (13, TubeNode.v r1.1), (14, .int .i64 r1.2)] rfl ⟨by kernel_rfl, by kernel_rfl⟩ ?_
  refine TL.write 0 (fun b3 => [(2, .pointer (some ⟨b1, 0, none⟩)), (4, .pointer (some ⟨b2, 0, none⟩)), (6, .pointer (some ⟨b3, 0, none⟩)), (13, TubeNode.v r1.1), (14, .int .i64 r1.2)]) (fun b3 => [.inl (b3, .cells (TubeNode.c TubeNode.zero) 97 (0, 0)), .inl (b2, .cells (TubeNode.c TubeNode.zero) 97 (0, 0)), .inl (b1, .cells (Track.c t) 25 (0, 0))]) (fun b3 => ⟨by kernel_rfl, by kernel_rfl⟩) (fun b3 => ?_)
  refine TL.write 0 (fun _ => [(2, .pointer (some ⟨b1, 0, none⟩)), (4, .pointer (some ⟨b2, 0, none⟩)), (6, .pointer (some ⟨b3, 0, none⟩)), (14, .int .i64 r1.2)]) (fun _ => [.inl (b3, .cells (TubeNode.c r1.1) 97 (0, 0)), .inl (b2, .cells (TubeNode.c TubeNode.zero) 97 (0, 0)), .inl (b1, .cells (Track.c t) 25 (0, 0))]) (fun _ => ⟨by kernel_rfl, by kernel_rfl⟩) (fun _ => ?_)
  refine TL.run 10 [] [(2, .pointer (some ⟨b1, 0, none⟩)), (4, .pointer (some ⟨b2, 0, none⟩)), (6, .pointer (some ⟨b3, 0, none⟩)), (7, .int .i64 r1.2)] rfl ⟨by kernel_rfl, by kernel_rfl⟩ ?_
  refine TL.next rfl ?_
  refine TC.seq ?_
  refine TC.drawG 35 [.inl (b3, .cells (TubeNode.c r1.1) 97 (0, 0)), .inl (b1, .cells (Track.c t) 25 (0, 0))] [.inl (b3, .cells (TubeNode.c r1.1) 97 (0, 0)), .inl (b2, .cells (TubeNode.c r1.1) 97 (0, 0)), .inl (b1, .cells (Track.c t) 25 (0, 0))] (.cons_cons _ (.cons _ (.cons_cons _ (.slnil)))) (.cons_cons _ (.cons _ (.cons_cons _ (.slnil)))) (by kernel_rfl) (by kernel_rfl) ?_
  refine TG.run 4 [0] [(2, .pointer (some ⟨b1, 0, none⟩)), (4, .pointer (some ⟨b2, 0, none⟩)), (6, .pointer (some ⟨b3, 0, none⟩)), (15, TubeNode.v r1.1), (18, .bool (r1.2 == 0))] rfl rfl rfl ⟨by kernel_rfl, by kernel_rfl⟩ ?_
  refine TG.split 18 (r1.2 == 0) (by kernel_rfl) (fun h1 => ?_) (fun h1 => ?_)
  · refine TG.run 14 [0, 1, 0, 1] [(2, .pointer (some ⟨b1, 0, none⟩)), (4, .pointer (some ⟨b2, 0, none⟩)), (6, .pointer (some ⟨b3, 0, none⟩)), (15, TubeNode.v r1.1), (18, .bool true), (21, P.v r1.1.Node.At), (23, P.v t.At), (28, .int .i64 (w64 (r1.1.Radius + t.Radius)))] rfl rfl rfl ⟨by kernel_rfl, by kernel_rfl⟩ ?_
    refine TG.call (some 29) [(2, .pointer (some ⟨b1, 0, none⟩)), (4, .pointer (some ⟨b2, 0, none⟩)), (6, .pointer (some ⟨b3, 0, none⟩)), (15, TubeNode.v r1.1), (18, .bool true), (29, .bool ((plane_Within r1.1.Node.At t.At (w64 (r1.1.Radius + t.Radius)))))] (fun w _ => plane_Within_w r1.1.Node.At t.At (w64 (r1.1.Radius + t.Radius)) w) rfl (by kernel_rfl) (by kernel_rfl) ?_
    generalize hr2 : plane_Within r1.1.Node.At t.At (w64 (r1.1.Radius + t.Radius)) = r2
    refine TG.run 17 [] [(2, .pointer (some ⟨b1, 0, none⟩)), (4, .pointer (some ⟨b2, 0, none⟩)), (6, .pointer (some ⟨b3, 0, none⟩)), (15, TubeNode.v r1.1), (31, .bool r2)] rfl rfl rfl ⟨by kernel_rfl, by kernel_rfl⟩ ?_
    refine TG.join 31 r2 35 [0, 1, 1, 0, 0] [] (fun β => [(4, .pointer (some ⟨b2, 0, none⟩)), (15, TubeNode.v r1.1), (49, .bool (β && (decide ((imax (w64 (r1.1.Node.Height - t.Height)) (w64 (t.Height - r1.1.Node.Height))) ≤ (w64 (r1.1.Band + 100))))))]) (by kernel_rfl) rfl rfl rfl ⟨by kernel_rfl, by kernel_rfl⟩ ⟨by kernel_rfl, by kernel_rfl⟩ ?_
    refine TG.store 1 rfl (fun _ => ⟨by kernel_rfl, by kernel_rfl⟩) ?_
    refine TG.run 37 [] [(4, .pointer (some ⟨b2, 0, none⟩)), (5, .bool (r2 && (decide ((imax (w64 (r1.1.Node.Height - t.Height)) (w64 (t.Height - r1.1.Node.Height))) ≤ (w64 (r1.1.Band + 100))))))] rfl rfl rfl ⟨by kernel_rfl, by kernel_rfl⟩ ?_
    refine TG.next rfl rfl ?_
    refine TC.ret ?_
    have e : pair_fits t l = (r1.1, r2 && (decide ((imax (w64 (r1.1.Node.Height - t.Height)) (w64 (t.Height - r1.1.Node.Height))) ≤ (w64 (r1.1.Band + 100))))) := by subst hr1 hr2; unfold pair_fits; exact cond_t h1 (rfl)
    exact TE.ret [1] (.tuple #[TubeNode.v r1.1, .bool (r2 && (decide ((imax (w64 (r1.1.Node.Height - t.Height)) (w64 (t.Height - r1.1.Node.Height))) ≤ (w64 (r1.1.Band + 100)))))]) ⟨by kernel_rfl, by kernel_rfl⟩ (by rw [e]; first | done | kernel_rfl)
  · refine TG.run 35 [] [(4, .pointer (some ⟨b2, 0, none⟩)), (15, TubeNode.v r1.1), (49, .bool false)] rfl rfl rfl ⟨by kernel_rfl, by kernel_rfl⟩ ?_
    refine TG.store 1 rfl (fun _ => ⟨by kernel_rfl, by kernel_rfl⟩) ?_
    refine TG.run 37 [] [(4, .pointer (some ⟨b2, 0, none⟩)), (5, .bool false)] rfl rfl rfl ⟨by kernel_rfl, by kernel_rfl⟩ ?_
    refine TG.next rfl rfl ?_
    refine TC.ret ?_
    have e : pair_fits t l = (r1.1, false) := by subst hr1; unfold pair_fits; exact cond_f h1 (rfl)
    exact TE.ret [1] (.tuple #[TubeNode.v r1.1, .bool false]) ⟨by kernel_rfl, by kernel_rfl⟩ (by rw [e]; first | done | kernel_rfl)

def pair_Fits (t : Track) (l : List TubeNode) : Bool × Int :=
  let r1 := gate_CheckTrack t
  cond (r1 != 0) (
    (false, r1)) (
    let r2 := tube_Check l
    cond (r2 != 0) (
      (false, r2)) (
      let r3 := pair_fits t l
      (r3.2, 0)))

set_option maxRecDepth 100000 in
theorem pair_Fits_w (t : Track) (A_l : Option Addr) (c_l : Nat) (l : List TubeNode) (w : World) (h_l : Rd w 6 A_l (l.map TubeNode.c)) (hc_l : l.length ≤ c_l) : Calls Try.prog 45 #[Track.v t, .slice A_l l.length c_l] w (Ret w (.tuple #[.bool ((pair_Fits t l).1), .int .i64 ((pair_Fits t l).2)])) := by
  have s_l := h_l.short; rw [List.length_map] at s_l
  refine calls_intro (vs := [Track.v t, .slice A_l l.length c_l]) (w := w) Try.func45 rfl Try.ntmps45 rfl ?_
  refine TC.weak [(0, Track.v t), (1, .slice A_l l.length c_l)] (by kernel_rfl) ?_
  refine TC.seq ?_
  refine TC.region ?_
  refine TL.write 0 (fun b1 => [(1, .slice A_l l.length c_l), (2, .pointer (some ⟨b1, 0, none⟩))]) (fun b1 => [.inl (b1, .cells (Track.c t) 25 (0, 0))]) (fun b1 => ⟨by kernel_rfl, by kernel_rfl⟩) (fun b1 => ?_)
  refine TL.run 3 [] [(1, .slice A_l l.length c_l), (2, .pointer (some ⟨b1, 0, none⟩))] rfl ⟨by kernel_rfl, by kernel_rfl⟩ ?_
  refine TL.next rfl ?_
  refine TC.seq ?_
  refine TC.seq ?_
  refine TC.region ?_
  refine TL.run 1 [0] [(1, .slice A_l l.length c_l), (2, .pointer (some ⟨b1, 0, none⟩)), (10, Track.v t)] rfl ⟨by kernel_rfl, by kernel_rfl⟩ ?_
  refine TL.call (some 11) [(1, .slice A_l l.length c_l), (2, .pointer (some ⟨b1, 0, none⟩)), (11, .int .i64 (gate_CheckTrack t))] (fun w _ => gate_CheckTrack_w t w) (by kernel_rfl) (by kernel_rfl) ?_
  generalize hr1 : gate_CheckTrack t = r1
  refine TL.run 3 [] [(1, .slice A_l l.length c_l), (2, .pointer (some ⟨b1, 0, none⟩)), (6, .int .i64 r1)] rfl ⟨by kernel_rfl, by kernel_rfl⟩ ?_
  refine TL.next rfl ?_
  refine TC.seq ?_
  refine TC.region ?_
  refine TL.run 2 [] [(1, .slice A_l l.length c_l), (2, .pointer (some ⟨b1, 0, none⟩)), (6, .int .i64 r1), (13, .bool (r1 != 0))] rfl ⟨by kernel_rfl, by kernel_rfl⟩ ?_
  refine TL.next rfl ?_
  refine TC.cond (r1 != 0) rfl (by kernel_rfl) (fun h1 => ?_) (fun h1 => ?_)
  · refine TC.seq ?_
    refine TC.region ?_
    refine TL.run 3 [] [(4, .bool false), (5, .int .i64 r1)] rfl ⟨by kernel_rfl, by kernel_rfl⟩ ?_
    refine TL.next rfl ?_
    refine TC.ret ?_
    refine TE.ret_then ?_
    have e : pair_Fits t l = (false, r1) := by subst hr1; unfold pair_Fits; exact cond_t h1 (rfl)
    exact TE.ret [] (.tuple #[.bool false, .int .i64 r1]) ⟨by kernel_rfl, by kernel_rfl⟩ (by rw [e]; first | done | kernel_rfl)
  · refine TC.skip ?_
    refine TE.next ?_
    refine TC.seq ?_
    refine TC.seq ?_
    refine TC.region ?_
    refine TL.run 1 [] [(1, .slice A_l l.length c_l), (2, .pointer (some ⟨b1, 0, none⟩)), (15, .slice A_l l.length c_l)] rfl ⟨by kernel_rfl, by kernel_rfl⟩ ?_
    refine TL.call (some 16) [(1, .slice A_l l.length c_l), (2, .pointer (some ⟨b1, 0, none⟩)), (16, .int .i64 (tube_Check l))] (fun w hM => tube_Check_w A_l c_l l w (h_l.sat hM) hc_l) (by kernel_rfl) (by kernel_rfl) ?_
    generalize hr2 : tube_Check l = r2
    refine TL.run 3 [] [(1, .slice A_l l.length c_l), (2, .pointer (some ⟨b1, 0, none⟩)), (7, .int .i64 r2)] rfl ⟨by kernel_rfl, by kernel_rfl⟩ ?_
    refine TL.next rfl ?_
    refine TC.seq ?_
    refine TC.region ?_
    refine TL.run 2 [] [(1, .slice A_l l.length c_l), (2, .pointer (some ⟨b1, 0, none⟩)), (7, .int .i64 r2), (18, .bool (r2 != 0))] rfl ⟨by kernel_rfl, by kernel_rfl⟩ ?_
    refine TL.next rfl ?_
    refine TC.cond (r2 != 0) rfl (by kernel_rfl) (fun h2 => ?_) (fun h2 => ?_)
    · refine TC.seq ?_
      refine TC.region ?_
      refine TL.run 3 [] [(4, .bool false), (5, .int .i64 r2)] rfl ⟨by kernel_rfl, by kernel_rfl⟩ ?_
      refine TL.next rfl ?_
      refine TC.ret ?_
      refine TE.ret_then ?_
      have e : pair_Fits t l = (false, r2) := by subst hr1 hr2; unfold pair_Fits; exact cond_f h1 (cond_t h2 (rfl))
      exact TE.ret [] (.tuple #[.bool false, .int .i64 r2]) ⟨by kernel_rfl, by kernel_rfl⟩ (by rw [e]; first | done | kernel_rfl)
    · refine TC.skip ?_
      refine TE.next ?_
      refine TC.seq ?_
      refine TC.region ?_
      refine TL.run 2 [0] [(21, Track.v t), (22, .slice A_l l.length c_l)] rfl ⟨by kernel_rfl, by kernel_rfl⟩ ?_
      refine TL.call (some 23) [(23, .tuple #[TubeNode.v ((pair_fits t l).1), .bool ((pair_fits t l).2)])] (fun w hM => pair_fits_w t A_l c_l l w (h_l.sat hM) hc_l) (by kernel_rfl) (by kernel_rfl) ?_
      generalize hr3 : pair_fits t l = r3
      refine TL.run 6 [] [(24, TubeNode.v r3.1), (25, .bool r3.2)] rfl ⟨by kernel_rfl, by kernel_rfl⟩ ?_
      refine TL.write 0 (fun b2 => [(8, .pointer (some ⟨b2, 0, none⟩)), (24, TubeNode.v r3.1), (25, .bool r3.2)]) (fun b2 => [.inl (b2, .cells (TubeNode.c TubeNode.zero) 97 (0, 0)), .inl (b1, .cells (Track.c t) 25 (0, 0))]) (fun b2 => ⟨by kernel_rfl, by kernel_rfl⟩) (fun b2 => ?_)
      refine TL.write 0 (fun _ => [(25, .bool r3.2)]) (fun _ => [.inl (b2, .cells (TubeNode.c r3.1) 97 (0, 0)), .inl (b1, .cells (Track.c t) 25 (0, 0))]) (fun _ => ⟨by kernel_rfl, by kernel_rfl⟩) (fun _ => ?_)
      refine TL.run 9 [] [(9, .bool r3.2)] rfl ⟨by kernel_rfl, by kernel_rfl⟩ ?_
      refine TL.next rfl ?_
      refine TC.seq ?_
      refine TC.region ?_
      refine TL.run 3 [] [(4, .bool r3.2), (5, .int .i64 0)] rfl ⟨by kernel_rfl, by kernel_rfl⟩ ?_
      refine TL.next rfl ?_
      refine TC.ret ?_
      have e : pair_Fits t l = (r3.2, 0) := by subst hr1 hr2 hr3; unfold pair_Fits; exact cond_f h1 (cond_f h2 (rfl))
      exact TE.ret [] (.tuple #[.bool r3.2, .int .i64 0]) ⟨by kernel_rfl, by kernel_rfl⟩ (by rw [e]; first | done | kernel_rfl)

end Go.Sky
