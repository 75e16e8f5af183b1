/- Functions of the program, each with the Lean function that it computes. Conditions: none. -/
import Derived.Test.YtfjchccilkgcnaaSa
namespace Go.Sky
open Go Go.Eng Go.Proofs
def radar_out (n : Int) (low : Int) (high : Int) : Bool :=
  (decide (n < low)) || (decide (n > high))

set_option maxRecDepth 100000 in
theorem radar_out_w (n : Int) (low : Int) (high : Int) (w : World) : Calls Try.prog 63 #[.int .i64 n, .int .i64 low, .int .i64 high] w (Ret w (.bool (radar_out n low high))) := by
  refine calls_intro (vs := [.int .i64 n, .int .i64 low, .int .i64 high]) (w := w) Try.func63 rfl Try.ntmps63 rfl ?_
  refine TC.weak [(0, .int .i64 n), (1, .int .i64 low), (2, .int .i64 high)] (by kernel_rfl) ?_
  refine TC.seq ?_
  refine TC.region ?_
  refine TL.run 1 [] [(0, .int .i64 n), (1, .int .i64 low), (2, .int .i64 high)] rfl ⟨by kernel_rfl, by kernel_rfl⟩ ?_
  refine TL.next rfl ?_
  refine TC.seq ?_
  refine TC.region ?_
  refine TL.run 4 [] [(0, .int .i64 n), (2, .int .i64 high), (10, .bool (decide (n < low)))] rfl ⟨by kernel_rfl, by kernel_rfl⟩ ?_
  refine TL.join 10 (decide (n < low)) 8 [] [] (fun β => [(14, .bool (β || (decide (n > high))))]) (by kernel_rfl) rfl ⟨by kernel_rfl, by kernel_rfl⟩ ⟨by kernel_rfl, by kernel_rfl⟩ ?_
  refine TL.run 9 [] [(6, .bool ((decide (n < low)) || (decide (n > high))))] rfl ⟨by kernel_rfl, by kernel_rfl⟩ ?_
  refine TL.next rfl ?_
  refine TC.ret ?_
  have e : radar_out n low high = ((decide (n < low)) || (decide (n > high))) := by unfold radar_out; exact rfl
  exact TE.ret [] (.bool ((decide (n < low)) || (decide (n > high)))) ⟨by kernel_rfl, by kernel_rfl⟩ (by rw [e]; first | done | kernel_rfl)

def radar_CheckPlot (p : Plot) : Int :=
  let r1 := radar_out p.Radar 0 255
  cond r1 (
    4) (
    let r2 := radar_out p.Time 0 200000
    cond r2 (
      4) (
      let r3 := radar_out p.Range 0 2000000
      cond r3 (
        4) (
        let r4 := radar_out p.Azimuth 0 4095
        cond r4 (
          4) (
          let r5 := radar_out p.Height 0 60000
          cond r5 (
            4) (
            let r6 := radar_out p.Code (-1) 4095
            cond r6 (
              4) (
              0))))))

set_option maxRecDepth 100000 in
theorem radar_CheckPlot_w (p : Plot) (w : World) : Calls Try.prog 30 #[Plot.v p] w (Ret w (.int .i64 (radar_CheckPlot p))) := by
  refine calls_intro (vs := [Plot.v p]) (w := w) Try.func30 rfl Try.ntmps30 rfl ?_
  refine TC.weak [(0, Plot.v p)] (by kernel_rfl) ?_
  refine TC.seq ?_
  refine TC.region ?_
  refine TL.write 0 (fun b1 => [(1, .pointer (some ⟨b1, 0, none⟩))]) (fun b1 => [.inl (b1, .cells (Plot.c p) 58 (0, 0))]) (fun b1 => ⟨by kernel_rfl, by kernel_rfl⟩) (fun b1 => ?_)
  refine TL.run 2 [] [(1, .pointer (some ⟨b1, 0, none⟩))] rfl ⟨by kernel_rfl, by kernel_rfl⟩ ?_
  refine TL.next rfl ?_
  refine TC.seq ?_
  refine TC.seq ?_
  refine TC.region ?_
  refine TL.run 2 [0] [(1, .pointer (some ⟨b1, 0, none⟩)), (4, .int .i64 p.Radar)] rfl ⟨by kernel_rfl, by kernel_rfl⟩ ?_
  refine TL.call (some 5) [(1, .pointer (some ⟨b1, 0, none⟩)), (5, .bool ((radar_out p.Radar 0 255)))] (fun w _ => radar_out_w p.Radar 0 255 w) (by kernel_rfl) (by kernel_rfl) ?_
  generalize hr1 : radar_out p.Radar 0 255 = r1
  refine TL.run 4 [] [(1, .pointer (some ⟨b1, 0, none⟩)), (6, .bool r1)] rfl ⟨by kernel_rfl, by kernel_rfl⟩ ?_
  refine TL.split 6 r1 (by kernel_rfl) (fun h1 => ?_) (fun h1 => ?_)
  · refine TL.run 28 [] [(30, .bool true)] rfl ⟨by kernel_rfl, by kernel_rfl⟩ ?_
    refine TL.next rfl ?_
    refine TC.condT rfl (by kernel_rfl) ?_
    refine TC.seq ?_
    refine TC.region ?_
    refine TL.run 1 [] [(2, .int .i64 4)] rfl ⟨by kernel_rfl, by kernel_rfl⟩ ?_
    refine TL.next rfl ?_
    refine TC.ret ?_
    refine TE.ret_then ?_
    have e : radar_CheckPlot p = 4 := by subst hr1; unfold radar_CheckPlot; exact cond_t h1 (rfl)
    exact TE.ret [] (.int .i64 4) ⟨by kernel_rfl, by kernel_rfl⟩ (by rw [e]; first | done | kernel_rfl)
  · refine TL.run 6 [0] [(1, .pointer (some ⟨b1, 0, none⟩)), (6, .bool false), (8, .int .i64 p.Time)] rfl ⟨by kernel_rfl, by kernel_rfl⟩ ?_
    refine TL.call (some 9) [(1, .pointer (some ⟨b1, 0, none⟩)), (6, .bool false), (9, .bool ((radar_out p.Time 0 200000)))] (fun w _ => radar_out_w p.Time 0 200000 w) (by kernel_rfl) (by kernel_rfl) ?_
    generalize hr2 : radar_out p.Time 0 200000 = r2
    refine TL.run 9 [] [(1, .pointer (some ⟨b1, 0, none⟩)), (11, .bool r2)] rfl ⟨by kernel_rfl, by kernel_rfl⟩ ?_
    refine TL.split 11 r2 (by kernel_rfl) (fun h2 => ?_) (fun h2 => ?_)
    · refine TL.run 28 [] [(30, .bool true)] rfl ⟨by kernel_rfl, by kernel_rfl⟩ ?_
      refine TL.next rfl ?_
      refine TC.condT rfl (by kernel_rfl) ?_
      refine TC.seq ?_
      refine TC.region ?_
      refine TL.run 1 [] [(2, .int .i64 4)] rfl ⟨by kernel_rfl, by kernel_rfl⟩ ?_
      refine TL.next rfl ?_
      refine TC.ret ?_
      refine TE.ret_then ?_
      have e : radar_CheckPlot p = 4 := by subst hr1 hr2; unfold radar_CheckPlot; exact cond_f h1 (cond_t h2 (rfl))
      exact TE.ret [] (.int .i64 4) ⟨by kernel_rfl, by kernel_rfl⟩ (by rw [e]; first | done | kernel_rfl)
    · refine TL.run 11 [0] [(1, .pointer (some ⟨b1, 0, none⟩)), (11, .bool false), (13, .int .i64 p.Range)] rfl ⟨by kernel_rfl, by kernel_rfl⟩ ?_
      refine TL.call (some 14) [(1, .pointer (some ⟨b1, 0, none⟩)), (11, .bool false), (14, .bool ((radar_out p.Range 0 2000000)))] (fun w _ => radar_out_w p.Range 0 2000000 w) (by kernel_rfl) (by kernel_rfl) ?_
      generalize hr3 : radar_out p.Range 0 2000000 = r3
      refine TL.run 14 [] [(1, .pointer (some ⟨b1, 0, none⟩)), (16, .bool r3)] rfl ⟨by kernel_rfl, by kernel_rfl⟩ ?_
      refine TL.split 16 r3 (by kernel_rfl) (fun h3 => ?_) (fun h3 => ?_)
      · refine TL.run 28 [] [(30, .bool true)] rfl ⟨by kernel_rfl, by kernel_rfl⟩ ?_
        refine TL.next rfl ?_
        refine TC.condT rfl (by kernel_rfl) ?_
        refine TC.seq ?_
        refine TC.region ?_
        refine TL.run 1 [] [(2, .int .i64 4)] rfl ⟨by kernel_rfl, by kernel_rfl⟩ ?_
        refine TL.next rfl ?_
        refine TC.ret ?_
        refine TE.ret_then ?_
        have e : radar_CheckPlot p = 4 := by subst hr1 hr2 hr3; unfold radar_CheckPlot; exact cond_f h1 (cond_f h2 (cond_t h3 (rfl)))
        exact TE.ret [] (.int .i64 4) ⟨by kernel_rfl, by kernel_rfl⟩ (by rw [e]; first | done | kernel_rfl)
      · refine TL.run 16 [0] [(1, .pointer (some ⟨b1, 0, none⟩)), (16, .bool false), (18, .int .i64 p.Azimuth)] rfl ⟨by kernel_rfl, by kernel_rfl⟩ ?_
        refine TL.call (some 19) [(1, .pointer (some ⟨b1, 0, none⟩)), (16, .bool false), (19, .bool ((radar_out p.Azimuth 0 4095)))] (fun w _ => radar_out_w p.Azimuth 0 4095 w) (by kernel_rfl) (by kernel_rfl) ?_
        generalize hr4 : radar_out p.Azimuth 0 4095 = r4
        refine TL.run 19 [] [(1, .pointer (some ⟨b1, 0, none⟩)), (21, .bool r4)] rfl ⟨by kernel_rfl, by kernel_rfl⟩ ?_
        refine TL.split 21 r4 (by kernel_rfl) (fun h4 => ?_) (fun h4 => ?_)
        · refine TL.run 28 [] [(30, .bool true)] rfl ⟨by kernel_rfl, by kernel_rfl⟩ ?_
          refine TL.next rfl ?_
          refine TC.condT rfl (by kernel_rfl) ?_
          refine TC.seq ?_
          refine TC.region ?_
          refine TL.run 1 [] [(2, .int .i64 4)] rfl ⟨by kernel_rfl, by kernel_rfl⟩ ?_
          refine TL.next rfl ?_
          refine TC.ret ?_
          refine TE.ret_then ?_
          have e : radar_CheckPlot p = 4 := by subst hr1 hr2 hr3 hr4; unfold radar_CheckPlot; exact cond_f h1 (cond_f h2 (cond_f h3 (cond_t h4 (rfl))))
          exact TE.ret [] (.int .i64 4) ⟨by kernel_rfl, by kernel_rfl⟩ (by rw [e]; first | done | kernel_rfl)
        · refine TL.run 21 [0] [(1, .pointer (some ⟨b1, 0, none⟩)), (21, .bool false), (23, .int .i64 p.Height)] rfl ⟨by kernel_rfl, by kernel_rfl⟩ ?_
          refine TL.call (some 24) [(1, .pointer (some ⟨b1, 0, none⟩)), (21, .bool false), (24, .bool ((radar_out p.Height 0 60000)))] (fun w _ => radar_out_w p.Height 0 60000 w) (by kernel_rfl) (by kernel_rfl) ?_
          generalize hr5 : radar_out p.Height 0 60000 = r5
          refine TL.run 24 [] [(1, .pointer (some ⟨b1, 0, none⟩)), (26, .bool r5)] rfl ⟨by kernel_rfl, by kernel_rfl⟩ ?_
          refine TL.split 26 r5 (by kernel_rfl) (fun h5 => ?_) (fun h5 => ?_)
          · refine TL.run 28 [] [(30, .bool true)] rfl ⟨by kernel_rfl, by kernel_rfl⟩ ?_
            refine TL.next rfl ?_
            refine TC.condT rfl (by kernel_rfl) ?_
            refine TC.seq ?_
            refine TC.region ?_
            refine TL.run 1 [] [(2, .int .i64 4)] rfl ⟨by kernel_rfl, by kernel_rfl⟩ ?_
            refine TL.next rfl ?_
            refine TC.ret ?_
            refine TE.ret_then ?_
            have e : radar_CheckPlot p = 4 := by subst hr1 hr2 hr3 hr4 hr5; unfold radar_CheckPlot; exact cond_f h1 (cond_f h2 (cond_f h3 (cond_f h4 (cond_t h5 (rfl)))))
            exact TE.ret [] (.int .i64 4) ⟨by kernel_rfl, by kernel_rfl⟩ (by rw [e]; first | done | kernel_rfl)
          · refine TL.run 26 [0] [(26, .bool false), (28, .int .i64 p.Code)] rfl ⟨by kernel_rfl, by kernel_rfl⟩ ?_
            refine TL.call (some 29) [(26, .bool false), (29, .bool ((radar_out p.Code (-1) 4095)))] (fun w _ => radar_out_w p.Code (-1) 4095 w) (by kernel_rfl) (by kernel_rfl) ?_
            generalize hr6 : radar_out p.Code (-1) 4095 = r6
            refine TL.run 28 [] [(30, .bool r6)] rfl ⟨by kernel_rfl, by kernel_rfl⟩ ?_
            refine TL.next rfl ?_
            refine TC.cond r6 rfl (by kernel_rfl) (fun h6 => ?_) (fun h6 => ?_)
            · refine TC.seq ?_
              refine TC.region ?_
              refine TL.run 1 [] [(2, .int .i64 4)] rfl ⟨by kernel_rfl, by kernel_rfl⟩ ?_
              refine TL.next rfl ?_
              refine TC.ret ?_
              refine TE.ret_then ?_
              have e : radar_CheckPlot p = 4 := by subst hr1 hr2 hr3 hr4 hr5 hr6; unfold radar_CheckPlot; exact cond_f h1 (cond_f h2 (cond_f h3 (cond_f h4 (cond_f h5 (cond_t h6 (rfl))))))
              exact TE.ret [] (.int .i64 4) ⟨by kernel_rfl, by kernel_rfl⟩ (by rw [e]; first | done | kernel_rfl)
            · refine TC.skip ?_
              refine TE.next ?_
              refine TC.seq ?_
              refine TC.region ?_
              refine TL.run 1 [] [(2, .int .i64 0)] rfl ⟨by kernel_rfl, by kernel_rfl⟩ ?_
              refine TL.next rfl ?_
              refine TC.ret ?_
              have e : radar_CheckPlot p = 0 := by subst hr1 hr2 hr3 hr4 hr5 hr6; unfold radar_CheckPlot; exact cond_f h1 (cond_f h2 (cond_f h3 (cond_f h4 (cond_f h5 (cond_f h6 (rfl))))))
              exact TE.ret [] (.int .i64 0) ⟨by kernel_rfl, by kernel_rfl⟩ (by rw [e]; first | done | kernel_rfl)

def mosaic_checkPlots_L1 : List Plot → Nat → ((Unit) ⊕ (Int))
  | [], _ => .inl ()
  | x :: xs, k => let r1 := radar_CheckPlot x
    cond (r1 != 0) (
      .inr r1) (
      mosaic_checkPlots_L1 xs (k + 1))
def mosaic_checkPlots (l : List Plot) : Int :=
  cond (decide ((l.length : Int) > 1024)) (
    2) (
    Sum.elim (fun _ =>
      0) (fun r => r) (mosaic_checkPlots_L1 l 0))

set_option maxRecDepth 100000 in
theorem mosaic_checkPlots_w (A_l : Option Addr) (c_l : Nat) (l : List Plot) (w : World) (h_l : Rd w 6 A_l (l.map Plot.c)) (_hc_l : l.length ≤ c_l) : Calls Try.prog 70 #[.slice A_l l.length c_l] w (Ret w (.int .i64 (mosaic_checkPlots l))) := by
  have s_l := h_l.short; rw [List.length_map] at s_l
  refine calls_intro (vs := [.slice A_l l.length c_l]) (w := w) Try.func70 rfl Try.ntmps70 rfl ?_
  refine TC.weak [(0, .slice A_l l.length c_l)] (by kernel_rfl) ?_
  refine TC.seq ?_
  refine TC.region ?_
  refine TL.run 1 [] [(0, .slice A_l l.length c_l)] rfl ⟨by kernel_rfl, by kernel_rfl⟩ ?_
  refine TL.next rfl ?_
  refine TC.seq ?_
  refine TC.seq ?_
  refine TC.region ?_
  refine TL.run 3 [] [(0, .slice A_l l.length c_l), (8, .bool (decide ((l.length : Int) > 1024)))] rfl ⟨by kernel_rfl, by kernel_rfl⟩ ?_
  refine TL.next rfl ?_
  refine TC.cond (decide ((l.length : Int) > 1024)) rfl (by kernel_rfl) (fun h1 => ?_) (fun h1 => ?_)
  · refine TC.seq ?_
    refine TC.region ?_
    refine TL.run 1 [] [(2, .int .i64 2)] rfl ⟨by kernel_rfl, by kernel_rfl⟩ ?_
    refine TL.next rfl ?_
    refine TC.ret ?_
    refine TE.ret_then ?_
    have e : mosaic_checkPlots l = 2 := by unfold mosaic_checkPlots; exact cond_t h1 (rfl)
    exact TE.ret [] (.int .i64 2) ⟨by kernel_rfl, by kernel_rfl⟩ (by rw [e]; first | done | kernel_rfl)
  · refine TC.skip ?_
    refine TE.next ?_
    refine TC.seq ?_
    refine TC.seq ?_
    refine TC.region ?_
    refine TL.run 3 [] [(9, .slice A_l l.length c_l), (10, .int .i64 (l.length : Int)), (11, .int .i64 0)] rfl ⟨by kernel_rfl, by kernel_rfl⟩ ?_
    refine TL.next rfl ?_
    refine TC.weak [(9, .slice A_l l.length c_l), (10, .int .i64 (l.length : Int)), (11, .int .i64 0)] (by kernel_rfl) ?_
    obtain ⟨R1, hR⟩ : ∃ R, R = mosaic_checkPlots_L1 l 0 := ⟨_, rfl⟩
    refine TC.cut (S := Unit) (fun (_ : Unit) => []) (fun (_ : Unit) => []) (fun (_ : Unit) => R1 = .inl ()) ?_ ?_
    · refine TC.block ?_
      refine TC.loop (X := Nat) (fun k => [(9, .slice A_l l.length c_l), (10, .int .i64 (l.length : Int)), (11, .int .i64 (k : Int))]) (fun k => []) (fun k => l.length - k) (fun k => k ≤ l.length ∧ R1 = mosaic_checkPlots_L1 (l.drop k) k) ?_ 0 ⟨Nat.zero_le _, hR⟩
      rintro k ⟨hk, hI⟩
      refine TC.seq ?_
      refine TC.region ?_
      refine TL.run 1 [] [(9, .slice A_l l.length c_l), (10, .int .i64 (l.length : Int)), (11, .int .i64 (k : Int)), (12, .bool (decide ((k : Int) < (l.length : Int))))] rfl ⟨by kernel_rfl, by kernel_rfl⟩ ?_
      refine TL.next rfl ?_
      refine TC.seq ?_
      refine TC.cond (decide ((k : Int) < (l.length : Int))) rfl (by kernel_rfl) (fun h2 => ?_) (fun h2 => ?_)
      · have hlt : k < l.length := by have := of_decide_eq_true h2; first | omega | (simp at this; omega)
        obtain ⟨x, hx⟩ : ∃ e_, l[k]? = some e_ := ⟨_, List.getElem?_eq_getElem hlt⟩
        have hd := drop_at hx
        refine TC.skip ?_
        refine TE.next ?_
        refine TC.seq ?_
        refine TC.block ?_
        refine TC.seq ?_
        refine TC.region ?_
        refine TL.val (sV (Instr.indexAt 41 (.slice A_l l.length c_l) (.int .i64 (k : Int)))) (some 13) (.pointer (some ((A_l.getD noAddr).add (k * 6)))) [(9, .slice A_l l.length c_l), (10, .int .i64 (l.length : Int)), (11, .int .i64 (k : Int)), (13, .pointer (some ((A_l.getD noAddr).add (k * 6))))] (fun w hM => run_index (h_l.sat hM) (by simp) (by kernel_rfl) (by have q0_ := (dec_f h1); first | omega | (rw [List.length_set]; omega) | (rw [w64_id (by omega)]; omega) | (dsimp only; omega) | (rw [List.length_drop]; omega) | (simp only [w64_eq]; omega) | (simp only [List.length_take] at *; omega) | (simp <;> omega)) (by have q0_ := (dec_f h1); first | omega | (rw [List.length_set]; omega) | (rw [w64_id (by omega)]; omega) | (dsimp only; omega) | (rw [List.length_drop]; omega) | (simp only [w64_eq]; omega) | (simp only [List.length_take] at *; omega) | (simp <;> omega))) (by kernel_rfl) (by kernel_rfl) ?_
        refine TL.val (sV (Instr.loadAt 58 (.pointer (some ((A_l.getD noAddr).add (k * 6)))))) (some 14) (Plot.v x) [(9, .slice A_l l.length c_l), (10, .int .i64 (l.length : Int)), (11, .int .i64 (k : Int)), (14, Plot.v x)] (fun w hM => run_load_agg (n := 6) (off := 0) (i := k) (Plot.v x) (h_l.sat hM) (map_at hx) (by kernel_rfl) (by kernel_rfl) (by kernel_rfl)) (by kernel_rfl) (by kernel_rfl) ?_
        refine TL.write 0 (fun b1 => [(4, .pointer (some ⟨b1, 0, none⟩)), (9, .slice A_l l.length c_l), (10, .int .i64 (l.length : Int)), (11, .int .i64 (k : Int)), (14, Plot.v x)]) (fun b1 => [.inl (b1, .cells (Plot.c Plot.zero) 58 (0, 0))]) (fun b1 => ⟨by kernel_rfl, by kernel_rfl⟩) (fun b1 => ?_)
        refine TL.write 0 (fun _ => [(4, .pointer (some ⟨b1, 0, none⟩)), (9, .slice A_l l.length c_l), (10, .int .i64 (l.length : Int)), (11, .int .i64 (k : Int))]) (fun _ => [.inl (b1, .cells (Plot.c x) 58 (0, 0))]) (fun _ => ⟨by kernel_rfl, by kernel_rfl⟩) (fun _ => ?_)
        refine TL.next rfl ?_
        refine TC.seq ?_
        refine TC.region ?_
        refine TL.run 1 [0] [(9, .slice A_l l.length c_l), (10, .int .i64 (l.length : Int)), (11, .int .i64 (k : Int)), (15, Plot.v x)] rfl ⟨by kernel_rfl, by kernel_rfl⟩ ?_
        refine TL.call (some 16) [(9, .slice A_l l.length c_l), (10, .int .i64 (l.length : Int)), (11, .int .i64 (k : Int)), (16, .int .i64 (radar_CheckPlot x))] (fun w _ => radar_CheckPlot_w x w) (by kernel_rfl) (by kernel_rfl) ?_
        generalize hr1 : radar_CheckPlot x = r1
        refine TL.run 3 [] [(5, .int .i64 r1), (9, .slice A_l l.length c_l), (10, .int .i64 (l.length : Int)), (11, .int .i64 (k : Int))] rfl ⟨by kernel_rfl, by kernel_rfl⟩ ?_
        refine TL.next rfl ?_
        refine TC.seq ?_
        refine TC.region ?_
        refine TL.run 2 [] [(5, .int .i64 r1), (9, .slice A_l l.length c_l), (10, .int .i64 (l.length : Int)), (11, .int .i64 (k : Int)), (18, .bool (r1 != 0))] rfl ⟨by kernel_rfl, by kernel_rfl⟩ ?_
        refine TL.next rfl ?_
        refine TC.cond (r1 != 0) rfl (by kernel_rfl) (fun h3 => ?_) (fun h3 => ?_)
        · refine TC.seq ?_
          refine TC.region ?_
          refine TL.run 2 [] [(2, .int .i64 r1)] rfl ⟨by kernel_rfl, by kernel_rfl⟩ ?_
          refine TL.next rfl ?_
          refine TC.ret ?_
          refine TE.ret_block (TE.ret_then (TE.ret_then (TE.ret_block (TE.ret_then (TE.ret_then ?_)))))
          have e : mosaic_checkPlots l = r1 := by subst hr1; unfold mosaic_checkPlots; exact cond_f h1 (elim_r (hR.symm.trans (hI.trans (by rw [hd]; exact cond_t h3 (rfl)))) rfl)
          exact TE.ret [] (.int .i64 r1) ⟨by kernel_rfl, by kernel_rfl⟩ (by rw [e]; first | done | kernel_rfl)
        · refine TC.skip ?_
          refine TE.normal_block ?_
          refine TE.next ?_
          refine TC.region ?_
          refine TL.run 2 [] [(9, .slice A_l l.length c_l), (10, .int .i64 (l.length : Int)), (11, .int .i64 (w64 ((k : Int) + 1)))] rfl ⟨by kernel_rfl, by kernel_rfl⟩ ?_
          refine TL.done rfl ?_
          refine TE.rw 11 (.int .i64 (w64 ((k : Int) + 1))) (.int .i64 ((k + 1 : Nat) : Int)) (by kernel_rfl) (w64_cast k (by omega)) ?_
          exact TE.again (x := k) (k + 1) ⟨by omega, hI.trans (by subst hr1; rw [hd]; exact cond_f h3 (rfl))⟩ (by show l.length - (k + 1) < l.length - k; omega) (by kernel_rfl) (.cons _ (.slnil))
      · have hd : l.drop k = [] := List.drop_eq_nil_of_le (by have := of_decide_eq_false h2; first | omega | (simp at this; omega))
        refine TC.exit ?_
        refine TE.exit_then (TE.exit_then (TE.exit_same ?_))
        exact TE.cut () (hI.trans (by rw [hd]; exact rfl)) (by kernel_rfl) (.slnil)
    · intro _ hJ
      refine TE.next ?_
      refine TC.seq ?_
      refine TC.region ?_
      refine TL.run 1 [] [(2, .int .i64 0)] rfl ⟨by kernel_rfl, by kernel_rfl⟩ ?_
      refine TL.next rfl ?_
      refine TC.ret ?_
      have e : mosaic_checkPlots l = 0 := by unfold mosaic_checkPlots; exact cond_f h1 (elim_l (hR.symm.trans hJ) (rfl))
      exact TE.ret [] (.int .i64 0) ⟨by kernel_rfl, by kernel_rfl⟩ (by rw [e]; first | done | kernel_rfl)

def mosaic_Window_L1 (from_ : Int) (to : Int) : List Plot → Nat → (List Plot) → (List Plot)
  | [], _, out => out
  | x :: xs, k, out => cond ((decide (x.Time ≥ from_)) && (decide (x.Time < to))) (
      mosaic_Window_L1 from_ to xs (k + 1) (out ++ ([x]))) (
      mosaic_Window_L1 from_ to xs (k + 1) out)
def mosaic_Window (l : List Plot) (from_ : Int) (to : Int) : List Plot × Int :=
  let r1 := mosaic_checkPlots l
  cond (r1 != 0) (
    ([], r1)) (
    bindv (mosaic_Window_L1 from_ to l 0 ([] : List Plot)) (fun out_2 =>
      (out_2, 0)))

theorem chk_len {l : List Plot} {r : Int} (h : mosaic_checkPlots l = r) (h2 : (r != 0) = false) : l.length ≤ 1024 := by
  subst h
  unfold mosaic_checkPlots at h2
  rcases Nat.lt_or_ge 1024 l.length with h3 | h3
  · rw [show decide ((l.length : Int) > 1024) = true from decide_eq_true (by omega)] at h2
    cases h2
  · exact h3

set_option maxRecDepth 100000 in
theorem mosaic_Window_w (A_l : Option Addr) (c_l : Nat) (l : List Plot) (from_ : Int) (to : Int) (w : World) (h_l : Rd w 6 A_l (l.map Plot.c)) (hc_l : l.length ≤ c_l) : Calls Try.prog 34 #[.slice A_l l.length c_l, .int .i64 from_, .int .i64 to] w (RetM (Γ := (Option Addr × Nat)) (cx w) (fun g => .tuple #[.slice g.1 ((mosaic_Window l from_ to).1.length) g.2, .int .i64 ((mosaic_Window l from_ to).2)]) (fun g => [.inr (Own g.1 g.2 58 6 (((mosaic_Window l from_ to).1).map Plot.c))])) := by
  have s_l := h_l.short; rw [List.length_map] at s_l
  refine calls_intro (vs := [.slice A_l l.length c_l, .int .i64 from_, .int .i64 to]) (w := w) Try.func34 rfl Try.ntmps34 rfl ?_
  refine TC.weak [(0, .slice A_l l.length c_l), (1, .int .i64 from_), (2, .int .i64 to)] (by kernel_rfl) ?_
  refine TC.seq ?_
  refine TC.region ?_
  refine TL.run 2 [] [(0, .slice A_l l.length c_l), (1, .int .i64 from_), (2, .int .i64 to)] rfl ⟨by kernel_rfl, by kernel_rfl⟩ ?_
  refine TL.next rfl ?_
  refine TC.seq ?_
  refine TC.seq ?_
  refine TC.region ?_
  refine TL.run 1 [] [(0, .slice A_l l.length c_l), (1, .int .i64 from_), (2, .int .i64 to), (12, .slice A_l l.length c_l)] rfl ⟨by kernel_rfl, by kernel_rfl⟩ ?_
  refine TL.call (some 13) [(0, .slice A_l l.length c_l), (1, .int .i64 from_), (2, .int .i64 to), (13, .int .i64 (mosaic_checkPlots l))] (fun w hM => mosaic_checkPlots_w A_l c_l l w (h_l.sat hM) hc_l) (by kernel_rfl) (by kernel_rfl) ?_
  generalize hr1 : mosaic_checkPlots l = r1
  refine TL.run 3 [] [(0, .slice A_l l.length c_l), (1, .int .i64 from_), (2, .int .i64 to), (8, .int .i64 r1)] rfl ⟨by kernel_rfl, by kernel_rfl⟩ ?_
  refine TL.next rfl ?_
  refine TC.seq ?_
  refine TC.region ?_
  refine TL.run 2 [] [(0, .slice A_l l.length c_l), (1, .int .i64 from_), (2, .int .i64 to), (8, .int .i64 r1), (15, .bool (r1 != 0))] rfl ⟨by kernel_rfl, by kernel_rfl⟩ ?_
  refine TL.next rfl ?_
  refine TC.cond (r1 != 0) rfl (by kernel_rfl) (fun h1 => ?_) (fun h1 => ?_)
  · refine TC.seq ?_
    refine TC.region ?_
    refine TL.run 3 [] [(6, .slice none 0 0), (7, .int .i64 r1)] rfl ⟨by kernel_rfl, by kernel_rfl⟩ ?_
    refine TL.next rfl ?_
    refine TC.ret ?_
    refine TE.ret_then ?_
    have e : mosaic_Window l from_ to = ([], r1) := by subst hr1; unfold mosaic_Window; exact cond_t h1 (rfl)
    refine TE.conv [.inr (Own none 0 58 6 (([] : List Plot).map Plot.c))] (fun _ hM => hM.emptyrow none 58 6) ?_
    rw [e]
    exact TE.retM (.inl rfl) (none, 0) [] (.tuple #[.slice none 0 0, .int .i64 r1]) ⟨by kernel_rfl, by kernel_rfl⟩ rfl (fun _ hM => hM.sub (.cons_cons _ (.slnil)))
  · refine TC.skip ?_
    refine TE.next ?_
    refine TC.seq ?_
    refine TC.region ?_
    refine TL.run 1 [] [(0, .slice A_l l.length c_l), (1, .int .i64 from_), (2, .int .i64 to), (9, .slice none 0 0)] rfl ⟨by kernel_rfl, by kernel_rfl⟩ ?_
    refine TL.next rfl ?_
    refine TC.seq ?_
    refine TC.seq ?_
    refine TC.region ?_
    refine TL.run 3 [] [(1, .int .i64 from_), (2, .int .i64 to), (9, .slice none 0 0), (17, .slice A_l l.length c_l), (18, .int .i64 (l.length : Int)), (19, .int .i64 0)] rfl ⟨by kernel_rfl, by kernel_rfl⟩ ?_
    refine TL.next rfl ?_
    refine TC.conv [.inr (Own none 0 58 6 (([] : List Plot).map Plot.c))] (fun _ hM => hM.emptyrow none 58 6) ?_
    refine TC.weak [(1, .int .i64 from_), (2, .int .i64 to), (9, .slice none (([] : List Plot).length) 0), (17, .slice A_l l.length c_l), (18, .int .i64 (l.length : Int)), (19, .int .i64 0)] (by kernel_rfl) ?_
    obtain ⟨R3, hR⟩ : ∃ R, R = mosaic_Window_L1 from_ to l 0 ([] : List Plot) := ⟨_, rfl⟩
    refine TC.cut (S := (List Plot) × (Option Addr) × Nat) (fun (out_2, A_out_2, c_out_2) => [(9, .slice A_out_2 out_2.length c_out_2)]) (fun (out_2, A_out_2, c_out_2) => [.inr (Own A_out_2 c_out_2 58 6 (out_2.map Plot.c))]) (fun (out_2, A_out_2, c_out_2) => R3 = out_2 ∧ out_2.length ≤ l.length) ?_ ?_
    · refine TC.block ?_
      refine TC.loop (X := Nat × (List Plot) × (Option Addr) × Nat) (fun (k, out, A_out, c_out) => [(1, .int .i64 from_), (2, .int .i64 to), (9, .slice A_out out.length c_out), (17, .slice A_l l.length c_l), (18, .int .i64 (l.length : Int)), (19, .int .i64 (k : Int))]) (fun (k, out, A_out, c_out) => [.inr (Own A_out c_out 58 6 (out.map Plot.c))]) (fun (k, out, A_out, c_out) => l.length - k) (fun (k, out, A_out, c_out) => k ≤ l.length ∧ R3 = mosaic_Window_L1 from_ to (l.drop k) k out ∧ out.length ≤ k) ?_ (0, ([] : List Plot), none, 0) ⟨Nat.zero_le _, hR, (by first | omega | (simp; omega) | simp)⟩
      rintro ⟨k, out, A_out, c_out⟩ ⟨hk, hI, hl_out⟩
      refine TC.seq ?_
      refine TC.region ?_
      refine TL.run 1 [] [(1, .int .i64 from_), (2, .int .i64 to), (9, .slice A_out out.length c_out), (17, .slice A_l l.length c_l), (18, .int .i64 (l.length : Int)), (19, .int .i64 (k : Int)), (20, .bool (decide ((k : Int) < (l.length : Int))))] rfl ⟨by kernel_rfl, by kernel_rfl⟩ ?_
      refine TL.next rfl ?_
      refine TC.seq ?_
      refine TC.cond (decide ((k : Int) < (l.length : Int))) rfl (by kernel_rfl) (fun h2 => ?_) (fun h2 => ?_)
      · have hlt : k < l.length := by have := of_decide_eq_true h2; first | omega | (simp at this; omega)
        obtain ⟨x, hx⟩ : ∃ e_, l[k]? = some e_ := ⟨_, List.getElem?_eq_getElem hlt⟩
        have hd := drop_at hx
        refine TC.skip ?_
        refine TE.next ?_
        refine TC.seq ?_
        refine TC.block ?_
        refine TC.seq ?_
        refine TC.region ?_
        refine TL.val (sV (Instr.indexAt 41 (.slice A_l l.length c_l) (.int .i64 (k : Int)))) (some 21) (.pointer (some ((A_l.getD noAddr).add (k * 6)))) [(1, .int .i64 from_), (2, .int .i64 to), (9, .slice A_out out.length c_out), (17, .slice A_l l.length c_l), (18, .int .i64 (l.length : Int)), (19, .int .i64 (k : Int)), (21, .pointer (some ((A_l.getD noAddr).add (k * 6))))] (fun w hM => run_index (h_l.sat hM) (by simp) (by kernel_rfl) (by have q0_ := (bne_f h1); (try have kl_ := chk_len hr1 h1); first | omega | (rw [List.length_set]; omega) | (rw [w64_id (by omega)]; omega) | (dsimp only; omega) | (rw [List.length_drop]; omega) | (simp only [w64_eq]; omega) | (simp only [List.length_take] at *; omega) | (simp <;> omega)) (by have q0_ := (bne_f h1); (try have kl_ := chk_len hr1 h1); first | omega | (rw [List.length_set]; omega) | (rw [w64_id (by omega)]; omega) | (dsimp only; omega) | (rw [List.length_drop]; omega) | (simp only [w64_eq]; omega) | (simp only [List.length_take] at *; omega) | (simp <;> omega))) (by kernel_rfl) (by kernel_rfl) ?_
        refine TL.val (sV (Instr.loadAt 58 (.pointer (some ((A_l.getD noAddr).add (k * 6)))))) (some 22) (Plot.v x) [(1, .int .i64 from_), (2, .int .i64 to), (9, .slice A_out out.length c_out), (17, .slice A_l l.length c_l), (18, .int .i64 (l.length : Int)), (19, .int .i64 (k : Int)), (22, Plot.v x)] (fun w hM => run_load_agg (n := 6) (off := 0) (i := k) (Plot.v x) (h_l.sat hM) (map_at hx) (by kernel_rfl) (by kernel_rfl) (by kernel_rfl)) (by kernel_rfl) (by kernel_rfl) ?_
        refine TL.write 0 (fun b1 => [(1, .int .i64 from_), (2, .int .i64 to), (9, .slice A_out out.length c_out), (11, .pointer (some ⟨b1, 0, none⟩)), (17, .slice A_l l.length c_l), (18, .int .i64 (l.length : Int)), (19, .int .i64 (k : Int)), (22, Plot.v x)]) (fun b1 => [.inl (b1, .cells (Plot.c Plot.zero) 58 (0, 0)), .inr (Own A_out c_out 58 6 (out.map Plot.c))]) (fun b1 => ⟨by kernel_rfl, by kernel_rfl⟩) (fun b1 => ?_)
        refine TL.write 0 (fun _ => [(1, .int .i64 from_), (2, .int .i64 to), (9, .slice A_out out.length c_out), (11, .pointer (some ⟨b1, 0, none⟩)), (17, .slice A_l l.length c_l), (18, .int .i64 (l.length : Int)), (19, .int .i64 (k : Int))]) (fun _ => [.inl (b1, .cells (Plot.c x) 58 (0, 0)), .inr (Own A_out c_out 58 6 (out.map Plot.c))]) (fun _ => ⟨by kernel_rfl, by kernel_rfl⟩) (fun _ => ?_)
        refine TL.next rfl ?_
        refine TC.seq ?_
        refine TC.region ?_
        refine TL.run 5 [0] [(1, .int .i64 from_), (2, .int .i64 to), (9, .slice A_out out.length c_out), (11, .pointer (some ⟨b1, 0, none⟩)), (17, .slice A_l l.length c_l), (18, .int .i64 (l.length : Int)), (19, .int .i64 (k : Int)), (27, .bool (decide (x.Time ≥ from_)))] rfl ⟨by kernel_rfl, by kernel_rfl⟩ ?_
        refine TL.join 27 (decide (x.Time ≥ from_)) 10 [0] [] (fun β => [(1, .int .i64 from_), (2, .int .i64 to), (9, .slice A_out out.length c_out), (11, .pointer (some ⟨b1, 0, none⟩)), (17, .slice A_l l.length c_l), (18, .int .i64 (l.length : Int)), (19, .int .i64 (k : Int)), (32, .bool (β && (decide (x.Time < to))))]) (by kernel_rfl) rfl ⟨by kernel_rfl, by kernel_rfl⟩ ⟨by kernel_rfl, by kernel_rfl⟩ ?_
        refine TL.next rfl ?_
        refine TC.cond ((decide (x.Time ≥ from_)) && (decide (x.Time < to))) rfl (by kernel_rfl) (fun h3 => ?_) (fun h3 => ?_)
        · refine TC.region ?_
          refine TL.run 2 [0] [(1, .int .i64 from_), (2, .int .i64 to), (17, .slice A_l l.length c_l), (18, .int .i64 (l.length : Int)), (19, .int .i64 (k : Int)), (33, .slice A_out out.length c_out), (34, Plot.v x)] rfl ⟨by kernel_rfl, by kernel_rfl⟩ ?_
          refine TL.write 0 (fun b2 => [(1, .int .i64 from_), (2, .int .i64 to), (17, .slice A_l l.length c_l), (18, .int .i64 (l.length : Int)), (19, .int .i64 (k : Int)), (33, .slice A_out out.length c_out), (35, .slice (some ⟨b2, 0, none⟩) 1 1)]) (fun b2 => [.inl (b2, .cells (Plot.c x) 58 (0, 0)), .inl (b1, .cells (Plot.c x) 58 (0, 0)), .inr (Own A_out c_out 58 6 (out.map Plot.c))]) (fun b2 => ⟨by kernel_rfl, by kernel_rfl⟩) (fun b2 => ?_)
          refine TL.opM (Γ := Option Addr × Nat) (sV (Builtin.append_ #[41, 41] 41 #[.slice A_out out.length c_out, .slice (some ⟨b2, 0, none⟩) 1 1])) (some 36) (fun g => .slice g.1 (out ++ ([x])).length g.2) (fun g => [.inl (b2, .cells (Plot.c x) 58 (0, 0)), .inl (b1, .cells (Plot.c x) 58 (0, 0)), .inr (Own g.1 g.2 58 6 ((out ++ ([x])).map Plot.c))]) (fun g => [(1, .int .i64 from_), (2, .int .i64 to), (17, .slice A_l l.length c_l), (18, .int .i64 (l.length : Int)), (19, .int .i64 (k : Int)), (36, .slice g.1 ((out ++ ([x])).length) g.2)]) (app_at (bytes := 48) 41 2 ([x]) (by kernel_rfl) rfl rfl Plot.one rfl (fun w hM => (Rd.lit hM 0 _ rfl (by kernel_rfl) (by kernel_rfl) (by kernel_rfl))) rfl (by have q0_ := (bne_f h1); have q1_ := (dec_t (and_t1 h3)); have q2_ := (dec_t (and_t2 h3)); (try have kl_ := chk_len hr1 h1); first | omega | (simp <;> omega) | (simp at * <;> omega))) (by kernel_rfl) (fun g => by kernel_rfl) ?_
          rintro ⟨A, c⟩
          refine TL.run 5 [] [(1, .int .i64 from_), (2, .int .i64 to), (9, .slice A ((out ++ ([x])).length) c), (17, .slice A_l l.length c_l), (18, .int .i64 (l.length : Int)), (19, .int .i64 (k : Int))] rfl ⟨by kernel_rfl, by kernel_rfl⟩ ?_
          refine TL.done rfl ?_
          refine TE.normal_block ?_
          refine TE.next ?_
          refine TC.region ?_
          refine TL.run 2 [] [(1, .int .i64 from_), (2, .int .i64 to), (9, .slice A ((out ++ ([x])).length) c), (17, .slice A_l l.length c_l), (18, .int .i64 (l.length : Int)), (19, .int .i64 (w64 ((k : Int) + 1)))] rfl ⟨by kernel_rfl, by kernel_rfl⟩ ?_
          refine TL.done rfl ?_
          refine TE.rw 19 (.int .i64 (w64 ((k : Int) + 1))) (.int .i64 ((k + 1 : Nat) : Int)) (by kernel_rfl) (w64_cast k (by (try have kl_ := chk_len hr1 h1); omega)) ?_
          exact TE.again (x := (k, out, A_out, c_out)) (k + 1, (out ++ ([x])), A, c) ⟨by omega, hI.trans (by subst hr1; rw [hd]; exact cond_t h3 (rfl)), (by have q0_ := (bne_f h1); have q1_ := (dec_t (and_t1 h3)); have q2_ := (dec_t (and_t2 h3)); (try have kl_ := chk_len hr1 h1); first | omega | (simp <;> omega) | (simp at * <;> omega) | (simp only [w64_eq] at *; omega) | (simp only [List.length_append, List.length_cons, List.length_nil]; omega))⟩ (by show l.length - (k + 1) < l.length - k; omega) (by kernel_rfl) (.cons _ (.cons _ (.cons_cons _ (.slnil))))
        · refine TC.skip ?_
          refine TE.normal_block ?_
          refine TE.next ?_
          refine TC.region ?_
          refine TL.run 2 [] [(1, .int .i64 from_), (2, .int .i64 to), (9, .slice A_out out.length c_out), (17, .slice A_l l.length c_l), (18, .int .i64 (l.length : Int)), (19, .int .i64 (w64 ((k : Int) + 1)))] rfl ⟨by kernel_rfl, by kernel_rfl⟩ ?_
          refine TL.done rfl ?_
          refine TE.rw 19 (.int .i64 (w64 ((k : Int) + 1))) (.int .i64 ((k + 1 : Nat) : Int)) (by kernel_rfl) (w64_cast k (by (try have kl_ := chk_len hr1 h1); omega)) ?_
          exact TE.again (x := (k, out, A_out, c_out)) (k + 1, out, A_out, c_out) ⟨by omega, hI.trans (by subst hr1; rw [hd]; exact cond_f h3 (rfl)), (by have q0_ := (bne_f h1); have q1_ := ((and_f h3).imp (fun h => (dec_f h)) (fun h => (dec_f h))); (try have kl_ := chk_len hr1 h1); first | omega | (simp <;> omega) | (simp at * <;> omega) | (simp only [w64_eq] at *; omega) | (simp only [List.length_append, List.length_cons, List.length_nil]; omega))⟩ (by show l.length - (k + 1) < l.length - k; omega) (by kernel_rfl) (.cons _ (.cons_cons _ (.slnil)))
      · have hd : l.drop k = [] := List.drop_eq_nil_of_le (by have := of_decide_eq_false h2; first | omega | (simp at this; omega))
        refine TC.exit ?_
        refine TE.exit_then (TE.exit_then (TE.exit_same ?_))
        exact TE.cut (out, A_out, c_out) (⟨hI.trans (by subst hr1; rw [hd]; exact rfl), (by have q0_ := (bne_f h1); (try have kl_ := chk_len hr1 h1); first | omega | (simp <;> omega) | (simp at * <;> omega) | (simp only [w64_eq] at *; omega) | (simp only [List.length_append, List.length_cons, List.length_nil]; omega))⟩) (by kernel_rfl) (.cons_cons _ (.slnil))
    · rintro ⟨out_2, A_out_2, c_out_2⟩ ⟨hJ, hl_out_2⟩
      refine TE.next ?_
      refine TC.seq ?_
      refine TC.region ?_
      refine TL.run 3 [] [(6, .slice A_out_2 out_2.length c_out_2), (7, .int .i64 0)] rfl ⟨by kernel_rfl, by kernel_rfl⟩ ?_
      refine TL.next rfl ?_
      refine TC.ret ?_
      have e : mosaic_Window l from_ to = (out_2, 0) := by subst hr1; unfold mosaic_Window; exact cond_f h1 (bindv_eq (hR.symm.trans hJ) (rfl))
      rw [e]
      exact TE.retM (.inl rfl) (A_out_2, c_out_2) [] (.tuple #[.slice A_out_2 out_2.length c_out_2, .int .i64 0]) ⟨by kernel_rfl, by kernel_rfl⟩ rfl (fun _ hM => hM.sub (.cons_cons _ (.slnil)))

def skywaykeep2_fine_1 (e_ : Int) : Bool :=
  e_ != 0

set_option maxRecDepth 100000 in
theorem skywaykeep2_fine_1_w (e_ : Int) (w : World) : Calls Try.prog 67 #[.int .i64 e_] w (Ret w (.bool (skywaykeep2_fine_1 e_))) := by
  refine calls_intro (vs := [.int .i64 e_]) (w := w) Try.func67 rfl Try.ntmps67 rfl ?_
  refine TC.weak [(0, .int .i64 e_)] (by kernel_rfl) ?_
  refine TC.seq ?_
  refine TC.region ?_
  refine TL.run 1 [] [(0, .int .i64 e_)] rfl ⟨by kernel_rfl, by kernel_rfl⟩ ?_
  refine TL.next rfl ?_
  refine TC.seq ?_
  refine TC.region ?_
  refine TL.run 3 [] [(2, .bool (e_ != 0))] rfl ⟨by kernel_rfl, by kernel_rfl⟩ ?_
  refine TL.next rfl ?_
  refine TC.ret ?_
  have e : skywaykeep2_fine_1 e_ = (e_ != 0) := by unfold skywaykeep2_fine_1; exact rfl
  exact TE.ret [] (.bool (e_ != 0)) ⟨by kernel_rfl, by kernel_rfl⟩ (by rw [e]; first | done | kernel_rfl)

def IndexFunc_fine_L1 : List Int → Nat → ((Unit) ⊕ (Int))
  | [], _ => .inl ()
  | x :: xs, k => let r1 := skywaykeep2_fine_1 x
    cond r1 (
      .inr (k : Int)) (
      IndexFunc_fine_L1 xs (k + 1))
def IndexFunc_fine (s : List Int) : Int :=
  Sum.elim (fun _ =>
    (-1)) (fun r => r) (IndexFunc_fine_L1 s 0)

set_option maxRecDepth 100000 in
theorem IndexFunc_fine_w (A_s : Option Addr) (c_s : Nat) (s : List Int) (w : World) (h_s : Rd w 1 A_s (s.map ic)) (_hc_s : s.length ≤ c_s) : Calls Try.prog 103 #[.slice A_s s.length c_s, .func (.func 67) #[] #[]] w (Ret w (.int .i64 (IndexFunc_fine s))) := by
  have s_s := h_s.short; rw [List.length_map] at s_s
  refine calls_intro (vs := [.slice A_s s.length c_s, .func (.func 67) #[] #[]]) (w := w) Try.func103 rfl Try.ntmps103 rfl ?_
  refine TC.weak [(0, .slice A_s s.length c_s), (1, .func (.func 67) #[] #[])] (by kernel_rfl) ?_
  refine TC.seq ?_
  refine TC.region ?_
  refine TL.run 1 [] [(0, .slice A_s s.length c_s), (1, .func (.func 67) #[] #[])] rfl ⟨by kernel_rfl, by kernel_rfl⟩ ?_
  refine TL.next rfl ?_
  refine TC.seq ?_
  refine TC.seq ?_
  refine TC.region ?_
  refine TL.run 3 [] [(0, .slice A_s s.length c_s), (1, .func (.func 67) #[] #[]), (7, .int .i64 (s.length : Int)), (8, .int .i64 0)] rfl ⟨by kernel_rfl, by kernel_rfl⟩ ?_
  refine TL.next rfl ?_
  refine TC.weak [(0, .slice A_s s.length c_s), (1, .func (.func 67) #[] #[]), (7, .int .i64 (s.length : Int)), (8, .int .i64 0)] (by kernel_rfl) ?_
  obtain ⟨R1, hR⟩ : ∃ R, R = IndexFunc_fine_L1 s 0 := ⟨_, rfl⟩
  refine TC.cut (S := Unit) (fun (_ : Unit) => []) (fun (_ : Unit) => []) (fun (_ : Unit) => R1 = .inl ()) ?_ ?_
  · refine TC.block ?_
    refine TC.loop (X := Nat) (fun k => [(0, .slice A_s s.length c_s), (1, .func (.func 67) #[] #[]), (7, .int .i64 (s.length : Int)), (8, .int .i64 (k : Int))]) (fun k => []) (fun k => s.length - k) (fun k => k ≤ s.length ∧ R1 = IndexFunc_fine_L1 (s.drop k) k) ?_ 0 ⟨Nat.zero_le _, hR⟩
    rintro k ⟨hk, hI⟩
    refine TC.seq ?_
    refine TC.region ?_
    refine TL.run 1 [] [(0, .slice A_s s.length c_s), (1, .func (.func 67) #[] #[]), (7, .int .i64 (s.length : Int)), (8, .int .i64 (k : Int)), (9, .bool (decide ((k : Int) < (s.length : Int))))] rfl ⟨by kernel_rfl, by kernel_rfl⟩ ?_
    refine TL.next rfl ?_
    refine TC.seq ?_
    refine TC.cond (decide ((k : Int) < (s.length : Int))) rfl (by kernel_rfl) (fun h1 => ?_) (fun h1 => ?_)
    · have hlt : k < s.length := by have := of_decide_eq_true h1; first | omega | (simp at this; omega)
      obtain ⟨x, hx⟩ : ∃ e_, s[k]? = some e_ := ⟨_, List.getElem?_eq_getElem hlt⟩
      have hd := drop_at hx
      refine TC.skip ?_
      refine TE.next ?_
      refine TC.seq ?_
      refine TC.block ?_
      refine TC.seq ?_
      refine TC.region ?_
      refine TL.run 2 [] [(0, .slice A_s s.length c_s), (1, .func (.func 67) #[] #[]), (5, .int .i64 (k : Int)), (7, .int .i64 (s.length : Int)), (8, .int .i64 (k : Int))] rfl ⟨by kernel_rfl, by kernel_rfl⟩ ?_
      refine TL.next rfl ?_
      refine TC.seq ?_
      refine TC.region ?_
      refine TL.run 3 [] [(0, .slice A_s s.length c_s), (1, .func (.func 67) #[] #[]), (5, .int .i64 (k : Int)), (7, .int .i64 (s.length : Int)), (8, .int .i64 (k : Int)), (11, .func (.func 67) #[] #[]), (12, .slice A_s s.length c_s), (13, .int .i64 (k : Int))] rfl ⟨by kernel_rfl, by kernel_rfl⟩ ?_
      refine TL.val (sV (Instr.indexAt 123 (.slice A_s s.length c_s) (.int .i64 (k : Int)))) (some 14) (.pointer (some ((A_s.getD noAddr).add (k * 1)))) [(0, .slice A_s s.length c_s), (1, .func (.func 67) #[] #[]), (5, .int .i64 (k : Int)), (7, .int .i64 (s.length : Int)), (8, .int .i64 (k : Int)), (11, .func (.func 67) #[] #[]), (14, .pointer (some ((A_s.getD noAddr).add (k * 1))))] (fun w hM => run_index (h_s.sat hM) (by simp) (by kernel_rfl) (by first | omega | (rw [List.length_set]; omega) | (rw [w64_id (by omega)]; omega) | (dsimp only; omega) | (rw [List.length_drop]; omega) | (simp only [w64_eq]; omega) | (simp only [List.length_take] at *; omega) | (simp <;> omega)) (by first | omega | (rw [List.length_set]; omega) | (rw [w64_id (by omega)]; omega) | (dsimp only; omega) | (rw [List.length_drop]; omega) | (simp only [w64_eq]; omega) | (simp only [List.length_take] at *; omega) | (simp <;> omega))) (by kernel_rfl) (by kernel_rfl) ?_
      refine TL.val (sV (Instr.loadAt 25 (.pointer (some ((A_s.getD noAddr).add (k * 1)))))) (some 15) (.int .i64 x) [(0, .slice A_s s.length c_s), (1, .func (.func 67) #[] #[]), (5, .int .i64 (k : Int)), (7, .int .i64 (s.length : Int)), (8, .int .i64 (k : Int)), (11, .func (.func 67) #[] #[]), (15, .int .i64 x)] (fun w hM => run_load_one (off := 0) (i := k) (.int .i64 x) (h_s.sat hM) (map_at hx) (by kernel_rfl) (by kernel_rfl)) (by kernel_rfl) (by kernel_rfl) ?_
      refine TL.call (some 16) [(0, .slice A_s s.length c_s), (1, .func (.func 67) #[] #[]), (5, .int .i64 (k : Int)), (7, .int .i64 (s.length : Int)), (8, .int .i64 (k : Int)), (16, .bool ((skywaykeep2_fine_1 x)))] (fun w _ => skywaykeep2_fine_1_w x w) (by kernel_rfl) (by kernel_rfl) ?_
      generalize hr1 : skywaykeep2_fine_1 x = r1
      refine TL.next rfl ?_
      refine TC.cond r1 rfl (by kernel_rfl) (fun h2 => ?_) (fun h2 => ?_)
      · refine TC.seq ?_
        refine TC.region ?_
        refine TL.run 2 [] [(4, .int .i64 (k : Int))] rfl ⟨by kernel_rfl, by kernel_rfl⟩ ?_
        refine TL.next rfl ?_
        refine TC.ret ?_
        refine TE.ret_block (TE.ret_then (TE.ret_then (TE.ret_block (TE.ret_then (TE.ret_then ?_)))))
        have e : IndexFunc_fine s = (k : Int) := by subst hr1; unfold IndexFunc_fine; exact elim_r (hR.symm.trans (hI.trans (by rw [hd]; exact cond_t h2 (rfl)))) rfl
        exact TE.ret [] (.int .i64 (k : Int)) ⟨by kernel_rfl, by kernel_rfl⟩ (by rw [e]; first | done | kernel_rfl)
      · refine TC.skip ?_
        refine TE.normal_block ?_
        refine TE.next ?_
        refine TC.region ?_
        refine TL.run 2 [] [(0, .slice A_s s.length c_s), (1, .func (.func 67) #[] #[]), (7, .int .i64 (s.length : Int)), (8, .int .i64 (w64 ((k : Int) + 1)))] rfl ⟨by kernel_rfl, by kernel_rfl⟩ ?_
        refine TL.done rfl ?_
        refine TE.rw 8 (.int .i64 (w64 ((k : Int) + 1))) (.int .i64 ((k + 1 : Nat) : Int)) (by kernel_rfl) (w64_cast k (by omega)) ?_
        exact TE.again (x := k) (k + 1) ⟨by omega, hI.trans (by subst hr1; rw [hd]; exact cond_f h2 (rfl))⟩ (by show s.length - (k + 1) < s.length - k; omega) (by kernel_rfl) (.slnil)
    · have hd : s.drop k = [] := List.drop_eq_nil_of_le (by have := of_decide_eq_false h1; first | omega | (simp at this; omega))
      refine TC.exit ?_
      refine TE.exit_then (TE.exit_then (TE.exit_same ?_))
      exact TE.cut () (hI.trans (by rw [hd]; exact rfl)) (by kernel_rfl) (.slnil)
  · intro _ hJ
    refine TE.next ?_
    refine TC.seq ?_
    refine TC.region ?_
    refine TL.run 1 [] [(4, .int .i64 (-1))] rfl ⟨by kernel_rfl, by kernel_rfl⟩ ?_
    refine TL.next rfl ?_
    refine TC.ret ?_
    have e : IndexFunc_fine s = (-1) := by unfold IndexFunc_fine; exact elim_l (hR.symm.trans hJ) (rfl)
    exact TE.ret [] (.int .i64 (-1)) ⟨by kernel_rfl, by kernel_rfl⟩ (by rw [e]; first | done | kernel_rfl)

def ContainsFunc_fine (s : List Int) : Bool :=
  let r1 := IndexFunc_fine s
  decide (r1 ≥ 0)

set_option maxRecDepth 100000 in
theorem ContainsFunc_fine_w (A_s : Option Addr) (c_s : Nat) (s : List Int) (w : World) (h_s : Rd w 1 A_s (s.map ic)) (hc_s : s.length ≤ c_s) : Calls Try.prog 66 #[.slice A_s s.length c_s, .func (.func 67) #[] #[]] w (Ret w (.bool (ContainsFunc_fine s))) := by
  have s_s := h_s.short; rw [List.length_map] at s_s
  refine calls_intro (vs := [.slice A_s s.length c_s, .func (.func 67) #[] #[]]) (w := w) Try.func66 rfl Try.ntmps66 rfl ?_
  refine TC.weak [(0, .slice A_s s.length c_s), (1, .func (.func 67) #[] #[])] (by kernel_rfl) ?_
  refine TC.seq ?_
  refine TC.region ?_
  refine TL.run 1 [] [(0, .slice A_s s.length c_s), (1, .func (.func 67) #[] #[])] rfl ⟨by kernel_rfl, by kernel_rfl⟩ ?_
  refine TL.next rfl ?_
  refine TC.seq ?_
  refine TC.region ?_
  refine TL.run 2 [] [(5, .slice A_s s.length c_s), (6, .func (.func 67) #[] #[])] rfl ⟨by kernel_rfl, by kernel_rfl⟩ ?_
  refine TL.call (some 7) [(7, .int .i64 (IndexFunc_fine s))] (fun w hM => IndexFunc_fine_w A_s c_s s w (h_s.sat hM) hc_s) (by kernel_rfl) (by kernel_rfl) ?_
  generalize hr1 : IndexFunc_fine s = r1
  refine TL.run 5 [] [(4, .bool (decide (r1 ≥ 0)))] rfl ⟨by kernel_rfl, by kernel_rfl⟩ ?_
  refine TL.next rfl ?_
  refine TC.ret ?_
  have e : ContainsFunc_fine s = (decide (r1 ≥ 0)) := by subst hr1; unfold ContainsFunc_fine; exact rfl
  exact TE.ret [] (.bool (decide (r1 ≥ 0))) ⟨by kernel_rfl, by kernel_rfl⟩ (by rw [e]; first | done | kernel_rfl)

def skywaykeep2_fine (l : List Int) : Bool :=
  let r1 := ContainsFunc_fine l
  !r1

set_option maxRecDepth 100000 in
theorem skywaykeep2_fine_w (A_l : Option Addr) (c_l : Nat) (l : List Int) (w : World) (h_l : Rd w 1 A_l (l.map ic)) (hc_l : l.length ≤ c_l) : Calls Try.prog 32 #[.slice A_l l.length c_l] w (Ret w (.bool (skywaykeep2_fine l))) := by
  have s_l := h_l.short; rw [List.length_map] at s_l
  refine calls_intro (vs := [.slice A_l l.length c_l]) (w := w) Try.func32 rfl Try.ntmps32 rfl ?_
  refine TC.weak [(0, .slice A_l l.length c_l)] (by kernel_rfl) ?_
  refine TC.seq ?_
  refine TC.region ?_
  refine TL.run 1 [] [(0, .slice A_l l.length c_l)] rfl ⟨by kernel_rfl, by kernel_rfl⟩ ?_
  refine TL.next rfl ?_
  refine TC.seq ?_
  refine TC.region ?_
  refine TL.run 1 [] [(3, .slice A_l l.length c_l)] rfl ⟨by kernel_rfl, by kernel_rfl⟩ ?_
  refine TL.call (some 4) [(4, .bool ((ContainsFunc_fine l)))] (fun w hM => ContainsFunc_fine_w A_l c_l l w (h_l.sat hM) hc_l) (by kernel_rfl) (by kernel_rfl) ?_
  generalize hr1 : ContainsFunc_fine l = r1
  refine TL.run 4 [] [(2, .bool (!r1))] rfl ⟨by kernel_rfl, by kernel_rfl⟩ ?_
  refine TL.next rfl ?_
  refine TC.ret ?_
  have e : skywaykeep2_fine l = (!r1) := by subst hr1; unfold skywaykeep2_fine; exact rfl
  exact TE.ret [] (.bool (!r1)) ⟨by kernel_rfl, by kernel_rfl⟩ (by rw [e]; first | done | kernel_rfl)

def slices_Equal_api_Plot_api_Plot_L1 (s2 : List Plot) : List Plot → Nat → ((Unit) ⊕ (Bool))
  | [], _ => .inl ()
  | x :: xs, k => cond (!(Plot.eqb x (s2[k]?.getD Plot.zero))) (
      .inr false) (
      slices_Equal_api_Plot_api_Plot_L1 s2 xs (k + 1))
def slices_Equal_api_Plot_api_Plot (s1 : List Plot) (s2 : List Plot) : Bool :=
  cond ((s1.length : Int) != (s2.length : Int)) (
    false) (
    Sum.elim (fun _ =>
      true) (fun r => r) (slices_Equal_api_Plot_api_Plot_L1 s2 s1 0))

set_option maxRecDepth 100000 in
theorem slices_Equal_api_Plot_api_Plot_w (A_s1 : Option Addr) (c_s1 : Nat) (s1 : List Plot) (A_s2 : Option Addr) (c_s2 : Nat) (s2 : List Plot) (w : World) (h_s1 : Rd w 6 A_s1 (s1.map Plot.c)) (_hc_s1 : s1.length ≤ c_s1) (h_s2 : Rd w 6 A_s2 (s2.map Plot.c)) (_hc_s2 : s2.length ≤ c_s2) : Calls Try.prog 35 #[.slice A_s1 s1.length c_s1, .slice A_s2 s2.length c_s2] w (Ret w (.bool (slices_Equal_api_Plot_api_Plot s1 s2))) := by
  have s_s1 := h_s1.short; rw [List.length_map] at s_s1
  have s_s2 := h_s2.short; rw [List.length_map] at s_s2
  refine calls_intro (vs := [.slice A_s1 s1.length c_s1, .slice A_s2 s2.length c_s2]) (w := w) Try.func35 rfl Try.ntmps35 rfl ?_
  refine TC.weak [(0, .slice A_s1 s1.length c_s1), (1, .slice A_s2 s2.length c_s2)] (by kernel_rfl) ?_
  refine TC.seq ?_
  refine TC.region ?_
  refine TL.run 1 [] [(0, .slice A_s1 s1.length c_s1), (1, .slice A_s2 s2.length c_s2)] rfl ⟨by kernel_rfl, by kernel_rfl⟩ ?_
  refine TL.next rfl ?_
  refine TC.seq ?_
  refine TC.seq ?_
  refine TC.region ?_
  refine TL.run 5 [] [(0, .slice A_s1 s1.length c_s1), (1, .slice A_s2 s2.length c_s2), (10, .bool ((s1.length : Int) != (s2.length : Int)))] rfl ⟨by kernel_rfl, by kernel_rfl⟩ ?_
  refine TL.next rfl ?_
  refine TC.cond ((s1.length : Int) != (s2.length : Int)) rfl (by kernel_rfl) (fun h1 => ?_) (fun h1 => ?_)
  · refine TC.seq ?_
    refine TC.region ?_
    refine TL.run 1 [] [(4, .bool false)] rfl ⟨by kernel_rfl, by kernel_rfl⟩ ?_
    refine TL.next rfl ?_
    refine TC.ret ?_
    refine TE.ret_then ?_
    have e : slices_Equal_api_Plot_api_Plot s1 s2 = false := by unfold slices_Equal_api_Plot_api_Plot; exact cond_t h1 (rfl)
    exact TE.ret [] (.bool false) ⟨by kernel_rfl, by kernel_rfl⟩ (by rw [e]; first | done | kernel_rfl)
  · refine TC.skip ?_
    refine TE.next ?_
    refine TC.seq ?_
    refine TC.seq ?_
    refine TC.region ?_
    refine TL.run 3 [] [(0, .slice A_s1 s1.length c_s1), (1, .slice A_s2 s2.length c_s2), (12, .int .i64 (s1.length : Int)), (13, .int .i64 0)] rfl ⟨by kernel_rfl, by kernel_rfl⟩ ?_
    refine TL.next rfl ?_
    refine TC.weak [(0, .slice A_s1 s1.length c_s1), (1, .slice A_s2 s2.length c_s2), (12, .int .i64 (s1.length : Int)), (13, .int .i64 0)] (by kernel_rfl) ?_
    obtain ⟨R1, hR⟩ : ∃ R, R = slices_Equal_api_Plot_api_Plot_L1 s2 s1 0 := ⟨_, rfl⟩
    refine TC.cut (S := Unit) (fun (_ : Unit) => []) (fun (_ : Unit) => []) (fun (_ : Unit) => R1 = .inl ()) ?_ ?_
    · refine TC.block ?_
      refine TC.loop (X := Nat) (fun k => [(0, .slice A_s1 s1.length c_s1), (1, .slice A_s2 s2.length c_s2), (12, .int .i64 (s1.length : Int)), (13, .int .i64 (k : Int))]) (fun k => []) (fun k => s1.length - k) (fun k => k ≤ s1.length ∧ R1 = slices_Equal_api_Plot_api_Plot_L1 s2 (s1.drop k) k) ?_ 0 ⟨Nat.zero_le _, hR⟩
      rintro k ⟨hk, hI⟩
      refine TC.seq ?_
      refine TC.region ?_
      refine TL.run 1 [] [(0, .slice A_s1 s1.length c_s1), (1, .slice A_s2 s2.length c_s2), (12, .int .i64 (s1.length : Int)), (13, .int .i64 (k : Int)), (14, .bool (decide ((k : Int) < (s1.length : Int))))] rfl ⟨by kernel_rfl, by kernel_rfl⟩ ?_
      refine TL.next rfl ?_
      refine TC.seq ?_
      refine TC.cond (decide ((k : Int) < (s1.length : Int))) rfl (by kernel_rfl) (fun h2 => ?_) (fun h2 => ?_)
      · have hlt : k < s1.length := by have := of_decide_eq_true h2; first | omega | (simp at this; omega)
        obtain ⟨x, hx⟩ : ∃ e_, s1[k]? = some e_ := ⟨_, List.getElem?_eq_getElem hlt⟩
        have hd := drop_at hx
        refine TC.skip ?_
        refine TE.next ?_
        refine TC.seq ?_
        refine TC.block ?_
        refine TC.seq ?_
        refine TC.region ?_
        refine TL.run 2 [] [(0, .slice A_s1 s1.length c_s1), (1, .slice A_s2 s2.length c_s2), (5, .int .i64 (k : Int)), (12, .int .i64 (s1.length : Int)), (13, .int .i64 (k : Int))] rfl ⟨by kernel_rfl, by kernel_rfl⟩ ?_
        refine TL.next rfl ?_
        refine TC.seq ?_
        refine TC.draw 9 (by kernel_rfl) (by kernel_rfl) (by kernel_rfl) ?_
        refine TQ.run 2 [] [(0, .slice A_s1 s1.length c_s1), (1, .slice A_s2 s2.length c_s2), (5, .int .i64 (k : Int)), (12, .int .i64 (s1.length : Int)), (13, .int .i64 (k : Int)), (16, .slice A_s1 s1.length c_s1), (17, .int .i64 (k : Int))] rfl ⟨by kernel_rfl, by kernel_rfl⟩ ?_
        refine TQ.val (sV (Instr.indexAt 41 (.slice A_s1 s1.length c_s1) (.int .i64 (k : Int)))) (some 18) (.pointer (some ((A_s1.getD noAddr).add (k * 6)))) [(0, .slice A_s1 s1.length c_s1), (1, .slice A_s2 s2.length c_s2), (5, .int .i64 (k : Int)), (12, .int .i64 (s1.length : Int)), (13, .int .i64 (k : Int)), (18, .pointer (some ((A_s1.getD noAddr).add (k * 6))))] (fun w hM => run_index (h_s1.sat hM) (by simp) (by kernel_rfl) (by have q0_ := (bne_f h1); first | omega | (rw [List.length_set]; omega) | (rw [w64_id (by omega)]; omega) | (dsimp only; omega) | (rw [List.length_drop]; omega) | (simp only [w64_eq]; omega) | (simp only [List.length_take] at *; omega) | (simp <;> omega)) (by have q0_ := (bne_f h1); first | omega | (rw [List.length_set]; omega) | (rw [w64_id (by omega)]; omega) | (dsimp only; omega) | (rw [List.length_drop]; omega) | (simp only [w64_eq]; omega) | (simp only [List.length_take] at *; omega) | (simp <;> omega))) rfl (by kernel_rfl) (by kernel_rfl) ?_
        refine TQ.val (sV (Instr.loadAt 58 (.pointer (some ((A_s1.getD noAddr).add (k * 6)))))) (some 19) (Plot.v x) [(0, .slice A_s1 s1.length c_s1), (1, .slice A_s2 s2.length c_s2), (5, .int .i64 (k : Int)), (12, .int .i64 (s1.length : Int)), (13, .int .i64 (k : Int)), (19, Plot.v x)] (fun w hM => run_load_agg (n := 6) (off := 0) (i := k) (Plot.v x) (h_s1.sat hM) (map_at hx) (by kernel_rfl) (by kernel_rfl) (by kernel_rfl)) rfl (by kernel_rfl) (by kernel_rfl) ?_
        refine TQ.run 6 [] [(0, .slice A_s1 s1.length c_s1), (1, .slice A_s2 s2.length c_s2), (12, .int .i64 (s1.length : Int)), (13, .int .i64 (k : Int)), (19, Plot.v x), (20, .slice A_s2 s2.length c_s2), (21, .int .i64 (k : Int))] rfl ⟨by kernel_rfl, by kernel_rfl⟩ ?_
        refine TQ.val (sV (Instr.indexAt 41 (.slice A_s2 s2.length c_s2) (.int .i64 (k : Int)))) (some 22) (.pointer (some ((A_s2.getD noAddr).add (k * 6)))) [(0, .slice A_s1 s1.length c_s1), (1, .slice A_s2 s2.length c_s2), (12, .int .i64 (s1.length : Int)), (13, .int .i64 (k : Int)), (19, Plot.v x), (22, .pointer (some ((A_s2.getD noAddr).add (k * 6))))] (fun w hM => run_index (h_s2.sat hM) (by simp) (by kernel_rfl) (by have q0_ := (bne_f h1); first | omega | (rw [List.length_set]; omega) | (rw [w64_id (by omega)]; omega) | (dsimp only; omega) | (rw [List.length_drop]; omega) | (simp only [w64_eq]; omega) | (simp only [List.length_take] at *; omega) | (simp <;> omega)) (by have q0_ := (bne_f h1); first | omega | (rw [List.length_set]; omega) | (rw [w64_id (by omega)]; omega) | (dsimp only; omega) | (rw [List.length_drop]; omega) | (simp only [w64_eq]; omega) | (simp only [List.length_take] at *; omega) | (simp <;> omega))) rfl (by kernel_rfl) (by kernel_rfl) ?_
        refine TQ.val (sV (Instr.loadAt 58 (.pointer (some ((A_s2.getD noAddr).add (k * 6)))))) (some 23) (Plot.v (s2[k]?.getD Plot.zero)) [(0, .slice A_s1 s1.length c_s1), (1, .slice A_s2 s2.length c_s2), (12, .int .i64 (s1.length : Int)), (13, .int .i64 (k : Int)), (19, Plot.v x), (23, Plot.v (s2[k]?.getD Plot.zero))] (fun w hM => run_load_agg (n := 6) (off := 0) (i := k) (Plot.v (s2[k]?.getD Plot.zero)) (h_s2.sat hM) (map_at (getD_at _ _ Plot.zero (by have q0_ := (bne_f h1); first | omega | (rw [List.length_set]; omega) | (rw [w64_id (by omega)]; omega) | (dsimp only; omega) | (rw [List.length_drop]; omega) | (simp only [w64_eq]; omega) | (simp only [List.length_take] at *; omega) | (simp <;> omega)))) (by kernel_rfl) (by kernel_rfl) (by kernel_rfl)) rfl (by kernel_rfl) (by kernel_rfl) ?_
        refine TQ.val (sV (do eqGuard .neq 58 (.tmp 19) (.tmp 23) (Plot.v x) (Plot.v (s2[k]?.getD Plot.zero)); binOp .neq 58 (Plot.v x) (Plot.v (s2[k]?.getD Plot.zero)))) (some 24) (.bool (!(Plot.eqb x (s2[k]?.getD Plot.zero)))) [(0, .slice A_s1 s1.length c_s1), (1, .slice A_s2 s2.length c_s2), (12, .int .i64 (s1.length : Int)), (13, .int .i64 (k : Int)), (24, .bool (!(Plot.eqb x (s2[k]?.getD Plot.zero))))] (fun w hM => run_neq (b := Plot.eqb x (s2[k]?.getD Plot.zero)) (by kernel_rfl) (by kernel_rfl) w) rfl (by kernel_rfl) (by kernel_rfl) ?_
        refine TQ.next rfl ?_
        refine TC.cond (!(Plot.eqb x (s2[k]?.getD Plot.zero))) rfl (by kernel_rfl) (fun h3 => ?_) (fun h3 => ?_)
        · refine TC.seq ?_
          refine TC.region ?_
          refine TL.run 1 [] [(4, .bool false)] rfl ⟨by kernel_rfl, by kernel_rfl⟩ ?_
          refine TL.next rfl ?_
          refine TC.ret ?_
          refine TE.ret_block (TE.ret_then (TE.ret_then (TE.ret_block (TE.ret_then (TE.ret_then ?_)))))
          have e : slices_Equal_api_Plot_api_Plot s1 s2 = false := by unfold slices_Equal_api_Plot_api_Plot; exact cond_f h1 (elim_r (hR.symm.trans (hI.trans (by rw [hd]; exact cond_t h3 (rfl)))) rfl)
          exact TE.ret [] (.bool false) ⟨by kernel_rfl, by kernel_rfl⟩ (by rw [e]; first | done | kernel_rfl)
        · refine TC.skip ?_
          refine TE.normal_block ?_
          refine TE.next ?_
          refine TC.region ?_
          refine TL.run 2 [] [(0, .slice A_s1 s1.length c_s1), (1, .slice A_s2 s2.length c_s2), (12, .int .i64 (s1.length : Int)), (13, .int .i64 (w64 ((k : Int) + 1)))] rfl ⟨by kernel_rfl, by kernel_rfl⟩ ?_
          refine TL.done rfl ?_
          refine TE.rw 13 (.int .i64 (w64 ((k : Int) + 1))) (.int .i64 ((k + 1 : Nat) : Int)) (by kernel_rfl) (w64_cast k (by omega)) ?_
          exact TE.again (x := k) (k + 1) ⟨by omega, hI.trans (by rw [hd]; exact cond_f h3 (rfl))⟩ (by show s1.length - (k + 1) < s1.length - k; omega) (by kernel_rfl) (.slnil)
      · have hd : s1.drop k = [] := List.drop_eq_nil_of_le (by have := of_decide_eq_false h2; first | omega | (simp at this; omega))
        refine TC.exit ?_
        refine TE.exit_then (TE.exit_then (TE.exit_same ?_))
        exact TE.cut () (hI.trans (by rw [hd]; exact rfl)) (by kernel_rfl) (.slnil)
    · intro _ hJ
      refine TE.next ?_
      refine TC.seq ?_
      refine TC.region ?_
      refine TL.run 1 [] [(4, .bool true)] rfl ⟨by kernel_rfl, by kernel_rfl⟩ ?_
      refine TL.next rfl ?_
      refine TC.ret ?_
      have e : slices_Equal_api_Plot_api_Plot s1 s2 = true := by unfold slices_Equal_api_Plot_api_Plot; exact cond_f h1 (elim_l (hR.symm.trans hJ) (rfl))
      exact TE.ret [] (.bool true) ⟨by kernel_rfl, by kernel_rfl⟩ (by rw [e]; first | done | kernel_rfl)

end Go.Sky
