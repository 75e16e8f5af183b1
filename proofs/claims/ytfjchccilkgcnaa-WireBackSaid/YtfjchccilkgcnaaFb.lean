/- Functions of the program, each with the Lean function that it computes. Conditions: none. -/
import Derived.Test.YtfjchccilkgcnaaFa
import Derived.Test.YtfjchccilkgcnaaWire
import Derived.Test.YtfjchccilkgcnaaThick
import Derived.Test.YtfjchccilkgcnaaPass
import Derived.Test.YtfjchccilkgcnaaMark
namespace Go.Sky
open Go Go.Eng Go.Proofs
def wire_Check_L1 (f : WireFrame) : List Plot → Nat → ((Unit) ⊕ (Int))
  | [], _ => .inl ()
  | x :: xs, k => cond ((x.Radar != f.Radar) || (x.Time != f.Time)) (
      .inr 3) (
      cond ((((((((decide (x.Range < 0)) || (decide (x.Range > 2000000))) || (decide (x.Azimuth < 0))) || (decide (x.Azimuth > 4095))) || (decide (x.Height < 0))) || (decide (x.Height > 60000))) || (decide (x.Code < (-1)))) || (decide (x.Code > 4095))) (
        .inr 4) (
        wire_Check_L1 f xs (k + 1)))
def wire_Check (f : WireFrame) : Int :=
  cond (decide ((f.Plots.length : Int) > 32)) (
    2) (
    cond ((((decide (f.Radar < 0)) || (decide (f.Radar > 255))) || (decide (f.Time < 0))) || (decide (f.Time > 200000))) (
      4) (
      Sum.elim (fun _ =>
        0) (fun r => r) (wire_Check_L1 f f.Plots 0)))

set_option maxRecDepth 100000 in
theorem wire_Check_w (f : WireFrame) (A_f_Plots : Option Addr) (c_f_Plots : Nat) (w : World) (h_f_Plots : Rd w 6 A_f_Plots (f.Plots.map Plot.c)) (_hc_f_Plots : f.Plots.length ≤ c_f_Plots) : Calls Try.prog 56 #[.agg #[.int .i64 f.Radar, .int .i64 f.Time, .slice A_f_Plots f.Plots.length c_f_Plots]] w (Ret w (.int .i64 (wire_Check f))) := by
  have s_f_Plots := h_f_Plots.short; rw [List.length_map] at s_f_Plots
  refine calls_intro (vs := [.agg #[.int .i64 f.Radar, .int .i64 f.Time, .slice A_f_Plots f.Plots.length c_f_Plots]]) (w := w) Try.func56 rfl Try.ntmps56 rfl ?_
  refine TC.weak [(0, .agg #[.int .i64 f.Radar, .int .i64 f.Time, .slice A_f_Plots f.Plots.length c_f_Plots])] (by kernel_rfl) ?_
  refine TC.seq ?_
  refine TC.region ?_
  refine TL.write 0 (fun b1 => [(1, .pointer (some ⟨b1, 0, none⟩))]) (fun b1 => [.inl (b1, .cells #[.int .i64 f.Radar, .int .i64 f.Time, .slice A_f_Plots f.Plots.length c_f_Plots] 43 (0, 0))]) (fun b1 => ⟨by kernel_rfl, by kernel_rfl⟩) (fun b1 => ?_)
  refine TL.run 2 [] [(1, .pointer (some ⟨b1, 0, none⟩))] rfl ⟨by kernel_rfl, by kernel_rfl⟩ ?_
  refine TL.next rfl ?_
  refine TC.seq ?_
  refine TC.block ?_
  refine TC.seq ?_
  refine TC.region ?_
  refine TL.run 5 [0] [(1, .pointer (some ⟨b1, 0, none⟩)), (5, .bool (decide ((f.Plots.length : Int) > 32)))] rfl ⟨by kernel_rfl, by kernel_rfl⟩ ?_
  refine TL.next rfl ?_
  refine TC.cond (decide ((f.Plots.length : Int) > 32)) rfl (by kernel_rfl) (fun h1 => ?_) (fun h1 => ?_)
  · refine TC.seq ?_
    refine TC.region ?_
    refine TL.run 1 [] [(2, .int .i64 2)] rfl ⟨by kernel_rfl, by kernel_rfl⟩ ?_
    refine TL.next rfl ?_
    refine TC.ret ?_
    refine TE.ret_block (TE.ret_then ?_)
    have e : wire_Check f = 2 := by unfold wire_Check; exact cond_t h1 (rfl)
    exact TE.ret [] (.int .i64 2) ⟨by kernel_rfl, by kernel_rfl⟩ (by rw [e]; first | done | kernel_rfl)
  · refine TC.seq ?_
    refine TC.region ?_
    refine TL.run 4 [0] [(1, .pointer (some ⟨b1, 0, none⟩)), (14, .bool (decide (f.Radar < 0)))] rfl ⟨by kernel_rfl, by kernel_rfl⟩ ?_
    refine TL.join 14 (decide (f.Radar < 0)) 8 [] [0] (fun β => [(1, .pointer (some ⟨b1, 0, none⟩)), (18, .bool (β || (decide (f.Radar > 255))))]) (by kernel_rfl) rfl ⟨by kernel_rfl, by kernel_rfl⟩ ⟨by kernel_rfl, by kernel_rfl⟩ ?_
    refine TL.run 9 [] [(1, .pointer (some ⟨b1, 0, none⟩)), (19, .bool ((decide (f.Radar < 0)) || (decide (f.Radar > 255))))] rfl ⟨by kernel_rfl, by kernel_rfl⟩ ?_
    refine TL.join 19 ((decide (f.Radar < 0)) || (decide (f.Radar > 255))) 13 [] [0] (fun β => [(1, .pointer (some ⟨b1, 0, none⟩)), (23, .bool (β || (decide (f.Time < 0))))]) (by kernel_rfl) rfl ⟨by kernel_rfl, by kernel_rfl⟩ ⟨by kernel_rfl, by kernel_rfl⟩ ?_
    refine TL.run 14 [] [(1, .pointer (some ⟨b1, 0, none⟩)), (24, .bool (((decide (f.Radar < 0)) || (decide (f.Radar > 255))) || (decide (f.Time < 0))))] rfl ⟨by kernel_rfl, by kernel_rfl⟩ ?_
    refine TL.join 24 (((decide (f.Radar < 0)) || (decide (f.Radar > 255))) || (decide (f.Time < 0))) 18 [] [0] (fun β => [(1, .pointer (some ⟨b1, 0, none⟩)), (28, .bool (β || (decide (f.Time > 200000))))]) (by kernel_rfl) rfl ⟨by kernel_rfl, by kernel_rfl⟩ ⟨by kernel_rfl, by kernel_rfl⟩ ?_
    refine TL.run 19 [] [(1, .pointer (some ⟨b1, 0, none⟩)), (10, .bool ((((decide (f.Radar < 0)) || (decide (f.Radar > 255))) || (decide (f.Time < 0))) || (decide (f.Time > 200000))))] rfl ⟨by kernel_rfl, by kernel_rfl⟩ ?_
    refine TL.next rfl ?_
    refine TC.cond ((((decide (f.Radar < 0)) || (decide (f.Radar > 255))) || (decide (f.Time < 0))) || (decide (f.Time > 200000))) rfl (by kernel_rfl) (fun h2 => ?_) (fun h2 => ?_)
    · refine TC.seq ?_
      refine TC.region ?_
      refine TL.run 1 [] [(2, .int .i64 4)] rfl ⟨by kernel_rfl, by kernel_rfl⟩ ?_
      refine TL.next rfl ?_
      refine TC.ret ?_
      refine TE.ret_block (TE.ret_then ?_)
      have e : wire_Check f = 4 := by unfold wire_Check; exact cond_f h1 (cond_t h2 (rfl))
      exact TE.ret [] (.int .i64 4) ⟨by kernel_rfl, by kernel_rfl⟩ (by rw [e]; first | done | kernel_rfl)
    · refine TC.skip ?_
      refine TE.normal_block ?_
      refine TE.next ?_
      refine TC.seq ?_
      refine TC.seq ?_
      refine TC.region ?_
      refine TL.run 4 [0] [(1, .pointer (some ⟨b1, 0, none⟩)), (30, .slice A_f_Plots f.Plots.length c_f_Plots), (31, .int .i64 (f.Plots.length : Int)), (32, .int .i64 0)] rfl ⟨by kernel_rfl, by kernel_rfl⟩ ?_
      refine TL.next rfl ?_
      refine TC.weak [(1, .pointer (some ⟨b1, 0, none⟩)), (30, .slice A_f_Plots f.Plots.length c_f_Plots), (31, .int .i64 (f.Plots.length : Int)), (32, .int .i64 0)] (by kernel_rfl) ?_
      obtain ⟨R1, hR⟩ : ∃ R, R = wire_Check_L1 f f.Plots 0 := ⟨_, rfl⟩
      refine TC.cut (S := Unit) (fun (_ : Unit) => []) (fun (_ : Unit) => []) (fun (_ : Unit) => R1 = .inl ()) ?_ ?_
      · refine TC.block ?_
        refine TC.loop (X := Nat) (fun k => [(1, .pointer (some ⟨b1, 0, none⟩)), (30, .slice A_f_Plots f.Plots.length c_f_Plots), (31, .int .i64 (f.Plots.length : Int)), (32, .int .i64 (k : Int))]) (fun k => [.inl (b1, .cells #[.int .i64 f.Radar, .int .i64 f.Time, .slice A_f_Plots f.Plots.length c_f_Plots] 43 (0, 0))]) (fun k => f.Plots.length - k) (fun k => k ≤ f.Plots.length ∧ R1 = wire_Check_L1 f (f.Plots.drop k) k) ?_ 0 ⟨Nat.zero_le _, hR⟩
        rintro k ⟨hk, hI⟩
        refine TC.seq ?_
        refine TC.region ?_
        refine TL.run 1 [] [(1, .pointer (some ⟨b1, 0, none⟩)), (30, .slice A_f_Plots f.Plots.length c_f_Plots), (31, .int .i64 (f.Plots.length : Int)), (32, .int .i64 (k : Int)), (33, .bool (decide ((k : Int) < (f.Plots.length : Int))))] rfl ⟨by kernel_rfl, by kernel_rfl⟩ ?_
        refine TL.next rfl ?_
        refine TC.seq ?_
        refine TC.cond (decide ((k : Int) < (f.Plots.length : Int))) rfl (by kernel_rfl) (fun h3 => ?_) (fun h3 => ?_)
        · have hlt : k < f.Plots.length := by have := of_decide_eq_true h3; first | omega | (simp at this; omega)
          obtain ⟨x, hx⟩ : ∃ e_, f.Plots[k]? = some e_ := ⟨_, List.getElem?_eq_getElem hlt⟩
          have hd := drop_at hx
          refine TC.skip ?_
          refine TE.next ?_
          refine TC.seq ?_
          refine TC.block ?_
          refine TC.seq ?_
          refine TC.region ?_
          refine TL.val (sV (Instr.indexAt 41 (.slice A_f_Plots f.Plots.length c_f_Plots) (.int .i64 (k : Int)))) (some 34) (.pointer (some ((A_f_Plots.getD noAddr).add (k * 6)))) [(1, .pointer (some ⟨b1, 0, none⟩)), (30, .slice A_f_Plots f.Plots.length c_f_Plots), (31, .int .i64 (f.Plots.length : Int)), (32, .int .i64 (k : Int)), (34, .pointer (some ((A_f_Plots.getD noAddr).add (k * 6))))] (fun w hM => run_index (h_f_Plots.sat hM) (by simp) (by kernel_rfl) (by have q0_ := (dec_f h1); have q1_ := (dec_f (or_f1 (or_f1 (or_f1 h2)))); have q2_ := (dec_f (or_f2 (or_f1 (or_f1 h2)))); have q3_ := (dec_f (or_f2 (or_f1 h2))); have q4_ := (dec_f (or_f2 h2)); first | omega | (rw [List.length_set]; omega) | (rw [w64_id (by omega)]; omega) | (dsimp only; omega) | (rw [List.length_drop]; omega) | (simp only [w64_eq]; omega) | (simp only [List.length_take] at *; omega) | (simp <;> omega)) (by have q0_ := (dec_f h1); have q1_ := (dec_f (or_f1 (or_f1 (or_f1 h2)))); have q2_ := (dec_f (or_f2 (or_f1 (or_f1 h2)))); have q3_ := (dec_f (or_f2 (or_f1 h2))); have q4_ := (dec_f (or_f2 h2)); first | omega | (rw [List.length_set]; omega) | (rw [w64_id (by omega)]; omega) | (dsimp only; omega) | (rw [List.length_drop]; omega) | (simp only [w64_eq]; omega) | (simp only [List.length_take] at *; omega) | (simp <;> omega))) (by kernel_rfl) (by kernel_rfl) ?_
          refine TL.val (sV (Instr.loadAt 58 (.pointer (some ((A_f_Plots.getD noAddr).add (k * 6)))))) (some 35) (Plot.v x) [(1, .pointer (some ⟨b1, 0, none⟩)), (30, .slice A_f_Plots f.Plots.length c_f_Plots), (31, .int .i64 (f.Plots.length : Int)), (32, .int .i64 (k : Int)), (35, Plot.v x)] (fun w hM => run_load_agg (n := 6) (off := 0) (i := k) (Plot.v x) (h_f_Plots.sat hM) (map_at hx) (by kernel_rfl) (by kernel_rfl) (by kernel_rfl)) (by kernel_rfl) (by kernel_rfl) ?_
          refine TL.write 0 (fun b2 => [(1, .pointer (some ⟨b1, 0, none⟩)), (4, .pointer (some ⟨b2, 0, none⟩)), (30, .slice A_f_Plots f.Plots.length c_f_Plots), (31, .int .i64 (f.Plots.length : Int)), (32, .int .i64 (k : Int)), (35, Plot.v x)]) (fun b2 => [.inl (b2, .cells (Plot.c Plot.zero) 58 (0, 0)), .inl (b1, .cells #[.int .i64 f.Radar, .int .i64 f.Time, .slice A_f_Plots f.Plots.length c_f_Plots] 43 (0, 0))]) (fun b2 => ⟨by kernel_rfl, by kernel_rfl⟩) (fun b2 => ?_)
          refine TL.write 0 (fun _ => [(1, .pointer (some ⟨b1, 0, none⟩)), (4, .pointer (some ⟨b2, 0, none⟩)), (30, .slice A_f_Plots f.Plots.length c_f_Plots), (31, .int .i64 (f.Plots.length : Int)), (32, .int .i64 (k : Int))]) (fun _ => [.inl (b2, .cells (Plot.c x) 58 (0, 0)), .inl (b1, .cells #[.int .i64 f.Radar, .int .i64 f.Time, .slice A_f_Plots f.Plots.length c_f_Plots] 43 (0, 0))]) (fun _ => ⟨by kernel_rfl, by kernel_rfl⟩) (fun _ => ?_)
          refine TL.next rfl ?_
          refine TC.seq ?_
          refine TC.seq ?_
          refine TC.region ?_
          refine TL.run 6 [0, 1] [(1, .pointer (some ⟨b1, 0, none⟩)), (4, .pointer (some ⟨b2, 0, none⟩)), (30, .slice A_f_Plots f.Plots.length c_f_Plots), (31, .int .i64 (f.Plots.length : Int)), (32, .int .i64 (k : Int)), (41, .bool (x.Radar != f.Radar))] rfl ⟨by kernel_rfl, by kernel_rfl⟩ ?_
          refine TL.join 41 (x.Radar != f.Radar) 12 [] [0, 1] (fun β => [(1, .pointer (some ⟨b1, 0, none⟩)), (4, .pointer (some ⟨b2, 0, none⟩)), (30, .slice A_f_Plots f.Plots.length c_f_Plots), (31, .int .i64 (f.Plots.length : Int)), (32, .int .i64 (k : Int)), (47, .bool (β || (x.Time != f.Time)))]) (by kernel_rfl) rfl ⟨by kernel_rfl, by kernel_rfl⟩ ⟨by kernel_rfl, by kernel_rfl⟩ ?_
          refine TL.next rfl ?_
          refine TC.cond ((x.Radar != f.Radar) || (x.Time != f.Time)) rfl (by kernel_rfl) (fun h4 => ?_) (fun h4 => ?_)
          · refine TC.seq ?_
            refine TC.region ?_
            refine TL.run 1 [] [(2, .int .i64 3)] rfl ⟨by kernel_rfl, by kernel_rfl⟩ ?_
            refine TL.next rfl ?_
            refine TC.ret ?_
            refine TE.ret_then (TE.ret_block (TE.ret_then (TE.ret_then (TE.ret_block (TE.ret_then (TE.ret_then ?_))))))
            have e : wire_Check f = 3 := by unfold wire_Check; exact cond_f h1 (cond_f h2 (elim_r (hR.symm.trans (hI.trans (by rw [hd]; exact cond_t h4 (rfl)))) rfl))
            exact TE.ret [] (.int .i64 3) ⟨by kernel_rfl, by kernel_rfl⟩ (by rw [e]; first | done | kernel_rfl)
          · refine TC.skip ?_
            refine TE.next ?_
            refine TC.seq ?_
            refine TC.region ?_
            refine TL.run 4 [0] [(1, .pointer (some ⟨b1, 0, none⟩)), (4, .pointer (some ⟨b2, 0, none⟩)), (30, .slice A_f_Plots f.Plots.length c_f_Plots), (31, .int .i64 (f.Plots.length : Int)), (32, .int .i64 (k : Int)), (51, .bool (decide (x.Range < 0)))] rfl ⟨by kernel_rfl, by kernel_rfl⟩ ?_
            refine TL.join 51 (decide (x.Range < 0)) 8 [] [0] (fun β => [(1, .pointer (some ⟨b1, 0, none⟩)), (4, .pointer (some ⟨b2, 0, none⟩)), (30, .slice A_f_Plots f.Plots.length c_f_Plots), (31, .int .i64 (f.Plots.length : Int)), (32, .int .i64 (k : Int)), (55, .bool (β || (decide (x.Range > 2000000))))]) (by kernel_rfl) rfl ⟨by kernel_rfl, by kernel_rfl⟩ ⟨by kernel_rfl, by kernel_rfl⟩ ?_
            refine TL.run 9 [] [(1, .pointer (some ⟨b1, 0, none⟩)), (4, .pointer (some ⟨b2, 0, none⟩)), (30, .slice A_f_Plots f.Plots.length c_f_Plots), (31, .int .i64 (f.Plots.length : Int)), (32, .int .i64 (k : Int)), (56, .bool ((decide (x.Range < 0)) || (decide (x.Range > 2000000))))] rfl ⟨by kernel_rfl, by kernel_rfl⟩ ?_
            refine TL.join 56 ((decide (x.Range < 0)) || (decide (x.Range > 2000000))) 13 [] [0] (fun β => [(1, .pointer (some ⟨b1, 0, none⟩)), (4, .pointer (some ⟨b2, 0, none⟩)), (30, .slice A_f_Plots f.Plots.length c_f_Plots), (31, .int .i64 (f.Plots.length : Int)), (32, .int .i64 (k : Int)), (60, .bool (β || (decide (x.Azimuth < 0))))]) (by kernel_rfl) rfl ⟨by kernel_rfl, by kernel_rfl⟩ ⟨by kernel_rfl, by kernel_rfl⟩ ?_
            refine TL.run 14 [] [(1, .pointer (some ⟨b1, 0, none⟩)), (4, .pointer (some ⟨b2, 0, none⟩)), (30, .slice A_f_Plots f.Plots.length c_f_Plots), (31, .int .i64 (f.Plots.length : Int)), (32, .int .i64 (k : Int)), (61, .bool (((decide (x.Range < 0)) || (decide (x.Range > 2000000))) || (decide (x.Azimuth < 0))))] rfl ⟨by kernel_rfl, by kernel_rfl⟩ ?_
            refine TL.join 61 (((decide (x.Range < 0)) || (decide (x.Range > 2000000))) || (decide (x.Azimuth < 0))) 18 [] [0] (fun β => [(1, .pointer (some ⟨b1, 0, none⟩)), (4, .pointer (some ⟨b2, 0, none⟩)), (30, .slice A_f_Plots f.Plots.length c_f_Plots), (31, .int .i64 (f.Plots.length : Int)), (32, .int .i64 (k : Int)), (65, .bool (β || (decide (x.Azimuth > 4095))))]) (by kernel_rfl) rfl ⟨by kernel_rfl, by kernel_rfl⟩ ⟨by kernel_rfl, by kernel_rfl⟩ ?_
            refine TL.run 19 [] [(1, .pointer (some ⟨b1, 0, none⟩)), (4, .pointer (some ⟨b2, 0, none⟩)), (30, .slice A_f_Plots f.Plots.length c_f_Plots), (31, .int .i64 (f.Plots.length : Int)), (32, .int .i64 (k : Int)), (66, .bool ((((decide (x.Range < 0)) || (decide (x.Range > 2000000))) || (decide (x.Azimuth < 0))) || (decide (x.Azimuth > 4095))))] rfl ⟨by kernel_rfl, by kernel_rfl⟩ ?_
            refine TL.join 66 ((((decide (x.Range < 0)) || (decide (x.Range > 2000000))) || (decide (x.Azimuth < 0))) || (decide (x.Azimuth > 4095))) 23 [] [0] (fun β => [(1, .pointer (some ⟨b1, 0, none⟩)), (4, .pointer (some ⟨b2, 0, none⟩)), (30, .slice A_f_Plots f.Plots.length c_f_Plots), (31, .int .i64 (f.Plots.length : Int)), (32, .int .i64 (k : Int)), (70, .bool (β || (decide (x.Height < 0))))]) (by kernel_rfl) rfl ⟨by kernel_rfl, by kernel_rfl⟩ ⟨by kernel_rfl, by kernel_rfl⟩ ?_
            refine TL.run 24 [] [(1, .pointer (some ⟨b1, 0, none⟩)), (4, .pointer (some ⟨b2, 0, none⟩)), (30, .slice A_f_Plots f.Plots.length c_f_Plots), (31, .int .i64 (f.Plots.length : Int)), (32, .int .i64 (k : Int)), (71, .bool (((((decide (x.Range < 0)) || (decide (x.Range > 2000000))) || (decide (x.Azimuth < 0))) || (decide (x.Azimuth > 4095))) || (decide (x.Height < 0))))] rfl ⟨by kernel_rfl, by kernel_rfl⟩ ?_
            refine TL.join 71 (((((decide (x.Range < 0)) || (decide (x.Range > 2000000))) || (decide (x.Azimuth < 0))) || (decide (x.Azimuth > 4095))) || (decide (x.Height < 0))) 28 [] [0] (fun β => [(1, .pointer (some ⟨b1, 0, none⟩)), (4, .pointer (some ⟨b2, 0, none⟩)), (30, .slice A_f_Plots f.Plots.length c_f_Plots), (31, .int .i64 (f.Plots.length : Int)), (32, .int .i64 (k : Int)), (75, .bool (β || (decide (x.Height > 60000))))]) (by kernel_rfl) rfl ⟨by kernel_rfl, by kernel_rfl⟩ ⟨by kernel_rfl, by kernel_rfl⟩ ?_
            refine TL.run 29 [] [(1, .pointer (some ⟨b1, 0, none⟩)), (4, .pointer (some ⟨b2, 0, none⟩)), (30, .slice A_f_Plots f.Plots.length c_f_Plots), (31, .int .i64 (f.Plots.length : Int)), (32, .int .i64 (k : Int)), (76, .bool ((((((decide (x.Range < 0)) || (decide (x.Range > 2000000))) || (decide (x.Azimuth < 0))) || (decide (x.Azimuth > 4095))) || (decide (x.Height < 0))) || (decide (x.Height > 60000))))] rfl ⟨by kernel_rfl, by kernel_rfl⟩ ?_
            refine TL.join 76 ((((((decide (x.Range < 0)) || (decide (x.Range > 2000000))) || (decide (x.Azimuth < 0))) || (decide (x.Azimuth > 4095))) || (decide (x.Height < 0))) || (decide (x.Height > 60000))) 33 [] [0] (fun β => [(1, .pointer (some ⟨b1, 0, none⟩)), (4, .pointer (some ⟨b2, 0, none⟩)), (30, .slice A_f_Plots f.Plots.length c_f_Plots), (31, .int .i64 (f.Plots.length : Int)), (32, .int .i64 (k : Int)), (80, .bool (β || (decide (x.Code < (-1)))))]) (by kernel_rfl) rfl ⟨by kernel_rfl, by kernel_rfl⟩ ⟨by kernel_rfl, by kernel_rfl⟩ ?_
            refine TL.run 34 [] [(1, .pointer (some ⟨b1, 0, none⟩)), (4, .pointer (some ⟨b2, 0, none⟩)), (30, .slice A_f_Plots f.Plots.length c_f_Plots), (31, .int .i64 (f.Plots.length : Int)), (32, .int .i64 (k : Int)), (81, .bool (((((((decide (x.Range < 0)) || (decide (x.Range > 2000000))) || (decide (x.Azimuth < 0))) || (decide (x.Azimuth > 4095))) || (decide (x.Height < 0))) || (decide (x.Height > 60000))) || (decide (x.Code < (-1)))))] rfl ⟨by kernel_rfl, by kernel_rfl⟩ ?_
            refine TL.join 81 (((((((decide (x.Range < 0)) || (decide (x.Range > 2000000))) || (decide (x.Azimuth < 0))) || (decide (x.Azimuth > 4095))) || (decide (x.Height < 0))) || (decide (x.Height > 60000))) || (decide (x.Code < (-1)))) 38 [] [0] (fun β => [(1, .pointer (some ⟨b1, 0, none⟩)), (30, .slice A_f_Plots f.Plots.length c_f_Plots), (31, .int .i64 (f.Plots.length : Int)), (32, .int .i64 (k : Int)), (85, .bool (β || (decide (x.Code > 4095))))]) (by kernel_rfl) rfl ⟨by kernel_rfl, by kernel_rfl⟩ ⟨by kernel_rfl, by kernel_rfl⟩ ?_
            refine TL.next rfl ?_
            refine TC.cond ((((((((decide (x.Range < 0)) || (decide (x.Range > 2000000))) || (decide (x.Azimuth < 0))) || (decide (x.Azimuth > 4095))) || (decide (x.Height < 0))) || (decide (x.Height > 60000))) || (decide (x.Code < (-1)))) || (decide (x.Code > 4095))) rfl (by kernel_rfl) (fun h5 => ?_) (fun h5 => ?_)
            · refine TC.seq ?_
              refine TC.region ?_
              refine TL.run 1 [] [(2, .int .i64 4)] rfl ⟨by kernel_rfl, by kernel_rfl⟩ ?_
              refine TL.next rfl ?_
              refine TC.ret ?_
              refine TE.ret_block (TE.ret_then (TE.ret_then (TE.ret_block (TE.ret_then (TE.ret_then ?_)))))
              have e : wire_Check f = 4 := by unfold wire_Check; exact cond_f h1 (cond_f h2 (elim_r (hR.symm.trans (hI.trans (by rw [hd]; exact cond_f h4 (cond_t h5 (rfl))))) rfl))
              exact TE.ret [] (.int .i64 4) ⟨by kernel_rfl, by kernel_rfl⟩ (by rw [e]; first | done | kernel_rfl)
            · refine TC.skip ?_
              refine TE.normal_block ?_
              refine TE.next ?_
              refine TC.region ?_
              refine TL.run 2 [] [(1, .pointer (some ⟨b1, 0, none⟩)), (30, .slice A_f_Plots f.Plots.length c_f_Plots), (31, .int .i64 (f.Plots.length : Int)), (32, .int .i64 (w64 ((k : Int) + 1)))] rfl ⟨by kernel_rfl, by kernel_rfl⟩ ?_
              refine TL.done rfl ?_
              refine TE.rw 32 (.int .i64 (w64 ((k : Int) + 1))) (.int .i64 ((k + 1 : Nat) : Int)) (by kernel_rfl) (w64_cast k (by omega)) ?_
              exact TE.again (x := k) (k + 1) ⟨by omega, hI.trans (by rw [hd]; exact cond_f h4 (cond_f h5 (rfl)))⟩ (by show f.Plots.length - (k + 1) < f.Plots.length - k; omega) (by kernel_rfl) (.cons _ (.cons_cons _ (.slnil)))
        · have hd : f.Plots.drop k = [] := List.drop_eq_nil_of_le (by have := of_decide_eq_false h3; first | omega | (simp at this; omega))
          refine TC.exit ?_
          refine TE.exit_then (TE.exit_then (TE.exit_same ?_))
          exact TE.cut () (hI.trans (by rw [hd]; exact rfl)) (by kernel_rfl) (.cons _ (.slnil))
      · intro _ hJ
        refine TE.next ?_
        refine TC.seq ?_
        refine TC.region ?_
        refine TL.run 1 [] [(2, .int .i64 0)] rfl ⟨by kernel_rfl, by kernel_rfl⟩ ?_
        refine TL.next rfl ?_
        refine TC.ret ?_
        have e : wire_Check f = 0 := by unfold wire_Check; exact cond_f h1 (cond_f h2 (elim_l (hR.symm.trans hJ) (rfl)))
        exact TE.ret [] (.int .i64 0) ⟨by kernel_rfl, by kernel_rfl⟩ (by rw [e]; first | done | kernel_rfl)

def wire_Sum_L1 (s : ByteArray) : Nat → Nat → Int → Int → (Int × Int)
  | 0, _, a, b_ => (a, b_)
  | m + 1, k, a, b_ => wire_Sum_L1 s m (k + 1) ((w64 (a + (w64 (bat s k)))).tmod 255) ((w64 (((w64 (a + (w64 (bat s k)))).tmod 255) + b_)).tmod 255)
def wire_Sum (s : ByteArray) : Int :=
  bindv (wire_Sum_L1 s s.size 0 0 0) (fun (a_2, b__2) =>
    w64 ((w64 (256 * b__2)) + a_2))

set_option maxRecDepth 100000 in
theorem wire_Sum_w (s : ByteArray) (w : World) (hs : s.size ≤ 140737488355328) : Calls Try.prog 54 #[.string s] w (Ret w (.int .i64 (wire_Sum s))) := by
  refine calls_intro (vs := [.string s]) (w := w) Try.func54 rfl Try.ntmps54 rfl ?_
  refine TC.weak [(0, .string s)] (by kernel_rfl) ?_
  refine TC.seq ?_
  refine TC.region ?_
  refine TL.run 1 [] [(0, .string s)] rfl ⟨by kernel_rfl, by kernel_rfl⟩ ?_
  refine TL.next rfl ?_
  refine TC.seq ?_
  refine TC.region ?_
  refine TL.run 2 [] [(0, .string s), (3, .int .i64 0), (4, .int .i64 0)] rfl ⟨by kernel_rfl, by kernel_rfl⟩ ?_
  refine TL.next rfl ?_
  refine TC.seq ?_
  refine TC.seq ?_
  refine TC.region ?_
  refine TL.run 3 [] [(0, .string s), (3, .int .i64 0), (4, .int .i64 0), (7, .int .i64 (s.size : Int)), (8, .int .i64 0)] rfl ⟨by kernel_rfl, by kernel_rfl⟩ ?_
  refine TL.next rfl ?_
  refine TC.weak [(0, .string s), (3, .int .i64 0), (4, .int .i64 0), (7, .int .i64 (s.size : Int)), (8, .int .i64 0)] (by kernel_rfl) ?_
  obtain ⟨R1, hR⟩ : ∃ R, R = wire_Sum_L1 s s.size 0 0 0 := ⟨_, rfl⟩
  refine TC.cut (S := Int × Int) (fun (a_2, b__2) => [(3, .int .i64 a_2), (4, .int .i64 b__2)]) (fun (a_2, b__2) => []) (fun (a_2, b__2) => R1 = (a_2, b__2)) ?_ ?_
  · refine TC.block ?_
    refine TC.loop (X := Nat × Int × Int) (fun (k, a, b_) => [(0, .string s), (3, .int .i64 a), (4, .int .i64 b_), (7, .int .i64 (s.size : Int)), (8, .int .i64 (k : Int))]) (fun (k, a, b_) => []) (fun (k, a, b_) => s.size - k) (fun (k, a, b_) => k ≤ s.size ∧ R1 = wire_Sum_L1 s (s.size - k) k a b_) ?_ (0, 0, 0) ⟨Nat.zero_le _, hR⟩
    rintro ⟨k, a, b_⟩ ⟨hk, hI⟩
    refine TC.seq ?_
    refine TC.region ?_
    refine TL.run 1 [] [(0, .string s), (3, .int .i64 a), (4, .int .i64 b_), (7, .int .i64 (s.size : Int)), (8, .int .i64 (k : Int)), (9, .bool (decide ((k : Int) < (s.size : Int))))] rfl ⟨by kernel_rfl, by kernel_rfl⟩ ?_
    refine TL.next rfl ?_
    refine TC.seq ?_
    refine TC.cond (decide ((k : Int) < (s.size : Int))) rfl (by kernel_rfl) (fun h1 => ?_) (fun h1 => ?_)
    · have hlt : k < s.size := by have := of_decide_eq_true h1; first | omega | (simp at this; omega)
      have hd : s.size - k = (s.size - (k + 1)) + 1 := by omega
      refine TC.skip ?_
      refine TE.next ?_
      refine TC.seq ?_
      refine TC.block ?_
      refine TC.seq ?_
      refine TC.region ?_
      refine TL.run 2 [] [(0, .string s), (3, .int .i64 a), (4, .int .i64 b_), (5, .int .i64 (k : Int)), (7, .int .i64 (s.size : Int)), (8, .int .i64 (k : Int))] rfl ⟨by kernel_rfl, by kernel_rfl⟩ ?_
      refine TL.next rfl ?_
      refine TC.seq ?_
      refine TC.region ?_
      refine TL.run 3 [] [(0, .string s), (4, .int .i64 b_), (7, .int .i64 (s.size : Int)), (8, .int .i64 (k : Int)), (11, .int .i64 a), (12, .string s), (13, .int .i64 (k : Int))] rfl ⟨by kernel_rfl, by kernel_rfl⟩ ?_
      refine TL.val (sV (Instr.index 9 (.string s) (.int .i64 (k : Int)))) (some 14) (.int .u8 (bat s k)) [(0, .string s), (4, .int .i64 b_), (7, .int .i64 (s.size : Int)), (8, .int .i64 (k : Int)), (11, .int .i64 a), (14, .int .u8 (bat s k))] (fun w hM => run_str_index (by kernel_rfl) (by first | omega | (rw [List.length_set]; omega) | (rw [w64_id (by omega)]; omega) | (dsimp only; omega) | (rw [List.length_drop]; omega) | (simp only [w64_eq]; omega) | exact (tm_in (by (first | (rw [w64_id (by omega)]; omega) | (simp only [w64_eq]; omega))) (by omega)).1 | exact (tm_in (by (first | (rw [w64_id (by omega)]; omega) | (simp only [w64_eq]; omega))) (by omega)).2.1 | exact (tm_in (by (first | (rw [w64_id (by omega)]; omega) | (simp only [w64_eq]; omega))) (by omega)).2.2 | (simp only [List.length_take] at *; omega) | (simp <;> omega)) (by first | omega | (rw [List.length_set]; omega) | (rw [w64_id (by omega)]; omega) | (dsimp only; omega) | (rw [List.length_drop]; omega) | (simp only [w64_eq]; omega) | exact (tm_in (by (first | (rw [w64_id (by omega)]; omega) | (simp only [w64_eq]; omega))) (by omega)).1 | exact (tm_in (by (first | (rw [w64_id (by omega)]; omega) | (simp only [w64_eq]; omega))) (by omega)).2.1 | exact (tm_in (by (first | (rw [w64_id (by omega)]; omega) | (simp only [w64_eq]; omega))) (by omega)).2.2 | (simp only [List.length_take] at *; omega) | (simp <;> omega))) (by kernel_rfl) (by kernel_rfl) ?_
      refine TL.run 8 [] [(0, .string s), (3, .int .i64 ((w64 (a + (w64 (bat s k)))).tmod 255)), (4, .int .i64 b_), (7, .int .i64 (s.size : Int)), (8, .int .i64 (k : Int))] rfl ⟨by kernel_rfl, by kernel_rfl⟩ ?_
      refine TL.next rfl ?_
      refine TC.region ?_
      refine TL.run 5 [] [(0, .string s), (3, .int .i64 ((w64 (a + (w64 (bat s k)))).tmod 255)), (4, .int .i64 ((w64 (((w64 (a + (w64 (bat s k)))).tmod 255) + b_)).tmod 255)), (7, .int .i64 (s.size : Int)), (8, .int .i64 (k : Int))] rfl ⟨by kernel_rfl, by kernel_rfl⟩ ?_
      refine TL.done rfl ?_
      refine TE.normal_block ?_
      refine TE.next ?_
      refine TC.region ?_
      refine TL.run 2 [] [(0, .string s), (3, .int .i64 ((w64 (a + (w64 (bat s k)))).tmod 255)), (4, .int .i64 ((w64 (((w64 (a + (w64 (bat s k)))).tmod 255) + b_)).tmod 255)), (7, .int .i64 (s.size : Int)), (8, .int .i64 (w64 ((k : Int) + 1)))] rfl ⟨by kernel_rfl, by kernel_rfl⟩ ?_
      refine TL.done rfl ?_
      refine TE.rw 8 (.int .i64 (w64 ((k : Int) + 1))) (.int .i64 ((k + 1 : Nat) : Int)) (by kernel_rfl) (w64_cast k (by omega)) ?_
      exact TE.again (x := (k, a, b_)) (k + 1, (w64 (a + (w64 (bat s k)))).tmod 255, (w64 (((w64 (a + (w64 (bat s k)))).tmod 255) + b_)).tmod 255) ⟨by omega, hI.trans (by rw [hd]; exact rfl)⟩ (by show s.size - (k + 1) < s.size - k; omega) (by kernel_rfl) (.slnil)
    · have hd : s.size - k = 0 := by have := of_decide_eq_false h1; first | omega | (simp at this; omega)
      refine TC.exit ?_
      refine TE.exit_then (TE.exit_then (TE.exit_same ?_))
      exact TE.cut (a, b_) (hI.trans (by rw [hd]; exact rfl)) (by kernel_rfl) (.slnil)
  · rintro ⟨a_2, b__2⟩ hJ
    refine TE.next ?_
    refine TC.seq ?_
    refine TC.region ?_
    refine TL.run 5 [] [(2, .int .i64 (w64 ((w64 (256 * b__2)) + a_2)))] rfl ⟨by kernel_rfl, by kernel_rfl⟩ ?_
    refine TL.next rfl ?_
    refine TC.ret ?_
    have e : wire_Sum s = (w64 ((w64 (256 * b__2)) + a_2)) := by unfold wire_Sum; exact bindv_eq (hR.symm.trans hJ) (rfl)
    exact TE.ret [] (.int .i64 (w64 ((w64 (256 * b__2)) + a_2))) ⟨by kernel_rfl, by kernel_rfl⟩ (by rw [e]; first | done | kernel_rfl)

def wire_get_L1 (s : ByteArray) : Nat → Nat → Int → Int
  | 0, _, n => n
  | m + 1, k, n => wire_get_L1 s m (k + 1) (kor .u64 (wu64 (n * 2 ^ 8)) (wu64 (bat s k)))
def wire_get (s : ByteArray) : Int :=
  bindv (wire_get_L1 s s.size 0 0) (fun n_2 =>
    n_2)

set_option maxRecDepth 100000 in
theorem wire_get_w (s : ByteArray) (w : World) (hs : s.size ≤ 140737488355328) : Calls Try.prog 53 #[.string s] w (Ret w (.int .u64 (wire_get s))) := by
  refine calls_intro (vs := [.string s]) (w := w) Try.func53 rfl Try.ntmps53 rfl ?_
  refine TC.weak [(0, .string s)] (by kernel_rfl) ?_
  refine TC.seq ?_
  refine TC.region ?_
  refine TL.run 1 [] [(0, .string s)] rfl ⟨by kernel_rfl, by kernel_rfl⟩ ?_
  refine TL.next rfl ?_
  refine TC.seq ?_
  refine TC.region ?_
  refine TL.run 1 [] [(0, .string s), (3, .int .u64 0)] rfl ⟨by kernel_rfl, by kernel_rfl⟩ ?_
  refine TL.next rfl ?_
  refine TC.seq ?_
  refine TC.seq ?_
  refine TC.region ?_
  refine TL.run 3 [] [(0, .string s), (3, .int .u64 0), (6, .int .i64 (s.size : Int)), (7, .int .i64 0)] rfl ⟨by kernel_rfl, by kernel_rfl⟩ ?_
  refine TL.next rfl ?_
  refine TC.weak [(0, .string s), (3, .int .u64 0), (6, .int .i64 (s.size : Int)), (7, .int .i64 0)] (by kernel_rfl) ?_
  obtain ⟨R1, hR⟩ : ∃ R, R = wire_get_L1 s s.size 0 0 := ⟨_, rfl⟩
  refine TC.cut (S := Int) (fun n_2 => [(3, .int .u64 n_2)]) (fun n_2 => []) (fun n_2 => R1 = n_2) ?_ ?_
  · refine TC.block ?_
    refine TC.loop (X := Nat × Int) (fun (k, n) => [(0, .string s), (3, .int .u64 n), (6, .int .i64 (s.size : Int)), (7, .int .i64 (k : Int))]) (fun (k, n) => []) (fun (k, n) => s.size - k) (fun (k, n) => k ≤ s.size ∧ R1 = wire_get_L1 s (s.size - k) k n) ?_ (0, 0) ⟨Nat.zero_le _, hR⟩
    rintro ⟨k, n⟩ ⟨hk, hI⟩
    refine TC.seq ?_
    refine TC.region ?_
    refine TL.run 1 [] [(0, .string s), (3, .int .u64 n), (6, .int .i64 (s.size : Int)), (7, .int .i64 (k : Int)), (8, .bool (decide ((k : Int) < (s.size : Int))))] rfl ⟨by kernel_rfl, by kernel_rfl⟩ ?_
    refine TL.next rfl ?_
    refine TC.seq ?_
    refine TC.cond (decide ((k : Int) < (s.size : Int))) rfl (by kernel_rfl) (fun h1 => ?_) (fun h1 => ?_)
    · have hlt : k < s.size := by have := of_decide_eq_true h1; first | omega | (simp at this; omega)
      have hd : s.size - k = (s.size - (k + 1)) + 1 := by omega
      refine TC.skip ?_
      refine TE.next ?_
      refine TC.seq ?_
      refine TC.block ?_
      refine TC.seq ?_
      refine TC.region ?_
      refine TL.run 2 [] [(0, .string s), (3, .int .u64 n), (4, .int .i64 (k : Int)), (6, .int .i64 (s.size : Int)), (7, .int .i64 (k : Int))] rfl ⟨by kernel_rfl, by kernel_rfl⟩ ?_
      refine TL.next rfl ?_
      refine TC.region ?_
      refine TL.run 4 [] [(0, .string s), (6, .int .i64 (s.size : Int)), (7, .int .i64 (k : Int)), (11, .int .u64 (wu64 (n * 2 ^ 8))), (12, .string s), (13, .int .i64 (k : Int))] rfl ⟨by kernel_rfl, by kernel_rfl⟩ ?_
      refine TL.val (sV (Instr.index 9 (.string s) (.int .i64 (k : Int)))) (some 14) (.int .u8 (bat s k)) [(0, .string s), (6, .int .i64 (s.size : Int)), (7, .int .i64 (k : Int)), (11, .int .u64 (wu64 (n * 2 ^ 8))), (14, .int .u8 (bat s k))] (fun w hM => run_str_index (by kernel_rfl) (by first | omega | (rw [List.length_set]; omega) | (rw [w64_id (by omega)]; omega) | (dsimp only; omega) | (rw [List.length_drop]; omega) | (simp only [w64_eq]; omega) | (simp only [List.length_take] at *; omega) | (simp <;> omega)) (by first | omega | (rw [List.length_set]; omega) | (rw [w64_id (by omega)]; omega) | (dsimp only; omega) | (rw [List.length_drop]; omega) | (simp only [w64_eq]; omega) | (simp only [List.length_take] at *; omega) | (simp <;> omega))) (by kernel_rfl) (by kernel_rfl) ?_
      refine TL.run 8 [] [(0, .string s), (3, .int .u64 (kor .u64 (wu64 (n * 2 ^ 8)) (wu64 (bat s k)))), (6, .int .i64 (s.size : Int)), (7, .int .i64 (k : Int))] rfl ⟨by kernel_rfl, by kernel_rfl⟩ ?_
      refine TL.done rfl ?_
      refine TE.normal_block ?_
      refine TE.next ?_
      refine TC.region ?_
      refine TL.run 2 [] [(0, .string s), (3, .int .u64 (kor .u64 (wu64 (n * 2 ^ 8)) (wu64 (bat s k)))), (6, .int .i64 (s.size : Int)), (7, .int .i64 (w64 ((k : Int) + 1)))] rfl ⟨by kernel_rfl, by kernel_rfl⟩ ?_
      refine TL.done rfl ?_
      refine TE.rw 7 (.int .i64 (w64 ((k : Int) + 1))) (.int .i64 ((k + 1 : Nat) : Int)) (by kernel_rfl) (w64_cast k (by omega)) ?_
      exact TE.again (x := (k, n)) (k + 1, kor .u64 (wu64 (n * 2 ^ 8)) (wu64 (bat s k))) ⟨by omega, hI.trans (by rw [hd]; exact rfl)⟩ (by show s.size - (k + 1) < s.size - k; omega) (by kernel_rfl) (.slnil)
    · have hd : s.size - k = 0 := by have := of_decide_eq_false h1; first | omega | (simp at this; omega)
      refine TC.exit ?_
      refine TE.exit_then (TE.exit_then (TE.exit_same ?_))
      exact TE.cut n (hI.trans (by rw [hd]; exact rfl)) (by kernel_rfl) (.slnil)
  · rintro n_2 hJ
    refine TE.next ?_
    refine TC.seq ?_
    refine TC.region ?_
    refine TL.run 2 [] [(2, .int .u64 n_2)] rfl ⟨by kernel_rfl, by kernel_rfl⟩ ?_
    refine TL.next rfl ?_
    refine TC.ret ?_
    have e : wire_get s = n_2 := by unfold wire_get; exact bindv_eq (hR.symm.trans hJ) (rfl)
    exact TE.ret [] (.int .u64 n_2) ⟨by kernel_rfl, by kernel_rfl⟩ (by rw [e]; first | done | kernel_rfl)

set_option maxRecDepth 100000 in
theorem wput_w (A_b_ : Option Addr) (c_b_ : Nat) (b_ : List Int) (n : Int) (size : Int) (w : World) (hM : Sat ⟨w, feet [.inr (Own A_b_ c_b_ 5 1 (b_.map ic8))]⟩ [.inr (Own A_b_ c_b_ 5 1 (b_.map ic8))] w) (hb : b_.length ≤ 100000) (hs : 0 ≤ size ∧ size ≤ 8) : Calls Try.prog 57 #[.slice A_b_ b_.length c_b_, .int .u64 n, .int .i64 size] w (RetM (Γ := (List Int) × (Option Addr) × Nat) ⟨w, feet [.inr (Own A_b_ c_b_ 5 1 (b_.map ic8))]⟩ (fun g => .slice g.2.1 g.1.length g.2.2) (fun g => [.inr (Fact (g.1 = b_ ++ be n (size : Int).toNat)), .inr (Own g.2.1 g.2.2 5 1 (g.1.map ic8))])) := by
  refine calls_introM (w0 := ⟨w, feet [.inr (Own A_b_ c_b_ 5 1 (b_.map ic8))]⟩) (vs := [.slice A_b_ b_.length c_b_, .int .u64 n, .int .i64 size]) hM Try.func57 rfl Try.ntmps57 rfl ?_
  refine TC.weak [(0, .slice A_b_ b_.length c_b_), (1, .int .u64 n), (2, .int .i64 size)] (by kernel_rfl) ?_
  refine TC.know (fun w hM => hM.short_at 0 rfl) (fun s_b_ => ?_)
  refine TC.seq ?_
  refine TC.region ?_
  refine TL.run 1 [] [(0, .slice A_b_ b_.length c_b_), (1, .int .u64 n), (2, .int .i64 size)] rfl ⟨by kernel_rfl, by kernel_rfl⟩ ?_
  refine TL.next rfl ?_
  refine TC.seq ?_
  refine TC.seq ?_
  refine TC.region ?_
  refine TL.run 3 [] [(0, .slice A_b_ b_.length c_b_), (1, .int .u64 n), (7, .int .i64 (w64 (size - 1)))] rfl ⟨by kernel_rfl, by kernel_rfl⟩ ?_
  refine TL.rw 7 (.int .i64 (w64 (size - 1))) (.int .i64 (size - 1)) (by kernel_rfl) (int_eq (by rw [w64_id (x := (size - 1)) (by omega)])) ?_
  refine TL.next rfl ?_
  refine TC.weak [(0, .slice A_b_ b_.length c_b_), (1, .int .u64 n), (7, .int .i64 (size - 1))] (by kernel_rfl) ?_
  refine TC.cut (S := (List Int) × (Option Addr) × Nat) (fun (b__3, A_b__3, c_b__3) => [(0, .slice A_b__3 b__3.length c_b__3)]) (fun (b__3, A_b__3, c_b__3) => [.inr (Own A_b__3 c_b__3 5 1 (b__3.map ic8))]) (fun (b__3, A_b__3, c_b__3) => (b__3 = b_ ++ be n size.toNat)) ?_ ?_
  · refine TC.block ?_
    refine TC.loop (X := (List Int) × Int × (Option Addr) × Nat) (fun (b__2, i, A_b__2, c_b__2) => [(0, .slice A_b__2 b__2.length c_b__2), (1, .int .u64 n), (7, .int .i64 i)]) (fun (b__2, i, A_b__2, c_b__2) => [.inr (Own A_b__2 c_b__2 5 1 (b__2.map ic8))]) (fun (b__2, i, A_b__2, c_b__2) => (i + 1).toNat) (fun (b__2, i, A_b__2, c_b__2) => ((-1 ≤ i ∧ i < size) ∧ b__2 ++ be n (i + 1).toNat = b_ ++ be n size.toNat)) ?_ (b_, (size - 1), A_b_, c_b_) (by first | exact ⟨by omega, by congr 2; omega⟩)
    rintro ⟨b__2, i, A_b__2, c_b__2⟩ hv0
    refine TC.seq ?_
    refine TC.seq ?_
    refine TC.region ?_
    refine TL.run 2 [] [(0, .slice A_b__2 b__2.length c_b__2), (1, .int .u64 n), (7, .int .i64 i), (11, .bool (decide (i ≥ 0)))] rfl ⟨by kernel_rfl, by kernel_rfl⟩ ?_
    refine TL.next rfl ?_
    refine TC.cond (decide (i ≥ 0)) rfl (by kernel_rfl) (fun h1 => ?_) (fun h1 => ?_)
    · refine TC.skip ?_
      refine TE.next ?_
      refine TC.seq ?_
      refine TC.block ?_
      refine TC.region ?_
      refine TL.run 4 [] [(1, .int .u64 n), (7, .int .i64 i), (14, .slice A_b__2 b__2.length c_b__2), (15, .int .u64 n), (17, .int .i64 (w64 (8 * i)))] rfl ⟨by kernel_rfl, by kernel_rfl⟩ ?_
      refine TL.rw 17 (.int .i64 (w64 (8 * i))) (.int .i64 (8 * i)) (by kernel_rfl) (int_eq (by have q0_ := (dec_t h1); have kv0_ := hv0.1; have kl_ := be_len hv0.2; rw [w64_id (x := (8 * i)) (by omega)])) ?_
      refine TL.val (sV (binOp .shr 107 (.int .u64 n) (.int .i64 (8 * i)))) (some 18) (.int .u64 (n.fdiv (2 ^ (min (8 * i).toNat 64)))) [(1, .int .u64 n), (7, .int .i64 i), (14, .slice A_b__2 b__2.length c_b__2), (18, .int .u64 (n.fdiv (2 ^ (min (8 * i).toNat 64))))] (fun w hM => run_shr (by have q0_ := (dec_t h1); have kv0_ := hv0.1; have kl_ := be_len hv0.2; first | omega | (rw [List.length_set]; omega) | (rw [w64_id (by omega)]; omega) | (dsimp only; omega) | (rw [List.length_drop]; omega) | (simp only [w64_eq]; omega) | (simp only [List.length_take] at *; omega) | (simp <;> omega))) (by kernel_rfl) (by kernel_rfl) ?_
      refine TL.run 6 [] [(1, .int .u64 n), (7, .int .i64 i), (14, .slice A_b__2 b__2.length c_b__2), (19, .int .u8 (wu8 (n.fdiv (2 ^ (min (8 * i).toNat 64)))))] rfl ⟨by kernel_rfl, by kernel_rfl⟩ ?_
      refine TL.write 0 (fun b1 => [(1, .int .u64 n), (7, .int .i64 i), (14, .slice A_b__2 b__2.length c_b__2), (20, .slice (some ⟨b1, 0, none⟩) 1 1)]) (fun b1 => [.inl (b1, .cells #[.int .u8 (wu8 (n.fdiv (2 ^ (min (8 * i).toNat 64))))] 5 (0, 0)), .inr (Own A_b__2 c_b__2 5 1 (b__2.map ic8))]) (fun b1 => ⟨by kernel_rfl, by kernel_rfl⟩) (fun b1 => ?_)
      refine TL.opM (Γ := Option Addr × Nat) (sV (Builtin.append_ #[49, 49] 49 #[.slice A_b__2 b__2.length c_b__2, .slice (some ⟨b1, 0, none⟩) 1 1])) (some 21) (fun g => .slice g.1 (b__2 ++ ([wu8 (n.fdiv (2 ^ (min (8 * i).toNat 64)))])).length g.2) (fun g => [.inl (b1, .cells #[.int .u8 (wu8 (n.fdiv (2 ^ (min (8 * i).toNat 64))))] 5 (0, 0)), .inr (Own g.1 g.2 5 1 ((b__2 ++ ([wu8 (n.fdiv (2 ^ (min (8 * i).toNat 64)))])).map ic8))]) (fun g => [(1, .int .u64 n), (7, .int .i64 i), (21, .slice g.1 ((b__2 ++ ([wu8 (n.fdiv (2 ^ (min (8 * i).toNat 64)))])).length) g.2)]) (app_at (bytes := 1) 49 1 ([wu8 (n.fdiv (2 ^ (min (8 * i).toNat 64)))]) (by kernel_rfl) rfl rfl ic8_one rfl (fun w hM => (Rd.lit hM 0 _ rfl (by kernel_rfl) (by kernel_rfl) (by kernel_rfl))) rfl (by have q0_ := (dec_t h1); have kv0_ := hv0.1; have kl_ := be_len hv0.2; first | omega | (simp <;> omega) | (simp at * <;> omega))) (by kernel_rfl) (fun g => by kernel_rfl) ?_
      rintro ⟨A, c⟩
      refine TL.run 9 [] [(0, .slice A ((b__2 ++ ([wu8 (n.fdiv (2 ^ (min (8 * i).toNat 64)))])).length) c), (1, .int .u64 n), (7, .int .i64 i)] rfl ⟨by kernel_rfl, by kernel_rfl⟩ ?_
      refine TL.done rfl ?_
      refine TE.normal_block ?_
      refine TE.next ?_
      refine TC.region ?_
      refine TL.run 3 [] [(0, .slice A ((b__2 ++ ([wu8 (n.fdiv (2 ^ (min (8 * i).toNat 64)))])).length) c), (1, .int .u64 n), (7, .int .i64 (w64 (i - 1)))] rfl ⟨by kernel_rfl, by kernel_rfl⟩ ?_
      refine TL.rw 7 (.int .i64 (w64 (i - 1))) (.int .i64 (i - 1)) (by kernel_rfl) (int_eq (by have q0_ := (dec_t h1); have kv0_ := hv0.1; have kl_ := be_len hv0.2; rw [w64_id (x := (i - 1)) (by omega)])) ?_
      refine TL.done rfl ?_
      exact TE.again (x := (b__2, i, A_b__2, c_b__2)) ((b__2 ++ ([wu8 (n.fdiv (2 ^ (min (8 * i).toNat 64)))])), (i - 1), A, c) (by have q0_ := (dec_t h1); have kv0_ := hv0.1; have kl_ := be_len hv0.2; first | exact ⟨by omega, be_step hv0.2 (by omega)⟩) (by have q0_ := (dec_t h1); have kv0_ := hv0.1; have kl_ := be_len hv0.2; (try dsimp only); omega) (by kernel_rfl) (.cons _ (.cons_cons _ (.slnil)))
    · refine TC.exit ?_
      refine TE.exit_then (TE.exit_then (TE.exit_same ?_))
      exact TE.cut (b__2, A_b__2, c_b__2) (by have q0_ := (dec_f h1); have kv0_ := hv0.1; have kl_ := be_len hv0.2; first | exact be_end hv0.2 (by omega)) (by kernel_rfl) (.cons_cons _ (.slnil))
  · rintro ⟨b__3, A_b__3, c_b__3⟩ ho0
    refine TE.next ?_
    refine TC.seq ?_
    refine TC.region ?_
    refine TL.run 2 [] [(6, .slice A_b__3 b__3.length c_b__3)] rfl ⟨by kernel_rfl, by kernel_rfl⟩ ?_
    refine TL.next rfl ?_
    refine TC.ret ?_
    exact TE.retM (.inl rfl) (b__3, A_b__3, c_b__3) [] (.slice A_b__3 b__3.length c_b__3) ⟨by kernel_rfl, by kernel_rfl⟩ rfl (fun _ hM => (hM.sub (.cons_cons _ (.slnil))).fact (by (try dsimp only); first | exact ho0))

set_option maxRecDepth 100000 in
theorem wput1_w (b_b_ : Nat) (n : Int) (size : Int) (w : World) (hM : Sat ⟨w, feet [.inl (b_b_, .cells #[.int .u8 83, .int .u8 87] 5 (2, 3))]⟩ [.inl (b_b_, .cells #[.int .u8 83, .int .u8 87] 5 (2, 3))] w) (hs : size = 1) : Calls Try.prog 57 #[.slice (some ⟨b_b_, 0, none⟩) 2 2, .int .u64 n, .int .i64 size] w (RetM (Γ := (List Int) × (Option Addr) × Nat) ⟨w, feet [.inl (b_b_, .cells #[.int .u8 83, .int .u8 87] 5 (2, 3))]⟩ (fun g => .slice g.2.1 g.1.length g.2.2) (fun g => [.inr (Fact (g.1 = ([83, 87] : List Int) ++ be n (size : Int).toNat)), .inr (Own g.2.1 g.2.2 5 1 (g.1.map ic8))])) := by
  subst hs
  exact put1_c b_b_ n w hM

def wire_Encode_L1 : List Plot → Nat → (List Int) → (List Int)
  | [], _, b_ => b_
  | x :: xs, k, b_ => let r5 := bits_FromFixed x.Range 0
    let r6 := b_ ++ be r5.1 (8 : Int).toNat
    let r7 := r6 ++ be (wu64 x.Azimuth) (2 : Int).toNat
    let r8 := r7 ++ be (wu64 x.Height) (4 : Int).toNat
    let r9 := r8 ++ be (wu64 (w64 (x.Code + 1))) (2 : Int).toNat
    wire_Encode_L1 xs (k + 1) r9
def wire_Encode (f : WireFrame) : ByteArray × Int :=
  let r1 := wire_Check f
  cond (r1 != 0) (
    (⟨#[]⟩, r1)) (
    let r2 := ([83, 87] : List Int) ++ be (wu64 f.Radar) (1 : Int).toNat
    let r3 := r2 ++ be (wu64 f.Time) (4 : Int).toNat
    let r4 := r3 ++ be (wu64 (f.Plots.length : Int)) (2 : Int).toNat
    bindv (wire_Encode_L1 f.Plots 0 r4) (fun b__2 =>
      let r10 := wire_Sum (strOf b__2)
      let r11 := b__2 ++ be (wu64 r10) (2 : Int).toNat
      (strOf r11, 0)))

theorem wchk_len {f : WireFrame} {r : Int} (h : wire_Check f = r) (h2 : (r != 0) = false) : f.Plots.length ≤ 32 := by
  subst h
  unfold wire_Check at h2
  rcases Nat.lt_or_ge 32 f.Plots.length with h3 | h3
  · rw [show decide ((f.Plots.length : Int) > 32) = true from decide_eq_true (by omega)] at h2
    cases h2
  · exact h3

set_option maxRecDepth 100000 in
theorem wire_Encode_w (f : WireFrame) (A_f_Plots : Option Addr) (c_f_Plots : Nat) (w : World) (h_f_Plots : Rd w 6 A_f_Plots (f.Plots.map Plot.c)) (hc_f_Plots : f.Plots.length ≤ c_f_Plots) : Calls Try.prog 26 #[.agg #[.int .i64 f.Radar, .int .i64 f.Time, .slice A_f_Plots f.Plots.length c_f_Plots]] w (Ret w (.tuple #[.string ((wire_Encode f).1), .int .i64 ((wire_Encode f).2)])) := by
  have s_f_Plots := h_f_Plots.short; rw [List.length_map] at s_f_Plots
  refine calls_intro (vs := [.agg #[.int .i64 f.Radar, .int .i64 f.Time, .slice A_f_Plots f.Plots.length c_f_Plots]]) (w := w) Try.func26 rfl Try.ntmps26 rfl ?_
  refine TC.weak [(0, .agg #[.int .i64 f.Radar, .int .i64 f.Time, .slice A_f_Plots f.Plots.length c_f_Plots])] (by kernel_rfl) ?_
  refine TC.seq ?_
  refine TC.region ?_
  refine TL.write 0 (fun b1 => [(1, .pointer (some ⟨b1, 0, none⟩))]) (fun b1 => [.inl (b1, .cells #[.int .i64 f.Radar, .int .i64 f.Time, .slice A_f_Plots f.Plots.length c_f_Plots] 43 (0, 0))]) (fun b1 => ⟨by kernel_rfl, by kernel_rfl⟩) (fun b1 => ?_)
  refine TL.run 3 [] [(1, .pointer (some ⟨b1, 0, none⟩))] rfl ⟨by kernel_rfl, by kernel_rfl⟩ ?_
  refine TL.next rfl ?_
  refine TC.seq ?_
  refine TC.seq ?_
  refine TC.region ?_
  refine TL.run 1 [0] [(1, .pointer (some ⟨b1, 0, none⟩)), (10, .agg #[.int .i64 f.Radar, .int .i64 f.Time, .slice A_f_Plots f.Plots.length c_f_Plots])] rfl ⟨by kernel_rfl, by kernel_rfl⟩ ?_
  refine TL.call (some 11) [(1, .pointer (some ⟨b1, 0, none⟩)), (11, .int .i64 (wire_Check f))] (fun w hM => wire_Check_w f A_f_Plots c_f_Plots w (h_f_Plots.sat hM) hc_f_Plots) (by kernel_rfl) (by kernel_rfl) ?_
  generalize hr1 : wire_Check f = r1
  refine TL.run 3 [] [(1, .pointer (some ⟨b1, 0, none⟩)), (4, .int .i64 r1)] rfl ⟨by kernel_rfl, by kernel_rfl⟩ ?_
  refine TL.next rfl ?_
  refine TC.seq ?_
  refine TC.region ?_
  refine TL.run 2 [] [(1, .pointer (some ⟨b1, 0, none⟩)), (4, .int .i64 r1), (13, .bool (r1 != 0))] rfl ⟨by kernel_rfl, by kernel_rfl⟩ ?_
  refine TL.next rfl ?_
  refine TC.cond (r1 != 0) rfl (by kernel_rfl) (fun h1 => ?_) (fun h1 => ?_)
  · refine TC.seq ?_
    refine TC.region ?_
    refine TL.run 3 [] [(2, .string (⟨#[]⟩)), (3, .int .i64 r1)] rfl ⟨by kernel_rfl, by kernel_rfl⟩ ?_
    refine TL.next rfl ?_
    refine TC.ret ?_
    refine TE.ret_then ?_
    have e : wire_Encode f = (⟨#[]⟩, r1) := by subst hr1; unfold wire_Encode; exact cond_t h1 (rfl)
    exact TE.ret [] (.tuple #[.string (⟨#[]⟩), .int .i64 r1]) ⟨by kernel_rfl, by kernel_rfl⟩ (by rw [e]; first | done | kernel_rfl)
  · refine TC.skip ?_
    refine TE.next ?_
    refine TC.seq ?_
    refine TC.region ?_
    refine TL.write 0 (fun b2 => [(1, .pointer (some ⟨b1, 0, none⟩)), (15, .slice (some ⟨b2, 0, none⟩) 2 2)]) (fun b2 => [.inl (b2, .cells #[.int .u8 83, .int .u8 87] 5 (0, 0)), .inl (b1, .cells #[.int .i64 f.Radar, .int .i64 f.Time, .slice A_f_Plots f.Plots.length c_f_Plots] 43 (0, 0))]) (fun b2 => ⟨by kernel_rfl, by kernel_rfl⟩) (fun b2 => ?_)
    refine TL.opM (Γ := Unit) (sV (convert 49 49 (.slice (some ⟨b2, 0, none⟩) 2 2))) (some 16) (fun _ => .slice (some ⟨b2, 0, none⟩) 2 2) (fun _ => [.inl (b2, .cells #[.int .u8 83, .int .u8 87] 5 (2, 3)), .inl (b1, .cells #[.int .i64 f.Radar, .int .i64 f.Time, .slice A_f_Plots f.Plots.length c_f_Plots] 43 (0, 0))]) (fun _ => [(1, .pointer (some ⟨b1, 0, none⟩)), (16, .slice (some ⟨b2, 0, none⟩) 2 2)]) (conv_mark 0 (by kernel_rfl) (by kernel_rfl) rfl) (by kernel_rfl) (fun _ => by kernel_rfl) (fun _ => ?_)
    refine TL.run 5 [1] [(1, .pointer (some ⟨b1, 0, none⟩)), (16, .slice (some ⟨b2, 0, none⟩) 2 2), (19, .int .u64 (wu64 f.Radar))] rfl ⟨by kernel_rfl, by kernel_rfl⟩ ?_
    refine TL.callM (Γ := (List Int) × (Option Addr) × Nat) (fun g => .slice g.2.1 g.1.length g.2.2) (fun g => [.inr (Fact (g.1 = ([83, 87] : List Int) ++ be (wu64 f.Radar) (1 : Int).toNat)), .inr (Own g.2.1 g.2.2 5 1 (g.1.map ic8))]) [.inl (b2, .cells #[.int .u8 83, .int .u8 87] 5 (2, 3))] [.inl (b1, .cells #[.int .i64 f.Radar, .int .i64 f.Time, .slice A_f_Plots f.Plots.length c_f_Plots] 43 (0, 0))] (some 20) (fun g => [(1, .pointer (some ⟨b1, 0, none⟩)), (20, .slice g.2.1 g.1.length g.2.2)]) (fun w hM => wput1_w b2 (wu64 f.Radar) 1 w hM.pass (by have q0_ := (bne_f h1); (try have kc_ := wchk_len hr1 h1); (try have kp2_ : r2.length = 3 := put_len hr2); (try have kp4_ : r4.length ≤ 9 := Nat.le_of_eq (put_len hr4)); (try have kp3_ := put_len hr3); (try have kp4_ := put_len hr4); (try have kp5_ := put_len hr5); (try have kp6_ := put_len hr6); (try have kp7_ := put_len hr7); (try have kp8_ := put_len hr8); (try have kp9_ := put_len hr9); (try have kp10_ := put_len hr10); (try have kp11_ := put_len hr11); (try have kp12_ := put_len hr12); (try have kp13_ := put_len hr13); first | omega | (simp only [w64_eq]; omega) | (simp <;> omega))) (by kernel_rfl) (fun g => by kernel_rfl) ?_
    rintro ⟨r2, A, c⟩
    refine TL.conv [.inr (Fact (r2 = ([83, 87] : List Int) ++ be (wu64 f.Radar) (1 : Int).toNat)), .inr (Own A c 5 1 (r2.map ic8)), .inl (b1, .cells #[.int .i64 f.Radar, .int .i64 f.Time, .slice A_f_Plots f.Plots.length c_f_Plots] 43 (0, 0))] (fun _ hM => hM) ?_
    refine TL.know (fun w hM => hM.fact_at 0 rfl) (fun hp_wput1 => ?_)
    refine TL.forget [.inr (Own A c 5 1 (r2.map ic8)), .inl (b1, .cells #[.int .i64 f.Radar, .int .i64 f.Time, .slice A_f_Plots f.Plots.length c_f_Plots] 43 (0, 0))] (.cons _ (List.Sublist.refl _)) ?_
    have hr2 : ([83, 87] : List Int) ++ be (wu64 f.Radar) (1 : Int).toNat = r2 := (hp_wput1).symm
    refine TL.run 7 [] [(1, .pointer (some ⟨b1, 0, none⟩)), (5, .slice A r2.length c)] rfl ⟨by kernel_rfl, by kernel_rfl⟩ ?_
    refine TL.next rfl ?_
    refine TC.seq ?_
    refine TC.region ?_
    refine TL.run 4 [1] [(1, .pointer (some ⟨b1, 0, none⟩)), (21, .slice A r2.length c), (24, .int .u64 (wu64 f.Time))] rfl ⟨by kernel_rfl, by kernel_rfl⟩ ?_
    refine TL.callM (Γ := (List Int) × (Option Addr) × Nat) (fun g => .slice g.2.1 g.1.length g.2.2) (fun g => [.inr (Fact (g.1 = r2 ++ be (wu64 f.Time) (4 : Int).toNat)), .inr (Own g.2.1 g.2.2 5 1 (g.1.map ic8))]) [.inr (Own A c 5 1 (r2.map ic8))] [.inl (b1, .cells #[.int .i64 f.Radar, .int .i64 f.Time, .slice A_f_Plots f.Plots.length c_f_Plots] 43 (0, 0))] (some 25) (fun g => [(1, .pointer (some ⟨b1, 0, none⟩)), (25, .slice g.2.1 g.1.length g.2.2)]) (fun w hM => wput_w A c r2 (wu64 f.Time) 4 w hM.pass (by have q0_ := (bne_f h1); (try have kc_ := wchk_len hr1 h1); (try have kp2_ : r2.length = 3 := put_len hr2); (try have kp4_ : r4.length ≤ 9 := Nat.le_of_eq (put_len hr4)); (try have kp3_ := put_len hr3); (try have kp4_ := put_len hr4); (try have kp5_ := put_len hr5); (try have kp6_ := put_len hr6); (try have kp7_ := put_len hr7); (try have kp8_ := put_len hr8); (try have kp9_ := put_len hr9); (try have kp10_ := put_len hr10); (try have kp11_ := put_len hr11); (try have kp12_ := put_len hr12); (try have kp13_ := put_len hr13); first | omega | (simp only [w64_eq]; omega) | (simp <;> omega)) (by have q0_ := (bne_f h1); (try have kc_ := wchk_len hr1 h1); (try have kp2_ : r2.length = 3 := put_len hr2); (try have kp4_ : r4.length ≤ 9 := Nat.le_of_eq (put_len hr4)); (try have kp3_ := put_len hr3); (try have kp4_ := put_len hr4); (try have kp5_ := put_len hr5); (try have kp6_ := put_len hr6); (try have kp7_ := put_len hr7); (try have kp8_ := put_len hr8); (try have kp9_ := put_len hr9); (try have kp10_ := put_len hr10); (try have kp11_ := put_len hr11); (try have kp12_ := put_len hr12); (try have kp13_ := put_len hr13); first | omega | (simp only [w64_eq]; omega) | (simp <;> omega))) (by kernel_rfl) (fun g => by kernel_rfl) ?_
    rintro ⟨r3, A_2, c_2⟩
    refine TL.conv [.inr (Fact (r3 = r2 ++ be (wu64 f.Time) (4 : Int).toNat)), .inr (Own A_2 c_2 5 1 (r3.map ic8)), .inl (b1, .cells #[.int .i64 f.Radar, .int .i64 f.Time, .slice A_f_Plots f.Plots.length c_f_Plots] 43 (0, 0))] (fun _ hM => hM) ?_
    refine TL.know (fun w hM => hM.fact_at 0 rfl) (fun hp_wput => ?_)
    refine TL.forget [.inr (Own A_2 c_2 5 1 (r3.map ic8)), .inl (b1, .cells #[.int .i64 f.Radar, .int .i64 f.Time, .slice A_f_Plots f.Plots.length c_f_Plots] 43 (0, 0))] (.cons _ (List.Sublist.refl _)) ?_
    have hr3 : r2 ++ be (wu64 f.Time) (4 : Int).toNat = r3 := (hp_wput).symm
    refine TL.run 6 [] [(1, .pointer (some ⟨b1, 0, none⟩)), (5, .slice A_2 r3.length c_2)] rfl ⟨by kernel_rfl, by kernel_rfl⟩ ?_
    refine TL.next rfl ?_
    refine TC.seq ?_
    refine TC.region ?_
    refine TL.run 5 [1] [(1, .pointer (some ⟨b1, 0, none⟩)), (26, .slice A_2 r3.length c_2), (30, .int .u64 (wu64 (f.Plots.length : Int)))] rfl ⟨by kernel_rfl, by kernel_rfl⟩ ?_
    refine TL.callM (Γ := (List Int) × (Option Addr) × Nat) (fun g => .slice g.2.1 g.1.length g.2.2) (fun g => [.inr (Fact (g.1 = r3 ++ be (wu64 (f.Plots.length : Int)) (2 : Int).toNat)), .inr (Own g.2.1 g.2.2 5 1 (g.1.map ic8))]) [.inr (Own A_2 c_2 5 1 (r3.map ic8))] [.inl (b1, .cells #[.int .i64 f.Radar, .int .i64 f.Time, .slice A_f_Plots f.Plots.length c_f_Plots] 43 (0, 0))] (some 31) (fun g => [(1, .pointer (some ⟨b1, 0, none⟩)), (31, .slice g.2.1 g.1.length g.2.2)]) (fun w hM => wput_w A_2 c_2 r3 (wu64 (f.Plots.length : Int)) 2 w hM.pass (by have q0_ := (bne_f h1); (try have kc_ := wchk_len hr1 h1); (try have kp2_ : r2.length = 3 := put_len hr2); (try have kp4_ : r4.length ≤ 9 := Nat.le_of_eq (put_len hr4)); (try have kp3_ := put_len hr3); (try have kp4_ := put_len hr4); (try have kp5_ := put_len hr5); (try have kp6_ := put_len hr6); (try have kp7_ := put_len hr7); (try have kp8_ := put_len hr8); (try have kp9_ := put_len hr9); (try have kp10_ := put_len hr10); (try have kp11_ := put_len hr11); (try have kp12_ := put_len hr12); (try have kp13_ := put_len hr13); first | omega | (simp only [w64_eq]; omega) | (simp <;> omega)) (by have q0_ := (bne_f h1); (try have kc_ := wchk_len hr1 h1); (try have kp2_ : r2.length = 3 := put_len hr2); (try have kp4_ : r4.length ≤ 9 := Nat.le_of_eq (put_len hr4)); (try have kp3_ := put_len hr3); (try have kp4_ := put_len hr4); (try have kp5_ := put_len hr5); (try have kp6_ := put_len hr6); (try have kp7_ := put_len hr7); (try have kp8_ := put_len hr8); (try have kp9_ := put_len hr9); (try have kp10_ := put_len hr10); (try have kp11_ := put_len hr11); (try have kp12_ := put_len hr12); (try have kp13_ := put_len hr13); first | omega | (simp only [w64_eq]; omega) | (simp <;> omega))) (by kernel_rfl) (fun g => by kernel_rfl) ?_
    rintro ⟨r4, A_3, c_3⟩
    refine TL.conv [.inr (Fact (r4 = r3 ++ be (wu64 (f.Plots.length : Int)) (2 : Int).toNat)), .inr (Own A_3 c_3 5 1 (r4.map ic8)), .inl (b1, .cells #[.int .i64 f.Radar, .int .i64 f.Time, .slice A_f_Plots f.Plots.length c_f_Plots] 43 (0, 0))] (fun _ hM => hM) ?_
    refine TL.know (fun w hM => hM.fact_at 0 rfl) (fun hp_wput => ?_)
    refine TL.forget [.inr (Own A_3 c_3 5 1 (r4.map ic8)), .inl (b1, .cells #[.int .i64 f.Radar, .int .i64 f.Time, .slice A_f_Plots f.Plots.length c_f_Plots] 43 (0, 0))] (.cons _ (List.Sublist.refl _)) ?_
    have hr4 : r3 ++ be (wu64 (f.Plots.length : Int)) (2 : Int).toNat = r4 := (hp_wput).symm
    refine TL.run 7 [] [(1, .pointer (some ⟨b1, 0, none⟩)), (5, .slice A_3 r4.length c_3)] rfl ⟨by kernel_rfl, by kernel_rfl⟩ ?_
    refine TL.next rfl ?_
    refine TC.seq ?_
    refine TC.seq ?_
    refine TC.region ?_
    refine TL.run 4 [1] [(5, .slice A_3 r4.length c_3), (33, .slice A_f_Plots f.Plots.length c_f_Plots), (34, .int .i64 (f.Plots.length : Int)), (35, .int .i64 0)] rfl ⟨by kernel_rfl, by kernel_rfl⟩ ?_
    refine TL.next rfl ?_
    refine TC.weak [(5, .slice A_3 r4.length c_3), (33, .slice A_f_Plots f.Plots.length c_f_Plots), (34, .int .i64 (f.Plots.length : Int)), (35, .int .i64 0)] (by kernel_rfl) ?_
    refine TC.forget [.inr (Own A_3 c_3 5 1 (r4.map ic8))] (.cons_cons _ (.cons _ (.slnil))) ?_
    obtain ⟨R1, hR⟩ : ∃ R, R = wire_Encode_L1 f.Plots 0 r4 := ⟨_, rfl⟩
    refine TC.cut (S := (List Int) × (Option Addr) × Nat) (fun (b__2, A_b__2, c_b__2) => [(5, .slice A_b__2 b__2.length c_b__2)]) (fun (b__2, A_b__2, c_b__2) => [.inr (Own A_b__2 c_b__2 5 1 (b__2.map ic8))]) (fun (b__2, A_b__2, c_b__2) => R1 = b__2 ∧ b__2.length ≤ r4.length + 16 * f.Plots.length) ?_ ?_
    · refine TC.block ?_
      refine TC.loop (X := Nat × (List Int) × (Option Addr) × Nat) (fun (k, b_, A_b_, c_b_) => [(5, .slice A_b_ b_.length c_b_), (33, .slice A_f_Plots f.Plots.length c_f_Plots), (34, .int .i64 (f.Plots.length : Int)), (35, .int .i64 (k : Int))]) (fun (k, b_, A_b_, c_b_) => [.inr (Own A_b_ c_b_ 5 1 (b_.map ic8))]) (fun (k, b_, A_b_, c_b_) => f.Plots.length - k) (fun (k, b_, A_b_, c_b_) => k ≤ f.Plots.length ∧ R1 = wire_Encode_L1 (f.Plots.drop k) k b_ ∧ b_.length ≤ r4.length + 16 * k) ?_ (0, r4, A_3, c_3) ⟨Nat.zero_le _, hR, (by first | omega | (simp; omega) | simp)⟩
      rintro ⟨k, b_, A_b_, c_b_⟩ ⟨hk, hI, hl_b_⟩
      refine TC.seq ?_
      refine TC.region ?_
      refine TL.run 1 [] [(5, .slice A_b_ b_.length c_b_), (33, .slice A_f_Plots f.Plots.length c_f_Plots), (34, .int .i64 (f.Plots.length : Int)), (35, .int .i64 (k : Int)), (36, .bool (decide ((k : Int) < (f.Plots.length : Int))))] rfl ⟨by kernel_rfl, by kernel_rfl⟩ ?_
      refine TL.next rfl ?_
      refine TC.seq ?_
      refine TC.cond (decide ((k : Int) < (f.Plots.length : Int))) rfl (by kernel_rfl) (fun h2 => ?_) (fun h2 => ?_)
      · have hlt : k < f.Plots.length := by have := of_decide_eq_true h2; first | omega | (simp at this; omega)
        obtain ⟨x, hx⟩ : ∃ e_, f.Plots[k]? = some e_ := ⟨_, List.getElem?_eq_getElem hlt⟩
        have hd := drop_at hx
        refine TC.skip ?_
        refine TE.next ?_
        refine TC.seq ?_
        refine TC.block ?_
        refine TC.seq ?_
        refine TC.region ?_
        refine TL.val (sV (Instr.indexAt 41 (.slice A_f_Plots f.Plots.length c_f_Plots) (.int .i64 (k : Int)))) (some 37) (.pointer (some ((A_f_Plots.getD noAddr).add (k * 6)))) [(5, .slice A_b_ b_.length c_b_), (33, .slice A_f_Plots f.Plots.length c_f_Plots), (34, .int .i64 (f.Plots.length : Int)), (35, .int .i64 (k : Int)), (37, .pointer (some ((A_f_Plots.getD noAddr).add (k * 6))))] (fun w hM => run_index (h_f_Plots.sat hM) (by simp) (by kernel_rfl) (by have q0_ := (bne_f h1); (try have kc_ := wchk_len hr1 h1); (try have kp2_ : r2.length = 3 := put_len hr2); (try have kp4_ : r4.length ≤ 9 := Nat.le_of_eq (put_len hr4)); (try have kp3_ := put_len hr3); (try have kp4_ := put_len hr4); (try have kp5_ := put_len hr5); (try have kp6_ := put_len hr6); (try have kp7_ := put_len hr7); (try have kp8_ := put_len hr8); (try have kp9_ := put_len hr9); (try have kp10_ := put_len hr10); (try have kp11_ := put_len hr11); (try have kp12_ := put_len hr12); (try have kp13_ := put_len hr13); first | omega | (rw [List.length_set]; omega) | (rw [w64_id (by omega)]; omega) | (dsimp only; omega) | (rw [List.length_drop]; omega) | (simp only [w64_eq]; omega) | (simp only [List.length_take] at *; omega) | (simp <;> omega)) (by have q0_ := (bne_f h1); (try have kc_ := wchk_len hr1 h1); (try have kp2_ : r2.length = 3 := put_len hr2); (try have kp4_ : r4.length ≤ 9 := Nat.le_of_eq (put_len hr4)); (try have kp3_ := put_len hr3); (try have kp4_ := put_len hr4); (try have kp5_ := put_len hr5); (try have kp6_ := put_len hr6); (try have kp7_ := put_len hr7); (try have kp8_ := put_len hr8); (try have kp9_ := put_len hr9); (try have kp10_ := put_len hr10); (try have kp11_ := put_len hr11); (try have kp12_ := put_len hr12); (try have kp13_ := put_len hr13); first | omega | (rw [List.length_set]; omega) | (rw [w64_id (by omega)]; omega) | (dsimp only; omega) | (rw [List.length_drop]; omega) | (simp only [w64_eq]; omega) | (simp only [List.length_take] at *; omega) | (simp <;> omega))) (by kernel_rfl) (by kernel_rfl) ?_
        refine TL.val (sV (Instr.loadAt 58 (.pointer (some ((A_f_Plots.getD noAddr).add (k * 6)))))) (some 38) (Plot.v x) [(5, .slice A_b_ b_.length c_b_), (33, .slice A_f_Plots f.Plots.length c_f_Plots), (34, .int .i64 (f.Plots.length : Int)), (35, .int .i64 (k : Int)), (38, Plot.v x)] (fun w hM => run_load_agg (n := 6) (off := 0) (i := k) (Plot.v x) (h_f_Plots.sat hM) (map_at hx) (by kernel_rfl) (by kernel_rfl) (by kernel_rfl)) (by kernel_rfl) (by kernel_rfl) ?_
        refine TL.write 0 (fun b3 => [(5, .slice A_b_ b_.length c_b_), (7, .pointer (some ⟨b3, 0, none⟩)), (33, .slice A_f_Plots f.Plots.length c_f_Plots), (34, .int .i64 (f.Plots.length : Int)), (35, .int .i64 (k : Int)), (38, Plot.v x)]) (fun b3 => [.inl (b3, .cells (Plot.c Plot.zero) 58 (0, 0)), .inr (Own A_b_ c_b_ 5 1 (b_.map ic8))]) (fun b3 => ⟨by kernel_rfl, by kernel_rfl⟩) (fun b3 => ?_)
        refine TL.write 0 (fun _ => [(5, .slice A_b_ b_.length c_b_), (7, .pointer (some ⟨b3, 0, none⟩)), (33, .slice A_f_Plots f.Plots.length c_f_Plots), (34, .int .i64 (f.Plots.length : Int)), (35, .int .i64 (k : Int))]) (fun _ => [.inl (b3, .cells (Plot.c x) 58 (0, 0)), .inr (Own A_b_ c_b_ 5 1 (b_.map ic8))]) (fun _ => ⟨by kernel_rfl, by kernel_rfl⟩) (fun _ => ?_)
        refine TL.next rfl ?_
        refine TC.seq ?_
        refine TC.region ?_
        refine TL.run 2 [0] [(5, .slice A_b_ b_.length c_b_), (7, .pointer (some ⟨b3, 0, none⟩)), (33, .slice A_f_Plots f.Plots.length c_f_Plots), (34, .int .i64 (f.Plots.length : Int)), (35, .int .i64 (k : Int)), (41, .int .i64 x.Range)] rfl ⟨by kernel_rfl, by kernel_rfl⟩ ?_
        refine TL.call (some 42) [(5, .slice A_b_ b_.length c_b_), (7, .pointer (some ⟨b3, 0, none⟩)), (33, .slice A_f_Plots f.Plots.length c_f_Plots), (34, .int .i64 (f.Plots.length : Int)), (35, .int .i64 (k : Int)), (42, .tuple #[.int .u64 ((bits_FromFixed x.Range 0).1), .int .i64 ((bits_FromFixed x.Range 0).2)])] (fun w _ => bits_FromFixed_w x.Range 0 w) (by kernel_rfl) (by kernel_rfl) ?_
        generalize hr5 : bits_FromFixed x.Range 0 = r5
        refine TL.run 8 [] [(5, .slice A_b_ b_.length c_b_), (7, .pointer (some ⟨b3, 0, none⟩)), (8, .int .u64 r5.1), (33, .slice A_f_Plots f.Plots.length c_f_Plots), (34, .int .i64 (f.Plots.length : Int)), (35, .int .i64 (k : Int))] rfl ⟨by kernel_rfl, by kernel_rfl⟩ ?_
        refine TL.next rfl ?_
        refine TC.seq ?_
        refine TC.region ?_
        refine TL.run 2 [] [(7, .pointer (some ⟨b3, 0, none⟩)), (33, .slice A_f_Plots f.Plots.length c_f_Plots), (34, .int .i64 (f.Plots.length : Int)), (35, .int .i64 (k : Int)), (45, .slice A_b_ b_.length c_b_), (46, .int .u64 r5.1)] rfl ⟨by kernel_rfl, by kernel_rfl⟩ ?_
        refine TL.conv [.inr (Own A_b_ c_b_ 5 1 (b_.map ic8)), .inl (b3, .cells (Plot.c x) 58 (0, 0))] (fun _ hM => hM.perm (((List.Perm.cons _ (List.Perm.refl _)).trans (List.Perm.swap _ _ _)).trans (List.Perm.cons _ (List.Perm.refl _)))) ?_
        refine TL.callM (Γ := (List Int) × (Option Addr) × Nat) (fun g => .slice g.2.1 g.1.length g.2.2) (fun g => [.inr (Fact (g.1 = b_ ++ be r5.1 (8 : Int).toNat)), .inr (Own g.2.1 g.2.2 5 1 (g.1.map ic8))]) [.inr (Own A_b_ c_b_ 5 1 (b_.map ic8))] [.inl (b3, .cells (Plot.c x) 58 (0, 0))] (some 47) (fun g => [(7, .pointer (some ⟨b3, 0, none⟩)), (33, .slice A_f_Plots f.Plots.length c_f_Plots), (34, .int .i64 (f.Plots.length : Int)), (35, .int .i64 (k : Int)), (47, .slice g.2.1 g.1.length g.2.2)]) (fun w hM => wput_w A_b_ c_b_ b_ r5.1 8 w hM.pass (by have q0_ := (bne_f h1); (try have kc_ := wchk_len hr1 h1); (try have kp2_ : r2.length = 3 := put_len hr2); (try have kp4_ : r4.length ≤ 9 := Nat.le_of_eq (put_len hr4)); (try have kp3_ := put_len hr3); (try have kp4_ := put_len hr4); (try have kp5_ := put_len hr5); (try have kp6_ := put_len hr6); (try have kp7_ := put_len hr7); (try have kp8_ := put_len hr8); (try have kp9_ := put_len hr9); (try have kp10_ := put_len hr10); (try have kp11_ := put_len hr11); (try have kp12_ := put_len hr12); (try have kp13_ := put_len hr13); first | omega | (simp only [w64_eq]; omega) | (simp <;> omega)) (by have q0_ := (bne_f h1); (try have kc_ := wchk_len hr1 h1); (try have kp2_ : r2.length = 3 := put_len hr2); (try have kp4_ : r4.length ≤ 9 := Nat.le_of_eq (put_len hr4)); (try have kp3_ := put_len hr3); (try have kp4_ := put_len hr4); (try have kp5_ := put_len hr5); (try have kp6_ := put_len hr6); (try have kp7_ := put_len hr7); (try have kp8_ := put_len hr8); (try have kp9_ := put_len hr9); (try have kp10_ := put_len hr10); (try have kp11_ := put_len hr11); (try have kp12_ := put_len hr12); (try have kp13_ := put_len hr13); first | omega | (simp only [w64_eq]; omega) | (simp <;> omega))) (by kernel_rfl) (fun g => by kernel_rfl) ?_
        rintro ⟨r6, A_4, c_4⟩
        refine TL.conv [.inr (Fact (r6 = b_ ++ be r5.1 (8 : Int).toNat)), .inr (Own A_4 c_4 5 1 (r6.map ic8)), .inl (b3, .cells (Plot.c x) 58 (0, 0))] (fun _ hM => hM) ?_
        refine TL.know (fun w hM => hM.fact_at 0 rfl) (fun hp_wput => ?_)
        refine TL.forget [.inr (Own A_4 c_4 5 1 (r6.map ic8)), .inl (b3, .cells (Plot.c x) 58 (0, 0))] (.cons _ (List.Sublist.refl _)) ?_
        have hr6 : b_ ++ be r5.1 (8 : Int).toNat = r6 := (hp_wput).symm
        refine TL.run 4 [] [(5, .slice A_4 r6.length c_4), (7, .pointer (some ⟨b3, 0, none⟩)), (33, .slice A_f_Plots f.Plots.length c_f_Plots), (34, .int .i64 (f.Plots.length : Int)), (35, .int .i64 (k : Int))] rfl ⟨by kernel_rfl, by kernel_rfl⟩ ?_
        refine TL.next rfl ?_
        refine TC.seq ?_
        refine TC.region ?_
        refine TL.run 4 [1] [(7, .pointer (some ⟨b3, 0, none⟩)), (33, .slice A_f_Plots f.Plots.length c_f_Plots), (34, .int .i64 (f.Plots.length : Int)), (35, .int .i64 (k : Int)), (48, .slice A_4 r6.length c_4), (51, .int .u64 (wu64 x.Azimuth))] rfl ⟨by kernel_rfl, by kernel_rfl⟩ ?_
        refine TL.callM (Γ := (List Int) × (Option Addr) × Nat) (fun g => .slice g.2.1 g.1.length g.2.2) (fun g => [.inr (Fact (g.1 = r6 ++ be (wu64 x.Azimuth) (2 : Int).toNat)), .inr (Own g.2.1 g.2.2 5 1 (g.1.map ic8))]) [.inr (Own A_4 c_4 5 1 (r6.map ic8))] [.inl (b3, .cells (Plot.c x) 58 (0, 0))] (some 52) (fun g => [(7, .pointer (some ⟨b3, 0, none⟩)), (33, .slice A_f_Plots f.Plots.length c_f_Plots), (34, .int .i64 (f.Plots.length : Int)), (35, .int .i64 (k : Int)), (52, .slice g.2.1 g.1.length g.2.2)]) (fun w hM => wput_w A_4 c_4 r6 (wu64 x.Azimuth) 2 w hM.pass (by have q0_ := (bne_f h1); (try have kc_ := wchk_len hr1 h1); (try have kp2_ : r2.length = 3 := put_len hr2); (try have kp4_ : r4.length ≤ 9 := Nat.le_of_eq (put_len hr4)); (try have kp3_ := put_len hr3); (try have kp4_ := put_len hr4); (try have kp5_ := put_len hr5); (try have kp6_ := put_len hr6); (try have kp7_ := put_len hr7); (try have kp8_ := put_len hr8); (try have kp9_ := put_len hr9); (try have kp10_ := put_len hr10); (try have kp11_ := put_len hr11); (try have kp12_ := put_len hr12); (try have kp13_ := put_len hr13); first | omega | (simp only [w64_eq]; omega) | (simp <;> omega)) (by have q0_ := (bne_f h1); (try have kc_ := wchk_len hr1 h1); (try have kp2_ : r2.length = 3 := put_len hr2); (try have kp4_ : r4.length ≤ 9 := Nat.le_of_eq (put_len hr4)); (try have kp3_ := put_len hr3); (try have kp4_ := put_len hr4); (try have kp5_ := put_len hr5); (try have kp6_ := put_len hr6); (try have kp7_ := put_len hr7); (try have kp8_ := put_len hr8); (try have kp9_ := put_len hr9); (try have kp10_ := put_len hr10); (try have kp11_ := put_len hr11); (try have kp12_ := put_len hr12); (try have kp13_ := put_len hr13); first | omega | (simp only [w64_eq]; omega) | (simp <;> omega))) (by kernel_rfl) (fun g => by kernel_rfl) ?_
        rintro ⟨r7, A_5, c_5⟩
        refine TL.conv [.inr (Fact (r7 = r6 ++ be (wu64 x.Azimuth) (2 : Int).toNat)), .inr (Own A_5 c_5 5 1 (r7.map ic8)), .inl (b3, .cells (Plot.c x) 58 (0, 0))] (fun _ hM => hM) ?_
        refine TL.know (fun w hM => hM.fact_at 0 rfl) (fun hp_wput => ?_)
        refine TL.forget [.inr (Own A_5 c_5 5 1 (r7.map ic8)), .inl (b3, .cells (Plot.c x) 58 (0, 0))] (.cons _ (List.Sublist.refl _)) ?_
        have hr7 : r6 ++ be (wu64 x.Azimuth) (2 : Int).toNat = r7 := (hp_wput).symm
        refine TL.run 6 [] [(5, .slice A_5 r7.length c_5), (7, .pointer (some ⟨b3, 0, none⟩)), (33, .slice A_f_Plots f.Plots.length c_f_Plots), (34, .int .i64 (f.Plots.length : Int)), (35, .int .i64 (k : Int))] rfl ⟨by kernel_rfl, by kernel_rfl⟩ ?_
        refine TL.next rfl ?_
        refine TC.seq ?_
        refine TC.region ?_
        refine TL.run 4 [1] [(7, .pointer (some ⟨b3, 0, none⟩)), (33, .slice A_f_Plots f.Plots.length c_f_Plots), (34, .int .i64 (f.Plots.length : Int)), (35, .int .i64 (k : Int)), (53, .slice A_5 r7.length c_5), (56, .int .u64 (wu64 x.Height))] rfl ⟨by kernel_rfl, by kernel_rfl⟩ ?_
        refine TL.callM (Γ := (List Int) × (Option Addr) × Nat) (fun g => .slice g.2.1 g.1.length g.2.2) (fun g => [.inr (Fact (g.1 = r7 ++ be (wu64 x.Height) (4 : Int).toNat)), .inr (Own g.2.1 g.2.2 5 1 (g.1.map ic8))]) [.inr (Own A_5 c_5 5 1 (r7.map ic8))] [.inl (b3, .cells (Plot.c x) 58 (0, 0))] (some 57) (fun g => [(7, .pointer (some ⟨b3, 0, none⟩)), (33, .slice A_f_Plots f.Plots.length c_f_Plots), (34, .int .i64 (f.Plots.length : Int)), (35, .int .i64 (k : Int)), (57, .slice g.2.1 g.1.length g.2.2)]) (fun w hM => wput_w A_5 c_5 r7 (wu64 x.Height) 4 w hM.pass (by have q0_ := (bne_f h1); (try have kc_ := wchk_len hr1 h1); (try have kp2_ : r2.length = 3 := put_len hr2); (try have kp4_ : r4.length ≤ 9 := Nat.le_of_eq (put_len hr4)); (try have kp3_ := put_len hr3); (try have kp4_ := put_len hr4); (try have kp5_ := put_len hr5); (try have kp6_ := put_len hr6); (try have kp7_ := put_len hr7); (try have kp8_ := put_len hr8); (try have kp9_ := put_len hr9); (try have kp10_ := put_len hr10); (try have kp11_ := put_len hr11); (try have kp12_ := put_len hr12); (try have kp13_ := put_len hr13); first | omega | (simp only [w64_eq]; omega) | (simp <;> omega)) (by have q0_ := (bne_f h1); (try have kc_ := wchk_len hr1 h1); (try have kp2_ : r2.length = 3 := put_len hr2); (try have kp4_ : r4.length ≤ 9 := Nat.le_of_eq (put_len hr4)); (try have kp3_ := put_len hr3); (try have kp4_ := put_len hr4); (try have kp5_ := put_len hr5); (try have kp6_ := put_len hr6); (try have kp7_ := put_len hr7); (try have kp8_ := put_len hr8); (try have kp9_ := put_len hr9); (try have kp10_ := put_len hr10); (try have kp11_ := put_len hr11); (try have kp12_ := put_len hr12); (try have kp13_ := put_len hr13); first | omega | (simp only [w64_eq]; omega) | (simp <;> omega))) (by kernel_rfl) (fun g => by kernel_rfl) ?_
        rintro ⟨r8, A_6, c_6⟩
        refine TL.conv [.inr (Fact (r8 = r7 ++ be (wu64 x.Height) (4 : Int).toNat)), .inr (Own A_6 c_6 5 1 (r8.map ic8)), .inl (b3, .cells (Plot.c x) 58 (0, 0))] (fun _ hM => hM) ?_
        refine TL.know (fun w hM => hM.fact_at 0 rfl) (fun hp_wput => ?_)
        refine TL.forget [.inr (Own A_6 c_6 5 1 (r8.map ic8)), .inl (b3, .cells (Plot.c x) 58 (0, 0))] (.cons _ (List.Sublist.refl _)) ?_
        have hr8 : r7 ++ be (wu64 x.Height) (4 : Int).toNat = r8 := (hp_wput).symm
        refine TL.run 6 [] [(5, .slice A_6 r8.length c_6), (7, .pointer (some ⟨b3, 0, none⟩)), (33, .slice A_f_Plots f.Plots.length c_f_Plots), (34, .int .i64 (f.Plots.length : Int)), (35, .int .i64 (k : Int))] rfl ⟨by kernel_rfl, by kernel_rfl⟩ ?_
        refine TL.next rfl ?_
        refine TC.region ?_
        refine TL.run 5 [1] [(33, .slice A_f_Plots f.Plots.length c_f_Plots), (34, .int .i64 (f.Plots.length : Int)), (35, .int .i64 (k : Int)), (58, .slice A_6 r8.length c_6), (62, .int .u64 (wu64 (w64 (x.Code + 1))))] rfl ⟨by kernel_rfl, by kernel_rfl⟩ ?_
        refine TL.callM (Γ := (List Int) × (Option Addr) × Nat) (fun g => .slice g.2.1 g.1.length g.2.2) (fun g => [.inr (Fact (g.1 = r8 ++ be (wu64 (w64 (x.Code + 1))) (2 : Int).toNat)), .inr (Own g.2.1 g.2.2 5 1 (g.1.map ic8))]) [.inr (Own A_6 c_6 5 1 (r8.map ic8))] [.inl (b3, .cells (Plot.c x) 58 (0, 0))] (some 63) (fun g => [(33, .slice A_f_Plots f.Plots.length c_f_Plots), (34, .int .i64 (f.Plots.length : Int)), (35, .int .i64 (k : Int)), (63, .slice g.2.1 g.1.length g.2.2)]) (fun w hM => wput_w A_6 c_6 r8 (wu64 (w64 (x.Code + 1))) 2 w hM.pass (by have q0_ := (bne_f h1); (try have kc_ := wchk_len hr1 h1); (try have kp2_ : r2.length = 3 := put_len hr2); (try have kp4_ : r4.length ≤ 9 := Nat.le_of_eq (put_len hr4)); (try have kp3_ := put_len hr3); (try have kp4_ := put_len hr4); (try have kp5_ := put_len hr5); (try have kp6_ := put_len hr6); (try have kp7_ := put_len hr7); (try have kp8_ := put_len hr8); (try have kp9_ := put_len hr9); (try have kp10_ := put_len hr10); (try have kp11_ := put_len hr11); (try have kp12_ := put_len hr12); (try have kp13_ := put_len hr13); first | omega | (simp only [w64_eq]; omega) | (simp <;> omega)) (by have q0_ := (bne_f h1); (try have kc_ := wchk_len hr1 h1); (try have kp2_ : r2.length = 3 := put_len hr2); (try have kp4_ : r4.length ≤ 9 := Nat.le_of_eq (put_len hr4)); (try have kp3_ := put_len hr3); (try have kp4_ := put_len hr4); (try have kp5_ := put_len hr5); (try have kp6_ := put_len hr6); (try have kp7_ := put_len hr7); (try have kp8_ := put_len hr8); (try have kp9_ := put_len hr9); (try have kp10_ := put_len hr10); (try have kp11_ := put_len hr11); (try have kp12_ := put_len hr12); (try have kp13_ := put_len hr13); first | omega | (simp only [w64_eq]; omega) | (simp <;> omega))) (by kernel_rfl) (fun g => by kernel_rfl) ?_
        rintro ⟨r9, A_7, c_7⟩
        refine TL.conv [.inr (Fact (r9 = r8 ++ be (wu64 (w64 (x.Code + 1))) (2 : Int).toNat)), .inr (Own A_7 c_7 5 1 (r9.map ic8)), .inl (b3, .cells (Plot.c x) 58 (0, 0))] (fun _ hM => hM) ?_
        refine TL.know (fun w hM => hM.fact_at 0 rfl) (fun hp_wput => ?_)
        refine TL.forget [.inr (Own A_7 c_7 5 1 (r9.map ic8)), .inl (b3, .cells (Plot.c x) 58 (0, 0))] (.cons _ (List.Sublist.refl _)) ?_
        have hr9 : r8 ++ be (wu64 (w64 (x.Code + 1))) (2 : Int).toNat = r9 := (hp_wput).symm
        refine TL.run 7 [] [(5, .slice A_7 r9.length c_7), (33, .slice A_f_Plots f.Plots.length c_f_Plots), (34, .int .i64 (f.Plots.length : Int)), (35, .int .i64 (k : Int))] rfl ⟨by kernel_rfl, by kernel_rfl⟩ ?_
        refine TL.done rfl ?_
        refine TE.normal_block ?_
        refine TE.next ?_
        refine TC.region ?_
        refine TL.run 2 [] [(5, .slice A_7 r9.length c_7), (33, .slice A_f_Plots f.Plots.length c_f_Plots), (34, .int .i64 (f.Plots.length : Int)), (35, .int .i64 (w64 ((k : Int) + 1)))] rfl ⟨by kernel_rfl, by kernel_rfl⟩ ?_
        refine TL.done rfl ?_
        refine TE.rw 35 (.int .i64 (w64 ((k : Int) + 1))) (.int .i64 ((k + 1 : Nat) : Int)) (by kernel_rfl) (w64_cast k (by (try have kc_ := wchk_len hr1 h1); (try have kp2_ : r2.length = 3 := put_len hr2); (try have kp4_ : r4.length ≤ 9 := Nat.le_of_eq (put_len hr4)); (try have kp3_ := put_len hr3); (try have kp4_ := put_len hr4); (try have kp5_ := put_len hr5); (try have kp6_ := put_len hr6); (try have kp7_ := put_len hr7); (try have kp8_ := put_len hr8); (try have kp9_ := put_len hr9); (try have kp10_ := put_len hr10); (try have kp11_ := put_len hr11); (try have kp12_ := put_len hr12); (try have kp13_ := put_len hr13); omega)) ?_
        exact TE.again (x := (k, b_, A_b_, c_b_)) (k + 1, r9, A_7, c_7) ⟨by omega, hI.trans (by subst hr1 hr2 hr3 hr4 hr5 hr6 hr7 hr8 hr9; rw [hd]; exact rfl), (by have q0_ := (bne_f h1); (try have kc_ := wchk_len hr1 h1); (try have kp2_ : r2.length = 3 := put_len hr2); (try have kp4_ : r4.length ≤ 9 := Nat.le_of_eq (put_len hr4)); (try have kp3_ := put_len hr3); (try have kp4_ := put_len hr4); (try have kp5_ := put_len hr5); (try have kp6_ := put_len hr6); (try have kp7_ := put_len hr7); (try have kp8_ := put_len hr8); (try have kp9_ := put_len hr9); (try have kp10_ := put_len hr10); (try have kp11_ := put_len hr11); (try have kp12_ := put_len hr12); (try have kp13_ := put_len hr13); first | omega | (simp <;> omega) | (simp at * <;> omega) | (simp only [w64_eq] at *; omega) | (simp only [List.length_append, List.length_cons, List.length_nil]; omega))⟩ (by show f.Plots.length - (k + 1) < f.Plots.length - k; omega) (by kernel_rfl) (.cons_cons _ (.cons _ (.slnil)))
      · have hd : f.Plots.drop k = [] := List.drop_eq_nil_of_le (by have := of_decide_eq_false h2; first | omega | (simp at this; omega))
        refine TC.exit ?_
        refine TE.exit_then (TE.exit_then (TE.exit_same ?_))
        exact TE.cut (b_, A_b_, c_b_) (⟨hI.trans (by subst hr1 hr2 hr3 hr4; rw [hd]; exact rfl), (by have q0_ := (bne_f h1); (try have kc_ := wchk_len hr1 h1); (try have kp2_ : r2.length = 3 := put_len hr2); (try have kp4_ : r4.length ≤ 9 := Nat.le_of_eq (put_len hr4)); (try have kp3_ := put_len hr3); (try have kp4_ := put_len hr4); (try have kp5_ := put_len hr5); (try have kp6_ := put_len hr6); (try have kp7_ := put_len hr7); (try have kp8_ := put_len hr8); (try have kp9_ := put_len hr9); (try have kp10_ := put_len hr10); (try have kp11_ := put_len hr11); (try have kp12_ := put_len hr12); (try have kp13_ := put_len hr13); first | omega | (simp <;> omega) | (simp at * <;> omega) | (simp only [w64_eq] at *; omega) | (simp only [List.length_append, List.length_cons, List.length_nil]; omega))⟩) (by kernel_rfl) (.cons_cons _ (.slnil))
    · rintro ⟨b__2, A_b__2, c_b__2⟩ ⟨hJ, hl_b__2⟩
      refine TE.next ?_
      refine TC.seq ?_
      refine TC.region ?_
      refine TL.run 2 [] [(65, .slice A_b__2 b__2.length c_b__2), (66, .slice A_b__2 b__2.length c_b__2)] rfl ⟨by kernel_rfl, by kernel_rfl⟩ ?_
      refine TL.val (sV (convert 49 9 (.slice A_b__2 b__2.length c_b__2))) (some 67) (.string (strOf b__2)) [(65, .slice A_b__2 b__2.length c_b__2), (67, .string (strOf b__2))] (fun w hM => run_bytes_str (e := 5) (by kernel_rfl) (by kernel_rfl) (by kernel_rfl) (hM.rd_at 0 rfl) (by rfl)) (by kernel_rfl) (by kernel_rfl) ?_
      refine TL.call (some 68) [(65, .slice A_b__2 b__2.length c_b__2), (68, .int .i64 (wire_Sum (strOf b__2)))] (fun w _ => wire_Sum_w (strOf b__2) w (by have q0_ := (bne_f h1); (try have kc_ := wchk_len hr1 h1); (try have kp2_ : r2.length = 3 := put_len hr2); (try have kp4_ : r4.length ≤ 9 := Nat.le_of_eq (put_len hr4)); (try have kp3_ := put_len hr3); (try have kp4_ := put_len hr4); (try have kp5_ := put_len hr5); (try have kp6_ := put_len hr6); (try have kp7_ := put_len hr7); (try have kp8_ := put_len hr8); (try have kp9_ := put_len hr9); (try have kp10_ := put_len hr10); (try have kp11_ := put_len hr11); (try have kp12_ := put_len hr12); (try have kp13_ := put_len hr13); rw [size_strOf]; omega)) (by kernel_rfl) (by kernel_rfl) ?_
      generalize hr10 : wire_Sum (strOf b__2) = r10
      refine TL.run 5 [] [(65, .slice A_b__2 b__2.length c_b__2), (69, .int .u64 (wu64 r10))] rfl ⟨by kernel_rfl, by kernel_rfl⟩ ?_
      refine TL.callM (Γ := (List Int) × (Option Addr) × Nat) (fun g => .slice g.2.1 g.1.length g.2.2) (fun g => [.inr (Fact (g.1 = b__2 ++ be (wu64 r10) (2 : Int).toNat)), .inr (Own g.2.1 g.2.2 5 1 (g.1.map ic8))]) [.inr (Own A_b__2 c_b__2 5 1 (b__2.map ic8))] [] (some 70) (fun g => [(70, .slice g.2.1 g.1.length g.2.2)]) (fun w hM => wput_w A_b__2 c_b__2 b__2 (wu64 r10) 2 w hM.pass (by have q0_ := (bne_f h1); (try have kc_ := wchk_len hr1 h1); (try have kp2_ : r2.length = 3 := put_len hr2); (try have kp4_ : r4.length ≤ 9 := Nat.le_of_eq (put_len hr4)); (try have kp3_ := put_len hr3); (try have kp4_ := put_len hr4); (try have kp5_ := put_len hr5); (try have kp6_ := put_len hr6); (try have kp7_ := put_len hr7); (try have kp8_ := put_len hr8); (try have kp9_ := put_len hr9); (try have kp10_ := put_len hr10); (try have kp11_ := put_len hr11); (try have kp12_ := put_len hr12); (try have kp13_ := put_len hr13); first | omega | (simp only [w64_eq]; omega) | (simp <;> omega)) (by have q0_ := (bne_f h1); (try have kc_ := wchk_len hr1 h1); (try have kp2_ : r2.length = 3 := put_len hr2); (try have kp4_ : r4.length ≤ 9 := Nat.le_of_eq (put_len hr4)); (try have kp3_ := put_len hr3); (try have kp4_ := put_len hr4); (try have kp5_ := put_len hr5); (try have kp6_ := put_len hr6); (try have kp7_ := put_len hr7); (try have kp8_ := put_len hr8); (try have kp9_ := put_len hr9); (try have kp10_ := put_len hr10); (try have kp11_ := put_len hr11); (try have kp12_ := put_len hr12); (try have kp13_ := put_len hr13); first | omega | (simp only [w64_eq]; omega) | (simp <;> omega))) (by kernel_rfl) (fun g => by kernel_rfl) ?_
      rintro ⟨r11, A_8, c_8⟩
      refine TL.conv [.inr (Fact (r11 = b__2 ++ be (wu64 r10) (2 : Int).toNat)), .inr (Own A_8 c_8 5 1 (r11.map ic8))] (fun _ hM => hM) ?_
      refine TL.know (fun w hM => hM.fact_at 0 rfl) (fun hp_wput => ?_)
      refine TL.forget [.inr (Own A_8 c_8 5 1 (r11.map ic8))] (.cons _ (List.Sublist.refl _)) ?_
      have hr11 : b__2 ++ be (wu64 r10) (2 : Int).toNat = r11 := (hp_wput).symm
      refine TL.val (sV (convert 49 9 (.slice A_8 r11.length c_8))) (some 71) (.string (strOf r11)) [(71, .string (strOf r11))] (fun w hM => run_bytes_str (e := 5) (by kernel_rfl) (by kernel_rfl) (by kernel_rfl) (hM.rd_at 0 rfl) (by rfl)) (by kernel_rfl) (by kernel_rfl) ?_
      refine TL.run 9 [] [(2, .string (strOf r11)), (3, .int .i64 0)] rfl ⟨by kernel_rfl, by kernel_rfl⟩ ?_
      refine TL.next rfl ?_
      refine TC.ret ?_
      have e : wire_Encode f = (strOf r11, 0) := by subst hr1 hr2 hr3 hr4 hr10 hr11; unfold wire_Encode; exact cond_f h1 (bindv_eq (hR.symm.trans hJ) (rfl))
      exact TE.ret [] (.tuple #[.string (strOf r11), .int .i64 0]) ⟨by kernel_rfl, by kernel_rfl⟩ (by rw [e]; first | done | kernel_rfl)

end Go.Sky
