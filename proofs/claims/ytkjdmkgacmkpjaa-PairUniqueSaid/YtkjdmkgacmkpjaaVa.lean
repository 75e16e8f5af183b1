/- Functions of the program, each with the Lean function that it computes. Conditions: none. -/
import Derived.Test.YtkjdmkgacmkpjaaNum
import Derived.Test.YtkjdmkgacmkpjaaThick
import Derived.Test.YtkjdmkgacmkpjaaStr
namespace Go.Sky
open Go Go.Eng Go.Proofs
def assign_Check_L2 : List Int → Nat → ((Unit) ⊕ (Int))
  | [], _ => .inl ()
  | x_2 :: xs, k_2 => cond ((decide (x_2 < (-1))) || (decide (x_2 > 1099511627776))) (
      .inr 4) (
      assign_Check_L2 xs (k_2 + 1))
def assign_Check_L1 (costs : List (List Int)) : List (List Int) → Nat → ((Unit) ⊕ (Int))
  | [], _ => .inl ()
  | x :: xs, k => cond (decide ((x.length : Int) > 32)) (
      .inr 2) (
      cond ((x.length : Int) != ((costs[0]?.getD []).length : Int)) (
        .inr 3) (
        Sum.elim (fun _ =>
          assign_Check_L1 costs xs (k + 1)) (fun r => .inr r) (assign_Check_L2 x 0)))
def assign_Check (costs : List (List Int)) (miss : Int) : Int :=
  cond (decide ((costs.length : Int) > 32)) (
    2) (
    Sum.elim (fun _ =>
      cond ((decide (miss < 0)) || (decide (miss > 1099511627776))) (
        4) (
        0)) (fun r => r) (assign_Check_L1 costs costs 0))

set_option maxRecDepth 100000 in
theorem assign_Check_w (A_costs : Option Addr) (c_costs : Nat) (costs : List (List Int)) (o_costs : List (Sl Int)) (miss : Int) (w : World) (h_costs : Rd w 1 A_costs (o_costs.map Sl.c)) (_hc_costs : costs.length ≤ c_costs) (hd_costs : ∀ s ∈ o_costs, s.rd w 1 ic) (he_costs : costs = o_costs.map Sl.l) : Calls Try.prog 101 #[.slice A_costs costs.length c_costs, .int .i64 miss] w (Ret w (.int .i64 (assign_Check costs miss))) := by
  have s_costs := h_costs.short; rw [← sl_len he_costs] at s_costs
  refine calls_intro (vs := [.slice A_costs costs.length c_costs, .int .i64 miss]) (w := w) Try.func101 rfl Try.ntmps101 rfl ?_
  refine TC.weak [(0, .slice A_costs costs.length c_costs), (1, .int .i64 miss)] (by kernel_rfl) ?_
  refine TC.seq ?_
  refine TC.region ?_
  refine TL.run 1 [] [(0, .slice A_costs costs.length c_costs), (1, .int .i64 miss)] rfl ⟨by kernel_rfl, by kernel_rfl⟩ ?_
  refine TL.next rfl ?_
  refine TC.seq ?_
  refine TC.seq ?_
  refine TC.region ?_
  refine TL.run 3 [] [(0, .slice A_costs costs.length c_costs), (1, .int .i64 miss), (11, .bool (decide ((costs.length : Int) > 32)))] rfl ⟨by kernel_rfl, by kernel_rfl⟩ ?_
  refine TL.next rfl ?_
  refine TC.cond (decide ((costs.length : Int) > 32)) rfl (by kernel_rfl) (fun h1 => ?_) (fun h1 => ?_)
  · refine TC.seq ?_
    refine TC.region ?_
    refine TL.run 1 [] [(4, .int .i64 2)] rfl ⟨by kernel_rfl, by kernel_rfl⟩ ?_
    refine TL.next rfl ?_
    refine TC.ret ?_
    refine TE.ret_then ?_
    have e : assign_Check costs miss = 2 := by unfold assign_Check; exact cond_t h1 (rfl)
    exact TE.ret [] (.int .i64 2) ⟨by kernel_rfl, by kernel_rfl⟩ (by rw [e]; first | done | kernel_rfl)
  · refine TC.skip ?_
    refine TE.next ?_
    refine TC.seq ?_
    refine TC.seq ?_
    refine TC.region ?_
    refine TL.run 3 [] [(0, .slice A_costs costs.length c_costs), (1, .int .i64 miss), (12, .slice A_costs costs.length c_costs), (13, .int .i64 (costs.length : Int)), (14, .int .i64 0)] rfl ⟨by kernel_rfl, by kernel_rfl⟩ ?_
    refine TL.next rfl ?_
    refine TC.weak [(0, .slice A_costs costs.length c_costs), (1, .int .i64 miss), (12, .slice A_costs costs.length c_costs), (13, .int .i64 (costs.length : Int)), (14, .int .i64 0)] (by kernel_rfl) ?_
    obtain ⟨R1, hR⟩ : ∃ R, R = assign_Check_L1 costs costs 0 := ⟨_, rfl⟩
    refine TC.cut (S := Unit) (fun (_ : Unit) => [(1, .int .i64 miss)]) (fun (_ : Unit) => []) (fun (_ : Unit) => R1 = .inl ()) ?_ ?_
    · refine TC.block ?_
      refine TC.loop (X := Nat) (fun k => [(0, .slice A_costs costs.length c_costs), (1, .int .i64 miss), (12, .slice A_costs costs.length c_costs), (13, .int .i64 (costs.length : Int)), (14, .int .i64 (k : Int))]) (fun k => []) (fun k => costs.length - k) (fun k => k ≤ costs.length ∧ R1 = assign_Check_L1 costs (costs.drop k) k) ?_ 0 ⟨Nat.zero_le _, hR⟩
      rintro k ⟨hk, hI⟩
      refine TC.seq ?_
      refine TC.region ?_
      refine TL.run 1 [] [(0, .slice A_costs costs.length c_costs), (1, .int .i64 miss), (12, .slice A_costs costs.length c_costs), (13, .int .i64 (costs.length : Int)), (14, .int .i64 (k : Int)), (15, .bool (decide ((k : Int) < (costs.length : Int))))] rfl ⟨by kernel_rfl, by kernel_rfl⟩ ?_
      refine TL.next rfl ?_
      refine TC.seq ?_
      refine TC.cond (decide ((k : Int) < (costs.length : Int))) rfl (by kernel_rfl) (fun h2 => ?_) (fun h2 => ?_)
      · have hlt : k < costs.length := by have := of_decide_eq_true h2; first | omega | (simp at this; omega)
        obtain ⟨x, hx⟩ : ∃ e_, costs[k]? = some e_ := ⟨_, List.getElem?_eq_getElem hlt⟩
        have hd := drop_at hx
        refine TC.skip ?_
        refine TE.next ?_
        refine TC.seq ?_
        refine TC.block ?_
        refine TC.seq ?_
        refine TC.region ?_
        refine TL.val (sV (Instr.indexAt 126 (.slice A_costs costs.length c_costs) (.int .i64 (k : Int)))) (some 16) (.pointer (some ((A_costs.getD noAddr).add (k * 1)))) [(0, .slice A_costs costs.length c_costs), (1, .int .i64 miss), (12, .slice A_costs costs.length c_costs), (13, .int .i64 (costs.length : Int)), (14, .int .i64 (k : Int)), (16, .pointer (some ((A_costs.getD noAddr).add (k * 1))))] (fun w hM => run_index (h_costs.sat hM) (sl_len he_costs) (by kernel_rfl) (by have q0_ := (dec_f h1); first | omega | (rw [List.length_set]; omega) | (dsimp only; omega) | (rw [List.length_drop]; omega) | (simp only [w64_eq]; omega) | exact (tm_in (by (first | (rw [w64_id (by omega)]; omega) | (simp only [w64_eq]; omega))) (by omega)).1 | exact (tm_in (by (first | (rw [w64_id (by omega)]; omega) | (simp only [w64_eq]; omega))) (by omega)).2.1 | exact (tm_in (by (first | (rw [w64_id (by omega)]; omega) | (simp only [w64_eq]; omega))) (by omega)).2.2 | (simp only [List.length_take] at *; omega) | (simp <;> omega)) (by have q0_ := (dec_f h1); first | omega | (rw [List.length_set]; omega) | (dsimp only; omega) | (rw [List.length_drop]; omega) | (simp only [w64_eq]; omega) | exact (tm_in (by (first | (rw [w64_id (by omega)]; omega) | (simp only [w64_eq]; omega))) (by omega)).1 | exact (tm_in (by (first | (rw [w64_id (by omega)]; omega) | (simp only [w64_eq]; omega))) (by omega)).2.1 | exact (tm_in (by (first | (rw [w64_id (by omega)]; omega) | (simp only [w64_eq]; omega))) (by omega)).2.2 | (simp only [List.length_take] at *; omega) | (simp <;> omega))) (by kernel_rfl) (by kernel_rfl) ?_
        have s_s1 := (el_rd (sl_all hd_costs k) (sl_at he_costs hx)).short; rw [List.length_map] at s_s1
        refine TL.val (sV (Instr.loadAt 62 (.pointer (some ((A_costs.getD noAddr).add (k * 1)))))) (some 17) (.slice ((o_costs[k]?.getD Sl.zero).A) x.length ((o_costs[k]?.getD Sl.zero).cap)) [(0, .slice A_costs costs.length c_costs), (1, .int .i64 miss), (12, .slice A_costs costs.length c_costs), (13, .int .i64 (costs.length : Int)), (14, .int .i64 (k : Int)), (17, .slice ((o_costs[k]?.getD Sl.zero).A) x.length ((o_costs[k]?.getD Sl.zero).cap))] (fun w hM => (by have h := run_load_one (P := Try.prog) (T := 62) (off := 0) (i := k) (.slice (o_costs[k]?.getD Sl.zero).A (o_costs[k]?.getD Sl.zero).l.length (o_costs[k]?.getD Sl.zero).cap) (h_costs.sat hM) (map_at (getD_at _ _ Sl.zero (sl_lt he_costs (List.getElem?_eq_some_iff.1 hx).1))) (by kernel_rfl) (by kernel_rfl); rw [(sl_at he_costs hx)] at h; exact h)) (by kernel_rfl) (by kernel_rfl) ?_
        refine TL.run 3 [] [(0, .slice A_costs costs.length c_costs), (1, .int .i64 miss), (6, .slice ((o_costs[k]?.getD Sl.zero).A) x.length ((o_costs[k]?.getD Sl.zero).cap)), (12, .slice A_costs costs.length c_costs), (13, .int .i64 (costs.length : Int)), (14, .int .i64 (k : Int))] rfl ⟨by kernel_rfl, by kernel_rfl⟩ ?_
        refine TL.next rfl ?_
        refine TC.seq ?_
        refine TC.block ?_
        refine TC.seq ?_
        refine TC.region ?_
        refine TL.run 4 [] [(0, .slice A_costs costs.length c_costs), (1, .int .i64 miss), (6, .slice ((o_costs[k]?.getD Sl.zero).A) x.length ((o_costs[k]?.getD Sl.zero).cap)), (12, .slice A_costs costs.length c_costs), (13, .int .i64 (costs.length : Int)), (14, .int .i64 (k : Int)), (18, .bool (decide ((x.length : Int) > 32)))] rfl ⟨by kernel_rfl, by kernel_rfl⟩ ?_
        refine TL.next rfl ?_
        refine TC.cond (decide ((x.length : Int) > 32)) rfl (by kernel_rfl) (fun h3 => ?_) (fun h3 => ?_)
        · refine TC.seq ?_
          refine TC.region ?_
          refine TL.run 1 [] [(4, .int .i64 2)] rfl ⟨by kernel_rfl, by kernel_rfl⟩ ?_
          refine TL.next rfl ?_
          refine TC.ret ?_
          refine TE.ret_block (TE.ret_then (TE.ret_block (TE.ret_then (TE.ret_then (TE.ret_block (TE.ret_then (TE.ret_then ?_)))))))
          have e : assign_Check costs miss = 2 := by unfold assign_Check; exact cond_f h1 (elim_r (hR.symm.trans (hI.trans (by rw [hd]; exact cond_t h3 (rfl)))) rfl)
          exact TE.ret [] (.int .i64 2) ⟨by kernel_rfl, by kernel_rfl⟩ (by rw [e]; first | done | kernel_rfl)
        · refine TC.seq ?_
          refine TC.region ?_
          refine TL.run 3 [] [(0, .slice A_costs costs.length c_costs), (1, .int .i64 miss), (6, .slice ((o_costs[k]?.getD Sl.zero).A) x.length ((o_costs[k]?.getD Sl.zero).cap)), (12, .slice A_costs costs.length c_costs), (13, .int .i64 (costs.length : Int)), (14, .int .i64 (k : Int)), (24, .int .i64 (x.length : Int)), (25, .slice A_costs costs.length c_costs)] rfl ⟨by kernel_rfl, by kernel_rfl⟩ ?_
          refine TL.val (sV (Instr.indexAt 126 (.slice A_costs costs.length c_costs) (.int .i64 0))) (some 26) (.pointer (some ((A_costs.getD noAddr).add (0 * 1)))) [(0, .slice A_costs costs.length c_costs), (1, .int .i64 miss), (6, .slice ((o_costs[k]?.getD Sl.zero).A) x.length ((o_costs[k]?.getD Sl.zero).cap)), (12, .slice A_costs costs.length c_costs), (13, .int .i64 (costs.length : Int)), (14, .int .i64 (k : Int)), (24, .int .i64 (x.length : Int)), (26, .pointer (some ((A_costs.getD noAddr).add (0 * 1))))] (fun w hM => run_index (h_costs.sat hM) (sl_len he_costs) (by kernel_rfl) (by have q0_ := (dec_f h1); have q1_ := (dec_f h3); first | omega | (rw [List.length_set]; omega) | (dsimp only; omega) | (rw [List.length_drop]; omega) | (simp only [w64_eq]; omega) | exact (tm_in (by (first | (rw [w64_id (by omega)]; omega) | (simp only [w64_eq]; omega))) (by omega)).1 | exact (tm_in (by (first | (rw [w64_id (by omega)]; omega) | (simp only [w64_eq]; omega))) (by omega)).2.1 | exact (tm_in (by (first | (rw [w64_id (by omega)]; omega) | (simp only [w64_eq]; omega))) (by omega)).2.2 | (simp only [List.length_take] at *; omega) | (simp <;> omega)) (by have q0_ := (dec_f h1); have q1_ := (dec_f h3); first | omega | (rw [List.length_set]; omega) | (dsimp only; omega) | (rw [List.length_drop]; omega) | (simp only [w64_eq]; omega) | exact (tm_in (by (first | (rw [w64_id (by omega)]; omega) | (simp only [w64_eq]; omega))) (by omega)).1 | exact (tm_in (by (first | (rw [w64_id (by omega)]; omega) | (simp only [w64_eq]; omega))) (by omega)).2.1 | exact (tm_in (by (first | (rw [w64_id (by omega)]; omega) | (simp only [w64_eq]; omega))) (by omega)).2.2 | (simp only [List.length_take] at *; omega) | (simp <;> omega))) (by kernel_rfl) (by kernel_rfl) ?_
          have s_s2 := (el_rd (sl_all hd_costs 0) (sl_get he_costs 0)).short; rw [List.length_map] at s_s2
          refine TL.val (sV (Instr.loadAt 62 (.pointer (some ((A_costs.getD noAddr).add (0 * 1)))))) (some 27) (.slice ((o_costs[0]?.getD Sl.zero).A) ((costs[0]?.getD []).length) ((o_costs[0]?.getD Sl.zero).cap)) [(0, .slice A_costs costs.length c_costs), (1, .int .i64 miss), (6, .slice ((o_costs[k]?.getD Sl.zero).A) x.length ((o_costs[k]?.getD Sl.zero).cap)), (12, .slice A_costs costs.length c_costs), (13, .int .i64 (costs.length : Int)), (14, .int .i64 (k : Int)), (24, .int .i64 (x.length : Int)), (27, .slice ((o_costs[0]?.getD Sl.zero).A) ((costs[0]?.getD []).length) ((o_costs[0]?.getD Sl.zero).cap))] (fun w hM => (by have h := run_load_one (P := Try.prog) (T := 62) (off := 0) (i := 0) (.slice (o_costs[0]?.getD Sl.zero).A (o_costs[0]?.getD Sl.zero).l.length (o_costs[0]?.getD Sl.zero).cap) (h_costs.sat hM) (map_at (getD_at _ _ Sl.zero (sl_lt he_costs (by have q0_ := (dec_f h1); have q1_ := (dec_f h3); first | omega | (rw [List.length_set]; omega) | (dsimp only; omega) | (rw [List.length_drop]; omega) | (simp only [w64_eq]; omega) | exact (tm_in (by (first | (rw [w64_id (by omega)]; omega) | (simp only [w64_eq]; omega))) (by omega)).1 | exact (tm_in (by (first | (rw [w64_id (by omega)]; omega) | (simp only [w64_eq]; omega))) (by omega)).2.1 | exact (tm_in (by (first | (rw [w64_id (by omega)]; omega) | (simp only [w64_eq]; omega))) (by omega)).2.2 | (simp only [List.length_take] at *; omega) | (simp <;> omega))))) (by kernel_rfl) (by kernel_rfl); rw [(sl_get he_costs 0)] at h; exact h)) (by kernel_rfl) (by kernel_rfl) ?_
          refine TL.run 8 [] [(0, .slice A_costs costs.length c_costs), (1, .int .i64 miss), (6, .slice ((o_costs[k]?.getD Sl.zero).A) x.length ((o_costs[k]?.getD Sl.zero).cap)), (12, .slice A_costs costs.length c_costs), (13, .int .i64 (costs.length : Int)), (14, .int .i64 (k : Int)), (22, .bool ((x.length : Int) != ((costs[0]?.getD []).length : Int)))] rfl ⟨by kernel_rfl, by kernel_rfl⟩ ?_
          refine TL.next rfl ?_
          refine TC.cond ((x.length : Int) != ((costs[0]?.getD []).length : Int)) rfl (by kernel_rfl) (fun h4 => ?_) (fun h4 => ?_)
          · refine TC.seq ?_
            refine TC.region ?_
            refine TL.run 1 [] [(4, .int .i64 3)] rfl ⟨by kernel_rfl, by kernel_rfl⟩ ?_
            refine TL.next rfl ?_
            refine TC.ret ?_
            refine TE.ret_block (TE.ret_then (TE.ret_block (TE.ret_then (TE.ret_then (TE.ret_block (TE.ret_then (TE.ret_then ?_)))))))
            have e : assign_Check costs miss = 3 := by unfold assign_Check; exact cond_f h1 (elim_r (hR.symm.trans (hI.trans (by rw [hd]; exact cond_f h3 (cond_t h4 (rfl))))) rfl)
            exact TE.ret [] (.int .i64 3) ⟨by kernel_rfl, by kernel_rfl⟩ (by rw [e]; first | done | kernel_rfl)
          · refine TC.skip ?_
            refine TE.normal_block ?_
            refine TE.next ?_
            refine TC.seq ?_
            refine TC.region ?_
            refine TL.run 3 [] [(0, .slice A_costs costs.length c_costs), (1, .int .i64 miss), (12, .slice A_costs costs.length c_costs), (13, .int .i64 (costs.length : Int)), (14, .int .i64 (k : Int)), (30, .slice ((o_costs[k]?.getD Sl.zero).A) x.length ((o_costs[k]?.getD Sl.zero).cap)), (31, .int .i64 (x.length : Int)), (32, .int .i64 0)] rfl ⟨by kernel_rfl, by kernel_rfl⟩ ?_
            refine TL.next rfl ?_
            refine TC.weak [(0, .slice A_costs costs.length c_costs), (1, .int .i64 miss), (12, .slice A_costs costs.length c_costs), (13, .int .i64 (costs.length : Int)), (14, .int .i64 (k : Int)), (30, .slice ((o_costs[k]?.getD Sl.zero).A) x.length ((o_costs[k]?.getD Sl.zero).cap)), (31, .int .i64 (x.length : Int)), (32, .int .i64 0)] (by kernel_rfl) ?_
            obtain ⟨R2, hR_2⟩ : ∃ R, R = assign_Check_L2 x 0 := ⟨_, rfl⟩
            refine TC.cut (S := Unit) (fun (_ : Unit) => [(0, .slice A_costs costs.length c_costs), (1, .int .i64 miss), (12, .slice A_costs costs.length c_costs), (13, .int .i64 (costs.length : Int)), (14, .int .i64 (k : Int))]) (fun (_ : Unit) => []) (fun (_ : Unit) => R2 = .inl ()) ?_ ?_
            · refine TC.block ?_
              refine TC.loop (X := Nat) (fun k_2 => [(0, .slice A_costs costs.length c_costs), (1, .int .i64 miss), (12, .slice A_costs costs.length c_costs), (13, .int .i64 (costs.length : Int)), (14, .int .i64 (k : Int)), (30, .slice ((o_costs[k]?.getD Sl.zero).A) x.length ((o_costs[k]?.getD Sl.zero).cap)), (31, .int .i64 (x.length : Int)), (32, .int .i64 (k_2 : Int))]) (fun k_2 => []) (fun k_2 => x.length - k_2) (fun k_2 => k_2 ≤ x.length ∧ R2 = assign_Check_L2 (x.drop k_2) k_2) ?_ 0 ⟨Nat.zero_le _, hR_2⟩
              rintro k_2 ⟨hk_2, hI_2⟩
              refine TC.seq ?_
              refine TC.region ?_
              refine TL.run 1 [] [(0, .slice A_costs costs.length c_costs), (1, .int .i64 miss), (12, .slice A_costs costs.length c_costs), (13, .int .i64 (costs.length : Int)), (14, .int .i64 (k : Int)), (30, .slice ((o_costs[k]?.getD Sl.zero).A) x.length ((o_costs[k]?.getD Sl.zero).cap)), (31, .int .i64 (x.length : Int)), (32, .int .i64 (k_2 : Int)), (33, .bool (decide ((k_2 : Int) < (x.length : Int))))] rfl ⟨by kernel_rfl, by kernel_rfl⟩ ?_
              refine TL.next rfl ?_
              refine TC.seq ?_
              refine TC.cond (decide ((k_2 : Int) < (x.length : Int))) rfl (by kernel_rfl) (fun h5 => ?_) (fun h5 => ?_)
              · have hlt_2 : k_2 < x.length := by have := of_decide_eq_true h5; first | omega | (simp at this; omega)
                obtain ⟨x_2, hx_2⟩ : ∃ e_, x[k_2]? = some e_ := ⟨_, List.getElem?_eq_getElem hlt_2⟩
                have hd_2 := drop_at hx_2
                refine TC.skip ?_
                refine TE.next ?_
                refine TC.seq ?_
                refine TC.block ?_
                refine TC.seq ?_
                refine TC.region ?_
                refine TL.val (sV (Instr.indexAt 62 (.slice ((o_costs[k]?.getD Sl.zero).A) x.length ((o_costs[k]?.getD Sl.zero).cap)) (.int .i64 (k_2 : Int)))) (some 34) (.pointer (some ((((o_costs[k]?.getD Sl.zero).A).getD noAddr).add (k_2 * 1)))) [(0, .slice A_costs costs.length c_costs), (1, .int .i64 miss), (12, .slice A_costs costs.length c_costs), (13, .int .i64 (costs.length : Int)), (14, .int .i64 (k : Int)), (30, .slice ((o_costs[k]?.getD Sl.zero).A) x.length ((o_costs[k]?.getD Sl.zero).cap)), (31, .int .i64 (x.length : Int)), (32, .int .i64 (k_2 : Int)), (34, .pointer (some ((((o_costs[k]?.getD Sl.zero).A).getD noAddr).add (k_2 * 1))))] (fun w hM => run_index (el_rd ((sl_all hd_costs k).sat hM) (sl_at he_costs hx)) (by simp) (by kernel_rfl) (by have q0_ := (dec_f h1); have q1_ := (dec_f h3); have q2_ := (bne_f h4); first | omega | (rw [List.length_set]; omega) | (dsimp only; omega) | (rw [List.length_drop]; omega) | (simp only [w64_eq]; omega) | exact (tm_in (by (first | (rw [w64_id (by omega)]; omega) | (simp only [w64_eq]; omega))) (by omega)).1 | exact (tm_in (by (first | (rw [w64_id (by omega)]; omega) | (simp only [w64_eq]; omega))) (by omega)).2.1 | exact (tm_in (by (first | (rw [w64_id (by omega)]; omega) | (simp only [w64_eq]; omega))) (by omega)).2.2 | (simp only [List.length_take] at *; omega) | (simp <;> omega)) (by have q0_ := (dec_f h1); have q1_ := (dec_f h3); have q2_ := (bne_f h4); first | omega | (rw [List.length_set]; omega) | (dsimp only; omega) | (rw [List.length_drop]; omega) | (simp only [w64_eq]; omega) | exact (tm_in (by (first | (rw [w64_id (by omega)]; omega) | (simp only [w64_eq]; omega))) (by omega)).1 | exact (tm_in (by (first | (rw [w64_id (by omega)]; omega) | (simp only [w64_eq]; omega))) (by omega)).2.1 | exact (tm_in (by (first | (rw [w64_id (by omega)]; omega) | (simp only [w64_eq]; omega))) (by omega)).2.2 | (simp only [List.length_take] at *; omega) | (simp <;> omega))) (by kernel_rfl) (by kernel_rfl) ?_
                refine TL.val (sV (Instr.loadAt 3 (.pointer (some ((((o_costs[k]?.getD Sl.zero).A).getD noAddr).add (k_2 * 1)))))) (some 35) (.int .i64 x_2) [(0, .slice A_costs costs.length c_costs), (1, .int .i64 miss), (12, .slice A_costs costs.length c_costs), (13, .int .i64 (costs.length : Int)), (14, .int .i64 (k : Int)), (30, .slice ((o_costs[k]?.getD Sl.zero).A) x.length ((o_costs[k]?.getD Sl.zero).cap)), (31, .int .i64 (x.length : Int)), (32, .int .i64 (k_2 : Int)), (35, .int .i64 x_2)] (fun w hM => run_load_one (off := 0) (i := k_2) (.int .i64 x_2) (el_rd ((sl_all hd_costs k).sat hM) (sl_at he_costs hx)) (map_at hx_2) (by kernel_rfl) (by kernel_rfl)) (by kernel_rfl) (by kernel_rfl) ?_
                refine TL.run 3 [] [(0, .slice A_costs costs.length c_costs), (1, .int .i64 miss), (8, .int .i64 x_2), (12, .slice A_costs costs.length c_costs), (13, .int .i64 (costs.length : Int)), (14, .int .i64 (k : Int)), (30, .slice ((o_costs[k]?.getD Sl.zero).A) x.length ((o_costs[k]?.getD Sl.zero).cap)), (31, .int .i64 (x.length : Int)), (32, .int .i64 (k_2 : Int))] rfl ⟨by kernel_rfl, by kernel_rfl⟩ ?_
                refine TL.next rfl ?_
                refine TC.seq ?_
                refine TC.region ?_
                refine TL.run 3 [] [(0, .slice A_costs costs.length c_costs), (1, .int .i64 miss), (8, .int .i64 x_2), (12, .slice A_costs costs.length c_costs), (13, .int .i64 (costs.length : Int)), (14, .int .i64 (k : Int)), (30, .slice ((o_costs[k]?.getD Sl.zero).A) x.length ((o_costs[k]?.getD Sl.zero).cap)), (31, .int .i64 (x.length : Int)), (32, .int .i64 (k_2 : Int)), (38, .bool (decide (x_2 < (-1))))] rfl ⟨by kernel_rfl, by kernel_rfl⟩ ?_
                refine TL.join 38 (decide (x_2 < (-1))) 6 [] [] (fun β => [(0, .slice A_costs costs.length c_costs), (1, .int .i64 miss), (12, .slice A_costs costs.length c_costs), (13, .int .i64 (costs.length : Int)), (14, .int .i64 (k : Int)), (30, .slice ((o_costs[k]?.getD Sl.zero).A) x.length ((o_costs[k]?.getD Sl.zero).cap)), (31, .int .i64 (x.length : Int)), (32, .int .i64 (k_2 : Int)), (41, .bool (β || (decide (x_2 > 1099511627776))))]) (by kernel_rfl) rfl ⟨by kernel_rfl, by kernel_rfl⟩ ⟨by kernel_rfl, by kernel_rfl⟩ ?_
                refine TL.next rfl ?_
                refine TC.cond ((decide (x_2 < (-1))) || (decide (x_2 > 1099511627776))) rfl (by kernel_rfl) (fun h6 => ?_) (fun h6 => ?_)
                · refine TC.seq ?_
                  refine TC.region ?_
                  refine TL.run 1 [] [(4, .int .i64 4)] rfl ⟨by kernel_rfl, by kernel_rfl⟩ ?_
                  refine TL.next rfl ?_
                  refine TC.ret ?_
                  refine TE.ret_block (TE.ret_then (TE.ret_then (TE.ret_block (TE.ret_then (TE.ret_block (TE.ret_then (TE.ret_then (TE.ret_block (TE.ret_then (TE.ret_then ?_))))))))))
                  have e : assign_Check costs miss = 4 := by unfold assign_Check; exact cond_f h1 (elim_r (hR.symm.trans (hI.trans (by rw [hd]; exact cond_f h3 (cond_f h4 (elim_r (hR_2.symm.trans (hI_2.trans (by rw [hd_2]; exact cond_t h6 (rfl)))) rfl))))) rfl)
                  exact TE.ret [] (.int .i64 4) ⟨by kernel_rfl, by kernel_rfl⟩ (by rw [e]; first | done | kernel_rfl)
                · refine TC.skip ?_
                  refine TE.normal_block ?_
                  refine TE.next ?_
                  refine TC.region ?_
                  refine TL.run 2 [] [(0, .slice A_costs costs.length c_costs), (1, .int .i64 miss), (12, .slice A_costs costs.length c_costs), (13, .int .i64 (costs.length : Int)), (14, .int .i64 (k : Int)), (30, .slice ((o_costs[k]?.getD Sl.zero).A) x.length ((o_costs[k]?.getD Sl.zero).cap)), (31, .int .i64 (x.length : Int)), (32, .int .i64 (w64 ((k_2 : Int) + 1)))] rfl ⟨by kernel_rfl, by kernel_rfl⟩ ?_
                  refine TL.done rfl ?_
                  refine TE.rw 32 (.int .i64 (w64 ((k_2 : Int) + 1))) (.int .i64 ((k_2 + 1 : Nat) : Int)) (by kernel_rfl) (w64_cast k_2 (by omega)) ?_
                  exact TE.again (x := k_2) (k_2 + 1) ⟨by omega, hI_2.trans (by rw [hd_2]; exact cond_f h6 (rfl))⟩ (by show x.length - (k_2 + 1) < x.length - k_2; omega) (by kernel_rfl) (.slnil)
              · have hd_2 : x.drop k_2 = [] := List.drop_eq_nil_of_le (by have := of_decide_eq_false h5; first | omega | (simp at this; omega))
                refine TC.exit ?_
                refine TE.exit_then (TE.exit_then (TE.exit_same ?_))
                exact TE.cut () (hI_2.trans (by rw [hd_2]; exact rfl)) (by kernel_rfl) (.slnil)
            · intro _ hJ_2
              refine TE.normal_block ?_
              refine TE.next ?_
              refine TC.region ?_
              refine TL.run 2 [] [(0, .slice A_costs costs.length c_costs), (1, .int .i64 miss), (12, .slice A_costs costs.length c_costs), (13, .int .i64 (costs.length : Int)), (14, .int .i64 (w64 ((k : Int) + 1)))] rfl ⟨by kernel_rfl, by kernel_rfl⟩ ?_
              refine TL.done rfl ?_
              refine TE.rw 14 (.int .i64 (w64 ((k : Int) + 1))) (.int .i64 ((k + 1 : Nat) : Int)) (by kernel_rfl) (w64_cast k (by omega)) ?_
              exact TE.again (x := k) (k + 1) ⟨by omega, hI.trans (by rw [hd]; exact cond_f h3 (cond_f h4 (elim_l (hR_2.symm.trans hJ_2) (rfl))))⟩ (by show costs.length - (k + 1) < costs.length - k; omega) (by kernel_rfl) (.slnil)
      · have hd : costs.drop k = [] := List.drop_eq_nil_of_le (by have := of_decide_eq_false h2; first | omega | (simp at this; omega))
        refine TC.exit ?_
        refine TE.exit_then (TE.exit_then (TE.exit_same ?_))
        exact TE.cut () (hI.trans (by rw [hd]; exact rfl)) (by kernel_rfl) (.slnil)
    · intro _ hJ
      refine TE.next ?_
      refine TC.seq ?_
      refine TC.seq ?_
      refine TC.region ?_
      refine TL.run 3 [] [(1, .int .i64 miss), (46, .bool (decide (miss < 0)))] rfl ⟨by kernel_rfl, by kernel_rfl⟩ ?_
      refine TL.join 46 (decide (miss < 0)) 6 [] [] (fun β => [(49, .bool (β || (decide (miss > 1099511627776))))]) (by kernel_rfl) rfl ⟨by kernel_rfl, by kernel_rfl⟩ ⟨by kernel_rfl, by kernel_rfl⟩ ?_
      refine TL.next rfl ?_
      refine TC.cond ((decide (miss < 0)) || (decide (miss > 1099511627776))) rfl (by kernel_rfl) (fun h7 => ?_) (fun h7 => ?_)
      · refine TC.seq ?_
        refine TC.region ?_
        refine TL.run 1 [] [(4, .int .i64 4)] rfl ⟨by kernel_rfl, by kernel_rfl⟩ ?_
        refine TL.next rfl ?_
        refine TC.ret ?_
        refine TE.ret_then ?_
        have e : assign_Check costs miss = 4 := by unfold assign_Check; exact cond_f h1 (elim_l (hR.symm.trans hJ) (cond_t h7 (rfl)))
        exact TE.ret [] (.int .i64 4) ⟨by kernel_rfl, by kernel_rfl⟩ (by rw [e]; first | done | kernel_rfl)
      · refine TC.skip ?_
        refine TE.next ?_
        refine TC.seq ?_
        refine TC.region ?_
        refine TL.run 1 [] [(4, .int .i64 0)] rfl ⟨by kernel_rfl, by kernel_rfl⟩ ?_
        refine TL.next rfl ?_
        refine TC.ret ?_
        have e : assign_Check costs miss = 0 := by unfold assign_Check; exact cond_f h1 (elim_l (hR.symm.trans hJ) (cond_f h7 (rfl)))
        exact TE.ret [] (.int .i64 0) ⟨by kernel_rfl, by kernel_rfl⟩ (by rw [e]; first | done | kernel_rfl)

def assign_width (costs : List (List Int)) : Int :=
  cond ((costs.length : Int) == 0) (
    0) (
    ((costs[0]?.getD []).length : Int))

set_option maxRecDepth 100000 in
theorem assign_width_w (A_costs : Option Addr) (c_costs : Nat) (costs : List (List Int)) (o_costs : List (Sl Int)) (w : World) (h_costs : Rd w 1 A_costs (o_costs.map Sl.c)) (_hc_costs : costs.length ≤ c_costs) (hd_costs : ∀ s ∈ o_costs, s.rd w 1 ic) (he_costs : costs = o_costs.map Sl.l) : Calls Try.prog 94 #[.slice A_costs costs.length c_costs] w (Ret w (.int .i64 (assign_width costs))) := by
  have s_costs := h_costs.short; rw [← sl_len he_costs] at s_costs
  refine calls_intro (vs := [.slice A_costs costs.length c_costs]) (w := w) Try.func94 rfl Try.ntmps94 rfl ?_
  refine TC.weak [(0, .slice A_costs costs.length c_costs)] (by kernel_rfl) ?_
  refine TC.seq ?_
  refine TC.region ?_
  refine TL.run 1 [] [(0, .slice A_costs costs.length c_costs)] rfl ⟨by kernel_rfl, by kernel_rfl⟩ ?_
  refine TL.next rfl ?_
  refine TC.seq ?_
  refine TC.seq ?_
  refine TC.region ?_
  refine TL.run 3 [] [(0, .slice A_costs costs.length c_costs), (5, .bool ((costs.length : Int) == 0))] rfl ⟨by kernel_rfl, by kernel_rfl⟩ ?_
  refine TL.next rfl ?_
  refine TC.cond ((costs.length : Int) == 0) rfl (by kernel_rfl) (fun h1 => ?_) (fun h1 => ?_)
  · refine TC.seq ?_
    refine TC.region ?_
    refine TL.run 1 [] [(2, .int .i64 0)] rfl ⟨by kernel_rfl, by kernel_rfl⟩ ?_
    refine TL.next rfl ?_
    refine TC.ret ?_
    refine TE.ret_then ?_
    have e : assign_width costs = 0 := by unfold assign_width; exact cond_t h1 (rfl)
    exact TE.ret [] (.int .i64 0) ⟨by kernel_rfl, by kernel_rfl⟩ (by rw [e]; first | done | kernel_rfl)
  · refine TC.skip ?_
    refine TE.next ?_
    refine TC.seq ?_
    refine TC.region ?_
    refine TL.run 1 [] [(6, .slice A_costs costs.length c_costs)] rfl ⟨by kernel_rfl, by kernel_rfl⟩ ?_
    refine TL.val (sV (Instr.indexAt 126 (.slice A_costs costs.length c_costs) (.int .i64 0))) (some 7) (.pointer (some ((A_costs.getD noAddr).add (0 * 1)))) [(7, .pointer (some ((A_costs.getD noAddr).add (0 * 1))))] (fun w hM => run_index (h_costs.sat hM) (sl_len he_costs) (by kernel_rfl) (by have q0_ := (beq_f h1); first | omega | (rw [List.length_set]; omega) | (dsimp only; omega) | (rw [List.length_drop]; omega) | (simp only [w64_eq]; omega) | exact (tm_in (by (first | (rw [w64_id (by omega)]; omega) | (simp only [w64_eq]; omega))) (by omega)).1 | exact (tm_in (by (first | (rw [w64_id (by omega)]; omega) | (simp only [w64_eq]; omega))) (by omega)).2.1 | exact (tm_in (by (first | (rw [w64_id (by omega)]; omega) | (simp only [w64_eq]; omega))) (by omega)).2.2 | (simp only [List.length_take] at *; omega) | (simp <;> omega)) (by have q0_ := (beq_f h1); first | omega | (rw [List.length_set]; omega) | (dsimp only; omega) | (rw [List.length_drop]; omega) | (simp only [w64_eq]; omega) | exact (tm_in (by (first | (rw [w64_id (by omega)]; omega) | (simp only [w64_eq]; omega))) (by omega)).1 | exact (tm_in (by (first | (rw [w64_id (by omega)]; omega) | (simp only [w64_eq]; omega))) (by omega)).2.1 | exact (tm_in (by (first | (rw [w64_id (by omega)]; omega) | (simp only [w64_eq]; omega))) (by omega)).2.2 | (simp only [List.length_take] at *; omega) | (simp <;> omega))) (by kernel_rfl) (by kernel_rfl) ?_
    have s_s1 := (el_rd (sl_all hd_costs 0) (sl_get he_costs 0)).short; rw [List.length_map] at s_s1
    refine TL.val (sV (Instr.loadAt 62 (.pointer (some ((A_costs.getD noAddr).add (0 * 1)))))) (some 8) (.slice ((o_costs[0]?.getD Sl.zero).A) ((costs[0]?.getD []).length) ((o_costs[0]?.getD Sl.zero).cap)) [(8, .slice ((o_costs[0]?.getD Sl.zero).A) ((costs[0]?.getD []).length) ((o_costs[0]?.getD Sl.zero).cap))] (fun w hM => (by have h := run_load_one (P := Try.prog) (T := 62) (off := 0) (i := 0) (.slice (o_costs[0]?.getD Sl.zero).A (o_costs[0]?.getD Sl.zero).l.length (o_costs[0]?.getD Sl.zero).cap) (h_costs.sat hM) (map_at (getD_at _ _ Sl.zero (sl_lt he_costs (by have q0_ := (beq_f h1); first | omega | (rw [List.length_set]; omega) | (dsimp only; omega) | (rw [List.length_drop]; omega) | (simp only [w64_eq]; omega) | exact (tm_in (by (first | (rw [w64_id (by omega)]; omega) | (simp only [w64_eq]; omega))) (by omega)).1 | exact (tm_in (by (first | (rw [w64_id (by omega)]; omega) | (simp only [w64_eq]; omega))) (by omega)).2.1 | exact (tm_in (by (first | (rw [w64_id (by omega)]; omega) | (simp only [w64_eq]; omega))) (by omega)).2.2 | (simp only [List.length_take] at *; omega) | (simp <;> omega))))) (by kernel_rfl) (by kernel_rfl); rw [(sl_get he_costs 0)] at h; exact h)) (by kernel_rfl) (by kernel_rfl) ?_
    refine TL.run 5 [] [(2, .int .i64 ((costs[0]?.getD []).length : Int))] rfl ⟨by kernel_rfl, by kernel_rfl⟩ ?_
    refine TL.next rfl ?_
    refine TC.ret ?_
    have e : assign_width costs = ((costs[0]?.getD []).length : Int) := by unfold assign_width; exact cond_f h1 (rfl)
    exact TE.ret [] (.int .i64 ((costs[0]?.getD []).length : Int)) ⟨by kernel_rfl, by kernel_rfl⟩ (by rw [e]; first | done | kernel_rfl)

def assign_least_1 (i : Int) (k : Int) (x : Int) (x_2 : Int) (x_3 : List Bool) (x_4 : List (List Int)) : Int :=
  cond (decide (k ≥ x)) (
    cond ((w64 (k - x)) == i) (
      x_2) (
      36028797018963968)) (
    cond ((x_3[k.toNat]?.getD false)) (
      36028797018963968) (
      cond (decide (((x_4[i.toNat]?.getD [])[k.toNat]?.getD 0) < 0)) (
        36028797018963968) (
        ((x_4[i.toNat]?.getD [])[k.toNat]?.getD 0))))

theorem row_len {rows : List (List Int)} {c : Int} (h : ∀ r ∈ rows, (r.length : Int) = c) {i : Nat} (hi : i < rows.length) : ((rows[i]?.getD []).length : Int) = c := by
  rw [List.getElem?_eq_getElem hi]; exact h _ (List.getElem_mem hi)

set_option maxRecDepth 100000 in
theorem assign_least_1_w (i : Int) (k : Int) (a_x : Addr) (x : Int) (a_x_2 : Addr) (x_2 : Int) (a_x_3 : Addr) (A_x_3 : Option Addr) (c_x_3 : Nat) (x_3 : List Bool) (a_x_4 : Addr) (A_x_4 : Option Addr) (c_x_4 : Nat) (x_4 : List (List Int)) (o_x_4 : List (Sl Int)) (w : World) (h_x : Rd w 1 (some a_x) [ic x]) (h_x_2 : Rd w 1 (some a_x_2) [ic x_2]) (h_x_3 : Rd w 1 (some a_x_3) [Sl.c (⟨A_x_3, c_x_3, x_3⟩ : Sl Bool)]) (hd_x_3 : (⟨A_x_3, c_x_3, x_3⟩ : Sl Bool).rd w 1 bc) (h_x_4 : Rd w 1 (some a_x_4) [#[.slice A_x_4 x_4.length c_x_4]]) (hr_x_4 : Rd w 1 A_x_4 (o_x_4.map Sl.c)) (_hl_x_4 : x_4.length ≤ c_x_4) (hp_x_4 : ∀ s ∈ o_x_4, s.rd w 1 ic) (he_x_4 : x_4 = o_x_4.map Sl.l) (hp : (0 ≤ i ∧ i < (x_4.length : Int)) ∧ (0 ≤ k ∧ k < 4611686018427387904) ∧ (0 ≤ x ∧ x < 4611686018427387904) ∧ (x_3.length : Int) = x ∧ ∀ r ∈ x_4, (r.length : Int) = x) : Calls Try.prog 102 #[.int .i64 i, .int .i64 k, .pointer (some a_x), .pointer (some a_x_2), .pointer (some a_x_3), .pointer (some a_x_4)] w (Ret w (.int .i64 (assign_least_1 i k x x_2 x_3 x_4))) := by
  refine calls_intro (vs := [.int .i64 i, .int .i64 k, .pointer (some a_x), .pointer (some a_x_2), .pointer (some a_x_3), .pointer (some a_x_4)]) (w := w) Try.func102 rfl Try.ntmps102 rfl ?_
  refine TC.weak [(0, .int .i64 i), (1, .int .i64 k), (2, .pointer (some a_x)), (3, .pointer (some a_x_2)), (4, .pointer (some a_x_3)), (5, .pointer (some a_x_4))] (by kernel_rfl) ?_
  refine TC.seq ?_
  refine TC.region ?_
  refine TL.run 1 [] [(0, .int .i64 i), (1, .int .i64 k), (2, .pointer (some a_x)), (3, .pointer (some a_x_2)), (4, .pointer (some a_x_3)), (5, .pointer (some a_x_4))] rfl ⟨by kernel_rfl, by kernel_rfl⟩ ?_
  refine TL.next rfl ?_
  refine TC.seq ?_
  refine TC.block ?_
  refine TC.seq ?_
  refine TC.region ?_
  refine TL.run 1 [] [(0, .int .i64 i), (1, .int .i64 k), (2, .pointer (some a_x)), (3, .pointer (some a_x_2)), (4, .pointer (some a_x_3)), (5, .pointer (some a_x_4)), (10, .int .i64 k)] rfl ⟨by kernel_rfl, by kernel_rfl⟩ ?_
  refine TL.val (sV (Instr.loadAt 3 (.pointer (some a_x)))) (some 11) (.int .i64 x) [(0, .int .i64 i), (1, .int .i64 k), (2, .pointer (some a_x)), (3, .pointer (some a_x_2)), (4, .pointer (some a_x_3)), (5, .pointer (some a_x_4)), (10, .int .i64 k), (11, .int .i64 x)] (fun w hM => run_load_one (off := 0) (.int .i64 x) (h_x.sat hM) (rows_one _) (by kernel_rfl) (by kernel_rfl)) (by kernel_rfl) (by kernel_rfl) ?_
  refine TL.run 4 [] [(0, .int .i64 i), (1, .int .i64 k), (2, .pointer (some a_x)), (3, .pointer (some a_x_2)), (4, .pointer (some a_x_3)), (5, .pointer (some a_x_4)), (9, .bool (decide (k ≥ x)))] rfl ⟨by kernel_rfl, by kernel_rfl⟩ ?_
  refine TL.next rfl ?_
  refine TC.cond (decide (k ≥ x)) rfl (by kernel_rfl) (fun h1 => ?_) (fun h1 => ?_)
  · refine TC.seq ?_
    refine TC.seq ?_
    refine TC.region ?_
    refine TL.run 1 [] [(0, .int .i64 i), (2, .pointer (some a_x)), (3, .pointer (some a_x_2)), (13, .int .i64 k)] rfl ⟨by kernel_rfl, by kernel_rfl⟩ ?_
    refine TL.val (sV (Instr.loadAt 3 (.pointer (some a_x)))) (some 14) (.int .i64 x) [(0, .int .i64 i), (3, .pointer (some a_x_2)), (13, .int .i64 k), (14, .int .i64 x)] (fun w hM => run_load_one (off := 0) (.int .i64 x) (h_x.sat hM) (rows_one _) (by kernel_rfl) (by kernel_rfl)) (by kernel_rfl) (by kernel_rfl) ?_
    refine TL.run 5 [] [(3, .pointer (some a_x_2)), (17, .bool ((w64 (k - x)) == i))] rfl ⟨by kernel_rfl, by kernel_rfl⟩ ?_
    refine TL.next rfl ?_
    refine TC.cond ((w64 (k - x)) == i) rfl (by kernel_rfl) (fun h2 => ?_) (fun h2 => ?_)
    · refine TC.seq ?_
      refine TC.region ?_
      refine TL.val (sV (Instr.loadAt 3 (.pointer (some a_x_2)))) (some 18) (.int .i64 x_2) [(18, .int .i64 x_2)] (fun w hM => run_load_one (off := 0) (.int .i64 x_2) (h_x_2.sat hM) (rows_one _) (by kernel_rfl) (by kernel_rfl)) (by kernel_rfl) (by kernel_rfl) ?_
      refine TL.run 2 [] [(8, .int .i64 x_2)] rfl ⟨by kernel_rfl, by kernel_rfl⟩ ?_
      refine TL.next rfl ?_
      refine TC.ret ?_
      refine TE.ret_then (TE.ret_block (TE.ret_then ?_))
      have e : assign_least_1 i k x x_2 x_3 x_4 = x_2 := by unfold assign_least_1; exact cond_t h1 (cond_t h2 (rfl))
      exact TE.ret [] (.int .i64 x_2) ⟨by kernel_rfl, by kernel_rfl⟩ (by rw [e]; first | done | kernel_rfl)
    · refine TC.skip ?_
      refine TE.next ?_
      refine TC.seq ?_
      refine TC.region ?_
      refine TL.run 1 [] [(8, .int .i64 36028797018963968)] rfl ⟨by kernel_rfl, by kernel_rfl⟩ ?_
      refine TL.next rfl ?_
      refine TC.ret ?_
      refine TE.ret_block (TE.ret_then ?_)
      have e : assign_least_1 i k x x_2 x_3 x_4 = 36028797018963968 := by unfold assign_least_1; exact cond_t h1 (cond_f h2 (rfl))
      exact TE.ret [] (.int .i64 36028797018963968) ⟨by kernel_rfl, by kernel_rfl⟩ (by rw [e]; first | done | kernel_rfl)
  · refine TC.seq ?_
    refine TC.region ?_
    refine TL.val (sV (Instr.loadAt 91 (.pointer (some a_x_3)))) (some 20) (.slice A_x_3 x_3.length c_x_3) [(0, .int .i64 i), (1, .int .i64 k), (5, .pointer (some a_x_4)), (20, .slice A_x_3 x_3.length c_x_3)] (fun w hM => run_load_one (off := 0) (.slice A_x_3 x_3.length c_x_3) (h_x_3.sat hM) (rows_one _) (by kernel_rfl) (by kernel_rfl)) (by kernel_rfl) (by kernel_rfl) ?_
    refine TL.run 2 [] [(0, .int .i64 i), (1, .int .i64 k), (5, .pointer (some a_x_4)), (20, .slice A_x_3 x_3.length c_x_3), (21, .int .i64 k)] rfl ⟨by kernel_rfl, by kernel_rfl⟩ ?_
    refine TL.val (sV (Instr.indexAt 91 (.slice A_x_3 x_3.length c_x_3) (.int .i64 k))) (some 22) (.pointer (some ((A_x_3.getD noAddr).add (k.toNat * 1)))) [(0, .int .i64 i), (1, .int .i64 k), (5, .pointer (some a_x_4)), (22, .pointer (some ((A_x_3.getD noAddr).add (k.toNat * 1))))] (fun w hM => run_index (hd_x_3.rd.sat hM) (by simp) (by kernel_rfl) (by have q0_ := (dec_f h1); (try have kr_ := row_len hp.2.2.2.2 (i := i.toNat) (by omega)); first | omega | (rw [List.length_set]; omega) | (dsimp only; omega) | (rw [List.length_drop]; omega) | (simp only [w64_eq]; omega) | exact (tm_in (by (first | (rw [w64_id (by omega)]; omega) | (simp only [w64_eq]; omega))) (by omega)).1 | exact (tm_in (by (first | (rw [w64_id (by omega)]; omega) | (simp only [w64_eq]; omega))) (by omega)).2.1 | exact (tm_in (by (first | (rw [w64_id (by omega)]; omega) | (simp only [w64_eq]; omega))) (by omega)).2.2 | (simp only [List.length_take] at *; omega) | (simp <;> omega)) (by have q0_ := (dec_f h1); (try have kr_ := row_len hp.2.2.2.2 (i := i.toNat) (by omega)); first | omega | (rw [List.length_set]; omega) | (dsimp only; omega) | (rw [List.length_drop]; omega) | (simp only [w64_eq]; omega) | exact (tm_in (by (first | (rw [w64_id (by omega)]; omega) | (simp only [w64_eq]; omega))) (by omega)).1 | exact (tm_in (by (first | (rw [w64_id (by omega)]; omega) | (simp only [w64_eq]; omega))) (by omega)).2.1 | exact (tm_in (by (first | (rw [w64_id (by omega)]; omega) | (simp only [w64_eq]; omega))) (by omega)).2.2 | (simp only [List.length_take] at *; omega) | (simp <;> omega))) (by kernel_rfl) (by kernel_rfl) ?_
    refine TL.val (sV (Instr.loadAt 4 (.pointer (some ((A_x_3.getD noAddr).add (k.toNat * 1)))))) (some 23) (.bool ((x_3[k.toNat]?.getD false))) [(0, .int .i64 i), (1, .int .i64 k), (5, .pointer (some a_x_4)), (23, .bool ((x_3[k.toNat]?.getD false)))] (fun w hM => run_load_one (off := 0) (i := k.toNat) (.bool ((x_3[k.toNat]?.getD false))) (hd_x_3.rd.sat hM) (map_at (getD_at _ _ false (by have q0_ := (dec_f h1); (try have kr_ := row_len hp.2.2.2.2 (i := i.toNat) (by omega)); first | omega | (rw [List.length_set]; omega) | (dsimp only; omega) | (rw [List.length_drop]; omega) | (simp only [w64_eq]; omega) | exact (tm_in (by (first | (rw [w64_id (by omega)]; omega) | (simp only [w64_eq]; omega))) (by omega)).1 | exact (tm_in (by (first | (rw [w64_id (by omega)]; omega) | (simp only [w64_eq]; omega))) (by omega)).2.1 | exact (tm_in (by (first | (rw [w64_id (by omega)]; omega) | (simp only [w64_eq]; omega))) (by omega)).2.2 | (simp only [List.length_take] at *; omega) | (simp <;> omega)))) (by kernel_rfl) (by kernel_rfl)) (by kernel_rfl) (by kernel_rfl) ?_
    refine TL.run 5 [] [(0, .int .i64 i), (1, .int .i64 k), (5, .pointer (some a_x_4)), (24, .bool ((x_3[k.toNat]?.getD false)))] rfl ⟨by kernel_rfl, by kernel_rfl⟩ ?_
    refine TL.split 24 ((x_3[k.toNat]?.getD false)) (by kernel_rfl) (fun h3 => ?_) (fun h3 => ?_)
    · refine TL.run 15 [] [(0, .int .i64 i), (1, .int .i64 k), (5, .pointer (some a_x_4)), (19, .bool true)] rfl ⟨by kernel_rfl, by kernel_rfl⟩ ?_
      refine TL.next rfl ?_
      refine TC.condT rfl (by kernel_rfl) ?_
      refine TC.seq ?_
      refine TC.region ?_
      refine TL.run 1 [] [(8, .int .i64 36028797018963968)] rfl ⟨by kernel_rfl, by kernel_rfl⟩ ?_
      refine TL.next rfl ?_
      refine TC.ret ?_
      refine TE.ret_block (TE.ret_then ?_)
      have e : assign_least_1 i k x x_2 x_3 x_4 = 36028797018963968 := by unfold assign_least_1; exact cond_f h1 (cond_t h3 (rfl))
      exact TE.ret [] (.int .i64 36028797018963968) ⟨by kernel_rfl, by kernel_rfl⟩ (by rw [e]; first | done | kernel_rfl)
    · refine TL.val (sV (Instr.loadAt 126 (.pointer (some a_x_4)))) (some 25) (.slice A_x_4 x_4.length c_x_4) [(0, .int .i64 i), (1, .int .i64 k), (5, .pointer (some a_x_4)), (24, .bool false), (25, .slice A_x_4 x_4.length c_x_4)] (fun w hM => (by have h := run_load_one (P := Try.prog) (T := 126) (off := 0) (i := 0) (A := some a_x_4) (.slice A_x_4 x_4.length c_x_4) (h_x_4.sat hM) (rows_one _) (by kernel_rfl) (by kernel_rfl); exact h)) (by kernel_rfl) (by kernel_rfl) ?_
      refine TL.run 7 [] [(0, .int .i64 i), (1, .int .i64 k), (5, .pointer (some a_x_4)), (24, .bool false), (25, .slice A_x_4 x_4.length c_x_4), (26, .int .i64 i)] rfl ⟨by kernel_rfl, by kernel_rfl⟩ ?_
      refine TL.val (sV (Instr.indexAt 126 (.slice A_x_4 x_4.length c_x_4) (.int .i64 i))) (some 27) (.pointer (some ((A_x_4.getD noAddr).add (i.toNat * 1)))) [(0, .int .i64 i), (1, .int .i64 k), (5, .pointer (some a_x_4)), (24, .bool false), (27, .pointer (some ((A_x_4.getD noAddr).add (i.toNat * 1))))] (fun w hM => run_index (hr_x_4.sat hM) (sl_len he_x_4) (by kernel_rfl) (by have q0_ := (dec_f h1); (try have kr_ := row_len hp.2.2.2.2 (i := i.toNat) (by omega)); first | omega | (rw [List.length_set]; omega) | (dsimp only; omega) | (rw [List.length_drop]; omega) | (simp only [w64_eq]; omega) | exact (tm_in (by (first | (rw [w64_id (by omega)]; omega) | (simp only [w64_eq]; omega))) (by omega)).1 | exact (tm_in (by (first | (rw [w64_id (by omega)]; omega) | (simp only [w64_eq]; omega))) (by omega)).2.1 | exact (tm_in (by (first | (rw [w64_id (by omega)]; omega) | (simp only [w64_eq]; omega))) (by omega)).2.2 | (simp only [List.length_take] at *; omega) | (simp <;> omega)) (by have q0_ := (dec_f h1); (try have kr_ := row_len hp.2.2.2.2 (i := i.toNat) (by omega)); first | omega | (rw [List.length_set]; omega) | (dsimp only; omega) | (rw [List.length_drop]; omega) | (simp only [w64_eq]; omega) | exact (tm_in (by (first | (rw [w64_id (by omega)]; omega) | (simp only [w64_eq]; omega))) (by omega)).1 | exact (tm_in (by (first | (rw [w64_id (by omega)]; omega) | (simp only [w64_eq]; omega))) (by omega)).2.1 | exact (tm_in (by (first | (rw [w64_id (by omega)]; omega) | (simp only [w64_eq]; omega))) (by omega)).2.2 | (simp only [List.length_take] at *; omega) | (simp <;> omega))) (by kernel_rfl) (by kernel_rfl) ?_
      have s_s1 := (el_rd (sl_all hp_x_4 i.toNat) (sl_get he_x_4 i.toNat)).short; rw [List.length_map] at s_s1
      refine TL.val (sV (Instr.loadAt 62 (.pointer (some ((A_x_4.getD noAddr).add (i.toNat * 1)))))) (some 28) (.slice ((o_x_4[i.toNat]?.getD Sl.zero).A) ((x_4[i.toNat]?.getD []).length) ((o_x_4[i.toNat]?.getD Sl.zero).cap)) [(0, .int .i64 i), (1, .int .i64 k), (5, .pointer (some a_x_4)), (24, .bool false), (28, .slice ((o_x_4[i.toNat]?.getD Sl.zero).A) ((x_4[i.toNat]?.getD []).length) ((o_x_4[i.toNat]?.getD Sl.zero).cap))] (fun w hM => (by have h := run_load_one (P := Try.prog) (T := 62) (off := 0) (i := i.toNat) (.slice (o_x_4[i.toNat]?.getD Sl.zero).A (o_x_4[i.toNat]?.getD Sl.zero).l.length (o_x_4[i.toNat]?.getD Sl.zero).cap) (hr_x_4.sat hM) (map_at (getD_at _ _ Sl.zero (sl_lt he_x_4 (by have q0_ := (dec_f h1); (try have kr_ := row_len hp.2.2.2.2 (i := i.toNat) (by omega)); first | omega | (rw [List.length_set]; omega) | (dsimp only; omega) | (rw [List.length_drop]; omega) | (simp only [w64_eq]; omega) | exact (tm_in (by (first | (rw [w64_id (by omega)]; omega) | (simp only [w64_eq]; omega))) (by omega)).1 | exact (tm_in (by (first | (rw [w64_id (by omega)]; omega) | (simp only [w64_eq]; omega))) (by omega)).2.1 | exact (tm_in (by (first | (rw [w64_id (by omega)]; omega) | (simp only [w64_eq]; omega))) (by omega)).2.2 | (simp only [List.length_take] at *; omega) | (simp <;> omega))))) (by kernel_rfl) (by kernel_rfl); rw [(sl_get he_x_4 i.toNat)] at h; exact h)) (by kernel_rfl) (by kernel_rfl) ?_
      refine TL.run 10 [] [(0, .int .i64 i), (1, .int .i64 k), (5, .pointer (some a_x_4)), (24, .bool false), (28, .slice ((o_x_4[i.toNat]?.getD Sl.zero).A) ((x_4[i.toNat]?.getD []).length) ((o_x_4[i.toNat]?.getD Sl.zero).cap)), (29, .int .i64 k)] rfl ⟨by kernel_rfl, by kernel_rfl⟩ ?_
      refine TL.val (sV (Instr.indexAt 62 (.slice ((o_x_4[i.toNat]?.getD Sl.zero).A) ((x_4[i.toNat]?.getD []).length) ((o_x_4[i.toNat]?.getD Sl.zero).cap)) (.int .i64 k))) (some 30) (.pointer (some ((((o_x_4[i.toNat]?.getD Sl.zero).A).getD noAddr).add (k.toNat * 1)))) [(0, .int .i64 i), (1, .int .i64 k), (5, .pointer (some a_x_4)), (24, .bool false), (30, .pointer (some ((((o_x_4[i.toNat]?.getD Sl.zero).A).getD noAddr).add (k.toNat * 1))))] (fun w hM => run_index (el_rd ((sl_all hp_x_4 i.toNat).sat hM) (sl_get he_x_4 i.toNat)) (by simp) (by kernel_rfl) (by have q0_ := (dec_f h1); (try have kr_ := row_len hp.2.2.2.2 (i := i.toNat) (by omega)); first | omega | (rw [List.length_set]; omega) | (dsimp only; omega) | (rw [List.length_drop]; omega) | (simp only [w64_eq]; omega) | exact (tm_in (by (first | (rw [w64_id (by omega)]; omega) | (simp only [w64_eq]; omega))) (by omega)).1 | exact (tm_in (by (first | (rw [w64_id (by omega)]; omega) | (simp only [w64_eq]; omega))) (by omega)).2.1 | exact (tm_in (by (first | (rw [w64_id (by omega)]; omega) | (simp only [w64_eq]; omega))) (by omega)).2.2 | (simp only [List.length_take] at *; omega) | (simp <;> omega)) (by have q0_ := (dec_f h1); (try have kr_ := row_len hp.2.2.2.2 (i := i.toNat) (by omega)); first | omega | (rw [List.length_set]; omega) | (dsimp only; omega) | (rw [List.length_drop]; omega) | (simp only [w64_eq]; omega) | exact (tm_in (by (first | (rw [w64_id (by omega)]; omega) | (simp only [w64_eq]; omega))) (by omega)).1 | exact (tm_in (by (first | (rw [w64_id (by omega)]; omega) | (simp only [w64_eq]; omega))) (by omega)).2.1 | exact (tm_in (by (first | (rw [w64_id (by omega)]; omega) | (simp only [w64_eq]; omega))) (by omega)).2.2 | (simp only [List.length_take] at *; omega) | (simp <;> omega))) (by kernel_rfl) (by kernel_rfl) ?_
      refine TL.val (sV (Instr.loadAt 3 (.pointer (some ((((o_x_4[i.toNat]?.getD Sl.zero).A).getD noAddr).add (k.toNat * 1)))))) (some 31) (.int .i64 ((x_4[i.toNat]?.getD [])[k.toNat]?.getD 0)) [(0, .int .i64 i), (1, .int .i64 k), (5, .pointer (some a_x_4)), (24, .bool false), (31, .int .i64 ((x_4[i.toNat]?.getD [])[k.toNat]?.getD 0))] (fun w hM => run_load_one (off := 0) (i := k.toNat) (.int .i64 ((x_4[i.toNat]?.getD [])[k.toNat]?.getD 0)) (el_rd ((sl_all hp_x_4 i.toNat).sat hM) (sl_get he_x_4 i.toNat)) (map_at (getD_at _ _ 0 (by have q0_ := (dec_f h1); (try have kr_ := row_len hp.2.2.2.2 (i := i.toNat) (by omega)); first | omega | (rw [List.length_set]; omega) | (dsimp only; omega) | (rw [List.length_drop]; omega) | (simp only [w64_eq]; omega) | exact (tm_in (by (first | (rw [w64_id (by omega)]; omega) | (simp only [w64_eq]; omega))) (by omega)).1 | exact (tm_in (by (first | (rw [w64_id (by omega)]; omega) | (simp only [w64_eq]; omega))) (by omega)).2.1 | exact (tm_in (by (first | (rw [w64_id (by omega)]; omega) | (simp only [w64_eq]; omega))) (by omega)).2.2 | (simp only [List.length_take] at *; omega) | (simp <;> omega)))) (by kernel_rfl) (by kernel_rfl)) (by kernel_rfl) (by kernel_rfl) ?_
      refine TL.run 15 [] [(0, .int .i64 i), (1, .int .i64 k), (5, .pointer (some a_x_4)), (19, .bool (decide (((x_4[i.toNat]?.getD [])[k.toNat]?.getD 0) < 0)))] rfl ⟨by kernel_rfl, by kernel_rfl⟩ ?_
      refine TL.next rfl ?_
      refine TC.cond (decide (((x_4[i.toNat]?.getD [])[k.toNat]?.getD 0) < 0)) rfl (by kernel_rfl) (fun h4 => ?_) (fun h4 => ?_)
      · refine TC.seq ?_
        refine TC.region ?_
        refine TL.run 1 [] [(8, .int .i64 36028797018963968)] rfl ⟨by kernel_rfl, by kernel_rfl⟩ ?_
        refine TL.next rfl ?_
        refine TC.ret ?_
        refine TE.ret_block (TE.ret_then ?_)
        have e : assign_least_1 i k x x_2 x_3 x_4 = 36028797018963968 := by unfold assign_least_1; exact cond_f h1 (cond_f h3 (cond_t h4 (rfl)))
        exact TE.ret [] (.int .i64 36028797018963968) ⟨by kernel_rfl, by kernel_rfl⟩ (by rw [e]; first | done | kernel_rfl)
      · refine TC.skip ?_
        refine TE.normal_block ?_
        refine TE.next ?_
        refine TC.seq ?_
        refine TC.region ?_
        refine TL.val (sV (Instr.loadAt 126 (.pointer (some a_x_4)))) (some 34) (.slice A_x_4 x_4.length c_x_4) [(0, .int .i64 i), (1, .int .i64 k), (34, .slice A_x_4 x_4.length c_x_4)] (fun w hM => (by have h := run_load_one (P := Try.prog) (T := 126) (off := 0) (i := 0) (A := some a_x_4) (.slice A_x_4 x_4.length c_x_4) (h_x_4.sat hM) (rows_one _) (by kernel_rfl) (by kernel_rfl); exact h)) (by kernel_rfl) (by kernel_rfl) ?_
        refine TL.run 2 [] [(1, .int .i64 k), (34, .slice A_x_4 x_4.length c_x_4), (35, .int .i64 i)] rfl ⟨by kernel_rfl, by kernel_rfl⟩ ?_
        refine TL.val (sV (Instr.indexAt 126 (.slice A_x_4 x_4.length c_x_4) (.int .i64 i))) (some 36) (.pointer (some ((A_x_4.getD noAddr).add (i.toNat * 1)))) [(1, .int .i64 k), (36, .pointer (some ((A_x_4.getD noAddr).add (i.toNat * 1))))] (fun w hM => run_index (hr_x_4.sat hM) (sl_len he_x_4) (by kernel_rfl) (by have q0_ := (dec_f h1); have q1_ := (dec_f h4); (try have kr_ := row_len hp.2.2.2.2 (i := i.toNat) (by omega)); first | omega | (rw [List.length_set]; omega) | (dsimp only; omega) | (rw [List.length_drop]; omega) | (simp only [w64_eq]; omega) | exact (tm_in (by (first | (rw [w64_id (by omega)]; omega) | (simp only [w64_eq]; omega))) (by omega)).1 | exact (tm_in (by (first | (rw [w64_id (by omega)]; omega) | (simp only [w64_eq]; omega))) (by omega)).2.1 | exact (tm_in (by (first | (rw [w64_id (by omega)]; omega) | (simp only [w64_eq]; omega))) (by omega)).2.2 | (simp only [List.length_take] at *; omega) | (simp <;> omega)) (by have q0_ := (dec_f h1); have q1_ := (dec_f h4); (try have kr_ := row_len hp.2.2.2.2 (i := i.toNat) (by omega)); first | omega | (rw [List.length_set]; omega) | (dsimp only; omega) | (rw [List.length_drop]; omega) | (simp only [w64_eq]; omega) | exact (tm_in (by (first | (rw [w64_id (by omega)]; omega) | (simp only [w64_eq]; omega))) (by omega)).1 | exact (tm_in (by (first | (rw [w64_id (by omega)]; omega) | (simp only [w64_eq]; omega))) (by omega)).2.1 | exact (tm_in (by (first | (rw [w64_id (by omega)]; omega) | (simp only [w64_eq]; omega))) (by omega)).2.2 | (simp only [List.length_take] at *; omega) | (simp <;> omega))) (by kernel_rfl) (by kernel_rfl) ?_
        have s_s2 := (el_rd (sl_all hp_x_4 i.toNat) (sl_get he_x_4 i.toNat)).short; rw [List.length_map] at s_s2
        refine TL.val (sV (Instr.loadAt 62 (.pointer (some ((A_x_4.getD noAddr).add (i.toNat * 1)))))) (some 37) (.slice ((o_x_4[i.toNat]?.getD Sl.zero).A) ((x_4[i.toNat]?.getD []).length) ((o_x_4[i.toNat]?.getD Sl.zero).cap)) [(1, .int .i64 k), (37, .slice ((o_x_4[i.toNat]?.getD Sl.zero).A) ((x_4[i.toNat]?.getD []).length) ((o_x_4[i.toNat]?.getD Sl.zero).cap))] (fun w hM => (by have h := run_load_one (P := Try.prog) (T := 62) (off := 0) (i := i.toNat) (.slice (o_x_4[i.toNat]?.getD Sl.zero).A (o_x_4[i.toNat]?.getD Sl.zero).l.length (o_x_4[i.toNat]?.getD Sl.zero).cap) (hr_x_4.sat hM) (map_at (getD_at _ _ Sl.zero (sl_lt he_x_4 (by have q0_ := (dec_f h1); have q1_ := (dec_f h4); (try have kr_ := row_len hp.2.2.2.2 (i := i.toNat) (by omega)); first | omega | (rw [List.length_set]; omega) | (dsimp only; omega) | (rw [List.length_drop]; omega) | (simp only [w64_eq]; omega) | exact (tm_in (by (first | (rw [w64_id (by omega)]; omega) | (simp only [w64_eq]; omega))) (by omega)).1 | exact (tm_in (by (first | (rw [w64_id (by omega)]; omega) | (simp only [w64_eq]; omega))) (by omega)).2.1 | exact (tm_in (by (first | (rw [w64_id (by omega)]; omega) | (simp only [w64_eq]; omega))) (by omega)).2.2 | (simp only [List.length_take] at *; omega) | (simp <;> omega))))) (by kernel_rfl) (by kernel_rfl); rw [(sl_get he_x_4 i.toNat)] at h; exact h)) (by kernel_rfl) (by kernel_rfl) ?_
        refine TL.run 5 [] [(37, .slice ((o_x_4[i.toNat]?.getD Sl.zero).A) ((x_4[i.toNat]?.getD []).length) ((o_x_4[i.toNat]?.getD Sl.zero).cap)), (38, .int .i64 k)] rfl ⟨by kernel_rfl, by kernel_rfl⟩ ?_
        refine TL.val (sV (Instr.indexAt 62 (.slice ((o_x_4[i.toNat]?.getD Sl.zero).A) ((x_4[i.toNat]?.getD []).length) ((o_x_4[i.toNat]?.getD Sl.zero).cap)) (.int .i64 k))) (some 39) (.pointer (some ((((o_x_4[i.toNat]?.getD Sl.zero).A).getD noAddr).add (k.toNat * 1)))) [(39, .pointer (some ((((o_x_4[i.toNat]?.getD Sl.zero).A).getD noAddr).add (k.toNat * 1))))] (fun w hM => run_index (el_rd ((sl_all hp_x_4 i.toNat).sat hM) (sl_get he_x_4 i.toNat)) (by simp) (by kernel_rfl) (by have q0_ := (dec_f h1); have q1_ := (dec_f h4); (try have kr_ := row_len hp.2.2.2.2 (i := i.toNat) (by omega)); first | omega | (rw [List.length_set]; omega) | (dsimp only; omega) | (rw [List.length_drop]; omega) | (simp only [w64_eq]; omega) | exact (tm_in (by (first | (rw [w64_id (by omega)]; omega) | (simp only [w64_eq]; omega))) (by omega)).1 | exact (tm_in (by (first | (rw [w64_id (by omega)]; omega) | (simp only [w64_eq]; omega))) (by omega)).2.1 | exact (tm_in (by (first | (rw [w64_id (by omega)]; omega) | (simp only [w64_eq]; omega))) (by omega)).2.2 | (simp only [List.length_take] at *; omega) | (simp <;> omega)) (by have q0_ := (dec_f h1); have q1_ := (dec_f h4); (try have kr_ := row_len hp.2.2.2.2 (i := i.toNat) (by omega)); first | omega | (rw [List.length_set]; omega) | (dsimp only; omega) | (rw [List.length_drop]; omega) | (simp only [w64_eq]; omega) | exact (tm_in (by (first | (rw [w64_id (by omega)]; omega) | (simp only [w64_eq]; omega))) (by omega)).1 | exact (tm_in (by (first | (rw [w64_id (by omega)]; omega) | (simp only [w64_eq]; omega))) (by omega)).2.1 | exact (tm_in (by (first | (rw [w64_id (by omega)]; omega) | (simp only [w64_eq]; omega))) (by omega)).2.2 | (simp only [List.length_take] at *; omega) | (simp <;> omega))) (by kernel_rfl) (by kernel_rfl) ?_
        refine TL.val (sV (Instr.loadAt 3 (.pointer (some ((((o_x_4[i.toNat]?.getD Sl.zero).A).getD noAddr).add (k.toNat * 1)))))) (some 40) (.int .i64 ((x_4[i.toNat]?.getD [])[k.toNat]?.getD 0)) [(40, .int .i64 ((x_4[i.toNat]?.getD [])[k.toNat]?.getD 0))] (fun w hM => run_load_one (off := 0) (i := k.toNat) (.int .i64 ((x_4[i.toNat]?.getD [])[k.toNat]?.getD 0)) (el_rd ((sl_all hp_x_4 i.toNat).sat hM) (sl_get he_x_4 i.toNat)) (map_at (getD_at _ _ 0 (by have q0_ := (dec_f h1); have q1_ := (dec_f h4); (try have kr_ := row_len hp.2.2.2.2 (i := i.toNat) (by omega)); first | omega | (rw [List.length_set]; omega) | (dsimp only; omega) | (rw [List.length_drop]; omega) | (simp only [w64_eq]; omega) | exact (tm_in (by (first | (rw [w64_id (by omega)]; omega) | (simp only [w64_eq]; omega))) (by omega)).1 | exact (tm_in (by (first | (rw [w64_id (by omega)]; omega) | (simp only [w64_eq]; omega))) (by omega)).2.1 | exact (tm_in (by (first | (rw [w64_id (by omega)]; omega) | (simp only [w64_eq]; omega))) (by omega)).2.2 | (simp only [List.length_take] at *; omega) | (simp <;> omega)))) (by kernel_rfl) (by kernel_rfl)) (by kernel_rfl) (by kernel_rfl) ?_
        refine TL.run 8 [] [(8, .int .i64 ((x_4[i.toNat]?.getD [])[k.toNat]?.getD 0))] rfl ⟨by kernel_rfl, by kernel_rfl⟩ ?_
        refine TL.next rfl ?_
        refine TC.ret ?_
        have e : assign_least_1 i k x x_2 x_3 x_4 = ((x_4[i.toNat]?.getD [])[k.toNat]?.getD 0) := by unfold assign_least_1; exact cond_f h1 (cond_f h3 (cond_f h4 (rfl)))
        exact TE.ret [] (.int .i64 ((x_4[i.toNat]?.getD [])[k.toNat]?.getD 0)) ⟨by kernel_rfl, by kernel_rfl⟩ (by rw [e]; first | done | kernel_rfl)

end Go.Sky
