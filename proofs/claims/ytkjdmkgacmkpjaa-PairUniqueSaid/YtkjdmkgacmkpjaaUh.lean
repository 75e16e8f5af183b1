/- Functions of the program, each with the Lean function that it computes. Conditions: none. -/
import Derived.Test.YtkjdmkgacmkpjaaUc
namespace Go.Sky
open Go Go.Eng Go.Proofs
def pair_Check_L1 (codes : List Int) : List (List TubeNode) → Nat → ((Unit) ⊕ (Int))
  | [], _ => .inl ()
  | x :: xs, k => let r1 := tube_Check x
    cond (r1 != 0) (
      .inr r1) (
      cond (decide ((codes[k]?.getD 0) < 0)) (
        .inr 4) (
        cond (decide ((codes[k]?.getD 0) > 4095)) (
          .inr 4) (
          pair_Check_L1 codes xs (k + 1))))
def pair_Check (tubes : List (List TubeNode)) (codes : List Int) : Int :=
  cond (decide ((tubes.length : Int) > 24)) (
    2) (
    cond ((codes.length : Int) != (tubes.length : Int)) (
      3) (
      Sum.elim (fun _ =>
        0) (fun r => r) (pair_Check_L1 codes tubes 0)))

set_option maxRecDepth 100000 in
theorem pair_Check_w (A_tubes : Option Addr) (c_tubes : Nat) (tubes : List (List TubeNode)) (o_tubes : List (Sl TubeNode)) (A_codes : Option Addr) (c_codes : Nat) (codes : List Int) (w : World) (h_tubes : Rd w 1 A_tubes (o_tubes.map Sl.c)) (_hc_tubes : tubes.length ≤ c_tubes) (hd_tubes : ∀ s ∈ o_tubes, s.rd w 6 TubeNode.c) (he_tubes : tubes = o_tubes.map Sl.l) (h_codes : Rd w 1 A_codes (codes.map ic)) (_hc_codes : codes.length ≤ c_codes) : Calls Try.prog 82 #[.slice A_tubes tubes.length c_tubes, .slice A_codes codes.length c_codes] w (Ret w (.int .i64 (pair_Check tubes codes))) := by
  have s_tubes := h_tubes.short; rw [← sl_len he_tubes] at s_tubes
  have s_codes := h_codes.short; rw [List.length_map] at s_codes
  refine calls_intro (vs := [.slice A_tubes tubes.length c_tubes, .slice A_codes codes.length c_codes]) (w := w) Try.func82 rfl Try.ntmps82 rfl ?_
  refine TC.weak [(0, .slice A_tubes tubes.length c_tubes), (1, .slice A_codes codes.length c_codes)] (by kernel_rfl) ?_
  refine TC.seq ?_
  refine TC.region ?_
  refine TL.run 1 [] [(0, .slice A_tubes tubes.length c_tubes), (1, .slice A_codes codes.length c_codes)] rfl ⟨by kernel_rfl, by kernel_rfl⟩ ?_
  refine TL.next rfl ?_
  refine TC.seq ?_
  refine TC.block ?_
  refine TC.seq ?_
  refine TC.region ?_
  refine TL.run 4 [] [(0, .slice A_tubes tubes.length c_tubes), (1, .slice A_codes codes.length c_codes), (8, .bool (decide ((tubes.length : Int) > 24)))] rfl ⟨by kernel_rfl, by kernel_rfl⟩ ?_
  refine TL.next rfl ?_
  refine TC.cond (decide ((tubes.length : Int) > 24)) rfl (by kernel_rfl) (fun h1 => ?_) (fun h1 => ?_)
  · refine TC.seq ?_
    refine TC.region ?_
    refine TL.run 1 [] [(4, .int .i64 2)] rfl ⟨by kernel_rfl, by kernel_rfl⟩ ?_
    refine TL.next rfl ?_
    refine TC.ret ?_
    refine TE.ret_block (TE.ret_then ?_)
    have e : pair_Check tubes codes = 2 := by unfold pair_Check; exact cond_t h1 (rfl)
    exact TE.ret [] (.int .i64 2) ⟨by kernel_rfl, by kernel_rfl⟩ (by rw [e]; first | done | kernel_rfl)
  · refine TC.seq ?_
    refine TC.region ?_
    refine TL.run 6 [] [(0, .slice A_tubes tubes.length c_tubes), (1, .slice A_codes codes.length c_codes), (12, .bool ((codes.length : Int) != (tubes.length : Int)))] rfl ⟨by kernel_rfl, by kernel_rfl⟩ ?_
    refine TL.next rfl ?_
    refine TC.cond ((codes.length : Int) != (tubes.length : Int)) rfl (by kernel_rfl) (fun h2 => ?_) (fun h2 => ?_)
    · refine TC.seq ?_
      refine TC.region ?_
      refine TL.run 1 [] [(4, .int .i64 3)] rfl ⟨by kernel_rfl, by kernel_rfl⟩ ?_
      refine TL.next rfl ?_
      refine TC.ret ?_
      refine TE.ret_block (TE.ret_then ?_)
      have e : pair_Check tubes codes = 3 := by unfold pair_Check; exact cond_f h1 (cond_t h2 (rfl))
      exact TE.ret [] (.int .i64 3) ⟨by kernel_rfl, by kernel_rfl⟩ (by rw [e]; first | done | kernel_rfl)
    · refine TC.skip ?_
      refine TE.normal_block ?_
      refine TE.next ?_
      refine TC.seq ?_
      refine TC.seq ?_
      refine TC.region ?_
      refine TL.run 3 [] [(1, .slice A_codes codes.length c_codes), (18, .slice A_tubes tubes.length c_tubes), (19, .int .i64 (tubes.length : Int)), (20, .int .i64 0)] rfl ⟨by kernel_rfl, by kernel_rfl⟩ ?_
      refine TL.next rfl ?_
      refine TC.weak [(1, .slice A_codes codes.length c_codes), (18, .slice A_tubes tubes.length c_tubes), (19, .int .i64 (tubes.length : Int)), (20, .int .i64 0)] (by kernel_rfl) ?_
      obtain ⟨R1, hR⟩ : ∃ R, R = pair_Check_L1 codes tubes 0 := ⟨_, rfl⟩
      refine TC.cut (S := Unit) (fun (_ : Unit) => []) (fun (_ : Unit) => []) (fun (_ : Unit) => R1 = .inl ()) ?_ ?_
      · refine TC.block ?_
        refine TC.loop (X := Nat) (fun k => [(1, .slice A_codes codes.length c_codes), (18, .slice A_tubes tubes.length c_tubes), (19, .int .i64 (tubes.length : Int)), (20, .int .i64 (k : Int))]) (fun k => []) (fun k => tubes.length - k) (fun k => k ≤ tubes.length ∧ R1 = pair_Check_L1 codes (tubes.drop k) k) ?_ 0 ⟨Nat.zero_le _, hR⟩
        rintro k ⟨hk, hI⟩
        refine TC.seq ?_
        refine TC.region ?_
        refine TL.run 1 [] [(1, .slice A_codes codes.length c_codes), (18, .slice A_tubes tubes.length c_tubes), (19, .int .i64 (tubes.length : Int)), (20, .int .i64 (k : Int)), (21, .bool (decide ((k : Int) < (tubes.length : Int))))] rfl ⟨by kernel_rfl, by kernel_rfl⟩ ?_
        refine TL.next rfl ?_
        refine TC.seq ?_
        refine TC.cond (decide ((k : Int) < (tubes.length : Int))) rfl (by kernel_rfl) (fun h3 => ?_) (fun h3 => ?_)
        · have hlt : k < tubes.length := by have := of_decide_eq_true h3; first | omega | (simp at this; omega)
          obtain ⟨x, hx⟩ : ∃ e_, tubes[k]? = some e_ := ⟨_, List.getElem?_eq_getElem hlt⟩
          have hd := drop_at hx
          refine TC.skip ?_
          refine TE.next ?_
          refine TC.seq ?_
          refine TC.block ?_
          refine TC.seq ?_
          refine TC.region ?_
          refine TL.run 1 [] [(1, .slice A_codes codes.length c_codes), (18, .slice A_tubes tubes.length c_tubes), (19, .int .i64 (tubes.length : Int)), (20, .int .i64 (k : Int)), (22, .int .i64 (k : Int))] rfl ⟨by kernel_rfl, by kernel_rfl⟩ ?_
          refine TL.val (sV (Instr.indexAt 84 (.slice A_tubes tubes.length c_tubes) (.int .i64 (k : Int)))) (some 23) (.pointer (some ((A_tubes.getD noAddr).add (k * 1)))) [(1, .slice A_codes codes.length c_codes), (18, .slice A_tubes tubes.length c_tubes), (19, .int .i64 (tubes.length : Int)), (20, .int .i64 (k : Int)), (22, .int .i64 (k : Int)), (23, .pointer (some ((A_tubes.getD noAddr).add (k * 1))))] (fun w hM => run_index (h_tubes.sat hM) (sl_len he_tubes) (by kernel_rfl) (by have q0_ := (dec_f h1); have q1_ := (bne_f h2); first | omega | (rw [List.length_set]; omega) | (dsimp only; omega) | (rw [List.length_drop]; omega) | (simp only [w64_eq]; omega) | exact (tm_in (by (first | (rw [w64_id (by omega)]; omega) | (simp only [w64_eq]; omega))) (by omega)).1 | exact (tm_in (by (first | (rw [w64_id (by omega)]; omega) | (simp only [w64_eq]; omega))) (by omega)).2.1 | exact (tm_in (by (first | (rw [w64_id (by omega)]; omega) | (simp only [w64_eq]; omega))) (by omega)).2.2 | (simp only [List.length_take] at *; omega) | (simp <;> omega)) (by have q0_ := (dec_f h1); have q1_ := (bne_f h2); first | omega | (rw [List.length_set]; omega) | (dsimp only; omega) | (rw [List.length_drop]; omega) | (simp only [w64_eq]; omega) | exact (tm_in (by (first | (rw [w64_id (by omega)]; omega) | (simp only [w64_eq]; omega))) (by omega)).1 | exact (tm_in (by (first | (rw [w64_id (by omega)]; omega) | (simp only [w64_eq]; omega))) (by omega)).2.1 | exact (tm_in (by (first | (rw [w64_id (by omega)]; omega) | (simp only [w64_eq]; omega))) (by omega)).2.2 | (simp only [List.length_take] at *; omega) | (simp <;> omega))) (by kernel_rfl) (by kernel_rfl) ?_
          have s_s1 := (el_rd (sl_all hd_tubes k) (sl_at he_tubes hx)).short; rw [List.length_map] at s_s1
          refine TL.val (sV (Instr.loadAt 88 (.pointer (some ((A_tubes.getD noAddr).add (k * 1)))))) (some 24) (.slice ((o_tubes[k]?.getD Sl.zero).A) x.length ((o_tubes[k]?.getD Sl.zero).cap)) [(1, .slice A_codes codes.length c_codes), (18, .slice A_tubes tubes.length c_tubes), (19, .int .i64 (tubes.length : Int)), (20, .int .i64 (k : Int)), (22, .int .i64 (k : Int)), (24, .slice ((o_tubes[k]?.getD Sl.zero).A) x.length ((o_tubes[k]?.getD Sl.zero).cap))] (fun w hM => (by have h := run_load_one (P := Try.prog) (T := 88) (off := 0) (i := k) (.slice (o_tubes[k]?.getD Sl.zero).A (o_tubes[k]?.getD Sl.zero).l.length (o_tubes[k]?.getD Sl.zero).cap) (h_tubes.sat hM) (map_at (getD_at _ _ Sl.zero (sl_lt he_tubes (List.getElem?_eq_some_iff.1 hx).1))) (by kernel_rfl) (by kernel_rfl); rw [(sl_at he_tubes hx)] at h; exact h)) (by kernel_rfl) (by kernel_rfl) ?_
          refine TL.run 5 [] [(1, .slice A_codes codes.length c_codes), (5, .int .i64 (k : Int)), (6, .slice ((o_tubes[k]?.getD Sl.zero).A) x.length ((o_tubes[k]?.getD Sl.zero).cap)), (18, .slice A_tubes tubes.length c_tubes), (19, .int .i64 (tubes.length : Int)), (20, .int .i64 (k : Int))] rfl ⟨by kernel_rfl, by kernel_rfl⟩ ?_
          refine TL.next rfl ?_
          refine TC.seq ?_
          refine TC.seq ?_
          refine TC.region ?_
          refine TL.run 1 [] [(1, .slice A_codes codes.length c_codes), (5, .int .i64 (k : Int)), (18, .slice A_tubes tubes.length c_tubes), (19, .int .i64 (tubes.length : Int)), (20, .int .i64 (k : Int)), (25, .slice ((o_tubes[k]?.getD Sl.zero).A) x.length ((o_tubes[k]?.getD Sl.zero).cap))] rfl ⟨by kernel_rfl, by kernel_rfl⟩ ?_
          refine TL.call (some 26) [(1, .slice A_codes codes.length c_codes), (5, .int .i64 (k : Int)), (18, .slice A_tubes tubes.length c_tubes), (19, .int .i64 (tubes.length : Int)), (20, .int .i64 (k : Int)), (26, .int .i64 (tube_Check x))] (fun w hM => tube_Check_w ((o_tubes[k]?.getD Sl.zero).A) ((o_tubes[k]?.getD Sl.zero).cap) x w (el_rd ((sl_all hd_tubes k).sat hM) (sl_at he_tubes hx)) (el_le ((sl_all hd_tubes k).sat hM) (sl_at he_tubes hx))) (by kernel_rfl) (by kernel_rfl) ?_
          generalize hr1 : tube_Check x = r1
          refine TL.run 3 [] [(1, .slice A_codes codes.length c_codes), (5, .int .i64 (k : Int)), (7, .int .i64 r1), (18, .slice A_tubes tubes.length c_tubes), (19, .int .i64 (tubes.length : Int)), (20, .int .i64 (k : Int))] rfl ⟨by kernel_rfl, by kernel_rfl⟩ ?_
          refine TL.next rfl ?_
          refine TC.seq ?_
          refine TC.region ?_
          refine TL.run 2 [] [(1, .slice A_codes codes.length c_codes), (5, .int .i64 (k : Int)), (7, .int .i64 r1), (18, .slice A_tubes tubes.length c_tubes), (19, .int .i64 (tubes.length : Int)), (20, .int .i64 (k : Int)), (28, .bool (r1 != 0))] rfl ⟨by kernel_rfl, by kernel_rfl⟩ ?_
          refine TL.next rfl ?_
          refine TC.cond (r1 != 0) rfl (by kernel_rfl) (fun h4 => ?_) (fun h4 => ?_)
          · refine TC.seq ?_
            refine TC.region ?_
            refine TL.run 2 [] [(4, .int .i64 r1)] rfl ⟨by kernel_rfl, by kernel_rfl⟩ ?_
            refine TL.next rfl ?_
            refine TC.ret ?_
            refine TE.ret_then (TE.ret_block (TE.ret_then (TE.ret_then (TE.ret_block (TE.ret_then (TE.ret_then ?_))))))
            have e : pair_Check tubes codes = r1 := by subst hr1; unfold pair_Check; exact cond_f h1 (cond_f h2 (elim_r (hR.symm.trans (hI.trans (by rw [hd]; exact cond_t h4 (rfl)))) rfl))
            exact TE.ret [] (.int .i64 r1) ⟨by kernel_rfl, by kernel_rfl⟩ (by rw [e]; first | done | kernel_rfl)
          · refine TC.skip ?_
            refine TE.next ?_
            refine TC.seq ?_
            refine TC.region ?_
            refine TL.run 2 [] [(1, .slice A_codes codes.length c_codes), (5, .int .i64 (k : Int)), (18, .slice A_tubes tubes.length c_tubes), (19, .int .i64 (tubes.length : Int)), (20, .int .i64 (k : Int)), (30, .slice A_codes codes.length c_codes), (31, .int .i64 (k : Int))] rfl ⟨by kernel_rfl, by kernel_rfl⟩ ?_
            refine TL.val (sV (Instr.indexAt 62 (.slice A_codes codes.length c_codes) (.int .i64 (k : Int)))) (some 32) (.pointer (some ((A_codes.getD noAddr).add (k * 1)))) [(1, .slice A_codes codes.length c_codes), (5, .int .i64 (k : Int)), (18, .slice A_tubes tubes.length c_tubes), (19, .int .i64 (tubes.length : Int)), (20, .int .i64 (k : Int)), (32, .pointer (some ((A_codes.getD noAddr).add (k * 1))))] (fun w hM => run_index (h_codes.sat hM) (by simp) (by kernel_rfl) (by have q0_ := (dec_f h1); have q1_ := (bne_f h2); have q2_ := (bne_f h4); first | omega | (rw [List.length_set]; omega) | (dsimp only; omega) | (rw [List.length_drop]; omega) | (simp only [w64_eq]; omega) | exact (tm_in (by (first | (rw [w64_id (by omega)]; omega) | (simp only [w64_eq]; omega))) (by omega)).1 | exact (tm_in (by (first | (rw [w64_id (by omega)]; omega) | (simp only [w64_eq]; omega))) (by omega)).2.1 | exact (tm_in (by (first | (rw [w64_id (by omega)]; omega) | (simp only [w64_eq]; omega))) (by omega)).2.2 | (simp only [List.length_take] at *; omega) | (simp <;> omega)) (by have q0_ := (dec_f h1); have q1_ := (bne_f h2); have q2_ := (bne_f h4); first | omega | (rw [List.length_set]; omega) | (dsimp only; omega) | (rw [List.length_drop]; omega) | (simp only [w64_eq]; omega) | exact (tm_in (by (first | (rw [w64_id (by omega)]; omega) | (simp only [w64_eq]; omega))) (by omega)).1 | exact (tm_in (by (first | (rw [w64_id (by omega)]; omega) | (simp only [w64_eq]; omega))) (by omega)).2.1 | exact (tm_in (by (first | (rw [w64_id (by omega)]; omega) | (simp only [w64_eq]; omega))) (by omega)).2.2 | (simp only [List.length_take] at *; omega) | (simp <;> omega))) (by kernel_rfl) (by kernel_rfl) ?_
            refine TL.val (sV (Instr.loadAt 3 (.pointer (some ((A_codes.getD noAddr).add (k * 1)))))) (some 33) (.int .i64 (codes[k]?.getD 0)) [(1, .slice A_codes codes.length c_codes), (5, .int .i64 (k : Int)), (18, .slice A_tubes tubes.length c_tubes), (19, .int .i64 (tubes.length : Int)), (20, .int .i64 (k : Int)), (33, .int .i64 (codes[k]?.getD 0))] (fun w hM => run_load_one (off := 0) (i := k) (.int .i64 (codes[k]?.getD 0)) (h_codes.sat hM) (map_at (getD_at _ _ 0 (by have q0_ := (dec_f h1); have q1_ := (bne_f h2); have q2_ := (bne_f h4); first | omega | (rw [List.length_set]; omega) | (dsimp only; omega) | (rw [List.length_drop]; omega) | (simp only [w64_eq]; omega) | exact (tm_in (by (first | (rw [w64_id (by omega)]; omega) | (simp only [w64_eq]; omega))) (by omega)).1 | exact (tm_in (by (first | (rw [w64_id (by omega)]; omega) | (simp only [w64_eq]; omega))) (by omega)).2.1 | exact (tm_in (by (first | (rw [w64_id (by omega)]; omega) | (simp only [w64_eq]; omega))) (by omega)).2.2 | (simp only [List.length_take] at *; omega) | (simp <;> omega)))) (by kernel_rfl) (by kernel_rfl)) (by kernel_rfl) (by kernel_rfl) ?_
            refine TL.run 6 [] [(1, .slice A_codes codes.length c_codes), (5, .int .i64 (k : Int)), (18, .slice A_tubes tubes.length c_tubes), (19, .int .i64 (tubes.length : Int)), (20, .int .i64 (k : Int)), (35, .bool (decide ((codes[k]?.getD 0) < 0)))] rfl ⟨by kernel_rfl, by kernel_rfl⟩ ?_
            refine TL.split 35 (decide ((codes[k]?.getD 0) < 0)) (by kernel_rfl) (fun h5 => ?_) (fun h5 => ?_)
            · refine TL.run 12 [] [(1, .slice A_codes codes.length c_codes), (18, .slice A_tubes tubes.length c_tubes), (19, .int .i64 (tubes.length : Int)), (20, .int .i64 (k : Int)), (41, .bool true)] rfl ⟨by kernel_rfl, by kernel_rfl⟩ ?_
              refine TL.next rfl ?_
              refine TC.condT rfl (by kernel_rfl) ?_
              refine TC.seq ?_
              refine TC.region ?_
              refine TL.run 1 [] [(4, .int .i64 4)] rfl ⟨by kernel_rfl, by kernel_rfl⟩ ?_
              refine TL.next rfl ?_
              refine TC.ret ?_
              refine TE.ret_block (TE.ret_then (TE.ret_then (TE.ret_block (TE.ret_then (TE.ret_then ?_)))))
              have e : pair_Check tubes codes = 4 := by subst hr1; unfold pair_Check; exact cond_f h1 (cond_f h2 (elim_r (hR.symm.trans (hI.trans (by rw [hd]; exact cond_f h4 (cond_t h5 (rfl))))) rfl))
              exact TE.ret [] (.int .i64 4) ⟨by kernel_rfl, by kernel_rfl⟩ (by rw [e]; first | done | kernel_rfl)
            · refine TL.run 8 [] [(1, .slice A_codes codes.length c_codes), (18, .slice A_tubes tubes.length c_tubes), (19, .int .i64 (tubes.length : Int)), (20, .int .i64 (k : Int)), (35, .bool false), (36, .slice A_codes codes.length c_codes), (37, .int .i64 (k : Int))] rfl ⟨by kernel_rfl, by kernel_rfl⟩ ?_
              refine TL.val (sV (Instr.indexAt 62 (.slice A_codes codes.length c_codes) (.int .i64 (k : Int)))) (some 38) (.pointer (some ((A_codes.getD noAddr).add (k * 1)))) [(1, .slice A_codes codes.length c_codes), (18, .slice A_tubes tubes.length c_tubes), (19, .int .i64 (tubes.length : Int)), (20, .int .i64 (k : Int)), (35, .bool false), (38, .pointer (some ((A_codes.getD noAddr).add (k * 1))))] (fun w hM => run_index (h_codes.sat hM) (by simp) (by kernel_rfl) (by have q0_ := (dec_f h1); have q1_ := (bne_f h2); have q2_ := (bne_f h4); have q3_ := (dec_f h5); first | omega | (rw [List.length_set]; omega) | (dsimp only; omega) | (rw [List.length_drop]; omega) | (simp only [w64_eq]; omega) | exact (tm_in (by (first | (rw [w64_id (by omega)]; omega) | (simp only [w64_eq]; omega))) (by omega)).1 | exact (tm_in (by (first | (rw [w64_id (by omega)]; omega) | (simp only [w64_eq]; omega))) (by omega)).2.1 | exact (tm_in (by (first | (rw [w64_id (by omega)]; omega) | (simp only [w64_eq]; omega))) (by omega)).2.2 | (simp only [List.length_take] at *; omega) | (simp <;> omega)) (by have q0_ := (dec_f h1); have q1_ := (bne_f h2); have q2_ := (bne_f h4); have q3_ := (dec_f h5); first | omega | (rw [List.length_set]; omega) | (dsimp only; omega) | (rw [List.length_drop]; omega) | (simp only [w64_eq]; omega) | exact (tm_in (by (first | (rw [w64_id (by omega)]; omega) | (simp only [w64_eq]; omega))) (by omega)).1 | exact (tm_in (by (first | (rw [w64_id (by omega)]; omega) | (simp only [w64_eq]; omega))) (by omega)).2.1 | exact (tm_in (by (first | (rw [w64_id (by omega)]; omega) | (simp only [w64_eq]; omega))) (by omega)).2.2 | (simp only [List.length_take] at *; omega) | (simp <;> omega))) (by kernel_rfl) (by kernel_rfl) ?_
              refine TL.val (sV (Instr.loadAt 3 (.pointer (some ((A_codes.getD noAddr).add (k * 1)))))) (some 39) (.int .i64 (codes[k]?.getD 0)) [(1, .slice A_codes codes.length c_codes), (18, .slice A_tubes tubes.length c_tubes), (19, .int .i64 (tubes.length : Int)), (20, .int .i64 (k : Int)), (35, .bool false), (39, .int .i64 (codes[k]?.getD 0))] (fun w hM => run_load_one (off := 0) (i := k) (.int .i64 (codes[k]?.getD 0)) (h_codes.sat hM) (map_at (getD_at _ _ 0 (by have q0_ := (dec_f h1); have q1_ := (bne_f h2); have q2_ := (bne_f h4); have q3_ := (dec_f h5); first | omega | (rw [List.length_set]; omega) | (dsimp only; omega) | (rw [List.length_drop]; omega) | (simp only [w64_eq]; omega) | exact (tm_in (by (first | (rw [w64_id (by omega)]; omega) | (simp only [w64_eq]; omega))) (by omega)).1 | exact (tm_in (by (first | (rw [w64_id (by omega)]; omega) | (simp only [w64_eq]; omega))) (by omega)).2.1 | exact (tm_in (by (first | (rw [w64_id (by omega)]; omega) | (simp only [w64_eq]; omega))) (by omega)).2.2 | (simp only [List.length_take] at *; omega) | (simp <;> omega)))) (by kernel_rfl) (by kernel_rfl)) (by kernel_rfl) (by kernel_rfl) ?_
              refine TL.run 12 [] [(1, .slice A_codes codes.length c_codes), (18, .slice A_tubes tubes.length c_tubes), (19, .int .i64 (tubes.length : Int)), (20, .int .i64 (k : Int)), (41, .bool (decide ((codes[k]?.getD 0) > 4095)))] rfl ⟨by kernel_rfl, by kernel_rfl⟩ ?_
              refine TL.next rfl ?_
              refine TC.cond (decide ((codes[k]?.getD 0) > 4095)) rfl (by kernel_rfl) (fun h6 => ?_) (fun h6 => ?_)
              · refine TC.seq ?_
                refine TC.region ?_
                refine TL.run 1 [] [(4, .int .i64 4)] rfl ⟨by kernel_rfl, by kernel_rfl⟩ ?_
                refine TL.next rfl ?_
                refine TC.ret ?_
                refine TE.ret_block (TE.ret_then (TE.ret_then (TE.ret_block (TE.ret_then (TE.ret_then ?_)))))
                have e : pair_Check tubes codes = 4 := by subst hr1; unfold pair_Check; exact cond_f h1 (cond_f h2 (elim_r (hR.symm.trans (hI.trans (by rw [hd]; exact cond_f h4 (cond_f h5 (cond_t h6 (rfl)))))) rfl))
                exact TE.ret [] (.int .i64 4) ⟨by kernel_rfl, by kernel_rfl⟩ (by rw [e]; first | done | kernel_rfl)
              · refine TC.skip ?_
                refine TE.normal_block ?_
                refine TE.next ?_
                refine TC.region ?_
                refine TL.run 2 [] [(1, .slice A_codes codes.length c_codes), (18, .slice A_tubes tubes.length c_tubes), (19, .int .i64 (tubes.length : Int)), (20, .int .i64 (w64 ((k : Int) + 1)))] rfl ⟨by kernel_rfl, by kernel_rfl⟩ ?_
                refine TL.done rfl ?_
                refine TE.rw 20 (.int .i64 (w64 ((k : Int) + 1))) (.int .i64 ((k + 1 : Nat) : Int)) (by kernel_rfl) (w64_cast k (by omega)) ?_
                exact TE.again (x := k) (k + 1) ⟨by omega, hI.trans (by subst hr1; rw [hd]; exact cond_f h4 (cond_f h5 (cond_f h6 (rfl))))⟩ (by show tubes.length - (k + 1) < tubes.length - k; omega) (by kernel_rfl) (.slnil)
        · have hd : tubes.drop k = [] := List.drop_eq_nil_of_le (by have := of_decide_eq_false h3; first | omega | (simp at this; omega))
          refine TC.exit ?_
          refine TE.exit_then (TE.exit_then (TE.exit_same ?_))
          exact TE.cut () (hI.trans (by rw [hd]; exact rfl)) (by kernel_rfl) (.slnil)
      · intro _ hJ
        refine TE.next ?_
        refine TC.seq ?_
        refine TC.region ?_
        refine TL.run 1 [] [(4, .int .i64 0)] rfl ⟨by kernel_rfl, by kernel_rfl⟩ ?_
        refine TL.next rfl ?_
        refine TC.ret ?_
        have e : pair_Check tubes codes = 0 := by unfold pair_Check; exact cond_f h1 (cond_f h2 (elim_l (hR.symm.trans hJ) (rfl)))
        exact TE.ret [] (.int .i64 0) ⟨by kernel_rfl, by kernel_rfl⟩ (by rw [e]; first | done | kernel_rfl)

end Go.Sky
