/- Functions of the program, each with the Lean function that it computes. Conditions: none. -/
import Derived.Test.YtfjchccilkgcnaaMa
import Derived.Test.YtfjchccilkgcnaaSi
import Derived.Test.YtfjchccilkgcnaaSortOne
import Derived.Test.YtfjchccilkgcnaaCompact
import Derived.Test.YtfjchccilkgcnaaClear
import Derived.Test.YtfjchccilkgcnaaGrowNil
namespace Go.Sky
open Go Go.Eng Go.Proofs
open Go.Srt
set_option maxRecDepth 100000 in
theorem cmpct_w (A_s : Option Addr) (c_s : Nat) (s : List Plot) (w : World) (hM : Sat ⟨w, feet [.inr (Own A_s c_s 58 6 (s.map Plot.c))]⟩ [.inr (Own A_s c_s 58 6 (s.map Plot.c))] w) : Calls Try.prog 65 #[.slice A_s s.length c_s] w (RetM (Γ := (List Plot)) ⟨w, feet [.inr (Own A_s c_s 58 6 (s.map Plot.c))]⟩ (fun g => .slice A_s g.length c_s) (fun g => [.inr (Fact (g = cpt Plot.eqb s)), .inr (Own A_s c_s 58 6 (g.map Plot.c))])) := by
  refine calls_introM (w0 := ⟨w, feet [.inr (Own A_s c_s 58 6 (s.map Plot.c))]⟩) (vs := [.slice A_s s.length c_s]) hM Try.func65 rfl Try.ntmps65 rfl ?_
  refine TC.weak [(0, .slice A_s s.length c_s)] (by kernel_rfl) ?_
  refine TC.know (fun w hM => hM.short_at 0 rfl) (fun s_s => ?_)
  refine TC.seq ?_
  refine TC.region ?_
  refine TL.run 1 [] [(0, .slice A_s s.length c_s)] rfl ⟨by kernel_rfl, by kernel_rfl⟩ ?_
  refine TL.next rfl ?_
  refine TC.seq ?_
  refine TC.seq ?_
  refine TC.region ?_
  refine TL.run 3 [] [(0, .slice A_s s.length c_s), (8, .bool (decide ((s.length : Int) < 2)))] rfl ⟨by kernel_rfl, by kernel_rfl⟩ ?_
  refine TL.next rfl ?_
  refine TC.cond (decide ((s.length : Int) < 2)) rfl (by kernel_rfl) (fun h1 => ?_) (fun h1 => ?_)
  · refine TC.seq ?_
    refine TC.region ?_
    refine TL.run 2 [] [(2, .slice A_s s.length c_s)] rfl ⟨by kernel_rfl, by kernel_rfl⟩ ?_
    refine TL.next rfl ?_
    refine TC.ret ?_
    refine TE.ret_then ?_
    exact TE.retM (.inl rfl) s [] (.slice A_s s.length c_s) ⟨by kernel_rfl, by kernel_rfl⟩ rfl (fun _ hM => (hM.sub (.cons_cons _ (.slnil))).fact (by have q0_ := (dec_t h1); (try dsimp only); first | exact cpt_short (by omega) | exact (by rw [hclr]; exact (take_clear (by omega)).trans ho1.2) | exact ho0))
  · refine TC.skip ?_
    refine TE.next ?_
    refine TC.seq ?_
    refine TC.seq ?_
    refine TC.region ?_
    refine TL.run 1 [] [(0, .slice A_s s.length c_s), (3, .int .i64 1)] rfl ⟨by kernel_rfl, by kernel_rfl⟩ ?_
    refine TL.next rfl ?_
    refine TC.weak [(0, .slice A_s s.length c_s), (3, .int .i64 1)] (by kernel_rfl) ?_
    refine TC.cut (S := Unit) (fun (_ : Unit) => [(0, .slice A_s s.length c_s)]) (fun (_ : Unit) => [.inr (Own A_s c_s 58 6 (s.map Plot.c))]) (fun (_ : Unit) => (s = cpt Plot.eqb s)) ?_ ?_
    · refine TC.block ?_
      refine TC.loop (X := Int) (fun k_2 => [(0, .slice A_s s.length c_s), (3, .int .i64 k_2)]) (fun k_2 => [.inr (Own A_s c_s 58 6 (s.map Plot.c))]) (fun k_2 => ((s.length : Int) - k_2).toNat) (fun k_2 => ((1 ≤ k_2 ∧ k_2 ≤ (s.length : Int)) ∧ cpt Plot.eqb (s.take k_2.toNat) = s.take k_2.toNat)) ?_ 1 (by have q0_ := (dec_f h1); first | exact ⟨by omega, cpt_one (by omega)⟩)
      rintro k_2 hv0
      refine TC.seq ?_
      refine TC.seq ?_
      refine TC.region ?_
      refine TL.run 4 [] [(0, .slice A_s s.length c_s), (3, .int .i64 k_2), (13, .bool (decide (k_2 < (s.length : Int))))] rfl ⟨by kernel_rfl, by kernel_rfl⟩ ?_
      refine TL.next rfl ?_
      refine TC.cond (decide (k_2 < (s.length : Int))) rfl (by kernel_rfl) (fun h2 => ?_) (fun h2 => ?_)
      · refine TC.skip ?_
        refine TE.next ?_
        refine TC.seq ?_
        refine TC.block ?_
        refine TC.seq ?_
        refine TC.draw 10 (by kernel_rfl) (by kernel_rfl) (by kernel_rfl) ?_
        refine TQ.run 2 [] [(0, .slice A_s s.length c_s), (3, .int .i64 k_2), (16, .slice A_s s.length c_s), (17, .int .i64 k_2)] rfl ⟨by kernel_rfl, by kernel_rfl⟩ ?_
        refine TQ.val (sV (Instr.indexAt 41 (.slice A_s s.length c_s) (.int .i64 k_2))) (some 18) (.pointer (some ((A_s.getD noAddr).add (k_2.toNat * 6)))) [(0, .slice A_s s.length c_s), (3, .int .i64 k_2), (18, .pointer (some ((A_s.getD noAddr).add (k_2.toNat * 6))))] (fun w hM => run_index (hM.rd_at 0 rfl) (by simp) (by kernel_rfl) (by have q0_ := (dec_f h1); have q1_ := (dec_t h2); have kv0_ := hv0.1; first | omega | (rw [List.length_set]; omega) | (rw [w64_id (by omega)]; omega) | (dsimp only; omega) | (rw [List.length_drop]; omega) | (simp only [w64_eq]; omega) | (simp only [List.length_take] at *; omega) | (simp <;> omega)) (by have q0_ := (dec_f h1); have q1_ := (dec_t h2); have kv0_ := hv0.1; first | omega | (rw [List.length_set]; omega) | (rw [w64_id (by omega)]; omega) | (dsimp only; omega) | (rw [List.length_drop]; omega) | (simp only [w64_eq]; omega) | (simp only [List.length_take] at *; omega) | (simp <;> omega))) rfl (by kernel_rfl) (by kernel_rfl) ?_
        refine TQ.val (sV (Instr.loadAt 58 (.pointer (some ((A_s.getD noAddr).add (k_2.toNat * 6)))))) (some 19) (Plot.v (s[k_2.toNat]?.getD Plot.zero)) [(0, .slice A_s s.length c_s), (3, .int .i64 k_2), (19, Plot.v (s[k_2.toNat]?.getD Plot.zero))] (fun w hM => run_load_agg (n := 6) (off := 0) (i := k_2.toNat) (Plot.v (s[k_2.toNat]?.getD Plot.zero)) (hM.rd_at 0 rfl) (map_at (getD_at _ _ Plot.zero (by have q0_ := (dec_f h1); have q1_ := (dec_t h2); have kv0_ := hv0.1; first | omega | (rw [List.length_set]; omega) | (rw [w64_id (by omega)]; omega) | (dsimp only; omega) | (rw [List.length_drop]; omega) | (simp only [w64_eq]; omega) | (simp only [List.length_take] at *; omega) | (simp <;> omega)))) (by kernel_rfl) (by kernel_rfl) (by kernel_rfl)) rfl (by kernel_rfl) (by kernel_rfl) ?_
        refine TQ.run 7 [] [(0, .slice A_s s.length c_s), (3, .int .i64 k_2), (19, Plot.v (s[k_2.toNat]?.getD Plot.zero)), (20, .slice A_s s.length c_s), (22, .int .i64 (w64 (k_2 - 1)))] rfl ⟨by kernel_rfl, by kernel_rfl⟩ ?_
        refine TQ.rw 22 (.int .i64 (w64 (k_2 - 1))) (.int .i64 (k_2 - 1)) (by kernel_rfl) (int_eq (by have q0_ := (dec_f h1); have q1_ := (dec_t h2); have kv0_ := hv0.1; rw [w64_id (x := (k_2 - 1)) (by omega)])) ?_
        refine TQ.val (sV (Instr.indexAt 41 (.slice A_s s.length c_s) (.int .i64 (k_2 - 1)))) (some 23) (.pointer (some ((A_s.getD noAddr).add ((k_2 - 1).toNat * 6)))) [(0, .slice A_s s.length c_s), (3, .int .i64 k_2), (19, Plot.v (s[k_2.toNat]?.getD Plot.zero)), (23, .pointer (some ((A_s.getD noAddr).add ((k_2 - 1).toNat * 6))))] (fun w hM => run_index (hM.rd_at 0 rfl) (by simp) (by kernel_rfl) (by have q0_ := (dec_f h1); have q1_ := (dec_t h2); have kv0_ := hv0.1; first | omega | (rw [List.length_set]; omega) | (rw [w64_id (by omega)]; omega) | (dsimp only; omega) | (rw [List.length_drop]; omega) | (simp only [w64_eq]; omega) | (simp only [List.length_take] at *; omega) | (simp <;> omega)) (by have q0_ := (dec_f h1); have q1_ := (dec_t h2); have kv0_ := hv0.1; first | omega | (rw [List.length_set]; omega) | (rw [w64_id (by omega)]; omega) | (dsimp only; omega) | (rw [List.length_drop]; omega) | (simp only [w64_eq]; omega) | (simp only [List.length_take] at *; omega) | (simp <;> omega))) rfl (by kernel_rfl) (by kernel_rfl) ?_
        refine TQ.val (sV (Instr.loadAt 58 (.pointer (some ((A_s.getD noAddr).add ((k_2 - 1).toNat * 6)))))) (some 24) (Plot.v (s[(k_2 - 1).toNat]?.getD Plot.zero)) [(0, .slice A_s s.length c_s), (3, .int .i64 k_2), (19, Plot.v (s[k_2.toNat]?.getD Plot.zero)), (24, Plot.v (s[(k_2 - 1).toNat]?.getD Plot.zero))] (fun w hM => run_load_agg (n := 6) (off := 0) (i := (k_2 - 1).toNat) (Plot.v (s[(k_2 - 1).toNat]?.getD Plot.zero)) (hM.rd_at 0 rfl) (map_at (getD_at _ _ Plot.zero (by have q0_ := (dec_f h1); have q1_ := (dec_t h2); have kv0_ := hv0.1; first | omega | (rw [List.length_set]; omega) | (rw [w64_id (by omega)]; omega) | (dsimp only; omega) | (rw [List.length_drop]; omega) | (simp only [w64_eq]; omega) | (simp only [List.length_take] at *; omega) | (simp <;> omega)))) (by kernel_rfl) (by kernel_rfl) (by kernel_rfl)) rfl (by kernel_rfl) (by kernel_rfl) ?_
        refine TQ.val (sV (do eqGuard .eql 58 (.tmp 19) (.tmp 24) (Plot.v (s[k_2.toNat]?.getD Plot.zero)) (Plot.v (s[(k_2 - 1).toNat]?.getD Plot.zero)); binOp .eql 58 (Plot.v (s[k_2.toNat]?.getD Plot.zero)) (Plot.v (s[(k_2 - 1).toNat]?.getD Plot.zero)))) (some 25) (.bool (Plot.eqb (s[k_2.toNat]?.getD Plot.zero) (s[(k_2 - 1).toNat]?.getD Plot.zero))) [(0, .slice A_s s.length c_s), (3, .int .i64 k_2), (25, .bool (Plot.eqb (s[k_2.toNat]?.getD Plot.zero) (s[(k_2 - 1).toNat]?.getD Plot.zero)))] (fun w hM => run_eql (b := Plot.eqb (s[k_2.toNat]?.getD Plot.zero) (s[(k_2 - 1).toNat]?.getD Plot.zero)) (by kernel_rfl) (by kernel_rfl) w) rfl (by kernel_rfl) (by kernel_rfl) ?_
        refine TQ.next rfl ?_
        refine TC.cond (Plot.eqb (s[k_2.toNat]?.getD Plot.zero) (s[(k_2 - 1).toNat]?.getD Plot.zero)) rfl (by kernel_rfl) (fun h3 => ?_) (fun h3 => ?_)
        · refine TC.seq ?_
          refine TC.region ?_
          refine TL.run 2 [] [(0, .slice A_s s.length c_s), (3, .int .i64 k_2), (26, .slice A_s s.length c_s), (27, .int .i64 k_2)] rfl ⟨by kernel_rfl, by kernel_rfl⟩ ?_
          obtain ⟨A1, hA1⟩ : ∃ A0_, A0_ = (if c_s = k_2.toNat then A_s else A_s.map (fun a => a.add (k_2.toNat * 6))) := ⟨_, rfl⟩
          refine TL.val (sV (Instr.sliceAt 41 (.slice A_s s.length c_s) (some (.int .i64 k_2)) none none)) (some 28) (.slice A1 ((s.drop k_2.toNat).length) (c_s - k_2.toNat)) [(0, .slice A_s s.length c_s), (3, .int .i64 k_2), (28, .slice A1 ((s.drop k_2.toNat).length) (c_s - k_2.toNat))] (fun w hM => (run_slice k_2.toNat s.length (by kernel_rfl) (.inr ⟨_, _, rfl, (by have q0_ := (dec_f h1); have q1_ := (dec_t h2); have kv0_ := hv0.1; first | omega | (rw [List.length_set]; omega) | (rw [w64_id (by omega)]; omega) | (dsimp only; omega) | (rw [List.length_drop]; omega) | (simp only [w64_eq]; omega) | (simp only [List.length_take] at *; omega) | (simp <;> omega)), rfl⟩) (.inl ⟨rfl, rfl⟩) (by have q0_ := (dec_f h1); have q1_ := (dec_t h2); have kv0_ := hv0.1; first | omega | (rw [List.length_set]; omega) | (rw [w64_id (by omega)]; omega) | (dsimp only; omega) | (rw [List.length_drop]; omega) | (simp only [w64_eq]; omega) | (simp only [List.length_take] at *; omega) | (simp <;> omega)) (Nat.le_trans (Nat.le_refl _) (hM.le_at 0 rfl))).trans (by rw [hA1]; have q0_ := (dec_f h1); have q1_ := (dec_t h2); have kv0_ := hv0.1; congr 3; simp only [List.length_drop])) (by kernel_rfl) (by kernel_rfl) ?_
          refine TL.run 4 [] [(0, .slice A_s s.length c_s), (3, .int .i64 k_2), (4, .slice A1 ((s.drop k_2.toNat).length) (c_s - k_2.toNat))] rfl ⟨by kernel_rfl, by kernel_rfl⟩ ?_
          refine TL.next rfl ?_
          refine TC.seq ?_
          refine TC.seq ?_
          refine TC.region ?_
          refine TL.run 1 [] [(0, .slice A_s s.length c_s), (3, .int .i64 k_2), (4, .slice A1 ((s.drop k_2.toNat).length) (c_s - k_2.toNat)), (5, .int .i64 1)] rfl ⟨by kernel_rfl, by kernel_rfl⟩ ?_
          refine TL.next rfl ?_
          refine TC.weak [(0, .slice A_s s.length c_s), (3, .int .i64 k_2), (4, .slice A1 ((s.drop k_2.toNat).length) (c_s - k_2.toNat)), (5, .int .i64 1)] (by kernel_rfl) ?_
          refine TC.cut (S := Int × (List Plot)) (fun (k_5, s_3) => [(0, .slice A_s s_3.length c_s), (3, .int .i64 k_5)]) (fun (k_5, s_3) => [.inr (Own A_s c_s 58 6 (s_3.map Plot.c))]) (fun (k_5, s_3) => ((0 ≤ k_5 ∧ k_5 ≤ (s.length : Int)) ∧ s_3.take k_5.toNat = cpt Plot.eqb s) ∧ s_3.length = s.length) ?_ ?_
          · refine TC.block ?_
            refine TC.loop (X := Int × Int × (List Plot)) (fun (k_4, k2, s_2) => [(0, .slice A_s s_2.length c_s), (3, .int .i64 k_4), (4, .slice A1 ((s.drop k_2.toNat).length) (c_s - k_2.toNat)), (5, .int .i64 k2)]) (fun (k_4, k2, s_2) => [.inr (Own A_s c_s 58 6 (s_2.map Plot.c))]) (fun (k_4, k2, s_2) => ((s.length : Int) - k2).toNat) (fun (k_4, k2, s_2) => ((1 ≤ k2 ∧ k_2 + k2 ≤ (s.length : Int) ∧ k_2 ≤ k_4 ∧ k_4 + 1 ≤ k_2 + k2) ∧ Cin Plot.eqb s k_2 k2 k_4 s_2) ∧ s_2.length = s.length) ?_ (k_2, 1, s) ⟨(by have q0_ := (dec_f h1); have q1_ := (dec_t h2); have kv0_ := hv0.1; first | exact ⟨by omega, cin_start hv0.2 (by omega) (by omega) (by first | assumption | exact not_t (by assumption) | exact not_f (by assumption))⟩), (by simp)⟩
            rintro ⟨k_4, k2, s_2⟩ ⟨hv1, hl_s_2⟩
            refine TC.seq ?_
            refine TC.seq ?_
            refine TC.region ?_
            refine TL.run 4 [] [(0, .slice A_s s_2.length c_s), (3, .int .i64 k_4), (4, .slice A1 ((s.drop k_2.toNat).length) (c_s - k_2.toNat)), (5, .int .i64 k2), (32, .bool (decide (k2 < ((s.drop k_2.toNat).length : Int))))] rfl ⟨by kernel_rfl, by kernel_rfl⟩ ?_
            refine TL.next rfl ?_
            refine TC.cond (decide (k2 < ((s.drop k_2.toNat).length : Int))) rfl (by kernel_rfl) (fun h4 => ?_) (fun h4 => ?_)
            · refine TC.skip ?_
              refine TE.next ?_
              refine TC.seq ?_
              refine TC.block ?_
              refine TC.seq ?_
              refine TC.draw 10 (by kernel_rfl) (by kernel_rfl) (by kernel_rfl) ?_
              refine TQ.run 2 [] [(0, .slice A_s s_2.length c_s), (3, .int .i64 k_4), (4, .slice A1 ((s.drop k_2.toNat).length) (c_s - k_2.toNat)), (5, .int .i64 k2), (35, .slice A1 ((s.drop k_2.toNat).length) (c_s - k_2.toNat)), (36, .int .i64 k2)] rfl ⟨by kernel_rfl, by kernel_rfl⟩ ?_
              refine TQ.val (sV (Instr.indexAt 41 (.slice A1 ((s.drop k_2.toNat).length) (c_s - k_2.toNat)) (.int .i64 k2))) (some 37) (.pointer (some ((A1.getD noAddr).add (k2.toNat * 6)))) [(0, .slice A_s s_2.length c_s), (3, .int .i64 k_4), (4, .slice A1 ((s.drop k_2.toNat).length) (c_s - k_2.toNat)), (5, .int .i64 k2), (37, .pointer (some ((A1.getD noAddr).add (k2.toNat * 6))))] (fun w hM => run_index (by have hR0_ := hM.rd_at 0 rfl; have hC0_ := hM.le_at 0 rfl; rw [hA1]; exact hR0_.dropMap k_2.toNat hC0_) (by simp only [List.length_map, List.length_drop]; first | rfl | omega) (by kernel_rfl) (by have q0_ := (dec_f h1); have q1_ := (dec_t h2); have q2_ := (dec_t h4); have kv0_ := hv0.1; have kv1_ := hv1.1; have kd_ := List.length_drop (i := (k_2).toNat) (l := s); have ke_ := List.length_drop (i := (k_2).toNat) (l := s_2); first | omega | (rw [List.length_set]; omega) | (rw [w64_id (by omega)]; omega) | (dsimp only; omega) | (rw [List.length_drop]; omega) | (simp only [w64_eq]; omega) | (simp only [List.length_take] at *; omega) | (simp <;> omega)) (by have q0_ := (dec_f h1); have q1_ := (dec_t h2); have q2_ := (dec_t h4); have kv0_ := hv0.1; have kv1_ := hv1.1; have kd_ := List.length_drop (i := (k_2).toNat) (l := s); have ke_ := List.length_drop (i := (k_2).toNat) (l := s_2); first | omega | (rw [List.length_set]; omega) | (rw [w64_id (by omega)]; omega) | (dsimp only; omega) | (rw [List.length_drop]; omega) | (simp only [w64_eq]; omega) | (simp only [List.length_take] at *; omega) | (simp <;> omega))) rfl (by kernel_rfl) (by kernel_rfl) ?_
              refine TQ.val (sV (Instr.loadAt 58 (.pointer (some ((A1.getD noAddr).add (k2.toNat * 6)))))) (some 38) (Plot.v ((s_2.drop k_2.toNat)[k2.toNat]?.getD Plot.zero)) [(0, .slice A_s s_2.length c_s), (3, .int .i64 k_4), (4, .slice A1 ((s.drop k_2.toNat).length) (c_s - k_2.toNat)), (5, .int .i64 k2), (38, Plot.v ((s_2.drop k_2.toNat)[k2.toNat]?.getD Plot.zero))] (fun w hM => run_load_agg (n := 6) (off := 0) (i := k2.toNat) (Plot.v ((s_2.drop k_2.toNat)[k2.toNat]?.getD Plot.zero)) (by have hR0_ := hM.rd_at 0 rfl; have hC0_ := hM.le_at 0 rfl; rw [hA1]; exact hR0_.dropMap k_2.toNat hC0_) (map_at (getD_at _ _ Plot.zero (by have q0_ := (dec_f h1); have q1_ := (dec_t h2); have q2_ := (dec_t h4); have kv0_ := hv0.1; have kv1_ := hv1.1; have kd_ := List.length_drop (i := (k_2).toNat) (l := s); have ke_ := List.length_drop (i := (k_2).toNat) (l := s_2); first | omega | (rw [List.length_set]; omega) | (rw [w64_id (by omega)]; omega) | (dsimp only; omega) | (rw [List.length_drop]; omega) | (simp only [w64_eq]; omega) | (simp only [List.length_take] at *; omega) | (simp <;> omega)))) (by kernel_rfl) (by kernel_rfl) (by kernel_rfl)) rfl (by kernel_rfl) (by kernel_rfl) ?_
              refine TQ.run 7 [] [(0, .slice A_s s_2.length c_s), (3, .int .i64 k_4), (4, .slice A1 ((s.drop k_2.toNat).length) (c_s - k_2.toNat)), (5, .int .i64 k2), (38, Plot.v ((s_2.drop k_2.toNat)[k2.toNat]?.getD Plot.zero)), (39, .slice A1 ((s.drop k_2.toNat).length) (c_s - k_2.toNat)), (41, .int .i64 (w64 (k2 - 1)))] rfl ⟨by kernel_rfl, by kernel_rfl⟩ ?_
              refine TQ.rw 41 (.int .i64 (w64 (k2 - 1))) (.int .i64 (k2 - 1)) (by kernel_rfl) (int_eq (by have q0_ := (dec_f h1); have q1_ := (dec_t h2); have q2_ := (dec_t h4); have kv0_ := hv0.1; have kv1_ := hv1.1; have kd_ := List.length_drop (i := (k_2).toNat) (l := s); have ke_ := List.length_drop (i := (k_2).toNat) (l := s_2); rw [w64_id (x := (k2 - 1)) (by omega)])) ?_
              refine TQ.val (sV (Instr.indexAt 41 (.slice A1 ((s.drop k_2.toNat).length) (c_s - k_2.toNat)) (.int .i64 (k2 - 1)))) (some 42) (.pointer (some ((A1.getD noAddr).add ((k2 - 1).toNat * 6)))) [(0, .slice A_s s_2.length c_s), (3, .int .i64 k_4), (4, .slice A1 ((s.drop k_2.toNat).length) (c_s - k_2.toNat)), (5, .int .i64 k2), (38, Plot.v ((s_2.drop k_2.toNat)[k2.toNat]?.getD Plot.zero)), (42, .pointer (some ((A1.getD noAddr).add ((k2 - 1).toNat * 6))))] (fun w hM => run_index (by have hR0_ := hM.rd_at 0 rfl; have hC0_ := hM.le_at 0 rfl; rw [hA1]; exact hR0_.dropMap k_2.toNat hC0_) (by simp only [List.length_map, List.length_drop]; first | rfl | omega) (by kernel_rfl) (by have q0_ := (dec_f h1); have q1_ := (dec_t h2); have q2_ := (dec_t h4); have kv0_ := hv0.1; have kv1_ := hv1.1; have kd_ := List.length_drop (i := (k_2).toNat) (l := s); have ke_ := List.length_drop (i := (k_2).toNat) (l := s_2); first | omega | (rw [List.length_set]; omega) | (rw [w64_id (by omega)]; omega) | (dsimp only; omega) | (rw [List.length_drop]; omega) | (simp only [w64_eq]; omega) | (simp only [List.length_take] at *; omega) | (simp <;> omega)) (by have q0_ := (dec_f h1); have q1_ := (dec_t h2); have q2_ := (dec_t h4); have kv0_ := hv0.1; have kv1_ := hv1.1; have kd_ := List.length_drop (i := (k_2).toNat) (l := s); have ke_ := List.length_drop (i := (k_2).toNat) (l := s_2); first | omega | (rw [List.length_set]; omega) | (rw [w64_id (by omega)]; omega) | (dsimp only; omega) | (rw [List.length_drop]; omega) | (simp only [w64_eq]; omega) | (simp only [List.length_take] at *; omega) | (simp <;> omega))) rfl (by kernel_rfl) (by kernel_rfl) ?_
              refine TQ.val (sV (Instr.loadAt 58 (.pointer (some ((A1.getD noAddr).add ((k2 - 1).toNat * 6)))))) (some 43) (Plot.v ((s_2.drop k_2.toNat)[(k2 - 1).toNat]?.getD Plot.zero)) [(0, .slice A_s s_2.length c_s), (3, .int .i64 k_4), (4, .slice A1 ((s.drop k_2.toNat).length) (c_s - k_2.toNat)), (5, .int .i64 k2), (38, Plot.v ((s_2.drop k_2.toNat)[k2.toNat]?.getD Plot.zero)), (43, Plot.v ((s_2.drop k_2.toNat)[(k2 - 1).toNat]?.getD Plot.zero))] (fun w hM => run_load_agg (n := 6) (off := 0) (i := (k2 - 1).toNat) (Plot.v ((s_2.drop k_2.toNat)[(k2 - 1).toNat]?.getD Plot.zero)) (by have hR0_ := hM.rd_at 0 rfl; have hC0_ := hM.le_at 0 rfl; rw [hA1]; exact hR0_.dropMap k_2.toNat hC0_) (map_at (getD_at _ _ Plot.zero (by have q0_ := (dec_f h1); have q1_ := (dec_t h2); have q2_ := (dec_t h4); have kv0_ := hv0.1; have kv1_ := hv1.1; have kd_ := List.length_drop (i := (k_2).toNat) (l := s); have ke_ := List.length_drop (i := (k_2).toNat) (l := s_2); first | omega | (rw [List.length_set]; omega) | (rw [w64_id (by omega)]; omega) | (dsimp only; omega) | (rw [List.length_drop]; omega) | (simp only [w64_eq]; omega) | (simp only [List.length_take] at *; omega) | (simp <;> omega)))) (by kernel_rfl) (by kernel_rfl) (by kernel_rfl)) rfl (by kernel_rfl) (by kernel_rfl) ?_
              refine TQ.val (sV (do eqGuard .neq 58 (.tmp 38) (.tmp 43) (Plot.v ((s_2.drop k_2.toNat)[k2.toNat]?.getD Plot.zero)) (Plot.v ((s_2.drop k_2.toNat)[(k2 - 1).toNat]?.getD Plot.zero)); binOp .neq 58 (Plot.v ((s_2.drop k_2.toNat)[k2.toNat]?.getD Plot.zero)) (Plot.v ((s_2.drop k_2.toNat)[(k2 - 1).toNat]?.getD Plot.zero)))) (some 44) (.bool (!(Plot.eqb ((s_2.drop k_2.toNat)[k2.toNat]?.getD Plot.zero) ((s_2.drop k_2.toNat)[(k2 - 1).toNat]?.getD Plot.zero)))) [(0, .slice A_s s_2.length c_s), (3, .int .i64 k_4), (4, .slice A1 ((s.drop k_2.toNat).length) (c_s - k_2.toNat)), (5, .int .i64 k2), (44, .bool (!(Plot.eqb ((s_2.drop k_2.toNat)[k2.toNat]?.getD Plot.zero) ((s_2.drop k_2.toNat)[(k2 - 1).toNat]?.getD Plot.zero))))] (fun w hM => run_neq (b := Plot.eqb ((s_2.drop k_2.toNat)[k2.toNat]?.getD Plot.zero) ((s_2.drop k_2.toNat)[(k2 - 1).toNat]?.getD Plot.zero)) (by kernel_rfl) (by kernel_rfl) w) rfl (by kernel_rfl) (by kernel_rfl) ?_
              refine TQ.next rfl ?_
              refine TC.cond (!(Plot.eqb ((s_2.drop k_2.toNat)[k2.toNat]?.getD Plot.zero) ((s_2.drop k_2.toNat)[(k2 - 1).toNat]?.getD Plot.zero))) rfl (by kernel_rfl) (fun h5 => ?_) (fun h5 => ?_)
              · refine TC.seq ?_
                refine TC.region ?_
                refine TL.run 4 [] [(0, .slice A_s s_2.length c_s), (3, .int .i64 k_4), (4, .slice A1 ((s.drop k_2.toNat).length) (c_s - k_2.toNat)), (5, .int .i64 k2), (45, .slice A_s s_2.length c_s), (46, .int .i64 k_4), (47, .slice A1 ((s.drop k_2.toNat).length) (c_s - k_2.toNat)), (48, .int .i64 k2)] rfl ⟨by kernel_rfl, by kernel_rfl⟩ ?_
                refine TL.val (sV (Instr.indexAt 41 (.slice A1 ((s.drop k_2.toNat).length) (c_s - k_2.toNat)) (.int .i64 k2))) (some 49) (.pointer (some ((A1.getD noAddr).add (k2.toNat * 6)))) [(0, .slice A_s s_2.length c_s), (3, .int .i64 k_4), (4, .slice A1 ((s.drop k_2.toNat).length) (c_s - k_2.toNat)), (5, .int .i64 k2), (45, .slice A_s s_2.length c_s), (46, .int .i64 k_4), (49, .pointer (some ((A1.getD noAddr).add (k2.toNat * 6))))] (fun w hM => run_index (by have hR0_ := hM.rd_at 0 rfl; have hC0_ := hM.le_at 0 rfl; rw [hA1]; exact hR0_.dropMap k_2.toNat hC0_) (by simp only [List.length_map, List.length_drop]; first | rfl | omega) (by kernel_rfl) (by have q0_ := (dec_f h1); have q1_ := (dec_t h2); have q2_ := (dec_t h4); have kv0_ := hv0.1; have kv1_ := hv1.1; have kd_ := List.length_drop (i := (k_2).toNat) (l := s); have ke_ := List.length_drop (i := (k_2).toNat) (l := s_2); first | omega | (rw [List.length_set]; omega) | (rw [w64_id (by omega)]; omega) | (dsimp only; omega) | (rw [List.length_drop]; omega) | (simp only [w64_eq]; omega) | (simp only [List.length_take] at *; omega) | (simp <;> omega)) (by have q0_ := (dec_f h1); have q1_ := (dec_t h2); have q2_ := (dec_t h4); have kv0_ := hv0.1; have kv1_ := hv1.1; have kd_ := List.length_drop (i := (k_2).toNat) (l := s); have ke_ := List.length_drop (i := (k_2).toNat) (l := s_2); first | omega | (rw [List.length_set]; omega) | (rw [w64_id (by omega)]; omega) | (dsimp only; omega) | (rw [List.length_drop]; omega) | (simp only [w64_eq]; omega) | (simp only [List.length_take] at *; omega) | (simp <;> omega))) (by kernel_rfl) (by kernel_rfl) ?_
                refine TL.val (sV (Instr.loadAt 58 (.pointer (some ((A1.getD noAddr).add (k2.toNat * 6)))))) (some 50) (Plot.v ((s_2.drop k_2.toNat)[k2.toNat]?.getD Plot.zero)) [(0, .slice A_s s_2.length c_s), (3, .int .i64 k_4), (4, .slice A1 ((s.drop k_2.toNat).length) (c_s - k_2.toNat)), (5, .int .i64 k2), (45, .slice A_s s_2.length c_s), (46, .int .i64 k_4), (50, Plot.v ((s_2.drop k_2.toNat)[k2.toNat]?.getD Plot.zero))] (fun w hM => run_load_agg (n := 6) (off := 0) (i := k2.toNat) (Plot.v ((s_2.drop k_2.toNat)[k2.toNat]?.getD Plot.zero)) (by have hR0_ := hM.rd_at 0 rfl; have hC0_ := hM.le_at 0 rfl; rw [hA1]; exact hR0_.dropMap k_2.toNat hC0_) (map_at (getD_at _ _ Plot.zero (by have q0_ := (dec_f h1); have q1_ := (dec_t h2); have q2_ := (dec_t h4); have kv0_ := hv0.1; have kv1_ := hv1.1; have kd_ := List.length_drop (i := (k_2).toNat) (l := s); have ke_ := List.length_drop (i := (k_2).toNat) (l := s_2); first | omega | (rw [List.length_set]; omega) | (rw [w64_id (by omega)]; omega) | (dsimp only; omega) | (rw [List.length_drop]; omega) | (simp only [w64_eq]; omega) | (simp only [List.length_take] at *; omega) | (simp <;> omega)))) (by kernel_rfl) (by kernel_rfl) (by kernel_rfl)) (by kernel_rfl) (by kernel_rfl) ?_
                refine TL.val (sV (Instr.indexAt 41 (.slice A_s s_2.length c_s) (.int .i64 k_4))) (some 51) (.pointer (some ((A_s.getD noAddr).add (k_4.toNat * 6)))) [(0, .slice A_s s_2.length c_s), (3, .int .i64 k_4), (4, .slice A1 ((s.drop k_2.toNat).length) (c_s - k_2.toNat)), (5, .int .i64 k2), (50, Plot.v ((s_2.drop k_2.toNat)[k2.toNat]?.getD Plot.zero)), (51, .pointer (some ((A_s.getD noAddr).add (k_4.toNat * 6))))] (fun w hM => run_index (hM.rd_at 0 rfl) (by simp) (by kernel_rfl) (by have q0_ := (dec_f h1); have q1_ := (dec_t h2); have q2_ := (dec_t h4); have kv0_ := hv0.1; have kv1_ := hv1.1; have kd_ := List.length_drop (i := (k_2).toNat) (l := s); have ke_ := List.length_drop (i := (k_2).toNat) (l := s_2); first | omega | (rw [List.length_set]; omega) | (rw [w64_id (by omega)]; omega) | (dsimp only; omega) | (rw [List.length_drop]; omega) | (simp only [w64_eq]; omega) | (simp only [List.length_take] at *; omega) | (simp <;> omega)) (by have q0_ := (dec_f h1); have q1_ := (dec_t h2); have q2_ := (dec_t h4); have kv0_ := hv0.1; have kv1_ := hv1.1; have kd_ := List.length_drop (i := (k_2).toNat) (l := s); have ke_ := List.length_drop (i := (k_2).toNat) (l := s_2); first | omega | (rw [List.length_set]; omega) | (rw [w64_id (by omega)]; omega) | (dsimp only; omega) | (rw [List.length_drop]; omega) | (simp only [w64_eq]; omega) | (simp only [List.length_take] at *; omega) | (simp <;> omega))) (by kernel_rfl) (by kernel_rfl) ?_
                refine TL.skipM (Γ := Unit) (sU (Instr.storeAt 58 (.pointer (some (((A_s.getD noAddr).add (k_4.toNat * 6)).add 0))) (Plot.v ((s_2.drop k_2.toNat)[k2.toNat]?.getD Plot.zero)))) none (fun _ => [.inr (Own A_s c_s 58 6 ((s_2.set k_4.toNat ((s_2.drop k_2.toNat)[k2.toNat]?.getD Plot.zero)).map Plot.c))]) (fun _ => [(0, .slice A_s s_2.length c_s), (3, .int .i64 k_4), (4, .slice A1 ((s.drop k_2.toNat).length) (c_s - k_2.toNat)), (5, .int .i64 k2)]) (run_store_at (n := 6) (off := 0) (Plot.v ((s_2.drop k_2.toNat)[k2.toNat]?.getD Plot.zero)) 0 ((s_2.set k_4.toNat ((s_2.drop k_2.toNat)[k2.toNat]?.getD Plot.zero)).map Plot.c) rfl (map_at (getD_at _ _ Plot.zero (by have q0_ := (dec_f h1); have q1_ := (dec_t h2); have q2_ := (dec_t h4); have kv0_ := hv0.1; have kv1_ := hv1.1; have kd_ := List.length_drop (i := (k_2).toNat) (l := s); have ke_ := List.length_drop (i := (k_2).toNat) (l := s_2); first | omega | (rw [List.length_set]; omega) | (rw [w64_id (by omega)]; omega) | (dsimp only; omega) | (rw [List.length_drop]; omega) | (simp only [w64_eq]; omega) | (simp only [List.length_take] at *; omega) | (simp <;> omega)))) (by kernel_rfl) (by kernel_rfl) (by kernel_rfl) (by kernel_rfl) (set_map_at (by kernel_rfl))) (by kernel_rfl) (fun _ => by kernel_rfl) (fun _ => ?_)
                refine TL.rw 0 (.slice A_s s_2.length c_s) (.slice A_s ((s_2.set k_4.toNat ((s_2.drop k_2.toNat)[k2.toNat]?.getD Plot.zero)).length) c_s) (by kernel_rfl) (by simp only [List.length_set]) ?_
                refine TL.next rfl ?_
                refine TC.region ?_
                refine TL.run 3 [] [(0, .slice A_s ((s_2.set k_4.toNat ((s_2.drop k_2.toNat)[k2.toNat]?.getD Plot.zero)).length) c_s), (3, .int .i64 (w64 (k_4 + 1))), (4, .slice A1 ((s.drop k_2.toNat).length) (c_s - k_2.toNat)), (5, .int .i64 k2)] rfl ⟨by kernel_rfl, by kernel_rfl⟩ ?_
                refine TL.rw 3 (.int .i64 (w64 (k_4 + 1))) (.int .i64 (k_4 + 1)) (by kernel_rfl) (int_eq (by have q0_ := (dec_f h1); have q1_ := (dec_t h2); have q2_ := (dec_t h4); have kv0_ := hv0.1; have kv1_ := hv1.1; have kd_ := List.length_drop (i := (k_2).toNat) (l := s); have ke_ := List.length_drop (i := (k_2).toNat) (l := s_2); rw [w64_id (x := (k_4 + 1)) (by omega)])) ?_
                refine TL.done rfl ?_
                refine TE.normal_block ?_
                refine TE.next ?_
                refine TC.region ?_
                refine TL.run 3 [] [(0, .slice A_s ((s_2.set k_4.toNat ((s_2.drop k_2.toNat)[k2.toNat]?.getD Plot.zero)).length) c_s), (3, .int .i64 (k_4 + 1)), (4, .slice A1 ((s.drop k_2.toNat).length) (c_s - k_2.toNat)), (5, .int .i64 (w64 (k2 + 1)))] rfl ⟨by kernel_rfl, by kernel_rfl⟩ ?_
                refine TL.rw 5 (.int .i64 (w64 (k2 + 1))) (.int .i64 (k2 + 1)) (by kernel_rfl) (int_eq (by have q0_ := (dec_f h1); have q1_ := (dec_t h2); have q2_ := (dec_t h4); have kv0_ := hv0.1; have kv1_ := hv1.1; have kd_ := List.length_drop (i := (k_2).toNat) (l := s); have ke_ := List.length_drop (i := (k_2).toNat) (l := s_2); rw [w64_id (x := (k2 + 1)) (by omega)])) ?_
                refine TL.done rfl ?_
                exact TE.again (x := (k_4, k2, s_2)) ((k_4 + 1), (k2 + 1), (s_2.set k_4.toNat ((s_2.drop k_2.toNat)[k2.toNat]?.getD Plot.zero))) ⟨(by have q0_ := (dec_f h1); have q1_ := (dec_t h2); have q2_ := (dec_t h4); have kv0_ := hv0.1; have kv1_ := hv1.1; have kd_ := List.length_drop (i := (k_2).toNat) (l := s); have ke_ := List.length_drop (i := (k_2).toNat) (l := s_2); first | exact ⟨by omega, cin_ne hv1.2 (by omega) (by omega) (by omega) (by omega) (by omega) (by omega) (by first | assumption | exact not_t (by assumption) | exact not_f (by assumption))⟩ | exact ⟨by omega, cin_eq hv1.2 (by omega) (by omega) (by omega) (by first | assumption | exact not_t (by assumption) | exact not_f (by assumption))⟩), (by first | rfl | omega | (simp only [List.length_set]; omega))⟩ (by have q0_ := (dec_f h1); have q1_ := (dec_t h2); have q2_ := (dec_t h4); have kv0_ := hv0.1; have kv1_ := hv1.1; have kd_ := List.length_drop (i := (k_2).toNat) (l := s); have ke_ := List.length_drop (i := (k_2).toNat) (l := s_2); (try dsimp only); omega) (by kernel_rfl) (.cons_cons _ (.slnil))
              · refine TC.skip ?_
                refine TE.normal_block ?_
                refine TE.next ?_
                refine TC.region ?_
                refine TL.run 3 [] [(0, .slice A_s s_2.length c_s), (3, .int .i64 k_4), (4, .slice A1 ((s.drop k_2.toNat).length) (c_s - k_2.toNat)), (5, .int .i64 (w64 (k2 + 1)))] rfl ⟨by kernel_rfl, by kernel_rfl⟩ ?_
                refine TL.rw 5 (.int .i64 (w64 (k2 + 1))) (.int .i64 (k2 + 1)) (by kernel_rfl) (int_eq (by have q0_ := (dec_f h1); have q1_ := (dec_t h2); have q2_ := (dec_t h4); have kv0_ := hv0.1; have kv1_ := hv1.1; have kd_ := List.length_drop (i := (k_2).toNat) (l := s); have ke_ := List.length_drop (i := (k_2).toNat) (l := s_2); rw [w64_id (x := (k2 + 1)) (by omega)])) ?_
                refine TL.done rfl ?_
                exact TE.again (x := (k_4, k2, s_2)) (k_4, (k2 + 1), s_2) ⟨(by have q0_ := (dec_f h1); have q1_ := (dec_t h2); have q2_ := (dec_t h4); have kv0_ := hv0.1; have kv1_ := hv1.1; have kd_ := List.length_drop (i := (k_2).toNat) (l := s); have ke_ := List.length_drop (i := (k_2).toNat) (l := s_2); first | exact ⟨by omega, cin_ne hv1.2 (by omega) (by omega) (by omega) (by omega) (by omega) (by omega) (by first | assumption | exact not_t (by assumption) | exact not_f (by assumption))⟩ | exact ⟨by omega, cin_eq hv1.2 (by omega) (by omega) (by omega) (by first | assumption | exact not_t (by assumption) | exact not_f (by assumption))⟩), (by first | rfl | omega | (simp only [List.length_set]; omega))⟩ (by have q0_ := (dec_f h1); have q1_ := (dec_t h2); have q2_ := (dec_t h4); have kv0_ := hv0.1; have kv1_ := hv1.1; have kd_ := List.length_drop (i := (k_2).toNat) (l := s); have ke_ := List.length_drop (i := (k_2).toNat) (l := s_2); (try dsimp only); omega) (by kernel_rfl) (.cons_cons _ (.slnil))
            · refine TC.exit ?_
              refine TE.exit_then (TE.exit_then (TE.exit_same ?_))
              exact TE.cut (k_4, s_2) ⟨(by have q0_ := (dec_f h1); have q1_ := (dec_t h2); have q2_ := (dec_f h4); have kv0_ := hv0.1; have kv1_ := hv1.1; have kd_ := List.length_drop (i := (k_2).toNat) (l := s); have ke_ := List.length_drop (i := (k_2).toNat) (l := s_2); first | exact ⟨by omega, cin_end hv1.2 (by omega)⟩), (by first | rfl | omega | (simp only [List.length_set]; omega))⟩ (by kernel_rfl) (.cons_cons _ (.slnil))
          · rintro ⟨k_5, s_3⟩ ⟨ho1, hl_s_3⟩
            refine TE.next ?_
            refine TC.seq ?_
            refine TC.region ?_
            refine TL.run 2 [] [(0, .slice A_s s_3.length c_s), (3, .int .i64 k_5), (54, .slice A_s s_3.length c_s), (55, .int .i64 k_5)] rfl ⟨by kernel_rfl, by kernel_rfl⟩ ?_
            obtain ⟨A1_2, hA1_2⟩ : ∃ A0_, A0_ = (if c_s = k_5.toNat then A_s else A_s.map (fun a => a.add (k_5.toNat * 6))) := ⟨_, rfl⟩
            refine TL.val (sV (Instr.sliceAt 41 (.slice A_s s_3.length c_s) (some (.int .i64 k_5)) none none)) (some 56) (.slice A1_2 ((s_3.drop k_5.toNat).length) (c_s - k_5.toNat)) [(0, .slice A_s s_3.length c_s), (3, .int .i64 k_5), (56, .slice A1_2 ((s_3.drop k_5.toNat).length) (c_s - k_5.toNat))] (fun w hM => (run_slice k_5.toNat s_3.length (by kernel_rfl) (.inr ⟨_, _, rfl, (by have q0_ := (dec_f h1); have q1_ := (dec_t h2); have kv0_ := hv0.1; have ko1_ := ho1.1; first | omega | (rw [List.length_set]; omega) | (rw [w64_id (by omega)]; omega) | (dsimp only; omega) | (rw [List.length_drop]; omega) | (simp only [w64_eq]; omega) | (simp only [List.length_take] at *; omega) | (simp <;> omega)), rfl⟩) (.inl ⟨rfl, rfl⟩) (by have q0_ := (dec_f h1); have q1_ := (dec_t h2); have kv0_ := hv0.1; have ko1_ := ho1.1; first | omega | (rw [List.length_set]; omega) | (rw [w64_id (by omega)]; omega) | (dsimp only; omega) | (rw [List.length_drop]; omega) | (simp only [w64_eq]; omega) | (simp only [List.length_take] at *; omega) | (simp <;> omega)) (Nat.le_trans (Nat.le_refl _) (hM.le_at 0 rfl))).trans (by rw [hA1_2]; have q0_ := (dec_f h1); have q1_ := (dec_t h2); have kv0_ := hv0.1; have ko1_ := ho1.1; congr 3; simp only [List.length_drop])) (by kernel_rfl) (by kernel_rfl) ?_
            obtain ⟨s_4, hclr⟩ : ∃ x_, x_ = (s_3.take k_5.toNat ++ List.replicate (s_3.length - k_5.toNat) Plot.zero) := ⟨_, rfl⟩
            have hlclr : s_4.length = s_3.length := by have k_ : k_5.toNat ≤ s_3.length := (by have q0_ := (dec_f h1); have q1_ := (dec_t h2); have kv0_ := hv0.1; have ko1_ := ho1.1; first | omega | (rw [List.length_set]; omega) | (rw [w64_id (by omega)]; omega) | (dsimp only; omega) | (rw [List.length_drop]; omega) | (simp only [w64_eq]; omega) | (simp only [List.length_take] at *; omega) | (simp <;> omega)); rw [hclr]; simp only [List.length_append, List.length_take, List.length_replicate]; omega
            refine TL.opM (Γ := Unit) (sV (Builtin.clear_ #[41] 0 #[.slice A1_2 ((s_3.drop k_5.toNat).length) (c_s - k_5.toNat)])) none (fun _ => .tuple #[]) (fun _ => [.inr (Own A_s c_s 58 6 (s_4.map Plot.c))]) (fun _ => [(0, .slice A_s s_3.length c_s), (3, .int .i64 k_5)]) (by rw [hclr]; exact run_clear_at (c := Plot.c) (bytes := 48) (sz := 6) Plot.zero 0 k_5.toNat ((c_s - k_5.toNat)) ((s_3.drop k_5.toNat).length) 0 (by kernel_rfl) (by kernel_rfl) Plot.one rfl hA1_2 (by simp only [List.length_drop]) (by have q0_ := (dec_f h1); have q1_ := (dec_t h2); have kv0_ := hv0.1; have ko1_ := ho1.1; first | omega | (rw [List.length_set]; omega) | (rw [w64_id (by omega)]; omega) | (dsimp only; omega) | (rw [List.length_drop]; omega) | (simp only [w64_eq]; omega) | (simp only [List.length_take] at *; omega) | (simp <;> omega))) (by kernel_rfl) (fun _ => by kernel_rfl) (fun _ => ?_)
            refine TL.rw 0 (.slice A_s s_3.length c_s) (.slice A_s s_4.length c_s) (by kernel_rfl) (by rw [hlclr]) ?_
            refine TL.next rfl ?_
            refine TC.seq ?_
            refine TC.region ?_
            refine TL.run 2 [] [(57, .slice A_s s_4.length c_s), (58, .int .i64 k_5)] rfl ⟨by kernel_rfl, by kernel_rfl⟩ ?_
            obtain ⟨A1_3, hA1_3⟩ : ∃ A0_, A0_ = (if c_s = 0 then A_s else A_s.map (fun a => a.add (0 * 6))) := ⟨_, rfl⟩
            refine TL.val (sV (Instr.sliceAt 41 (.slice A_s s_4.length c_s) none (some (.int .i64 k_5)) none)) (some 59) (.slice A1_3 ((s_4.take k_5.toNat).length) (c_s - 0)) [(59, .slice A1_3 ((s_4.take k_5.toNat).length) (c_s - 0))] (fun w hM => (run_slice 0 k_5.toNat (by kernel_rfl) (.inl ⟨rfl, rfl⟩) (.inr ⟨_, _, rfl, (by have q0_ := (dec_f h1); have q1_ := (dec_t h2); have kv0_ := hv0.1; have ko1_ := ho1.1; first | omega | (rw [List.length_set]; omega) | (rw [w64_id (by omega)]; omega) | (dsimp only; omega) | (rw [List.length_drop]; omega) | (simp only [w64_eq]; omega) | (simp only [List.length_take] at *; omega) | (simp <;> omega)), rfl⟩) (by have q0_ := (dec_f h1); have q1_ := (dec_t h2); have kv0_ := hv0.1; have ko1_ := ho1.1; first | omega | (rw [List.length_set]; omega) | (rw [w64_id (by omega)]; omega) | (dsimp only; omega) | (rw [List.length_drop]; omega) | (simp only [w64_eq]; omega) | (simp only [List.length_take] at *; omega) | (simp <;> omega)) (Nat.le_trans (by have q0_ := (dec_f h1); have q1_ := (dec_t h2); have kv0_ := hv0.1; have ko1_ := ho1.1; first | omega | (rw [List.length_set]; omega) | (rw [w64_id (by omega)]; omega) | (dsimp only; omega) | (rw [List.length_drop]; omega) | (simp only [w64_eq]; omega) | (simp only [List.length_take] at *; omega) | (simp <;> omega)) (hM.le_at 0 rfl))).trans (by rw [hA1_3]; have q0_ := (dec_f h1); have q1_ := (dec_t h2); have kv0_ := hv0.1; have ko1_ := ho1.1; congr 3; first | (simp only [List.length_take] <;> omega) | (simp only [List.length_take] at * <;> omega))) (by kernel_rfl) (by kernel_rfl) ?_
            refine TL.run 4 [] [(2, .slice A1_3 ((s_4.take k_5.toNat).length) (c_s - 0))] rfl ⟨by kernel_rfl, by kernel_rfl⟩ ?_
            refine TL.next rfl ?_
            refine TC.ret ?_
            refine TE.ret_block (TE.ret_then (TE.ret_then (TE.ret_block (TE.ret_then (TE.ret_then ?_)))))
            refine TE.conv [.inr (Own A_s c_s 58 6 ((s_4.take k_5.toNat).map Plot.c))] (fun _ hM => by have h_ := hM.takerow k_5.toNat 0 rfl (by simp only [List.length_map]; have q0_ := (dec_f h1); have q1_ := (dec_t h2); have kv0_ := hv0.1; have ko1_ := ho1.1; first | omega | (simp only [w64_eq]; omega) | (simp <;> omega)); rw [← List.map_take] at h_; exact h_) ?_
            exact TE.retM (.inl rfl) (s_4.take k_5.toNat) [] (.slice A1_3 ((s_4.take k_5.toNat).length) (c_s - 0)) ⟨by kernel_rfl, by kernel_rfl⟩ (by rw [hA1_3, cut0]; rfl) (fun _ hM => (hM.sub (.cons_cons _ (.slnil))).fact (by have q0_ := (dec_f h1); have q1_ := (dec_t h2); have kv0_ := hv0.1; have ko1_ := ho1.1; (try dsimp only); first | exact cpt_short (by omega) | exact (by rw [hclr]; exact (take_clear (by omega)).trans ho1.2) | exact ho0))
        · refine TC.skip ?_
          refine TE.normal_block ?_
          refine TE.next ?_
          refine TC.region ?_
          refine TL.run 3 [] [(0, .slice A_s s.length c_s), (3, .int .i64 (w64 (k_2 + 1)))] rfl ⟨by kernel_rfl, by kernel_rfl⟩ ?_
          refine TL.rw 3 (.int .i64 (w64 (k_2 + 1))) (.int .i64 (k_2 + 1)) (by kernel_rfl) (int_eq (by have q0_ := (dec_f h1); have q1_ := (dec_t h2); have kv0_ := hv0.1; rw [w64_id (x := (k_2 + 1)) (by omega)])) ?_
          refine TL.done rfl ?_
          exact TE.again (x := k_2) (k_2 + 1) (by have q0_ := (dec_f h1); have q1_ := (dec_t h2); have kv0_ := hv0.1; first | exact ⟨by omega, cpt_step hv0.2 (by omega) (by omega) (by first | assumption | exact not_t (by assumption) | exact not_f (by assumption))⟩) (by have q0_ := (dec_f h1); have q1_ := (dec_t h2); have kv0_ := hv0.1; (try dsimp only); omega) (by kernel_rfl) (.cons_cons _ (.slnil))
      · refine TC.exit ?_
        refine TE.exit_then (TE.exit_then (TE.exit_same ?_))
        exact TE.cut () (by have q0_ := (dec_f h1); have q1_ := (dec_f h2); have kv0_ := hv0.1; first | exact cpt_all hv0.2 (by omega)) (by kernel_rfl) (.cons_cons _ (.slnil))
    · intro _ ho0
      refine TE.next ?_
      refine TC.seq ?_
      refine TC.region ?_
      refine TL.run 2 [] [(2, .slice A_s s.length c_s)] rfl ⟨by kernel_rfl, by kernel_rfl⟩ ?_
      refine TL.next rfl ?_
      refine TC.ret ?_
      exact TE.retM (.inl rfl) s [] (.slice A_s s.length c_s) ⟨by kernel_rfl, by kernel_rfl⟩ rfl (fun _ hM => (hM.sub (.cons_cons _ (.slnil))).fact (by have q0_ := (dec_f h1); (try dsimp only); first | exact cpt_short (by omega) | exact (by rw [hclr]; exact (take_clear (by omega)).trans ho1.2) | exact ho0))

def mosaic_Merge_L2 (x : List Plot) : List Plot → Nat → ((Unit) ⊕ (List Plot × Int))
  | [], _ => .inl ()
  | x_2 :: xs, k_2 => let r1 := radar_CheckPlot x_2
    cond (r1 != 0) (
      .inr ([], r1)) (
      cond (decide ((k_2 : Int) > 0)) (
        cond (decide (x_2.Time < ((x[(k_2 - 1)]?.getD Plot.zero).Time))) (
          .inr ([], 12)) (
          mosaic_Merge_L2 x xs (k_2 + 1))) (
        mosaic_Merge_L2 x xs (k_2 + 1)))
def mosaic_Merge_L1 : List (List Plot) → Nat → (List Plot) → ((List Plot) ⊕ (List Plot × Int))
  | [], _, out => .inl out
  | x :: xs, k, out => cond (decide ((x.length : Int) > 256)) (
      .inr ([], 2)) (
      Sum.elim (fun _ =>
        mosaic_Merge_L1 xs (k + 1) (out ++ x)) (fun r => .inr r) (mosaic_Merge_L2 x x 0))
def mosaic_Merge (feeds : List (List Plot)) : List Plot × Int :=
  cond (decide ((feeds.length : Int) > 4)) (
    ([], 2)) (
    Sum.elim (fun out_2 =>
      let r2 := isort ltP out_2
      let r3 := cpt Plot.eqb r2
      (r3, 0)) (fun r => r) (mosaic_Merge_L1 feeds 0 ([] : List Plot)))

set_option maxHeartbeats 4000000 in
set_option maxRecDepth 100000 in
theorem mosaic_Merge_w (A_feeds : Option Addr) (c_feeds : Nat) (feeds : List (List Plot)) (o_feeds : List (Sl Plot)) (w : World) (h_feeds : Rd w 1 A_feeds (o_feeds.map Sl.c)) (_hc_feeds : feeds.length ≤ c_feeds) (hd_feeds : ∀ s ∈ o_feeds, s.rd w 6 Plot.c) (he_feeds : feeds = o_feeds.map Sl.l) : Calls Try.prog 31 #[.slice A_feeds feeds.length c_feeds] w (RetM (Γ := (Option Addr × Nat)) (cx w) (fun g => .tuple #[.slice g.1 ((mosaic_Merge feeds).1.length) g.2, .int .i64 ((mosaic_Merge feeds).2)]) (fun g => [.inr (Own g.1 g.2 58 6 (((mosaic_Merge feeds).1).map Plot.c))])) := by
  have s_feeds := h_feeds.short; rw [← sl_len he_feeds] at s_feeds
  refine calls_intro (vs := [.slice A_feeds feeds.length c_feeds]) (w := w) Try.func31 rfl Try.ntmps31 rfl ?_
  refine TC.weak [(0, .slice A_feeds feeds.length c_feeds)] (by kernel_rfl) ?_
  refine TC.seq ?_
  refine TC.region ?_
  refine TL.run 2 [] [(0, .slice A_feeds feeds.length c_feeds)] rfl ⟨by kernel_rfl, by kernel_rfl⟩ ?_
  refine TL.next rfl ?_
  refine TC.seq ?_
  refine TC.seq ?_
  refine TC.region ?_
  refine TL.run 3 [] [(0, .slice A_feeds feeds.length c_feeds), (12, .bool (decide ((feeds.length : Int) > 4)))] rfl ⟨by kernel_rfl, by kernel_rfl⟩ ?_
  refine TL.next rfl ?_
  refine TC.cond (decide ((feeds.length : Int) > 4)) rfl (by kernel_rfl) (fun h1 => ?_) (fun h1 => ?_)
  · refine TC.seq ?_
    refine TC.region ?_
    refine TL.run 2 [] [(2, .slice none 0 0), (3, .int .i64 2)] rfl ⟨by kernel_rfl, by kernel_rfl⟩ ?_
    refine TL.next rfl ?_
    refine TC.ret ?_
    refine TE.ret_then ?_
    have e : mosaic_Merge feeds = ([], 2) := by unfold mosaic_Merge; exact cond_t h1 (rfl)
    refine TE.conv [.inr (Own none 0 58 6 (([] : List Plot).map Plot.c))] (fun _ hM => hM.emptyrow none 58 6) ?_
    rw [e]
    exact TE.retM (.inl rfl) (none, 0) [] (.tuple #[.slice none 0 0, .int .i64 2]) ⟨by kernel_rfl, by kernel_rfl⟩ rfl (fun _ hM => hM.sub (.cons_cons _ (.slnil)))
  · refine TC.skip ?_
    refine TE.next ?_
    refine TC.seq ?_
    refine TC.region ?_
    refine TL.run 1 [] [(0, .slice A_feeds feeds.length c_feeds), (4, .slice none 0 0)] rfl ⟨by kernel_rfl, by kernel_rfl⟩ ?_
    refine TL.next rfl ?_
    refine TC.seq ?_
    refine TC.seq ?_
    refine TC.region ?_
    refine TL.run 3 [] [(4, .slice none 0 0), (13, .slice A_feeds feeds.length c_feeds), (14, .int .i64 (feeds.length : Int)), (15, .int .i64 0)] rfl ⟨by kernel_rfl, by kernel_rfl⟩ ?_
    refine TL.next rfl ?_
    refine TC.conv [.inr (Own none 0 58 6 (([] : List Plot).map Plot.c))] (fun _ hM => hM.emptyrow none 58 6) ?_
    refine TC.weak [(4, .slice none (([] : List Plot).length) 0), (13, .slice A_feeds feeds.length c_feeds), (14, .int .i64 (feeds.length : Int)), (15, .int .i64 0)] (by kernel_rfl) ?_
    obtain ⟨R3, hR⟩ : ∃ R, R = mosaic_Merge_L1 feeds 0 ([] : List Plot) := ⟨_, rfl⟩
    refine TC.cut (S := (List Plot) × (Option Addr) × Nat) (fun (out_2, A_out_2, c_out_2) => [(4, .slice A_out_2 out_2.length c_out_2)]) (fun (out_2, A_out_2, c_out_2) => [.inr (Own A_out_2 c_out_2 58 6 (out_2.map Plot.c))]) (fun (out_2, A_out_2, c_out_2) => R3 = .inl out_2 ∧ out_2.length ≤ 256 * feeds.length) ?_ ?_
    · refine TC.block ?_
      refine TC.loop (X := Nat × (List Plot) × (Option Addr) × Nat) (fun (k, out, A_out, c_out) => [(4, .slice A_out out.length c_out), (13, .slice A_feeds feeds.length c_feeds), (14, .int .i64 (feeds.length : Int)), (15, .int .i64 (k : Int))]) (fun (k, out, A_out, c_out) => [.inr (Own A_out c_out 58 6 (out.map Plot.c))]) (fun (k, out, A_out, c_out) => feeds.length - k) (fun (k, out, A_out, c_out) => k ≤ feeds.length ∧ R3 = mosaic_Merge_L1 (feeds.drop k) k out ∧ out.length ≤ 256 * k) ?_ (0, ([] : List Plot), none, 0) ⟨Nat.zero_le _, hR, (by first | omega | (simp; omega) | simp)⟩
      rintro ⟨k, out, A_out, c_out⟩ ⟨hk, hI, hl_out⟩
      refine TC.seq ?_
      refine TC.region ?_
      refine TL.run 1 [] [(4, .slice A_out out.length c_out), (13, .slice A_feeds feeds.length c_feeds), (14, .int .i64 (feeds.length : Int)), (15, .int .i64 (k : Int)), (16, .bool (decide ((k : Int) < (feeds.length : Int))))] rfl ⟨by kernel_rfl, by kernel_rfl⟩ ?_
      refine TL.next rfl ?_
      refine TC.seq ?_
      refine TC.cond (decide ((k : Int) < (feeds.length : Int))) rfl (by kernel_rfl) (fun h2 => ?_) (fun h2 => ?_)
      · have hlt : k < feeds.length := by have := of_decide_eq_true h2; first | omega | (simp at this; omega)
        obtain ⟨x, hx⟩ : ∃ e_, feeds[k]? = some e_ := ⟨_, List.getElem?_eq_getElem hlt⟩
        have hd := drop_at hx
        refine TC.skip ?_
        refine TE.next ?_
        refine TC.seq ?_
        refine TC.block ?_
        refine TC.seq ?_
        refine TC.region ?_
        refine TL.val (sV (Instr.indexAt 65 (.slice A_feeds feeds.length c_feeds) (.int .i64 (k : Int)))) (some 17) (.pointer (some ((A_feeds.getD noAddr).add (k * 1)))) [(4, .slice A_out out.length c_out), (13, .slice A_feeds feeds.length c_feeds), (14, .int .i64 (feeds.length : Int)), (15, .int .i64 (k : Int)), (17, .pointer (some ((A_feeds.getD noAddr).add (k * 1))))] (fun w hM => run_index (h_feeds.sat hM) (sl_len he_feeds) (by kernel_rfl) (by have q0_ := (dec_f h1); first | omega | (rw [List.length_set]; omega) | (rw [w64_id (by omega)]; omega) | (dsimp only; omega) | (rw [List.length_drop]; omega) | (simp only [w64_eq]; omega) | (simp only [List.length_take] at *; omega) | (simp <;> omega)) (by have q0_ := (dec_f h1); first | omega | (rw [List.length_set]; omega) | (rw [w64_id (by omega)]; omega) | (dsimp only; omega) | (rw [List.length_drop]; omega) | (simp only [w64_eq]; omega) | (simp only [List.length_take] at *; omega) | (simp <;> omega))) (by kernel_rfl) (by kernel_rfl) ?_
        have s_s1 := (el_rd (sl_all hd_feeds k) (sl_at he_feeds hx)).short; rw [List.length_map] at s_s1
        refine TL.val (sV (Instr.loadAt 41 (.pointer (some ((A_feeds.getD noAddr).add (k * 1)))))) (some 18) (.slice ((o_feeds[k]?.getD Sl.zero).A) x.length ((o_feeds[k]?.getD Sl.zero).cap)) [(4, .slice A_out out.length c_out), (13, .slice A_feeds feeds.length c_feeds), (14, .int .i64 (feeds.length : Int)), (15, .int .i64 (k : Int)), (18, .slice ((o_feeds[k]?.getD Sl.zero).A) x.length ((o_feeds[k]?.getD Sl.zero).cap))] (fun w hM => (by have h := run_load_one (P := Try.prog) (T := 41) (off := 0) (i := k) (.slice (o_feeds[k]?.getD Sl.zero).A (o_feeds[k]?.getD Sl.zero).l.length (o_feeds[k]?.getD Sl.zero).cap) (h_feeds.sat hM) (map_at (getD_at _ _ Sl.zero (sl_lt he_feeds (List.getElem?_eq_some_iff.1 hx).1))) (by kernel_rfl) (by kernel_rfl); rw [(sl_at he_feeds hx)] at h; exact h)) (by kernel_rfl) (by kernel_rfl) ?_
        refine TL.run 3 [] [(4, .slice A_out out.length c_out), (6, .slice ((o_feeds[k]?.getD Sl.zero).A) x.length ((o_feeds[k]?.getD Sl.zero).cap)), (13, .slice A_feeds feeds.length c_feeds), (14, .int .i64 (feeds.length : Int)), (15, .int .i64 (k : Int))] rfl ⟨by kernel_rfl, by kernel_rfl⟩ ?_
        refine TL.next rfl ?_
        refine TC.seq ?_
        refine TC.seq ?_
        refine TC.region ?_
        refine TL.run 3 [] [(4, .slice A_out out.length c_out), (6, .slice ((o_feeds[k]?.getD Sl.zero).A) x.length ((o_feeds[k]?.getD Sl.zero).cap)), (13, .slice A_feeds feeds.length c_feeds), (14, .int .i64 (feeds.length : Int)), (15, .int .i64 (k : Int)), (21, .bool (decide ((x.length : Int) > 256)))] rfl ⟨by kernel_rfl, by kernel_rfl⟩ ?_
        refine TL.next rfl ?_
        refine TC.cond (decide ((x.length : Int) > 256)) rfl (by kernel_rfl) (fun h3 => ?_) (fun h3 => ?_)
        · refine TC.seq ?_
          refine TC.region ?_
          refine TL.run 2 [] [(2, .slice none 0 0), (3, .int .i64 2)] rfl ⟨by kernel_rfl, by kernel_rfl⟩ ?_
          refine TL.next rfl ?_
          refine TC.ret ?_
          refine TE.ret_then (TE.ret_block (TE.ret_then (TE.ret_then (TE.ret_block (TE.ret_then (TE.ret_then ?_))))))
          have e : mosaic_Merge feeds = ([], 2) := by unfold mosaic_Merge; exact cond_f h1 (elim_r (hR.symm.trans (hI.trans (by rw [hd]; exact cond_t h3 (rfl)))) rfl)
          refine TE.conv [.inr (Own none 0 58 6 (([] : List Plot).map Plot.c)), .inr (Own A_out c_out 58 6 (out.map Plot.c))] (fun _ hM => hM.emptyrow none 58 6) ?_
          rw [e]
          exact TE.retM (.inl rfl) (none, 0) [] (.tuple #[.slice none 0 0, .int .i64 2]) ⟨by kernel_rfl, by kernel_rfl⟩ rfl (fun _ hM => hM.sub (.cons_cons _ (.cons _ (.slnil))))
        · refine TC.skip ?_
          refine TE.next ?_
          refine TC.seq ?_
          refine TC.seq ?_
          refine TC.region ?_
          refine TL.run 3 [] [(4, .slice A_out out.length c_out), (6, .slice ((o_feeds[k]?.getD Sl.zero).A) x.length ((o_feeds[k]?.getD Sl.zero).cap)), (13, .slice A_feeds feeds.length c_feeds), (14, .int .i64 (feeds.length : Int)), (15, .int .i64 (k : Int)), (22, .slice ((o_feeds[k]?.getD Sl.zero).A) x.length ((o_feeds[k]?.getD Sl.zero).cap)), (23, .int .i64 (x.length : Int)), (24, .int .i64 0)] rfl ⟨by kernel_rfl, by kernel_rfl⟩ ?_
          refine TL.next rfl ?_
          refine TC.weak [(4, .slice A_out out.length c_out), (6, .slice ((o_feeds[k]?.getD Sl.zero).A) x.length ((o_feeds[k]?.getD Sl.zero).cap)), (13, .slice A_feeds feeds.length c_feeds), (14, .int .i64 (feeds.length : Int)), (15, .int .i64 (k : Int)), (22, .slice ((o_feeds[k]?.getD Sl.zero).A) x.length ((o_feeds[k]?.getD Sl.zero).cap)), (23, .int .i64 (x.length : Int)), (24, .int .i64 0)] (by kernel_rfl) ?_
          obtain ⟨R5, hR_2⟩ : ∃ R, R = mosaic_Merge_L2 x x 0 := ⟨_, rfl⟩
          refine TC.cut (S := Unit) (fun (_ : Unit) => [(4, .slice A_out out.length c_out), (6, .slice ((o_feeds[k]?.getD Sl.zero).A) x.length ((o_feeds[k]?.getD Sl.zero).cap)), (13, .slice A_feeds feeds.length c_feeds), (14, .int .i64 (feeds.length : Int)), (15, .int .i64 (k : Int))]) (fun (_ : Unit) => [.inr (Own A_out c_out 58 6 (out.map Plot.c))]) (fun (_ : Unit) => R5 = .inl ()) ?_ ?_
          · refine TC.block ?_
            refine TC.loop (X := Nat) (fun k_2 => [(4, .slice A_out out.length c_out), (6, .slice ((o_feeds[k]?.getD Sl.zero).A) x.length ((o_feeds[k]?.getD Sl.zero).cap)), (13, .slice A_feeds feeds.length c_feeds), (14, .int .i64 (feeds.length : Int)), (15, .int .i64 (k : Int)), (22, .slice ((o_feeds[k]?.getD Sl.zero).A) x.length ((o_feeds[k]?.getD Sl.zero).cap)), (23, .int .i64 (x.length : Int)), (24, .int .i64 (k_2 : Int))]) (fun k_2 => [.inr (Own A_out c_out 58 6 (out.map Plot.c))]) (fun k_2 => x.length - k_2) (fun k_2 => k_2 ≤ x.length ∧ R5 = mosaic_Merge_L2 x (x.drop k_2) k_2) ?_ 0 ⟨Nat.zero_le _, hR_2⟩
            rintro k_2 ⟨hk_2, hI_2⟩
            refine TC.seq ?_
            refine TC.region ?_
            refine TL.run 1 [] [(4, .slice A_out out.length c_out), (6, .slice ((o_feeds[k]?.getD Sl.zero).A) x.length ((o_feeds[k]?.getD Sl.zero).cap)), (13, .slice A_feeds feeds.length c_feeds), (14, .int .i64 (feeds.length : Int)), (15, .int .i64 (k : Int)), (22, .slice ((o_feeds[k]?.getD Sl.zero).A) x.length ((o_feeds[k]?.getD Sl.zero).cap)), (23, .int .i64 (x.length : Int)), (24, .int .i64 (k_2 : Int)), (25, .bool (decide ((k_2 : Int) < (x.length : Int))))] rfl ⟨by kernel_rfl, by kernel_rfl⟩ ?_
            refine TL.next rfl ?_
            refine TC.seq ?_
            refine TC.cond (decide ((k_2 : Int) < (x.length : Int))) rfl (by kernel_rfl) (fun h4 => ?_) (fun h4 => ?_)
            · have hlt_2 : k_2 < x.length := by have := of_decide_eq_true h4; first | omega | (simp at this; omega)
              obtain ⟨x_2, hx_2⟩ : ∃ e_, x[k_2]? = some e_ := ⟨_, List.getElem?_eq_getElem hlt_2⟩
              have hd_2 := drop_at hx_2
              refine TC.skip ?_
              refine TE.next ?_
              refine TC.seq ?_
              refine TC.block ?_
              refine TC.seq ?_
              refine TC.region ?_
              refine TL.run 1 [] [(4, .slice A_out out.length c_out), (6, .slice ((o_feeds[k]?.getD Sl.zero).A) x.length ((o_feeds[k]?.getD Sl.zero).cap)), (13, .slice A_feeds feeds.length c_feeds), (14, .int .i64 (feeds.length : Int)), (15, .int .i64 (k : Int)), (22, .slice ((o_feeds[k]?.getD Sl.zero).A) x.length ((o_feeds[k]?.getD Sl.zero).cap)), (23, .int .i64 (x.length : Int)), (24, .int .i64 (k_2 : Int)), (26, .int .i64 (k_2 : Int))] rfl ⟨by kernel_rfl, by kernel_rfl⟩ ?_
              refine TL.val (sV (Instr.indexAt 41 (.slice ((o_feeds[k]?.getD Sl.zero).A) x.length ((o_feeds[k]?.getD Sl.zero).cap)) (.int .i64 (k_2 : Int)))) (some 27) (.pointer (some ((((o_feeds[k]?.getD Sl.zero).A).getD noAddr).add (k_2 * 6)))) [(4, .slice A_out out.length c_out), (6, .slice ((o_feeds[k]?.getD Sl.zero).A) x.length ((o_feeds[k]?.getD Sl.zero).cap)), (13, .slice A_feeds feeds.length c_feeds), (14, .int .i64 (feeds.length : Int)), (15, .int .i64 (k : Int)), (22, .slice ((o_feeds[k]?.getD Sl.zero).A) x.length ((o_feeds[k]?.getD Sl.zero).cap)), (23, .int .i64 (x.length : Int)), (24, .int .i64 (k_2 : Int)), (26, .int .i64 (k_2 : Int)), (27, .pointer (some ((((o_feeds[k]?.getD Sl.zero).A).getD noAddr).add (k_2 * 6))))] (fun w hM => run_index (el_rd ((sl_all hd_feeds k).sat hM) (sl_at he_feeds hx)) (by simp) (by kernel_rfl) (by have q0_ := (dec_f h1); have q1_ := (dec_f h3); first | omega | (rw [List.length_set]; omega) | (rw [w64_id (by omega)]; omega) | (dsimp only; omega) | (rw [List.length_drop]; omega) | (simp only [w64_eq]; omega) | (simp only [List.length_take] at *; omega) | (simp <;> omega)) (by have q0_ := (dec_f h1); have q1_ := (dec_f h3); first | omega | (rw [List.length_set]; omega) | (rw [w64_id (by omega)]; omega) | (dsimp only; omega) | (rw [List.length_drop]; omega) | (simp only [w64_eq]; omega) | (simp only [List.length_take] at *; omega) | (simp <;> omega))) (by kernel_rfl) (by kernel_rfl) ?_
              refine TL.val (sV (Instr.loadAt 58 (.pointer (some ((((o_feeds[k]?.getD Sl.zero).A).getD noAddr).add (k_2 * 6)))))) (some 28) (Plot.v x_2) [(4, .slice A_out out.length c_out), (6, .slice ((o_feeds[k]?.getD Sl.zero).A) x.length ((o_feeds[k]?.getD Sl.zero).cap)), (13, .slice A_feeds feeds.length c_feeds), (14, .int .i64 (feeds.length : Int)), (15, .int .i64 (k : Int)), (22, .slice ((o_feeds[k]?.getD Sl.zero).A) x.length ((o_feeds[k]?.getD Sl.zero).cap)), (23, .int .i64 (x.length : Int)), (24, .int .i64 (k_2 : Int)), (26, .int .i64 (k_2 : Int)), (28, Plot.v x_2)] (fun w hM => run_load_agg (n := 6) (off := 0) (i := k_2) (Plot.v x_2) (el_rd ((sl_all hd_feeds k).sat hM) (sl_at he_feeds hx)) (map_at hx_2) (by kernel_rfl) (by kernel_rfl) (by kernel_rfl)) (by kernel_rfl) (by kernel_rfl) ?_
              refine TL.write 0 (fun b1 => [(4, .slice A_out out.length c_out), (6, .slice ((o_feeds[k]?.getD Sl.zero).A) x.length ((o_feeds[k]?.getD Sl.zero).cap)), (8, .pointer (some ⟨b1, 0, none⟩)), (13, .slice A_feeds feeds.length c_feeds), (14, .int .i64 (feeds.length : Int)), (15, .int .i64 (k : Int)), (22, .slice ((o_feeds[k]?.getD Sl.zero).A) x.length ((o_feeds[k]?.getD Sl.zero).cap)), (23, .int .i64 (x.length : Int)), (24, .int .i64 (k_2 : Int)), (26, .int .i64 (k_2 : Int)), (28, Plot.v x_2)]) (fun b1 => [.inl (b1, .cells (Plot.c Plot.zero) 58 (0, 0)), .inr (Own A_out c_out 58 6 (out.map Plot.c))]) (fun b1 => ⟨by kernel_rfl, by kernel_rfl⟩) (fun b1 => ?_)
              refine TL.run 5 [] [(4, .slice A_out out.length c_out), (6, .slice ((o_feeds[k]?.getD Sl.zero).A) x.length ((o_feeds[k]?.getD Sl.zero).cap)), (7, .int .i64 (k_2 : Int)), (8, .pointer (some ⟨b1, 0, none⟩)), (13, .slice A_feeds feeds.length c_feeds), (14, .int .i64 (feeds.length : Int)), (15, .int .i64 (k : Int)), (22, .slice ((o_feeds[k]?.getD Sl.zero).A) x.length ((o_feeds[k]?.getD Sl.zero).cap)), (23, .int .i64 (x.length : Int)), (24, .int .i64 (k_2 : Int)), (28, Plot.v x_2)] rfl ⟨by kernel_rfl, by kernel_rfl⟩ ?_
              refine TL.write 0 (fun _ => [(4, .slice A_out out.length c_out), (6, .slice ((o_feeds[k]?.getD Sl.zero).A) x.length ((o_feeds[k]?.getD Sl.zero).cap)), (7, .int .i64 (k_2 : Int)), (8, .pointer (some ⟨b1, 0, none⟩)), (13, .slice A_feeds feeds.length c_feeds), (14, .int .i64 (feeds.length : Int)), (15, .int .i64 (k : Int)), (22, .slice ((o_feeds[k]?.getD Sl.zero).A) x.length ((o_feeds[k]?.getD Sl.zero).cap)), (23, .int .i64 (x.length : Int)), (24, .int .i64 (k_2 : Int))]) (fun _ => [.inl (b1, .cells (Plot.c x_2) 58 (0, 0)), .inr (Own A_out c_out 58 6 (out.map Plot.c))]) (fun _ => ⟨by kernel_rfl, by kernel_rfl⟩) (fun _ => ?_)
              refine TL.next rfl ?_
              refine TC.seq ?_
              refine TC.seq ?_
              refine TC.region ?_
              refine TL.run 1 [0] [(4, .slice A_out out.length c_out), (6, .slice ((o_feeds[k]?.getD Sl.zero).A) x.length ((o_feeds[k]?.getD Sl.zero).cap)), (7, .int .i64 (k_2 : Int)), (8, .pointer (some ⟨b1, 0, none⟩)), (13, .slice A_feeds feeds.length c_feeds), (14, .int .i64 (feeds.length : Int)), (15, .int .i64 (k : Int)), (22, .slice ((o_feeds[k]?.getD Sl.zero).A) x.length ((o_feeds[k]?.getD Sl.zero).cap)), (23, .int .i64 (x.length : Int)), (24, .int .i64 (k_2 : Int)), (29, Plot.v x_2)] rfl ⟨by kernel_rfl, by kernel_rfl⟩ ?_
              refine TL.call (some 30) [(4, .slice A_out out.length c_out), (6, .slice ((o_feeds[k]?.getD Sl.zero).A) x.length ((o_feeds[k]?.getD Sl.zero).cap)), (7, .int .i64 (k_2 : Int)), (8, .pointer (some ⟨b1, 0, none⟩)), (13, .slice A_feeds feeds.length c_feeds), (14, .int .i64 (feeds.length : Int)), (15, .int .i64 (k : Int)), (22, .slice ((o_feeds[k]?.getD Sl.zero).A) x.length ((o_feeds[k]?.getD Sl.zero).cap)), (23, .int .i64 (x.length : Int)), (24, .int .i64 (k_2 : Int)), (30, .int .i64 (radar_CheckPlot x_2))] (fun w _ => radar_CheckPlot_w x_2 w) (by kernel_rfl) (by kernel_rfl) ?_
              generalize hr1 : radar_CheckPlot x_2 = r1
              refine TL.run 3 [] [(4, .slice A_out out.length c_out), (6, .slice ((o_feeds[k]?.getD Sl.zero).A) x.length ((o_feeds[k]?.getD Sl.zero).cap)), (7, .int .i64 (k_2 : Int)), (8, .pointer (some ⟨b1, 0, none⟩)), (9, .int .i64 r1), (13, .slice A_feeds feeds.length c_feeds), (14, .int .i64 (feeds.length : Int)), (15, .int .i64 (k : Int)), (22, .slice ((o_feeds[k]?.getD Sl.zero).A) x.length ((o_feeds[k]?.getD Sl.zero).cap)), (23, .int .i64 (x.length : Int)), (24, .int .i64 (k_2 : Int))] rfl ⟨by kernel_rfl, by kernel_rfl⟩ ?_
              refine TL.next rfl ?_
              refine TC.seq ?_
              refine TC.region ?_
              refine TL.run 2 [] [(4, .slice A_out out.length c_out), (6, .slice ((o_feeds[k]?.getD Sl.zero).A) x.length ((o_feeds[k]?.getD Sl.zero).cap)), (7, .int .i64 (k_2 : Int)), (8, .pointer (some ⟨b1, 0, none⟩)), (9, .int .i64 r1), (13, .slice A_feeds feeds.length c_feeds), (14, .int .i64 (feeds.length : Int)), (15, .int .i64 (k : Int)), (22, .slice ((o_feeds[k]?.getD Sl.zero).A) x.length ((o_feeds[k]?.getD Sl.zero).cap)), (23, .int .i64 (x.length : Int)), (24, .int .i64 (k_2 : Int)), (32, .bool (r1 != 0))] rfl ⟨by kernel_rfl, by kernel_rfl⟩ ?_
              refine TL.next rfl ?_
              refine TC.cond (r1 != 0) rfl (by kernel_rfl) (fun h5 => ?_) (fun h5 => ?_)
              · refine TC.seq ?_
                refine TC.region ?_
                refine TL.run 3 [] [(2, .slice none 0 0), (3, .int .i64 r1)] rfl ⟨by kernel_rfl, by kernel_rfl⟩ ?_
                refine TL.next rfl ?_
                refine TC.ret ?_
                refine TE.ret_then (TE.ret_block (TE.ret_then (TE.ret_then (TE.ret_block (TE.ret_then (TE.ret_then (TE.ret_block (TE.ret_then (TE.ret_then (TE.ret_block (TE.ret_then (TE.ret_then ?_))))))))))))
                have e : mosaic_Merge feeds = ([], r1) := by subst hr1; unfold mosaic_Merge; exact cond_f h1 (elim_r (hR.symm.trans (hI.trans (by rw [hd]; exact cond_f h3 (elim_r (hR_2.symm.trans (hI_2.trans (by rw [hd_2]; exact cond_t h5 (rfl)))) rfl)))) rfl)
                refine TE.conv [.inr (Own none 0 58 6 (([] : List Plot).map Plot.c)), .inl (b1, .cells (Plot.c x_2) 58 (0, 0)), .inr (Own A_out c_out 58 6 (out.map Plot.c))] (fun _ hM => hM.emptyrow none 58 6) ?_
                rw [e]
                exact TE.retM (.inl rfl) (none, 0) [] (.tuple #[.slice none 0 0, .int .i64 r1]) ⟨by kernel_rfl, by kernel_rfl⟩ rfl (fun _ hM => hM.sub (.cons_cons _ (.cons _ (.cons _ (.slnil)))))
              · refine TC.skip ?_
                refine TE.next ?_
                refine TC.seq ?_
                refine TC.draw 13 (by kernel_rfl) (by kernel_rfl) (by kernel_rfl) ?_
                refine TQ.run 3 [] [(4, .slice A_out out.length c_out), (6, .slice ((o_feeds[k]?.getD Sl.zero).A) x.length ((o_feeds[k]?.getD Sl.zero).cap)), (7, .int .i64 (k_2 : Int)), (8, .pointer (some ⟨b1, 0, none⟩)), (13, .slice A_feeds feeds.length c_feeds), (14, .int .i64 (feeds.length : Int)), (15, .int .i64 (k : Int)), (22, .slice ((o_feeds[k]?.getD Sl.zero).A) x.length ((o_feeds[k]?.getD Sl.zero).cap)), (23, .int .i64 (x.length : Int)), (24, .int .i64 (k_2 : Int)), (36, .bool (decide ((k_2 : Int) > 0)))] rfl ⟨by kernel_rfl, by kernel_rfl⟩ ?_
                refine TQ.split 36 (decide ((k_2 : Int) > 0)) (by kernel_rfl) (fun h6 => ?_) (fun h6 => ?_)
                · refine TQ.run 8 [0] [(4, .slice A_out out.length c_out), (6, .slice ((o_feeds[k]?.getD Sl.zero).A) x.length ((o_feeds[k]?.getD Sl.zero).cap)), (13, .slice A_feeds feeds.length c_feeds), (14, .int .i64 (feeds.length : Int)), (15, .int .i64 (k : Int)), (22, .slice ((o_feeds[k]?.getD Sl.zero).A) x.length ((o_feeds[k]?.getD Sl.zero).cap)), (23, .int .i64 (x.length : Int)), (24, .int .i64 (k_2 : Int)), (36, .bool true), (38, .int .i64 x_2.Time), (39, .slice ((o_feeds[k]?.getD Sl.zero).A) x.length ((o_feeds[k]?.getD Sl.zero).cap)), (41, .int .i64 (w64 ((k_2 : Int) - 1)))] rfl ⟨by kernel_rfl, by kernel_rfl⟩ ?_
                  refine TQ.rw 41 (.int .i64 (w64 ((k_2 : Int) - 1))) (.int .i64 ((k_2 - 1 : Nat) : Int)) (by kernel_rfl) (w64_pred k_2 (by have q0_ := (dec_f h1); have q1_ := (dec_f h3); have q2_ := (bne_f h5); have q3_ := (dec_t h6); first | omega | (rw [List.length_set]; omega) | (rw [w64_id (by omega)]; omega) | (dsimp only; omega) | (rw [List.length_drop]; omega) | (simp only [w64_eq]; omega) | (simp only [List.length_take] at *; omega) | (simp <;> omega))) ?_
                  refine TQ.val (sV (Instr.indexAt 41 (.slice ((o_feeds[k]?.getD Sl.zero).A) x.length ((o_feeds[k]?.getD Sl.zero).cap)) (.int .i64 ((k_2 - 1 : Nat) : Int)))) (some 42) (.pointer (some ((((o_feeds[k]?.getD Sl.zero).A).getD noAddr).add ((k_2 - 1) * 6)))) [(4, .slice A_out out.length c_out), (6, .slice ((o_feeds[k]?.getD Sl.zero).A) x.length ((o_feeds[k]?.getD Sl.zero).cap)), (13, .slice A_feeds feeds.length c_feeds), (14, .int .i64 (feeds.length : Int)), (15, .int .i64 (k : Int)), (22, .slice ((o_feeds[k]?.getD Sl.zero).A) x.length ((o_feeds[k]?.getD Sl.zero).cap)), (23, .int .i64 (x.length : Int)), (24, .int .i64 (k_2 : Int)), (36, .bool true), (38, .int .i64 x_2.Time), (42, .pointer (some ((((o_feeds[k]?.getD Sl.zero).A).getD noAddr).add ((k_2 - 1) * 6))))] (fun w hM => run_index (el_rd ((sl_all hd_feeds k).sat hM) (sl_at he_feeds hx)) (by simp) (by kernel_rfl) (by have q0_ := (dec_f h1); have q1_ := (dec_f h3); have q2_ := (bne_f h5); have q3_ := (dec_t h6); first | omega | (rw [List.length_set]; omega) | (rw [w64_id (by omega)]; omega) | (dsimp only; omega) | (rw [List.length_drop]; omega) | (simp only [w64_eq]; omega) | (simp only [List.length_take] at *; omega) | (simp <;> omega)) (by have q0_ := (dec_f h1); have q1_ := (dec_f h3); have q2_ := (bne_f h5); have q3_ := (dec_t h6); first | omega | (rw [List.length_set]; omega) | (rw [w64_id (by omega)]; omega) | (dsimp only; omega) | (rw [List.length_drop]; omega) | (simp only [w64_eq]; omega) | (simp only [List.length_take] at *; omega) | (simp <;> omega))) rfl (by kernel_rfl) (by kernel_rfl) ?_
                  refine TQ.run 10 [] [(4, .slice A_out out.length c_out), (6, .slice ((o_feeds[k]?.getD Sl.zero).A) x.length ((o_feeds[k]?.getD Sl.zero).cap)), (13, .slice A_feeds feeds.length c_feeds), (14, .int .i64 (feeds.length : Int)), (15, .int .i64 (k : Int)), (22, .slice ((o_feeds[k]?.getD Sl.zero).A) x.length ((o_feeds[k]?.getD Sl.zero).cap)), (23, .int .i64 (x.length : Int)), (24, .int .i64 (k_2 : Int)), (36, .bool true), (38, .int .i64 x_2.Time), (43, .pointer (some (((((o_feeds[k]?.getD Sl.zero).A).getD noAddr).add ((k_2 - 1) * 6)).add 1)))] rfl ⟨by kernel_rfl, by kernel_rfl⟩ ?_
                  refine TQ.val (sV (Instr.loadAt 3 (.pointer (some (((((o_feeds[k]?.getD Sl.zero).A).getD noAddr).add ((k_2 - 1) * 6)).add 1))))) (some 44) (.int .i64 ((x[(k_2 - 1)]?.getD Plot.zero).Time)) [(4, .slice A_out out.length c_out), (6, .slice ((o_feeds[k]?.getD Sl.zero).A) x.length ((o_feeds[k]?.getD Sl.zero).cap)), (13, .slice A_feeds feeds.length c_feeds), (14, .int .i64 (feeds.length : Int)), (15, .int .i64 (k : Int)), (22, .slice ((o_feeds[k]?.getD Sl.zero).A) x.length ((o_feeds[k]?.getD Sl.zero).cap)), (23, .int .i64 (x.length : Int)), (24, .int .i64 (k_2 : Int)), (36, .bool true), (38, .int .i64 x_2.Time), (44, .int .i64 ((x[(k_2 - 1)]?.getD Plot.zero).Time))] (fun w hM => run_load_one (off := 1) (i := (k_2 - 1)) (.int .i64 ((x[(k_2 - 1)]?.getD Plot.zero).Time)) (el_rd ((sl_all hd_feeds k).sat hM) (sl_at he_feeds hx)) (map_at (getD_at _ _ Plot.zero (by have q0_ := (dec_f h1); have q1_ := (dec_f h3); have q2_ := (bne_f h5); have q3_ := (dec_t h6); first | omega | (rw [List.length_set]; omega) | (rw [w64_id (by omega)]; omega) | (dsimp only; omega) | (rw [List.length_drop]; omega) | (simp only [w64_eq]; omega) | (simp only [List.length_take] at *; omega) | (simp <;> omega)))) (by kernel_rfl) (by kernel_rfl)) rfl (by kernel_rfl) (by kernel_rfl) ?_
                  refine TQ.run 13 [] [(4, .slice A_out out.length c_out), (6, .slice ((o_feeds[k]?.getD Sl.zero).A) x.length ((o_feeds[k]?.getD Sl.zero).cap)), (13, .slice A_feeds feeds.length c_feeds), (14, .int .i64 (feeds.length : Int)), (15, .int .i64 (k : Int)), (22, .slice ((o_feeds[k]?.getD Sl.zero).A) x.length ((o_feeds[k]?.getD Sl.zero).cap)), (23, .int .i64 (x.length : Int)), (24, .int .i64 (k_2 : Int)), (46, .bool (decide (x_2.Time < ((x[(k_2 - 1)]?.getD Plot.zero).Time))))] rfl ⟨by kernel_rfl, by kernel_rfl⟩ ?_
                  refine TQ.next rfl ?_
                  refine TC.cond (decide (x_2.Time < ((x[(k_2 - 1)]?.getD Plot.zero).Time))) rfl (by kernel_rfl) (fun h7 => ?_) (fun h7 => ?_)
                  · refine TC.seq ?_
                    refine TC.region ?_
                    refine TL.run 2 [] [(2, .slice none 0 0), (3, .int .i64 12)] rfl ⟨by kernel_rfl, by kernel_rfl⟩ ?_
                    refine TL.next rfl ?_
                    refine TC.ret ?_
                    refine TE.ret_block (TE.ret_then (TE.ret_then (TE.ret_block (TE.ret_then (TE.ret_then (TE.ret_block (TE.ret_then (TE.ret_then (TE.ret_block (TE.ret_then (TE.ret_then ?_)))))))))))
                    have e : mosaic_Merge feeds = ([], 12) := by subst hr1; unfold mosaic_Merge; exact cond_f h1 (elim_r (hR.symm.trans (hI.trans (by rw [hd]; exact cond_f h3 (elim_r (hR_2.symm.trans (hI_2.trans (by rw [hd_2]; exact cond_f h5 (cond_t h6 (cond_t h7 (rfl)))))) rfl)))) rfl)
                    refine TE.conv [.inr (Own none 0 58 6 (([] : List Plot).map Plot.c)), .inl (b1, .cells (Plot.c x_2) 58 (0, 0)), .inr (Own A_out c_out 58 6 (out.map Plot.c))] (fun _ hM => hM.emptyrow none 58 6) ?_
                    rw [e]
                    exact TE.retM (.inl rfl) (none, 0) [] (.tuple #[.slice none 0 0, .int .i64 12]) ⟨by kernel_rfl, by kernel_rfl⟩ rfl (fun _ hM => hM.sub (.cons_cons _ (.cons _ (.cons _ (.slnil)))))
                  · refine TC.skip ?_
                    refine TE.normal_block ?_
                    refine TE.next ?_
                    refine TC.region ?_
                    refine TL.run 2 [] [(4, .slice A_out out.length c_out), (6, .slice ((o_feeds[k]?.getD Sl.zero).A) x.length ((o_feeds[k]?.getD Sl.zero).cap)), (13, .slice A_feeds feeds.length c_feeds), (14, .int .i64 (feeds.length : Int)), (15, .int .i64 (k : Int)), (22, .slice ((o_feeds[k]?.getD Sl.zero).A) x.length ((o_feeds[k]?.getD Sl.zero).cap)), (23, .int .i64 (x.length : Int)), (24, .int .i64 (w64 ((k_2 : Int) + 1)))] rfl ⟨by kernel_rfl, by kernel_rfl⟩ ?_
                    refine TL.done rfl ?_
                    refine TE.rw 24 (.int .i64 (w64 ((k_2 : Int) + 1))) (.int .i64 ((k_2 + 1 : Nat) : Int)) (by kernel_rfl) (w64_cast k_2 (by omega)) ?_
                    exact TE.again (x := k_2) (k_2 + 1) ⟨by omega, hI_2.trans (by subst hr1; rw [hd_2]; exact cond_f h5 (cond_t h6 (cond_f h7 (rfl))))⟩ (by show x.length - (k_2 + 1) < x.length - k_2; omega) (by kernel_rfl) (.cons _ (.cons_cons _ (.slnil)))
                · refine TQ.run 13 [] [(4, .slice A_out out.length c_out), (6, .slice ((o_feeds[k]?.getD Sl.zero).A) x.length ((o_feeds[k]?.getD Sl.zero).cap)), (13, .slice A_feeds feeds.length c_feeds), (14, .int .i64 (feeds.length : Int)), (15, .int .i64 (k : Int)), (22, .slice ((o_feeds[k]?.getD Sl.zero).A) x.length ((o_feeds[k]?.getD Sl.zero).cap)), (23, .int .i64 (x.length : Int)), (24, .int .i64 (k_2 : Int)), (46, .bool false)] rfl ⟨by kernel_rfl, by kernel_rfl⟩ ?_
                  refine TQ.next rfl ?_
                  refine TC.condF rfl (by kernel_rfl) ?_
                  refine TC.skip ?_
                  refine TE.normal_block ?_
                  refine TE.next ?_
                  refine TC.region ?_
                  refine TL.run 2 [] [(4, .slice A_out out.length c_out), (6, .slice ((o_feeds[k]?.getD Sl.zero).A) x.length ((o_feeds[k]?.getD Sl.zero).cap)), (13, .slice A_feeds feeds.length c_feeds), (14, .int .i64 (feeds.length : Int)), (15, .int .i64 (k : Int)), (22, .slice ((o_feeds[k]?.getD Sl.zero).A) x.length ((o_feeds[k]?.getD Sl.zero).cap)), (23, .int .i64 (x.length : Int)), (24, .int .i64 (w64 ((k_2 : Int) + 1)))] rfl ⟨by kernel_rfl, by kernel_rfl⟩ ?_
                  refine TL.done rfl ?_
                  refine TE.rw 24 (.int .i64 (w64 ((k_2 : Int) + 1))) (.int .i64 ((k_2 + 1 : Nat) : Int)) (by kernel_rfl) (w64_cast k_2 (by omega)) ?_
                  exact TE.again (x := k_2) (k_2 + 1) ⟨by omega, hI_2.trans (by subst hr1; rw [hd_2]; exact cond_f h5 (cond_f h6 (rfl)))⟩ (by show x.length - (k_2 + 1) < x.length - k_2; omega) (by kernel_rfl) (.cons _ (.cons_cons _ (.slnil)))
            · have hd_2 : x.drop k_2 = [] := List.drop_eq_nil_of_le (by have := of_decide_eq_false h4; first | omega | (simp at this; omega))
              refine TC.exit ?_
              refine TE.exit_then (TE.exit_then (TE.exit_same ?_))
              exact TE.cut () (hI_2.trans (by rw [hd_2]; exact rfl)) (by kernel_rfl) (.cons_cons _ (.slnil))
          · intro _ hJ_2
            refine TE.next ?_
            refine TC.region ?_
            refine TL.run 2 [] [(13, .slice A_feeds feeds.length c_feeds), (14, .int .i64 (feeds.length : Int)), (15, .int .i64 (k : Int)), (48, .slice A_out out.length c_out), (49, .slice ((o_feeds[k]?.getD Sl.zero).A) x.length ((o_feeds[k]?.getD Sl.zero).cap))] rfl ⟨by kernel_rfl, by kernel_rfl⟩ ?_
            refine TL.opM (Γ := Option Addr × Nat) (sV (Builtin.append_ #[41, 41] 41 #[.slice A_out out.length c_out, .slice ((o_feeds[k]?.getD Sl.zero).A) x.length ((o_feeds[k]?.getD Sl.zero).cap)])) (some 50) (fun g => .slice g.1 (out ++ x).length g.2) (fun g => [.inr (Own g.1 g.2 58 6 ((out ++ x).map Plot.c))]) (fun g => [(13, .slice A_feeds feeds.length c_feeds), (14, .int .i64 (feeds.length : Int)), (15, .int .i64 (k : Int)), (50, .slice g.1 ((out ++ x).length) g.2)]) (app_at (bytes := 48) 41 0 x (by kernel_rfl) rfl rfl Plot.one rfl (fun w hM => (el_rd ((sl_all hd_feeds k).sat hM) (sl_at he_feeds hx))) rfl (by have q0_ := (dec_f h1); have q1_ := (dec_f h3); first | omega | (simp <;> omega) | (simp at * <;> omega))) (by kernel_rfl) (fun g => by kernel_rfl) ?_
            rintro ⟨A, c⟩
            refine TL.run 4 [] [(4, .slice A ((out ++ x).length) c), (13, .slice A_feeds feeds.length c_feeds), (14, .int .i64 (feeds.length : Int)), (15, .int .i64 (k : Int))] rfl ⟨by kernel_rfl, by kernel_rfl⟩ ?_
            refine TL.done rfl ?_
            refine TE.normal_block ?_
            refine TE.next ?_
            refine TC.region ?_
            refine TL.run 2 [] [(4, .slice A ((out ++ x).length) c), (13, .slice A_feeds feeds.length c_feeds), (14, .int .i64 (feeds.length : Int)), (15, .int .i64 (w64 ((k : Int) + 1)))] rfl ⟨by kernel_rfl, by kernel_rfl⟩ ?_
            refine TL.done rfl ?_
            refine TE.rw 15 (.int .i64 (w64 ((k : Int) + 1))) (.int .i64 ((k + 1 : Nat) : Int)) (by kernel_rfl) (w64_cast k (by omega)) ?_
            exact TE.again (x := (k, out, A_out, c_out)) (k + 1, (out ++ x), A, c) ⟨by omega, hI.trans (by rw [hd]; exact cond_f h3 (elim_l (hR_2.symm.trans hJ_2) (rfl))), (by have q0_ := (dec_f h1); have q1_ := (dec_f h3); first | omega | (simp <;> omega) | (simp at * <;> omega) | (simp only [w64_eq] at *; omega) | (simp only [List.length_append, List.length_cons, List.length_nil]; omega))⟩ (by show feeds.length - (k + 1) < feeds.length - k; omega) (by kernel_rfl) (.cons_cons _ (.slnil))
      · have hd : feeds.drop k = [] := List.drop_eq_nil_of_le (by have := of_decide_eq_false h2; first | omega | (simp at this; omega))
        refine TC.exit ?_
        refine TE.exit_then (TE.exit_then (TE.exit_same ?_))
        exact TE.cut (out, A_out, c_out) (⟨hI.trans (by rw [hd]; exact rfl), (by have q0_ := (dec_f h1); first | omega | (simp <;> omega) | (simp at * <;> omega) | (simp only [w64_eq] at *; omega) | (simp only [List.length_append, List.length_cons, List.length_nil]; omega))⟩) (by kernel_rfl) (.cons_cons _ (.slnil))
    · rintro ⟨out_2, A_out_2, c_out_2⟩ ⟨hJ, hl_out_2⟩
      refine TE.next ?_
      refine TC.seq ?_
      refine TC.region ?_
      refine TL.run 1 [] [(4, .slice A_out_2 out_2.length c_out_2), (52, .slice A_out_2 out_2.length c_out_2)] rfl ⟨by kernel_rfl, by kernel_rfl⟩ ?_
      refine TL.callM (Γ := (List Plot)) (fun _ => .tuple #[]) (fun g => [.inr (Fact (g.length = out_2.length ∧ g.Perm out_2 ∧ Srt ltP Plot.zero 0 (g.length : Int) g)), .inr (Own A_out_2 c_out_2 58 6 (g.map Plot.c))]) [.inr (Own A_out_2 c_out_2 58 6 (out_2.map Plot.c))] [] (some 53) (fun _ => [(4, .slice A_out_2 out_2.length c_out_2)]) (fun w hM => sortP_w A_out_2 c_out_2 out_2 w hM.pass (by have q0_ := (dec_f h1); first | omega | (simp only [w64_eq]; omega) | (simp <;> omega))) (by kernel_rfl) (fun g => by kernel_rfl) ?_
      rintro r2
      refine TL.conv [.inr (Fact (r2.length = out_2.length ∧ r2.Perm out_2 ∧ Srt ltP Plot.zero 0 (r2.length : Int) r2)), .inr (Own A_out_2 c_out_2 58 6 (r2.map Plot.c))] (fun _ hM => hM) ?_
      refine TL.know (fun w hM => hM.fact_at 0 rfl) (fun hp_sortP => ?_)
      refine TL.forget [.inr (Own A_out_2 c_out_2 58 6 (r2.map Plot.c))] (.cons _ (List.Sublist.refl _)) ?_
      have hl_r2 : r2.length = out_2.length := hp_sortP.1
      refine TL.rw 4 (.slice A_out_2 out_2.length c_out_2) (.slice A_out_2 r2.length c_out_2) (by kernel_rfl) (by rw [hl_r2]) ?_
      have hr2 : isort ltP out_2 = r2 := (sort_one ordP (fun _ _ => triP) hp_sortP).symm
      refine TL.next rfl ?_
      refine TC.seq ?_
      refine TC.region ?_
      refine TL.run 1 [] [(54, .slice A_out_2 r2.length c_out_2)] rfl ⟨by kernel_rfl, by kernel_rfl⟩ ?_
      refine TL.callM (Γ := (List Plot)) (fun g => .slice A_out_2 g.length c_out_2) (fun g => [.inr (Fact (g = cpt Plot.eqb r2)), .inr (Own A_out_2 c_out_2 58 6 (g.map Plot.c))]) [.inr (Own A_out_2 c_out_2 58 6 (r2.map Plot.c))] [] (some 55) (fun g => [(55, .slice A_out_2 g.length c_out_2)]) (fun w hM => cmpct_w A_out_2 c_out_2 r2 w hM.pass) (by kernel_rfl) (fun g => by kernel_rfl) ?_
      rintro r3
      refine TL.conv [.inr (Fact (r3 = cpt Plot.eqb r2)), .inr (Own A_out_2 c_out_2 58 6 (r3.map Plot.c))] (fun _ hM => hM) ?_
      refine TL.know (fun w hM => hM.fact_at 0 rfl) (fun hp_cmpct => ?_)
      refine TL.forget [.inr (Own A_out_2 c_out_2 58 6 (r3.map Plot.c))] (.cons _ (List.Sublist.refl _)) ?_
      have hr3 : cpt Plot.eqb r2 = r3 := (hp_cmpct).symm
      refine TL.run 4 [] [(2, .slice A_out_2 r3.length c_out_2), (3, .int .i64 0)] rfl ⟨by kernel_rfl, by kernel_rfl⟩ ?_
      refine TL.next rfl ?_
      refine TC.ret ?_
      have e : mosaic_Merge feeds = (r3, 0) := by subst hr2 hr3; unfold mosaic_Merge; exact cond_f h1 (elim_l (hR.symm.trans hJ) (rfl))
      rw [e]
      exact TE.retM (.inl rfl) (A_out_2, c_out_2) [] (.tuple #[.slice A_out_2 r3.length c_out_2, .int .i64 0]) ⟨by kernel_rfl, by kernel_rfl⟩ rfl (fun _ hM => hM.sub (.cons_cons _ (.slnil)))

end Go.Sky
