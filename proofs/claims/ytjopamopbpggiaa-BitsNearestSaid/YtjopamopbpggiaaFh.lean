/- Functions of the program, each with the Lean function that it computes. Conditions: none. -/
import Derived.Test.YtjopamopbpggiaaFc
import Derived.Test.YtjopamopbpggiaaDblW
namespace Go.Sky
open Go Go.Eng Go.Proofs
set_option maxRecDepth 100000 in
theorem rdouble_w (n : Int) (scale : Int) (w : World) (hM : Sat ⟨w, feet []⟩ [] w) (hn : -9223372036854775808 ≤ n ∧ n ≤ 9223372036854775807) (hs : 0 ≤ scale ∧ scale ≤ 60) : Calls Try.prog 6 #[.int .i64 n, .int .i64 scale] w (RetM (Γ := Int) ⟨w, feet []⟩ (fun g => .int .u64 g) (fun g => [.inr (Fact (g = ((dblW n (scale : Int).toNat : Nat) : Int)))])) := by
  refine calls_introM (w0 := ⟨w, feet []⟩) (vs := [.int .i64 n, .int .i64 scale]) hM Try.func6 rfl Try.ntmps6 rfl ?_
  refine TC.weak [(0, .int .i64 n), (1, .int .i64 scale)] (by kernel_rfl) ?_
  refine TC.seq ?_
  refine TC.region ?_
  refine TL.run 1 [] [(0, .int .i64 n), (1, .int .i64 scale)] rfl ⟨by kernel_rfl, by kernel_rfl⟩ ?_
  refine TL.next rfl ?_
  refine TC.seq ?_
  refine TC.seq ?_
  refine TC.region ?_
  refine TL.run 2 [] [(0, .int .i64 n), (1, .int .i64 scale), (13, .bool (n == 0))] rfl ⟨by kernel_rfl, by kernel_rfl⟩ ?_
  refine TL.next rfl ?_
  refine TC.cond (n == 0) rfl (by kernel_rfl) (fun h1 => ?_) (fun h1 => ?_)
  · refine TC.seq ?_
    refine TC.region ?_
    refine TL.run 1 [] [(4, .int .u64 0)] rfl ⟨by kernel_rfl, by kernel_rfl⟩ ?_
    refine TL.next rfl ?_
    refine TC.ret ?_
    refine TE.ret_then ?_
    exact TE.retM (.inl rfl) 0 [] (.int .u64 0) ⟨by kernel_rfl, by kernel_rfl⟩ rfl (fun _ hM => (hM.sub (.slnil)).fact (by have q0_ := (beq_t h1); (try dsimp only); first | exact dw_zero (by omega) | exact dw_end hn hs hm1.2 hm3))
  · refine TC.skip ?_
    refine TE.next ?_
    refine TC.seq ?_
    refine TC.region ?_
    refine TL.run 1 [] [(0, .int .i64 n), (1, .int .i64 scale), (5, .int .u64 0)] rfl ⟨by kernel_rfl, by kernel_rfl⟩ ?_
    refine TL.next rfl ?_
    refine TC.seq ?_
    refine TC.region ?_
    refine TL.run 3 [] [(0, .int .i64 n), (1, .int .i64 scale), (5, .int .u64 0), (6, .int .u64 (wu64 n))] rfl ⟨by kernel_rfl, by kernel_rfl⟩ ?_
    refine TL.next rfl ?_
    refine TC.seq ?_
    refine TC.seq ?_
    refine TC.region ?_
    refine TL.run 2 [] [(1, .int .i64 scale), (5, .int .u64 0), (6, .int .u64 (wu64 n)), (17, .bool (decide (n < 0)))] rfl ⟨by kernel_rfl, by kernel_rfl⟩ ?_
    refine TL.next rfl ?_
    refine TC.cut (S := Int × Int) (fun (out, m) => [(1, .int .i64 scale), (5, .int .u64 out), (6, .int .u64 m)]) (fun (out, m) => []) (fun (out, m) => (m = (n.natAbs : Int) ∧ out = (((decide (n < 0)).toNat * 9223372036854775808 : Nat) : Int))) ?_ ?_
    · refine TC.cond (decide (n < 0)) rfl (by kernel_rfl) (fun h2 => ?_) (fun h2 => ?_)
      · refine TC.region ?_
        refine TL.run 4 [] [(1, .int .i64 scale), (5, .int .u64 9223372036854775808), (6, .int .u64 (wu64 (0 - (wu64 n))))] rfl ⟨by kernel_rfl, by kernel_rfl⟩ ?_
        refine TL.done rfl ?_
        exact TE.cut (9223372036854775808, wu64 (0 - (wu64 n))) (by have q0_ := (beq_f h1); have q1_ := (dec_t h2); (try dsimp only); first | exact ⟨du_neg hn (by omega), dn_neg (by omega)⟩ | exact ⟨du_pos hn (by omega), dn_pos (by omega)⟩) (by kernel_rfl) (.slnil)
      · refine TC.skip ?_
        exact TE.cut (0, wu64 n) (by have q0_ := (beq_f h1); have q1_ := (dec_f h2); (try dsimp only); first | exact ⟨du_neg hn (by omega), dn_neg (by omega)⟩ | exact ⟨du_pos hn (by omega), dn_pos (by omega)⟩) (by kernel_rfl) (.slnil)
    · rintro ⟨out, m⟩ hm1
      refine TE.next ?_
      refine TC.seq ?_
      refine TC.region ?_
      refine TL.run 1 [] [(1, .int .i64 scale), (5, .int .u64 out), (6, .int .u64 m), (7, .int .i64 63)] rfl ⟨by kernel_rfl, by kernel_rfl⟩ ?_
      refine TL.next rfl ?_
      refine TC.seq ?_
      refine TC.weak [(1, .int .i64 scale), (5, .int .u64 out), (6, .int .u64 m), (7, .int .i64 63)] (by kernel_rfl) ?_
      refine TC.cut (S := Int) (fun top_2 => [(1, .int .i64 scale), (5, .int .u64 out), (6, .int .u64 m), (7, .int .i64 top_2)]) (fun top_2 => []) (fun top_2 => ((0 ≤ top_2 ∧ top_2 ≤ 63) ∧ 2 ^ top_2.toNat ≤ n.natAbs ∧ n.natAbs < 2 ^ (top_2.toNat + 1))) ?_ ?_
      · refine TC.block ?_
        refine TC.loop (X := Int) (fun top => [(1, .int .i64 scale), (5, .int .u64 out), (6, .int .u64 m), (7, .int .i64 top)]) (fun top => []) (fun top => (top + 1).toNat) (fun top => ((0 ≤ top ∧ top ≤ 63) ∧ n.natAbs < 2 ^ (top.toNat + 1))) ?_ 63 (by have q0_ := (beq_f h1); have km1_ := hm1.1; first | exact ⟨by omega, dl_init hn⟩)
        rintro top hv0
        refine TC.seq ?_
        refine TC.seq ?_
        refine TC.region ?_
        refine TL.run 2 [] [(1, .int .i64 scale), (5, .int .u64 out), (6, .int .u64 m), (7, .int .i64 top), (20, .int .u64 m), (21, .int .i64 top)] rfl ⟨by kernel_rfl, by kernel_rfl⟩ ?_
        refine TL.val (sV (binOp .shr 23 (.int .u64 m) (.int .i64 top))) (some 22) (.int .u64 (m.fdiv (2 ^ (min top.toNat 64)))) [(1, .int .i64 scale), (5, .int .u64 out), (6, .int .u64 m), (7, .int .i64 top), (22, .int .u64 (m.fdiv (2 ^ (min top.toNat 64))))] (fun w hM => run_shr (by have q0_ := (beq_f h1); have km1_ := hm1.1; have kv0_ := hv0.1; first | omega | (rw [List.length_set]; omega) | (rw [w64_id (by omega)]; omega) | (dsimp only; omega) | (rw [List.length_drop]; omega) | (simp only [w64_eq]; omega) | exact (tm_in (by (first | (rw [w64_id (by omega)]; omega) | (simp only [w64_eq]; omega))) (by omega)).1 | exact (tm_in (by (first | (rw [w64_id (by omega)]; omega) | (simp only [w64_eq]; omega))) (by omega)).2.1 | exact (tm_in (by (first | (rw [w64_id (by omega)]; omega) | (simp only [w64_eq]; omega))) (by omega)).2.2 | (simp only [List.length_take] at *; omega) | (simp <;> omega))) (by kernel_rfl) (by kernel_rfl) ?_
        refine TL.run 4 [] [(1, .int .i64 scale), (5, .int .u64 out), (6, .int .u64 m), (7, .int .i64 top), (23, .bool ((m.fdiv (2 ^ (min top.toNat 64))) == 0))] rfl ⟨by kernel_rfl, by kernel_rfl⟩ ?_
        refine TL.next rfl ?_
        refine TC.cond ((m.fdiv (2 ^ (min top.toNat 64))) == 0) rfl (by kernel_rfl) (fun h3 => ?_) (fun h3 => ?_)
        · refine TC.skip ?_
          refine TE.next ?_
          refine TC.block ?_
          refine TC.region ?_
          refine TL.run 3 [] [(1, .int .i64 scale), (5, .int .u64 out), (6, .int .u64 m), (7, .int .i64 (w64 (top - 1)))] rfl ⟨by kernel_rfl, by kernel_rfl⟩ ?_
          refine TL.rw 7 (.int .i64 (w64 (top - 1))) (.int .i64 (top - 1)) (by kernel_rfl) (int_eq (by have q0_ := (beq_f h1); have q1_ := (beq_t h3); have km1_ := hm1.1; have kv0_ := hv0.1; rw [w64_id (x := (top - 1)) (by omega)])) ?_
          refine TL.done rfl ?_
          refine TE.normal_block ?_
          exact TE.again (x := top) (top - 1) (by have q0_ := (beq_f h1); have q1_ := (beq_t h3); have km1_ := hm1.1; have kv0_ := hv0.1; first | exact (by have k_ := dl_step km1_ hv0.2 (by first | assumption | exact not_t (by assumption) | exact not_f (by assumption)) (by omega) (by omega); exact ⟨by omega, k_.2⟩)) (by have q0_ := (beq_f h1); have q1_ := (beq_t h3); have km1_ := hm1.1; have kv0_ := hv0.1; (try dsimp only); omega) (by kernel_rfl) (.slnil)
        · refine TC.exit ?_
          refine TE.exit_then (TE.exit_then (TE.exit_same ?_))
          exact TE.cut top (by have q0_ := (beq_f h1); have q1_ := (beq_f h3); have km1_ := hm1.1; have kv0_ := hv0.1; first | exact ⟨hv0.1, dl_exit km1_ (by first | assumption | exact not_t (by assumption) | exact not_f (by assumption)) hv0.1, hv0.2⟩) (by kernel_rfl) (.slnil)
      · rintro top_2 ho0
        refine TE.next ?_
        refine TC.seq ?_
        refine TC.region ?_
        refine TL.run 4 [] [(5, .int .u64 out), (6, .int .u64 m), (7, .int .i64 top_2), (8, .int .i64 (w64 (top_2 - scale)))] rfl ⟨by kernel_rfl, by kernel_rfl⟩ ?_
        refine TL.rw 8 (.int .i64 (w64 (top_2 - scale))) (.int .i64 (top_2 - scale)) (by kernel_rfl) (int_eq (by have q0_ := (beq_f h1); have km1_ := hm1.1; have ko0_ := ho0.1; rw [w64_id (x := (top_2 - scale)) (by omega)])) ?_
        refine TL.next rfl ?_
        refine TC.seq ?_
        refine TC.seq ?_
        refine TC.region ?_
        refine TL.run 2 [] [(5, .int .u64 out), (6, .int .u64 m), (7, .int .i64 top_2), (8, .int .i64 (top_2 - scale)), (30, .bool (decide (top_2 ≤ 52)))] rfl ⟨by kernel_rfl, by kernel_rfl⟩ ?_
        refine TL.next rfl ?_
        refine TC.cut (S := Int × Int) (fun (m_2, e_) => [(5, .int .u64 out), (6, .int .u64 m_2), (8, .int .i64 e_)]) (fun (m_2, e_) => []) (fun (m_2, e_) => (DW n scale m_2 e_)) ?_ ?_
        · refine TC.cond (decide (top_2 ≤ 52)) rfl (by kernel_rfl) (fun h4 => ?_) (fun h4 => ?_)
          · refine TC.region ?_
            refine TL.run 3 [] [(5, .int .u64 out), (8, .int .i64 (top_2 - scale)), (31, .int .u64 m), (33, .int .i64 (w64 (52 - top_2)))] rfl ⟨by kernel_rfl, by kernel_rfl⟩ ?_
            refine TL.rw 33 (.int .i64 (w64 (52 - top_2))) (.int .i64 (52 - top_2)) (by kernel_rfl) (int_eq (by have q0_ := (beq_f h1); have q1_ := (dec_t h4); have km1_ := hm1.1; have ko0_ := ho0.1; rw [w64_id (x := (52 - top_2)) (by omega)])) ?_
            refine TL.val (sV (binOp .shl 23 (.int .u64 m) (.int .i64 (52 - top_2)))) (some 34) (.int .u64 (wu64 (m * 2 ^ (min (52 - top_2).toNat 64)))) [(5, .int .u64 out), (8, .int .i64 (top_2 - scale)), (34, .int .u64 (wu64 (m * 2 ^ (min (52 - top_2).toNat 64))))] (fun w hM => run_shl (by have q0_ := (beq_f h1); have q1_ := (dec_t h4); have km1_ := hm1.1; have ko0_ := ho0.1; first | omega | (rw [List.length_set]; omega) | (rw [w64_id (by omega)]; omega) | (dsimp only; omega) | (rw [List.length_drop]; omega) | (simp only [w64_eq]; omega) | exact (tm_in (by (first | (rw [w64_id (by omega)]; omega) | (simp only [w64_eq]; omega))) (by omega)).1 | exact (tm_in (by (first | (rw [w64_id (by omega)]; omega) | (simp only [w64_eq]; omega))) (by omega)).2.1 | exact (tm_in (by (first | (rw [w64_id (by omega)]; omega) | (simp only [w64_eq]; omega))) (by omega)).2.2 | (simp only [List.length_take] at *; omega) | (simp <;> omega))) (by kernel_rfl) (by kernel_rfl) ?_
            refine TL.run 5 [] [(5, .int .u64 out), (6, .int .u64 (wu64 (m * 2 ^ (min (52 - top_2).toNat 64)))), (8, .int .i64 (top_2 - scale))] rfl ⟨by kernel_rfl, by kernel_rfl⟩ ?_
            refine TL.done rfl ?_
            exact TE.cut (wu64 (m * 2 ^ (min (52 - top_2).toNat 64)), (top_2 - scale)) (by have q0_ := (beq_f h1); have q1_ := (dec_t h4); have km1_ := hm1.1; have ko0_ := ho0.1; (try dsimp only); first | exact hm5 | exact dmF (K := wu64 (m * 2 ^ (min (52 - top_2).toNat 64))) hs (by omega) ho0 (k_small km1_ ho0 (by omega)).1 (k_small km1_ ho0 (by omega)).2 rfl rfl) (by kernel_rfl) (.slnil)
          · refine TC.seq ?_
            refine TC.region ?_
            refine TL.run 3 [] [(5, .int .u64 out), (6, .int .u64 m), (8, .int .i64 (top_2 - scale)), (9, .int .i64 (w64 (top_2 - 52)))] rfl ⟨by kernel_rfl, by kernel_rfl⟩ ?_
            refine TL.rw 9 (.int .i64 (w64 (top_2 - 52))) (.int .i64 (top_2 - 52)) (by kernel_rfl) (int_eq (by have q0_ := (beq_f h1); have q1_ := (dec_f h4); have km1_ := hm1.1; have ko0_ := ho0.1; rw [w64_id (x := (top_2 - 52)) (by omega)])) ?_
            refine TL.next rfl ?_
            refine TC.seq ?_
            refine TC.draw 10 (by kernel_rfl) (by kernel_rfl) (by kernel_rfl) ?_
            refine TQ.run 2 [] [(5, .int .u64 out), (6, .int .u64 m), (8, .int .i64 (top_2 - scale)), (9, .int .i64 (top_2 - 52)), (37, .int .u64 m), (38, .int .i64 (top_2 - 52))] rfl ⟨by kernel_rfl, by kernel_rfl⟩ ?_
            refine TQ.val (sV (binOp .shl 23 (.int .u64 1) (.int .i64 (top_2 - 52)))) (some 39) (.int .u64 (wu64 (1 * 2 ^ (min (top_2 - 52).toNat 64)))) [(5, .int .u64 out), (6, .int .u64 m), (8, .int .i64 (top_2 - scale)), (9, .int .i64 (top_2 - 52)), (37, .int .u64 m), (39, .int .u64 (wu64 (1 * 2 ^ (min (top_2 - 52).toNat 64))))] (fun w hM => run_shl (by have q0_ := (beq_f h1); have q1_ := (dec_f h4); have km1_ := hm1.1; have ko0_ := ho0.1; first | omega | (rw [List.length_set]; omega) | (rw [w64_id (by omega)]; omega) | (dsimp only; omega) | (rw [List.length_drop]; omega) | (simp only [w64_eq]; omega) | exact (tm_in (by (first | (rw [w64_id (by omega)]; omega) | (simp only [w64_eq]; omega))) (by omega)).1 | exact (tm_in (by (first | (rw [w64_id (by omega)]; omega) | (simp only [w64_eq]; omega))) (by omega)).2.1 | exact (tm_in (by (first | (rw [w64_id (by omega)]; omega) | (simp only [w64_eq]; omega))) (by omega)).2.2 | (simp only [List.length_take] at *; omega) | (simp <;> omega))) rfl (by kernel_rfl) (by kernel_rfl) ?_
            refine TQ.run 7 [] [(5, .int .u64 out), (6, .int .u64 m), (8, .int .i64 (top_2 - scale)), (9, .int .i64 (top_2 - 52)), (41, .int .u64 (kand .u64 m (wu64 ((wu64 (1 * 2 ^ (min (top_2 - 52).toNat 64))) - 1)))), (43, .int .i64 (w64 ((top_2 - 52) - 1)))] rfl ⟨by kernel_rfl, by kernel_rfl⟩ ?_
            refine TQ.rw 43 (.int .i64 (w64 ((top_2 - 52) - 1))) (.int .i64 ((top_2 - 52) - 1)) (by kernel_rfl) (int_eq (by have q0_ := (beq_f h1); have q1_ := (dec_f h4); have km1_ := hm1.1; have ko0_ := ho0.1; rw [w64_id (x := ((top_2 - 52) - 1)) (by omega)])) ?_
            refine TQ.val (sV (binOp .shl 23 (.int .u64 1) (.int .i64 ((top_2 - 52) - 1)))) (some 44) (.int .u64 (wu64 (1 * 2 ^ (min ((top_2 - 52) - 1).toNat 64)))) [(5, .int .u64 out), (6, .int .u64 m), (8, .int .i64 (top_2 - scale)), (9, .int .i64 (top_2 - 52)), (41, .int .u64 (kand .u64 m (wu64 ((wu64 (1 * 2 ^ (min (top_2 - 52).toNat 64))) - 1)))), (44, .int .u64 (wu64 (1 * 2 ^ (min ((top_2 - 52) - 1).toNat 64))))] (fun w hM => run_shl (by have q0_ := (beq_f h1); have q1_ := (dec_f h4); have km1_ := hm1.1; have ko0_ := ho0.1; first | omega | (rw [List.length_set]; omega) | (rw [w64_id (by omega)]; omega) | (dsimp only; omega) | (rw [List.length_drop]; omega) | (simp only [w64_eq]; omega) | exact (tm_in (by (first | (rw [w64_id (by omega)]; omega) | (simp only [w64_eq]; omega))) (by omega)).1 | exact (tm_in (by (first | (rw [w64_id (by omega)]; omega) | (simp only [w64_eq]; omega))) (by omega)).2.1 | exact (tm_in (by (first | (rw [w64_id (by omega)]; omega) | (simp only [w64_eq]; omega))) (by omega)).2.2 | (simp only [List.length_take] at *; omega) | (simp <;> omega))) rfl (by kernel_rfl) (by kernel_rfl) ?_
            refine TQ.run 10 [] [(5, .int .u64 out), (6, .int .u64 m), (8, .int .i64 (top_2 - scale)), (9, .int .i64 (top_2 - 52)), (10, .int .u64 (kand .u64 m (wu64 ((wu64 (1 * 2 ^ (min (top_2 - 52).toNat 64))) - 1)))), (11, .int .u64 (wu64 (1 * 2 ^ (min ((top_2 - 52) - 1).toNat 64))))] rfl ⟨by kernel_rfl, by kernel_rfl⟩ ?_
            refine TQ.next rfl ?_
            refine TC.seq ?_
            refine TC.region ?_
            refine TL.run 2 [] [(5, .int .u64 out), (8, .int .i64 (top_2 - scale)), (10, .int .u64 (kand .u64 m (wu64 ((wu64 (1 * 2 ^ (min (top_2 - 52).toNat 64))) - 1)))), (11, .int .u64 (wu64 (1 * 2 ^ (min ((top_2 - 52) - 1).toNat 64)))), (45, .int .u64 m), (46, .int .i64 (top_2 - 52))] rfl ⟨by kernel_rfl, by kernel_rfl⟩ ?_
            refine TL.val (sV (binOp .shr 23 (.int .u64 m) (.int .i64 (top_2 - 52)))) (some 47) (.int .u64 (m.fdiv (2 ^ (min (top_2 - 52).toNat 64)))) [(5, .int .u64 out), (8, .int .i64 (top_2 - scale)), (10, .int .u64 (kand .u64 m (wu64 ((wu64 (1 * 2 ^ (min (top_2 - 52).toNat 64))) - 1)))), (11, .int .u64 (wu64 (1 * 2 ^ (min ((top_2 - 52) - 1).toNat 64)))), (47, .int .u64 (m.fdiv (2 ^ (min (top_2 - 52).toNat 64))))] (fun w hM => run_shr (by have q0_ := (beq_f h1); have q1_ := (dec_f h4); have km1_ := hm1.1; have ko0_ := ho0.1; first | omega | (rw [List.length_set]; omega) | (rw [w64_id (by omega)]; omega) | (dsimp only; omega) | (rw [List.length_drop]; omega) | (simp only [w64_eq]; omega) | exact (tm_in (by (first | (rw [w64_id (by omega)]; omega) | (simp only [w64_eq]; omega))) (by omega)).1 | exact (tm_in (by (first | (rw [w64_id (by omega)]; omega) | (simp only [w64_eq]; omega))) (by omega)).2.1 | exact (tm_in (by (first | (rw [w64_id (by omega)]; omega) | (simp only [w64_eq]; omega))) (by omega)).2.2 | (simp only [List.length_take] at *; omega) | (simp <;> omega))) (by kernel_rfl) (by kernel_rfl) ?_
            refine TL.run 4 [] [(5, .int .u64 out), (6, .int .u64 (m.fdiv (2 ^ (min (top_2 - 52).toNat 64)))), (8, .int .i64 (top_2 - scale)), (10, .int .u64 (kand .u64 m (wu64 ((wu64 (1 * 2 ^ (min (top_2 - 52).toNat 64))) - 1)))), (11, .int .u64 (wu64 (1 * 2 ^ (min ((top_2 - 52) - 1).toNat 64))))] rfl ⟨by kernel_rfl, by kernel_rfl⟩ ?_
            refine TL.next rfl ?_
            refine TC.seq ?_
            refine TC.seq ?_
            refine TC.region ?_
            refine TL.run 4 [] [(5, .int .u64 out), (6, .int .u64 (m.fdiv (2 ^ (min (top_2 - 52).toNat 64)))), (8, .int .i64 (top_2 - scale)), (10, .int .u64 (kand .u64 m (wu64 ((wu64 (1 * 2 ^ (min (top_2 - 52).toNat 64))) - 1)))), (11, .int .u64 (wu64 (1 * 2 ^ (min ((top_2 - 52) - 1).toNat 64)))), (51, .bool (decide ((kand .u64 m (wu64 ((wu64 (1 * 2 ^ (min (top_2 - 52).toNat 64))) - 1))) > (wu64 (1 * 2 ^ (min ((top_2 - 52) - 1).toNat 64))))))] rfl ⟨by kernel_rfl, by kernel_rfl⟩ ?_
            refine TL.split 51 (decide ((kand .u64 m (wu64 ((wu64 (1 * 2 ^ (min (top_2 - 52).toNat 64))) - 1))) > (wu64 (1 * 2 ^ (min ((top_2 - 52) - 1).toNat 64))))) (by kernel_rfl) (fun h5 => ?_) (fun h5 => ?_)
            · refine TL.run 13 [] [(5, .int .u64 out), (6, .int .u64 (m.fdiv (2 ^ (min (top_2 - 52).toNat 64)))), (8, .int .i64 (top_2 - scale)), (60, .bool true)] rfl ⟨by kernel_rfl, by kernel_rfl⟩ ?_
              refine TL.next rfl ?_
              refine TC.condT rfl (by kernel_rfl) ?_
              refine TC.region ?_
              refine TL.run 3 [] [(5, .int .u64 out), (6, .int .u64 (wu64 ((m.fdiv (2 ^ (min (top_2 - 52).toNat 64))) + 1))), (8, .int .i64 (top_2 - scale))] rfl ⟨by kernel_rfl, by kernel_rfl⟩ ?_
              refine TL.next rfl ?_
              refine TC.seq ?_
              refine TC.region ?_
              refine TL.run 2 [] [(5, .int .u64 out), (6, .int .u64 (wu64 ((m.fdiv (2 ^ (min (top_2 - 52).toNat 64))) + 1))), (8, .int .i64 (top_2 - scale)), (64, .bool ((wu64 ((m.fdiv (2 ^ (min (top_2 - 52).toNat 64))) + 1)) == 9007199254740992))] rfl ⟨by kernel_rfl, by kernel_rfl⟩ ?_
              refine TL.next rfl ?_
              refine TC.cut (S := Int × Int) (fun (m_3, e__2) => [(5, .int .u64 out), (6, .int .u64 m_3), (8, .int .i64 e__2)]) (fun (m_3, e__2) => []) (fun (m_3, e__2) => (DW n scale m_3 e__2)) ?_ ?_
              · refine TC.cond ((wu64 ((m.fdiv (2 ^ (min (top_2 - 52).toNat 64))) + 1)) == 9007199254740992) rfl (by kernel_rfl) (fun h6 => ?_) (fun h6 => ?_)
                · refine TC.region ?_
                  refine TL.run 6 [] [(5, .int .u64 out), (6, .int .u64 (wu64 ((wu64 ((m.fdiv (2 ^ (min (top_2 - 52).toNat 64))) + 1)).tdiv 2))), (8, .int .i64 (w64 ((top_2 - scale) + 1)))] rfl ⟨by kernel_rfl, by kernel_rfl⟩ ?_
                  refine TL.rw 8 (.int .i64 (w64 ((top_2 - scale) + 1))) (.int .i64 ((top_2 - scale) + 1)) (by kernel_rfl) (int_eq (by have q0_ := (beq_f h1); have q1_ := (dec_f h4); have q2_ := (dec_t h5); have q3_ := (beq_t h6); have km1_ := hm1.1; have ko0_ := ho0.1; rw [w64_id (x := ((top_2 - scale) + 1)) (by omega)])) ?_
                  refine TL.done rfl ?_
                  exact TE.cut (wu64 ((wu64 ((m.fdiv (2 ^ (min (top_2 - 52).toNat 64))) + 1)).tdiv 2), ((top_2 - scale) + 1)) (by have q0_ := (beq_f h1); have q1_ := (dec_f h4); have q2_ := (dec_t h5); have q3_ := (beq_t h6); have km1_ := hm1.1; have ko0_ := ho0.1; (try dsimp only); first | exact dmT (K := wu64 (m.fdiv (2 ^ (min (top_2 - 52).toNat 64)) + 1)) hs (by omega) ho0 (k_up km1_ (by omega) ho0 (by omega) (by omega)) (by omega) (by rfl) (by rfl) | exact dmF (K := wu64 (m.fdiv (2 ^ (min (top_2 - 52).toNat 64)) + 1)) hs (by omega) ho0 (k_up km1_ (by omega) ho0 (by omega) (by omega)) (by omega) (by rfl) (by rfl) | exact dmT (K := m.fdiv (2 ^ (min (top_2 - 52).toNat 64))) hs (by omega) ho0 (k_dn km1_ (by omega) ho0 (by omega) (by omega)) (by omega) (by rfl) (by rfl) | exact dmF (K := m.fdiv (2 ^ (min (top_2 - 52).toNat 64))) hs (by omega) ho0 (k_dn km1_ (by omega) ho0 (by omega) (by omega)) (by omega) (by rfl) (by rfl)) (by kernel_rfl) (.slnil)
                · refine TC.skip ?_
                  exact TE.cut (wu64 ((m.fdiv (2 ^ (min (top_2 - 52).toNat 64))) + 1), (top_2 - scale)) (by have q0_ := (beq_f h1); have q1_ := (dec_f h4); have q2_ := (dec_t h5); have q3_ := (beq_f h6); have km1_ := hm1.1; have ko0_ := ho0.1; (try dsimp only); first | exact dmT (K := wu64 (m.fdiv (2 ^ (min (top_2 - 52).toNat 64)) + 1)) hs (by omega) ho0 (k_up km1_ (by omega) ho0 (by omega) (by omega)) (by omega) (by rfl) (by rfl) | exact dmF (K := wu64 (m.fdiv (2 ^ (min (top_2 - 52).toNat 64)) + 1)) hs (by omega) ho0 (k_up km1_ (by omega) ho0 (by omega) (by omega)) (by omega) (by rfl) (by rfl) | exact dmT (K := m.fdiv (2 ^ (min (top_2 - 52).toNat 64))) hs (by omega) ho0 (k_dn km1_ (by omega) ho0 (by omega) (by omega)) (by omega) (by rfl) (by rfl) | exact dmF (K := m.fdiv (2 ^ (min (top_2 - 52).toNat 64))) hs (by omega) ho0 (k_dn km1_ (by omega) ho0 (by omega) (by omega)) (by omega) (by rfl) (by rfl)) (by kernel_rfl) (.slnil)
              · rintro ⟨m_3, e__2⟩ hm5
                exact TE.cut (m_3, e__2) (by have q0_ := (beq_f h1); have q1_ := (dec_f h4); have q2_ := (dec_t h5); have km1_ := hm1.1; have ko0_ := ho0.1; (try dsimp only); first | exact hm5 | exact dmF (K := wu64 (m * 2 ^ (min (52 - top_2).toNat 64))) hs (by omega) ho0 (k_small km1_ ho0 (by omega)).1 (k_small km1_ ho0 (by omega)).2 rfl rfl) (by kernel_rfl) (.slnil)
            · refine TL.run 8 [] [(5, .int .u64 out), (6, .int .u64 (m.fdiv (2 ^ (min (top_2 - 52).toNat 64)))), (8, .int .i64 (top_2 - scale)), (51, .bool false), (55, .bool ((kand .u64 m (wu64 ((wu64 (1 * 2 ^ (min (top_2 - 52).toNat 64))) - 1))) == (wu64 (1 * 2 ^ (min ((top_2 - 52) - 1).toNat 64)))))] rfl ⟨by kernel_rfl, by kernel_rfl⟩ ?_
              refine TL.split 55 ((kand .u64 m (wu64 ((wu64 (1 * 2 ^ (min (top_2 - 52).toNat 64))) - 1))) == (wu64 (1 * 2 ^ (min ((top_2 - 52) - 1).toNat 64)))) (by kernel_rfl) (fun h7 => ?_) (fun h7 => ?_)
              · refine TL.run 13 [] [(5, .int .u64 out), (6, .int .u64 (m.fdiv (2 ^ (min (top_2 - 52).toNat 64)))), (8, .int .i64 (top_2 - scale)), (60, .bool (((m.fdiv (2 ^ (min (top_2 - 52).toNat 64))).tmod 2) == 1))] rfl ⟨by kernel_rfl, by kernel_rfl⟩ ?_
                refine TL.next rfl ?_
                refine TC.cond (((m.fdiv (2 ^ (min (top_2 - 52).toNat 64))).tmod 2) == 1) rfl (by kernel_rfl) (fun h8 => ?_) (fun h8 => ?_)
                · refine TC.region ?_
                  refine TL.run 3 [] [(5, .int .u64 out), (6, .int .u64 (wu64 ((m.fdiv (2 ^ (min (top_2 - 52).toNat 64))) + 1))), (8, .int .i64 (top_2 - scale))] rfl ⟨by kernel_rfl, by kernel_rfl⟩ ?_
                  refine TL.next rfl ?_
                  refine TC.seq ?_
                  refine TC.region ?_
                  refine TL.run 2 [] [(5, .int .u64 out), (6, .int .u64 (wu64 ((m.fdiv (2 ^ (min (top_2 - 52).toNat 64))) + 1))), (8, .int .i64 (top_2 - scale)), (64, .bool ((wu64 ((m.fdiv (2 ^ (min (top_2 - 52).toNat 64))) + 1)) == 9007199254740992))] rfl ⟨by kernel_rfl, by kernel_rfl⟩ ?_
                  refine TL.next rfl ?_
                  refine TC.cut (S := Int × Int) (fun (m_4, e__3) => [(5, .int .u64 out), (6, .int .u64 m_4), (8, .int .i64 e__3)]) (fun (m_4, e__3) => []) (fun (m_4, e__3) => (DW n scale m_4 e__3)) ?_ ?_
                  · refine TC.cond ((wu64 ((m.fdiv (2 ^ (min (top_2 - 52).toNat 64))) + 1)) == 9007199254740992) rfl (by kernel_rfl) (fun h9 => ?_) (fun h9 => ?_)
                    · refine TC.region ?_
                      refine TL.run 6 [] [(5, .int .u64 out), (6, .int .u64 (wu64 ((wu64 ((m.fdiv (2 ^ (min (top_2 - 52).toNat 64))) + 1)).tdiv 2))), (8, .int .i64 (w64 ((top_2 - scale) + 1)))] rfl ⟨by kernel_rfl, by kernel_rfl⟩ ?_
                      refine TL.rw 8 (.int .i64 (w64 ((top_2 - scale) + 1))) (.int .i64 ((top_2 - scale) + 1)) (by kernel_rfl) (int_eq (by have q0_ := (beq_f h1); have q1_ := (dec_f h4); have q2_ := (dec_f h5); have q3_ := (beq_t h7); have q4_ := (beq_t h8); have q5_ := (beq_t h9); have km1_ := hm1.1; have ko0_ := ho0.1; rw [w64_id (x := ((top_2 - scale) + 1)) (by omega)])) ?_
                      refine TL.done rfl ?_
                      exact TE.cut (wu64 ((wu64 ((m.fdiv (2 ^ (min (top_2 - 52).toNat 64))) + 1)).tdiv 2), ((top_2 - scale) + 1)) (by have q0_ := (beq_f h1); have q1_ := (dec_f h4); have q2_ := (dec_f h5); have q3_ := (beq_t h7); have q4_ := (beq_t h8); have q5_ := (beq_t h9); have km1_ := hm1.1; have ko0_ := ho0.1; (try dsimp only); first | exact dmT (K := wu64 (m.fdiv (2 ^ (min (top_2 - 52).toNat 64)) + 1)) hs (by omega) ho0 (k_up km1_ (by omega) ho0 (by omega) (by omega)) (by omega) (by rfl) (by rfl) | exact dmF (K := wu64 (m.fdiv (2 ^ (min (top_2 - 52).toNat 64)) + 1)) hs (by omega) ho0 (k_up km1_ (by omega) ho0 (by omega) (by omega)) (by omega) (by rfl) (by rfl) | exact dmT (K := m.fdiv (2 ^ (min (top_2 - 52).toNat 64))) hs (by omega) ho0 (k_dn km1_ (by omega) ho0 (by omega) (by omega)) (by omega) (by rfl) (by rfl) | exact dmF (K := m.fdiv (2 ^ (min (top_2 - 52).toNat 64))) hs (by omega) ho0 (k_dn km1_ (by omega) ho0 (by omega) (by omega)) (by omega) (by rfl) (by rfl)) (by kernel_rfl) (.slnil)
                    · refine TC.skip ?_
                      exact TE.cut (wu64 ((m.fdiv (2 ^ (min (top_2 - 52).toNat 64))) + 1), (top_2 - scale)) (by have q0_ := (beq_f h1); have q1_ := (dec_f h4); have q2_ := (dec_f h5); have q3_ := (beq_t h7); have q4_ := (beq_t h8); have q5_ := (beq_f h9); have km1_ := hm1.1; have ko0_ := ho0.1; (try dsimp only); first | exact dmT (K := wu64 (m.fdiv (2 ^ (min (top_2 - 52).toNat 64)) + 1)) hs (by omega) ho0 (k_up km1_ (by omega) ho0 (by omega) (by omega)) (by omega) (by rfl) (by rfl) | exact dmF (K := wu64 (m.fdiv (2 ^ (min (top_2 - 52).toNat 64)) + 1)) hs (by omega) ho0 (k_up km1_ (by omega) ho0 (by omega) (by omega)) (by omega) (by rfl) (by rfl) | exact dmT (K := m.fdiv (2 ^ (min (top_2 - 52).toNat 64))) hs (by omega) ho0 (k_dn km1_ (by omega) ho0 (by omega) (by omega)) (by omega) (by rfl) (by rfl) | exact dmF (K := m.fdiv (2 ^ (min (top_2 - 52).toNat 64))) hs (by omega) ho0 (k_dn km1_ (by omega) ho0 (by omega) (by omega)) (by omega) (by rfl) (by rfl)) (by kernel_rfl) (.slnil)
                  · rintro ⟨m_4, e__3⟩ hm5
                    exact TE.cut (m_4, e__3) (by have q0_ := (beq_f h1); have q1_ := (dec_f h4); have q2_ := (dec_f h5); have q3_ := (beq_t h7); have q4_ := (beq_t h8); have km1_ := hm1.1; have ko0_ := ho0.1; (try dsimp only); first | exact hm5 | exact dmF (K := wu64 (m * 2 ^ (min (52 - top_2).toNat 64))) hs (by omega) ho0 (k_small km1_ ho0 (by omega)).1 (k_small km1_ ho0 (by omega)).2 rfl rfl) (by kernel_rfl) (.slnil)
                · refine TC.skip ?_
                  refine TE.next ?_
                  refine TC.seq ?_
                  refine TC.region ?_
                  refine TL.run 2 [] [(5, .int .u64 out), (6, .int .u64 (m.fdiv (2 ^ (min (top_2 - 52).toNat 64)))), (8, .int .i64 (top_2 - scale)), (64, .bool ((m.fdiv (2 ^ (min (top_2 - 52).toNat 64))) == 9007199254740992))] rfl ⟨by kernel_rfl, by kernel_rfl⟩ ?_
                  refine TL.next rfl ?_
                  refine TC.cut (S := Int × Int) (fun (m_5, e__4) => [(5, .int .u64 out), (6, .int .u64 m_5), (8, .int .i64 e__4)]) (fun (m_5, e__4) => []) (fun (m_5, e__4) => (DW n scale m_5 e__4)) ?_ ?_
                  · refine TC.cond ((m.fdiv (2 ^ (min (top_2 - 52).toNat 64))) == 9007199254740992) rfl (by kernel_rfl) (fun h10 => ?_) (fun h10 => ?_)
                    · refine TC.region ?_
                      refine TL.run 6 [] [(5, .int .u64 out), (6, .int .u64 (wu64 ((m.fdiv (2 ^ (min (top_2 - 52).toNat 64))).tdiv 2))), (8, .int .i64 (w64 ((top_2 - scale) + 1)))] rfl ⟨by kernel_rfl, by kernel_rfl⟩ ?_
                      refine TL.rw 8 (.int .i64 (w64 ((top_2 - scale) + 1))) (.int .i64 ((top_2 - scale) + 1)) (by kernel_rfl) (int_eq (by have q0_ := (beq_f h1); have q1_ := (dec_f h4); have q2_ := (dec_f h5); have q3_ := (beq_t h7); have q4_ := (beq_f h8); have q5_ := (beq_t h10); have km1_ := hm1.1; have ko0_ := ho0.1; rw [w64_id (x := ((top_2 - scale) + 1)) (by omega)])) ?_
                      refine TL.done rfl ?_
                      exact TE.cut (wu64 ((m.fdiv (2 ^ (min (top_2 - 52).toNat 64))).tdiv 2), ((top_2 - scale) + 1)) (by have q0_ := (beq_f h1); have q1_ := (dec_f h4); have q2_ := (dec_f h5); have q3_ := (beq_t h7); have q4_ := (beq_f h8); have q5_ := (beq_t h10); have km1_ := hm1.1; have ko0_ := ho0.1; (try dsimp only); first | exact dmT (K := wu64 (m.fdiv (2 ^ (min (top_2 - 52).toNat 64)) + 1)) hs (by omega) ho0 (k_up km1_ (by omega) ho0 (by omega) (by omega)) (by omega) (by rfl) (by rfl) | exact dmF (K := wu64 (m.fdiv (2 ^ (min (top_2 - 52).toNat 64)) + 1)) hs (by omega) ho0 (k_up km1_ (by omega) ho0 (by omega) (by omega)) (by omega) (by rfl) (by rfl) | exact dmT (K := m.fdiv (2 ^ (min (top_2 - 52).toNat 64))) hs (by omega) ho0 (k_dn km1_ (by omega) ho0 (by omega) (by omega)) (by omega) (by rfl) (by rfl) | exact dmF (K := m.fdiv (2 ^ (min (top_2 - 52).toNat 64))) hs (by omega) ho0 (k_dn km1_ (by omega) ho0 (by omega) (by omega)) (by omega) (by rfl) (by rfl)) (by kernel_rfl) (.slnil)
                    · refine TC.skip ?_
                      exact TE.cut (m.fdiv (2 ^ (min (top_2 - 52).toNat 64)), (top_2 - scale)) (by have q0_ := (beq_f h1); have q1_ := (dec_f h4); have q2_ := (dec_f h5); have q3_ := (beq_t h7); have q4_ := (beq_f h8); have q5_ := (beq_f h10); have km1_ := hm1.1; have ko0_ := ho0.1; (try dsimp only); first | exact dmT (K := wu64 (m.fdiv (2 ^ (min (top_2 - 52).toNat 64)) + 1)) hs (by omega) ho0 (k_up km1_ (by omega) ho0 (by omega) (by omega)) (by omega) (by rfl) (by rfl) | exact dmF (K := wu64 (m.fdiv (2 ^ (min (top_2 - 52).toNat 64)) + 1)) hs (by omega) ho0 (k_up km1_ (by omega) ho0 (by omega) (by omega)) (by omega) (by rfl) (by rfl) | exact dmT (K := m.fdiv (2 ^ (min (top_2 - 52).toNat 64))) hs (by omega) ho0 (k_dn km1_ (by omega) ho0 (by omega) (by omega)) (by omega) (by rfl) (by rfl) | exact dmF (K := m.fdiv (2 ^ (min (top_2 - 52).toNat 64))) hs (by omega) ho0 (k_dn km1_ (by omega) ho0 (by omega) (by omega)) (by omega) (by rfl) (by rfl)) (by kernel_rfl) (.slnil)
                  · rintro ⟨m_5, e__4⟩ hm5
                    exact TE.cut (m_5, e__4) (by have q0_ := (beq_f h1); have q1_ := (dec_f h4); have q2_ := (dec_f h5); have q3_ := (beq_t h7); have q4_ := (beq_f h8); have km1_ := hm1.1; have ko0_ := ho0.1; (try dsimp only); first | exact hm5 | exact dmF (K := wu64 (m * 2 ^ (min (52 - top_2).toNat 64))) hs (by omega) ho0 (k_small km1_ ho0 (by omega)).1 (k_small km1_ ho0 (by omega)).2 rfl rfl) (by kernel_rfl) (.slnil)
              · refine TL.run 13 [] [(5, .int .u64 out), (6, .int .u64 (m.fdiv (2 ^ (min (top_2 - 52).toNat 64)))), (8, .int .i64 (top_2 - scale)), (60, .bool false)] rfl ⟨by kernel_rfl, by kernel_rfl⟩ ?_
                refine TL.next rfl ?_
                refine TC.condF rfl (by kernel_rfl) ?_
                refine TC.skip ?_
                refine TE.next ?_
                refine TC.seq ?_
                refine TC.region ?_
                refine TL.run 2 [] [(5, .int .u64 out), (6, .int .u64 (m.fdiv (2 ^ (min (top_2 - 52).toNat 64)))), (8, .int .i64 (top_2 - scale)), (64, .bool ((m.fdiv (2 ^ (min (top_2 - 52).toNat 64))) == 9007199254740992))] rfl ⟨by kernel_rfl, by kernel_rfl⟩ ?_
                refine TL.next rfl ?_
                refine TC.cut (S := Int × Int) (fun (m_6, e__5) => [(5, .int .u64 out), (6, .int .u64 m_6), (8, .int .i64 e__5)]) (fun (m_6, e__5) => []) (fun (m_6, e__5) => (DW n scale m_6 e__5)) ?_ ?_
                · refine TC.cond ((m.fdiv (2 ^ (min (top_2 - 52).toNat 64))) == 9007199254740992) rfl (by kernel_rfl) (fun h11 => ?_) (fun h11 => ?_)
                  · refine TC.region ?_
                    refine TL.run 6 [] [(5, .int .u64 out), (6, .int .u64 (wu64 ((m.fdiv (2 ^ (min (top_2 - 52).toNat 64))).tdiv 2))), (8, .int .i64 (w64 ((top_2 - scale) + 1)))] rfl ⟨by kernel_rfl, by kernel_rfl⟩ ?_
                    refine TL.rw 8 (.int .i64 (w64 ((top_2 - scale) + 1))) (.int .i64 ((top_2 - scale) + 1)) (by kernel_rfl) (int_eq (by have q0_ := (beq_f h1); have q1_ := (dec_f h4); have q2_ := (dec_f h5); have q3_ := (beq_f h7); have q4_ := (beq_t h11); have km1_ := hm1.1; have ko0_ := ho0.1; rw [w64_id (x := ((top_2 - scale) + 1)) (by omega)])) ?_
                    refine TL.done rfl ?_
                    exact TE.cut (wu64 ((m.fdiv (2 ^ (min (top_2 - 52).toNat 64))).tdiv 2), ((top_2 - scale) + 1)) (by have q0_ := (beq_f h1); have q1_ := (dec_f h4); have q2_ := (dec_f h5); have q3_ := (beq_f h7); have q4_ := (beq_t h11); have km1_ := hm1.1; have ko0_ := ho0.1; (try dsimp only); first | exact dmT (K := wu64 (m.fdiv (2 ^ (min (top_2 - 52).toNat 64)) + 1)) hs (by omega) ho0 (k_up km1_ (by omega) ho0 (by omega) (by omega)) (by omega) (by rfl) (by rfl) | exact dmF (K := wu64 (m.fdiv (2 ^ (min (top_2 - 52).toNat 64)) + 1)) hs (by omega) ho0 (k_up km1_ (by omega) ho0 (by omega) (by omega)) (by omega) (by rfl) (by rfl) | exact dmT (K := m.fdiv (2 ^ (min (top_2 - 52).toNat 64))) hs (by omega) ho0 (k_dn km1_ (by omega) ho0 (by omega) (by omega)) (by omega) (by rfl) (by rfl) | exact dmF (K := m.fdiv (2 ^ (min (top_2 - 52).toNat 64))) hs (by omega) ho0 (k_dn km1_ (by omega) ho0 (by omega) (by omega)) (by omega) (by rfl) (by rfl)) (by kernel_rfl) (.slnil)
                  · refine TC.skip ?_
                    exact TE.cut (m.fdiv (2 ^ (min (top_2 - 52).toNat 64)), (top_2 - scale)) (by have q0_ := (beq_f h1); have q1_ := (dec_f h4); have q2_ := (dec_f h5); have q3_ := (beq_f h7); have q4_ := (beq_f h11); have km1_ := hm1.1; have ko0_ := ho0.1; (try dsimp only); first | exact dmT (K := wu64 (m.fdiv (2 ^ (min (top_2 - 52).toNat 64)) + 1)) hs (by omega) ho0 (k_up km1_ (by omega) ho0 (by omega) (by omega)) (by omega) (by rfl) (by rfl) | exact dmF (K := wu64 (m.fdiv (2 ^ (min (top_2 - 52).toNat 64)) + 1)) hs (by omega) ho0 (k_up km1_ (by omega) ho0 (by omega) (by omega)) (by omega) (by rfl) (by rfl) | exact dmT (K := m.fdiv (2 ^ (min (top_2 - 52).toNat 64))) hs (by omega) ho0 (k_dn km1_ (by omega) ho0 (by omega) (by omega)) (by omega) (by rfl) (by rfl) | exact dmF (K := m.fdiv (2 ^ (min (top_2 - 52).toNat 64))) hs (by omega) ho0 (k_dn km1_ (by omega) ho0 (by omega) (by omega)) (by omega) (by rfl) (by rfl)) (by kernel_rfl) (.slnil)
                · rintro ⟨m_6, e__5⟩ hm5
                  exact TE.cut (m_6, e__5) (by have q0_ := (beq_f h1); have q1_ := (dec_f h4); have q2_ := (dec_f h5); have q3_ := (beq_f h7); have km1_ := hm1.1; have ko0_ := ho0.1; (try dsimp only); first | exact hm5 | exact dmF (K := wu64 (m * 2 ^ (min (52 - top_2).toNat 64))) hs (by omega) ho0 (k_small km1_ ho0 (by omega)).1 (k_small km1_ ho0 (by omega)).2 rfl rfl) (by kernel_rfl) (.slnil)
        · rintro ⟨m_2, e_⟩ hm3
          refine TE.next ?_
          refine TC.seq ?_
          refine TC.region ?_
          refine TL.run 10 [] [(4, .int .u64 (kor .u64 (kor .u64 out (wu64 ((wu64 (w64 (e_ + 1023))) * 2 ^ 52))) (kand .u64 m_2 4503599627370495)))] rfl ⟨by kernel_rfl, by kernel_rfl⟩ ?_
          refine TL.next rfl ?_
          refine TC.ret ?_
          exact TE.retM (.inl rfl) (kor .u64 (kor .u64 out (wu64 ((wu64 (w64 (e_ + 1023))) * 2 ^ 52))) (kand .u64 m_2 4503599627370495)) [] (.int .u64 (kor .u64 (kor .u64 out (wu64 ((wu64 (w64 (e_ + 1023))) * 2 ^ 52))) (kand .u64 m_2 4503599627370495))) ⟨by kernel_rfl, by kernel_rfl⟩ rfl (fun _ hM => (hM.sub (.slnil)).fact (by have q0_ := (beq_f h1); have km1_ := hm1.1; have ko0_ := ho0.1; (try dsimp only); first | exact dw_zero (by omega) | exact dw_end hn hs hm1.2 hm3))

end Go.Sky
