/- Functions of the program, each with the Lean function that it computes. Conditions: none. -/
import Derived.Test.YtlaealgmaalgfaaWo
namespace Go.Sky
open Go Go.Eng Go.Proofs
def skywayref1_sign (n : Int) : Int :=
  cond (decide (n > 0)) (
    1) (
    cond (decide (n < 0)) (
      (-1)) (
      0))

set_option maxRecDepth 100000 in
theorem skywayref1_sign_w (n : Int) (w : World) : Calls Try.prog 74 #[.int .i64 n] w (Ret w (.int .i64 (skywayref1_sign n))) := by
  refine calls_intro (vs := [.int .i64 n]) (w := w) Try.func74 rfl Try.ntmps74 rfl ?_
  refine TC.weak [(0, .int .i64 n)] (by kernel_rfl) ?_
  refine TC.seq ?_
  refine TC.region ?_
  refine TL.run 1 [] [(0, .int .i64 n)] rfl ⟨by kernel_rfl, by kernel_rfl⟩ ?_
  refine TL.next rfl ?_
  refine TC.seq ?_
  refine TC.seq ?_
  refine TC.region ?_
  refine TL.run 2 [] [(0, .int .i64 n), (4, .bool (decide (n > 0)))] rfl ⟨by kernel_rfl, by kernel_rfl⟩ ?_
  refine TL.next rfl ?_
  refine TC.cond (decide (n > 0)) rfl (by kernel_rfl) (fun h1 => ?_) (fun h1 => ?_)
  · refine TC.seq ?_
    refine TC.region ?_
    refine TL.run 1 [] [(2, .int .i64 1)] rfl ⟨by kernel_rfl, by kernel_rfl⟩ ?_
    refine TL.next rfl ?_
    refine TC.ret ?_
    refine TE.ret_then ?_
    have e : skywayref1_sign n = 1 := by unfold skywayref1_sign; exact cond_t h1 (rfl)
    exact TE.ret [] (.int .i64 1) ⟨by kernel_rfl, by kernel_rfl⟩ (by rw [e]; first | done | kernel_rfl)
  · refine TC.skip ?_
    refine TE.next ?_
    refine TC.seq ?_
    refine TC.seq ?_
    refine TC.region ?_
    refine TL.run 2 [] [(6, .bool (decide (n < 0)))] rfl ⟨by kernel_rfl, by kernel_rfl⟩ ?_
    refine TL.next rfl ?_
    refine TC.cond (decide (n < 0)) rfl (by kernel_rfl) (fun h2 => ?_) (fun h2 => ?_)
    · refine TC.seq ?_
      refine TC.region ?_
      refine TL.run 1 [] [(2, .int .i64 (-1))] rfl ⟨by kernel_rfl, by kernel_rfl⟩ ?_
      refine TL.next rfl ?_
      refine TC.ret ?_
      refine TE.ret_then ?_
      have e : skywayref1_sign n = (-1) := by unfold skywayref1_sign; exact cond_f h1 (cond_t h2 (rfl))
      exact TE.ret [] (.int .i64 (-1)) ⟨by kernel_rfl, by kernel_rfl⟩ (by rw [e]; first | done | kernel_rfl)
    · refine TC.skip ?_
      refine TE.next ?_
      refine TC.seq ?_
      refine TC.region ?_
      refine TL.run 1 [] [(2, .int .i64 0)] rfl ⟨by kernel_rfl, by kernel_rfl⟩ ?_
      refine TL.next rfl ?_
      refine TC.ret ?_
      have e : skywayref1_sign n = 0 := by unfold skywayref1_sign; exact cond_f h1 (cond_f h2 (rfl))
      exact TE.ret [] (.int .i64 0) ⟨by kernel_rfl, by kernel_rfl⟩ (by rw [e]; first | done | kernel_rfl)

def skywayref1_limbs_L1 (n : Int) : Nat → Nat → (List Int) → (List Int)
  | 0, _, out => out
  | m + 1, k, out => skywayref1_limbs_L1 n m (k + 1) (out ++ ([kand .i64 (n.fdiv (2 ^ (min (w64 (16 * (k : Int))).toNat 64))) 65535]))
def skywayref1_limbs_L2 : Nat → Nat → Int → (List Int) → (List Int)
  | 0, _, _, out_3 => out_3
  | m + 1, k_2, rest, out_3 => skywayref1_limbs_L2 m (k_2 + 1) (w64 ((w64 (rest + (w64 (65535 - (out_3[k_2]?.getD 0))))).tdiv 65536)) (out_3.set k_2 ((w64 (rest + (w64 (65535 - (out_3[k_2]?.getD 0))))).tmod 65536))
def skywayref1_limbs (n : Int) : List Int :=
  bindv (skywayref1_limbs_L1 n ((4 : Int).toNat) 0 ([] : List Int)) (fun out_2 =>
    cond (decide (n ≥ 0)) (
      out_2) (
      bindv (skywayref1_limbs_L2 out_2.length 0 1 out_2) (fun out_4 =>
        out_4)))

set_option maxRecDepth 100000 in
theorem skywayref1_limbs_w (n : Int) (w : World) : Calls Try.prog 98 #[.int .i64 n] w (RetM (Γ := (Option Addr × Nat)) (cx w) (fun g => .slice g.1 ((skywayref1_limbs n).length) g.2) (fun g => [.inr (Own g.1 g.2 3 1 ((skywayref1_limbs n).map ic))])) := by
  refine calls_intro (vs := [.int .i64 n]) (w := w) Try.func98 rfl Try.ntmps98 rfl ?_
  refine TC.weak [(0, .int .i64 n)] (by kernel_rfl) ?_
  refine TC.seq ?_
  refine TC.region ?_
  refine TL.run 1 [] [(0, .int .i64 n)] rfl ⟨by kernel_rfl, by kernel_rfl⟩ ?_
  refine TL.next rfl ?_
  refine TC.seq ?_
  refine TC.region ?_
  refine TL.run 1 [] [(0, .int .i64 n), (3, .slice none 0 0)] rfl ⟨by kernel_rfl, by kernel_rfl⟩ ?_
  refine TL.next rfl ?_
  refine TC.seq ?_
  refine TC.seq ?_
  refine TC.region ?_
  refine TL.run 1 [] [(0, .int .i64 n), (3, .slice none 0 0), (8, .int .i64 0)] rfl ⟨by kernel_rfl, by kernel_rfl⟩ ?_
  refine TL.next rfl ?_
  refine TC.conv [.inr (Own none 0 3 1 (([] : List Int).map ic))] (fun _ hM => hM.emptyrow none 3 1) ?_
  refine TC.weak [(0, .int .i64 n), (3, .slice none (([] : List Int).length) 0), (8, .int .i64 0)] (by kernel_rfl) ?_
  obtain ⟨R2, hR⟩ : ∃ R, R = skywayref1_limbs_L1 n ((4 : Int).toNat) 0 ([] : List Int) := ⟨_, rfl⟩
  refine TC.cut (S := (List Int) × (Option Addr) × Nat) (fun (out_2, A_out_2, c_out_2) => [(0, .int .i64 n), (3, .slice A_out_2 out_2.length c_out_2)]) (fun (out_2, A_out_2, c_out_2) => [.inr (Own A_out_2 c_out_2 3 1 (out_2.map ic))]) (fun (out_2, A_out_2, c_out_2) => R2 = out_2 ∧ out_2.length ≤ (4 : Int).toNat) ?_ ?_
  · refine TC.block ?_
    refine TC.loop (X := Nat × (List Int) × (Option Addr) × Nat) (fun (k, out, A_out, c_out) => [(0, .int .i64 n), (3, .slice A_out out.length c_out), (8, .int .i64 (k : Int))]) (fun (k, out, A_out, c_out) => [.inr (Own A_out c_out 3 1 (out.map ic))]) (fun (k, out, A_out, c_out) => (4 : Int).toNat - k) (fun (k, out, A_out, c_out) => k ≤ (4 : Int).toNat ∧ R2 = skywayref1_limbs_L1 n ((4 : Int).toNat - k) k out ∧ out.length ≤ k) ?_ (0, ([] : List Int), none, 0) ⟨Nat.zero_le _, hR, (by first | omega | (simp; omega) | simp)⟩
    rintro ⟨k, out, A_out, c_out⟩ ⟨hk, hI, hl_out⟩
    refine TC.seq ?_
    refine TC.region ?_
    refine TL.run 1 [] [(0, .int .i64 n), (3, .slice A_out out.length c_out), (8, .int .i64 (k : Int)), (9, .bool (decide ((k : Int) < 4)))] rfl ⟨by kernel_rfl, by kernel_rfl⟩ ?_
    refine TL.next rfl ?_
    refine TC.seq ?_
    refine TC.cond (decide ((k : Int) < 4)) rfl (by kernel_rfl) (fun h1 => ?_) (fun h1 => ?_)
    · have hlt : k < (4 : Int).toNat := by have := of_decide_eq_true h1; first | omega | (simp at this; omega)
      have hd : (4 : Int).toNat - k = ((4 : Int).toNat - (k + 1)) + 1 := by omega
      refine TC.skip ?_
      refine TE.next ?_
      refine TC.seq ?_
      refine TC.block ?_
      refine TC.seq ?_
      refine TC.region ?_
      refine TL.run 2 [] [(0, .int .i64 n), (3, .slice A_out out.length c_out), (4, .int .i64 (k : Int)), (8, .int .i64 (k : Int))] rfl ⟨by kernel_rfl, by kernel_rfl⟩ ?_
      refine TL.next rfl ?_
      refine TC.seq ?_
      refine TC.region ?_
      refine TL.run 3 [] [(0, .int .i64 n), (3, .slice A_out out.length c_out), (8, .int .i64 (k : Int)), (11, .int .i64 n), (13, .int .i64 (w64 (16 * (k : Int))))] rfl ⟨by kernel_rfl, by kernel_rfl⟩ ?_
      refine TL.val (sV (binOp .shr 3 (.int .i64 n) (.int .i64 (w64 (16 * (k : Int)))))) (some 14) (.int .i64 (n.fdiv (2 ^ (min (w64 (16 * (k : Int))).toNat 64)))) [(0, .int .i64 n), (3, .slice A_out out.length c_out), (8, .int .i64 (k : Int)), (14, .int .i64 (n.fdiv (2 ^ (min (w64 (16 * (k : Int))).toNat 64))))] (fun w hM => run_shr (by first | omega | (simp only [List.length_drop]; omega) | (simp only [w64_eq]; omega) | exact (tm_in (by (first | (rw [w64_id (by omega)]; omega) | (simp only [w64_eq]; omega))) (by omega)).1 | exact (tm_in (by (first | (rw [w64_id (by omega)]; omega) | (simp only [w64_eq]; omega))) (by omega)).2.1 | exact (tm_in (by (first | (rw [w64_id (by omega)]; omega) | (simp only [w64_eq]; omega))) (by omega)).2.2 | (simp only [List.length_take] at *; omega) | (simp <;> omega))) (by kernel_rfl) (by kernel_rfl) ?_
      refine TL.run 6 [] [(0, .int .i64 n), (3, .slice A_out out.length c_out), (5, .int .i64 (kand .i64 (n.fdiv (2 ^ (min (w64 (16 * (k : Int))).toNat 64))) 65535)), (8, .int .i64 (k : Int))] rfl ⟨by kernel_rfl, by kernel_rfl⟩ ?_
      refine TL.next rfl ?_
      refine TC.region ?_
      refine TL.run 2 [] [(0, .int .i64 n), (8, .int .i64 (k : Int)), (16, .slice A_out out.length c_out), (17, .int .i64 (kand .i64 (n.fdiv (2 ^ (min (w64 (16 * (k : Int))).toNat 64))) 65535))] rfl ⟨by kernel_rfl, by kernel_rfl⟩ ?_
      refine TL.write 0 (fun b1 => [(0, .int .i64 n), (8, .int .i64 (k : Int)), (16, .slice A_out out.length c_out), (18, .slice (some ⟨b1, 0, none⟩) 1 1)]) (fun b1 => [.inl (b1, .cells #[.int .i64 (kand .i64 (n.fdiv (2 ^ (min (w64 (16 * (k : Int))).toNat 64))) 65535)] 3 (0, 0)), .inr (Own A_out c_out 3 1 (out.map ic))]) (fun b1 => ⟨by kernel_rfl, by kernel_rfl⟩) (fun b1 => ?_)
      refine TL.opM (Γ := Option Addr × Nat) (sV (Builtin.append_ #[34, 34] 34 #[.slice A_out out.length c_out, .slice (some ⟨b1, 0, none⟩) 1 1])) (some 19) (fun g => .slice g.1 (out ++ ([kand .i64 (n.fdiv (2 ^ (min (w64 (16 * (k : Int))).toNat 64))) 65535])).length g.2) (fun g => [.inl (b1, .cells #[.int .i64 (kand .i64 (n.fdiv (2 ^ (min (w64 (16 * (k : Int))).toNat 64))) 65535)] 3 (0, 0)), .inr (Own g.1 g.2 3 1 ((out ++ ([kand .i64 (n.fdiv (2 ^ (min (w64 (16 * (k : Int))).toNat 64))) 65535])).map ic))]) (fun g => [(0, .int .i64 n), (8, .int .i64 (k : Int)), (19, .slice g.1 ((out ++ ([kand .i64 (n.fdiv (2 ^ (min (w64 (16 * (k : Int))).toNat 64))) 65535])).length) g.2)]) (app_at (bytes := 8) 34 1 ([kand .i64 (n.fdiv (2 ^ (min (w64 (16 * (k : Int))).toNat 64))) 65535]) (by kernel_rfl) rfl rfl ic_one rfl (fun w hM => (Rd.lit hM 0 _ rfl (by kernel_rfl) (by kernel_rfl) (by kernel_rfl))) rfl (by first | omega | (simp <;> omega) | (simp at * <;> omega))) (by kernel_rfl) (fun g => by kernel_rfl) ?_
      rintro ⟨A, c⟩
      refine TL.run 5 [] [(0, .int .i64 n), (3, .slice A ((out ++ ([kand .i64 (n.fdiv (2 ^ (min (w64 (16 * (k : Int))).toNat 64))) 65535])).length) c), (8, .int .i64 (k : Int))] rfl ⟨by kernel_rfl, by kernel_rfl⟩ ?_
      refine TL.done rfl ?_
      refine TE.normal_block ?_
      refine TE.next ?_
      refine TC.region ?_
      refine TL.run 2 [] [(0, .int .i64 n), (3, .slice A ((out ++ ([kand .i64 (n.fdiv (2 ^ (min (w64 (16 * (k : Int))).toNat 64))) 65535])).length) c), (8, .int .i64 (w64 ((k : Int) + 1)))] rfl ⟨by kernel_rfl, by kernel_rfl⟩ ?_
      refine TL.done rfl ?_
      refine TE.rw 8 (.int .i64 (w64 ((k : Int) + 1))) (.int .i64 ((k + 1 : Nat) : Int)) (by kernel_rfl) (w64_cast k (by omega)) ?_
      exact TE.again (x := (k, out, A_out, c_out)) (k + 1, (out ++ ([kand .i64 (n.fdiv (2 ^ (min (w64 (16 * (k : Int))).toNat 64))) 65535])), A, c) ⟨by omega, hI.trans (by rw [hd]; exact rfl), (by first | omega | (simp <;> omega) | (simp at * <;> omega) | (simp only [w64_eq] at *; omega) | (simp only [List.length_append, List.length_cons, List.length_nil]; omega))⟩ (by show (4 : Int).toNat - (k + 1) < (4 : Int).toNat - k; omega) (by kernel_rfl) (.cons _ (.cons_cons _ (.slnil)))
    · have hd : (4 : Int).toNat - k = 0 := by have := of_decide_eq_false h1; first | omega | (simp at this; omega)
      refine TC.exit ?_
      refine TE.exit_then (TE.exit_then (TE.exit_same ?_))
      exact TE.cut (out, A_out, c_out) (⟨hI.trans (by rw [hd]; exact rfl), (by first | omega | (simp <;> omega) | (simp at * <;> omega) | (simp only [w64_eq] at *; omega) | (simp only [List.length_append, List.length_cons, List.length_nil]; omega))⟩) (by kernel_rfl) (.cons_cons _ (.slnil))
  · rintro ⟨out_2, A_out_2, c_out_2⟩ ⟨hJ, hl_out_2⟩
    refine TE.next ?_
    refine TC.seq ?_
    refine TC.seq ?_
    refine TC.region ?_
    refine TL.run 2 [] [(3, .slice A_out_2 out_2.length c_out_2), (22, .bool (decide (n ≥ 0)))] rfl ⟨by kernel_rfl, by kernel_rfl⟩ ?_
    refine TL.next rfl ?_
    refine TC.cond (decide (n ≥ 0)) rfl (by kernel_rfl) (fun h2 => ?_) (fun h2 => ?_)
    · refine TC.seq ?_
      refine TC.region ?_
      refine TL.run 2 [] [(2, .slice A_out_2 out_2.length c_out_2)] rfl ⟨by kernel_rfl, by kernel_rfl⟩ ?_
      refine TL.next rfl ?_
      refine TC.ret ?_
      refine TE.ret_then ?_
      have e : skywayref1_limbs n = out_2 := by unfold skywayref1_limbs; exact bindv_eq (hR.symm.trans hJ) (cond_t h2 (rfl))
      rw [e]
      exact TE.retM (.inl rfl) (A_out_2, c_out_2) [] (.slice A_out_2 out_2.length c_out_2) ⟨by kernel_rfl, by kernel_rfl⟩ rfl (fun _ hM => hM.sub (.cons_cons _ (.slnil)))
    · refine TC.skip ?_
      refine TE.next ?_
      refine TC.seq ?_
      refine TC.region ?_
      refine TL.run 1 [] [(3, .slice A_out_2 out_2.length c_out_2), (6, .int .i64 1)] rfl ⟨by kernel_rfl, by kernel_rfl⟩ ?_
      refine TL.next rfl ?_
      refine TC.seq ?_
      refine TC.seq ?_
      refine TC.region ?_
      refine TL.run 3 [] [(3, .slice A_out_2 out_2.length c_out_2), (6, .int .i64 1), (25, .int .i64 (out_2.length : Int)), (26, .int .i64 0)] rfl ⟨by kernel_rfl, by kernel_rfl⟩ ?_
      refine TL.next rfl ?_
      refine TC.weak [(3, .slice A_out_2 out_2.length c_out_2), (6, .int .i64 1), (25, .int .i64 (out_2.length : Int)), (26, .int .i64 0)] (by kernel_rfl) ?_
      obtain ⟨R3, hR_2⟩ : ∃ R, R = skywayref1_limbs_L2 out_2.length 0 1 out_2 := ⟨_, rfl⟩
      refine TC.cut (S := (List Int)) (fun out_4 => [(3, .slice A_out_2 out_4.length c_out_2)]) (fun out_4 => [.inr (Own A_out_2 c_out_2 3 1 (out_4.map ic))]) (fun out_4 => R3 = out_4 ∧ out_4.length = out_2.length) ?_ ?_
      · refine TC.block ?_
        refine TC.loop (X := Nat × Int × (List Int)) (fun (k_2, rest, out_3) => [(3, .slice A_out_2 out_3.length c_out_2), (6, .int .i64 rest), (25, .int .i64 (out_2.length : Int)), (26, .int .i64 (k_2 : Int))]) (fun (k_2, rest, out_3) => [.inr (Own A_out_2 c_out_2 3 1 (out_3.map ic))]) (fun (k_2, rest, out_3) => out_2.length - k_2) (fun (k_2, rest, out_3) => k_2 ≤ out_2.length ∧ R3 = skywayref1_limbs_L2 (out_2.length - k_2) k_2 rest out_3 ∧ out_3.length = out_2.length) ?_ (0, 1, out_2) ⟨Nat.zero_le _, hR_2, (by first | omega | (simp; omega) | simp)⟩
        rintro ⟨k_2, rest, out_3⟩ ⟨hk_2, hI_2, hl_out_3⟩
        refine TC.seq ?_
        refine TC.region ?_
        refine TL.run 1 [] [(3, .slice A_out_2 out_3.length c_out_2), (6, .int .i64 rest), (25, .int .i64 (out_2.length : Int)), (26, .int .i64 (k_2 : Int)), (27, .bool (decide ((k_2 : Int) < (out_2.length : Int))))] rfl ⟨by kernel_rfl, by kernel_rfl⟩ ?_
        refine TL.next rfl ?_
        refine TC.seq ?_
        refine TC.cond (decide ((k_2 : Int) < (out_2.length : Int))) rfl (by kernel_rfl) (fun h3 => ?_) (fun h3 => ?_)
        · have hlt_2 : k_2 < out_2.length := by have := of_decide_eq_true h3; first | omega | (simp at this; omega)
          have hd_2 : out_2.length - k_2 = (out_2.length - (k_2 + 1)) + 1 := by omega
          refine TC.skip ?_
          refine TE.next ?_
          refine TC.seq ?_
          refine TC.block ?_
          refine TC.seq ?_
          refine TC.region ?_
          refine TL.run 2 [] [(3, .slice A_out_2 out_3.length c_out_2), (6, .int .i64 rest), (7, .int .i64 (k_2 : Int)), (25, .int .i64 (out_2.length : Int)), (26, .int .i64 (k_2 : Int))] rfl ⟨by kernel_rfl, by kernel_rfl⟩ ?_
          refine TL.next rfl ?_
          refine TC.seq ?_
          refine TC.region ?_
          refine TL.run 3 [] [(3, .slice A_out_2 out_3.length c_out_2), (7, .int .i64 (k_2 : Int)), (25, .int .i64 (out_2.length : Int)), (26, .int .i64 (k_2 : Int)), (29, .int .i64 rest), (30, .slice A_out_2 out_3.length c_out_2), (31, .int .i64 (k_2 : Int))] rfl ⟨by kernel_rfl, by kernel_rfl⟩ ?_
          refine TL.val (sV (Instr.indexAt 34 (.slice A_out_2 out_3.length c_out_2) (.int .i64 (k_2 : Int)))) (some 32) (.pointer (some ((A_out_2.getD noAddr).add (k_2 * 1)))) [(3, .slice A_out_2 out_3.length c_out_2), (7, .int .i64 (k_2 : Int)), (25, .int .i64 (out_2.length : Int)), (26, .int .i64 (k_2 : Int)), (29, .int .i64 rest), (32, .pointer (some ((A_out_2.getD noAddr).add (k_2 * 1))))] (fun w hM => run_index (hM.rd_at 0 rfl) (by simp) (by kernel_rfl) (by have q0_ := (dec_f h2); first | omega | (simp only [List.length_drop]; omega) | (simp only [w64_eq]; omega) | exact (tm_in (by (first | (rw [w64_id (by omega)]; omega) | (simp only [w64_eq]; omega))) (by omega)).1 | exact (tm_in (by (first | (rw [w64_id (by omega)]; omega) | (simp only [w64_eq]; omega))) (by omega)).2.1 | exact (tm_in (by (first | (rw [w64_id (by omega)]; omega) | (simp only [w64_eq]; omega))) (by omega)).2.2 | (simp only [List.length_take] at *; omega) | (simp <;> omega)) (by have q0_ := (dec_f h2); first | omega | (simp only [List.length_drop]; omega) | (simp only [w64_eq]; omega) | exact (tm_in (by (first | (rw [w64_id (by omega)]; omega) | (simp only [w64_eq]; omega))) (by omega)).1 | exact (tm_in (by (first | (rw [w64_id (by omega)]; omega) | (simp only [w64_eq]; omega))) (by omega)).2.1 | exact (tm_in (by (first | (rw [w64_id (by omega)]; omega) | (simp only [w64_eq]; omega))) (by omega)).2.2 | (simp only [List.length_take] at *; omega) | (simp <;> omega))) (by kernel_rfl) (by kernel_rfl) ?_
          refine TL.val (sV (Instr.loadAt 3 (.pointer (some ((A_out_2.getD noAddr).add (k_2 * 1)))))) (some 33) (.int .i64 (out_3[k_2]?.getD 0)) [(3, .slice A_out_2 out_3.length c_out_2), (7, .int .i64 (k_2 : Int)), (25, .int .i64 (out_2.length : Int)), (26, .int .i64 (k_2 : Int)), (29, .int .i64 rest), (33, .int .i64 (out_3[k_2]?.getD 0))] (fun w hM => run_load_one (off := 0) (i := k_2) (.int .i64 (out_3[k_2]?.getD 0)) (hM.rd_at 0 rfl) (map_at (getD_at _ _ 0 (by have q0_ := (dec_f h2); first | omega | (simp only [List.length_drop]; omega) | (simp only [w64_eq]; omega) | exact (tm_in (by (first | (rw [w64_id (by omega)]; omega) | (simp only [w64_eq]; omega))) (by omega)).1 | exact (tm_in (by (first | (rw [w64_id (by omega)]; omega) | (simp only [w64_eq]; omega))) (by omega)).2.1 | exact (tm_in (by (first | (rw [w64_id (by omega)]; omega) | (simp only [w64_eq]; omega))) (by omega)).2.2 | (simp only [List.length_take] at *; omega) | (simp <;> omega)))) (by kernel_rfl) (by kernel_rfl)) (by kernel_rfl) (by kernel_rfl) ?_
          refine TL.run 8 [] [(3, .slice A_out_2 out_3.length c_out_2), (6, .int .i64 (w64 (rest + (w64 (65535 - (out_3[k_2]?.getD 0)))))), (7, .int .i64 (k_2 : Int)), (25, .int .i64 (out_2.length : Int)), (26, .int .i64 (k_2 : Int))] rfl ⟨by kernel_rfl, by kernel_rfl⟩ ?_
          refine TL.next rfl ?_
          refine TC.seq ?_
          refine TC.region ?_
          refine TL.run 4 [] [(3, .slice A_out_2 out_3.length c_out_2), (6, .int .i64 (w64 (rest + (w64 (65535 - (out_3[k_2]?.getD 0)))))), (25, .int .i64 (out_2.length : Int)), (26, .int .i64 (k_2 : Int)), (36, .slice A_out_2 out_3.length c_out_2), (37, .int .i64 (k_2 : Int)), (39, .int .i64 ((w64 (rest + (w64 (65535 - (out_3[k_2]?.getD 0))))).tmod 65536))] rfl ⟨by kernel_rfl, by kernel_rfl⟩ ?_
          refine TL.val (sV (Instr.indexAt 34 (.slice A_out_2 out_3.length c_out_2) (.int .i64 (k_2 : Int)))) (some 40) (.pointer (some ((A_out_2.getD noAddr).add (k_2 * 1)))) [(3, .slice A_out_2 out_3.length c_out_2), (6, .int .i64 (w64 (rest + (w64 (65535 - (out_3[k_2]?.getD 0)))))), (25, .int .i64 (out_2.length : Int)), (26, .int .i64 (k_2 : Int)), (39, .int .i64 ((w64 (rest + (w64 (65535 - (out_3[k_2]?.getD 0))))).tmod 65536)), (40, .pointer (some ((A_out_2.getD noAddr).add (k_2 * 1))))] (fun w hM => run_index (hM.rd_at 0 rfl) (by simp) (by kernel_rfl) (by have q0_ := (dec_f h2); first | omega | (simp only [List.length_drop]; omega) | (simp only [w64_eq]; omega) | exact (tm_in (by (first | (rw [w64_id (by omega)]; omega) | (simp only [w64_eq]; omega))) (by omega)).1 | exact (tm_in (by (first | (rw [w64_id (by omega)]; omega) | (simp only [w64_eq]; omega))) (by omega)).2.1 | exact (tm_in (by (first | (rw [w64_id (by omega)]; omega) | (simp only [w64_eq]; omega))) (by omega)).2.2 | (simp only [List.length_take] at *; omega) | (simp <;> omega)) (by have q0_ := (dec_f h2); first | omega | (simp only [List.length_drop]; omega) | (simp only [w64_eq]; omega) | exact (tm_in (by (first | (rw [w64_id (by omega)]; omega) | (simp only [w64_eq]; omega))) (by omega)).1 | exact (tm_in (by (first | (rw [w64_id (by omega)]; omega) | (simp only [w64_eq]; omega))) (by omega)).2.1 | exact (tm_in (by (first | (rw [w64_id (by omega)]; omega) | (simp only [w64_eq]; omega))) (by omega)).2.2 | (simp only [List.length_take] at *; omega) | (simp <;> omega))) (by kernel_rfl) (by kernel_rfl) ?_
          refine TL.skipM (Γ := Unit) (sU (Instr.storeAt 3 (.pointer (some (((A_out_2.getD noAddr).add (k_2 * 1)).add 0))) (.int .i64 ((w64 (rest + (w64 (65535 - (out_3[k_2]?.getD 0))))).tmod 65536)))) none (fun _ => [.inr (Own A_out_2 c_out_2 3 1 ((out_3.set k_2 ((w64 (rest + (w64 (65535 - (out_3[k_2]?.getD 0))))).tmod 65536)).map ic))]) (fun _ => [(3, .slice A_out_2 out_3.length c_out_2), (6, .int .i64 (w64 (rest + (w64 (65535 - (out_3[k_2]?.getD 0)))))), (25, .int .i64 (out_2.length : Int)), (26, .int .i64 (k_2 : Int))]) (run_store_at (n := 1) (off := 0) (.int .i64 ((w64 (rest + (w64 (65535 - (out_3[k_2]?.getD 0))))).tmod 65536)) 0 ((out_3.set k_2 ((w64 (rest + (w64 (65535 - (out_3[k_2]?.getD 0))))).tmod 65536)).map ic) rfl (map_at (getD_at _ _ 0 (by have q0_ := (dec_f h2); first | omega | (simp only [List.length_drop]; omega) | (simp only [w64_eq]; omega) | exact (tm_in (by (first | (rw [w64_id (by omega)]; omega) | (simp only [w64_eq]; omega))) (by omega)).1 | exact (tm_in (by (first | (rw [w64_id (by omega)]; omega) | (simp only [w64_eq]; omega))) (by omega)).2.1 | exact (tm_in (by (first | (rw [w64_id (by omega)]; omega) | (simp only [w64_eq]; omega))) (by omega)).2.2 | (simp only [List.length_take] at *; omega) | (simp <;> omega)))) (by kernel_rfl) (by kernel_rfl) (by kernel_rfl) (by kernel_rfl) (set_map_at (by kernel_rfl))) (by kernel_rfl) (fun _ => by kernel_rfl) (fun _ => ?_)
          refine TL.rw 3 (.slice A_out_2 out_3.length c_out_2) (.slice A_out_2 ((out_3.set k_2 ((w64 (rest + (w64 (65535 - (out_3[k_2]?.getD 0))))).tmod 65536)).length) c_out_2) (by kernel_rfl) (by simp only [List.length_set]) ?_
          refine TL.next rfl ?_
          refine TC.region ?_
          refine TL.run 3 [] [(3, .slice A_out_2 ((out_3.set k_2 ((w64 (rest + (w64 (65535 - (out_3[k_2]?.getD 0))))).tmod 65536)).length) c_out_2), (6, .int .i64 (w64 ((w64 (rest + (w64 (65535 - (out_3[k_2]?.getD 0))))).tdiv 65536))), (25, .int .i64 (out_2.length : Int)), (26, .int .i64 (k_2 : Int))] rfl ⟨by kernel_rfl, by kernel_rfl⟩ ?_
          refine TL.done rfl ?_
          refine TE.normal_block ?_
          refine TE.next ?_
          refine TC.region ?_
          refine TL.run 2 [] [(3, .slice A_out_2 ((out_3.set k_2 ((w64 (rest + (w64 (65535 - (out_3[k_2]?.getD 0))))).tmod 65536)).length) c_out_2), (6, .int .i64 (w64 ((w64 (rest + (w64 (65535 - (out_3[k_2]?.getD 0))))).tdiv 65536))), (25, .int .i64 (out_2.length : Int)), (26, .int .i64 (w64 ((k_2 : Int) + 1)))] rfl ⟨by kernel_rfl, by kernel_rfl⟩ ?_
          refine TL.done rfl ?_
          refine TE.rw 26 (.int .i64 (w64 ((k_2 : Int) + 1))) (.int .i64 ((k_2 + 1 : Nat) : Int)) (by kernel_rfl) (w64_cast k_2 (by omega)) ?_
          exact TE.again (x := (k_2, rest, out_3)) (k_2 + 1, w64 ((w64 (rest + (w64 (65535 - (out_3[k_2]?.getD 0))))).tdiv 65536), (out_3.set k_2 ((w64 (rest + (w64 (65535 - (out_3[k_2]?.getD 0))))).tmod 65536))) ⟨by omega, hI_2.trans (by rw [hd_2]; exact rfl), (by have q0_ := (dec_f h2); first | omega | (simp <;> omega) | (simp at * <;> omega) | (simp only [w64_eq] at *; omega) | (simp only [List.length_append, List.length_cons, List.length_nil]; omega))⟩ (by show out_2.length - (k_2 + 1) < out_2.length - k_2; omega) (by kernel_rfl) (.cons_cons _ (.slnil))
        · have hd_2 : out_2.length - k_2 = 0 := by have := of_decide_eq_false h3; first | omega | (simp at this; omega)
          refine TC.exit ?_
          refine TE.exit_then (TE.exit_then (TE.exit_same ?_))
          exact TE.cut out_3 (⟨hI_2.trans (by rw [hd_2]; exact rfl), (by have q0_ := (dec_f h2); first | omega | (simp <;> omega) | (simp at * <;> omega) | (simp only [w64_eq] at *; omega) | (simp only [List.length_append, List.length_cons, List.length_nil]; omega))⟩) (by kernel_rfl) (.cons_cons _ (.slnil))
      · rintro out_4 ⟨hJ_2, hl_out_4⟩
        refine TE.next ?_
        refine TC.seq ?_
        refine TC.region ?_
        refine TL.run 2 [] [(2, .slice A_out_2 out_4.length c_out_2)] rfl ⟨by kernel_rfl, by kernel_rfl⟩ ?_
        refine TL.next rfl ?_
        refine TC.ret ?_
        have e : skywayref1_limbs n = out_4 := by unfold skywayref1_limbs; exact bindv_eq (hR.symm.trans hJ) (cond_f h2 (bindv_eq (hR_2.symm.trans hJ_2) (rfl)))
        rw [e]
        exact TE.retM (.inl rfl) (A_out_2, c_out_2) [] (.slice A_out_2 out_4.length c_out_2) ⟨by kernel_rfl, by kernel_rfl⟩ rfl (fun _ hM => hM.sub (.cons_cons _ (.slnil)))

def skywayref1_product_L2 (k : Nat) (x : Int) : List Int → Nat → (List Int) → (List Int)
  | [], _, out_3 => out_3
  | x_2 :: xs, k_2, out_3 => skywayref1_product_L2 k x xs (k_2 + 1) (out_3.set ((w64 ((k : Int) + (k_2 : Int))).toNat) (w64 ((out_3[(w64 ((k : Int) + (k_2 : Int))).toNat]?.getD 0) + (w64 (x * x_2)))))
def skywayref1_product_L1 (r2 : List Int) : List Int → Nat → (List Int) → (List Int)
  | [], _, out => out
  | x :: xs, k, out => bindv (skywayref1_product_L2 k x r2 0 out) (fun out_4 =>
      skywayref1_product_L1 r2 xs (k + 1) out_4)
def skywayref1_product_L3 : Nat → Nat → Int → (List Int) → (List Int)
  | 0, _, _, out_5 => out_5
  | m + 1, k_3, rest, out_5 => skywayref1_product_L3 m (k_3 + 1) (w64 ((w64 (rest + (out_5[k_3]?.getD 0))).tdiv 65536)) (out_5.set k_3 ((w64 (rest + (out_5[k_3]?.getD 0))).tmod 65536))
def skywayref1_product (a : Int) (b_ : Int) : List Int :=
  let r1 := skywayref1_limbs a
  let r2 := skywayref1_limbs b_
  bindv (skywayref1_product_L1 r2 r1 0 (List.replicate 9 (0:Int))) (fun out_2 =>
    bindv (skywayref1_product_L3 out_2.length 0 0 out_2) (fun out_6 =>
      out_6))

theorem limbs_len1 (n : Int) : ∀ (m k : Nat) (out : List Int), (skywayref1_limbs_L1 n m k out).length = out.length + m
  | 0, _, _ => rfl
  | m + 1, k, out => by
    unfold skywayref1_limbs_L1
    rw [limbs_len1 n m (k + 1), List.length_append, List.length_singleton]; omega
theorem limbs_len2 : ∀ (m k : Nat) (r : Int) (out : List Int), (skywayref1_limbs_L2 m k r out).length = out.length
  | 0, _, _, _ => rfl
  | m + 1, k, r, out => by
    unfold skywayref1_limbs_L2
    rw [limbs_len2 m (k + 1), List.length_set]
theorem limbs_len {n : Int} {r : List Int} (hr : skywayref1_limbs n = r) : r.length = 4 := by
  subst hr
  have h := limbs_len1 n (4 : Int).toNat 0 []
  unfold skywayref1_limbs bindv
  cases decide (n ≥ 0)
  · show (skywayref1_limbs_L2 _ 0 1 _).length = 4
    rw [limbs_len2]; exact h
  · exact h

set_option maxRecDepth 100000 in
theorem skywayref1_product_w (a : Int) (b_ : Int) (w : World) : Calls Try.prog 75 #[.int .i64 a, .int .i64 b_] w (RetM (Γ := (Option Addr × Nat)) (cx w) (fun g => .slice g.1 ((skywayref1_product a b_).length) g.2) (fun g => [.inr (Own g.1 g.2 3 1 ((skywayref1_product a b_).map ic))])) := by
  refine calls_intro (vs := [.int .i64 a, .int .i64 b_]) (w := w) Try.func75 rfl Try.ntmps75 rfl ?_
  refine TC.weak [(0, .int .i64 a), (1, .int .i64 b_)] (by kernel_rfl) ?_
  refine TC.seq ?_
  refine TC.region ?_
  refine TL.run 1 [] [(0, .int .i64 a), (1, .int .i64 b_)] rfl ⟨by kernel_rfl, by kernel_rfl⟩ ?_
  refine TL.next rfl ?_
  refine TC.seq ?_
  refine TC.region ?_
  refine TL.run 1 [] [(1, .int .i64 b_), (12, .int .i64 a)] rfl ⟨by kernel_rfl, by kernel_rfl⟩ ?_
  refine TL.callN (Γ := (Option Addr × Nat)) (fun g => .slice g.1 ((skywayref1_limbs a).length) g.2) (fun g => [.inr (Own g.1 g.2 3 1 ((skywayref1_limbs a).map ic))]) (fun g => [.inr (Own g.1 g.2 3 1 ((skywayref1_limbs a).map ic))]) (fun g => rfl) (some 13) (fun g => [(1, .int .i64 b_), (13, .slice g.1 ((skywayref1_limbs a).length) g.2)]) (fun w _ => skywayref1_limbs_w a w) (by kernel_rfl) (fun g => by kernel_rfl) ?_
  rintro ⟨A, c⟩
  generalize hr1 : skywayref1_limbs a = r1
  refine TL.know (fun w hM => hM.short_at 0 rfl) (fun s_r1_0 => ?_)
  refine TL.run 3 [] [(13, .slice A r1.length c), (14, .int .i64 b_)] rfl ⟨by kernel_rfl, by kernel_rfl⟩ ?_
  refine TL.callN (Γ := (Option Addr × Nat)) (fun g => .slice g.1 ((skywayref1_limbs b_).length) g.2) (fun g => [.inr (Own g.1 g.2 3 1 ((skywayref1_limbs b_).map ic))]) (fun g => [.inr (Own g.1 g.2 3 1 ((skywayref1_limbs b_).map ic)), .inr (Own A c 3 1 (r1.map ic))]) (fun g => rfl) (some 15) (fun g => [(13, .slice A r1.length c), (15, .slice g.1 ((skywayref1_limbs b_).length) g.2)]) (fun w _ => skywayref1_limbs_w b_ w) (by kernel_rfl) (fun g => by kernel_rfl) ?_
  rintro ⟨A_2, c_2⟩
  generalize hr2 : skywayref1_limbs b_ = r2
  refine TL.know (fun w hM => hM.short_at 0 rfl) (fun s_r2_0 => ?_)
  refine TL.run 6 [] [(5, .slice A r1.length c), (6, .slice A_2 r2.length c_2)] rfl ⟨by kernel_rfl, by kernel_rfl⟩ ?_
  refine TL.next rfl ?_
  refine TC.seq ?_
  refine TC.region ?_
  refine TL.opM (Γ := Option Addr × Nat) (sV (Instr.makeSlice 34 (.int .i64 9) (.int .i64 9))) (some 16) (fun g => .slice g.1 (List.replicate 9 (0:Int)).length g.2) (fun g => [.inr (Own g.1 g.2 3 1 ((List.replicate 9 (0:Int)).map ic)), .inr (Own A_2 c_2 3 1 (r2.map ic)), .inr (Own A c 3 1 (r1.map ic))]) (fun g => [(5, .slice A r1.length c), (6, .slice A_2 r2.length c_2), (16, .slice g.1 ((List.replicate 9 (0:Int)).length) g.2)]) (make_at (bytes := 8) 0 .i64 .i64 9 (by kernel_rfl) (by kernel_rfl) (by (try have l1_ := limbs_len hr1); (try have l2_ := limbs_len hr2); first | omega | (simp only [List.length_drop]; omega) | (simp only [w64_eq]; omega) | exact (tm_in (by (first | (rw [w64_id (by omega)]; omega) | (simp only [w64_eq]; omega))) (by omega)).1 | exact (tm_in (by (first | (rw [w64_id (by omega)]; omega) | (simp only [w64_eq]; omega))) (by omega)).2.1 | exact (tm_in (by (first | (rw [w64_id (by omega)]; omega) | (simp only [w64_eq]; omega))) (by omega)).2.2 | (simp only [List.length_take] at *; omega) | (simp <;> omega)) (by (try have l1_ := limbs_len hr1); (try have l2_ := limbs_len hr2); first | omega | (simp only [List.length_drop]; omega) | (simp only [w64_eq]; omega) | exact (tm_in (by (first | (rw [w64_id (by omega)]; omega) | (simp only [w64_eq]; omega))) (by omega)).1 | exact (tm_in (by (first | (rw [w64_id (by omega)]; omega) | (simp only [w64_eq]; omega))) (by omega)).2.1 | exact (tm_in (by (first | (rw [w64_id (by omega)]; omega) | (simp only [w64_eq]; omega))) (by omega)).2.2 | (simp only [List.length_take] at *; omega) | (simp <;> omega))) (by kernel_rfl) (fun g => by kernel_rfl) ?_
  rintro ⟨A_3, c_3⟩
  refine TL.run 2 [] [(5, .slice A r1.length c), (6, .slice A_2 r2.length c_2), (7, .slice A_3 ((List.replicate 9 (0:Int)).length) c_3)] rfl ⟨by kernel_rfl, by kernel_rfl⟩ ?_
  refine TL.next rfl ?_
  refine TC.seq ?_
  refine TC.seq ?_
  refine TC.region ?_
  refine TL.run 3 [] [(5, .slice A r1.length c), (6, .slice A_2 r2.length c_2), (7, .slice A_3 ((List.replicate 9 (0:Int)).length) c_3), (18, .int .i64 (r1.length : Int)), (19, .int .i64 0)] rfl ⟨by kernel_rfl, by kernel_rfl⟩ ?_
  refine TL.next rfl ?_
  refine TC.weak [(5, .slice A r1.length c), (6, .slice A_2 r2.length c_2), (7, .slice A_3 ((List.replicate 9 (0:Int)).length) c_3), (18, .int .i64 (r1.length : Int)), (19, .int .i64 0)] (by kernel_rfl) ?_
  obtain ⟨R2, hR⟩ : ∃ R, R = skywayref1_product_L1 r2 r1 0 (List.replicate 9 (0:Int)) := ⟨_, rfl⟩
  refine TC.cut (S := (List Int)) (fun out_2 => [(7, .slice A_3 out_2.length c_3)]) (fun out_2 => [.inr (Own A_3 c_3 3 1 (out_2.map ic))]) (fun out_2 => R2 = out_2 ∧ out_2.length = 9) ?_ ?_
  · refine TC.block ?_
    refine TC.loop (X := Nat × (List Int)) (fun (k, out) => [(5, .slice A r1.length c), (6, .slice A_2 r2.length c_2), (7, .slice A_3 out.length c_3), (18, .int .i64 (r1.length : Int)), (19, .int .i64 (k : Int))]) (fun (k, out) => [.inr (Own A_3 c_3 3 1 (out.map ic)), .inr (Own A_2 c_2 3 1 (r2.map ic)), .inr (Own A c 3 1 (r1.map ic))]) (fun (k, out) => r1.length - k) (fun (k, out) => k ≤ r1.length ∧ R2 = skywayref1_product_L1 r2 (r1.drop k) k out ∧ out.length = 9) ?_ (0, (List.replicate 9 (0:Int))) ⟨Nat.zero_le _, hR, (by first | omega | (simp; omega) | simp)⟩
    rintro ⟨k, out⟩ ⟨hk, hI, hl_out⟩
    refine TC.seq ?_
    refine TC.region ?_
    refine TL.run 1 [] [(5, .slice A r1.length c), (6, .slice A_2 r2.length c_2), (7, .slice A_3 out.length c_3), (18, .int .i64 (r1.length : Int)), (19, .int .i64 (k : Int)), (20, .bool (decide ((k : Int) < (r1.length : Int))))] rfl ⟨by kernel_rfl, by kernel_rfl⟩ ?_
    refine TL.next rfl ?_
    refine TC.seq ?_
    refine TC.cond (decide ((k : Int) < (r1.length : Int))) rfl (by kernel_rfl) (fun h1 => ?_) (fun h1 => ?_)
    · have hlt : k < r1.length := by have := of_decide_eq_true h1; first | omega | (simp at this; omega)
      obtain ⟨x, hx⟩ : ∃ x, r1[k]? = some x := ⟨_, List.getElem?_eq_getElem hlt⟩
      have hd := drop_at hx
      refine TC.skip ?_
      refine TE.next ?_
      refine TC.seq ?_
      refine TC.block ?_
      refine TC.seq ?_
      refine TC.region ?_
      refine TL.run 2 [] [(5, .slice A r1.length c), (6, .slice A_2 r2.length c_2), (7, .slice A_3 out.length c_3), (8, .int .i64 (k : Int)), (18, .int .i64 (r1.length : Int)), (19, .int .i64 (k : Int))] rfl ⟨by kernel_rfl, by kernel_rfl⟩ ?_
      refine TL.next rfl ?_
      refine TC.seq ?_
      refine TC.region ?_
      refine TL.run 3 [] [(5, .slice A r1.length c), (6, .slice A_2 r2.length c_2), (7, .slice A_3 out.length c_3), (8, .int .i64 (k : Int)), (18, .int .i64 (r1.length : Int)), (19, .int .i64 (k : Int)), (23, .int .i64 (r2.length : Int)), (24, .int .i64 0)] rfl ⟨by kernel_rfl, by kernel_rfl⟩ ?_
      refine TL.next rfl ?_
      refine TC.weak [(5, .slice A r1.length c), (6, .slice A_2 r2.length c_2), (7, .slice A_3 out.length c_3), (8, .int .i64 (k : Int)), (18, .int .i64 (r1.length : Int)), (19, .int .i64 (k : Int)), (23, .int .i64 (r2.length : Int)), (24, .int .i64 0)] (by kernel_rfl) ?_
      obtain ⟨R3, hR_2⟩ : ∃ R, R = skywayref1_product_L2 k x r2 0 out := ⟨_, rfl⟩
      refine TC.cut (S := (List Int)) (fun out_4 => [(5, .slice A r1.length c), (6, .slice A_2 r2.length c_2), (7, .slice A_3 out_4.length c_3), (18, .int .i64 (r1.length : Int)), (19, .int .i64 (k : Int))]) (fun out_4 => [.inr (Own A_3 c_3 3 1 (out_4.map ic)), .inr (Own A_2 c_2 3 1 (r2.map ic)), .inr (Own A c 3 1 (r1.map ic))]) (fun out_4 => R3 = out_4 ∧ out_4.length = out.length) ?_ ?_
      · refine TC.block ?_
        refine TC.loop (X := Nat × (List Int)) (fun (k_2, out_3) => [(5, .slice A r1.length c), (6, .slice A_2 r2.length c_2), (7, .slice A_3 out_3.length c_3), (8, .int .i64 (k : Int)), (18, .int .i64 (r1.length : Int)), (19, .int .i64 (k : Int)), (23, .int .i64 (r2.length : Int)), (24, .int .i64 (k_2 : Int))]) (fun (k_2, out_3) => [.inr (Own A_3 c_3 3 1 (out_3.map ic)), .inr (Own A_2 c_2 3 1 (r2.map ic)), .inr (Own A c 3 1 (r1.map ic))]) (fun (k_2, out_3) => r2.length - k_2) (fun (k_2, out_3) => k_2 ≤ r2.length ∧ R3 = skywayref1_product_L2 k x (r2.drop k_2) k_2 out_3 ∧ out_3.length = out.length) ?_ (0, out) ⟨Nat.zero_le _, hR_2, (by first | omega | (simp; omega) | simp)⟩
        rintro ⟨k_2, out_3⟩ ⟨hk_2, hI_2, hl_out_3⟩
        refine TC.seq ?_
        refine TC.region ?_
        refine TL.run 1 [] [(5, .slice A r1.length c), (6, .slice A_2 r2.length c_2), (7, .slice A_3 out_3.length c_3), (8, .int .i64 (k : Int)), (18, .int .i64 (r1.length : Int)), (19, .int .i64 (k : Int)), (23, .int .i64 (r2.length : Int)), (24, .int .i64 (k_2 : Int)), (25, .bool (decide ((k_2 : Int) < (r2.length : Int))))] rfl ⟨by kernel_rfl, by kernel_rfl⟩ ?_
        refine TL.next rfl ?_
        refine TC.seq ?_
        refine TC.cond (decide ((k_2 : Int) < (r2.length : Int))) rfl (by kernel_rfl) (fun h2 => ?_) (fun h2 => ?_)
        · have hlt_2 : k_2 < r2.length := by have := of_decide_eq_true h2; first | omega | (simp at this; omega)
          obtain ⟨x_2, hx_2⟩ : ∃ x, r2[k_2]? = some x := ⟨_, List.getElem?_eq_getElem hlt_2⟩
          have hd_2 := drop_at hx_2
          refine TC.skip ?_
          refine TE.next ?_
          refine TC.seq ?_
          refine TC.block ?_
          refine TC.seq ?_
          refine TC.region ?_
          refine TL.run 2 [] [(5, .slice A r1.length c), (6, .slice A_2 r2.length c_2), (7, .slice A_3 out_3.length c_3), (8, .int .i64 (k : Int)), (9, .int .i64 (k_2 : Int)), (18, .int .i64 (r1.length : Int)), (19, .int .i64 (k : Int)), (23, .int .i64 (r2.length : Int)), (24, .int .i64 (k_2 : Int))] rfl ⟨by kernel_rfl, by kernel_rfl⟩ ?_
          refine TL.next rfl ?_
          refine TC.drawTail 17 (by kernel_rfl) (by kernel_rfl) ?_
          refine TQ.run 4 [] [(5, .slice A r1.length c), (6, .slice A_2 r2.length c_2), (7, .slice A_3 out_3.length c_3), (8, .int .i64 (k : Int)), (9, .int .i64 (k_2 : Int)), (18, .int .i64 (r1.length : Int)), (19, .int .i64 (k : Int)), (23, .int .i64 (r2.length : Int)), (24, .int .i64 (k_2 : Int)), (27, .slice A_3 out_3.length c_3), (30, .int .i64 (w64 ((k : Int) + (k_2 : Int))))] rfl ⟨by kernel_rfl, by kernel_rfl⟩ ?_
          refine TQ.val (sV (Instr.indexAt 34 (.slice A_3 out_3.length c_3) (.int .i64 (w64 ((k : Int) + (k_2 : Int)))))) (some 31) (.pointer (some ((A_3.getD noAddr).add ((w64 ((k : Int) + (k_2 : Int))).toNat * 1)))) [(5, .slice A r1.length c), (6, .slice A_2 r2.length c_2), (7, .slice A_3 out_3.length c_3), (8, .int .i64 (k : Int)), (9, .int .i64 (k_2 : Int)), (18, .int .i64 (r1.length : Int)), (19, .int .i64 (k : Int)), (23, .int .i64 (r2.length : Int)), (24, .int .i64 (k_2 : Int)), (27, .slice A_3 out_3.length c_3), (30, .int .i64 (w64 ((k : Int) + (k_2 : Int)))), (31, .pointer (some ((A_3.getD noAddr).add ((w64 ((k : Int) + (k_2 : Int))).toNat * 1))))] (fun w hM => run_index (hM.rd_at 0 rfl) (by simp) (by kernel_rfl) (by (try have l1_ := limbs_len hr1); (try have l2_ := limbs_len hr2); first | omega | (simp only [List.length_drop]; omega) | (simp only [w64_eq]; omega) | exact (tm_in (by (first | (rw [w64_id (by omega)]; omega) | (simp only [w64_eq]; omega))) (by omega)).1 | exact (tm_in (by (first | (rw [w64_id (by omega)]; omega) | (simp only [w64_eq]; omega))) (by omega)).2.1 | exact (tm_in (by (first | (rw [w64_id (by omega)]; omega) | (simp only [w64_eq]; omega))) (by omega)).2.2 | (simp only [List.length_take] at *; omega) | (simp <;> omega)) (by (try have l1_ := limbs_len hr1); (try have l2_ := limbs_len hr2); first | omega | (simp only [List.length_drop]; omega) | (simp only [w64_eq]; omega) | exact (tm_in (by (first | (rw [w64_id (by omega)]; omega) | (simp only [w64_eq]; omega))) (by omega)).1 | exact (tm_in (by (first | (rw [w64_id (by omega)]; omega) | (simp only [w64_eq]; omega))) (by omega)).2.1 | exact (tm_in (by (first | (rw [w64_id (by omega)]; omega) | (simp only [w64_eq]; omega))) (by omega)).2.2 | (simp only [List.length_take] at *; omega) | (simp <;> omega))) rfl (by kernel_rfl) (by kernel_rfl) ?_
          refine TQ.val (sV (Instr.loadAt 3 (.pointer (some ((A_3.getD noAddr).add ((w64 ((k : Int) + (k_2 : Int))).toNat * 1)))))) (some 32) (.int .i64 (out_3[(w64 ((k : Int) + (k_2 : Int))).toNat]?.getD 0)) [(5, .slice A r1.length c), (6, .slice A_2 r2.length c_2), (7, .slice A_3 out_3.length c_3), (8, .int .i64 (k : Int)), (9, .int .i64 (k_2 : Int)), (18, .int .i64 (r1.length : Int)), (19, .int .i64 (k : Int)), (23, .int .i64 (r2.length : Int)), (24, .int .i64 (k_2 : Int)), (27, .slice A_3 out_3.length c_3), (30, .int .i64 (w64 ((k : Int) + (k_2 : Int)))), (32, .int .i64 (out_3[(w64 ((k : Int) + (k_2 : Int))).toNat]?.getD 0))] (fun w hM => run_load_one (off := 0) (i := (w64 ((k : Int) + (k_2 : Int))).toNat) (.int .i64 (out_3[(w64 ((k : Int) + (k_2 : Int))).toNat]?.getD 0)) (hM.rd_at 0 rfl) (map_at (getD_at _ _ 0 (by (try have l1_ := limbs_len hr1); (try have l2_ := limbs_len hr2); first | omega | (simp only [List.length_drop]; omega) | (simp only [w64_eq]; omega) | exact (tm_in (by (first | (rw [w64_id (by omega)]; omega) | (simp only [w64_eq]; omega))) (by omega)).1 | exact (tm_in (by (first | (rw [w64_id (by omega)]; omega) | (simp only [w64_eq]; omega))) (by omega)).2.1 | exact (tm_in (by (first | (rw [w64_id (by omega)]; omega) | (simp only [w64_eq]; omega))) (by omega)).2.2 | (simp only [List.length_take] at *; omega) | (simp <;> omega)))) (by kernel_rfl) (by kernel_rfl)) rfl (by kernel_rfl) (by kernel_rfl) ?_
          refine TQ.run 8 [] [(5, .slice A r1.length c), (6, .slice A_2 r2.length c_2), (7, .slice A_3 out_3.length c_3), (8, .int .i64 (k : Int)), (9, .int .i64 (k_2 : Int)), (18, .int .i64 (r1.length : Int)), (19, .int .i64 (k : Int)), (23, .int .i64 (r2.length : Int)), (24, .int .i64 (k_2 : Int)), (27, .slice A_3 out_3.length c_3), (30, .int .i64 (w64 ((k : Int) + (k_2 : Int)))), (32, .int .i64 (out_3[(w64 ((k : Int) + (k_2 : Int))).toNat]?.getD 0)), (33, .slice A r1.length c), (34, .int .i64 (k : Int))] rfl ⟨by kernel_rfl, by kernel_rfl⟩ ?_
          refine TQ.val (sV (Instr.indexAt 34 (.slice A r1.length c) (.int .i64 (k : Int)))) (some 35) (.pointer (some ((A.getD noAddr).add (k * 1)))) [(5, .slice A r1.length c), (6, .slice A_2 r2.length c_2), (7, .slice A_3 out_3.length c_3), (8, .int .i64 (k : Int)), (9, .int .i64 (k_2 : Int)), (18, .int .i64 (r1.length : Int)), (19, .int .i64 (k : Int)), (23, .int .i64 (r2.length : Int)), (24, .int .i64 (k_2 : Int)), (27, .slice A_3 out_3.length c_3), (30, .int .i64 (w64 ((k : Int) + (k_2 : Int)))), (32, .int .i64 (out_3[(w64 ((k : Int) + (k_2 : Int))).toNat]?.getD 0)), (35, .pointer (some ((A.getD noAddr).add (k * 1))))] (fun w hM => run_index (hM.rd_at 2 rfl) (by simp) (by kernel_rfl) (by (try have l1_ := limbs_len hr1); (try have l2_ := limbs_len hr2); first | omega | (simp only [List.length_drop]; omega) | (simp only [w64_eq]; omega) | exact (tm_in (by (first | (rw [w64_id (by omega)]; omega) | (simp only [w64_eq]; omega))) (by omega)).1 | exact (tm_in (by (first | (rw [w64_id (by omega)]; omega) | (simp only [w64_eq]; omega))) (by omega)).2.1 | exact (tm_in (by (first | (rw [w64_id (by omega)]; omega) | (simp only [w64_eq]; omega))) (by omega)).2.2 | (simp only [List.length_take] at *; omega) | (simp <;> omega)) (by (try have l1_ := limbs_len hr1); (try have l2_ := limbs_len hr2); first | omega | (simp only [List.length_drop]; omega) | (simp only [w64_eq]; omega) | exact (tm_in (by (first | (rw [w64_id (by omega)]; omega) | (simp only [w64_eq]; omega))) (by omega)).1 | exact (tm_in (by (first | (rw [w64_id (by omega)]; omega) | (simp only [w64_eq]; omega))) (by omega)).2.1 | exact (tm_in (by (first | (rw [w64_id (by omega)]; omega) | (simp only [w64_eq]; omega))) (by omega)).2.2 | (simp only [List.length_take] at *; omega) | (simp <;> omega))) rfl (by kernel_rfl) (by kernel_rfl) ?_
          refine TQ.val (sV (Instr.loadAt 3 (.pointer (some ((A.getD noAddr).add (k * 1)))))) (some 36) (.int .i64 x) [(5, .slice A r1.length c), (6, .slice A_2 r2.length c_2), (7, .slice A_3 out_3.length c_3), (8, .int .i64 (k : Int)), (9, .int .i64 (k_2 : Int)), (18, .int .i64 (r1.length : Int)), (19, .int .i64 (k : Int)), (23, .int .i64 (r2.length : Int)), (24, .int .i64 (k_2 : Int)), (27, .slice A_3 out_3.length c_3), (30, .int .i64 (w64 ((k : Int) + (k_2 : Int)))), (32, .int .i64 (out_3[(w64 ((k : Int) + (k_2 : Int))).toNat]?.getD 0)), (36, .int .i64 x)] (fun w hM => run_load_one (off := 0) (i := k) (.int .i64 x) (hM.rd_at 2 rfl) (map_at hx) (by kernel_rfl) (by kernel_rfl)) rfl (by kernel_rfl) (by kernel_rfl) ?_
          refine TQ.run 12 [] [(5, .slice A r1.length c), (6, .slice A_2 r2.length c_2), (7, .slice A_3 out_3.length c_3), (8, .int .i64 (k : Int)), (18, .int .i64 (r1.length : Int)), (19, .int .i64 (k : Int)), (23, .int .i64 (r2.length : Int)), (24, .int .i64 (k_2 : Int)), (27, .slice A_3 out_3.length c_3), (30, .int .i64 (w64 ((k : Int) + (k_2 : Int)))), (32, .int .i64 (out_3[(w64 ((k : Int) + (k_2 : Int))).toNat]?.getD 0)), (36, .int .i64 x), (37, .slice A_2 r2.length c_2), (38, .int .i64 (k_2 : Int))] rfl ⟨by kernel_rfl, by kernel_rfl⟩ ?_
          refine TQ.val (sV (Instr.indexAt 34 (.slice A_2 r2.length c_2) (.int .i64 (k_2 : Int)))) (some 39) (.pointer (some ((A_2.getD noAddr).add (k_2 * 1)))) [(5, .slice A r1.length c), (6, .slice A_2 r2.length c_2), (7, .slice A_3 out_3.length c_3), (8, .int .i64 (k : Int)), (18, .int .i64 (r1.length : Int)), (19, .int .i64 (k : Int)), (23, .int .i64 (r2.length : Int)), (24, .int .i64 (k_2 : Int)), (27, .slice A_3 out_3.length c_3), (30, .int .i64 (w64 ((k : Int) + (k_2 : Int)))), (32, .int .i64 (out_3[(w64 ((k : Int) + (k_2 : Int))).toNat]?.getD 0)), (36, .int .i64 x), (39, .pointer (some ((A_2.getD noAddr).add (k_2 * 1))))] (fun w hM => run_index (hM.rd_at 1 rfl) (by simp) (by kernel_rfl) (by (try have l1_ := limbs_len hr1); (try have l2_ := limbs_len hr2); first | omega | (simp only [List.length_drop]; omega) | (simp only [w64_eq]; omega) | exact (tm_in (by (first | (rw [w64_id (by omega)]; omega) | (simp only [w64_eq]; omega))) (by omega)).1 | exact (tm_in (by (first | (rw [w64_id (by omega)]; omega) | (simp only [w64_eq]; omega))) (by omega)).2.1 | exact (tm_in (by (first | (rw [w64_id (by omega)]; omega) | (simp only [w64_eq]; omega))) (by omega)).2.2 | (simp only [List.length_take] at *; omega) | (simp <;> omega)) (by (try have l1_ := limbs_len hr1); (try have l2_ := limbs_len hr2); first | omega | (simp only [List.length_drop]; omega) | (simp only [w64_eq]; omega) | exact (tm_in (by (first | (rw [w64_id (by omega)]; omega) | (simp only [w64_eq]; omega))) (by omega)).1 | exact (tm_in (by (first | (rw [w64_id (by omega)]; omega) | (simp only [w64_eq]; omega))) (by omega)).2.1 | exact (tm_in (by (first | (rw [w64_id (by omega)]; omega) | (simp only [w64_eq]; omega))) (by omega)).2.2 | (simp only [List.length_take] at *; omega) | (simp <;> omega))) rfl (by kernel_rfl) (by kernel_rfl) ?_
          refine TQ.val (sV (Instr.loadAt 3 (.pointer (some ((A_2.getD noAddr).add (k_2 * 1)))))) (some 40) (.int .i64 x_2) [(5, .slice A r1.length c), (6, .slice A_2 r2.length c_2), (7, .slice A_3 out_3.length c_3), (8, .int .i64 (k : Int)), (18, .int .i64 (r1.length : Int)), (19, .int .i64 (k : Int)), (23, .int .i64 (r2.length : Int)), (24, .int .i64 (k_2 : Int)), (27, .slice A_3 out_3.length c_3), (30, .int .i64 (w64 ((k : Int) + (k_2 : Int)))), (32, .int .i64 (out_3[(w64 ((k : Int) + (k_2 : Int))).toNat]?.getD 0)), (36, .int .i64 x), (40, .int .i64 x_2)] (fun w hM => run_load_one (off := 0) (i := k_2) (.int .i64 x_2) (hM.rd_at 1 rfl) (map_at hx_2) (by kernel_rfl) (by kernel_rfl)) rfl (by kernel_rfl) (by kernel_rfl) ?_
          refine TQ.run 16 [] [(5, .slice A r1.length c), (6, .slice A_2 r2.length c_2), (7, .slice A_3 out_3.length c_3), (8, .int .i64 (k : Int)), (18, .int .i64 (r1.length : Int)), (19, .int .i64 (k : Int)), (23, .int .i64 (r2.length : Int)), (24, .int .i64 (k_2 : Int)), (27, .slice A_3 out_3.length c_3), (30, .int .i64 (w64 ((k : Int) + (k_2 : Int)))), (42, .int .i64 (w64 ((out_3[(w64 ((k : Int) + (k_2 : Int))).toNat]?.getD 0) + (w64 (x * x_2)))))] rfl ⟨by kernel_rfl, by kernel_rfl⟩ ?_
          refine TQ.val (sV (Instr.indexAt 34 (.slice A_3 out_3.length c_3) (.int .i64 (w64 ((k : Int) + (k_2 : Int)))))) (some 43) (.pointer (some ((A_3.getD noAddr).add ((w64 ((k : Int) + (k_2 : Int))).toNat * 1)))) [(5, .slice A r1.length c), (6, .slice A_2 r2.length c_2), (7, .slice A_3 out_3.length c_3), (8, .int .i64 (k : Int)), (18, .int .i64 (r1.length : Int)), (19, .int .i64 (k : Int)), (23, .int .i64 (r2.length : Int)), (24, .int .i64 (k_2 : Int)), (42, .int .i64 (w64 ((out_3[(w64 ((k : Int) + (k_2 : Int))).toNat]?.getD 0) + (w64 (x * x_2))))), (43, .pointer (some ((A_3.getD noAddr).add ((w64 ((k : Int) + (k_2 : Int))).toNat * 1))))] (fun w hM => run_index (hM.rd_at 0 rfl) (by simp) (by kernel_rfl) (by (try have l1_ := limbs_len hr1); (try have l2_ := limbs_len hr2); first | omega | (simp only [List.length_drop]; omega) | (simp only [w64_eq]; omega) | exact (tm_in (by (first | (rw [w64_id (by omega)]; omega) | (simp only [w64_eq]; omega))) (by omega)).1 | exact (tm_in (by (first | (rw [w64_id (by omega)]; omega) | (simp only [w64_eq]; omega))) (by omega)).2.1 | exact (tm_in (by (first | (rw [w64_id (by omega)]; omega) | (simp only [w64_eq]; omega))) (by omega)).2.2 | (simp only [List.length_take] at *; omega) | (simp <;> omega)) (by (try have l1_ := limbs_len hr1); (try have l2_ := limbs_len hr2); first | omega | (simp only [List.length_drop]; omega) | (simp only [w64_eq]; omega) | exact (tm_in (by (first | (rw [w64_id (by omega)]; omega) | (simp only [w64_eq]; omega))) (by omega)).1 | exact (tm_in (by (first | (rw [w64_id (by omega)]; omega) | (simp only [w64_eq]; omega))) (by omega)).2.1 | exact (tm_in (by (first | (rw [w64_id (by omega)]; omega) | (simp only [w64_eq]; omega))) (by omega)).2.2 | (simp only [List.length_take] at *; omega) | (simp <;> omega))) rfl (by kernel_rfl) (by kernel_rfl) ?_
          refine TQ.tail rfl ?_
          refine TL.skipM (Γ := Unit) (sU (Instr.storeAt 3 (.pointer (some (((A_3.getD noAddr).add ((w64 ((k : Int) + (k_2 : Int))).toNat * 1)).add 0))) (.int .i64 (w64 ((out_3[(w64 ((k : Int) + (k_2 : Int))).toNat]?.getD 0) + (w64 (x * x_2))))))) none (fun _ => [.inr (Own A_3 c_3 3 1 ((out_3.set ((w64 ((k : Int) + (k_2 : Int))).toNat) (w64 ((out_3[(w64 ((k : Int) + (k_2 : Int))).toNat]?.getD 0) + (w64 (x * x_2))))).map ic)), .inr (Own A_2 c_2 3 1 (r2.map ic)), .inr (Own A c 3 1 (r1.map ic))]) (fun _ => [(5, .slice A r1.length c), (6, .slice A_2 r2.length c_2), (7, .slice A_3 out_3.length c_3), (8, .int .i64 (k : Int)), (18, .int .i64 (r1.length : Int)), (19, .int .i64 (k : Int)), (23, .int .i64 (r2.length : Int)), (24, .int .i64 (k_2 : Int))]) (run_store_at (n := 1) (off := 0) (.int .i64 (w64 ((out_3[(w64 ((k : Int) + (k_2 : Int))).toNat]?.getD 0) + (w64 (x * x_2))))) 0 ((out_3.set ((w64 ((k : Int) + (k_2 : Int))).toNat) (w64 ((out_3[(w64 ((k : Int) + (k_2 : Int))).toNat]?.getD 0) + (w64 (x * x_2))))).map ic) rfl (map_at (getD_at _ _ 0 (by (try have l1_ := limbs_len hr1); (try have l2_ := limbs_len hr2); first | omega | (simp only [List.length_drop]; omega) | (simp only [w64_eq]; omega) | exact (tm_in (by (first | (rw [w64_id (by omega)]; omega) | (simp only [w64_eq]; omega))) (by omega)).1 | exact (tm_in (by (first | (rw [w64_id (by omega)]; omega) | (simp only [w64_eq]; omega))) (by omega)).2.1 | exact (tm_in (by (first | (rw [w64_id (by omega)]; omega) | (simp only [w64_eq]; omega))) (by omega)).2.2 | (simp only [List.length_take] at *; omega) | (simp <;> omega)))) (by kernel_rfl) (by kernel_rfl) (by kernel_rfl) (by kernel_rfl) (set_map_at (by kernel_rfl))) (by kernel_rfl) (fun _ => by kernel_rfl) (fun _ => ?_)
          refine TL.rw 7 (.slice A_3 out_3.length c_3) (.slice A_3 ((out_3.set ((w64 ((k : Int) + (k_2 : Int))).toNat) (w64 ((out_3[(w64 ((k : Int) + (k_2 : Int))).toNat]?.getD 0) + (w64 (x * x_2))))).length) c_3) (by kernel_rfl) (by simp only [List.length_set]) ?_
          refine TL.done rfl ?_
          refine TE.normal_block ?_
          refine TE.next ?_
          refine TC.region ?_
          refine TL.run 2 [] [(5, .slice A r1.length c), (6, .slice A_2 r2.length c_2), (7, .slice A_3 ((out_3.set ((w64 ((k : Int) + (k_2 : Int))).toNat) (w64 ((out_3[(w64 ((k : Int) + (k_2 : Int))).toNat]?.getD 0) + (w64 (x * x_2))))).length) c_3), (8, .int .i64 (k : Int)), (18, .int .i64 (r1.length : Int)), (19, .int .i64 (k : Int)), (23, .int .i64 (r2.length : Int)), (24, .int .i64 (w64 ((k_2 : Int) + 1)))] rfl ⟨by kernel_rfl, by kernel_rfl⟩ ?_
          refine TL.done rfl ?_
          refine TE.rw 24 (.int .i64 (w64 ((k_2 : Int) + 1))) (.int .i64 ((k_2 + 1 : Nat) : Int)) (by kernel_rfl) (w64_cast k_2 (by (try have l1_ := limbs_len hr1); (try have l2_ := limbs_len hr2); omega)) ?_
          exact TE.again (x := (k_2, out_3)) (k_2 + 1, (out_3.set ((w64 ((k : Int) + (k_2 : Int))).toNat) (w64 ((out_3[(w64 ((k : Int) + (k_2 : Int))).toNat]?.getD 0) + (w64 (x * x_2)))))) ⟨by omega, hI_2.trans (by subst hr1 hr2; rw [hd_2]; exact rfl), (by (try have l1_ := limbs_len hr1); (try have l2_ := limbs_len hr2); first | omega | (simp <;> omega) | (simp at * <;> omega) | (simp only [w64_eq] at *; omega) | (simp only [List.length_append, List.length_cons, List.length_nil]; omega))⟩ (by show r2.length - (k_2 + 1) < r2.length - k_2; omega) (by kernel_rfl) (.cons_cons _ (.cons_cons _ (.cons_cons _ (.slnil))))
        · have hd_2 : r2.drop k_2 = [] := List.drop_eq_nil_of_le (by have := of_decide_eq_false h2; first | omega | (simp at this; omega))
          refine TC.exit ?_
          refine TE.exit_then (TE.exit_then (TE.exit_same ?_))
          exact TE.cut out_3 (⟨hI_2.trans (by subst hr1 hr2; rw [hd_2]; exact rfl), (by (try have l1_ := limbs_len hr1); (try have l2_ := limbs_len hr2); first | omega | (simp <;> omega) | (simp at * <;> omega) | (simp only [w64_eq] at *; omega) | (simp only [List.length_append, List.length_cons, List.length_nil]; omega))⟩) (by kernel_rfl) (.cons_cons _ (.cons_cons _ (.cons_cons _ (.slnil))))
      · rintro out_4 ⟨hJ_2, hl_out_4⟩
        refine TE.normal_block ?_
        refine TE.next ?_
        refine TC.region ?_
        refine TL.run 2 [] [(5, .slice A r1.length c), (6, .slice A_2 r2.length c_2), (7, .slice A_3 out_4.length c_3), (18, .int .i64 (r1.length : Int)), (19, .int .i64 (w64 ((k : Int) + 1)))] rfl ⟨by kernel_rfl, by kernel_rfl⟩ ?_
        refine TL.done rfl ?_
        refine TE.rw 19 (.int .i64 (w64 ((k : Int) + 1))) (.int .i64 ((k + 1 : Nat) : Int)) (by kernel_rfl) (w64_cast k (by (try have l1_ := limbs_len hr1); (try have l2_ := limbs_len hr2); omega)) ?_
        exact TE.again (x := (k, out)) (k + 1, out_4) ⟨by omega, hI.trans (by subst hr1 hr2; rw [hd]; exact bindv_eq (hR_2.symm.trans hJ_2) (rfl)), (by (try have l1_ := limbs_len hr1); (try have l2_ := limbs_len hr2); first | omega | (simp <;> omega) | (simp at * <;> omega) | (simp only [w64_eq] at *; omega) | (simp only [List.length_append, List.length_cons, List.length_nil]; omega))⟩ (by show r1.length - (k + 1) < r1.length - k; omega) (by kernel_rfl) (.cons_cons _ (.cons_cons _ (.cons_cons _ (.slnil))))
    · have hd : r1.drop k = [] := List.drop_eq_nil_of_le (by have := of_decide_eq_false h1; first | omega | (simp at this; omega))
      refine TC.exit ?_
      refine TE.exit_then (TE.exit_then (TE.exit_same ?_))
      exact TE.cut out (⟨hI.trans (by subst hr1 hr2; rw [hd]; exact rfl), (by (try have l1_ := limbs_len hr1); (try have l2_ := limbs_len hr2); first | omega | (simp <;> omega) | (simp at * <;> omega) | (simp only [w64_eq] at *; omega) | (simp only [List.length_append, List.length_cons, List.length_nil]; omega))⟩) (by kernel_rfl) (.cons_cons _ (.cons _ (.cons _ (.slnil))))
  · rintro out_2 ⟨hJ, hl_out_2⟩
    refine TE.next ?_
    refine TC.seq ?_
    refine TC.region ?_
    refine TL.run 1 [] [(7, .slice A_3 out_2.length c_3), (10, .int .i64 0)] rfl ⟨by kernel_rfl, by kernel_rfl⟩ ?_
    refine TL.next rfl ?_
    refine TC.seq ?_
    refine TC.seq ?_
    refine TC.region ?_
    refine TL.run 3 [] [(7, .slice A_3 out_2.length c_3), (10, .int .i64 0), (47, .int .i64 (out_2.length : Int)), (48, .int .i64 0)] rfl ⟨by kernel_rfl, by kernel_rfl⟩ ?_
    refine TL.next rfl ?_
    refine TC.weak [(7, .slice A_3 out_2.length c_3), (10, .int .i64 0), (47, .int .i64 (out_2.length : Int)), (48, .int .i64 0)] (by kernel_rfl) ?_
    obtain ⟨R4, hR_3⟩ : ∃ R, R = skywayref1_product_L3 out_2.length 0 0 out_2 := ⟨_, rfl⟩
    refine TC.cut (S := (List Int)) (fun out_6 => [(7, .slice A_3 out_6.length c_3)]) (fun out_6 => [.inr (Own A_3 c_3 3 1 (out_6.map ic))]) (fun out_6 => R4 = out_6 ∧ out_6.length = out_2.length) ?_ ?_
    · refine TC.block ?_
      refine TC.loop (X := Nat × Int × (List Int)) (fun (k_3, rest, out_5) => [(7, .slice A_3 out_5.length c_3), (10, .int .i64 rest), (47, .int .i64 (out_2.length : Int)), (48, .int .i64 (k_3 : Int))]) (fun (k_3, rest, out_5) => [.inr (Own A_3 c_3 3 1 (out_5.map ic))]) (fun (k_3, rest, out_5) => out_2.length - k_3) (fun (k_3, rest, out_5) => k_3 ≤ out_2.length ∧ R4 = skywayref1_product_L3 (out_2.length - k_3) k_3 rest out_5 ∧ out_5.length = out_2.length) ?_ (0, 0, out_2) ⟨Nat.zero_le _, hR_3, (by first | omega | (simp; omega) | simp)⟩
      rintro ⟨k_3, rest, out_5⟩ ⟨hk_3, hI_3, hl_out_5⟩
      refine TC.seq ?_
      refine TC.region ?_
      refine TL.run 1 [] [(7, .slice A_3 out_5.length c_3), (10, .int .i64 rest), (47, .int .i64 (out_2.length : Int)), (48, .int .i64 (k_3 : Int)), (49, .bool (decide ((k_3 : Int) < (out_2.length : Int))))] rfl ⟨by kernel_rfl, by kernel_rfl⟩ ?_
      refine TL.next rfl ?_
      refine TC.seq ?_
      refine TC.cond (decide ((k_3 : Int) < (out_2.length : Int))) rfl (by kernel_rfl) (fun h3 => ?_) (fun h3 => ?_)
      · have hlt_3 : k_3 < out_2.length := by have := of_decide_eq_true h3; first | omega | (simp at this; omega)
        have hd_3 : out_2.length - k_3 = (out_2.length - (k_3 + 1)) + 1 := by omega
        refine TC.skip ?_
        refine TE.next ?_
        refine TC.seq ?_
        refine TC.block ?_
        refine TC.seq ?_
        refine TC.region ?_
        refine TL.run 2 [] [(7, .slice A_3 out_5.length c_3), (10, .int .i64 rest), (11, .int .i64 (k_3 : Int)), (47, .int .i64 (out_2.length : Int)), (48, .int .i64 (k_3 : Int))] rfl ⟨by kernel_rfl, by kernel_rfl⟩ ?_
        refine TL.next rfl ?_
        refine TC.seq ?_
        refine TC.region ?_
        refine TL.run 3 [] [(7, .slice A_3 out_5.length c_3), (11, .int .i64 (k_3 : Int)), (47, .int .i64 (out_2.length : Int)), (48, .int .i64 (k_3 : Int)), (51, .int .i64 rest), (52, .slice A_3 out_5.length c_3), (53, .int .i64 (k_3 : Int))] rfl ⟨by kernel_rfl, by kernel_rfl⟩ ?_
        refine TL.val (sV (Instr.indexAt 34 (.slice A_3 out_5.length c_3) (.int .i64 (k_3 : Int)))) (some 54) (.pointer (some ((A_3.getD noAddr).add (k_3 * 1)))) [(7, .slice A_3 out_5.length c_3), (11, .int .i64 (k_3 : Int)), (47, .int .i64 (out_2.length : Int)), (48, .int .i64 (k_3 : Int)), (51, .int .i64 rest), (54, .pointer (some ((A_3.getD noAddr).add (k_3 * 1))))] (fun w hM => run_index (hM.rd_at 0 rfl) (by simp) (by kernel_rfl) (by (try have l1_ := limbs_len hr1); (try have l2_ := limbs_len hr2); first | omega | (simp only [List.length_drop]; omega) | (simp only [w64_eq]; omega) | exact (tm_in (by (first | (rw [w64_id (by omega)]; omega) | (simp only [w64_eq]; omega))) (by omega)).1 | exact (tm_in (by (first | (rw [w64_id (by omega)]; omega) | (simp only [w64_eq]; omega))) (by omega)).2.1 | exact (tm_in (by (first | (rw [w64_id (by omega)]; omega) | (simp only [w64_eq]; omega))) (by omega)).2.2 | (simp only [List.length_take] at *; omega) | (simp <;> omega)) (by (try have l1_ := limbs_len hr1); (try have l2_ := limbs_len hr2); first | omega | (simp only [List.length_drop]; omega) | (simp only [w64_eq]; omega) | exact (tm_in (by (first | (rw [w64_id (by omega)]; omega) | (simp only [w64_eq]; omega))) (by omega)).1 | exact (tm_in (by (first | (rw [w64_id (by omega)]; omega) | (simp only [w64_eq]; omega))) (by omega)).2.1 | exact (tm_in (by (first | (rw [w64_id (by omega)]; omega) | (simp only [w64_eq]; omega))) (by omega)).2.2 | (simp only [List.length_take] at *; omega) | (simp <;> omega))) (by kernel_rfl) (by kernel_rfl) ?_
        refine TL.val (sV (Instr.loadAt 3 (.pointer (some ((A_3.getD noAddr).add (k_3 * 1)))))) (some 55) (.int .i64 (out_5[k_3]?.getD 0)) [(7, .slice A_3 out_5.length c_3), (11, .int .i64 (k_3 : Int)), (47, .int .i64 (out_2.length : Int)), (48, .int .i64 (k_3 : Int)), (51, .int .i64 rest), (55, .int .i64 (out_5[k_3]?.getD 0))] (fun w hM => run_load_one (off := 0) (i := k_3) (.int .i64 (out_5[k_3]?.getD 0)) (hM.rd_at 0 rfl) (map_at (getD_at _ _ 0 (by (try have l1_ := limbs_len hr1); (try have l2_ := limbs_len hr2); first | omega | (simp only [List.length_drop]; omega) | (simp only [w64_eq]; omega) | exact (tm_in (by (first | (rw [w64_id (by omega)]; omega) | (simp only [w64_eq]; omega))) (by omega)).1 | exact (tm_in (by (first | (rw [w64_id (by omega)]; omega) | (simp only [w64_eq]; omega))) (by omega)).2.1 | exact (tm_in (by (first | (rw [w64_id (by omega)]; omega) | (simp only [w64_eq]; omega))) (by omega)).2.2 | (simp only [List.length_take] at *; omega) | (simp <;> omega)))) (by kernel_rfl) (by kernel_rfl)) (by kernel_rfl) (by kernel_rfl) ?_
        refine TL.run 7 [] [(7, .slice A_3 out_5.length c_3), (10, .int .i64 (w64 (rest + (out_5[k_3]?.getD 0)))), (11, .int .i64 (k_3 : Int)), (47, .int .i64 (out_2.length : Int)), (48, .int .i64 (k_3 : Int))] rfl ⟨by kernel_rfl, by kernel_rfl⟩ ?_
        refine TL.next rfl ?_
        refine TC.seq ?_
        refine TC.region ?_
        refine TL.run 4 [] [(7, .slice A_3 out_5.length c_3), (10, .int .i64 (w64 (rest + (out_5[k_3]?.getD 0)))), (47, .int .i64 (out_2.length : Int)), (48, .int .i64 (k_3 : Int)), (57, .slice A_3 out_5.length c_3), (58, .int .i64 (k_3 : Int)), (60, .int .i64 ((w64 (rest + (out_5[k_3]?.getD 0))).tmod 65536))] rfl ⟨by kernel_rfl, by kernel_rfl⟩ ?_
        refine TL.val (sV (Instr.indexAt 34 (.slice A_3 out_5.length c_3) (.int .i64 (k_3 : Int)))) (some 61) (.pointer (some ((A_3.getD noAddr).add (k_3 * 1)))) [(7, .slice A_3 out_5.length c_3), (10, .int .i64 (w64 (rest + (out_5[k_3]?.getD 0)))), (47, .int .i64 (out_2.length : Int)), (48, .int .i64 (k_3 : Int)), (60, .int .i64 ((w64 (rest + (out_5[k_3]?.getD 0))).tmod 65536)), (61, .pointer (some ((A_3.getD noAddr).add (k_3 * 1))))] (fun w hM => run_index (hM.rd_at 0 rfl) (by simp) (by kernel_rfl) (by (try have l1_ := limbs_len hr1); (try have l2_ := limbs_len hr2); first | omega | (simp only [List.length_drop]; omega) | (simp only [w64_eq]; omega) | exact (tm_in (by (first | (rw [w64_id (by omega)]; omega) | (simp only [w64_eq]; omega))) (by omega)).1 | exact (tm_in (by (first | (rw [w64_id (by omega)]; omega) | (simp only [w64_eq]; omega))) (by omega)).2.1 | exact (tm_in (by (first | (rw [w64_id (by omega)]; omega) | (simp only [w64_eq]; omega))) (by omega)).2.2 | (simp only [List.length_take] at *; omega) | (simp <;> omega)) (by (try have l1_ := limbs_len hr1); (try have l2_ := limbs_len hr2); first | omega | (simp only [List.length_drop]; omega) | (simp only [w64_eq]; omega) | exact (tm_in (by (first | (rw [w64_id (by omega)]; omega) | (simp only [w64_eq]; omega))) (by omega)).1 | exact (tm_in (by (first | (rw [w64_id (by omega)]; omega) | (simp only [w64_eq]; omega))) (by omega)).2.1 | exact (tm_in (by (first | (rw [w64_id (by omega)]; omega) | (simp only [w64_eq]; omega))) (by omega)).2.2 | (simp only [List.length_take] at *; omega) | (simp <;> omega))) (by kernel_rfl) (by kernel_rfl) ?_
        refine TL.skipM (Γ := Unit) (sU (Instr.storeAt 3 (.pointer (some (((A_3.getD noAddr).add (k_3 * 1)).add 0))) (.int .i64 ((w64 (rest + (out_5[k_3]?.getD 0))).tmod 65536)))) none (fun _ => [.inr (Own A_3 c_3 3 1 ((out_5.set k_3 ((w64 (rest + (out_5[k_3]?.getD 0))).tmod 65536)).map ic))]) (fun _ => [(7, .slice A_3 out_5.length c_3), (10, .int .i64 (w64 (rest + (out_5[k_3]?.getD 0)))), (47, .int .i64 (out_2.length : Int)), (48, .int .i64 (k_3 : Int))]) (run_store_at (n := 1) (off := 0) (.int .i64 ((w64 (rest + (out_5[k_3]?.getD 0))).tmod 65536)) 0 ((out_5.set k_3 ((w64 (rest + (out_5[k_3]?.getD 0))).tmod 65536)).map ic) rfl (map_at (getD_at _ _ 0 (by (try have l1_ := limbs_len hr1); (try have l2_ := limbs_len hr2); first | omega | (simp only [List.length_drop]; omega) | (simp only [w64_eq]; omega) | exact (tm_in (by (first | (rw [w64_id (by omega)]; omega) | (simp only [w64_eq]; omega))) (by omega)).1 | exact (tm_in (by (first | (rw [w64_id (by omega)]; omega) | (simp only [w64_eq]; omega))) (by omega)).2.1 | exact (tm_in (by (first | (rw [w64_id (by omega)]; omega) | (simp only [w64_eq]; omega))) (by omega)).2.2 | (simp only [List.length_take] at *; omega) | (simp <;> omega)))) (by kernel_rfl) (by kernel_rfl) (by kernel_rfl) (by kernel_rfl) (set_map_at (by kernel_rfl))) (by kernel_rfl) (fun _ => by kernel_rfl) (fun _ => ?_)
        refine TL.rw 7 (.slice A_3 out_5.length c_3) (.slice A_3 ((out_5.set k_3 ((w64 (rest + (out_5[k_3]?.getD 0))).tmod 65536)).length) c_3) (by kernel_rfl) (by simp only [List.length_set]) ?_
        refine TL.next rfl ?_
        refine TC.region ?_
        refine TL.run 3 [] [(7, .slice A_3 ((out_5.set k_3 ((w64 (rest + (out_5[k_3]?.getD 0))).tmod 65536)).length) c_3), (10, .int .i64 (w64 ((w64 (rest + (out_5[k_3]?.getD 0))).tdiv 65536))), (47, .int .i64 (out_2.length : Int)), (48, .int .i64 (k_3 : Int))] rfl ⟨by kernel_rfl, by kernel_rfl⟩ ?_
        refine TL.done rfl ?_
        refine TE.normal_block ?_
        refine TE.next ?_
        refine TC.region ?_
        refine TL.run 2 [] [(7, .slice A_3 ((out_5.set k_3 ((w64 (rest + (out_5[k_3]?.getD 0))).tmod 65536)).length) c_3), (10, .int .i64 (w64 ((w64 (rest + (out_5[k_3]?.getD 0))).tdiv 65536))), (47, .int .i64 (out_2.length : Int)), (48, .int .i64 (w64 ((k_3 : Int) + 1)))] rfl ⟨by kernel_rfl, by kernel_rfl⟩ ?_
        refine TL.done rfl ?_
        refine TE.rw 48 (.int .i64 (w64 ((k_3 : Int) + 1))) (.int .i64 ((k_3 + 1 : Nat) : Int)) (by kernel_rfl) (w64_cast k_3 (by (try have l1_ := limbs_len hr1); (try have l2_ := limbs_len hr2); omega)) ?_
        exact TE.again (x := (k_3, rest, out_5)) (k_3 + 1, w64 ((w64 (rest + (out_5[k_3]?.getD 0))).tdiv 65536), (out_5.set k_3 ((w64 (rest + (out_5[k_3]?.getD 0))).tmod 65536))) ⟨by omega, hI_3.trans (by subst hr1 hr2; rw [hd_3]; exact rfl), (by (try have l1_ := limbs_len hr1); (try have l2_ := limbs_len hr2); first | omega | (simp <;> omega) | (simp at * <;> omega) | (simp only [w64_eq] at *; omega) | (simp only [List.length_append, List.length_cons, List.length_nil]; omega))⟩ (by show out_2.length - (k_3 + 1) < out_2.length - k_3; omega) (by kernel_rfl) (.cons_cons _ (.slnil))
      · have hd_3 : out_2.length - k_3 = 0 := by have := of_decide_eq_false h3; first | omega | (simp at this; omega)
        refine TC.exit ?_
        refine TE.exit_then (TE.exit_then (TE.exit_same ?_))
        exact TE.cut out_5 (⟨hI_3.trans (by subst hr1 hr2; rw [hd_3]; exact rfl), (by (try have l1_ := limbs_len hr1); (try have l2_ := limbs_len hr2); first | omega | (simp <;> omega) | (simp at * <;> omega) | (simp only [w64_eq] at *; omega) | (simp only [List.length_append, List.length_cons, List.length_nil]; omega))⟩) (by kernel_rfl) (.cons_cons _ (.slnil))
    · rintro out_6 ⟨hJ_3, hl_out_6⟩
      refine TE.next ?_
      refine TC.seq ?_
      refine TC.region ?_
      refine TL.run 2 [] [(4, .slice A_3 out_6.length c_3)] rfl ⟨by kernel_rfl, by kernel_rfl⟩ ?_
      refine TL.next rfl ?_
      refine TC.ret ?_
      have e : skywayref1_product a b_ = out_6 := by subst hr1 hr2; unfold skywayref1_product; exact bindv_eq (hR.symm.trans hJ) (bindv_eq (hR_3.symm.trans hJ_3) (rfl))
      rw [e]
      exact TE.retM (.inl rfl) (A_3, c_3) [] (.slice A_3 out_6.length c_3) ⟨by kernel_rfl, by kernel_rfl⟩ rfl (fun _ hM => hM.sub (.cons_cons _ (.slnil)))

def skywayref1_CmpProducts_L1 (r1 : Int) (r2 : Int) (r6 : List Int) (r7 : List Int) : Nat → Nat → ((Unit) ⊕ (Int))
  | 0, _ => .inl ()
  | m + 1, k => cond ((r6[(((r6.length : Int) - 1) - ((k : Nat) : Int)).toNat]?.getD 0) != (r7[(((r6.length : Int) - 1) - ((k : Nat) : Int)).toNat]?.getD 0)) (
      cond (decide ((r6[(((r6.length : Int) - 1) - ((k : Nat) : Int)).toNat]?.getD 0) > (r7[(((r6.length : Int) - 1) - ((k : Nat) : Int)).toNat]?.getD 0))) (
        .inr (w64 (r1 * r2))) (
        .inr (w64 (0 - (w64 (r1 * r2)))))) (
      skywayref1_CmpProducts_L1 r1 r2 r6 r7 m (k + 1))
def skywayref1_CmpProducts (a : Int) (b_ : Int) (c : Int) (d : Int) : Int :=
  let r1 := skywayref1_sign a
  let r2 := skywayref1_sign b_
  let r3 := skywayref1_sign c
  let r4 := skywayref1_sign d
  cond ((w64 (r1 * r2)) != (w64 (r3 * r4))) (
    let r5 := skywayref1_sign (w64 ((w64 (r1 * r2)) - (w64 (r3 * r4))))
    r5) (
    let r6 := skywayref1_product a b_
    let r7 := skywayref1_product c d
    Sum.elim (fun _ =>
      0) (fun r => r) (skywayref1_CmpProducts_L1 r1 r2 r6 r7 ((((r6.length : Int) - 1) + 1).toNat) 0))

theorem product_len2 (k : Nat) (x : Int) : ∀ (l : List Int) (j : Nat) (out : List Int), (skywayref1_product_L2 k x l j out).length = out.length
  | [], _, _ => rfl
  | y :: l, j, out => by
    unfold skywayref1_product_L2
    rw [product_len2 k x l (j + 1), List.length_set]
theorem product_len1 (r2 : List Int) : ∀ (l : List Int) (k : Nat) (out : List Int), (skywayref1_product_L1 r2 l k out).length = out.length
  | [], _, _ => rfl
  | x :: l, k, out => by
    unfold skywayref1_product_L1 bindv
    rw [product_len1 r2 l (k + 1), product_len2]
theorem product_len3 : ∀ (m k : Nat) (r : Int) (out : List Int), (skywayref1_product_L3 m k r out).length = out.length
  | 0, _, _, _ => rfl
  | m + 1, k, r, out => by
    unfold skywayref1_product_L3
    rw [product_len3 m (k + 1), List.length_set]
theorem product_len {a b : Int} {r : List Int} (hr : skywayref1_product a b = r) : r.length = 9 := by
  subst hr
  show (skywayref1_product_L3 _ 0 0 _).length = 9
  rw [product_len3, product_len1]; rfl

set_option maxRecDepth 100000 in
theorem skywayref1_CmpProducts_w (a : Int) (b_ : Int) (c : Int) (d : Int) (w : World) : Calls Try.prog 34 #[.int .i64 a, .int .i64 b_, .int .i64 c, .int .i64 d] w (Ret w (.int .i64 (skywayref1_CmpProducts a b_ c d))) := by
  refine calls_intro (vs := [.int .i64 a, .int .i64 b_, .int .i64 c, .int .i64 d]) (w := w) Try.func34 rfl Try.ntmps34 rfl ?_
  refine TC.weak [(0, .int .i64 a), (1, .int .i64 b_), (2, .int .i64 c), (3, .int .i64 d)] (by kernel_rfl) ?_
  refine TC.seq ?_
  refine TC.region ?_
  refine TL.run 1 [] [(0, .int .i64 a), (1, .int .i64 b_), (2, .int .i64 c), (3, .int .i64 d)] rfl ⟨by kernel_rfl, by kernel_rfl⟩ ?_
  refine TL.next rfl ?_
  refine TC.seq ?_
  refine TC.region ?_
  refine TL.run 1 [] [(0, .int .i64 a), (1, .int .i64 b_), (2, .int .i64 c), (3, .int .i64 d), (14, .int .i64 a)] rfl ⟨by kernel_rfl, by kernel_rfl⟩ ?_
  refine TL.call (some 15) [(0, .int .i64 a), (1, .int .i64 b_), (2, .int .i64 c), (3, .int .i64 d), (15, .int .i64 (skywayref1_sign a))] (fun w _ => skywayref1_sign_w a w) (by kernel_rfl) (by kernel_rfl) ?_
  generalize hr1 : skywayref1_sign a = r1
  refine TL.run 3 [] [(0, .int .i64 a), (1, .int .i64 b_), (2, .int .i64 c), (3, .int .i64 d), (15, .int .i64 r1), (16, .int .i64 b_)] rfl ⟨by kernel_rfl, by kernel_rfl⟩ ?_
  refine TL.call (some 17) [(0, .int .i64 a), (1, .int .i64 b_), (2, .int .i64 c), (3, .int .i64 d), (15, .int .i64 r1), (17, .int .i64 (skywayref1_sign b_))] (fun w _ => skywayref1_sign_w b_ w) (by kernel_rfl) (by kernel_rfl) ?_
  generalize hr2 : skywayref1_sign b_ = r2
  refine TL.run 6 [] [(0, .int .i64 a), (1, .int .i64 b_), (2, .int .i64 c), (3, .int .i64 d), (18, .int .i64 (w64 (r1 * r2))), (19, .int .i64 c)] rfl ⟨by kernel_rfl, by kernel_rfl⟩ ?_
  refine TL.call (some 20) [(0, .int .i64 a), (1, .int .i64 b_), (2, .int .i64 c), (3, .int .i64 d), (18, .int .i64 (w64 (r1 * r2))), (20, .int .i64 (skywayref1_sign c))] (fun w _ => skywayref1_sign_w c w) (by kernel_rfl) (by kernel_rfl) ?_
  generalize hr3 : skywayref1_sign c = r3
  refine TL.run 8 [] [(0, .int .i64 a), (1, .int .i64 b_), (2, .int .i64 c), (3, .int .i64 d), (18, .int .i64 (w64 (r1 * r2))), (20, .int .i64 r3), (21, .int .i64 d)] rfl ⟨by kernel_rfl, by kernel_rfl⟩ ?_
  refine TL.call (some 22) [(0, .int .i64 a), (1, .int .i64 b_), (2, .int .i64 c), (3, .int .i64 d), (18, .int .i64 (w64 (r1 * r2))), (20, .int .i64 r3), (22, .int .i64 (skywayref1_sign d))] (fun w _ => skywayref1_sign_w d w) (by kernel_rfl) (by kernel_rfl) ?_
  generalize hr4 : skywayref1_sign d = r4
  refine TL.run 12 [] [(0, .int .i64 a), (1, .int .i64 b_), (2, .int .i64 c), (3, .int .i64 d), (9, .int .i64 (w64 (r1 * r2))), (10, .int .i64 (w64 (r3 * r4)))] rfl ⟨by kernel_rfl, by kernel_rfl⟩ ?_
  refine TL.next rfl ?_
  refine TC.seq ?_
  refine TC.seq ?_
  refine TC.region ?_
  refine TL.run 3 [] [(0, .int .i64 a), (1, .int .i64 b_), (2, .int .i64 c), (3, .int .i64 d), (9, .int .i64 (w64 (r1 * r2))), (10, .int .i64 (w64 (r3 * r4))), (26, .bool ((w64 (r1 * r2)) != (w64 (r3 * r4))))] rfl ⟨by kernel_rfl, by kernel_rfl⟩ ?_
  refine TL.next rfl ?_
  refine TC.cond ((w64 (r1 * r2)) != (w64 (r3 * r4))) rfl (by kernel_rfl) (fun h1 => ?_) (fun h1 => ?_)
  · refine TC.seq ?_
    refine TC.region ?_
    refine TL.run 3 [] [(29, .int .i64 (w64 ((w64 (r1 * r2)) - (w64 (r3 * r4)))))] rfl ⟨by kernel_rfl, by kernel_rfl⟩ ?_
    refine TL.call (some 30) [(30, .int .i64 (skywayref1_sign (w64 ((w64 (r1 * r2)) - (w64 (r3 * r4))))))] (fun w _ => skywayref1_sign_w (w64 ((w64 (r1 * r2)) - (w64 (r3 * r4)))) w) (by kernel_rfl) (by kernel_rfl) ?_
    generalize hr5 : skywayref1_sign (w64 ((w64 (r1 * r2)) - (w64 (r3 * r4)))) = r5
    refine TL.run 5 [] [(8, .int .i64 r5)] rfl ⟨by kernel_rfl, by kernel_rfl⟩ ?_
    refine TL.next rfl ?_
    refine TC.ret ?_
    refine TE.ret_then ?_
    have e : skywayref1_CmpProducts a b_ c d = r5 := by subst hr1 hr2 hr3 hr4 hr5; unfold skywayref1_CmpProducts; exact cond_t h1 (rfl)
    exact TE.ret [] (.int .i64 r5) ⟨by kernel_rfl, by kernel_rfl⟩ (by rw [e]; first | done | kernel_rfl)
  · refine TC.skip ?_
    refine TE.next ?_
    refine TC.seq ?_
    refine TC.region ?_
    refine TL.run 2 [] [(2, .int .i64 c), (3, .int .i64 d), (9, .int .i64 (w64 (r1 * r2))), (31, .int .i64 a), (32, .int .i64 b_)] rfl ⟨by kernel_rfl, by kernel_rfl⟩ ?_
    refine TL.callN (Γ := (Option Addr × Nat)) (fun g => .slice g.1 ((skywayref1_product a b_).length) g.2) (fun g => [.inr (Own g.1 g.2 3 1 ((skywayref1_product a b_).map ic))]) (fun g => [.inr (Own g.1 g.2 3 1 ((skywayref1_product a b_).map ic))]) (fun g => rfl) (some 33) (fun g => [(2, .int .i64 c), (3, .int .i64 d), (9, .int .i64 (w64 (r1 * r2))), (33, .slice g.1 ((skywayref1_product a b_).length) g.2)]) (fun w _ => skywayref1_product_w a b_ w) (by kernel_rfl) (fun g => by kernel_rfl) ?_
    rintro ⟨A, c_2⟩
    generalize hr6 : skywayref1_product a b_ = r6
    refine TL.know (fun w hM => hM.short_at 0 rfl) (fun s_r6_0 => ?_)
    refine TL.run 5 [] [(9, .int .i64 (w64 (r1 * r2))), (33, .slice A r6.length c_2), (34, .int .i64 c), (35, .int .i64 d)] rfl ⟨by kernel_rfl, by kernel_rfl⟩ ?_
    refine TL.callN (Γ := (Option Addr × Nat)) (fun g => .slice g.1 ((skywayref1_product c d).length) g.2) (fun g => [.inr (Own g.1 g.2 3 1 ((skywayref1_product c d).map ic))]) (fun g => [.inr (Own g.1 g.2 3 1 ((skywayref1_product c d).map ic)), .inr (Own A c_2 3 1 (r6.map ic))]) (fun g => rfl) (some 36) (fun g => [(9, .int .i64 (w64 (r1 * r2))), (33, .slice A r6.length c_2), (36, .slice g.1 ((skywayref1_product c d).length) g.2)]) (fun w _ => skywayref1_product_w c d w) (by kernel_rfl) (fun g => by kernel_rfl) ?_
    rintro ⟨A_2, c_3⟩
    generalize hr7 : skywayref1_product c d = r7
    refine TL.know (fun w hM => hM.short_at 0 rfl) (fun s_r7_0 => ?_)
    refine TL.run 8 [] [(9, .int .i64 (w64 (r1 * r2))), (11, .slice A r6.length c_2), (12, .slice A_2 r7.length c_3)] rfl ⟨by kernel_rfl, by kernel_rfl⟩ ?_
    refine TL.next rfl ?_
    refine TC.seq ?_
    refine TC.seq ?_
    refine TC.region ?_
    refine TL.run 4 [] [(9, .int .i64 (w64 (r1 * r2))), (11, .slice A r6.length c_2), (12, .slice A_2 r7.length c_3), (13, .int .i64 (w64 ((r6.length : Int) - 1)))] rfl ⟨by kernel_rfl, by kernel_rfl⟩ ?_
    refine TL.next rfl ?_
    refine TC.weak [(9, .int .i64 (w64 (r1 * r2))), (11, .slice A r6.length c_2), (12, .slice A_2 r7.length c_3), (13, .int .i64 (w64 ((r6.length : Int) - 1)))] (by kernel_rfl) ?_
    obtain ⟨R1, hR⟩ : ∃ R, R = skywayref1_CmpProducts_L1 r1 r2 r6 r7 ((((r6.length : Int) - 1) + 1).toNat) 0 := ⟨_, rfl⟩
    refine TC.cut (S := Unit) (fun (_ : Unit) => []) (fun (_ : Unit) => []) (fun (_ : Unit) => R1 = .inl ()) ?_ ?_
    · refine TC.block ?_
      refine TC.rw 13 (.int .i64 (w64 ((r6.length : Int) - 1))) (.int .i64 (((r6.length : Int) - 1) - ((0 : Nat) : Int))) (by kernel_rfl) (int_eq (by have q0_ := (bne_f h1); (try have l1_ := product_len hr6); (try have l2_ := product_len hr7); first | omega | (rw [w64_id (by omega)]; omega) | (simp only [w64_eq]; omega))) ?_
      refine TC.weak [(9, .int .i64 (w64 (r1 * r2))), (11, .slice A r6.length c_2), (12, .slice A_2 r7.length c_3), (13, .int .i64 (((r6.length : Int) - 1) - ((0 : Nat) : Int)))] (by kernel_rfl) ?_
      refine TC.loop (X := Nat) (fun k => [(9, .int .i64 (w64 (r1 * r2))), (11, .slice A r6.length c_2), (12, .slice A_2 r7.length c_3), (13, .int .i64 (((r6.length : Int) - 1) - ((k : Nat) : Int)))]) (fun k => [.inr (Own A_2 c_3 3 1 (r7.map ic)), .inr (Own A c_2 3 1 (r6.map ic))]) (fun k => ((((r6.length : Int) - 1) + 1).toNat) - k) (fun k => k ≤ ((((r6.length : Int) - 1) + 1).toNat) ∧ R1 = skywayref1_CmpProducts_L1 r1 r2 r6 r7 (((((r6.length : Int) - 1) + 1).toNat) - k) k) ?_ 0 ⟨Nat.zero_le _, hR⟩
      rintro k ⟨hk, hI⟩
      refine TC.seq ?_
      refine TC.seq ?_
      refine TC.region ?_
      refine TL.run 2 [] [(9, .int .i64 (w64 (r1 * r2))), (11, .slice A r6.length c_2), (12, .slice A_2 r7.length c_3), (13, .int .i64 (((r6.length : Int) - 1) - ((k : Nat) : Int))), (41, .bool (decide ((((r6.length : Int) - 1) - ((k : Nat) : Int)) ≥ 0)))] rfl ⟨by kernel_rfl, by kernel_rfl⟩ ?_
      refine TL.next rfl ?_
      refine TC.cond (decide ((((r6.length : Int) - 1) - ((k : Nat) : Int)) ≥ 0)) rfl (by kernel_rfl) (fun h2 => ?_) (fun h2 => ?_)
      · have hlt : k < ((((r6.length : Int) - 1) + 1).toNat) := by have q0_ := (bne_f h1); (try have l1_ := product_len hr6); (try have l2_ := product_len hr7); have p0_ := (dec_t h2); first | omega | (simp only [w64_eq] at *; omega)
        have hd : ((((r6.length : Int) - 1) + 1).toNat) - k = (((((r6.length : Int) - 1) + 1).toNat) - (k + 1)) + 1 := by omega
        refine TC.skip ?_
        refine TE.next ?_
        refine TC.seq ?_
        refine TC.block ?_
        refine TC.seq ?_
        refine TC.draw 9 (by kernel_rfl) (by kernel_rfl) (by kernel_rfl) ?_
        refine TQ.run 2 [] [(9, .int .i64 (w64 (r1 * r2))), (11, .slice A r6.length c_2), (12, .slice A_2 r7.length c_3), (13, .int .i64 (((r6.length : Int) - 1) - ((k : Nat) : Int))), (44, .slice A r6.length c_2), (45, .int .i64 (((r6.length : Int) - 1) - ((k : Nat) : Int)))] rfl ⟨by kernel_rfl, by kernel_rfl⟩ ?_
        refine TQ.val (sV (Instr.indexAt 34 (.slice A r6.length c_2) (.int .i64 (((r6.length : Int) - 1) - ((k : Nat) : Int))))) (some 46) (.pointer (some ((A.getD noAddr).add ((((r6.length : Int) - 1) - ((k : Nat) : Int)).toNat * 1)))) [(9, .int .i64 (w64 (r1 * r2))), (11, .slice A r6.length c_2), (12, .slice A_2 r7.length c_3), (13, .int .i64 (((r6.length : Int) - 1) - ((k : Nat) : Int))), (46, .pointer (some ((A.getD noAddr).add ((((r6.length : Int) - 1) - ((k : Nat) : Int)).toNat * 1))))] (fun w hM => run_index (hM.rd_at 1 rfl) (by simp) (by kernel_rfl) (by have q0_ := (bne_f h1); have q1_ := (dec_t h2); (try have l1_ := product_len hr6); (try have l2_ := product_len hr7); first | omega | (simp only [List.length_drop]; omega) | (simp only [w64_eq]; omega) | exact (tm_in (by (first | (rw [w64_id (by omega)]; omega) | (simp only [w64_eq]; omega))) (by omega)).1 | exact (tm_in (by (first | (rw [w64_id (by omega)]; omega) | (simp only [w64_eq]; omega))) (by omega)).2.1 | exact (tm_in (by (first | (rw [w64_id (by omega)]; omega) | (simp only [w64_eq]; omega))) (by omega)).2.2 | (simp only [List.length_take] at *; omega) | (simp <;> omega)) (by have q0_ := (bne_f h1); have q1_ := (dec_t h2); (try have l1_ := product_len hr6); (try have l2_ := product_len hr7); first | omega | (simp only [List.length_drop]; omega) | (simp only [w64_eq]; omega) | exact (tm_in (by (first | (rw [w64_id (by omega)]; omega) | (simp only [w64_eq]; omega))) (by omega)).1 | exact (tm_in (by (first | (rw [w64_id (by omega)]; omega) | (simp only [w64_eq]; omega))) (by omega)).2.1 | exact (tm_in (by (first | (rw [w64_id (by omega)]; omega) | (simp only [w64_eq]; omega))) (by omega)).2.2 | (simp only [List.length_take] at *; omega) | (simp <;> omega))) rfl (by kernel_rfl) (by kernel_rfl) ?_
        refine TQ.val (sV (Instr.loadAt 3 (.pointer (some ((A.getD noAddr).add ((((r6.length : Int) - 1) - ((k : Nat) : Int)).toNat * 1)))))) (some 47) (.int .i64 (r6[(((r6.length : Int) - 1) - ((k : Nat) : Int)).toNat]?.getD 0)) [(9, .int .i64 (w64 (r1 * r2))), (11, .slice A r6.length c_2), (12, .slice A_2 r7.length c_3), (13, .int .i64 (((r6.length : Int) - 1) - ((k : Nat) : Int))), (47, .int .i64 (r6[(((r6.length : Int) - 1) - ((k : Nat) : Int)).toNat]?.getD 0))] (fun w hM => run_load_one (off := 0) (i := (((r6.length : Int) - 1) - ((k : Nat) : Int)).toNat) (.int .i64 (r6[(((r6.length : Int) - 1) - ((k : Nat) : Int)).toNat]?.getD 0)) (hM.rd_at 1 rfl) (map_at (getD_at _ _ 0 (by have q0_ := (bne_f h1); have q1_ := (dec_t h2); (try have l1_ := product_len hr6); (try have l2_ := product_len hr7); first | omega | (simp only [List.length_drop]; omega) | (simp only [w64_eq]; omega) | exact (tm_in (by (first | (rw [w64_id (by omega)]; omega) | (simp only [w64_eq]; omega))) (by omega)).1 | exact (tm_in (by (first | (rw [w64_id (by omega)]; omega) | (simp only [w64_eq]; omega))) (by omega)).2.1 | exact (tm_in (by (first | (rw [w64_id (by omega)]; omega) | (simp only [w64_eq]; omega))) (by omega)).2.2 | (simp only [List.length_take] at *; omega) | (simp <;> omega)))) (by kernel_rfl) (by kernel_rfl)) rfl (by kernel_rfl) (by kernel_rfl) ?_
        refine TQ.run 6 [] [(9, .int .i64 (w64 (r1 * r2))), (11, .slice A r6.length c_2), (12, .slice A_2 r7.length c_3), (13, .int .i64 (((r6.length : Int) - 1) - ((k : Nat) : Int))), (47, .int .i64 (r6[(((r6.length : Int) - 1) - ((k : Nat) : Int)).toNat]?.getD 0)), (48, .slice A_2 r7.length c_3), (49, .int .i64 (((r6.length : Int) - 1) - ((k : Nat) : Int)))] rfl ⟨by kernel_rfl, by kernel_rfl⟩ ?_
        refine TQ.val (sV (Instr.indexAt 34 (.slice A_2 r7.length c_3) (.int .i64 (((r6.length : Int) - 1) - ((k : Nat) : Int))))) (some 50) (.pointer (some ((A_2.getD noAddr).add ((((r6.length : Int) - 1) - ((k : Nat) : Int)).toNat * 1)))) [(9, .int .i64 (w64 (r1 * r2))), (11, .slice A r6.length c_2), (12, .slice A_2 r7.length c_3), (13, .int .i64 (((r6.length : Int) - 1) - ((k : Nat) : Int))), (47, .int .i64 (r6[(((r6.length : Int) - 1) - ((k : Nat) : Int)).toNat]?.getD 0)), (50, .pointer (some ((A_2.getD noAddr).add ((((r6.length : Int) - 1) - ((k : Nat) : Int)).toNat * 1))))] (fun w hM => run_index (hM.rd_at 0 rfl) (by simp) (by kernel_rfl) (by have q0_ := (bne_f h1); have q1_ := (dec_t h2); (try have l1_ := product_len hr6); (try have l2_ := product_len hr7); first | omega | (simp only [List.length_drop]; omega) | (simp only [w64_eq]; omega) | exact (tm_in (by (first | (rw [w64_id (by omega)]; omega) | (simp only [w64_eq]; omega))) (by omega)).1 | exact (tm_in (by (first | (rw [w64_id (by omega)]; omega) | (simp only [w64_eq]; omega))) (by omega)).2.1 | exact (tm_in (by (first | (rw [w64_id (by omega)]; omega) | (simp only [w64_eq]; omega))) (by omega)).2.2 | (simp only [List.length_take] at *; omega) | (simp <;> omega)) (by have q0_ := (bne_f h1); have q1_ := (dec_t h2); (try have l1_ := product_len hr6); (try have l2_ := product_len hr7); first | omega | (simp only [List.length_drop]; omega) | (simp only [w64_eq]; omega) | exact (tm_in (by (first | (rw [w64_id (by omega)]; omega) | (simp only [w64_eq]; omega))) (by omega)).1 | exact (tm_in (by (first | (rw [w64_id (by omega)]; omega) | (simp only [w64_eq]; omega))) (by omega)).2.1 | exact (tm_in (by (first | (rw [w64_id (by omega)]; omega) | (simp only [w64_eq]; omega))) (by omega)).2.2 | (simp only [List.length_take] at *; omega) | (simp <;> omega))) rfl (by kernel_rfl) (by kernel_rfl) ?_
        refine TQ.val (sV (Instr.loadAt 3 (.pointer (some ((A_2.getD noAddr).add ((((r6.length : Int) - 1) - ((k : Nat) : Int)).toNat * 1)))))) (some 51) (.int .i64 (r7[(((r6.length : Int) - 1) - ((k : Nat) : Int)).toNat]?.getD 0)) [(9, .int .i64 (w64 (r1 * r2))), (11, .slice A r6.length c_2), (12, .slice A_2 r7.length c_3), (13, .int .i64 (((r6.length : Int) - 1) - ((k : Nat) : Int))), (47, .int .i64 (r6[(((r6.length : Int) - 1) - ((k : Nat) : Int)).toNat]?.getD 0)), (51, .int .i64 (r7[(((r6.length : Int) - 1) - ((k : Nat) : Int)).toNat]?.getD 0))] (fun w hM => run_load_one (off := 0) (i := (((r6.length : Int) - 1) - ((k : Nat) : Int)).toNat) (.int .i64 (r7[(((r6.length : Int) - 1) - ((k : Nat) : Int)).toNat]?.getD 0)) (hM.rd_at 0 rfl) (map_at (getD_at _ _ 0 (by have q0_ := (bne_f h1); have q1_ := (dec_t h2); (try have l1_ := product_len hr6); (try have l2_ := product_len hr7); first | omega | (simp only [List.length_drop]; omega) | (simp only [w64_eq]; omega) | exact (tm_in (by (first | (rw [w64_id (by omega)]; omega) | (simp only [w64_eq]; omega))) (by omega)).1 | exact (tm_in (by (first | (rw [w64_id (by omega)]; omega) | (simp only [w64_eq]; omega))) (by omega)).2.1 | exact (tm_in (by (first | (rw [w64_id (by omega)]; omega) | (simp only [w64_eq]; omega))) (by omega)).2.2 | (simp only [List.length_take] at *; omega) | (simp <;> omega)))) (by kernel_rfl) (by kernel_rfl)) rfl (by kernel_rfl) (by kernel_rfl) ?_
        refine TQ.run 9 [] [(9, .int .i64 (w64 (r1 * r2))), (11, .slice A r6.length c_2), (12, .slice A_2 r7.length c_3), (13, .int .i64 (((r6.length : Int) - 1) - ((k : Nat) : Int))), (52, .bool ((r6[(((r6.length : Int) - 1) - ((k : Nat) : Int)).toNat]?.getD 0) != (r7[(((r6.length : Int) - 1) - ((k : Nat) : Int)).toNat]?.getD 0)))] rfl ⟨by kernel_rfl, by kernel_rfl⟩ ?_
        refine TQ.next rfl ?_
        refine TC.cond ((r6[(((r6.length : Int) - 1) - ((k : Nat) : Int)).toNat]?.getD 0) != (r7[(((r6.length : Int) - 1) - ((k : Nat) : Int)).toNat]?.getD 0)) rfl (by kernel_rfl) (fun h3 => ?_) (fun h3 => ?_)
        · refine TC.seq ?_
          refine TC.seq ?_
          refine TC.draw 9 (by kernel_rfl) (by kernel_rfl) (by kernel_rfl) ?_
          refine TQ.run 2 [] [(9, .int .i64 (w64 (r1 * r2))), (12, .slice A_2 r7.length c_3), (13, .int .i64 (((r6.length : Int) - 1) - ((k : Nat) : Int))), (53, .slice A r6.length c_2), (54, .int .i64 (((r6.length : Int) - 1) - ((k : Nat) : Int)))] rfl ⟨by kernel_rfl, by kernel_rfl⟩ ?_
          refine TQ.val (sV (Instr.indexAt 34 (.slice A r6.length c_2) (.int .i64 (((r6.length : Int) - 1) - ((k : Nat) : Int))))) (some 55) (.pointer (some ((A.getD noAddr).add ((((r6.length : Int) - 1) - ((k : Nat) : Int)).toNat * 1)))) [(9, .int .i64 (w64 (r1 * r2))), (12, .slice A_2 r7.length c_3), (13, .int .i64 (((r6.length : Int) - 1) - ((k : Nat) : Int))), (55, .pointer (some ((A.getD noAddr).add ((((r6.length : Int) - 1) - ((k : Nat) : Int)).toNat * 1))))] (fun w hM => run_index (hM.rd_at 1 rfl) (by simp) (by kernel_rfl) (by have q0_ := (bne_f h1); have q1_ := (dec_t h2); have q2_ := (bne_t h3); (try have l1_ := product_len hr6); (try have l2_ := product_len hr7); first | omega | (simp only [List.length_drop]; omega) | (simp only [w64_eq]; omega) | exact (tm_in (by (first | (rw [w64_id (by omega)]; omega) | (simp only [w64_eq]; omega))) (by omega)).1 | exact (tm_in (by (first | (rw [w64_id (by omega)]; omega) | (simp only [w64_eq]; omega))) (by omega)).2.1 | exact (tm_in (by (first | (rw [w64_id (by omega)]; omega) | (simp only [w64_eq]; omega))) (by omega)).2.2 | (simp only [List.length_take] at *; omega) | (simp <;> omega)) (by have q0_ := (bne_f h1); have q1_ := (dec_t h2); have q2_ := (bne_t h3); (try have l1_ := product_len hr6); (try have l2_ := product_len hr7); first | omega | (simp only [List.length_drop]; omega) | (simp only [w64_eq]; omega) | exact (tm_in (by (first | (rw [w64_id (by omega)]; omega) | (simp only [w64_eq]; omega))) (by omega)).1 | exact (tm_in (by (first | (rw [w64_id (by omega)]; omega) | (simp only [w64_eq]; omega))) (by omega)).2.1 | exact (tm_in (by (first | (rw [w64_id (by omega)]; omega) | (simp only [w64_eq]; omega))) (by omega)).2.2 | (simp only [List.length_take] at *; omega) | (simp <;> omega))) rfl (by kernel_rfl) (by kernel_rfl) ?_
          refine TQ.val (sV (Instr.loadAt 3 (.pointer (some ((A.getD noAddr).add ((((r6.length : Int) - 1) - ((k : Nat) : Int)).toNat * 1)))))) (some 56) (.int .i64 (r6[(((r6.length : Int) - 1) - ((k : Nat) : Int)).toNat]?.getD 0)) [(9, .int .i64 (w64 (r1 * r2))), (12, .slice A_2 r7.length c_3), (13, .int .i64 (((r6.length : Int) - 1) - ((k : Nat) : Int))), (56, .int .i64 (r6[(((r6.length : Int) - 1) - ((k : Nat) : Int)).toNat]?.getD 0))] (fun w hM => run_load_one (off := 0) (i := (((r6.length : Int) - 1) - ((k : Nat) : Int)).toNat) (.int .i64 (r6[(((r6.length : Int) - 1) - ((k : Nat) : Int)).toNat]?.getD 0)) (hM.rd_at 1 rfl) (map_at (getD_at _ _ 0 (by have q0_ := (bne_f h1); have q1_ := (dec_t h2); have q2_ := (bne_t h3); (try have l1_ := product_len hr6); (try have l2_ := product_len hr7); first | omega | (simp only [List.length_drop]; omega) | (simp only [w64_eq]; omega) | exact (tm_in (by (first | (rw [w64_id (by omega)]; omega) | (simp only [w64_eq]; omega))) (by omega)).1 | exact (tm_in (by (first | (rw [w64_id (by omega)]; omega) | (simp only [w64_eq]; omega))) (by omega)).2.1 | exact (tm_in (by (first | (rw [w64_id (by omega)]; omega) | (simp only [w64_eq]; omega))) (by omega)).2.2 | (simp only [List.length_take] at *; omega) | (simp <;> omega)))) (by kernel_rfl) (by kernel_rfl)) rfl (by kernel_rfl) (by kernel_rfl) ?_
          refine TQ.run 6 [] [(9, .int .i64 (w64 (r1 * r2))), (56, .int .i64 (r6[(((r6.length : Int) - 1) - ((k : Nat) : Int)).toNat]?.getD 0)), (57, .slice A_2 r7.length c_3), (58, .int .i64 (((r6.length : Int) - 1) - ((k : Nat) : Int)))] rfl ⟨by kernel_rfl, by kernel_rfl⟩ ?_
          refine TQ.val (sV (Instr.indexAt 34 (.slice A_2 r7.length c_3) (.int .i64 (((r6.length : Int) - 1) - ((k : Nat) : Int))))) (some 59) (.pointer (some ((A_2.getD noAddr).add ((((r6.length : Int) - 1) - ((k : Nat) : Int)).toNat * 1)))) [(9, .int .i64 (w64 (r1 * r2))), (56, .int .i64 (r6[(((r6.length : Int) - 1) - ((k : Nat) : Int)).toNat]?.getD 0)), (59, .pointer (some ((A_2.getD noAddr).add ((((r6.length : Int) - 1) - ((k : Nat) : Int)).toNat * 1))))] (fun w hM => run_index (hM.rd_at 0 rfl) (by simp) (by kernel_rfl) (by have q0_ := (bne_f h1); have q1_ := (dec_t h2); have q2_ := (bne_t h3); (try have l1_ := product_len hr6); (try have l2_ := product_len hr7); first | omega | (simp only [List.length_drop]; omega) | (simp only [w64_eq]; omega) | exact (tm_in (by (first | (rw [w64_id (by omega)]; omega) | (simp only [w64_eq]; omega))) (by omega)).1 | exact (tm_in (by (first | (rw [w64_id (by omega)]; omega) | (simp only [w64_eq]; omega))) (by omega)).2.1 | exact (tm_in (by (first | (rw [w64_id (by omega)]; omega) | (simp only [w64_eq]; omega))) (by omega)).2.2 | (simp only [List.length_take] at *; omega) | (simp <;> omega)) (by have q0_ := (bne_f h1); have q1_ := (dec_t h2); have q2_ := (bne_t h3); (try have l1_ := product_len hr6); (try have l2_ := product_len hr7); first | omega | (simp only [List.length_drop]; omega) | (simp only [w64_eq]; omega) | exact (tm_in (by (first | (rw [w64_id (by omega)]; omega) | (simp only [w64_eq]; omega))) (by omega)).1 | exact (tm_in (by (first | (rw [w64_id (by omega)]; omega) | (simp only [w64_eq]; omega))) (by omega)).2.1 | exact (tm_in (by (first | (rw [w64_id (by omega)]; omega) | (simp only [w64_eq]; omega))) (by omega)).2.2 | (simp only [List.length_take] at *; omega) | (simp <;> omega))) rfl (by kernel_rfl) (by kernel_rfl) ?_
          refine TQ.val (sV (Instr.loadAt 3 (.pointer (some ((A_2.getD noAddr).add ((((r6.length : Int) - 1) - ((k : Nat) : Int)).toNat * 1)))))) (some 60) (.int .i64 (r7[(((r6.length : Int) - 1) - ((k : Nat) : Int)).toNat]?.getD 0)) [(9, .int .i64 (w64 (r1 * r2))), (56, .int .i64 (r6[(((r6.length : Int) - 1) - ((k : Nat) : Int)).toNat]?.getD 0)), (60, .int .i64 (r7[(((r6.length : Int) - 1) - ((k : Nat) : Int)).toNat]?.getD 0))] (fun w hM => run_load_one (off := 0) (i := (((r6.length : Int) - 1) - ((k : Nat) : Int)).toNat) (.int .i64 (r7[(((r6.length : Int) - 1) - ((k : Nat) : Int)).toNat]?.getD 0)) (hM.rd_at 0 rfl) (map_at (getD_at _ _ 0 (by have q0_ := (bne_f h1); have q1_ := (dec_t h2); have q2_ := (bne_t h3); (try have l1_ := product_len hr6); (try have l2_ := product_len hr7); first | omega | (simp only [List.length_drop]; omega) | (simp only [w64_eq]; omega) | exact (tm_in (by (first | (rw [w64_id (by omega)]; omega) | (simp only [w64_eq]; omega))) (by omega)).1 | exact (tm_in (by (first | (rw [w64_id (by omega)]; omega) | (simp only [w64_eq]; omega))) (by omega)).2.1 | exact (tm_in (by (first | (rw [w64_id (by omega)]; omega) | (simp only [w64_eq]; omega))) (by omega)).2.2 | (simp only [List.length_take] at *; omega) | (simp <;> omega)))) (by kernel_rfl) (by kernel_rfl)) rfl (by kernel_rfl) (by kernel_rfl) ?_
          refine TQ.run 9 [] [(9, .int .i64 (w64 (r1 * r2))), (61, .bool (decide ((r6[(((r6.length : Int) - 1) - ((k : Nat) : Int)).toNat]?.getD 0) > (r7[(((r6.length : Int) - 1) - ((k : Nat) : Int)).toNat]?.getD 0))))] rfl ⟨by kernel_rfl, by kernel_rfl⟩ ?_
          refine TQ.next rfl ?_
          refine TC.cond (decide ((r6[(((r6.length : Int) - 1) - ((k : Nat) : Int)).toNat]?.getD 0) > (r7[(((r6.length : Int) - 1) - ((k : Nat) : Int)).toNat]?.getD 0))) rfl (by kernel_rfl) (fun h4 => ?_) (fun h4 => ?_)
          · refine TC.seq ?_
            refine TC.region ?_
            refine TL.run 2 [] [(8, .int .i64 (w64 (r1 * r2)))] rfl ⟨by kernel_rfl, by kernel_rfl⟩ ?_
            refine TL.next rfl ?_
            refine TC.ret ?_
            refine TE.ret_then (TE.ret_block (TE.ret_then (TE.ret_then (TE.ret_block (TE.ret_then (TE.ret_then ?_))))))
            have e : skywayref1_CmpProducts a b_ c d = (w64 (r1 * r2)) := by subst hr1 hr2 hr3 hr4 hr6 hr7; unfold skywayref1_CmpProducts; exact cond_f h1 (elim_r (hR.symm.trans (hI.trans (by rw [hd]; exact cond_t h3 (cond_t h4 (rfl))))) rfl)
            exact TE.ret [] (.int .i64 (w64 (r1 * r2))) ⟨by kernel_rfl, by kernel_rfl⟩ (by rw [e]; first | done | kernel_rfl)
          · refine TC.skip ?_
            refine TE.next ?_
            refine TC.seq ?_
            refine TC.region ?_
            refine TL.run 3 [] [(8, .int .i64 (w64 (0 - (w64 (r1 * r2)))))] rfl ⟨by kernel_rfl, by kernel_rfl⟩ ?_
            refine TL.next rfl ?_
            refine TC.ret ?_
            refine TE.ret_block (TE.ret_then (TE.ret_then (TE.ret_block (TE.ret_then (TE.ret_then ?_)))))
            have e : skywayref1_CmpProducts a b_ c d = (w64 (0 - (w64 (r1 * r2)))) := by subst hr1 hr2 hr3 hr4 hr6 hr7; unfold skywayref1_CmpProducts; exact cond_f h1 (elim_r (hR.symm.trans (hI.trans (by rw [hd]; exact cond_t h3 (cond_f h4 (rfl))))) rfl)
            exact TE.ret [] (.int .i64 (w64 (0 - (w64 (r1 * r2))))) ⟨by kernel_rfl, by kernel_rfl⟩ (by rw [e]; first | done | kernel_rfl)
        · refine TC.skip ?_
          refine TE.normal_block ?_
          refine TE.next ?_
          refine TC.region ?_
          refine TL.run 3 [] [(9, .int .i64 (w64 (r1 * r2))), (11, .slice A r6.length c_2), (12, .slice A_2 r7.length c_3), (13, .int .i64 (w64 ((((r6.length : Int) - 1) - ((k : Nat) : Int)) - 1)))] rfl ⟨by kernel_rfl, by kernel_rfl⟩ ?_
          refine TL.done rfl ?_
          refine TE.rw 13 (.int .i64 (w64 ((((r6.length : Int) - 1) - ((k : Nat) : Int)) - 1))) (.int .i64 (((r6.length : Int) - 1) - ((k + 1 : Nat) : Int))) (by kernel_rfl) (int_eq (by have q0_ := (bne_f h1); have q1_ := (dec_t h2); have q2_ := (bne_f h3); (try have l1_ := product_len hr6); (try have l2_ := product_len hr7); first | omega | (rw [w64_id (by omega)]; omega) | (simp only [w64_eq] at *; omega))) ?_
          exact TE.again (x := k) (k + 1) ⟨by omega, hI.trans (by subst hr1 hr2 hr3 hr4 hr6 hr7; rw [hd]; exact cond_f h3 (rfl))⟩ (by show ((((r6.length : Int) - 1) + 1).toNat) - (k + 1) < ((((r6.length : Int) - 1) + 1).toNat) - k; omega) (by kernel_rfl) (.cons_cons _ (.cons_cons _ (.slnil)))
      · have hd : ((((r6.length : Int) - 1) + 1).toNat) - k = 0 := by have q0_ := (bne_f h1); (try have l1_ := product_len hr6); (try have l2_ := product_len hr7); have p0_ := (dec_f h2); first | omega | (simp only [w64_eq] at *; omega)
        refine TC.exit ?_
        refine TE.exit_then (TE.exit_then (TE.exit_same ?_))
        exact TE.cut () (hI.trans (by subst hr1 hr2 hr3 hr4 hr6 hr7; rw [hd]; exact rfl)) (by kernel_rfl) (.cons _ (.cons _ (.slnil)))
    · intro _ hJ
      refine TE.next ?_
      refine TC.seq ?_
      refine TC.region ?_
      refine TL.run 1 [] [(8, .int .i64 0)] rfl ⟨by kernel_rfl, by kernel_rfl⟩ ?_
      refine TL.next rfl ?_
      refine TC.ret ?_
      have e : skywayref1_CmpProducts a b_ c d = 0 := by subst hr1 hr2 hr3 hr4 hr6 hr7; unfold skywayref1_CmpProducts; exact cond_f h1 (elim_l (hR.symm.trans hJ) (rfl))
      exact TE.ret [] (.int .i64 0) ⟨by kernel_rfl, by kernel_rfl⟩ (by rw [e]; first | done | kernel_rfl)

def skywaylaw1_NumProducts (a : Int) (b_ : Int) (c : Int) : Bool :=
  let r1 := skywaylaw1_numWorks
  cond (!r1) (
    false) (
    let r2 := num_MulDiv a b_ c
    cond (c == 0) (
      (r2.2 == 10) && (r2.1 == 0)) (
      cond (r2.2 == 2) (
        cond (decide (c > 0)) (
          cond (r2.1 == 0) (
            let r3 := skywayref1_CmpProducts a b_ c (-9223372036854775808)
            cond (decide (r3 < 0)) (
              true) (
              let r4 := skywayref1_CmpProducts a b_ c 4611686018427387904
              cond (decide (r4 > 0)) (
                let r5 := skywayref1_CmpProducts a b_ c 9223372036854775807
                decide (r5 > 0)) (
                false))) (
            false)) (
          cond (r2.1 == 0) (
            let r6 := skywayref1_CmpProducts a b_ c (-9223372036854775808)
            cond (decide (r6 > 0)) (
              true) (
              let r7 := skywayref1_CmpProducts a b_ c 9223372036854775807
              decide (r7 < 0))) (
            false))) (
        cond (r2.2 != 0) (
          false) (
          cond (decide (c > 0)) (
            let r8 := skywayref1_CmpProducts a b_ c r2.1
            cond (decide (r8 ≥ 0)) (
              cond (r2.1 == 9223372036854775807) (
                true) (
                let r9 := skywayref1_CmpProducts a b_ c (w64 (r2.1 + 1))
                decide (r9 < 0))) (
              false)) (
            let r10 := skywayref1_CmpProducts a b_ c r2.1
            cond (decide (r10 ≤ 0)) (
              cond (r2.1 == 9223372036854775807) (
                true) (
                let r11 := skywayref1_CmpProducts a b_ c (w64 (r2.1 + 1))
                decide (r11 > 0))) (
              false))))))

set_option maxRecDepth 100000 in
theorem skywaylaw1_NumProducts_w (a : Int) (b_ : Int) (c : Int) (w : World) : Calls Try.prog 8 #[.int .i64 a, .int .i64 b_, .int .i64 c] w (Ret w (.bool (skywaylaw1_NumProducts a b_ c))) := by
  refine calls_intro (vs := [.int .i64 a, .int .i64 b_, .int .i64 c]) (w := w) Try.func8 rfl Try.ntmps8 rfl ?_
  refine TC.weak [(0, .int .i64 a), (1, .int .i64 b_), (2, .int .i64 c)] (by kernel_rfl) ?_
  refine TC.seq ?_
  refine TC.region ?_
  refine TL.run 1 [] [(0, .int .i64 a), (1, .int .i64 b_), (2, .int .i64 c)] rfl ⟨by kernel_rfl, by kernel_rfl⟩ ?_
  refine TL.next rfl ?_
  refine TC.seq ?_
  refine TC.seq ?_
  refine TC.region ?_
  refine TL.call (some 9) [(0, .int .i64 a), (1, .int .i64 b_), (2, .int .i64 c), (9, .bool ((skywaylaw1_numWorks)))] (fun w _ => skywaylaw1_numWorks_w w) (by kernel_rfl) (by kernel_rfl) ?_
  generalize hr1 : skywaylaw1_numWorks = r1
  refine TL.run 2 [] [(0, .int .i64 a), (1, .int .i64 b_), (2, .int .i64 c), (10, .bool (!r1))] rfl ⟨by kernel_rfl, by kernel_rfl⟩ ?_
  refine TL.next rfl ?_
  refine TC.cond (!r1) rfl (by kernel_rfl) (fun h1 => ?_) (fun h1 => ?_)
  · refine TC.seq ?_
    refine TC.region ?_
    refine TL.run 1 [] [(6, .bool false)] rfl ⟨by kernel_rfl, by kernel_rfl⟩ ?_
    refine TL.next rfl ?_
    refine TC.ret ?_
    refine TE.ret_then ?_
    have e : skywaylaw1_NumProducts a b_ c = false := by subst hr1; unfold skywaylaw1_NumProducts; exact cond_t h1 (rfl)
    exact TE.ret [] (.bool false) ⟨by kernel_rfl, by kernel_rfl⟩ (by rw [e]; first | done | kernel_rfl)
  · refine TC.skip ?_
    refine TE.next ?_
    refine TC.seq ?_
    refine TC.region ?_
    refine TL.run 3 [] [(0, .int .i64 a), (1, .int .i64 b_), (2, .int .i64 c), (12, .int .i64 a), (13, .int .i64 b_), (14, .int .i64 c)] rfl ⟨by kernel_rfl, by kernel_rfl⟩ ?_
    refine TL.call (some 15) [(0, .int .i64 a), (1, .int .i64 b_), (2, .int .i64 c), (15, .tuple #[.int .i64 ((num_MulDiv a b_ c).1), .int .i64 ((num_MulDiv a b_ c).2)])] (fun w _ => num_MulDiv_w a b_ c w) (by kernel_rfl) (by kernel_rfl) ?_
    generalize hr2 : num_MulDiv a b_ c = r2
    refine TL.run 9 [] [(0, .int .i64 a), (1, .int .i64 b_), (2, .int .i64 c), (7, .int .i64 r2.1), (8, .int .i64 r2.2)] rfl ⟨by kernel_rfl, by kernel_rfl⟩ ?_
    refine TL.next rfl ?_
    refine TC.seq ?_
    refine TC.block ?_
    refine TC.seq ?_
    refine TC.region ?_
    refine TL.run 3 [] [(0, .int .i64 a), (1, .int .i64 b_), (2, .int .i64 c), (7, .int .i64 r2.1), (8, .int .i64 r2.2), (18, .bool (c == 0))] rfl ⟨by kernel_rfl, by kernel_rfl⟩ ?_
    refine TL.next rfl ?_
    refine TC.cond (c == 0) rfl (by kernel_rfl) (fun h2 => ?_) (fun h2 => ?_)
    · refine TC.seq ?_
      refine TC.region ?_
      refine TL.run 3 [] [(7, .int .i64 r2.1), (23, .bool (r2.2 == 10))] rfl ⟨by kernel_rfl, by kernel_rfl⟩ ?_
      refine TL.join 23 (r2.2 == 10) 6 [] [] (fun β => [(26, .bool (β && (r2.1 == 0)))]) (by kernel_rfl) rfl ⟨by kernel_rfl, by kernel_rfl⟩ ⟨by kernel_rfl, by kernel_rfl⟩ ?_
      refine TL.run 7 [] [(6, .bool ((r2.2 == 10) && (r2.1 == 0)))] rfl ⟨by kernel_rfl, by kernel_rfl⟩ ?_
      refine TL.next rfl ?_
      refine TC.ret ?_
      refine TE.ret_block (TE.ret_then ?_)
      have e : skywaylaw1_NumProducts a b_ c = ((r2.2 == 10) && (r2.1 == 0)) := by subst hr1 hr2; unfold skywaylaw1_NumProducts; exact cond_f h1 (cond_t h2 (rfl))
      exact TE.ret [] (.bool ((r2.2 == 10) && (r2.1 == 0))) ⟨by kernel_rfl, by kernel_rfl⟩ (by rw [e]; first | done | kernel_rfl)
    · refine TC.seq ?_
      refine TC.region ?_
      refine TL.run 3 [] [(0, .int .i64 a), (1, .int .i64 b_), (2, .int .i64 c), (7, .int .i64 r2.1), (8, .int .i64 r2.2), (27, .bool (r2.2 == 2))] rfl ⟨by kernel_rfl, by kernel_rfl⟩ ?_
      refine TL.next rfl ?_
      refine TC.cond (r2.2 == 2) rfl (by kernel_rfl) (fun h3 => ?_) (fun h3 => ?_)
      · refine TC.seq ?_
        refine TC.seq ?_
        refine TC.region ?_
        refine TL.run 2 [] [(0, .int .i64 a), (1, .int .i64 b_), (2, .int .i64 c), (7, .int .i64 r2.1), (31, .bool (decide (c > 0)))] rfl ⟨by kernel_rfl, by kernel_rfl⟩ ?_
        refine TL.next rfl ?_
        refine TC.cond (decide (c > 0)) rfl (by kernel_rfl) (fun h4 => ?_) (fun h4 => ?_)
        · refine TC.seq ?_
          refine TC.region ?_
          refine TL.run 3 [] [(0, .int .i64 a), (1, .int .i64 b_), (2, .int .i64 c), (34, .bool (r2.1 == 0))] rfl ⟨by kernel_rfl, by kernel_rfl⟩ ?_
          refine TL.split 34 (r2.1 == 0) (by kernel_rfl) (fun h5 => ?_) (fun h5 => ?_)
          · refine TL.run 6 [] [(0, .int .i64 a), (1, .int .i64 b_), (2, .int .i64 c), (34, .bool true), (35, .int .i64 a), (36, .int .i64 b_), (37, .int .i64 c)] rfl ⟨by kernel_rfl, by kernel_rfl⟩ ?_
            refine TL.call (some 38) [(0, .int .i64 a), (1, .int .i64 b_), (2, .int .i64 c), (34, .bool true), (38, .int .i64 (skywayref1_CmpProducts a b_ c (-9223372036854775808)))] (fun w _ => skywayref1_CmpProducts_w a b_ c (-9223372036854775808) w) (by kernel_rfl) (by kernel_rfl) ?_
            generalize hr3 : skywayref1_CmpProducts a b_ c (-9223372036854775808) = r3
            refine TL.run 9 [] [(0, .int .i64 a), (1, .int .i64 b_), (2, .int .i64 c), (34, .bool true), (40, .bool (decide (r3 < 0)))] rfl ⟨by kernel_rfl, by kernel_rfl⟩ ?_
            refine TL.split 40 (decide (r3 < 0)) (by kernel_rfl) (fun h6 => ?_) (fun h6 => ?_)
            · refine TL.run 24 [] [(6, .bool true)] rfl ⟨by kernel_rfl, by kernel_rfl⟩ ?_
              refine TL.next rfl ?_
              refine TC.ret ?_
              refine TE.ret_then (TE.ret_block (TE.ret_then ?_))
              have e : skywaylaw1_NumProducts a b_ c = true := by subst hr1 hr2 hr3; unfold skywaylaw1_NumProducts; exact cond_f h1 (cond_f h2 (cond_t h3 (cond_t h4 (cond_t h5 (cond_t h6 (rfl))))))
              exact TE.ret [] (.bool true) ⟨by kernel_rfl, by kernel_rfl⟩ (by rw [e]; first | done | kernel_rfl)
            · refine TL.run 12 [] [(0, .int .i64 a), (1, .int .i64 b_), (2, .int .i64 c), (34, .bool true), (40, .bool false), (41, .int .i64 a), (42, .int .i64 b_), (43, .int .i64 c)] rfl ⟨by kernel_rfl, by kernel_rfl⟩ ?_
              refine TL.call (some 44) [(0, .int .i64 a), (1, .int .i64 b_), (2, .int .i64 c), (34, .bool true), (40, .bool false), (44, .int .i64 (skywayref1_CmpProducts a b_ c 4611686018427387904))] (fun w _ => skywayref1_CmpProducts_w a b_ c 4611686018427387904 w) (by kernel_rfl) (by kernel_rfl) ?_
              generalize hr4 : skywayref1_CmpProducts a b_ c 4611686018427387904 = r4
              refine TL.run 15 [] [(0, .int .i64 a), (1, .int .i64 b_), (2, .int .i64 c), (34, .bool true), (40, .bool false), (46, .bool (decide (r4 > 0)))] rfl ⟨by kernel_rfl, by kernel_rfl⟩ ?_
              refine TL.split 46 (decide (r4 > 0)) (by kernel_rfl) (fun h7 => ?_) (fun h7 => ?_)
              · refine TL.run 18 [] [(34, .bool true), (40, .bool false), (46, .bool true), (47, .int .i64 a), (48, .int .i64 b_), (49, .int .i64 c)] rfl ⟨by kernel_rfl, by kernel_rfl⟩ ?_
                refine TL.call (some 50) [(34, .bool true), (40, .bool false), (46, .bool true), (50, .int .i64 (skywayref1_CmpProducts a b_ c 9223372036854775807))] (fun w _ => skywayref1_CmpProducts_w a b_ c 9223372036854775807 w) (by kernel_rfl) (by kernel_rfl) ?_
                generalize hr5 : skywayref1_CmpProducts a b_ c 9223372036854775807 = r5
                refine TL.run 24 [] [(6, .bool (decide (r5 > 0)))] rfl ⟨by kernel_rfl, by kernel_rfl⟩ ?_
                refine TL.next rfl ?_
                refine TC.ret ?_
                refine TE.ret_then (TE.ret_block (TE.ret_then ?_))
                have e : skywaylaw1_NumProducts a b_ c = (decide (r5 > 0)) := by subst hr1 hr2 hr3 hr4 hr5; unfold skywaylaw1_NumProducts; exact cond_f h1 (cond_f h2 (cond_t h3 (cond_t h4 (cond_t h5 (cond_f h6 (cond_t h7 (rfl)))))))
                exact TE.ret [] (.bool (decide (r5 > 0))) ⟨by kernel_rfl, by kernel_rfl⟩ (by rw [e]; first | done | kernel_rfl)
              · refine TL.run 24 [] [(6, .bool false)] rfl ⟨by kernel_rfl, by kernel_rfl⟩ ?_
                refine TL.next rfl ?_
                refine TC.ret ?_
                refine TE.ret_then (TE.ret_block (TE.ret_then ?_))
                have e : skywaylaw1_NumProducts a b_ c = false := by subst hr1 hr2 hr3 hr4; unfold skywaylaw1_NumProducts; exact cond_f h1 (cond_f h2 (cond_t h3 (cond_t h4 (cond_t h5 (cond_f h6 (cond_f h7 (rfl)))))))
                exact TE.ret [] (.bool false) ⟨by kernel_rfl, by kernel_rfl⟩ (by rw [e]; first | done | kernel_rfl)
          · refine TL.run 24 [] [(6, .bool false)] rfl ⟨by kernel_rfl, by kernel_rfl⟩ ?_
            refine TL.next rfl ?_
            refine TC.ret ?_
            refine TE.ret_then (TE.ret_block (TE.ret_then ?_))
            have e : skywaylaw1_NumProducts a b_ c = false := by subst hr1 hr2; unfold skywaylaw1_NumProducts; exact cond_f h1 (cond_f h2 (cond_t h3 (cond_t h4 (cond_f h5 (rfl)))))
            exact TE.ret [] (.bool false) ⟨by kernel_rfl, by kernel_rfl⟩ (by rw [e]; first | done | kernel_rfl)
        · refine TC.skip ?_
          refine TE.next ?_
          refine TC.seq ?_
          refine TC.region ?_
          refine TL.run 3 [] [(0, .int .i64 a), (1, .int .i64 b_), (2, .int .i64 c), (57, .bool (r2.1 == 0))] rfl ⟨by kernel_rfl, by kernel_rfl⟩ ?_
          refine TL.split 57 (r2.1 == 0) (by kernel_rfl) (fun h8 => ?_) (fun h8 => ?_)
          · refine TL.run 6 [] [(0, .int .i64 a), (1, .int .i64 b_), (2, .int .i64 c), (57, .bool true), (58, .int .i64 a), (59, .int .i64 b_), (60, .int .i64 c)] rfl ⟨by kernel_rfl, by kernel_rfl⟩ ?_
            refine TL.call (some 61) [(0, .int .i64 a), (1, .int .i64 b_), (2, .int .i64 c), (57, .bool true), (61, .int .i64 (skywayref1_CmpProducts a b_ c (-9223372036854775808)))] (fun w _ => skywayref1_CmpProducts_w a b_ c (-9223372036854775808) w) (by kernel_rfl) (by kernel_rfl) ?_
            generalize hr6 : skywayref1_CmpProducts a b_ c (-9223372036854775808) = r6
            refine TL.run 9 [] [(0, .int .i64 a), (1, .int .i64 b_), (2, .int .i64 c), (57, .bool true), (63, .bool (decide (r6 > 0)))] rfl ⟨by kernel_rfl, by kernel_rfl⟩ ?_
            refine TL.split 63 (decide (r6 > 0)) (by kernel_rfl) (fun h9 => ?_) (fun h9 => ?_)
            · refine TL.run 17 [] [(6, .bool true)] rfl ⟨by kernel_rfl, by kernel_rfl⟩ ?_
              refine TL.next rfl ?_
              refine TC.ret ?_
              refine TE.ret_block (TE.ret_then ?_)
              have e : skywaylaw1_NumProducts a b_ c = true := by subst hr1 hr2 hr6; unfold skywaylaw1_NumProducts; exact cond_f h1 (cond_f h2 (cond_t h3 (cond_f h4 (cond_t h8 (cond_t h9 (rfl))))))
              exact TE.ret [] (.bool true) ⟨by kernel_rfl, by kernel_rfl⟩ (by rw [e]; first | done | kernel_rfl)
            · refine TL.run 12 [] [(57, .bool true), (63, .bool false), (64, .int .i64 a), (65, .int .i64 b_), (66, .int .i64 c)] rfl ⟨by kernel_rfl, by kernel_rfl⟩ ?_
              refine TL.call (some 67) [(57, .bool true), (63, .bool false), (67, .int .i64 (skywayref1_CmpProducts a b_ c 9223372036854775807))] (fun w _ => skywayref1_CmpProducts_w a b_ c 9223372036854775807 w) (by kernel_rfl) (by kernel_rfl) ?_
              generalize hr7 : skywayref1_CmpProducts a b_ c 9223372036854775807 = r7
              refine TL.run 17 [] [(6, .bool (decide (r7 < 0)))] rfl ⟨by kernel_rfl, by kernel_rfl⟩ ?_
              refine TL.next rfl ?_
              refine TC.ret ?_
              refine TE.ret_block (TE.ret_then ?_)
              have e : skywaylaw1_NumProducts a b_ c = (decide (r7 < 0)) := by subst hr1 hr2 hr6 hr7; unfold skywaylaw1_NumProducts; exact cond_f h1 (cond_f h2 (cond_t h3 (cond_f h4 (cond_t h8 (cond_f h9 (rfl))))))
              exact TE.ret [] (.bool (decide (r7 < 0))) ⟨by kernel_rfl, by kernel_rfl⟩ (by rw [e]; first | done | kernel_rfl)
          · refine TL.run 17 [] [(6, .bool false)] rfl ⟨by kernel_rfl, by kernel_rfl⟩ ?_
            refine TL.next rfl ?_
            refine TC.ret ?_
            refine TE.ret_block (TE.ret_then ?_)
            have e : skywaylaw1_NumProducts a b_ c = false := by subst hr1 hr2; unfold skywaylaw1_NumProducts; exact cond_f h1 (cond_f h2 (cond_t h3 (cond_f h4 (cond_f h8 (rfl)))))
            exact TE.ret [] (.bool false) ⟨by kernel_rfl, by kernel_rfl⟩ (by rw [e]; first | done | kernel_rfl)
      · refine TC.seq ?_
        refine TC.region ?_
        refine TL.run 3 [] [(0, .int .i64 a), (1, .int .i64 b_), (2, .int .i64 c), (7, .int .i64 r2.1), (71, .bool (r2.2 != 0))] rfl ⟨by kernel_rfl, by kernel_rfl⟩ ?_
        refine TL.next rfl ?_
        refine TC.cond (r2.2 != 0) rfl (by kernel_rfl) (fun h10 => ?_) (fun h10 => ?_)
        · refine TC.seq ?_
          refine TC.region ?_
          refine TL.run 1 [] [(6, .bool false)] rfl ⟨by kernel_rfl, by kernel_rfl⟩ ?_
          refine TL.next rfl ?_
          refine TC.ret ?_
          refine TE.ret_block (TE.ret_then ?_)
          have e : skywaylaw1_NumProducts a b_ c = false := by subst hr1 hr2; unfold skywaylaw1_NumProducts; exact cond_f h1 (cond_f h2 (cond_f h3 (cond_t h10 (rfl))))
          exact TE.ret [] (.bool false) ⟨by kernel_rfl, by kernel_rfl⟩ (by rw [e]; first | done | kernel_rfl)
        · refine TC.seq ?_
          refine TC.region ?_
          refine TL.run 3 [] [(0, .int .i64 a), (1, .int .i64 b_), (2, .int .i64 c), (7, .int .i64 r2.1), (74, .bool (decide (c > 0)))] rfl ⟨by kernel_rfl, by kernel_rfl⟩ ?_
          refine TL.next rfl ?_
          refine TC.cond (decide (c > 0)) rfl (by kernel_rfl) (fun h11 => ?_) (fun h11 => ?_)
          · refine TC.seq ?_
            refine TC.region ?_
            refine TL.run 4 [] [(0, .int .i64 a), (1, .int .i64 b_), (2, .int .i64 c), (7, .int .i64 r2.1), (77, .int .i64 a), (78, .int .i64 b_), (79, .int .i64 c), (80, .int .i64 r2.1)] rfl ⟨by kernel_rfl, by kernel_rfl⟩ ?_
            refine TL.call (some 81) [(0, .int .i64 a), (1, .int .i64 b_), (2, .int .i64 c), (7, .int .i64 r2.1), (81, .int .i64 (skywayref1_CmpProducts a b_ c r2.1))] (fun w _ => skywayref1_CmpProducts_w a b_ c r2.1 w) (by kernel_rfl) (by kernel_rfl) ?_
            generalize hr8 : skywayref1_CmpProducts a b_ c r2.1 = r8
            refine TL.run 7 [] [(0, .int .i64 a), (1, .int .i64 b_), (2, .int .i64 c), (7, .int .i64 r2.1), (83, .bool (decide (r8 ≥ 0)))] rfl ⟨by kernel_rfl, by kernel_rfl⟩ ?_
            refine TL.split 83 (decide (r8 ≥ 0)) (by kernel_rfl) (fun h12 => ?_) (fun h12 => ?_)
            · refine TL.run 10 [] [(0, .int .i64 a), (1, .int .i64 b_), (2, .int .i64 c), (7, .int .i64 r2.1), (83, .bool true), (86, .bool (r2.1 == 9223372036854775807))] rfl ⟨by kernel_rfl, by kernel_rfl⟩ ?_
              refine TL.split 86 (r2.1 == 9223372036854775807) (by kernel_rfl) (fun h13 => ?_) (fun h13 => ?_)
              · refine TL.run 20 [] [(6, .bool true)] rfl ⟨by kernel_rfl, by kernel_rfl⟩ ?_
                refine TL.next rfl ?_
                refine TC.ret ?_
                refine TE.ret_block (TE.ret_then ?_)
                have e : skywaylaw1_NumProducts a b_ c = true := by subst hr1 hr2 hr8; unfold skywaylaw1_NumProducts; exact cond_f h1 (cond_f h2 (cond_f h3 (cond_f h10 (cond_t h11 (cond_t h12 (cond_t h13 (rfl)))))))
                exact TE.ret [] (.bool true) ⟨by kernel_rfl, by kernel_rfl⟩ (by rw [e]; first | done | kernel_rfl)
              · refine TL.run 15 [] [(83, .bool true), (86, .bool false), (87, .int .i64 a), (88, .int .i64 b_), (89, .int .i64 c), (91, .int .i64 (w64 (r2.1 + 1)))] rfl ⟨by kernel_rfl, by kernel_rfl⟩ ?_
                refine TL.call (some 92) [(83, .bool true), (86, .bool false), (92, .int .i64 (skywayref1_CmpProducts a b_ c (w64 (r2.1 + 1))))] (fun w _ => skywayref1_CmpProducts_w a b_ c (w64 (r2.1 + 1)) w) (by kernel_rfl) (by kernel_rfl) ?_
                generalize hr9 : skywayref1_CmpProducts a b_ c (w64 (r2.1 + 1)) = r9
                refine TL.run 20 [] [(6, .bool (decide (r9 < 0)))] rfl ⟨by kernel_rfl, by kernel_rfl⟩ ?_
                refine TL.next rfl ?_
                refine TC.ret ?_
                refine TE.ret_block (TE.ret_then ?_)
                have e : skywaylaw1_NumProducts a b_ c = (decide (r9 < 0)) := by subst hr1 hr2 hr8 hr9; unfold skywaylaw1_NumProducts; exact cond_f h1 (cond_f h2 (cond_f h3 (cond_f h10 (cond_t h11 (cond_t h12 (cond_f h13 (rfl)))))))
                exact TE.ret [] (.bool (decide (r9 < 0))) ⟨by kernel_rfl, by kernel_rfl⟩ (by rw [e]; first | done | kernel_rfl)
            · refine TL.run 20 [] [(6, .bool false)] rfl ⟨by kernel_rfl, by kernel_rfl⟩ ?_
              refine TL.next rfl ?_
              refine TC.ret ?_
              refine TE.ret_block (TE.ret_then ?_)
              have e : skywaylaw1_NumProducts a b_ c = false := by subst hr1 hr2 hr8; unfold skywaylaw1_NumProducts; exact cond_f h1 (cond_f h2 (cond_f h3 (cond_f h10 (cond_t h11 (cond_f h12 (rfl))))))
              exact TE.ret [] (.bool false) ⟨by kernel_rfl, by kernel_rfl⟩ (by rw [e]; first | done | kernel_rfl)
          · refine TC.skip ?_
            refine TE.normal_block ?_
            refine TE.next ?_
            refine TC.seq ?_
            refine TC.region ?_
            refine TL.run 4 [] [(0, .int .i64 a), (1, .int .i64 b_), (2, .int .i64 c), (7, .int .i64 r2.1), (96, .int .i64 a), (97, .int .i64 b_), (98, .int .i64 c), (99, .int .i64 r2.1)] rfl ⟨by kernel_rfl, by kernel_rfl⟩ ?_
            refine TL.call (some 100) [(0, .int .i64 a), (1, .int .i64 b_), (2, .int .i64 c), (7, .int .i64 r2.1), (100, .int .i64 (skywayref1_CmpProducts a b_ c r2.1))] (fun w _ => skywayref1_CmpProducts_w a b_ c r2.1 w) (by kernel_rfl) (by kernel_rfl) ?_
            generalize hr10 : skywayref1_CmpProducts a b_ c r2.1 = r10
            refine TL.run 7 [] [(0, .int .i64 a), (1, .int .i64 b_), (2, .int .i64 c), (7, .int .i64 r2.1), (102, .bool (decide (r10 ≤ 0)))] rfl ⟨by kernel_rfl, by kernel_rfl⟩ ?_
            refine TL.split 102 (decide (r10 ≤ 0)) (by kernel_rfl) (fun h14 => ?_) (fun h14 => ?_)
            · refine TL.run 10 [] [(0, .int .i64 a), (1, .int .i64 b_), (2, .int .i64 c), (7, .int .i64 r2.1), (102, .bool true), (105, .bool (r2.1 == 9223372036854775807))] rfl ⟨by kernel_rfl, by kernel_rfl⟩ ?_
              refine TL.split 105 (r2.1 == 9223372036854775807) (by kernel_rfl) (fun h15 => ?_) (fun h15 => ?_)
              · refine TL.run 20 [] [(6, .bool true)] rfl ⟨by kernel_rfl, by kernel_rfl⟩ ?_
                refine TL.next rfl ?_
                refine TC.ret ?_
                have e : skywaylaw1_NumProducts a b_ c = true := by subst hr1 hr2 hr10; unfold skywaylaw1_NumProducts; exact cond_f h1 (cond_f h2 (cond_f h3 (cond_f h10 (cond_f h11 (cond_t h14 (cond_t h15 (rfl)))))))
                exact TE.ret [] (.bool true) ⟨by kernel_rfl, by kernel_rfl⟩ (by rw [e]; first | done | kernel_rfl)
              · refine TL.run 15 [] [(102, .bool true), (105, .bool false), (106, .int .i64 a), (107, .int .i64 b_), (108, .int .i64 c), (110, .int .i64 (w64 (r2.1 + 1)))] rfl ⟨by kernel_rfl, by kernel_rfl⟩ ?_
                refine TL.call (some 111) [(102, .bool true), (105, .bool false), (111, .int .i64 (skywayref1_CmpProducts a b_ c (w64 (r2.1 + 1))))] (fun w _ => skywayref1_CmpProducts_w a b_ c (w64 (r2.1 + 1)) w) (by kernel_rfl) (by kernel_rfl) ?_
                generalize hr11 : skywayref1_CmpProducts a b_ c (w64 (r2.1 + 1)) = r11
                refine TL.run 20 [] [(6, .bool (decide (r11 > 0)))] rfl ⟨by kernel_rfl, by kernel_rfl⟩ ?_
                refine TL.next rfl ?_
                refine TC.ret ?_
                have e : skywaylaw1_NumProducts a b_ c = (decide (r11 > 0)) := by subst hr1 hr2 hr10 hr11; unfold skywaylaw1_NumProducts; exact cond_f h1 (cond_f h2 (cond_f h3 (cond_f h10 (cond_f h11 (cond_t h14 (cond_f h15 (rfl)))))))
                exact TE.ret [] (.bool (decide (r11 > 0))) ⟨by kernel_rfl, by kernel_rfl⟩ (by rw [e]; first | done | kernel_rfl)
            · refine TL.run 20 [] [(6, .bool false)] rfl ⟨by kernel_rfl, by kernel_rfl⟩ ?_
              refine TL.next rfl ?_
              refine TC.ret ?_
              have e : skywaylaw1_NumProducts a b_ c = false := by subst hr1 hr2 hr10; unfold skywaylaw1_NumProducts; exact cond_f h1 (cond_f h2 (cond_f h3 (cond_f h10 (cond_f h11 (cond_f h14 (rfl))))))
              exact TE.ret [] (.bool false) ⟨by kernel_rfl, by kernel_rfl⟩ (by rw [e]; first | done | kernel_rfl)

end Go.Sky
