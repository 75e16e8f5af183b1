/- Functions of the program, each with the Lean function that it computes. Conditions: none. -/
import Derived.Test.YtlaealgmaalgfaaNum
namespace Go.Sky
open Go Go.Eng Go.Proofs
def Floor_pos_L1 (b_ : Int) : Nat → Nat → Int → Int → Int
  | 0, _, _, q => q
  | m + 1, k, a_2, q => cond (decide (b_ ≤ (a_2.fdiv (2 ^ (min (62 - ((k : Nat) : Int)).toNat 64))))) (
      Floor_pos_L1 b_ m (k + 1) (w64 (a_2 - (w64 (b_ * 2 ^ (min (62 - ((k : Nat) : Int)).toNat 64))))) (w64 (q + (w64 (1 * 2 ^ (min (62 - ((k : Nat) : Int)).toNat 64)))))) (
      Floor_pos_L1 b_ m (k + 1) a_2 q)
def Floor_pos (a : Int) (b_ : Int) : Int :=
  cond (decide (a < 0)) (
    0) (
    bindv (Floor_pos_L1 b_ 63 0 a 0) (fun q_2 =>
      q_2))

set_option maxRecDepth 100000 in
theorem Floor_pos_w (a : Int) (b_ : Int) (w : World) (h0 : 0 ≤ a) : Calls Try.prog 59 #[.int .i64 a, .int .i64 b_] w (Ret w (.int .i64 (Floor_pos a b_))) := by
  refine calls_intro (vs := [.int .i64 a, .int .i64 b_]) (w := w) Try.func59 rfl Try.ntmps59 rfl ?_
  refine TC.weak [(0, .int .i64 a), (1, .int .i64 b_)] (by kernel_rfl) ?_
  refine TC.seq ?_
  refine TC.region ?_
  refine TL.run 1 [] [(0, .int .i64 a), (1, .int .i64 b_)] rfl ⟨by kernel_rfl, by kernel_rfl⟩ ?_
  refine TL.next rfl ?_
  refine TC.seq ?_
  refine TC.seq ?_
  refine TC.region ?_
  refine TL.run 2 [] [(0, .int .i64 a), (1, .int .i64 b_), (8, .bool (decide (a < 0)))] rfl ⟨by kernel_rfl, by kernel_rfl⟩ ?_
  refine TL.next rfl ?_
  refine TC.cond (decide (a < 0)) rfl (by kernel_rfl) (fun h1 => ?_) (fun h1 => ?_)
  · exact ((by have := dec_t h1; omega) : False).elim
  · refine TC.skip ?_
    refine TE.next ?_
    refine TC.seq ?_
    refine TC.region ?_
    refine TL.run 1 [] [(0, .int .i64 a), (1, .int .i64 b_), (5, .int .i64 0)] rfl ⟨by kernel_rfl, by kernel_rfl⟩ ?_
    refine TL.next rfl ?_
    refine TC.seq ?_
    refine TC.seq ?_
    refine TC.region ?_
    refine TL.run 1 [] [(0, .int .i64 a), (1, .int .i64 b_), (5, .int .i64 0), (6, .int .i64 62)] rfl ⟨by kernel_rfl, by kernel_rfl⟩ ?_
    refine TL.next rfl ?_
    refine TC.weak [(0, .int .i64 a), (1, .int .i64 b_), (5, .int .i64 0), (6, .int .i64 62)] (by kernel_rfl) ?_
    obtain ⟨R1, hR⟩ : ∃ R, R = Floor_pos_L1 b_ 63 0 a 0 := ⟨_, rfl⟩
    refine TC.cut (S := Int) (fun q_2 => [(5, .int .i64 q_2)]) (fun q_2 => []) (fun q_2 => R1 = q_2) ?_ ?_
    · refine TC.block ?_
      refine TC.rw 6 (.int .i64 62) (.int .i64 (62 - ((0 : Nat) : Int))) (by kernel_rfl) (int_eq (by have q0_ := (dec_f h1); first | omega | (rw [w64_id (by omega)]; omega) | (simp only [w64_eq]; omega))) ?_
      refine TC.weak [(0, .int .i64 a), (1, .int .i64 b_), (5, .int .i64 0), (6, .int .i64 (62 - ((0 : Nat) : Int)))] (by kernel_rfl) ?_
      refine TC.loop (X := Nat × Int × Int) (fun (k, a_2, q) => [(0, .int .i64 a_2), (1, .int .i64 b_), (5, .int .i64 q), (6, .int .i64 (62 - ((k : Nat) : Int)))]) (fun (k, a_2, q) => []) (fun (k, a_2, q) => 63 - k) (fun (k, a_2, q) => k ≤ 63 ∧ R1 = Floor_pos_L1 b_ (63 - k) k a_2 q) ?_ (0, a, 0) ⟨Nat.zero_le _, hR⟩
      rintro ⟨k, a_2, q⟩ ⟨hk, hI⟩
      refine TC.seq ?_
      refine TC.seq ?_
      refine TC.region ?_
      refine TL.run 2 [] [(0, .int .i64 a_2), (1, .int .i64 b_), (5, .int .i64 q), (6, .int .i64 (62 - ((k : Nat) : Int))), (18, .bool (decide ((62 - ((k : Nat) : Int)) ≥ 0)))] rfl ⟨by kernel_rfl, by kernel_rfl⟩ ?_
      refine TL.next rfl ?_
      refine TC.cond (decide ((62 - ((k : Nat) : Int)) ≥ 0)) rfl (by kernel_rfl) (fun h2 => ?_) (fun h2 => ?_)
      · have hlt : k < 63 := by have q0_ := (dec_f h1); have p0_ := (dec_t h2); first | omega | (simp only [w64_eq] at *; omega)
        have hd : 63 - k = (63 - (k + 1)) + 1 := by omega
        refine TC.skip ?_
        refine TE.next ?_
        refine TC.seq ?_
        refine TC.block ?_
        refine TC.seq ?_
        refine TC.region ?_
        refine TL.run 3 [] [(0, .int .i64 a_2), (1, .int .i64 b_), (5, .int .i64 q), (6, .int .i64 (62 - ((k : Nat) : Int))), (21, .int .i64 b_), (22, .int .i64 a_2), (23, .int .i64 (62 - ((k : Nat) : Int)))] rfl ⟨by kernel_rfl, by kernel_rfl⟩ ?_
        refine TL.val (sV (binOp .shr 3 (.int .i64 a_2) (.int .i64 (62 - ((k : Nat) : Int))))) (some 24) (.int .i64 (a_2.fdiv (2 ^ (min (62 - ((k : Nat) : Int)).toNat 64)))) [(0, .int .i64 a_2), (1, .int .i64 b_), (5, .int .i64 q), (6, .int .i64 (62 - ((k : Nat) : Int))), (21, .int .i64 b_), (24, .int .i64 (a_2.fdiv (2 ^ (min (62 - ((k : Nat) : Int)).toNat 64))))] (fun w hM => run_shr (by have q0_ := (dec_f h1); have q1_ := (dec_t h2); first | omega | (simp only [List.length_drop]; omega) | (simp only [w64_eq]; omega) | exact (tm_in (by (first | (rw [w64_id (by omega)]; omega) | (simp only [w64_eq]; omega))) (by omega)).1 | exact (tm_in (by (first | (rw [w64_id (by omega)]; omega) | (simp only [w64_eq]; omega))) (by omega)).2.1 | exact (tm_in (by (first | (rw [w64_id (by omega)]; omega) | (simp only [w64_eq]; omega))) (by omega)).2.2 | (simp only [List.length_take] at *; omega) | (simp <;> omega))) (by kernel_rfl) (by kernel_rfl) ?_
        refine TL.run 5 [] [(0, .int .i64 a_2), (1, .int .i64 b_), (5, .int .i64 q), (6, .int .i64 (62 - ((k : Nat) : Int))), (25, .bool (decide (b_ ≤ (a_2.fdiv (2 ^ (min (62 - ((k : Nat) : Int)).toNat 64))))))] rfl ⟨by kernel_rfl, by kernel_rfl⟩ ?_
        refine TL.next rfl ?_
        refine TC.cond (decide (b_ ≤ (a_2.fdiv (2 ^ (min (62 - ((k : Nat) : Int)).toNat 64))))) rfl (by kernel_rfl) (fun h3 => ?_) (fun h3 => ?_)
        · refine TC.seq ?_
          refine TC.region ?_
          refine TL.run 3 [] [(1, .int .i64 b_), (5, .int .i64 q), (6, .int .i64 (62 - ((k : Nat) : Int))), (26, .int .i64 a_2), (27, .int .i64 b_), (28, .int .i64 (62 - ((k : Nat) : Int)))] rfl ⟨by kernel_rfl, by kernel_rfl⟩ ?_
          refine TL.val (sV (binOp .shl 3 (.int .i64 b_) (.int .i64 (62 - ((k : Nat) : Int))))) (some 29) (.int .i64 (w64 (b_ * 2 ^ (min (62 - ((k : Nat) : Int)).toNat 64)))) [(1, .int .i64 b_), (5, .int .i64 q), (6, .int .i64 (62 - ((k : Nat) : Int))), (26, .int .i64 a_2), (29, .int .i64 (w64 (b_ * 2 ^ (min (62 - ((k : Nat) : Int)).toNat 64))))] (fun w hM => run_shl (by have q0_ := (dec_f h1); have q1_ := (dec_t h2); have q2_ := (dec_t h3); first | omega | (simp only [List.length_drop]; omega) | (simp only [w64_eq]; omega) | exact (tm_in (by (first | (rw [w64_id (by omega)]; omega) | (simp only [w64_eq]; omega))) (by omega)).1 | exact (tm_in (by (first | (rw [w64_id (by omega)]; omega) | (simp only [w64_eq]; omega))) (by omega)).2.1 | exact (tm_in (by (first | (rw [w64_id (by omega)]; omega) | (simp only [w64_eq]; omega))) (by omega)).2.2 | (simp only [List.length_take] at *; omega) | (simp <;> omega))) (by kernel_rfl) (by kernel_rfl) ?_
          refine TL.run 6 [] [(0, .int .i64 (w64 (a_2 - (w64 (b_ * 2 ^ (min (62 - ((k : Nat) : Int)).toNat 64)))))), (1, .int .i64 b_), (5, .int .i64 q), (6, .int .i64 (62 - ((k : Nat) : Int)))] rfl ⟨by kernel_rfl, by kernel_rfl⟩ ?_
          refine TL.next rfl ?_
          refine TC.region ?_
          refine TL.run 2 [] [(0, .int .i64 (w64 (a_2 - (w64 (b_ * 2 ^ (min (62 - ((k : Nat) : Int)).toNat 64)))))), (1, .int .i64 b_), (6, .int .i64 (62 - ((k : Nat) : Int))), (31, .int .i64 q), (32, .int .i64 (62 - ((k : Nat) : Int)))] rfl ⟨by kernel_rfl, by kernel_rfl⟩ ?_
          refine TL.val (sV (binOp .shl 3 (.int .i64 1) (.int .i64 (62 - ((k : Nat) : Int))))) (some 33) (.int .i64 (w64 (1 * 2 ^ (min (62 - ((k : Nat) : Int)).toNat 64)))) [(0, .int .i64 (w64 (a_2 - (w64 (b_ * 2 ^ (min (62 - ((k : Nat) : Int)).toNat 64)))))), (1, .int .i64 b_), (6, .int .i64 (62 - ((k : Nat) : Int))), (31, .int .i64 q), (33, .int .i64 (w64 (1 * 2 ^ (min (62 - ((k : Nat) : Int)).toNat 64))))] (fun w hM => run_shl (by have q0_ := (dec_f h1); have q1_ := (dec_t h2); have q2_ := (dec_t h3); first | omega | (simp only [List.length_drop]; omega) | (simp only [w64_eq]; omega) | exact (tm_in (by (first | (rw [w64_id (by omega)]; omega) | (simp only [w64_eq]; omega))) (by omega)).1 | exact (tm_in (by (first | (rw [w64_id (by omega)]; omega) | (simp only [w64_eq]; omega))) (by omega)).2.1 | exact (tm_in (by (first | (rw [w64_id (by omega)]; omega) | (simp only [w64_eq]; omega))) (by omega)).2.2 | (simp only [List.length_take] at *; omega) | (simp <;> omega))) (by kernel_rfl) (by kernel_rfl) ?_
          refine TL.run 5 [] [(0, .int .i64 (w64 (a_2 - (w64 (b_ * 2 ^ (min (62 - ((k : Nat) : Int)).toNat 64)))))), (1, .int .i64 b_), (5, .int .i64 (w64 (q + (w64 (1 * 2 ^ (min (62 - ((k : Nat) : Int)).toNat 64)))))), (6, .int .i64 (62 - ((k : Nat) : Int)))] rfl ⟨by kernel_rfl, by kernel_rfl⟩ ?_
          refine TL.done rfl ?_
          refine TE.normal_block ?_
          refine TE.next ?_
          refine TC.region ?_
          refine TL.run 3 [] [(0, .int .i64 (w64 (a_2 - (w64 (b_ * 2 ^ (min (62 - ((k : Nat) : Int)).toNat 64)))))), (1, .int .i64 b_), (5, .int .i64 (w64 (q + (w64 (1 * 2 ^ (min (62 - ((k : Nat) : Int)).toNat 64)))))), (6, .int .i64 (w64 ((62 - ((k : Nat) : Int)) - 1)))] rfl ⟨by kernel_rfl, by kernel_rfl⟩ ?_
          refine TL.done rfl ?_
          refine TE.rw 6 (.int .i64 (w64 ((62 - ((k : Nat) : Int)) - 1))) (.int .i64 (62 - ((k + 1 : Nat) : Int))) (by kernel_rfl) (int_eq (by have q0_ := (dec_f h1); have q1_ := (dec_t h2); have q2_ := (dec_t h3); first | omega | (rw [w64_id (by omega)]; omega) | (simp only [w64_eq] at *; omega))) ?_
          exact TE.again (x := (k, a_2, q)) (k + 1, w64 (a_2 - (w64 (b_ * 2 ^ (min (62 - ((k : Nat) : Int)).toNat 64)))), w64 (q + (w64 (1 * 2 ^ (min (62 - ((k : Nat) : Int)).toNat 64))))) ⟨by omega, hI.trans (by rw [hd]; exact cond_t h3 (rfl))⟩ (by show 63 - (k + 1) < 63 - k; omega) (by kernel_rfl) (.slnil)
        · refine TC.skip ?_
          refine TE.normal_block ?_
          refine TE.next ?_
          refine TC.region ?_
          refine TL.run 3 [] [(0, .int .i64 a_2), (1, .int .i64 b_), (5, .int .i64 q), (6, .int .i64 (w64 ((62 - ((k : Nat) : Int)) - 1)))] rfl ⟨by kernel_rfl, by kernel_rfl⟩ ?_
          refine TL.done rfl ?_
          refine TE.rw 6 (.int .i64 (w64 ((62 - ((k : Nat) : Int)) - 1))) (.int .i64 (62 - ((k + 1 : Nat) : Int))) (by kernel_rfl) (int_eq (by have q0_ := (dec_f h1); have q1_ := (dec_t h2); have q2_ := (dec_f h3); first | omega | (rw [w64_id (by omega)]; omega) | (simp only [w64_eq] at *; omega))) ?_
          exact TE.again (x := (k, a_2, q)) (k + 1, a_2, q) ⟨by omega, hI.trans (by rw [hd]; exact cond_f h3 (rfl))⟩ (by show 63 - (k + 1) < 63 - k; omega) (by kernel_rfl) (.slnil)
      · have hd : 63 - k = 0 := by have q0_ := (dec_f h1); have p0_ := (dec_f h2); first | omega | (simp only [w64_eq] at *; omega)
        refine TC.exit ?_
        refine TE.exit_then (TE.exit_then (TE.exit_same ?_))
        exact TE.cut q (hI.trans (by rw [hd]; exact rfl)) (by kernel_rfl) (.slnil)
    · rintro q_2 hJ
      refine TE.next ?_
      refine TC.seq ?_
      refine TC.region ?_
      refine TL.run 2 [] [(4, .int .i64 q_2)] rfl ⟨by kernel_rfl, by kernel_rfl⟩ ?_
      refine TL.next rfl ?_
      refine TC.ret ?_
      have e : Floor_pos a b_ = q_2 := by unfold Floor_pos; exact cond_f h1 (bindv_eq (hR.symm.trans hJ) (rfl))
      exact TE.ret [] (.int .i64 q_2) ⟨by kernel_rfl, by kernel_rfl⟩ (by rw [e]; first | done | kernel_rfl)

def skywayref1_Floor_L1 (b_ : Int) : Nat → Nat → Int → Int → Int
  | 0, _, _, q => q
  | m + 1, k, a_2, q => cond (decide (b_ ≤ (a_2.fdiv (2 ^ (min (62 - ((k : Nat) : Int)).toNat 64))))) (
      skywayref1_Floor_L1 b_ m (k + 1) (w64 (a_2 - (w64 (b_ * 2 ^ (min (62 - ((k : Nat) : Int)).toNat 64))))) (w64 (q + (w64 (1 * 2 ^ (min (62 - ((k : Nat) : Int)).toNat 64)))))) (
      skywayref1_Floor_L1 b_ m (k + 1) a_2 q)
def skywayref1_Floor (a : Int) (b_ : Int) : Int :=
  cond (decide (a < 0)) (
    let r1 := Floor_pos (w64 ((w64 ((w64 (0 - a)) + b_)) - 1)) b_
    w64 (0 - r1)) (
    bindv (skywayref1_Floor_L1 b_ 63 0 a 0) (fun q_2 =>
      q_2))

set_option maxRecDepth 100000 in
theorem skywayref1_Floor_w (a : Int) (b_ : Int) (w : World) (h0 : (-4611686018427387904 ≤ a ∧ a ≤ 4611686018427387904) ∧ 1 ≤ b_ ∧ b_ ≤ 4611686018427387904) : Calls Try.prog 59 #[.int .i64 a, .int .i64 b_] w (Ret w (.int .i64 (skywayref1_Floor a b_))) := by
  refine calls_intro (vs := [.int .i64 a, .int .i64 b_]) (w := w) Try.func59 rfl Try.ntmps59 rfl ?_
  refine TC.weak [(0, .int .i64 a), (1, .int .i64 b_)] (by kernel_rfl) ?_
  refine TC.seq ?_
  refine TC.region ?_
  refine TL.run 1 [] [(0, .int .i64 a), (1, .int .i64 b_)] rfl ⟨by kernel_rfl, by kernel_rfl⟩ ?_
  refine TL.next rfl ?_
  refine TC.seq ?_
  refine TC.seq ?_
  refine TC.region ?_
  refine TL.run 2 [] [(0, .int .i64 a), (1, .int .i64 b_), (8, .bool (decide (a < 0)))] rfl ⟨by kernel_rfl, by kernel_rfl⟩ ?_
  refine TL.next rfl ?_
  refine TC.cond (decide (a < 0)) rfl (by kernel_rfl) (fun h1 => ?_) (fun h1 => ?_)
  · refine TC.seq ?_
    refine TC.region ?_
    refine TL.run 6 [] [(13, .int .i64 (w64 ((w64 ((w64 (0 - a)) + b_)) - 1))), (14, .int .i64 b_)] rfl ⟨by kernel_rfl, by kernel_rfl⟩ ?_
    refine TL.call (some 15) [(15, .int .i64 (Floor_pos (w64 ((w64 ((w64 (0 - a)) + b_)) - 1)) b_))] (fun w _ => Floor_pos_w (w64 ((w64 ((w64 (0 - a)) + b_)) - 1)) b_ w (by have q0_ := (dec_t h1); first | omega | (simp only [w64_eq]; omega) | (simp <;> omega))) (by kernel_rfl) (by kernel_rfl) ?_
    generalize hr1 : Floor_pos (w64 ((w64 ((w64 (0 - a)) + b_)) - 1)) b_ = r1
    refine TL.run 9 [] [(4, .int .i64 (w64 (0 - r1)))] rfl ⟨by kernel_rfl, by kernel_rfl⟩ ?_
    refine TL.next rfl ?_
    refine TC.ret ?_
    refine TE.ret_then ?_
    have e : skywayref1_Floor a b_ = (w64 (0 - r1)) := by subst hr1; unfold skywayref1_Floor; exact cond_t h1 (rfl)
    exact TE.ret [] (.int .i64 (w64 (0 - r1))) ⟨by kernel_rfl, by kernel_rfl⟩ (by rw [e]; first | done | kernel_rfl)
  · refine TC.skip ?_
    refine TE.next ?_
    refine TC.seq ?_
    refine TC.region ?_
    refine TL.run 1 [] [(0, .int .i64 a), (1, .int .i64 b_), (5, .int .i64 0)] rfl ⟨by kernel_rfl, by kernel_rfl⟩ ?_
    refine TL.next rfl ?_
    refine TC.seq ?_
    refine TC.seq ?_
    refine TC.region ?_
    refine TL.run 1 [] [(0, .int .i64 a), (1, .int .i64 b_), (5, .int .i64 0), (6, .int .i64 62)] rfl ⟨by kernel_rfl, by kernel_rfl⟩ ?_
    refine TL.next rfl ?_
    refine TC.weak [(0, .int .i64 a), (1, .int .i64 b_), (5, .int .i64 0), (6, .int .i64 62)] (by kernel_rfl) ?_
    obtain ⟨R1, hR⟩ : ∃ R, R = skywayref1_Floor_L1 b_ 63 0 a 0 := ⟨_, rfl⟩
    refine TC.cut (S := Int) (fun q_2 => [(5, .int .i64 q_2)]) (fun q_2 => []) (fun q_2 => R1 = q_2) ?_ ?_
    · refine TC.block ?_
      refine TC.rw 6 (.int .i64 62) (.int .i64 (62 - ((0 : Nat) : Int))) (by kernel_rfl) (int_eq (by have q0_ := (dec_f h1); first | omega | (rw [w64_id (by omega)]; omega) | (simp only [w64_eq]; omega))) ?_
      refine TC.weak [(0, .int .i64 a), (1, .int .i64 b_), (5, .int .i64 0), (6, .int .i64 (62 - ((0 : Nat) : Int)))] (by kernel_rfl) ?_
      refine TC.loop (X := Nat × Int × Int) (fun (k, a_2, q) => [(0, .int .i64 a_2), (1, .int .i64 b_), (5, .int .i64 q), (6, .int .i64 (62 - ((k : Nat) : Int)))]) (fun (k, a_2, q) => []) (fun (k, a_2, q) => 63 - k) (fun (k, a_2, q) => k ≤ 63 ∧ R1 = skywayref1_Floor_L1 b_ (63 - k) k a_2 q) ?_ (0, a, 0) ⟨Nat.zero_le _, hR⟩
      rintro ⟨k, a_2, q⟩ ⟨hk, hI⟩
      refine TC.seq ?_
      refine TC.seq ?_
      refine TC.region ?_
      refine TL.run 2 [] [(0, .int .i64 a_2), (1, .int .i64 b_), (5, .int .i64 q), (6, .int .i64 (62 - ((k : Nat) : Int))), (18, .bool (decide ((62 - ((k : Nat) : Int)) ≥ 0)))] rfl ⟨by kernel_rfl, by kernel_rfl⟩ ?_
      refine TL.next rfl ?_
      refine TC.cond (decide ((62 - ((k : Nat) : Int)) ≥ 0)) rfl (by kernel_rfl) (fun h2 => ?_) (fun h2 => ?_)
      · have hlt : k < 63 := by have q0_ := (dec_f h1); have p0_ := (dec_t h2); first | omega | (simp only [w64_eq] at *; omega)
        have hd : 63 - k = (63 - (k + 1)) + 1 := by omega
        refine TC.skip ?_
        refine TE.next ?_
        refine TC.seq ?_
        refine TC.block ?_
        refine TC.seq ?_
        refine TC.region ?_
        refine TL.run 3 [] [(0, .int .i64 a_2), (1, .int .i64 b_), (5, .int .i64 q), (6, .int .i64 (62 - ((k : Nat) : Int))), (21, .int .i64 b_), (22, .int .i64 a_2), (23, .int .i64 (62 - ((k : Nat) : Int)))] rfl ⟨by kernel_rfl, by kernel_rfl⟩ ?_
        refine TL.val (sV (binOp .shr 3 (.int .i64 a_2) (.int .i64 (62 - ((k : Nat) : Int))))) (some 24) (.int .i64 (a_2.fdiv (2 ^ (min (62 - ((k : Nat) : Int)).toNat 64)))) [(0, .int .i64 a_2), (1, .int .i64 b_), (5, .int .i64 q), (6, .int .i64 (62 - ((k : Nat) : Int))), (21, .int .i64 b_), (24, .int .i64 (a_2.fdiv (2 ^ (min (62 - ((k : Nat) : Int)).toNat 64))))] (fun w hM => run_shr (by have q0_ := (dec_f h1); have q1_ := (dec_t h2); first | omega | (simp only [List.length_drop]; omega) | (simp only [w64_eq]; omega) | exact (tm_in (by (first | (rw [w64_id (by omega)]; omega) | (simp only [w64_eq]; omega))) (by omega)).1 | exact (tm_in (by (first | (rw [w64_id (by omega)]; omega) | (simp only [w64_eq]; omega))) (by omega)).2.1 | exact (tm_in (by (first | (rw [w64_id (by omega)]; omega) | (simp only [w64_eq]; omega))) (by omega)).2.2 | (simp only [List.length_take] at *; omega) | (simp <;> omega))) (by kernel_rfl) (by kernel_rfl) ?_
        refine TL.run 5 [] [(0, .int .i64 a_2), (1, .int .i64 b_), (5, .int .i64 q), (6, .int .i64 (62 - ((k : Nat) : Int))), (25, .bool (decide (b_ ≤ (a_2.fdiv (2 ^ (min (62 - ((k : Nat) : Int)).toNat 64))))))] rfl ⟨by kernel_rfl, by kernel_rfl⟩ ?_
        refine TL.next rfl ?_
        refine TC.cond (decide (b_ ≤ (a_2.fdiv (2 ^ (min (62 - ((k : Nat) : Int)).toNat 64))))) rfl (by kernel_rfl) (fun h3 => ?_) (fun h3 => ?_)
        · refine TC.seq ?_
          refine TC.region ?_
          refine TL.run 3 [] [(1, .int .i64 b_), (5, .int .i64 q), (6, .int .i64 (62 - ((k : Nat) : Int))), (26, .int .i64 a_2), (27, .int .i64 b_), (28, .int .i64 (62 - ((k : Nat) : Int)))] rfl ⟨by kernel_rfl, by kernel_rfl⟩ ?_
          refine TL.val (sV (binOp .shl 3 (.int .i64 b_) (.int .i64 (62 - ((k : Nat) : Int))))) (some 29) (.int .i64 (w64 (b_ * 2 ^ (min (62 - ((k : Nat) : Int)).toNat 64)))) [(1, .int .i64 b_), (5, .int .i64 q), (6, .int .i64 (62 - ((k : Nat) : Int))), (26, .int .i64 a_2), (29, .int .i64 (w64 (b_ * 2 ^ (min (62 - ((k : Nat) : Int)).toNat 64))))] (fun w hM => run_shl (by have q0_ := (dec_f h1); have q1_ := (dec_t h2); have q2_ := (dec_t h3); first | omega | (simp only [List.length_drop]; omega) | (simp only [w64_eq]; omega) | exact (tm_in (by (first | (rw [w64_id (by omega)]; omega) | (simp only [w64_eq]; omega))) (by omega)).1 | exact (tm_in (by (first | (rw [w64_id (by omega)]; omega) | (simp only [w64_eq]; omega))) (by omega)).2.1 | exact (tm_in (by (first | (rw [w64_id (by omega)]; omega) | (simp only [w64_eq]; omega))) (by omega)).2.2 | (simp only [List.length_take] at *; omega) | (simp <;> omega))) (by kernel_rfl) (by kernel_rfl) ?_
          refine TL.run 6 [] [(0, .int .i64 (w64 (a_2 - (w64 (b_ * 2 ^ (min (62 - ((k : Nat) : Int)).toNat 64)))))), (1, .int .i64 b_), (5, .int .i64 q), (6, .int .i64 (62 - ((k : Nat) : Int)))] rfl ⟨by kernel_rfl, by kernel_rfl⟩ ?_
          refine TL.next rfl ?_
          refine TC.region ?_
          refine TL.run 2 [] [(0, .int .i64 (w64 (a_2 - (w64 (b_ * 2 ^ (min (62 - ((k : Nat) : Int)).toNat 64)))))), (1, .int .i64 b_), (6, .int .i64 (62 - ((k : Nat) : Int))), (31, .int .i64 q), (32, .int .i64 (62 - ((k : Nat) : Int)))] rfl ⟨by kernel_rfl, by kernel_rfl⟩ ?_
          refine TL.val (sV (binOp .shl 3 (.int .i64 1) (.int .i64 (62 - ((k : Nat) : Int))))) (some 33) (.int .i64 (w64 (1 * 2 ^ (min (62 - ((k : Nat) : Int)).toNat 64)))) [(0, .int .i64 (w64 (a_2 - (w64 (b_ * 2 ^ (min (62 - ((k : Nat) : Int)).toNat 64)))))), (1, .int .i64 b_), (6, .int .i64 (62 - ((k : Nat) : Int))), (31, .int .i64 q), (33, .int .i64 (w64 (1 * 2 ^ (min (62 - ((k : Nat) : Int)).toNat 64))))] (fun w hM => run_shl (by have q0_ := (dec_f h1); have q1_ := (dec_t h2); have q2_ := (dec_t h3); first | omega | (simp only [List.length_drop]; omega) | (simp only [w64_eq]; omega) | exact (tm_in (by (first | (rw [w64_id (by omega)]; omega) | (simp only [w64_eq]; omega))) (by omega)).1 | exact (tm_in (by (first | (rw [w64_id (by omega)]; omega) | (simp only [w64_eq]; omega))) (by omega)).2.1 | exact (tm_in (by (first | (rw [w64_id (by omega)]; omega) | (simp only [w64_eq]; omega))) (by omega)).2.2 | (simp only [List.length_take] at *; omega) | (simp <;> omega))) (by kernel_rfl) (by kernel_rfl) ?_
          refine TL.run 5 [] [(0, .int .i64 (w64 (a_2 - (w64 (b_ * 2 ^ (min (62 - ((k : Nat) : Int)).toNat 64)))))), (1, .int .i64 b_), (5, .int .i64 (w64 (q + (w64 (1 * 2 ^ (min (62 - ((k : Nat) : Int)).toNat 64)))))), (6, .int .i64 (62 - ((k : Nat) : Int)))] rfl ⟨by kernel_rfl, by kernel_rfl⟩ ?_
          refine TL.done rfl ?_
          refine TE.normal_block ?_
          refine TE.next ?_
          refine TC.region ?_
          refine TL.run 3 [] [(0, .int .i64 (w64 (a_2 - (w64 (b_ * 2 ^ (min (62 - ((k : Nat) : Int)).toNat 64)))))), (1, .int .i64 b_), (5, .int .i64 (w64 (q + (w64 (1 * 2 ^ (min (62 - ((k : Nat) : Int)).toNat 64)))))), (6, .int .i64 (w64 ((62 - ((k : Nat) : Int)) - 1)))] rfl ⟨by kernel_rfl, by kernel_rfl⟩ ?_
          refine TL.done rfl ?_
          refine TE.rw 6 (.int .i64 (w64 ((62 - ((k : Nat) : Int)) - 1))) (.int .i64 (62 - ((k + 1 : Nat) : Int))) (by kernel_rfl) (int_eq (by have q0_ := (dec_f h1); have q1_ := (dec_t h2); have q2_ := (dec_t h3); first | omega | (rw [w64_id (by omega)]; omega) | (simp only [w64_eq] at *; omega))) ?_
          exact TE.again (x := (k, a_2, q)) (k + 1, w64 (a_2 - (w64 (b_ * 2 ^ (min (62 - ((k : Nat) : Int)).toNat 64)))), w64 (q + (w64 (1 * 2 ^ (min (62 - ((k : Nat) : Int)).toNat 64))))) ⟨by omega, hI.trans (by rw [hd]; exact cond_t h3 (rfl))⟩ (by show 63 - (k + 1) < 63 - k; omega) (by kernel_rfl) (.slnil)
        · refine TC.skip ?_
          refine TE.normal_block ?_
          refine TE.next ?_
          refine TC.region ?_
          refine TL.run 3 [] [(0, .int .i64 a_2), (1, .int .i64 b_), (5, .int .i64 q), (6, .int .i64 (w64 ((62 - ((k : Nat) : Int)) - 1)))] rfl ⟨by kernel_rfl, by kernel_rfl⟩ ?_
          refine TL.done rfl ?_
          refine TE.rw 6 (.int .i64 (w64 ((62 - ((k : Nat) : Int)) - 1))) (.int .i64 (62 - ((k + 1 : Nat) : Int))) (by kernel_rfl) (int_eq (by have q0_ := (dec_f h1); have q1_ := (dec_t h2); have q2_ := (dec_f h3); first | omega | (rw [w64_id (by omega)]; omega) | (simp only [w64_eq] at *; omega))) ?_
          exact TE.again (x := (k, a_2, q)) (k + 1, a_2, q) ⟨by omega, hI.trans (by rw [hd]; exact cond_f h3 (rfl))⟩ (by show 63 - (k + 1) < 63 - k; omega) (by kernel_rfl) (.slnil)
      · have hd : 63 - k = 0 := by have q0_ := (dec_f h1); have p0_ := (dec_f h2); first | omega | (simp only [w64_eq] at *; omega)
        refine TC.exit ?_
        refine TE.exit_then (TE.exit_then (TE.exit_same ?_))
        exact TE.cut q (hI.trans (by rw [hd]; exact rfl)) (by kernel_rfl) (.slnil)
    · rintro q_2 hJ
      refine TE.next ?_
      refine TC.seq ?_
      refine TC.region ?_
      refine TL.run 2 [] [(4, .int .i64 q_2)] rfl ⟨by kernel_rfl, by kernel_rfl⟩ ?_
      refine TL.next rfl ?_
      refine TC.ret ?_
      have e : skywayref1_Floor a b_ = q_2 := by unfold skywayref1_Floor; exact cond_f h1 (bindv_eq (hR.symm.trans hJ) (rfl))
      exact TE.ret [] (.int .i64 q_2) ⟨by kernel_rfl, by kernel_rfl⟩ (by rw [e]; first | done | kernel_rfl)

def skywayref1_Ceil (a : Int) (b_ : Int) : Int :=
  let r1 := skywayref1_Floor (w64 (0 - a)) b_
  w64 (0 - r1)

set_option maxRecDepth 100000 in
theorem skywayref1_Ceil_w (a : Int) (b_ : Int) (w : World) (h0 : (-4611686018427387904 ≤ a ∧ a ≤ 4611686018427387904) ∧ 1 ≤ b_ ∧ b_ ≤ 4611686018427387904) : Calls Try.prog 96 #[.int .i64 a, .int .i64 b_] w (Ret w (.int .i64 (skywayref1_Ceil a b_))) := by
  refine calls_intro (vs := [.int .i64 a, .int .i64 b_]) (w := w) Try.func96 rfl Try.ntmps96 rfl ?_
  refine TC.weak [(0, .int .i64 a), (1, .int .i64 b_)] (by kernel_rfl) ?_
  refine TC.seq ?_
  refine TC.region ?_
  refine TL.run 1 [] [(0, .int .i64 a), (1, .int .i64 b_)] rfl ⟨by kernel_rfl, by kernel_rfl⟩ ?_
  refine TL.next rfl ?_
  refine TC.seq ?_
  refine TC.region ?_
  refine TL.run 3 [] [(6, .int .i64 (w64 (0 - a))), (7, .int .i64 b_)] rfl ⟨by kernel_rfl, by kernel_rfl⟩ ?_
  refine TL.call (some 8) [(8, .int .i64 (skywayref1_Floor (w64 (0 - a)) b_))] (fun w _ => skywayref1_Floor_w (w64 (0 - a)) b_ w (by first | (simp only [w64_eq]; omega) | (rw [w64_id (by omega)]; omega))) (by kernel_rfl) (by kernel_rfl) ?_
  generalize hr1 : skywayref1_Floor (w64 (0 - a)) b_ = r1
  refine TL.run 6 [] [(4, .int .i64 (w64 (0 - r1)))] rfl ⟨by kernel_rfl, by kernel_rfl⟩ ?_
  refine TL.next rfl ?_
  refine TC.ret ?_
  have e : skywayref1_Ceil a b_ = (w64 (0 - r1)) := by subst hr1; unfold skywayref1_Ceil; exact rfl
  exact TE.ret [] (.int .i64 (w64 (0 - r1))) ⟨by kernel_rfl, by kernel_rfl⟩ (by rw [e]; first | done | kernel_rfl)

def skywayref1_Mix (a : Int) (b_ : Int) (n : Int) (d : Int) : Int :=
  let r1 := skywayref1_Floor (w64 ((w64 (b_ - a)) * n)) d
  w64 (a + r1)

theorem mix_side {a b_ n d : Int} (h : ((-1000000 ≤ a ∧ a ≤ 1000000) ∧ (-1000000 ≤ b_ ∧ b_ ≤ 1000000)) ∧ (0 ≤ n ∧ n ≤ d) ∧ 1 ≤ d ∧ d ≤ 200000) : (-4611686018427387904 ≤ w64 (w64 (b_ - a) * n) ∧ w64 (w64 (b_ - a) * n) ≤ 4611686018427387904) ∧ 1 ≤ d ∧ d ≤ 4611686018427387904 := by
  obtain ⟨⟨h1, h2⟩, h3, h4, h5⟩ := h
  have e1 : w64 (b_ - a) = b_ - a := w64_id (by omega)
  have m1 : (b_ - a) * n ≤ 2000000 * n := Int.mul_le_mul_of_nonneg_right (by omega) h3.1
  have m2 : -2000000 * n ≤ (b_ - a) * n := Int.mul_le_mul_of_nonneg_right (by omega) h3.1
  rw [e1, w64_id (by omega)]
  omega

set_option maxRecDepth 100000 in
theorem skywayref1_Mix_w (a : Int) (b_ : Int) (n : Int) (d : Int) (w : World) (h0 : ((-1000000 ≤ a ∧ a ≤ 1000000) ∧ (-1000000 ≤ b_ ∧ b_ ≤ 1000000)) ∧ (0 ≤ n ∧ n ≤ d) ∧ 1 ≤ d ∧ d ≤ 200000) : Calls Try.prog 21 #[.int .i64 a, .int .i64 b_, .int .i64 n, .int .i64 d] w (Ret w (.int .i64 (skywayref1_Mix a b_ n d))) := by
  refine calls_intro (vs := [.int .i64 a, .int .i64 b_, .int .i64 n, .int .i64 d]) (w := w) Try.func21 rfl Try.ntmps21 rfl ?_
  refine TC.weak [(0, .int .i64 a), (1, .int .i64 b_), (2, .int .i64 n), (3, .int .i64 d)] (by kernel_rfl) ?_
  refine TC.seq ?_
  refine TC.region ?_
  refine TL.run 1 [] [(0, .int .i64 a), (1, .int .i64 b_), (2, .int .i64 n), (3, .int .i64 d)] rfl ⟨by kernel_rfl, by kernel_rfl⟩ ?_
  refine TL.next rfl ?_
  refine TC.seq ?_
  refine TC.region ?_
  refine TL.run 7 [] [(9, .int .i64 a), (14, .int .i64 (w64 ((w64 (b_ - a)) * n))), (15, .int .i64 d)] rfl ⟨by kernel_rfl, by kernel_rfl⟩ ?_
  refine TL.call (some 16) [(9, .int .i64 a), (16, .int .i64 (skywayref1_Floor (w64 ((w64 (b_ - a)) * n)) d))] (fun w _ => skywayref1_Floor_w (w64 ((w64 (b_ - a)) * n)) d w (mix_side h0)) (by kernel_rfl) (by kernel_rfl) ?_
  generalize hr1 : skywayref1_Floor (w64 ((w64 (b_ - a)) * n)) d = r1
  refine TL.run 10 [] [(8, .int .i64 (w64 (a + r1)))] rfl ⟨by kernel_rfl, by kernel_rfl⟩ ?_
  refine TL.next rfl ?_
  refine TC.ret ?_
  have e : skywayref1_Mix a b_ n d = (w64 (a + r1)) := by subst hr1; unfold skywayref1_Mix; exact rfl
  exact TE.ret [] (.int .i64 (w64 (a + r1))) ⟨by kernel_rfl, by kernel_rfl⟩ (by rw [e]; first | done | kernel_rfl)

def skywayref1_MixUp (a : Int) (b_ : Int) (n : Int) (d : Int) : Int :=
  let r1 := skywayref1_Ceil (w64 ((w64 (b_ - a)) * n)) d
  w64 (a + r1)

set_option maxRecDepth 100000 in
theorem skywayref1_MixUp_w (a : Int) (b_ : Int) (n : Int) (d : Int) (w : World) (h0 : ((-1000000 ≤ a ∧ a ≤ 1000000) ∧ (-1000000 ≤ b_ ∧ b_ ≤ 1000000)) ∧ (0 ≤ n ∧ n ≤ d) ∧ 1 ≤ d ∧ d ≤ 200000) : Calls Try.prog 70 #[.int .i64 a, .int .i64 b_, .int .i64 n, .int .i64 d] w (Ret w (.int .i64 (skywayref1_MixUp a b_ n d))) := by
  refine calls_intro (vs := [.int .i64 a, .int .i64 b_, .int .i64 n, .int .i64 d]) (w := w) Try.func70 rfl Try.ntmps70 rfl ?_
  refine TC.weak [(0, .int .i64 a), (1, .int .i64 b_), (2, .int .i64 n), (3, .int .i64 d)] (by kernel_rfl) ?_
  refine TC.seq ?_
  refine TC.region ?_
  refine TL.run 1 [] [(0, .int .i64 a), (1, .int .i64 b_), (2, .int .i64 n), (3, .int .i64 d)] rfl ⟨by kernel_rfl, by kernel_rfl⟩ ?_
  refine TL.next rfl ?_
  refine TC.seq ?_
  refine TC.region ?_
  refine TL.run 7 [] [(9, .int .i64 a), (14, .int .i64 (w64 ((w64 (b_ - a)) * n))), (15, .int .i64 d)] rfl ⟨by kernel_rfl, by kernel_rfl⟩ ?_
  refine TL.call (some 16) [(9, .int .i64 a), (16, .int .i64 (skywayref1_Ceil (w64 ((w64 (b_ - a)) * n)) d))] (fun w _ => skywayref1_Ceil_w (w64 ((w64 (b_ - a)) * n)) d w (mix_side h0)) (by kernel_rfl) (by kernel_rfl) ?_
  generalize hr1 : skywayref1_Ceil (w64 ((w64 (b_ - a)) * n)) d = r1
  refine TL.run 10 [] [(8, .int .i64 (w64 (a + r1)))] rfl ⟨by kernel_rfl, by kernel_rfl⟩ ?_
  refine TL.next rfl ?_
  refine TC.ret ?_
  have e : skywayref1_MixUp a b_ n d = (w64 (a + r1)) := by subst hr1; unfold skywayref1_MixUp; exact rfl
  exact TE.ret [] (.int .i64 (w64 (a + r1))) ⟨by kernel_rfl, by kernel_rfl⟩ (by rw [e]; first | done | kernel_rfl)

def skywaylaw1_planeWorks : Bool :=
  let r1 := plane_Toward P.zero (⟨(-3), 3⟩ : P) 1 2
  let r2 := plane_Distance P.zero (⟨1, 1⟩ : P)
  cond (r1.2 == 0) (
    cond (((P.eqb r1.1 (⟨(-2), 1⟩ : P)) && (r2.1 == 1)) && (r2.2 == 2)) (
      let r3 := plane_Turn P.zero (⟨1, 0⟩ : P) (⟨1, 1⟩ : P)
      r3 == 1) (
      false)) (
    false)

set_option maxRecDepth 100000 in
theorem skywaylaw1_planeWorks_w (w : World) : Calls Try.prog 18 #[] w (Ret w (.bool (skywaylaw1_planeWorks))) := by
  refine calls_intro (vs := []) (w := w) Try.func18 rfl Try.ntmps18 rfl ?_
  refine TC.weak [] (by kernel_rfl) ?_
  refine TC.seq ?_
  refine TC.region ?_
  refine TL.run 1 [] [] rfl ⟨by kernel_rfl, by kernel_rfl⟩ ?_
  refine TL.next rfl ?_
  refine TC.seq ?_
  refine TC.region ?_
  refine TL.run 2 [] [(6, P.v P.zero), (7, .agg #[.int .i64 (-3), .int .i64 3])] rfl ⟨by kernel_rfl, by kernel_rfl⟩ ?_
  refine TL.call (some 8) [(8, .tuple #[P.v ((plane_Toward P.zero (⟨(-3), 3⟩ : P) 1 2).1), .int .i64 ((plane_Toward P.zero (⟨(-3), 3⟩ : P) 1 2).2)])] (fun w _ => plane_Toward_w P.zero (⟨(-3), 3⟩ : P) 1 2 w) (by kernel_rfl) (by kernel_rfl) ?_
  generalize hr1 : plane_Toward P.zero (⟨(-3), 3⟩ : P) 1 2 = r1
  refine TL.run 6 [] [(9, P.v r1.1), (10, .int .i64 r1.2)] rfl ⟨by kernel_rfl, by kernel_rfl⟩ ?_
  refine TL.write 0 (fun b1 => [(1, .pointer (some ⟨b1, 0, none⟩)), (9, P.v r1.1), (10, .int .i64 r1.2)]) (fun b1 => [.inl (b1, .cells (P.c P.zero) 25 (0, 0))]) (fun b1 => ⟨by kernel_rfl, by kernel_rfl⟩) (fun b1 => ?_)
  refine TL.write 0 (fun _ => [(1, .pointer (some ⟨b1, 0, none⟩)), (10, .int .i64 r1.2)]) (fun _ => [.inl (b1, .cells (P.c r1.1) 25 (0, 0))]) (fun _ => ⟨by kernel_rfl, by kernel_rfl⟩) (fun _ => ?_)
  refine TL.run 9 [] [(1, .pointer (some ⟨b1, 0, none⟩)), (2, .int .i64 r1.2)] rfl ⟨by kernel_rfl, by kernel_rfl⟩ ?_
  refine TL.next rfl ?_
  refine TC.seq ?_
  refine TC.region ?_
  refine TL.run 2 [] [(1, .pointer (some ⟨b1, 0, none⟩)), (2, .int .i64 r1.2), (12, P.v P.zero), (13, .agg #[.int .i64 1, .int .i64 1])] rfl ⟨by kernel_rfl, by kernel_rfl⟩ ?_
  refine TL.call (some 14) [(1, .pointer (some ⟨b1, 0, none⟩)), (2, .int .i64 r1.2), (14, .tuple #[.int .i64 ((plane_Distance P.zero (⟨1, 1⟩ : P)).1), .int .i64 ((plane_Distance P.zero (⟨1, 1⟩ : P)).2)])] (fun w _ => plane_Distance_w P.zero (⟨1, 1⟩ : P) w) (by kernel_rfl) (by kernel_rfl) ?_
  generalize hr2 : plane_Distance P.zero (⟨1, 1⟩ : P) = r2
  refine TL.run 8 [] [(1, .pointer (some ⟨b1, 0, none⟩)), (2, .int .i64 r1.2), (3, .int .i64 r2.1), (4, .int .i64 r2.2)] rfl ⟨by kernel_rfl, by kernel_rfl⟩ ?_
  refine TL.next rfl ?_
  refine TC.seq ?_
  refine TC.region ?_
  refine TL.run 3 [] [(1, .pointer (some ⟨b1, 0, none⟩)), (3, .int .i64 r2.1), (4, .int .i64 r2.2), (19, .bool (r1.2 == 0))] rfl ⟨by kernel_rfl, by kernel_rfl⟩ ?_
  refine TL.split 19 (r1.2 == 0) (by kernel_rfl) (fun h1 => ?_) (fun h1 => ?_)
  · refine TL.run 5 [0] [(3, .int .i64 r2.1), (4, .int .i64 r2.2), (19, .bool true), (20, P.v r1.1), (21, .agg #[.int .i64 (-2), .int .i64 1])] rfl ⟨by kernel_rfl, by kernel_rfl⟩ ?_
    refine TL.val (sV (do eqGuard .eql 25 (.tmp 20) (.tmp 21) (P.v r1.1) (.agg #[.int .i64 (-2), .int .i64 1]); binOp .eql 25 (P.v r1.1) (.agg #[.int .i64 (-2), .int .i64 1]))) (some 22) (.bool (P.eqb r1.1 (⟨(-2), 1⟩ : P))) [(3, .int .i64 r2.1), (4, .int .i64 r2.2), (19, .bool true), (22, .bool (P.eqb r1.1 (⟨(-2), 1⟩ : P)))] (fun w hM => run_eql (b := P.eqb r1.1 (⟨(-2), 1⟩ : P)) (by kernel_rfl) (by kernel_rfl) w) (by kernel_rfl) (by kernel_rfl) ?_
    refine TL.run 8 [] [(3, .int .i64 r2.1), (4, .int .i64 r2.2), (24, .bool (P.eqb r1.1 (⟨(-2), 1⟩ : P)))] rfl ⟨by kernel_rfl, by kernel_rfl⟩ ?_
    refine TL.join 24 (P.eqb r1.1 (⟨(-2), 1⟩ : P)) 11 [] [] (fun β => [(4, .int .i64 r2.2), (27, .bool (β && (r2.1 == 1)))]) (by kernel_rfl) rfl ⟨by kernel_rfl, by kernel_rfl⟩ ⟨by kernel_rfl, by kernel_rfl⟩ ?_
    refine TL.run 12 [] [(4, .int .i64 r2.2), (28, .bool ((P.eqb r1.1 (⟨(-2), 1⟩ : P)) && (r2.1 == 1)))] rfl ⟨by kernel_rfl, by kernel_rfl⟩ ?_
    refine TL.join 28 ((P.eqb r1.1 (⟨(-2), 1⟩ : P)) && (r2.1 == 1)) 15 [] [] (fun β => [(31, .bool (β && (r2.2 == 2)))]) (by kernel_rfl) rfl ⟨by kernel_rfl, by kernel_rfl⟩ ⟨by kernel_rfl, by kernel_rfl⟩ ?_
    refine TL.run 16 [] [(32, .bool (((P.eqb r1.1 (⟨(-2), 1⟩ : P)) && (r2.1 == 1)) && (r2.2 == 2)))] rfl ⟨by kernel_rfl, by kernel_rfl⟩ ?_
    refine TL.split 32 (((P.eqb r1.1 (⟨(-2), 1⟩ : P)) && (r2.1 == 1)) && (r2.2 == 2)) (by kernel_rfl) (fun h2 => ?_) (fun h2 => ?_)
    · refine TL.run 19 [] [(32, .bool true), (33, P.v P.zero), (34, .agg #[.int .i64 1, .int .i64 0]), (35, .agg #[.int .i64 1, .int .i64 1])] rfl ⟨by kernel_rfl, by kernel_rfl⟩ ?_
      refine TL.call (some 36) [(32, .bool true), (36, .int .i64 (plane_Turn P.zero (⟨1, 0⟩ : P) (⟨1, 1⟩ : P)))] (fun w _ => plane_Turn_w P.zero (⟨1, 0⟩ : P) (⟨1, 1⟩ : P) w) (by kernel_rfl) (by kernel_rfl) ?_
      generalize hr3 : plane_Turn P.zero (⟨1, 0⟩ : P) (⟨1, 1⟩ : P) = r3
      refine TL.run 23 [] [(0, .bool (r3 == 1))] rfl ⟨by kernel_rfl, by kernel_rfl⟩ ?_
      refine TL.next rfl ?_
      refine TC.ret ?_
      have e : skywaylaw1_planeWorks = (r3 == 1) := by subst hr1 hr2 hr3; unfold skywaylaw1_planeWorks; exact cond_t h1 (cond_t h2 (rfl))
      exact TE.ret [] (.bool (r3 == 1)) ⟨by kernel_rfl, by kernel_rfl⟩ (by rw [e]; first | done | kernel_rfl)
    · refine TL.run 23 [] [(0, .bool false)] rfl ⟨by kernel_rfl, by kernel_rfl⟩ ?_
      refine TL.next rfl ?_
      refine TC.ret ?_
      have e : skywaylaw1_planeWorks = false := by subst hr1 hr2; unfold skywaylaw1_planeWorks; exact cond_t h1 (cond_f h2 (rfl))
      exact TE.ret [] (.bool false) ⟨by kernel_rfl, by kernel_rfl⟩ (by rw [e]; first | done | kernel_rfl)
  · refine TL.run 23 [] [(0, .bool false)] rfl ⟨by kernel_rfl, by kernel_rfl⟩ ?_
    refine TL.next rfl ?_
    refine TC.ret ?_
    have e : skywaylaw1_planeWorks = false := by subst hr1 hr2; unfold skywaylaw1_planeWorks; exact cond_f h1 (rfl)
    exact TE.ret [] (.bool false) ⟨by kernel_rfl, by kernel_rfl⟩ (by rw [e]; first | done | kernel_rfl)

def skywaylaw1_PlaneToward (a : P) (b_ : P) (n : Int) (d : Int) : Bool :=
  let r1 := skywaylaw1_planeWorks
  cond (!r1) (
    false) (
    let r2 := plane_Toward a b_ n d
    cond (decide (d ≤ 0)) (
      cond (r2.2 == 10) (
        P.eqb r2.1 P.zero) (
        false)) (
      cond (((decide (d > 200000)) || (decide (n < 0))) || (decide (n > d))) (
        cond (r2.2 == 4) (
          P.eqb r2.1 P.zero) (
          false)) (
        let r3 := skywayref1_Good a
        cond (!r3) (
          cond (r2.2 == 4) (
            P.eqb r2.1 P.zero) (
            false)) (
          let r4 := skywayref1_Good b_
          cond (!r4) (
            cond (r2.2 == 4) (
              P.eqb r2.1 P.zero) (
              false)) (
            cond (r2.2 == 0) (
              let r5 := skywayref1_Mix a.X b_.X n d
              let r6 := skywayref1_Mix a.Y b_.Y n d
              P.eqb r2.1 (⟨r5, r6⟩ : P)) (
              false))))))

theorem good_in {p : P} {r : Bool} (hr : skywayref1_Good p = r) (h : (!r) = false) : (-1000000 ≤ p.X ∧ p.X ≤ 1000000) ∧ -1000000 ≤ p.Y ∧ p.Y ≤ 1000000 := by
  subst hr
  unfold skywayref1_Good at h
  simp at h
  omega

set_option maxRecDepth 100000 in
theorem skywaylaw1_PlaneToward_w (a : P) (b_ : P) (n : Int) (d : Int) (w : World) : Calls Try.prog 4 #[P.v a, P.v b_, .int .i64 n, .int .i64 d] w (Ret w (.bool (skywaylaw1_PlaneToward a b_ n d))) := by
  refine calls_intro (vs := [P.v a, P.v b_, .int .i64 n, .int .i64 d]) (w := w) Try.func4 rfl Try.ntmps4 rfl ?_
  refine TC.weak [(0, P.v a), (1, P.v b_), (2, .int .i64 n), (3, .int .i64 d)] (by kernel_rfl) ?_
  refine TC.seq ?_
  refine TC.region ?_
  refine TL.write 0 (fun b1 => [(1, P.v b_), (2, .int .i64 n), (3, .int .i64 d), (4, .pointer (some ⟨b1, 0, none⟩))]) (fun b1 => [.inl (b1, .cells (P.c a) 25 (0, 0))]) (fun b1 => ⟨by kernel_rfl, by kernel_rfl⟩) (fun b1 => ?_)
  refine TL.write 0 (fun b2 => [(2, .int .i64 n), (3, .int .i64 d), (4, .pointer (some ⟨b1, 0, none⟩)), (5, .pointer (some ⟨b2, 0, none⟩))]) (fun b2 => [.inl (b2, .cells (P.c b_) 25 (0, 0)), .inl (b1, .cells (P.c a) 25 (0, 0))]) (fun b2 => ⟨by kernel_rfl, by kernel_rfl⟩) (fun b2 => ?_)
  refine TL.run 3 [] [(2, .int .i64 n), (3, .int .i64 d), (4, .pointer (some ⟨b1, 0, none⟩)), (5, .pointer (some ⟨b2, 0, none⟩))] rfl ⟨by kernel_rfl, by kernel_rfl⟩ ?_
  refine TL.next rfl ?_
  refine TC.seq ?_
  refine TC.seq ?_
  refine TC.region ?_
  refine TL.call (some 11) [(2, .int .i64 n), (3, .int .i64 d), (4, .pointer (some ⟨b1, 0, none⟩)), (5, .pointer (some ⟨b2, 0, none⟩)), (11, .bool ((skywaylaw1_planeWorks)))] (fun w _ => skywaylaw1_planeWorks_w w) (by kernel_rfl) (by kernel_rfl) ?_
  generalize hr1 : skywaylaw1_planeWorks = r1
  refine TL.run 2 [] [(2, .int .i64 n), (3, .int .i64 d), (4, .pointer (some ⟨b1, 0, none⟩)), (5, .pointer (some ⟨b2, 0, none⟩)), (12, .bool (!r1))] rfl ⟨by kernel_rfl, by kernel_rfl⟩ ?_
  refine TL.next rfl ?_
  refine TC.cond (!r1) rfl (by kernel_rfl) (fun h1 => ?_) (fun h1 => ?_)
  · refine TC.seq ?_
    refine TC.region ?_
    refine TL.run 1 [] [(8, .bool false)] rfl ⟨by kernel_rfl, by kernel_rfl⟩ ?_
    refine TL.next rfl ?_
    refine TC.ret ?_
    refine TE.ret_then ?_
    have e : skywaylaw1_PlaneToward a b_ n d = false := by subst hr1; unfold skywaylaw1_PlaneToward; exact cond_t h1 (rfl)
    exact TE.ret [] (.bool false) ⟨by kernel_rfl, by kernel_rfl⟩ (by rw [e]; first | done | kernel_rfl)
  · refine TC.skip ?_
    refine TE.next ?_
    refine TC.seq ?_
    refine TC.region ?_
    refine TL.run 4 [1, 0] [(2, .int .i64 n), (3, .int .i64 d), (4, .pointer (some ⟨b1, 0, none⟩)), (5, .pointer (some ⟨b2, 0, none⟩)), (14, P.v a), (15, P.v b_), (16, .int .i64 n), (17, .int .i64 d)] rfl ⟨by kernel_rfl, by kernel_rfl⟩ ?_
    refine TL.call (some 18) [(2, .int .i64 n), (3, .int .i64 d), (4, .pointer (some ⟨b1, 0, none⟩)), (5, .pointer (some ⟨b2, 0, none⟩)), (18, .tuple #[P.v ((plane_Toward a b_ n d).1), .int .i64 ((plane_Toward a b_ n d).2)])] (fun w _ => plane_Toward_w a b_ n d w) (by kernel_rfl) (by kernel_rfl) ?_
    generalize hr2 : plane_Toward a b_ n d = r2
    refine TL.run 8 [] [(2, .int .i64 n), (3, .int .i64 d), (4, .pointer (some ⟨b1, 0, none⟩)), (5, .pointer (some ⟨b2, 0, none⟩)), (19, P.v r2.1), (20, .int .i64 r2.2)] rfl ⟨by kernel_rfl, by kernel_rfl⟩ ?_
    refine TL.write 0 (fun b3 => [(2, .int .i64 n), (3, .int .i64 d), (4, .pointer (some ⟨b1, 0, none⟩)), (5, .pointer (some ⟨b2, 0, none⟩)), (9, .pointer (some ⟨b3, 0, none⟩)), (19, P.v r2.1), (20, .int .i64 r2.2)]) (fun b3 => [.inl (b3, .cells (P.c P.zero) 25 (0, 0)), .inl (b2, .cells (P.c b_) 25 (0, 0)), .inl (b1, .cells (P.c a) 25 (0, 0))]) (fun b3 => ⟨by kernel_rfl, by kernel_rfl⟩) (fun b3 => ?_)
    refine TL.write 0 (fun _ => [(2, .int .i64 n), (3, .int .i64 d), (4, .pointer (some ⟨b1, 0, none⟩)), (5, .pointer (some ⟨b2, 0, none⟩)), (9, .pointer (some ⟨b3, 0, none⟩)), (20, .int .i64 r2.2)]) (fun _ => [.inl (b3, .cells (P.c r2.1) 25 (0, 0)), .inl (b2, .cells (P.c b_) 25 (0, 0)), .inl (b1, .cells (P.c a) 25 (0, 0))]) (fun _ => ⟨by kernel_rfl, by kernel_rfl⟩) (fun _ => ?_)
    refine TL.run 11 [] [(2, .int .i64 n), (3, .int .i64 d), (4, .pointer (some ⟨b1, 0, none⟩)), (5, .pointer (some ⟨b2, 0, none⟩)), (9, .pointer (some ⟨b3, 0, none⟩)), (10, .int .i64 r2.2)] rfl ⟨by kernel_rfl, by kernel_rfl⟩ ?_
    refine TL.next rfl ?_
    refine TC.seq ?_
    refine TC.block ?_
    refine TC.seq ?_
    refine TC.region ?_
    refine TL.run 3 [] [(2, .int .i64 n), (3, .int .i64 d), (4, .pointer (some ⟨b1, 0, none⟩)), (5, .pointer (some ⟨b2, 0, none⟩)), (9, .pointer (some ⟨b3, 0, none⟩)), (10, .int .i64 r2.2), (21, .bool (decide (d ≤ 0)))] rfl ⟨by kernel_rfl, by kernel_rfl⟩ ?_
    refine TL.next rfl ?_
    refine TC.cond (decide (d ≤ 0)) rfl (by kernel_rfl) (fun h2 => ?_) (fun h2 => ?_)
    · refine TC.seq ?_
      refine TC.region ?_
      refine TL.run 3 [] [(9, .pointer (some ⟨b3, 0, none⟩)), (26, .bool (r2.2 == 10))] rfl ⟨by kernel_rfl, by kernel_rfl⟩ ?_
      refine TL.split 26 (r2.2 == 10) (by kernel_rfl) (fun h3 => ?_) (fun h3 => ?_)
      · refine TL.run 5 [0] [(26, .bool true), (27, P.v r2.1), (28, P.v P.zero)] rfl ⟨by kernel_rfl, by kernel_rfl⟩ ?_
        refine TL.val (sV (do eqGuard .eql 25 (.tmp 27) (.tmp 28) (P.v r2.1) (P.v P.zero); binOp .eql 25 (P.v r2.1) (P.v P.zero))) (some 29) (.bool (P.eqb r2.1 P.zero)) [(26, .bool true), (29, .bool (P.eqb r2.1 P.zero))] (fun w hM => run_eql (b := P.eqb r2.1 P.zero) (by kernel_rfl) (by kernel_rfl) w) (by kernel_rfl) (by kernel_rfl) ?_
        refine TL.run 8 [] [(8, .bool (P.eqb r2.1 P.zero))] rfl ⟨by kernel_rfl, by kernel_rfl⟩ ?_
        refine TL.next rfl ?_
        refine TC.ret ?_
        refine TE.ret_block (TE.ret_then ?_)
        have e : skywaylaw1_PlaneToward a b_ n d = (P.eqb r2.1 P.zero) := by subst hr1 hr2; unfold skywaylaw1_PlaneToward; exact cond_f h1 (cond_t h2 (cond_t h3 (rfl)))
        exact TE.ret [] (.bool (P.eqb r2.1 P.zero)) ⟨by kernel_rfl, by kernel_rfl⟩ (by rw [e]; first | done | kernel_rfl)
      · refine TL.run 8 [] [(8, .bool false)] rfl ⟨by kernel_rfl, by kernel_rfl⟩ ?_
        refine TL.next rfl ?_
        refine TC.ret ?_
        refine TE.ret_block (TE.ret_then ?_)
        have e : skywaylaw1_PlaneToward a b_ n d = false := by subst hr1 hr2; unfold skywaylaw1_PlaneToward; exact cond_f h1 (cond_t h2 (cond_f h3 (rfl)))
        exact TE.ret [] (.bool false) ⟨by kernel_rfl, by kernel_rfl⟩ (by rw [e]; first | done | kernel_rfl)
    · refine TC.seq ?_
      refine TC.region ?_
      refine TL.run 3 [] [(2, .int .i64 n), (3, .int .i64 d), (4, .pointer (some ⟨b1, 0, none⟩)), (5, .pointer (some ⟨b2, 0, none⟩)), (9, .pointer (some ⟨b3, 0, none⟩)), (10, .int .i64 r2.2), (34, .bool (decide (d > 200000)))] rfl ⟨by kernel_rfl, by kernel_rfl⟩ ?_
      refine TL.join 34 (decide (d > 200000)) 6 [] [] (fun β => [(2, .int .i64 n), (3, .int .i64 d), (4, .pointer (some ⟨b1, 0, none⟩)), (5, .pointer (some ⟨b2, 0, none⟩)), (9, .pointer (some ⟨b3, 0, none⟩)), (10, .int .i64 r2.2), (37, .bool (β || (decide (n < 0))))]) (by kernel_rfl) rfl ⟨by kernel_rfl, by kernel_rfl⟩ ⟨by kernel_rfl, by kernel_rfl⟩ ?_
      refine TL.run 7 [] [(2, .int .i64 n), (3, .int .i64 d), (4, .pointer (some ⟨b1, 0, none⟩)), (5, .pointer (some ⟨b2, 0, none⟩)), (9, .pointer (some ⟨b3, 0, none⟩)), (10, .int .i64 r2.2), (38, .bool ((decide (d > 200000)) || (decide (n < 0))))] rfl ⟨by kernel_rfl, by kernel_rfl⟩ ?_
      refine TL.join 38 ((decide (d > 200000)) || (decide (n < 0))) 11 [] [] (fun β => [(2, .int .i64 n), (3, .int .i64 d), (4, .pointer (some ⟨b1, 0, none⟩)), (5, .pointer (some ⟨b2, 0, none⟩)), (9, .pointer (some ⟨b3, 0, none⟩)), (10, .int .i64 r2.2), (42, .bool (β || (decide (n > d))))]) (by kernel_rfl) rfl ⟨by kernel_rfl, by kernel_rfl⟩ ⟨by kernel_rfl, by kernel_rfl⟩ ?_
      refine TL.run 12 [] [(2, .int .i64 n), (3, .int .i64 d), (4, .pointer (some ⟨b1, 0, none⟩)), (5, .pointer (some ⟨b2, 0, none⟩)), (9, .pointer (some ⟨b3, 0, none⟩)), (10, .int .i64 r2.2), (43, .bool (((decide (d > 200000)) || (decide (n < 0))) || (decide (n > d))))] rfl ⟨by kernel_rfl, by kernel_rfl⟩ ?_
      refine TL.split 43 (((decide (d > 200000)) || (decide (n < 0))) || (decide (n > d))) (by kernel_rfl) (fun h4 => ?_) (fun h4 => ?_)
      · refine TL.run 22 [] [(2, .int .i64 n), (3, .int .i64 d), (4, .pointer (some ⟨b1, 0, none⟩)), (5, .pointer (some ⟨b2, 0, none⟩)), (9, .pointer (some ⟨b3, 0, none⟩)), (10, .int .i64 r2.2), (31, .bool true)] rfl ⟨by kernel_rfl, by kernel_rfl⟩ ?_
        refine TL.next rfl ?_
        refine TC.condT rfl (by kernel_rfl) ?_
        refine TC.seq ?_
        refine TC.region ?_
        refine TL.run 3 [] [(9, .pointer (some ⟨b3, 0, none⟩)), (55, .bool (r2.2 == 4))] rfl ⟨by kernel_rfl, by kernel_rfl⟩ ?_
        refine TL.split 55 (r2.2 == 4) (by kernel_rfl) (fun h5 => ?_) (fun h5 => ?_)
        · refine TL.run 5 [0] [(55, .bool true), (56, P.v r2.1), (57, P.v P.zero)] rfl ⟨by kernel_rfl, by kernel_rfl⟩ ?_
          refine TL.val (sV (do eqGuard .eql 25 (.tmp 56) (.tmp 57) (P.v r2.1) (P.v P.zero); binOp .eql 25 (P.v r2.1) (P.v P.zero))) (some 58) (.bool (P.eqb r2.1 P.zero)) [(55, .bool true), (58, .bool (P.eqb r2.1 P.zero))] (fun w hM => run_eql (b := P.eqb r2.1 P.zero) (by kernel_rfl) (by kernel_rfl) w) (by kernel_rfl) (by kernel_rfl) ?_
          refine TL.run 8 [] [(8, .bool (P.eqb r2.1 P.zero))] rfl ⟨by kernel_rfl, by kernel_rfl⟩ ?_
          refine TL.next rfl ?_
          refine TC.ret ?_
          refine TE.ret_block (TE.ret_then ?_)
          have e : skywaylaw1_PlaneToward a b_ n d = (P.eqb r2.1 P.zero) := by subst hr1 hr2; unfold skywaylaw1_PlaneToward; exact cond_f h1 (cond_f h2 (cond_t h4 (cond_t h5 (rfl))))
          exact TE.ret [] (.bool (P.eqb r2.1 P.zero)) ⟨by kernel_rfl, by kernel_rfl⟩ (by rw [e]; first | done | kernel_rfl)
        · refine TL.run 8 [] [(8, .bool false)] rfl ⟨by kernel_rfl, by kernel_rfl⟩ ?_
          refine TL.next rfl ?_
          refine TC.ret ?_
          refine TE.ret_block (TE.ret_then ?_)
          have e : skywaylaw1_PlaneToward a b_ n d = false := by subst hr1 hr2; unfold skywaylaw1_PlaneToward; exact cond_f h1 (cond_f h2 (cond_t h4 (cond_f h5 (rfl))))
          exact TE.ret [] (.bool false) ⟨by kernel_rfl, by kernel_rfl⟩ (by rw [e]; first | done | kernel_rfl)
      · refine TL.run 13 [2] [(2, .int .i64 n), (3, .int .i64 d), (4, .pointer (some ⟨b1, 0, none⟩)), (5, .pointer (some ⟨b2, 0, none⟩)), (9, .pointer (some ⟨b3, 0, none⟩)), (10, .int .i64 r2.2), (43, .bool false), (44, P.v a)] rfl ⟨by kernel_rfl, by kernel_rfl⟩ ?_
        refine TL.call (some 45) [(2, .int .i64 n), (3, .int .i64 d), (4, .pointer (some ⟨b1, 0, none⟩)), (5, .pointer (some ⟨b2, 0, none⟩)), (9, .pointer (some ⟨b3, 0, none⟩)), (10, .int .i64 r2.2), (43, .bool false), (45, .bool ((skywayref1_Good a)))] (fun w _ => skywayref1_Good_w a w) (by kernel_rfl) (by kernel_rfl) ?_
        generalize hr3 : skywayref1_Good a = r3
        refine TL.run 17 [] [(2, .int .i64 n), (3, .int .i64 d), (4, .pointer (some ⟨b1, 0, none⟩)), (5, .pointer (some ⟨b2, 0, none⟩)), (9, .pointer (some ⟨b3, 0, none⟩)), (10, .int .i64 r2.2), (48, .bool (!r3))] rfl ⟨by kernel_rfl, by kernel_rfl⟩ ?_
        refine TL.split 48 (!r3) (by kernel_rfl) (fun h6 => ?_) (fun h6 => ?_)
        · refine TL.run 22 [] [(2, .int .i64 n), (3, .int .i64 d), (4, .pointer (some ⟨b1, 0, none⟩)), (5, .pointer (some ⟨b2, 0, none⟩)), (9, .pointer (some ⟨b3, 0, none⟩)), (10, .int .i64 r2.2), (31, .bool true)] rfl ⟨by kernel_rfl, by kernel_rfl⟩ ?_
          refine TL.next rfl ?_
          refine TC.condT rfl (by kernel_rfl) ?_
          refine TC.seq ?_
          refine TC.region ?_
          refine TL.run 3 [] [(9, .pointer (some ⟨b3, 0, none⟩)), (55, .bool (r2.2 == 4))] rfl ⟨by kernel_rfl, by kernel_rfl⟩ ?_
          refine TL.split 55 (r2.2 == 4) (by kernel_rfl) (fun h7 => ?_) (fun h7 => ?_)
          · refine TL.run 5 [0] [(55, .bool true), (56, P.v r2.1), (57, P.v P.zero)] rfl ⟨by kernel_rfl, by kernel_rfl⟩ ?_
            refine TL.val (sV (do eqGuard .eql 25 (.tmp 56) (.tmp 57) (P.v r2.1) (P.v P.zero); binOp .eql 25 (P.v r2.1) (P.v P.zero))) (some 58) (.bool (P.eqb r2.1 P.zero)) [(55, .bool true), (58, .bool (P.eqb r2.1 P.zero))] (fun w hM => run_eql (b := P.eqb r2.1 P.zero) (by kernel_rfl) (by kernel_rfl) w) (by kernel_rfl) (by kernel_rfl) ?_
            refine TL.run 8 [] [(8, .bool (P.eqb r2.1 P.zero))] rfl ⟨by kernel_rfl, by kernel_rfl⟩ ?_
            refine TL.next rfl ?_
            refine TC.ret ?_
            refine TE.ret_block (TE.ret_then ?_)
            have e : skywaylaw1_PlaneToward a b_ n d = (P.eqb r2.1 P.zero) := by subst hr1 hr2 hr3; unfold skywaylaw1_PlaneToward; exact cond_f h1 (cond_f h2 (cond_f h4 (cond_t h6 (cond_t h7 (rfl)))))
            exact TE.ret [] (.bool (P.eqb r2.1 P.zero)) ⟨by kernel_rfl, by kernel_rfl⟩ (by rw [e]; first | done | kernel_rfl)
          · refine TL.run 8 [] [(8, .bool false)] rfl ⟨by kernel_rfl, by kernel_rfl⟩ ?_
            refine TL.next rfl ?_
            refine TC.ret ?_
            refine TE.ret_block (TE.ret_then ?_)
            have e : skywaylaw1_PlaneToward a b_ n d = false := by subst hr1 hr2 hr3; unfold skywaylaw1_PlaneToward; exact cond_f h1 (cond_f h2 (cond_f h4 (cond_t h6 (cond_f h7 (rfl)))))
            exact TE.ret [] (.bool false) ⟨by kernel_rfl, by kernel_rfl⟩ (by rw [e]; first | done | kernel_rfl)
        · refine TL.run 18 [1] [(2, .int .i64 n), (3, .int .i64 d), (4, .pointer (some ⟨b1, 0, none⟩)), (5, .pointer (some ⟨b2, 0, none⟩)), (9, .pointer (some ⟨b3, 0, none⟩)), (10, .int .i64 r2.2), (48, .bool false), (49, P.v b_)] rfl ⟨by kernel_rfl, by kernel_rfl⟩ ?_
          refine TL.call (some 50) [(2, .int .i64 n), (3, .int .i64 d), (4, .pointer (some ⟨b1, 0, none⟩)), (5, .pointer (some ⟨b2, 0, none⟩)), (9, .pointer (some ⟨b3, 0, none⟩)), (10, .int .i64 r2.2), (48, .bool false), (50, .bool ((skywayref1_Good b_)))] (fun w _ => skywayref1_Good_w b_ w) (by kernel_rfl) (by kernel_rfl) ?_
          generalize hr4 : skywayref1_Good b_ = r4
          refine TL.run 22 [] [(2, .int .i64 n), (3, .int .i64 d), (4, .pointer (some ⟨b1, 0, none⟩)), (5, .pointer (some ⟨b2, 0, none⟩)), (9, .pointer (some ⟨b3, 0, none⟩)), (10, .int .i64 r2.2), (31, .bool (!r4))] rfl ⟨by kernel_rfl, by kernel_rfl⟩ ?_
          refine TL.next rfl ?_
          refine TC.cond (!r4) rfl (by kernel_rfl) (fun h8 => ?_) (fun h8 => ?_)
          · refine TC.seq ?_
            refine TC.region ?_
            refine TL.run 3 [] [(9, .pointer (some ⟨b3, 0, none⟩)), (55, .bool (r2.2 == 4))] rfl ⟨by kernel_rfl, by kernel_rfl⟩ ?_
            refine TL.split 55 (r2.2 == 4) (by kernel_rfl) (fun h9 => ?_) (fun h9 => ?_)
            · refine TL.run 5 [0] [(55, .bool true), (56, P.v r2.1), (57, P.v P.zero)] rfl ⟨by kernel_rfl, by kernel_rfl⟩ ?_
              refine TL.val (sV (do eqGuard .eql 25 (.tmp 56) (.tmp 57) (P.v r2.1) (P.v P.zero); binOp .eql 25 (P.v r2.1) (P.v P.zero))) (some 58) (.bool (P.eqb r2.1 P.zero)) [(55, .bool true), (58, .bool (P.eqb r2.1 P.zero))] (fun w hM => run_eql (b := P.eqb r2.1 P.zero) (by kernel_rfl) (by kernel_rfl) w) (by kernel_rfl) (by kernel_rfl) ?_
              refine TL.run 8 [] [(8, .bool (P.eqb r2.1 P.zero))] rfl ⟨by kernel_rfl, by kernel_rfl⟩ ?_
              refine TL.next rfl ?_
              refine TC.ret ?_
              refine TE.ret_block (TE.ret_then ?_)
              have e : skywaylaw1_PlaneToward a b_ n d = (P.eqb r2.1 P.zero) := by subst hr1 hr2 hr3 hr4; unfold skywaylaw1_PlaneToward; exact cond_f h1 (cond_f h2 (cond_f h4 (cond_f h6 (cond_t h8 (cond_t h9 (rfl))))))
              exact TE.ret [] (.bool (P.eqb r2.1 P.zero)) ⟨by kernel_rfl, by kernel_rfl⟩ (by rw [e]; first | done | kernel_rfl)
            · refine TL.run 8 [] [(8, .bool false)] rfl ⟨by kernel_rfl, by kernel_rfl⟩ ?_
              refine TL.next rfl ?_
              refine TC.ret ?_
              refine TE.ret_block (TE.ret_then ?_)
              have e : skywaylaw1_PlaneToward a b_ n d = false := by subst hr1 hr2 hr3 hr4; unfold skywaylaw1_PlaneToward; exact cond_f h1 (cond_f h2 (cond_f h4 (cond_f h6 (cond_t h8 (cond_f h9 (rfl))))))
              exact TE.ret [] (.bool false) ⟨by kernel_rfl, by kernel_rfl⟩ (by rw [e]; first | done | kernel_rfl)
          · refine TC.skip ?_
            refine TE.normal_block ?_
            refine TE.next ?_
            refine TC.seq ?_
            refine TC.draw 22 (by kernel_rfl) (by kernel_rfl) (by kernel_rfl) ?_
            refine TQ.run 3 [] [(2, .int .i64 n), (3, .int .i64 d), (4, .pointer (some ⟨b1, 0, none⟩)), (5, .pointer (some ⟨b2, 0, none⟩)), (9, .pointer (some ⟨b3, 0, none⟩)), (62, .bool (r2.2 == 0))] rfl ⟨by kernel_rfl, by kernel_rfl⟩ ?_
            refine TQ.split 62 (r2.2 == 0) (by kernel_rfl) (fun h10 => ?_) (fun h10 => ?_)
            · refine TQ.run 10 [0, 2, 1] [(2, .int .i64 n), (3, .int .i64 d), (4, .pointer (some ⟨b1, 0, none⟩)), (5, .pointer (some ⟨b2, 0, none⟩)), (62, .bool true), (63, P.v r2.1), (65, .int .i64 a.X), (67, .int .i64 b_.X), (68, .int .i64 n), (69, .int .i64 d)] rfl ⟨by kernel_rfl, by kernel_rfl⟩ ?_
              refine TQ.call (some 70) [(2, .int .i64 n), (3, .int .i64 d), (4, .pointer (some ⟨b1, 0, none⟩)), (5, .pointer (some ⟨b2, 0, none⟩)), (62, .bool true), (63, P.v r2.1), (70, .int .i64 (skywayref1_Mix a.X b_.X n d))] (fun w _ => skywayref1_Mix_w a.X b_.X n d w (by have g1 := good_in ‹skywayref1_Good a = r3› ‹(!r3) = false›; have g2 := good_in ‹skywayref1_Good b_ = r4› ‹(!r4) = false›; have c1 := dec_f ‹decide (d ≤ 0) = false›; have c2 := ‹(((decide (d > 200000)) || (decide (n < 0))) || (decide (n > d))) = false›; simp at c2; omega)) rfl (by kernel_rfl) (by kernel_rfl) ?_
              generalize hr5 : skywayref1_Mix a.X b_.X n d = r5
              refine TQ.run 17 [2, 1] [(62, .bool true), (63, P.v r2.1), (70, .int .i64 r5), (72, .int .i64 a.Y), (74, .int .i64 b_.Y), (75, .int .i64 n), (76, .int .i64 d)] rfl ⟨by kernel_rfl, by kernel_rfl⟩ ?_
              refine TQ.call (some 77) [(62, .bool true), (63, P.v r2.1), (70, .int .i64 r5), (77, .int .i64 (skywayref1_Mix a.Y b_.Y n d))] (fun w _ => skywayref1_Mix_w a.Y b_.Y n d w (by have g1 := good_in ‹skywayref1_Good a = r3› ‹(!r3) = false›; have g2 := good_in ‹skywayref1_Good b_ = r4› ‹(!r4) = false›; have c1 := dec_f ‹decide (d ≤ 0) = false›; have c2 := ‹(((decide (d > 200000)) || (decide (n < 0))) || (decide (n > d))) = false›; simp at c2; omega)) rfl (by kernel_rfl) (by kernel_rfl) ?_
              generalize hr6 : skywayref1_Mix a.Y b_.Y n d = r6
              refine TQ.run 19 [] [(62, .bool true), (63, P.v r2.1), (78, .agg #[.int .i64 r5, .int .i64 r6])] rfl ⟨by kernel_rfl, by kernel_rfl⟩ ?_
              refine TQ.val (sV (do eqGuard .eql 25 (.tmp 63) (.tmp 78) (P.v r2.1) (.agg #[.int .i64 r5, .int .i64 r6]); binOp .eql 25 (P.v r2.1) (.agg #[.int .i64 r5, .int .i64 r6]))) (some 79) (.bool (P.eqb r2.1 (⟨r5, r6⟩ : P))) [(62, .bool true), (79, .bool (P.eqb r2.1 (⟨r5, r6⟩ : P)))] (fun w hM => run_eql (b := P.eqb r2.1 (⟨r5, r6⟩ : P)) (by kernel_rfl) (by kernel_rfl) w) rfl (by kernel_rfl) (by kernel_rfl) ?_
              refine TQ.run 22 [] [(8, .bool (P.eqb r2.1 (⟨r5, r6⟩ : P)))] rfl ⟨by kernel_rfl, by kernel_rfl⟩ ?_
              refine TQ.next rfl ?_
              refine TC.ret ?_
              have e : skywaylaw1_PlaneToward a b_ n d = (P.eqb r2.1 (⟨r5, r6⟩ : P)) := by subst hr1 hr2 hr3 hr4 hr5 hr6; unfold skywaylaw1_PlaneToward; exact cond_f h1 (cond_f h2 (cond_f h4 (cond_f h6 (cond_f h8 (cond_t h10 (rfl))))))
              exact TE.ret [] (.bool (P.eqb r2.1 (⟨r5, r6⟩ : P))) ⟨by kernel_rfl, by kernel_rfl⟩ (by rw [e]; first | done | kernel_rfl)
            · refine TQ.run 22 [] [(8, .bool false)] rfl ⟨by kernel_rfl, by kernel_rfl⟩ ?_
              refine TQ.next rfl ?_
              refine TC.ret ?_
              have e : skywaylaw1_PlaneToward a b_ n d = false := by subst hr1 hr2 hr3 hr4; unfold skywaylaw1_PlaneToward; exact cond_f h1 (cond_f h2 (cond_f h4 (cond_f h6 (cond_f h8 (cond_f h10 (rfl))))))
              exact TE.ret [] (.bool false) ⟨by kernel_rfl, by kernel_rfl⟩ (by rw [e]; first | done | kernel_rfl)

end Go.Sky
