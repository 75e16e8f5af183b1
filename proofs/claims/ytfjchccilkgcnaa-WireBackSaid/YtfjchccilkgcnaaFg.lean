/- Functions of the program, each with the Lean function that it computes. Conditions: none. -/
import Derived.Test.YtfjchccilkgcnaaFe
namespace Go.Sky
open Go Go.Eng Go.Proofs
def skywaykeep2_within (n : Int) (low : Int) (high : Int) : Int :=
  w64 (low + ((w64 ((n.tmod (w64 ((w64 (high - low)) + 1))) + (w64 ((w64 (high - low)) + 1)))).tmod (w64 ((w64 (high - low)) + 1))))

theorem within_eq {n low high r : Int} (hr : skywaykeep2_within n low high = r) (h : low ≤ high) (h1 : -1000000000000 ≤ low) (h2 : high ≤ 1000000000000) :
    r = low + (n.tmod (high - low + 1) + (high - low + 1)).tmod (high - low + 1) ∧ low ≤ r ∧ r ≤ high := by
  subst hr
  unfold skywaykeep2_within
  have s : w64 ((w64 (high - low)) + 1) = high - low + 1 := by rw [w64_id (x := high - low) (by omega), w64_id (by omega)]
  simp only [s]
  have t1 := Int.tmod_lt_of_pos n (show 0 < high - low + 1 by omega)
  have t2 := Int.lt_tmod_of_pos n (show 0 < high - low + 1 by omega)
  rw [w64_id (x := n.tmod (high - low + 1) + (high - low + 1)) (by omega)]
  have t3 := Int.tmod_lt_of_pos (n.tmod (high - low + 1) + (high - low + 1)) (show 0 < high - low + 1 by omega)
  have t4 := Int.tmod_nonneg (high - low + 1) (show 0 ≤ n.tmod (high - low + 1) + (high - low + 1) by omega)
  rw [w64_id (by omega)]
  omega
theorem within_in {n low high r : Int} (hr : skywaykeep2_within n low high = r) (h : low ≤ high) (h1 : -1000000000000 ≤ low) (h2 : high ≤ 1000000000000) : low ≤ r ∧ r ≤ high := (within_eq hr h h1 h2).2

set_option maxRecDepth 100000 in
theorem skywaykeep2_within_w (n : Int) (low : Int) (high : Int) (w : World) (hs : w64 ((w64 (high - low)) + 1) ≠ 0) : Calls Try.prog 16 #[.int .i64 n, .int .i64 low, .int .i64 high] w (Ret w (.int .i64 (skywaykeep2_within n low high))) := by
  refine calls_intro (vs := [.int .i64 n, .int .i64 low, .int .i64 high]) (w := w) Try.func16 rfl Try.ntmps16 rfl ?_
  refine TC.weak [(0, .int .i64 n), (1, .int .i64 low), (2, .int .i64 high)] (by kernel_rfl) ?_
  refine TC.seq ?_
  refine TC.region ?_
  refine TL.run 1 [] [(0, .int .i64 n), (1, .int .i64 low), (2, .int .i64 high)] rfl ⟨by kernel_rfl, by kernel_rfl⟩ ?_
  refine TL.next rfl ?_
  refine TC.seq ?_
  refine TC.region ?_
  refine TL.run 5 [] [(0, .int .i64 n), (1, .int .i64 low), (7, .int .i64 (w64 ((w64 (high - low)) + 1)))] rfl ⟨by kernel_rfl, by kernel_rfl⟩ ?_
  refine TL.next rfl ?_
  refine TC.seq ?_
  refine TC.region ?_
  refine TL.run 3 [] [(7, .int .i64 (w64 ((w64 (high - low)) + 1))), (12, .int .i64 low), (13, .int .i64 n), (14, .int .i64 (w64 ((w64 (high - low)) + 1)))] rfl ⟨by kernel_rfl, by kernel_rfl⟩ ?_
  refine TL.val (sV (binOp .rem 3 (.int .i64 n) (.int .i64 (w64 ((w64 (high - low)) + 1))))) (some 15) (.int .i64 (n.tmod (w64 ((w64 (high - low)) + 1)))) [(7, .int .i64 (w64 ((w64 (high - low)) + 1))), (12, .int .i64 low), (15, .int .i64 (n.tmod (w64 ((w64 (high - low)) + 1))))] (fun w hM => run_rem (by first | omega | (rw [List.length_set]; omega) | (rw [w64_id (by omega)]; omega) | (dsimp only; omega) | (rw [List.length_drop]; omega) | (simp only [w64_eq]; omega) | exact (tm_in (by (first | (rw [w64_id (by omega)]; omega) | (simp only [w64_eq]; omega))) (by omega)).1 | exact (tm_in (by (first | (rw [w64_id (by omega)]; omega) | (simp only [w64_eq]; omega))) (by omega)).2.1 | exact (tm_in (by (first | (rw [w64_id (by omega)]; omega) | (simp only [w64_eq]; omega))) (by omega)).2.2 | (simp only [List.length_take] at *; omega) | (simp <;> omega))) (by kernel_rfl) (by kernel_rfl) ?_
  refine TL.run 7 [] [(12, .int .i64 low), (17, .int .i64 (w64 ((n.tmod (w64 ((w64 (high - low)) + 1))) + (w64 ((w64 (high - low)) + 1))))), (18, .int .i64 (w64 ((w64 (high - low)) + 1)))] rfl ⟨by kernel_rfl, by kernel_rfl⟩ ?_
  refine TL.val (sV (binOp .rem 3 (.int .i64 (w64 ((n.tmod (w64 ((w64 (high - low)) + 1))) + (w64 ((w64 (high - low)) + 1))))) (.int .i64 (w64 ((w64 (high - low)) + 1))))) (some 19) (.int .i64 ((w64 ((n.tmod (w64 ((w64 (high - low)) + 1))) + (w64 ((w64 (high - low)) + 1)))).tmod (w64 ((w64 (high - low)) + 1)))) [(12, .int .i64 low), (19, .int .i64 ((w64 ((n.tmod (w64 ((w64 (high - low)) + 1))) + (w64 ((w64 (high - low)) + 1)))).tmod (w64 ((w64 (high - low)) + 1))))] (fun w hM => run_rem (by first | omega | (rw [List.length_set]; omega) | (rw [w64_id (by omega)]; omega) | (dsimp only; omega) | (rw [List.length_drop]; omega) | (simp only [w64_eq]; omega) | exact (tm_in (by (first | (rw [w64_id (by omega)]; omega) | (simp only [w64_eq]; omega))) (by omega)).1 | exact (tm_in (by (first | (rw [w64_id (by omega)]; omega) | (simp only [w64_eq]; omega))) (by omega)).2.1 | exact (tm_in (by (first | (rw [w64_id (by omega)]; omega) | (simp only [w64_eq]; omega))) (by omega)).2.2 | (simp only [List.length_take] at *; omega) | (simp <;> omega))) (by kernel_rfl) (by kernel_rfl) ?_
  refine TL.run 10 [] [(6, .int .i64 (w64 (low + ((w64 ((n.tmod (w64 ((w64 (high - low)) + 1))) + (w64 ((w64 (high - low)) + 1)))).tmod (w64 ((w64 (high - low)) + 1))))))] rfl ⟨by kernel_rfl, by kernel_rfl⟩ ?_
  refine TL.next rfl ?_
  refine TC.ret ?_
  have e : skywaykeep2_within n low high = (w64 (low + ((w64 ((n.tmod (w64 ((w64 (high - low)) + 1))) + (w64 ((w64 (high - low)) + 1)))).tmod (w64 ((w64 (high - low)) + 1))))) := by unfold skywaykeep2_within; exact rfl
  exact TE.ret [] (.int .i64 (w64 (low + ((w64 ((n.tmod (w64 ((w64 (high - low)) + 1))) + (w64 ((w64 (high - low)) + 1)))).tmod (w64 ((w64 (high - low)) + 1)))))) ⟨by kernel_rfl, by kernel_rfl⟩ (by rw [e]; first | done | kernel_rfl)

def slices_Equal_api_Plot_api_Plot_L1 (s2 : List Plot) : List Plot → Nat → ((Unit) ⊕ (Bool))
  | [], _ => .inl ()
  | x :: xs, k => cond (!(Plot.eqb x (s2[k]?.getD Plot.zero))) (
      .inr false) (
      slices_Equal_api_Plot_api_Plot_L1 s2 xs (k + 1))
def slices_Equal_api_Plot_api_Plot (s1 : List Plot) (s2 : List Plot) : Bool :=
  cond ((s1.length : Int) != (s2.length : Int)) (
    false) (
    Sum.elim (fun _ =>
      true) (fun r => r) (slices_Equal_api_Plot_api_Plot_L1 s2 s1 0))

set_option maxRecDepth 100000 in
theorem slices_Equal_api_Plot_api_Plot_w (A_s1 : Option Addr) (c_s1 : Nat) (s1 : List Plot) (A_s2 : Option Addr) (c_s2 : Nat) (s2 : List Plot) (w : World) (h_s1 : Rd w 6 A_s1 (s1.map Plot.c)) (_hc_s1 : s1.length ≤ c_s1) (h_s2 : Rd w 6 A_s2 (s2.map Plot.c)) (_hc_s2 : s2.length ≤ c_s2) : Calls Try.prog 35 #[.slice A_s1 s1.length c_s1, .slice A_s2 s2.length c_s2] w (Ret w (.bool (slices_Equal_api_Plot_api_Plot s1 s2))) := by
  have s_s1 := h_s1.short; rw [List.length_map] at s_s1
  have s_s2 := h_s2.short; rw [List.length_map] at s_s2
  refine calls_intro (vs := [.slice A_s1 s1.length c_s1, .slice A_s2 s2.length c_s2]) (w := w) Try.func35 rfl Try.ntmps35 rfl ?_
  refine TC.weak [(0, .slice A_s1 s1.length c_s1), (1, .slice A_s2 s2.length c_s2)] (by kernel_rfl) ?_
  refine TC.seq ?_
  refine TC.region ?_
  refine TL.run 1 [] [(0, .slice A_s1 s1.length c_s1), (1, .slice A_s2 s2.length c_s2)] rfl ⟨by kernel_rfl, by kernel_rfl⟩ ?_
  refine TL.next rfl ?_
  refine TC.seq ?_
  refine TC.seq ?_
  refine TC.region ?_
  refine TL.run 5 [] [(0, .slice A_s1 s1.length c_s1), (1, .slice A_s2 s2.length c_s2), (10, .bool ((s1.length : Int) != (s2.length : Int)))] rfl ⟨by kernel_rfl, by kernel_rfl⟩ ?_
  refine TL.next rfl ?_
  refine TC.cond ((s1.length : Int) != (s2.length : Int)) rfl (by kernel_rfl) (fun h1 => ?_) (fun h1 => ?_)
  · refine TC.seq ?_
    refine TC.region ?_
    refine TL.run 1 [] [(4, .bool false)] rfl ⟨by kernel_rfl, by kernel_rfl⟩ ?_
    refine TL.next rfl ?_
    refine TC.ret ?_
    refine TE.ret_then ?_
    have e : slices_Equal_api_Plot_api_Plot s1 s2 = false := by unfold slices_Equal_api_Plot_api_Plot; exact cond_t h1 (rfl)
    exact TE.ret [] (.bool false) ⟨by kernel_rfl, by kernel_rfl⟩ (by rw [e]; first | done | kernel_rfl)
  · refine TC.skip ?_
    refine TE.next ?_
    refine TC.seq ?_
    refine TC.seq ?_
    refine TC.region ?_
    refine TL.run 3 [] [(0, .slice A_s1 s1.length c_s1), (1, .slice A_s2 s2.length c_s2), (12, .int .i64 (s1.length : Int)), (13, .int .i64 0)] rfl ⟨by kernel_rfl, by kernel_rfl⟩ ?_
    refine TL.next rfl ?_
    refine TC.weak [(0, .slice A_s1 s1.length c_s1), (1, .slice A_s2 s2.length c_s2), (12, .int .i64 (s1.length : Int)), (13, .int .i64 0)] (by kernel_rfl) ?_
    obtain ⟨R1, hR⟩ : ∃ R, R = slices_Equal_api_Plot_api_Plot_L1 s2 s1 0 := ⟨_, rfl⟩
    refine TC.cut (S := Unit) (fun (_ : Unit) => []) (fun (_ : Unit) => []) (fun (_ : Unit) => R1 = .inl ()) ?_ ?_
    · refine TC.block ?_
      refine TC.loop (X := Nat) (fun k => [(0, .slice A_s1 s1.length c_s1), (1, .slice A_s2 s2.length c_s2), (12, .int .i64 (s1.length : Int)), (13, .int .i64 (k : Int))]) (fun k => []) (fun k => s1.length - k) (fun k => k ≤ s1.length ∧ R1 = slices_Equal_api_Plot_api_Plot_L1 s2 (s1.drop k) k) ?_ 0 ⟨Nat.zero_le _, hR⟩
      rintro k ⟨hk, hI⟩
      refine TC.seq ?_
      refine TC.region ?_
      refine TL.run 1 [] [(0, .slice A_s1 s1.length c_s1), (1, .slice A_s2 s2.length c_s2), (12, .int .i64 (s1.length : Int)), (13, .int .i64 (k : Int)), (14, .bool (decide ((k : Int) < (s1.length : Int))))] rfl ⟨by kernel_rfl, by kernel_rfl⟩ ?_
      refine TL.next rfl ?_
      refine TC.seq ?_
      refine TC.cond (decide ((k : Int) < (s1.length : Int))) rfl (by kernel_rfl) (fun h2 => ?_) (fun h2 => ?_)
      · have hlt : k < s1.length := by have := of_decide_eq_true h2; first | omega | (simp at this; omega)
        obtain ⟨x, hx⟩ : ∃ e_, s1[k]? = some e_ := ⟨_, List.getElem?_eq_getElem hlt⟩
        have hd := drop_at hx
        refine TC.skip ?_
        refine TE.next ?_
        refine TC.seq ?_
        refine TC.block ?_
        refine TC.seq ?_
        refine TC.region ?_
        refine TL.run 2 [] [(0, .slice A_s1 s1.length c_s1), (1, .slice A_s2 s2.length c_s2), (5, .int .i64 (k : Int)), (12, .int .i64 (s1.length : Int)), (13, .int .i64 (k : Int))] rfl ⟨by kernel_rfl, by kernel_rfl⟩ ?_
        refine TL.next rfl ?_
        refine TC.seq ?_
        refine TC.draw 9 (by kernel_rfl) (by kernel_rfl) (by kernel_rfl) ?_
        refine TQ.run 2 [] [(0, .slice A_s1 s1.length c_s1), (1, .slice A_s2 s2.length c_s2), (5, .int .i64 (k : Int)), (12, .int .i64 (s1.length : Int)), (13, .int .i64 (k : Int)), (16, .slice A_s1 s1.length c_s1), (17, .int .i64 (k : Int))] rfl ⟨by kernel_rfl, by kernel_rfl⟩ ?_
        refine TQ.val (sV (Instr.indexAt 41 (.slice A_s1 s1.length c_s1) (.int .i64 (k : Int)))) (some 18) (.pointer (some ((A_s1.getD noAddr).add (k * 6)))) [(0, .slice A_s1 s1.length c_s1), (1, .slice A_s2 s2.length c_s2), (5, .int .i64 (k : Int)), (12, .int .i64 (s1.length : Int)), (13, .int .i64 (k : Int)), (18, .pointer (some ((A_s1.getD noAddr).add (k * 6))))] (fun w hM => run_index (h_s1.sat hM) (by simp) (by kernel_rfl) (by have q0_ := (bne_f h1); first | omega | (rw [List.length_set]; omega) | (rw [w64_id (by omega)]; omega) | (dsimp only; omega) | (rw [List.length_drop]; omega) | (simp only [w64_eq]; omega) | (simp only [List.length_take] at *; omega) | (simp <;> omega)) (by have q0_ := (bne_f h1); first | omega | (rw [List.length_set]; omega) | (rw [w64_id (by omega)]; omega) | (dsimp only; omega) | (rw [List.length_drop]; omega) | (simp only [w64_eq]; omega) | (simp only [List.length_take] at *; omega) | (simp <;> omega))) rfl (by kernel_rfl) (by kernel_rfl) ?_
        refine TQ.val (sV (Instr.loadAt 58 (.pointer (some ((A_s1.getD noAddr).add (k * 6)))))) (some 19) (Plot.v x) [(0, .slice A_s1 s1.length c_s1), (1, .slice A_s2 s2.length c_s2), (5, .int .i64 (k : Int)), (12, .int .i64 (s1.length : Int)), (13, .int .i64 (k : Int)), (19, Plot.v x)] (fun w hM => run_load_agg (n := 6) (off := 0) (i := k) (Plot.v x) (h_s1.sat hM) (map_at hx) (by kernel_rfl) (by kernel_rfl) (by kernel_rfl)) rfl (by kernel_rfl) (by kernel_rfl) ?_
        refine TQ.run 6 [] [(0, .slice A_s1 s1.length c_s1), (1, .slice A_s2 s2.length c_s2), (12, .int .i64 (s1.length : Int)), (13, .int .i64 (k : Int)), (19, Plot.v x), (20, .slice A_s2 s2.length c_s2), (21, .int .i64 (k : Int))] rfl ⟨by kernel_rfl, by kernel_rfl⟩ ?_
        refine TQ.val (sV (Instr.indexAt 41 (.slice A_s2 s2.length c_s2) (.int .i64 (k : Int)))) (some 22) (.pointer (some ((A_s2.getD noAddr).add (k * 6)))) [(0, .slice A_s1 s1.length c_s1), (1, .slice A_s2 s2.length c_s2), (12, .int .i64 (s1.length : Int)), (13, .int .i64 (k : Int)), (19, Plot.v x), (22, .pointer (some ((A_s2.getD noAddr).add (k * 6))))] (fun w hM => run_index (h_s2.sat hM) (by simp) (by kernel_rfl) (by have q0_ := (bne_f h1); first | omega | (rw [List.length_set]; omega) | (rw [w64_id (by omega)]; omega) | (dsimp only; omega) | (rw [List.length_drop]; omega) | (simp only [w64_eq]; omega) | (simp only [List.length_take] at *; omega) | (simp <;> omega)) (by have q0_ := (bne_f h1); first | omega | (rw [List.length_set]; omega) | (rw [w64_id (by omega)]; omega) | (dsimp only; omega) | (rw [List.length_drop]; omega) | (simp only [w64_eq]; omega) | (simp only [List.length_take] at *; omega) | (simp <;> omega))) rfl (by kernel_rfl) (by kernel_rfl) ?_
        refine TQ.val (sV (Instr.loadAt 58 (.pointer (some ((A_s2.getD noAddr).add (k * 6)))))) (some 23) (Plot.v (s2[k]?.getD Plot.zero)) [(0, .slice A_s1 s1.length c_s1), (1, .slice A_s2 s2.length c_s2), (12, .int .i64 (s1.length : Int)), (13, .int .i64 (k : Int)), (19, Plot.v x), (23, Plot.v (s2[k]?.getD Plot.zero))] (fun w hM => run_load_agg (n := 6) (off := 0) (i := k) (Plot.v (s2[k]?.getD Plot.zero)) (h_s2.sat hM) (map_at (getD_at _ _ Plot.zero (by have q0_ := (bne_f h1); first | omega | (rw [List.length_set]; omega) | (rw [w64_id (by omega)]; omega) | (dsimp only; omega) | (rw [List.length_drop]; omega) | (simp only [w64_eq]; omega) | (simp only [List.length_take] at *; omega) | (simp <;> omega)))) (by kernel_rfl) (by kernel_rfl) (by kernel_rfl)) rfl (by kernel_rfl) (by kernel_rfl) ?_
        refine TQ.val (sV (do eqGuard .neq 58 (.tmp 19) (.tmp 23) (Plot.v x) (Plot.v (s2[k]?.getD Plot.zero)); binOp .neq 58 (Plot.v x) (Plot.v (s2[k]?.getD Plot.zero)))) (some 24) (.bool (!(Plot.eqb x (s2[k]?.getD Plot.zero)))) [(0, .slice A_s1 s1.length c_s1), (1, .slice A_s2 s2.length c_s2), (12, .int .i64 (s1.length : Int)), (13, .int .i64 (k : Int)), (24, .bool (!(Plot.eqb x (s2[k]?.getD Plot.zero))))] (fun w hM => run_neq (b := Plot.eqb x (s2[k]?.getD Plot.zero)) (by kernel_rfl) (by kernel_rfl) w) rfl (by kernel_rfl) (by kernel_rfl) ?_
        refine TQ.next rfl ?_
        refine TC.cond (!(Plot.eqb x (s2[k]?.getD Plot.zero))) rfl (by kernel_rfl) (fun h3 => ?_) (fun h3 => ?_)
        · refine TC.seq ?_
          refine TC.region ?_
          refine TL.run 1 [] [(4, .bool false)] rfl ⟨by kernel_rfl, by kernel_rfl⟩ ?_
          refine TL.next rfl ?_
          refine TC.ret ?_
          refine TE.ret_block (TE.ret_then (TE.ret_then (TE.ret_block (TE.ret_then (TE.ret_then ?_)))))
          have e : slices_Equal_api_Plot_api_Plot s1 s2 = false := by unfold slices_Equal_api_Plot_api_Plot; exact cond_f h1 (elim_r (hR.symm.trans (hI.trans (by rw [hd]; exact cond_t h3 (rfl)))) rfl)
          exact TE.ret [] (.bool false) ⟨by kernel_rfl, by kernel_rfl⟩ (by rw [e]; first | done | kernel_rfl)
        · refine TC.skip ?_
          refine TE.normal_block ?_
          refine TE.next ?_
          refine TC.region ?_
          refine TL.run 2 [] [(0, .slice A_s1 s1.length c_s1), (1, .slice A_s2 s2.length c_s2), (12, .int .i64 (s1.length : Int)), (13, .int .i64 (w64 ((k : Int) + 1)))] rfl ⟨by kernel_rfl, by kernel_rfl⟩ ?_
          refine TL.done rfl ?_
          refine TE.rw 13 (.int .i64 (w64 ((k : Int) + 1))) (.int .i64 ((k + 1 : Nat) : Int)) (by kernel_rfl) (w64_cast k (by omega)) ?_
          exact TE.again (x := k) (k + 1) ⟨by omega, hI.trans (by rw [hd]; exact cond_f h3 (rfl))⟩ (by show s1.length - (k + 1) < s1.length - k; omega) (by kernel_rfl) (.slnil)
      · have hd : s1.drop k = [] := List.drop_eq_nil_of_le (by have := of_decide_eq_false h2; first | omega | (simp at this; omega))
        refine TC.exit ?_
        refine TE.exit_then (TE.exit_then (TE.exit_same ?_))
        exact TE.cut () (hI.trans (by rw [hd]; exact rfl)) (by kernel_rfl) (.slnil)
    · intro _ hJ
      refine TE.next ?_
      refine TC.seq ?_
      refine TC.region ?_
      refine TL.run 1 [] [(4, .bool true)] rfl ⟨by kernel_rfl, by kernel_rfl⟩ ?_
      refine TL.next rfl ?_
      refine TC.ret ?_
      have e : slices_Equal_api_Plot_api_Plot s1 s2 = true := by unfold slices_Equal_api_Plot_api_Plot; exact cond_f h1 (elim_l (hR.symm.trans hJ) (rfl))
      exact TE.ret [] (.bool true) ⟨by kernel_rfl, by kernel_rfl⟩ (by rw [e]; first | done | kernel_rfl)

def skywaykeep2_sameFrame (f : WireFrame) (g_ : WireFrame) : Bool :=
  cond ((f.Radar == g_.Radar) && (f.Time == g_.Time)) (
    let r1 := slices_Equal_api_Plot_api_Plot f.Plots g_.Plots
    r1) (
    false)

set_option maxRecDepth 100000 in
theorem skywaykeep2_sameFrame_w (f : WireFrame) (A_f_Plots : Option Addr) (c_f_Plots : Nat) (g_ : WireFrame) (A_g__Plots : Option Addr) (c_g__Plots : Nat) (w : World) (h_f_Plots : Rd w 6 A_f_Plots (f.Plots.map Plot.c)) (hc_f_Plots : f.Plots.length ≤ c_f_Plots) (h_g__Plots : Rd w 6 A_g__Plots (g_.Plots.map Plot.c)) (hc_g__Plots : g_.Plots.length ≤ c_g__Plots) : Calls Try.prog 27 #[.agg #[.int .i64 f.Radar, .int .i64 f.Time, .slice A_f_Plots f.Plots.length c_f_Plots], .agg #[.int .i64 g_.Radar, .int .i64 g_.Time, .slice A_g__Plots g_.Plots.length c_g__Plots]] w (Ret w (.bool (skywaykeep2_sameFrame f g_))) := by
  have s_f_Plots := h_f_Plots.short; rw [List.length_map] at s_f_Plots
  have s_g__Plots := h_g__Plots.short; rw [List.length_map] at s_g__Plots
  refine calls_intro (vs := [.agg #[.int .i64 f.Radar, .int .i64 f.Time, .slice A_f_Plots f.Plots.length c_f_Plots], .agg #[.int .i64 g_.Radar, .int .i64 g_.Time, .slice A_g__Plots g_.Plots.length c_g__Plots]]) (w := w) Try.func27 rfl Try.ntmps27 rfl ?_
  refine TC.weak [(0, .agg #[.int .i64 f.Radar, .int .i64 f.Time, .slice A_f_Plots f.Plots.length c_f_Plots]), (1, .agg #[.int .i64 g_.Radar, .int .i64 g_.Time, .slice A_g__Plots g_.Plots.length c_g__Plots])] (by kernel_rfl) ?_
  refine TC.seq ?_
  refine TC.region ?_
  refine TL.write 0 (fun b1 => [(1, .agg #[.int .i64 g_.Radar, .int .i64 g_.Time, .slice A_g__Plots g_.Plots.length c_g__Plots]), (2, .pointer (some ⟨b1, 0, none⟩))]) (fun b1 => [.inl (b1, .cells #[.int .i64 f.Radar, .int .i64 f.Time, .slice A_f_Plots f.Plots.length c_f_Plots] 43 (0, 0))]) (fun b1 => ⟨by kernel_rfl, by kernel_rfl⟩) (fun b1 => ?_)
  refine TL.write 0 (fun b2 => [(2, .pointer (some ⟨b1, 0, none⟩)), (3, .pointer (some ⟨b2, 0, none⟩))]) (fun b2 => [.inl (b2, .cells #[.int .i64 g_.Radar, .int .i64 g_.Time, .slice A_g__Plots g_.Plots.length c_g__Plots] 43 (0, 0)), .inl (b1, .cells #[.int .i64 f.Radar, .int .i64 f.Time, .slice A_f_Plots f.Plots.length c_f_Plots] 43 (0, 0))]) (fun b2 => ⟨by kernel_rfl, by kernel_rfl⟩) (fun b2 => ?_)
  refine TL.run 3 [] [(2, .pointer (some ⟨b1, 0, none⟩)), (3, .pointer (some ⟨b2, 0, none⟩))] rfl ⟨by kernel_rfl, by kernel_rfl⟩ ?_
  refine TL.next rfl ?_
  refine TC.seq ?_
  refine TC.region ?_
  refine TL.run 6 [1, 0] [(2, .pointer (some ⟨b1, 0, none⟩)), (3, .pointer (some ⟨b2, 0, none⟩)), (10, .bool (f.Radar == g_.Radar))] rfl ⟨by kernel_rfl, by kernel_rfl⟩ ?_
  refine TL.join 10 (f.Radar == g_.Radar) 12 [1, 0] [] (fun β => [(2, .pointer (some ⟨b1, 0, none⟩)), (3, .pointer (some ⟨b2, 0, none⟩)), (16, .bool (β && (f.Time == g_.Time)))]) (by kernel_rfl) rfl ⟨by kernel_rfl, by kernel_rfl⟩ ⟨by kernel_rfl, by kernel_rfl⟩ ?_
  refine TL.run 13 [] [(2, .pointer (some ⟨b1, 0, none⟩)), (3, .pointer (some ⟨b2, 0, none⟩)), (17, .bool ((f.Radar == g_.Radar) && (f.Time == g_.Time)))] rfl ⟨by kernel_rfl, by kernel_rfl⟩ ?_
  refine TL.split 17 ((f.Radar == g_.Radar) && (f.Time == g_.Time)) (by kernel_rfl) (fun h1 => ?_) (fun h1 => ?_)
  · refine TL.run 17 [1, 0] [(17, .bool true), (19, .slice A_f_Plots f.Plots.length c_f_Plots), (21, .slice A_g__Plots g_.Plots.length c_g__Plots)] rfl ⟨by kernel_rfl, by kernel_rfl⟩ ?_
    refine TL.call (some 22) [(17, .bool true), (22, .bool ((slices_Equal_api_Plot_api_Plot f.Plots g_.Plots)))] (fun w hM => slices_Equal_api_Plot_api_Plot_w A_f_Plots c_f_Plots f.Plots A_g__Plots c_g__Plots g_.Plots w (h_f_Plots.sat hM) hc_f_Plots (h_g__Plots.sat hM) hc_g__Plots) (by kernel_rfl) (by kernel_rfl) ?_
    generalize hr1 : slices_Equal_api_Plot_api_Plot f.Plots g_.Plots = r1
    refine TL.run 20 [] [(4, .bool r1)] rfl ⟨by kernel_rfl, by kernel_rfl⟩ ?_
    refine TL.next rfl ?_
    refine TC.ret ?_
    have e : skywaykeep2_sameFrame f g_ = r1 := by subst hr1; unfold skywaykeep2_sameFrame; exact cond_t h1 (rfl)
    exact TE.ret [] (.bool r1) ⟨by kernel_rfl, by kernel_rfl⟩ (by rw [e]; first | done | kernel_rfl)
  · refine TL.run 20 [] [(4, .bool false)] rfl ⟨by kernel_rfl, by kernel_rfl⟩ ?_
    refine TL.next rfl ?_
    refine TC.ret ?_
    have e : skywaykeep2_sameFrame f g_ = false := by unfold skywaykeep2_sameFrame; exact cond_f h1 (rfl)
    exact TE.ret [] (.bool false) ⟨by kernel_rfl, by kernel_rfl⟩ (by rw [e]; first | done | kernel_rfl)

def skywaykeep2_WireBack (f : WireFrame) (more : ByteArray) (cut : Int) : Bool :=
  let r1 := skywaykeep2_frames
  cond (!r1) (
    false) (
    let r2 := wire_Encode f
    cond (r2.2 != 0) (
      seq r2.1 (⟨#[]⟩)) (
      let r3 := wire_Decode (r2.1 ++ more)
      let r4 := skywaykeep2_within cut 0 (w64 ((r2.1.size : Int) - 1))
      let r5 := wire_Decode ((r2.1).extract 0 r4.toNat)
      cond ((r3.2.2 == 0) && (r3.2.1 == (r2.1.size : Int))) (
        let r6 := skywaykeep2_sameFrame f r3.1
        r6 && (r5.2.2 == 8)) (
        false)))

theorem back_ne {n : Nat} (h : 11 ≤ n ∧ n ≤ 600) : w64 ((w64 ((w64 ((n : Int) - 1)) - 0)) + 1) ≠ 0 := by
  rw [w64_id (x := (n : Int) - 1) (by omega), w64_id (x := (n : Int) - 1 - 0) (by omega), w64_id (by omega)]; omega
theorem back_in {a r : Int} {n : Nat} (h : skywaykeep2_within a 0 (w64 ((n : Int) - 1)) = r) (hz : 11 ≤ n ∧ n ≤ 600) : 0 ≤ r ∧ r < (n : Int) := by
  rw [w64_id (by omega)] at h
  have := within_in h (by omega) (by omega) (by omega)
  omega

set_option maxRecDepth 100000 in
theorem skywaykeep2_WireBack_w (f : WireFrame) (A_f_Plots : Option Addr) (c_f_Plots : Nat) (more : ByteArray) (cut : Int) (w : World) (h_f_Plots : Rd w 6 A_f_Plots (f.Plots.map Plot.c)) (hc_f_Plots : f.Plots.length ≤ c_f_Plots) (hm : more.size ≤ 140737488351232) : Calls Try.prog 8 #[.agg #[.int .i64 f.Radar, .int .i64 f.Time, .slice A_f_Plots f.Plots.length c_f_Plots], .string more, .int .i64 cut] w (Ret w (.bool (skywaykeep2_WireBack f more cut))) := by
  have s_f_Plots := h_f_Plots.short; rw [List.length_map] at s_f_Plots
  refine calls_intro (vs := [.agg #[.int .i64 f.Radar, .int .i64 f.Time, .slice A_f_Plots f.Plots.length c_f_Plots], .string more, .int .i64 cut]) (w := w) Try.func8 rfl Try.ntmps8 rfl ?_
  refine TC.weak [(0, .agg #[.int .i64 f.Radar, .int .i64 f.Time, .slice A_f_Plots f.Plots.length c_f_Plots]), (1, .string more), (2, .int .i64 cut)] (by kernel_rfl) ?_
  refine TC.seq ?_
  refine TC.region ?_
  refine TL.write 0 (fun b1 => [(1, .string more), (2, .int .i64 cut), (3, .pointer (some ⟨b1, 0, none⟩))]) (fun b1 => [.inl (b1, .cells #[.int .i64 f.Radar, .int .i64 f.Time, .slice A_f_Plots f.Plots.length c_f_Plots] 43 (0, 0))]) (fun b1 => ⟨by kernel_rfl, by kernel_rfl⟩) (fun b1 => ?_)
  refine TL.run 2 [] [(1, .string more), (2, .int .i64 cut), (3, .pointer (some ⟨b1, 0, none⟩))] rfl ⟨by kernel_rfl, by kernel_rfl⟩ ?_
  refine TL.next rfl ?_
  refine TC.seq ?_
  refine TC.seq ?_
  refine TC.region ?_
  refine TL.call (some 15) [(1, .string more), (2, .int .i64 cut), (3, .pointer (some ⟨b1, 0, none⟩)), (15, .bool ((skywaykeep2_frames)))] (fun w _ => skywaykeep2_frames_w w) (by kernel_rfl) (by kernel_rfl) ?_
  generalize hr1 : skywaykeep2_frames = r1
  refine TL.run 2 [] [(1, .string more), (2, .int .i64 cut), (3, .pointer (some ⟨b1, 0, none⟩)), (16, .bool (!r1))] rfl ⟨by kernel_rfl, by kernel_rfl⟩ ?_
  refine TL.next rfl ?_
  refine TC.cond (!r1) rfl (by kernel_rfl) (fun h1 => ?_) (fun h1 => ?_)
  · refine TC.seq ?_
    refine TC.region ?_
    refine TL.run 1 [] [(6, .bool false)] rfl ⟨by kernel_rfl, by kernel_rfl⟩ ?_
    refine TL.next rfl ?_
    refine TC.ret ?_
    refine TE.ret_then ?_
    have e : skywaykeep2_WireBack f more cut = false := by subst hr1; unfold skywaykeep2_WireBack; exact cond_t h1 (rfl)
    exact TE.ret [] (.bool false) ⟨by kernel_rfl, by kernel_rfl⟩ (by rw [e]; first | done | kernel_rfl)
  · refine TC.skip ?_
    refine TE.next ?_
    refine TC.seq ?_
    refine TC.region ?_
    refine TL.run 1 [0] [(1, .string more), (2, .int .i64 cut), (3, .pointer (some ⟨b1, 0, none⟩)), (18, .agg #[.int .i64 f.Radar, .int .i64 f.Time, .slice A_f_Plots f.Plots.length c_f_Plots])] rfl ⟨by kernel_rfl, by kernel_rfl⟩ ?_
    refine TL.call (some 19) [(1, .string more), (2, .int .i64 cut), (3, .pointer (some ⟨b1, 0, none⟩)), (19, .tuple #[.string ((wire_Encode f).1), .int .i64 ((wire_Encode f).2)])] (fun w hM => wire_Encode_w f A_f_Plots c_f_Plots w (h_f_Plots.sat hM) hc_f_Plots) (by kernel_rfl) (by kernel_rfl) ?_
    generalize hr2 : wire_Encode f = r2
    refine TL.run 7 [] [(1, .string more), (2, .int .i64 cut), (3, .pointer (some ⟨b1, 0, none⟩)), (7, .string r2.1), (8, .int .i64 r2.2)] rfl ⟨by kernel_rfl, by kernel_rfl⟩ ?_
    refine TL.next rfl ?_
    refine TC.seq ?_
    refine TC.seq ?_
    refine TC.region ?_
    refine TL.run 2 [] [(1, .string more), (2, .int .i64 cut), (3, .pointer (some ⟨b1, 0, none⟩)), (7, .string r2.1), (23, .bool (r2.2 != 0))] rfl ⟨by kernel_rfl, by kernel_rfl⟩ ?_
    refine TL.next rfl ?_
    refine TC.cond (r2.2 != 0) rfl (by kernel_rfl) (fun h2 => ?_) (fun h2 => ?_)
    · refine TC.seq ?_
      refine TC.region ?_
      refine TL.run 3 [] [(6, .bool (seq r2.1 (⟨#[]⟩)))] rfl ⟨by kernel_rfl, by kernel_rfl⟩ ?_
      refine TL.next rfl ?_
      refine TC.ret ?_
      refine TE.ret_then ?_
      have e : skywaykeep2_WireBack f more cut = (seq r2.1 (⟨#[]⟩)) := by subst hr1 hr2; unfold skywaykeep2_WireBack; exact cond_f h1 (cond_t h2 (rfl))
      exact TE.ret [] (.bool (seq r2.1 (⟨#[]⟩))) ⟨by kernel_rfl, by kernel_rfl⟩ (by rw [e]; first | done | kernel_rfl)
    · refine TC.skip ?_
      refine TE.next ?_
      refine TC.seq ?_
      refine TC.region ?_
      refine TL.run 2 [] [(2, .int .i64 cut), (3, .pointer (some ⟨b1, 0, none⟩)), (7, .string r2.1), (27, .string r2.1), (28, .string more)] rfl ⟨by kernel_rfl, by kernel_rfl⟩ ?_
      refine TL.val (sV (binOp .add 9 (.string r2.1) (.string more))) (some 29) (.string (r2.1 ++ more)) [(2, .int .i64 cut), (3, .pointer (some ⟨b1, 0, none⟩)), (7, .string r2.1), (29, .string (r2.1 ++ more))] (fun w hM => run_str_add (by have q0_ := (bne_f h2); (try have kz_ := enc_fit hr2 h2); (try have kw_ := back_in hr4 kz_); omega)) (by kernel_rfl) (by kernel_rfl) ?_
      refine TL.callN (Γ := (Option Addr × Nat)) (fun g => .tuple #[.agg #[.int .i64 (((wire_Decode (r2.1 ++ more)).1).Radar), .int .i64 (((wire_Decode (r2.1 ++ more)).1).Time), .slice g.1 ((((wire_Decode (r2.1 ++ more)).1).Plots).length) g.2], .int .i64 ((wire_Decode (r2.1 ++ more)).2.1), .int .i64 ((wire_Decode (r2.1 ++ more)).2.2)]) (fun g => [.inr (Own g.1 g.2 58 6 ((((wire_Decode (r2.1 ++ more)).1).Plots).map Plot.c))]) (fun g => [.inr (Own g.1 g.2 58 6 ((((wire_Decode (r2.1 ++ more)).1).Plots).map Plot.c)), .inl (b1, .cells #[.int .i64 f.Radar, .int .i64 f.Time, .slice A_f_Plots f.Plots.length c_f_Plots] 43 (0, 0))]) (fun g => rfl) (some 30) (fun g => [(2, .int .i64 cut), (3, .pointer (some ⟨b1, 0, none⟩)), (7, .string r2.1), (30, .tuple #[.agg #[.int .i64 (((wire_Decode (r2.1 ++ more)).1).Radar), .int .i64 (((wire_Decode (r2.1 ++ more)).1).Time), .slice g.1 ((((wire_Decode (r2.1 ++ more)).1).Plots).length) g.2], .int .i64 ((wire_Decode (r2.1 ++ more)).2.1), .int .i64 ((wire_Decode (r2.1 ++ more)).2.2)])]) (fun w _ => wire_Decode_w (r2.1 ++ more) w (by have q0_ := (bne_f h2); (try have kz_ := enc_fit hr2 h2); (try have kw_ := back_in hr4 kz_); first | (simp only [ByteArray.size_append]; omega) | (simp only [ByteArray.size_extract]; omega))) (by kernel_rfl) (fun g => by kernel_rfl) ?_
      rintro ⟨A, c⟩
      generalize hr3 : wire_Decode (r2.1 ++ more) = r3
      refine TL.know (fun w hM => hM.short_at 0 rfl) (fun s_r3_0 => ?_)
      refine TL.run 8 [] [(2, .int .i64 cut), (3, .pointer (some ⟨b1, 0, none⟩)), (7, .string r2.1), (31, .agg #[.int .i64 r3.1.Radar, .int .i64 r3.1.Time, .slice A r3.1.Plots.length c]), (32, .int .i64 r3.2.1), (33, .int .i64 r3.2.2)] rfl ⟨by kernel_rfl, by kernel_rfl⟩ ?_
      refine TL.write 0 (fun b2 => [(2, .int .i64 cut), (3, .pointer (some ⟨b1, 0, none⟩)), (7, .string r2.1), (9, .pointer (some ⟨b2, 0, none⟩)), (31, .agg #[.int .i64 r3.1.Radar, .int .i64 r3.1.Time, .slice A r3.1.Plots.length c]), (32, .int .i64 r3.2.1), (33, .int .i64 r3.2.2)]) (fun b2 => [.inl (b2, .cells #[.int .i64 0, .int .i64 0, .slice none 0 0] 43 (0, 0)), .inr (Own A c 58 6 (r3.1.Plots.map Plot.c)), .inl (b1, .cells #[.int .i64 f.Radar, .int .i64 f.Time, .slice A_f_Plots f.Plots.length c_f_Plots] 43 (0, 0))]) (fun b2 => ⟨by kernel_rfl, by kernel_rfl⟩) (fun b2 => ?_)
      refine TL.write 0 (fun _ => [(2, .int .i64 cut), (3, .pointer (some ⟨b1, 0, none⟩)), (7, .string r2.1), (9, .pointer (some ⟨b2, 0, none⟩)), (32, .int .i64 r3.2.1), (33, .int .i64 r3.2.2)]) (fun _ => [.inl (b2, .cells #[.int .i64 r3.1.Radar, .int .i64 r3.1.Time, .slice A r3.1.Plots.length c] 43 (0, 0)), .inr (Own A c 58 6 (r3.1.Plots.map Plot.c)), .inl (b1, .cells #[.int .i64 f.Radar, .int .i64 f.Time, .slice A_f_Plots f.Plots.length c_f_Plots] 43 (0, 0))]) (fun _ => ⟨by kernel_rfl, by kernel_rfl⟩) (fun _ => ?_)
      refine TL.run 12 [] [(2, .int .i64 cut), (3, .pointer (some ⟨b1, 0, none⟩)), (7, .string r2.1), (9, .pointer (some ⟨b2, 0, none⟩)), (10, .int .i64 r3.2.1), (11, .int .i64 r3.2.2)] rfl ⟨by kernel_rfl, by kernel_rfl⟩ ?_
      refine TL.next rfl ?_
      refine TC.seq ?_
      refine TC.region ?_
      refine TL.run 5 [] [(3, .pointer (some ⟨b1, 0, none⟩)), (7, .string r2.1), (9, .pointer (some ⟨b2, 0, none⟩)), (10, .int .i64 r3.2.1), (11, .int .i64 r3.2.2), (35, .string r2.1), (36, .int .i64 cut), (39, .int .i64 (w64 ((r2.1.size : Int) - 1)))] rfl ⟨by kernel_rfl, by kernel_rfl⟩ ?_
      refine TL.call (some 40) [(3, .pointer (some ⟨b1, 0, none⟩)), (7, .string r2.1), (9, .pointer (some ⟨b2, 0, none⟩)), (10, .int .i64 r3.2.1), (11, .int .i64 r3.2.2), (35, .string r2.1), (40, .int .i64 (skywaykeep2_within cut 0 (w64 ((r2.1.size : Int) - 1))))] (fun w _ => skywaykeep2_within_w cut 0 (w64 ((r2.1.size : Int) - 1)) w (back_ne (enc_fit hr2 h2))) (by kernel_rfl) (by kernel_rfl) ?_
      generalize hr4 : skywaykeep2_within cut 0 (w64 ((r2.1.size : Int) - 1)) = r4
      refine TL.val (sV (Instr.sliceAt 9 (.string r2.1) none (some (.int .i64 r4)) none)) (some 41) (.string ((r2.1).extract 0 r4.toNat)) [(3, .pointer (some ⟨b1, 0, none⟩)), (7, .string r2.1), (9, .pointer (some ⟨b2, 0, none⟩)), (10, .int .i64 r3.2.1), (11, .int .i64 r3.2.2), (41, .string ((r2.1).extract 0 r4.toNat))] (fun w hM => run_str_slice 0 r4.toNat (by kernel_rfl) (.inl ⟨rfl, rfl⟩) (.inr ⟨_, _, rfl, (by have q0_ := (bne_f h2); (try have kz_ := enc_fit hr2 h2); (try have kw_ := back_in hr4 kz_); first | omega | (simp only [ByteArray.size_extract, size_strOf]; omega) | (simp only [w64_eq]; omega)), rfl⟩) (by have q0_ := (bne_f h2); (try have kz_ := enc_fit hr2 h2); (try have kw_ := back_in hr4 kz_); first | omega | (simp only [ByteArray.size_extract, size_strOf]; omega) | (simp only [w64_eq]; omega)) (by have q0_ := (bne_f h2); (try have kz_ := enc_fit hr2 h2); (try have kw_ := back_in hr4 kz_); first | omega | (simp only [ByteArray.size_extract, size_strOf]; omega) | (simp only [w64_eq]; omega))) (by kernel_rfl) (by kernel_rfl) ?_
      refine TL.callN (Γ := (Option Addr × Nat)) (fun g => .tuple #[.agg #[.int .i64 (((wire_Decode ((r2.1).extract 0 r4.toNat)).1).Radar), .int .i64 (((wire_Decode ((r2.1).extract 0 r4.toNat)).1).Time), .slice g.1 ((((wire_Decode ((r2.1).extract 0 r4.toNat)).1).Plots).length) g.2], .int .i64 ((wire_Decode ((r2.1).extract 0 r4.toNat)).2.1), .int .i64 ((wire_Decode ((r2.1).extract 0 r4.toNat)).2.2)]) (fun g => [.inr (Own g.1 g.2 58 6 ((((wire_Decode ((r2.1).extract 0 r4.toNat)).1).Plots).map Plot.c))]) (fun g => [.inr (Own g.1 g.2 58 6 ((((wire_Decode ((r2.1).extract 0 r4.toNat)).1).Plots).map Plot.c)), .inl (b2, .cells #[.int .i64 r3.1.Radar, .int .i64 r3.1.Time, .slice A r3.1.Plots.length c] 43 (0, 0)), .inr (Own A c 58 6 (r3.1.Plots.map Plot.c)), .inl (b1, .cells #[.int .i64 f.Radar, .int .i64 f.Time, .slice A_f_Plots f.Plots.length c_f_Plots] 43 (0, 0))]) (fun g => rfl) (some 42) (fun g => [(3, .pointer (some ⟨b1, 0, none⟩)), (7, .string r2.1), (9, .pointer (some ⟨b2, 0, none⟩)), (10, .int .i64 r3.2.1), (11, .int .i64 r3.2.2), (42, .tuple #[.agg #[.int .i64 (((wire_Decode ((r2.1).extract 0 r4.toNat)).1).Radar), .int .i64 (((wire_Decode ((r2.1).extract 0 r4.toNat)).1).Time), .slice g.1 ((((wire_Decode ((r2.1).extract 0 r4.toNat)).1).Plots).length) g.2], .int .i64 ((wire_Decode ((r2.1).extract 0 r4.toNat)).2.1), .int .i64 ((wire_Decode ((r2.1).extract 0 r4.toNat)).2.2)])]) (fun w _ => wire_Decode_w ((r2.1).extract 0 r4.toNat) w (by have q0_ := (bne_f h2); (try have kz_ := enc_fit hr2 h2); (try have kw_ := back_in hr4 kz_); first | (simp only [ByteArray.size_append]; omega) | (simp only [ByteArray.size_extract]; omega))) (by kernel_rfl) (fun g => by kernel_rfl) ?_
      rintro ⟨A_2, c_2⟩
      generalize hr5 : wire_Decode ((r2.1).extract 0 r4.toNat) = r5
      refine TL.know (fun w hM => hM.short_at 0 rfl) (fun s_r5_0 => ?_)
      refine TL.run 12 [] [(3, .pointer (some ⟨b1, 0, none⟩)), (7, .string r2.1), (9, .pointer (some ⟨b2, 0, none⟩)), (10, .int .i64 r3.2.1), (11, .int .i64 r3.2.2), (43, .agg #[.int .i64 r5.1.Radar, .int .i64 r5.1.Time, .slice A_2 r5.1.Plots.length c_2]), (44, .int .i64 r5.2.1), (45, .int .i64 r5.2.2)] rfl ⟨by kernel_rfl, by kernel_rfl⟩ ?_
      refine TL.write 0 (fun b3 => [(3, .pointer (some ⟨b1, 0, none⟩)), (7, .string r2.1), (9, .pointer (some ⟨b2, 0, none⟩)), (10, .int .i64 r3.2.1), (11, .int .i64 r3.2.2), (12, .pointer (some ⟨b3, 0, none⟩)), (43, .agg #[.int .i64 r5.1.Radar, .int .i64 r5.1.Time, .slice A_2 r5.1.Plots.length c_2]), (44, .int .i64 r5.2.1), (45, .int .i64 r5.2.2)]) (fun b3 => [.inl (b3, .cells #[.int .i64 0, .int .i64 0, .slice none 0 0] 43 (0, 0)), .inr (Own A_2 c_2 58 6 (r5.1.Plots.map Plot.c)), .inl (b2, .cells #[.int .i64 r3.1.Radar, .int .i64 r3.1.Time, .slice A r3.1.Plots.length c] 43 (0, 0)), .inr (Own A c 58 6 (r3.1.Plots.map Plot.c)), .inl (b1, .cells #[.int .i64 f.Radar, .int .i64 f.Time, .slice A_f_Plots f.Plots.length c_f_Plots] 43 (0, 0))]) (fun b3 => ⟨by kernel_rfl, by kernel_rfl⟩) (fun b3 => ?_)
      refine TL.write 0 (fun _ => [(3, .pointer (some ⟨b1, 0, none⟩)), (7, .string r2.1), (9, .pointer (some ⟨b2, 0, none⟩)), (10, .int .i64 r3.2.1), (11, .int .i64 r3.2.2), (44, .int .i64 r5.2.1), (45, .int .i64 r5.2.2)]) (fun _ => [.inl (b3, .cells #[.int .i64 r5.1.Radar, .int .i64 r5.1.Time, .slice A_2 r5.1.Plots.length c_2] 43 (0, 0)), .inr (Own A_2 c_2 58 6 (r5.1.Plots.map Plot.c)), .inl (b2, .cells #[.int .i64 r3.1.Radar, .int .i64 r3.1.Time, .slice A r3.1.Plots.length c] 43 (0, 0)), .inr (Own A c 58 6 (r3.1.Plots.map Plot.c)), .inl (b1, .cells #[.int .i64 f.Radar, .int .i64 f.Time, .slice A_f_Plots f.Plots.length c_f_Plots] 43 (0, 0))]) (fun _ => ⟨by kernel_rfl, by kernel_rfl⟩) (fun _ => ?_)
      refine TL.run 16 [] [(3, .pointer (some ⟨b1, 0, none⟩)), (7, .string r2.1), (9, .pointer (some ⟨b2, 0, none⟩)), (10, .int .i64 r3.2.1), (11, .int .i64 r3.2.2), (14, .int .i64 r5.2.2)] rfl ⟨by kernel_rfl, by kernel_rfl⟩ ?_
      refine TL.next rfl ?_
      refine TC.seq ?_
      refine TC.region ?_
      refine TL.run 3 [] [(3, .pointer (some ⟨b1, 0, none⟩)), (7, .string r2.1), (9, .pointer (some ⟨b2, 0, none⟩)), (10, .int .i64 r3.2.1), (14, .int .i64 r5.2.2), (48, .bool (r3.2.2 == 0))] rfl ⟨by kernel_rfl, by kernel_rfl⟩ ?_
      refine TL.join 48 (r3.2.2 == 0) 8 [] [] (fun β => [(3, .pointer (some ⟨b1, 0, none⟩)), (9, .pointer (some ⟨b2, 0, none⟩)), (14, .int .i64 r5.2.2), (53, .bool (β && (r3.2.1 == (r2.1.size : Int))))]) (by kernel_rfl) rfl ⟨by kernel_rfl, by kernel_rfl⟩ ⟨by kernel_rfl, by kernel_rfl⟩ ?_
      refine TL.run 9 [] [(3, .pointer (some ⟨b1, 0, none⟩)), (9, .pointer (some ⟨b2, 0, none⟩)), (14, .int .i64 r5.2.2), (54, .bool ((r3.2.2 == 0) && (r3.2.1 == (r2.1.size : Int))))] rfl ⟨by kernel_rfl, by kernel_rfl⟩ ?_
      refine TL.split 54 ((r3.2.2 == 0) && (r3.2.1 == (r2.1.size : Int))) (by kernel_rfl) (fun h3 => ?_) (fun h3 => ?_)
      · refine TL.run 11 [4, 2] [(14, .int .i64 r5.2.2), (54, .bool true), (55, .agg #[.int .i64 f.Radar, .int .i64 f.Time, .slice A_f_Plots f.Plots.length c_f_Plots]), (56, .agg #[.int .i64 r3.1.Radar, .int .i64 r3.1.Time, .slice A r3.1.Plots.length c])] rfl ⟨by kernel_rfl, by kernel_rfl⟩ ?_
        refine TL.call (some 57) [(14, .int .i64 r5.2.2), (54, .bool true), (57, .bool ((skywaykeep2_sameFrame f r3.1)))] (fun w hM => skywaykeep2_sameFrame_w f A_f_Plots c_f_Plots r3.1 A c w (h_f_Plots.sat hM) hc_f_Plots (hM.rd_at 3 rfl) (hM.le_at 3 rfl)) (by kernel_rfl) (by kernel_rfl) ?_
        generalize hr6 : skywaykeep2_sameFrame f r3.1 = r6
        refine TL.run 14 [] [(14, .int .i64 r5.2.2), (59, .bool r6)] rfl ⟨by kernel_rfl, by kernel_rfl⟩ ?_
        refine TL.join 59 r6 17 [] [] (fun β => [(62, .bool (β && (r5.2.2 == 8)))]) (by kernel_rfl) rfl ⟨by kernel_rfl, by kernel_rfl⟩ ⟨by kernel_rfl, by kernel_rfl⟩ ?_
        refine TL.run 18 [] [(6, .bool (r6 && (r5.2.2 == 8)))] rfl ⟨by kernel_rfl, by kernel_rfl⟩ ?_
        refine TL.next rfl ?_
        refine TC.ret ?_
        have e : skywaykeep2_WireBack f more cut = (r6 && (r5.2.2 == 8)) := by subst hr1 hr2 hr3 hr4 hr5 hr6; unfold skywaykeep2_WireBack; exact cond_f h1 (cond_f h2 (cond_t h3 (rfl)))
        exact TE.ret [] (.bool (r6 && (r5.2.2 == 8))) ⟨by kernel_rfl, by kernel_rfl⟩ (by rw [e]; first | done | kernel_rfl)
      · refine TL.run 18 [] [(6, .bool false)] rfl ⟨by kernel_rfl, by kernel_rfl⟩ ?_
        refine TL.next rfl ?_
        refine TC.ret ?_
        have e : skywaykeep2_WireBack f more cut = false := by subst hr1 hr2 hr3 hr4 hr5; unfold skywaykeep2_WireBack; exact cond_f h1 (cond_f h2 (cond_f h3 (rfl)))
        exact TE.ret [] (.bool false) ⟨by kernel_rfl, by kernel_rfl⟩ (by rw [e]; first | done | kernel_rfl)

end Go.Sky
