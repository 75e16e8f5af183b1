/- Functions of the program, each with the Lean function that it computes. Conditions: none. -/
import Derived.Test.YtehhgjhileappaaRows
import Derived.Test.YtehhgjhileappaaEqb
import Derived.Test.YtehhgjhileappaaThick
import Derived.Test.YtehhgjhileappaaFct
import Derived.Test.YtehhgjhileappaaDelta
namespace Go.Sky
open Go Go.Eng Go.Proofs
def assign_Check_L2 : List Int → Nat → ((Unit) ⊕ (Int))
  | [], _ => .inl ()
  | x_2 :: xs, k_2 => cond ((decide (x_2 < (-1))) || (decide (x_2 > 1099511627776))) (
      .inr 4) (
      assign_Check_L2 xs (k_2 + 1))
def assign_Check_L1 (costs : List (List Int)) : List (List Int) → Nat → ((Unit) ⊕ (Int))
  | [], _ => .inl ()
  | x :: xs, k => cond (decide ((x.length : Int) > 32)) (
      .inr 2) (
      cond ((x.length : Int) != ((costs[0]?.getD []).length : Int)) (
        .inr 3) (
        Sum.elim (fun _ =>
          assign_Check_L1 costs xs (k + 1)) (fun r => .inr r) (assign_Check_L2 x 0)))
def assign_Check (costs : List (List Int)) (miss : Int) : Int :=
  cond (decide ((costs.length : Int) > 32)) (
    2) (
    Sum.elim (fun _ =>
      cond ((decide (miss < 0)) || (decide (miss > 1099511627776))) (
        4) (
        0)) (fun r => r) (assign_Check_L1 costs costs 0))

set_option maxRecDepth 100000 in
theorem assign_Check_w (A_costs : Option Addr) (c_costs : Nat) (costs : List (List Int)) (o_costs : List (Sl Int)) (miss : Int) (w : World) (h_costs : Rd w 1 A_costs (o_costs.map Sl.c)) (_hc_costs : costs.length ≤ c_costs) (hd_costs : ∀ s ∈ o_costs, s.rd w 1 ic) (he_costs : costs = o_costs.map Sl.l) : Calls Try.prog 73 #[.slice A_costs costs.length c_costs, .int .i64 miss] w (Ret w (.int .i64 (assign_Check costs miss))) := by
  have s_costs := h_costs.short; rw [← sl_len he_costs] at s_costs
  refine calls_intro (vs := [.slice A_costs costs.length c_costs, .i miss]) (w := w) Try.func73 rfl Try.ntmps73 rfl (TC.weak [(0, .slice A_costs costs.length c_costs), (1, .i miss)] Kr (TC.seq (TC.region (TL.r 1 [] [(4, .i 0)] {} (TL.next rfl (TC.seq (TC.seq (TC.region (TL.r 3 [] [(11, .b (decide ((costs.length : Int) > 32)))] {} (TL.next rfl (TC.cond (decide ((costs.length : Int) > 32)) rfl Kr (fun h1 => ?_) (fun h1 => ?_))))))))))))
  · refine TC.seq (TC.region (TL.r 1 [] [(4, .i 2)] {} (TL.next rfl (TC.ret (TE.ret_then ?_)))))
    have e : assign_Check costs miss = 2 := by unfold assign_Check; exact cond_t h1 (rfl)
    exact TE.ret [] (.i 2) {} (by rw [e]; first | done | kernel_rfl)
  · refine TC.skip (TE.next (TC.seq (TC.seq (TC.region (TL.r 3 [] [(12, .slice A_costs costs.length c_costs), (13, .i (costs.length : Int)), (14, .i 0)] {} (TL.next rfl (TC.weak [(0, .slice A_costs costs.length c_costs), (1, .i miss), (12, .slice A_costs costs.length c_costs), (13, .i (costs.length : Int)), (14, .i 0)] Kr ?_)))))))
    obtain ⟨R1, hR⟩ : ∃ R, R = assign_Check_L1 costs costs 0 := ⟨_, rfl⟩
    refine TC.cut (S := Unit) (fun (_ : Unit) => [(1, .i miss)]) (fun (_ : Unit) => []) (fun (_ : Unit) => R1 = .inl ()) ?_ ?_
    · refine TC.block (TC.loop (X := Nat) (fun k => [(0, .slice A_costs costs.length c_costs), (1, .i miss), (12, .slice A_costs costs.length c_costs), (13, .i (costs.length : Int)), (14, .i (k : Int))]) (fun k => []) (fun k => costs.length - k) (fun k => k ≤ costs.length ∧ R1 = assign_Check_L1 costs (costs.drop k) k) ?_ 0 ⟨Nat.zero_le _, hR⟩)
      rintro k ⟨hk, hI⟩
      refine TC.seq (TC.region (TL.r 1 [] [(15, .b (decide ((k : Int) < (costs.length : Int))))] {} (TL.next rfl (TC.seq (TC.cond (decide ((k : Int) < (costs.length : Int))) rfl Kr (fun h2 => ?_) (fun h2 => ?_))))))
      · have hlt : k < costs.length := by have := of_decide_eq_true h2; first | omega | (simp at this; omega)
        obtain ⟨x, hx⟩ : ∃ e_, costs[k]? = some e_ := ⟨_, List.getElem?_eq_getElem hlt⟩
        have hd := drop_at hx
        refine TC.skip (TE.next (TC.seq (TC.block (TC.seq (TC.region (TL.v (sV (Instr.indexAt 71 (.slice A_costs costs.length c_costs) (.i (k : Int)))) 16 (.pointer (some (Ix A_costs (k * 1)))) (fun w hM => run_index (h_costs.sat hM) (sl_len he_costs) Kr (by have q0_ := (dec_f h1); exact sd) (by have q0_ := (dec_f h1); exact sd)) {} ?_))))))
        have s_s1 := (el_rd (sl_all hd_costs k) (sl_at he_costs hx)).short; rw [List.length_map] at s_s1
        refine TL.v (sV (Instr.loadAt 74 (.pointer (some (Ix A_costs (k * 1)))))) 17 (.slice ((o_costs[k]?.getD Sl.zero).A) x.length ((o_costs[k]?.getD Sl.zero).cap)) (fun w hM => (by have h := run_load_one (P := Try.prog) (T := 74) (off := 0) (i := k) (.slice (o_costs[k]?.getD Sl.zero).A (o_costs[k]?.getD Sl.zero).l.length (o_costs[k]?.getD Sl.zero).cap) (h_costs.sat hM) (map_at (getD_at _ _ Sl.zero (sl_lt he_costs (List.getElem?_eq_some_iff.1 hx).1))) Kr Kr; rw [(sl_at he_costs hx)] at h; exact h)) {} ?_
        refine TL.r 3 [] [(6, .slice ((o_costs[k]?.getD Sl.zero).A) x.length ((o_costs[k]?.getD Sl.zero).cap))] {} (TL.next rfl (TC.seq (TC.block (TC.seq (TC.region (TL.r 4 [] [(18, .b (decide ((x.length : Int) > 32)))] {} (TL.next rfl (TC.cond (decide ((x.length : Int) > 32)) rfl Kr (fun h3 => ?_) (fun h3 => ?_)))))))))
        · refine TC.seq (TC.region (TL.r 1 [] [(4, .i 2)] {} (TL.next rfl (TC.ret (TE.ret_block (TE.ret_then (TE.ret_block (TE.ret_then (TE.ret_then (TE.ret_block (TE.ret_then (TE.ret_then ?_))))))))))))
          have e : assign_Check costs miss = 2 := by unfold assign_Check; exact cond_f h1 (elim_r (hR.symm.trans (hI.trans (by rw [hd]; exact cond_t h3 (rfl)))) rfl)
          exact TE.ret [] (.i 2) {} (by rw [e]; first | done | kernel_rfl)
        · refine TC.seq (TC.region (TL.r 3 [] [(24, .i (x.length : Int)), (25, .slice A_costs costs.length c_costs)] {} (TL.v (sV (Instr.indexAt 71 (.slice A_costs costs.length c_costs) (.i 0))) 26 (.pointer (some (Ix A_costs (0 * 1)))) (fun w hM => run_index (h_costs.sat hM) (sl_len he_costs) Kr (by have q0_ := (dec_f h1); have q1_ := (dec_f h3); exact sd) (by have q0_ := (dec_f h1); have q1_ := (dec_f h3); exact sd)) {} ?_)))
          have s_s2 := (el_rd (sl_all hd_costs 0) (sl_get he_costs 0)).short; rw [List.length_map] at s_s2
          refine TL.v (sV (Instr.loadAt 74 (.pointer (some (Ix A_costs (0 * 1)))))) 27 (.slice ((o_costs[0]?.getD Sl.zero).A) ((costs[0]?.getD []).length) ((o_costs[0]?.getD Sl.zero).cap)) (fun w hM => (by have h := run_load_one (P := Try.prog) (T := 74) (off := 0) (i := 0) (.slice (o_costs[0]?.getD Sl.zero).A (o_costs[0]?.getD Sl.zero).l.length (o_costs[0]?.getD Sl.zero).cap) (h_costs.sat hM) (map_at (getD_at _ _ Sl.zero (sl_lt he_costs (by have q0_ := (dec_f h1); have q1_ := (dec_f h3); exact sd)))) Kr Kr; rw [(sl_get he_costs 0)] at h; exact h)) {} (TL.r 8 [] [(22, .b ((x.length : Int) != ((costs[0]?.getD []).length : Int)))] {} (TL.next rfl (TC.cond ((x.length : Int) != ((costs[0]?.getD []).length : Int)) rfl Kr (fun h4 => ?_) (fun h4 => ?_))))
          · refine TC.seq (TC.region (TL.r 1 [] [(4, .i 3)] {} (TL.next rfl (TC.ret (TE.ret_block (TE.ret_then (TE.ret_block (TE.ret_then (TE.ret_then (TE.ret_block (TE.ret_then (TE.ret_then ?_))))))))))))
            have e : assign_Check costs miss = 3 := by unfold assign_Check; exact cond_f h1 (elim_r (hR.symm.trans (hI.trans (by rw [hd]; exact cond_f h3 (cond_t h4 (rfl))))) rfl)
            exact TE.ret [] (.i 3) {} (by rw [e]; first | done | kernel_rfl)
          · refine TC.skip (TE.normal_block (TE.next (TC.seq (TC.region (TL.r 3 [] [(30, .slice ((o_costs[k]?.getD Sl.zero).A) x.length ((o_costs[k]?.getD Sl.zero).cap)), (31, .i (x.length : Int)), (32, .i 0)] {} (TL.next rfl (TC.weak [(0, .slice A_costs costs.length c_costs), (1, .i miss), (12, .slice A_costs costs.length c_costs), (13, .i (costs.length : Int)), (14, .i (k : Int)), (30, .slice ((o_costs[k]?.getD Sl.zero).A) x.length ((o_costs[k]?.getD Sl.zero).cap)), (31, .i (x.length : Int)), (32, .i 0)] Kr ?_)))))))
            obtain ⟨R2, hR_2⟩ : ∃ R, R = assign_Check_L2 x 0 := ⟨_, rfl⟩
            refine TC.cut (S := Unit) (fun (_ : Unit) => [(0, .slice A_costs costs.length c_costs), (1, .i miss), (12, .slice A_costs costs.length c_costs), (13, .i (costs.length : Int)), (14, .i (k : Int))]) (fun (_ : Unit) => []) (fun (_ : Unit) => R2 = .inl ()) ?_ ?_
            · refine TC.block (TC.loop (X := Nat) (fun k_2 => [(0, .slice A_costs costs.length c_costs), (1, .i miss), (12, .slice A_costs costs.length c_costs), (13, .i (costs.length : Int)), (14, .i (k : Int)), (30, .slice ((o_costs[k]?.getD Sl.zero).A) x.length ((o_costs[k]?.getD Sl.zero).cap)), (31, .i (x.length : Int)), (32, .i (k_2 : Int))]) (fun k_2 => []) (fun k_2 => x.length - k_2) (fun k_2 => k_2 ≤ x.length ∧ R2 = assign_Check_L2 (x.drop k_2) k_2) ?_ 0 ⟨Nat.zero_le _, hR_2⟩)
              rintro k_2 ⟨hk_2, hI_2⟩
              refine TC.seq (TC.region (TL.r 1 [] [(33, .b (decide ((k_2 : Int) < (x.length : Int))))] {} (TL.next rfl (TC.seq (TC.cond (decide ((k_2 : Int) < (x.length : Int))) rfl Kr (fun h5 => ?_) (fun h5 => ?_))))))
              · have hlt_2 : k_2 < x.length := by have := of_decide_eq_true h5; first | omega | (simp at this; omega)
                obtain ⟨x_2, hx_2⟩ : ∃ e_, x[k_2]? = some e_ := ⟨_, List.getElem?_eq_getElem hlt_2⟩
                have hd_2 := drop_at hx_2
                refine TC.skip (TE.next (TC.seq (TC.block (TC.seq (TC.region (TL.v (sV (Instr.indexAt 74 (.slice ((o_costs[k]?.getD Sl.zero).A) x.length ((o_costs[k]?.getD Sl.zero).cap)) (.i (k_2 : Int)))) 34 (.pointer (some ((((o_costs[k]?.getD Sl.zero).A).getD noAddr).add (k_2 * 1)))) (fun w hM => run_index (el_rd ((sl_all hd_costs k).sat hM) (sl_at he_costs hx)) (by simp) Kr (by have q0_ := (dec_f h1); have q1_ := (dec_f h3); have q2_ := (bne_f h4); exact sd) (by have q0_ := (dec_f h1); have q1_ := (dec_f h3); have q2_ := (bne_f h4); exact sd)) {} (TL.v (sV (Instr.loadAt 3 (.pointer (some ((((o_costs[k]?.getD Sl.zero).A).getD noAddr).add (k_2 * 1)))))) 35 (.i x_2) (fun w hM => run_load_one (off := 0) (i := k_2) (.i x_2) (el_rd ((sl_all hd_costs k).sat hM) (sl_at he_costs hx)) (map_at hx_2) Kr Kr) {} (TL.r 3 [] [(8, .i x_2)] {} (TL.next rfl (TC.seq (TC.region (TL.r 3 [] [(38, .b (decide (x_2 < (-1))))] {} (TL.j 38 (decide (x_2 < (-1))) 6 [] [] (fun β => [(41, .b (β || (decide (x_2 > 1099511627776))))]) Kr {} {} (TL.next rfl (TC.cond ((decide (x_2 < (-1))) || (decide (x_2 > 1099511627776))) rfl Kr (fun h6 => ?_) (fun h6 => ?_))))))))))))))))
                · refine TC.seq (TC.region (TL.r 1 [] [(4, .i 4)] {} (TL.next rfl (TC.ret (TE.ret_block (TE.ret_then (TE.ret_then (TE.ret_block (TE.ret_then (TE.ret_block (TE.ret_then (TE.ret_then (TE.ret_block (TE.ret_then (TE.ret_then ?_)))))))))))))))
                  have e : assign_Check costs miss = 4 := by unfold assign_Check; exact cond_f h1 (elim_r (hR.symm.trans (hI.trans (by rw [hd]; exact cond_f h3 (cond_f h4 (elim_r (hR_2.symm.trans (hI_2.trans (by rw [hd_2]; exact cond_t h6 (rfl)))) rfl))))) rfl)
                  exact TE.ret [] (.i 4) {} (by rw [e]; first | done | kernel_rfl)
                · exact TC.skip (TE.normal_block (TE.next (TC.region (TL.r 2 [] [(32, .i (w64 ((k_2 : Int) + 1)))] {} (TL.done rfl (TE.rw 32 (.i (w64 ((k_2 : Int) + 1))) (.i ((k_2 + 1 : Nat) : Int)) Kr (w64_cast k_2 (by omega)) (TE.again (x := k_2) (k_2 + 1) ⟨by omega, hI_2.trans (by rw [hd_2]; exact cond_f h6 (rfl))⟩ (by show x.length - (k_2 + 1) < x.length - k_2; omega) Kr (.slnil))))))))
              · have hd_2 : x.drop k_2 = [] := List.drop_eq_nil_of_le (by have := of_decide_eq_false h5; first | omega | (simp at this; omega))
                refine TC.exit (TE.exit_then (TE.exit_then (TE.exit_same ?_)))
                exact TE.cut () (hI_2.trans (by rw [hd_2]; exact rfl)) Kr (.slnil)
            · intro _ hJ_2
              exact TE.normal_block (TE.next (TC.region (TL.r 2 [] [(14, .i (w64 ((k : Int) + 1)))] {} (TL.done rfl (TE.rw 14 (.i (w64 ((k : Int) + 1))) (.i ((k + 1 : Nat) : Int)) Kr (w64_cast k (by omega)) (TE.again (x := k) (k + 1) ⟨by omega, hI.trans (by rw [hd]; exact cond_f h3 (cond_f h4 (elim_l (hR_2.symm.trans hJ_2) (rfl))))⟩ (by show costs.length - (k + 1) < costs.length - k; omega) Kr (.slnil)))))))
      · have hd : costs.drop k = [] := List.drop_eq_nil_of_le (by have := of_decide_eq_false h2; first | omega | (simp at this; omega))
        refine TC.exit (TE.exit_then (TE.exit_then (TE.exit_same ?_)))
        exact TE.cut () (hI.trans (by rw [hd]; exact rfl)) Kr (.slnil)
    · intro _ hJ
      refine TE.next (TC.seq (TC.seq (TC.region (TL.r 3 [] [(46, .b (decide (miss < 0)))] {} (TL.j 46 (decide (miss < 0)) 6 [] [] (fun β => [(49, .b (β || (decide (miss > 1099511627776))))]) Kr {} {} (TL.next rfl (TC.cond ((decide (miss < 0)) || (decide (miss > 1099511627776))) rfl Kr (fun h7 => ?_) (fun h7 => ?_))))))))
      · refine TC.seq (TC.region (TL.r 1 [] [(4, .i 4)] {} (TL.next rfl (TC.ret (TE.ret_then ?_)))))
        have e : assign_Check costs miss = 4 := by unfold assign_Check; exact cond_f h1 (elim_l (hR.symm.trans hJ) (cond_t h7 (rfl)))
        exact TE.ret [] (.i 4) {} (by rw [e]; first | done | kernel_rfl)
      · refine TC.skip (TE.next (TC.seq (TC.region (TL.r 1 [] [(4, .i 0)] {} (TL.next rfl (TC.ret ?_))))))
        have e : assign_Check costs miss = 0 := by unfold assign_Check; exact cond_f h1 (elim_l (hR.symm.trans hJ) (cond_f h7 (rfl)))
        exact TE.ret [] (.i 0) {} (by rw [e]; first | done | kernel_rfl)

def assign_width (costs : List (List Int)) : Int :=
  cond ((costs.length : Int) == 0) (
    0) (
    ((costs[0]?.getD []).length : Int))

set_option maxRecDepth 100000 in
theorem assign_width_w (A_costs : Option Addr) (c_costs : Nat) (costs : List (List Int)) (o_costs : List (Sl Int)) (w : World) (h_costs : Rd w 1 A_costs (o_costs.map Sl.c)) (_hc_costs : costs.length ≤ c_costs) (hd_costs : ∀ s ∈ o_costs, s.rd w 1 ic) (he_costs : costs = o_costs.map Sl.l) : Calls Try.prog 50 #[.slice A_costs costs.length c_costs] w (Ret w (.int .i64 (assign_width costs))) := by
  have s_costs := h_costs.short; rw [← sl_len he_costs] at s_costs
  refine calls_intro (vs := [.slice A_costs costs.length c_costs]) (w := w) Try.func50 rfl Try.ntmps50 rfl (TC.weak [(0, .slice A_costs costs.length c_costs)] Kr (TC.seq (TC.region (TL.r 1 [] [(2, .i 0)] {} (TL.next rfl (TC.seq (TC.seq (TC.region (TL.r 3 [] [(5, .b ((costs.length : Int) == 0))] {} (TL.next rfl (TC.cond ((costs.length : Int) == 0) rfl Kr (fun h1 => ?_) (fun h1 => ?_))))))))))))
  · refine TC.seq (TC.region (TL.r 1 [] [(2, .i 0)] {} (TL.next rfl (TC.ret (TE.ret_then ?_)))))
    have e : assign_width costs = 0 := by unfold assign_width; exact cond_t h1 (rfl)
    exact TE.ret [] (.i 0) {} (by rw [e]; first | done | kernel_rfl)
  · refine TC.skip (TE.next (TC.seq (TC.region (TL.r 1 [] [(6, .slice A_costs costs.length c_costs)] {} (TL.v (sV (Instr.indexAt 71 (.slice A_costs costs.length c_costs) (.i 0))) 7 (.pointer (some (Ix A_costs (0 * 1)))) (fun w hM => run_index (h_costs.sat hM) (sl_len he_costs) Kr (by have q0_ := (beq_f h1); exact sd) (by have q0_ := (beq_f h1); exact sd)) {} ?_)))))
    have s_s1 := (el_rd (sl_all hd_costs 0) (sl_get he_costs 0)).short; rw [List.length_map] at s_s1
    refine TL.v (sV (Instr.loadAt 74 (.pointer (some (Ix A_costs (0 * 1)))))) 8 (.slice ((o_costs[0]?.getD Sl.zero).A) ((costs[0]?.getD []).length) ((o_costs[0]?.getD Sl.zero).cap)) (fun w hM => (by have h := run_load_one (P := Try.prog) (T := 74) (off := 0) (i := 0) (.slice (o_costs[0]?.getD Sl.zero).A (o_costs[0]?.getD Sl.zero).l.length (o_costs[0]?.getD Sl.zero).cap) (h_costs.sat hM) (map_at (getD_at _ _ Sl.zero (sl_lt he_costs (by have q0_ := (beq_f h1); exact sd)))) Kr Kr; rw [(sl_get he_costs 0)] at h; exact h)) {} (TL.r 5 [] [(2, .i ((costs[0]?.getD []).length : Int))] {} (TL.next rfl (TC.ret ?_)))
    have e : assign_width costs = ((costs[0]?.getD []).length : Int) := by unfold assign_width; exact cond_f h1 (rfl)
    exact TE.ret [] (.i ((costs[0]?.getD []).length : Int)) {} (by rw [e]; first | done | kernel_rfl)

def assign_least_1 (i : Int) (k : Int) (x : Int) (x_2 : Int) (x_3 : List Bool) (x_4 : List (List Int)) : Int :=
  cond (decide (k ≥ x)) (
    cond ((w64 (k - x)) == i) (
      x_2) (
      36028797018963968)) (
    cond ((x_3[k.toNat]?.getD false)) (
      36028797018963968) (
      cond (decide (((x_4[i.toNat]?.getD [])[k.toNat]?.getD 0) < 0)) (
        36028797018963968) (
        ((x_4[i.toNat]?.getD [])[k.toNat]?.getD 0))))

theorem row_len {rows : List (List Int)} {c : Int} (h : ∀ r ∈ rows, (r.length : Int) = c) {i : Nat} (hi : i < rows.length) : ((rows[i]?.getD []).length : Int) = c := by
  rw [List.getElem?_eq_getElem hi]; exact h _ (List.getElem_mem hi)

set_option maxRecDepth 100000 in
theorem assign_least_1_w (i : Int) (k : Int) (a_x : Addr) (x : Int) (a_x_2 : Addr) (x_2 : Int) (a_x_3 : Addr) (A_x_3 : Option Addr) (c_x_3 : Nat) (x_3 : List Bool) (a_x_4 : Addr) (A_x_4 : Option Addr) (c_x_4 : Nat) (x_4 : List (List Int)) (o_x_4 : List (Sl Int)) (w : World) (h_x : Rd w 1 (some a_x) [ic x]) (h_x_2 : Rd w 1 (some a_x_2) [ic x_2]) (h_x_3 : Rd w 1 (some a_x_3) [Sl.c (⟨A_x_3, c_x_3, x_3⟩ : Sl Bool)]) (hd_x_3 : (⟨A_x_3, c_x_3, x_3⟩ : Sl Bool).rd w 1 bc) (h_x_4 : Rd w 1 (some a_x_4) [#[.slice A_x_4 x_4.length c_x_4]]) (hr_x_4 : Rd w 1 A_x_4 (o_x_4.map Sl.c)) (_hl_x_4 : x_4.length ≤ c_x_4) (hp_x_4 : ∀ s ∈ o_x_4, s.rd w 1 ic) (he_x_4 : x_4 = o_x_4.map Sl.l) (hp : (0 ≤ i ∧ i < (x_4.length : Int)) ∧ (0 ≤ k ∧ k < 4611686018427387904) ∧ (0 ≤ x ∧ x < 4611686018427387904) ∧ (x_3.length : Int) = x ∧ ∀ r ∈ x_4, (r.length : Int) = x) : Calls Try.prog 74 #[.int .i64 i, .int .i64 k, .pointer (some a_x), .pointer (some a_x_2), .pointer (some a_x_3), .pointer (some a_x_4)] w (Ret w (.int .i64 (assign_least_1 i k x x_2 x_3 x_4))) := by
  refine calls_intro (vs := [.i i, .i k, .pointer (some a_x), .pointer (some a_x_2), .pointer (some a_x_3), .pointer (some a_x_4)]) (w := w) Try.func74 rfl Try.ntmps74 rfl (TC.weak [(0, .i i), (1, .i k), (2, .pointer (some a_x)), (3, .pointer (some a_x_2)), (4, .pointer (some a_x_3)), (5, .pointer (some a_x_4))] Kr (TC.seq (TC.region (TL.r 1 [] [(8, .i 0)] {} (TL.next rfl (TC.seq (TC.block (TC.seq (TC.region (TL.r 1 [] [(10, .i k)] {} (TL.v (sV (Instr.loadAt 3 (.pointer (some a_x)))) 11 (.i x) (fun w hM => run_load_one (off := 0) (.i x) (h_x.sat hM) (rows_one _) Kr Kr) {} (TL.r 4 [] [(9, .b (decide (k ≥ x)))] {} (TL.next rfl (TC.cond (decide (k ≥ x)) rfl Kr (fun h1 => ?_) (fun h1 => ?_)))))))))))))))
  · refine TC.seq (TC.seq (TC.region (TL.r 1 [] [(13, .i k)] {} (TL.v (sV (Instr.loadAt 3 (.pointer (some a_x)))) 14 (.i x) (fun w hM => run_load_one (off := 0) (.i x) (h_x.sat hM) (rows_one _) Kr Kr) {} (TL.r 5 [] [(17, .b ((w64 (k - x)) == i))] {} (TL.next rfl (TC.cond ((w64 (k - x)) == i) rfl Kr (fun h2 => ?_) (fun h2 => ?_))))))))
    · refine TC.seq (TC.region (TL.v (sV (Instr.loadAt 3 (.pointer (some a_x_2)))) 18 (.i x_2) (fun w hM => run_load_one (off := 0) (.i x_2) (h_x_2.sat hM) (rows_one _) Kr Kr) {} (TL.r 2 [] [(8, .i x_2)] {} (TL.next rfl (TC.ret (TE.ret_then (TE.ret_block (TE.ret_then ?_))))))))
      have e : assign_least_1 i k x x_2 x_3 x_4 = x_2 := by unfold assign_least_1; exact cond_t h1 (cond_t h2 (rfl))
      exact TE.ret [] (.i x_2) {} (by rw [e]; first | done | kernel_rfl)
    · refine TC.skip (TE.next (TC.seq (TC.region (TL.r 1 [] [(8, .i 36028797018963968)] {} (TL.next rfl (TC.ret (TE.ret_block (TE.ret_then ?_))))))))
      have e : assign_least_1 i k x x_2 x_3 x_4 = 36028797018963968 := by unfold assign_least_1; exact cond_t h1 (cond_f h2 (rfl))
      exact TE.ret [] (.i 36028797018963968) {} (by rw [e]; first | done | kernel_rfl)
  · refine TC.seq (TC.region (TL.v (sV (Instr.loadAt 77 (.pointer (some a_x_3)))) 20 (.slice A_x_3 x_3.length c_x_3) (fun w hM => run_load_one (off := 0) (.slice A_x_3 x_3.length c_x_3) (h_x_3.sat hM) (rows_one _) Kr Kr) {} (TL.r 2 [] [(21, .i k)] {} (TL.v (sV (Instr.indexAt 77 (.slice A_x_3 x_3.length c_x_3) (.i k))) 22 (.pointer (some (Ix A_x_3 (k.toNat * 1)))) (fun w hM => run_index (hd_x_3.rd.sat hM) (by simp) Kr (by have q0_ := (dec_f h1); (try have kr_ := row_len hp.2.2.2.2 (i := i.toNat) (by omega)); exact sd) (by have q0_ := (dec_f h1); (try have kr_ := row_len hp.2.2.2.2 (i := i.toNat) (by omega)); exact sd)) {} (TL.v (sV (Instr.loadAt 4 (.pointer (some (Ix A_x_3 (k.toNat * 1)))))) 23 (.b ((x_3[k.toNat]?.getD false))) (fun w hM => run_load_one (off := 0) (i := k.toNat) (.b ((x_3[k.toNat]?.getD false))) (hd_x_3.rd.sat hM) (map_at (getD_at _ _ false (by have q0_ := (dec_f h1); (try have kr_ := row_len hp.2.2.2.2 (i := i.toNat) (by omega)); exact sd))) Kr Kr) {} (TL.r 5 [] [(24, .b ((x_3[k.toNat]?.getD false)))] {} (TL.split 24 ((x_3[k.toNat]?.getD false)) Kr (fun h3 => ?_) (fun h3 => ?_))))))))
    · refine TL.r 15 [] [(19, .b true)] {} (TL.next rfl (TC.condT rfl Kr (TC.seq (TC.region (TL.r 1 [] [(8, .i 36028797018963968)] {} (TL.next rfl (TC.ret (TE.ret_block (TE.ret_then ?_)))))))))
      have e : assign_least_1 i k x x_2 x_3 x_4 = 36028797018963968 := by unfold assign_least_1; exact cond_f h1 (cond_t h3 (rfl))
      exact TE.ret [] (.i 36028797018963968) {} (by rw [e]; first | done | kernel_rfl)
    · refine TL.v (sV (Instr.loadAt 71 (.pointer (some a_x_4)))) 25 (.slice A_x_4 x_4.length c_x_4) (fun w hM => (by have h := run_load_one (P := Try.prog) (T := 71) (off := 0) (i := 0) (A := some a_x_4) (.slice A_x_4 x_4.length c_x_4) (h_x_4.sat hM) (rows_one _) Kr Kr; exact h)) {} (TL.r 7 [] [(26, .i i)] {} (TL.v (sV (Instr.indexAt 71 (.slice A_x_4 x_4.length c_x_4) (.i i))) 27 (.pointer (some (Ix A_x_4 (i.toNat * 1)))) (fun w hM => run_index (hr_x_4.sat hM) (sl_len he_x_4) Kr (by have q0_ := (dec_f h1); (try have kr_ := row_len hp.2.2.2.2 (i := i.toNat) (by omega)); exact sd) (by have q0_ := (dec_f h1); (try have kr_ := row_len hp.2.2.2.2 (i := i.toNat) (by omega)); exact sd)) {} ?_))
      have s_s1 := (el_rd (sl_all hp_x_4 i.toNat) (sl_get he_x_4 i.toNat)).short; rw [List.length_map] at s_s1
      refine TL.v (sV (Instr.loadAt 74 (.pointer (some (Ix A_x_4 (i.toNat * 1)))))) 28 (.slice ((o_x_4[i.toNat]?.getD Sl.zero).A) ((x_4[i.toNat]?.getD []).length) ((o_x_4[i.toNat]?.getD Sl.zero).cap)) (fun w hM => (by have h := run_load_one (P := Try.prog) (T := 74) (off := 0) (i := i.toNat) (.slice (o_x_4[i.toNat]?.getD Sl.zero).A (o_x_4[i.toNat]?.getD Sl.zero).l.length (o_x_4[i.toNat]?.getD Sl.zero).cap) (hr_x_4.sat hM) (map_at (getD_at _ _ Sl.zero (sl_lt he_x_4 (by have q0_ := (dec_f h1); (try have kr_ := row_len hp.2.2.2.2 (i := i.toNat) (by omega)); exact sd)))) Kr Kr; rw [(sl_get he_x_4 i.toNat)] at h; exact h)) {} (TL.r 10 [] [(29, .i k)] {} (TL.v (sV (Instr.indexAt 74 (.slice ((o_x_4[i.toNat]?.getD Sl.zero).A) ((x_4[i.toNat]?.getD []).length) ((o_x_4[i.toNat]?.getD Sl.zero).cap)) (.i k))) 30 (.pointer (some ((((o_x_4[i.toNat]?.getD Sl.zero).A).getD noAddr).add (k.toNat * 1)))) (fun w hM => run_index (el_rd ((sl_all hp_x_4 i.toNat).sat hM) (sl_get he_x_4 i.toNat)) (by simp) Kr (by have q0_ := (dec_f h1); (try have kr_ := row_len hp.2.2.2.2 (i := i.toNat) (by omega)); exact sd) (by have q0_ := (dec_f h1); (try have kr_ := row_len hp.2.2.2.2 (i := i.toNat) (by omega)); exact sd)) {} (TL.v (sV (Instr.loadAt 3 (.pointer (some ((((o_x_4[i.toNat]?.getD Sl.zero).A).getD noAddr).add (k.toNat * 1)))))) 31 (.i ((x_4[i.toNat]?.getD [])[k.toNat]?.getD 0)) (fun w hM => run_load_one (off := 0) (i := k.toNat) (.i ((x_4[i.toNat]?.getD [])[k.toNat]?.getD 0)) (el_rd ((sl_all hp_x_4 i.toNat).sat hM) (sl_get he_x_4 i.toNat)) (map_at (getD_at _ _ 0 (by have q0_ := (dec_f h1); (try have kr_ := row_len hp.2.2.2.2 (i := i.toNat) (by omega)); exact sd))) Kr Kr) {} (TL.r 15 [] [(19, .b (decide (((x_4[i.toNat]?.getD [])[k.toNat]?.getD 0) < 0)))] {} (TL.next rfl (TC.cond (decide (((x_4[i.toNat]?.getD [])[k.toNat]?.getD 0) < 0)) rfl Kr (fun h4 => ?_) (fun h4 => ?_)))))))
      · refine TC.seq (TC.region (TL.r 1 [] [(8, .i 36028797018963968)] {} (TL.next rfl (TC.ret (TE.ret_block (TE.ret_then ?_))))))
        have e : assign_least_1 i k x x_2 x_3 x_4 = 36028797018963968 := by unfold assign_least_1; exact cond_f h1 (cond_f h3 (cond_t h4 (rfl)))
        exact TE.ret [] (.i 36028797018963968) {} (by rw [e]; first | done | kernel_rfl)
      · refine TC.skip (TE.normal_block (TE.next (TC.seq (TC.region (TL.v (sV (Instr.loadAt 71 (.pointer (some a_x_4)))) 34 (.slice A_x_4 x_4.length c_x_4) (fun w hM => (by have h := run_load_one (P := Try.prog) (T := 71) (off := 0) (i := 0) (A := some a_x_4) (.slice A_x_4 x_4.length c_x_4) (h_x_4.sat hM) (rows_one _) Kr Kr; exact h)) {} (TL.r 2 [] [(35, .i i)] {} (TL.v (sV (Instr.indexAt 71 (.slice A_x_4 x_4.length c_x_4) (.i i))) 36 (.pointer (some (Ix A_x_4 (i.toNat * 1)))) (fun w hM => run_index (hr_x_4.sat hM) (sl_len he_x_4) Kr (by have q0_ := (dec_f h1); have q1_ := (dec_f h4); (try have kr_ := row_len hp.2.2.2.2 (i := i.toNat) (by omega)); exact sd) (by have q0_ := (dec_f h1); have q1_ := (dec_f h4); (try have kr_ := row_len hp.2.2.2.2 (i := i.toNat) (by omega)); exact sd)) {} ?_)))))))
        have s_s2 := (el_rd (sl_all hp_x_4 i.toNat) (sl_get he_x_4 i.toNat)).short; rw [List.length_map] at s_s2
        refine TL.v (sV (Instr.loadAt 74 (.pointer (some (Ix A_x_4 (i.toNat * 1)))))) 37 (.slice ((o_x_4[i.toNat]?.getD Sl.zero).A) ((x_4[i.toNat]?.getD []).length) ((o_x_4[i.toNat]?.getD Sl.zero).cap)) (fun w hM => (by have h := run_load_one (P := Try.prog) (T := 74) (off := 0) (i := i.toNat) (.slice (o_x_4[i.toNat]?.getD Sl.zero).A (o_x_4[i.toNat]?.getD Sl.zero).l.length (o_x_4[i.toNat]?.getD Sl.zero).cap) (hr_x_4.sat hM) (map_at (getD_at _ _ Sl.zero (sl_lt he_x_4 (by have q0_ := (dec_f h1); have q1_ := (dec_f h4); (try have kr_ := row_len hp.2.2.2.2 (i := i.toNat) (by omega)); exact sd)))) Kr Kr; rw [(sl_get he_x_4 i.toNat)] at h; exact h)) {} (TL.r 5 [] [(38, .i k)] {} (TL.v (sV (Instr.indexAt 74 (.slice ((o_x_4[i.toNat]?.getD Sl.zero).A) ((x_4[i.toNat]?.getD []).length) ((o_x_4[i.toNat]?.getD Sl.zero).cap)) (.i k))) 39 (.pointer (some ((((o_x_4[i.toNat]?.getD Sl.zero).A).getD noAddr).add (k.toNat * 1)))) (fun w hM => run_index (el_rd ((sl_all hp_x_4 i.toNat).sat hM) (sl_get he_x_4 i.toNat)) (by simp) Kr (by have q0_ := (dec_f h1); have q1_ := (dec_f h4); (try have kr_ := row_len hp.2.2.2.2 (i := i.toNat) (by omega)); exact sd) (by have q0_ := (dec_f h1); have q1_ := (dec_f h4); (try have kr_ := row_len hp.2.2.2.2 (i := i.toNat) (by omega)); exact sd)) {} (TL.v (sV (Instr.loadAt 3 (.pointer (some ((((o_x_4[i.toNat]?.getD Sl.zero).A).getD noAddr).add (k.toNat * 1)))))) 40 (.i ((x_4[i.toNat]?.getD [])[k.toNat]?.getD 0)) (fun w hM => run_load_one (off := 0) (i := k.toNat) (.i ((x_4[i.toNat]?.getD [])[k.toNat]?.getD 0)) (el_rd ((sl_all hp_x_4 i.toNat).sat hM) (sl_get he_x_4 i.toNat)) (map_at (getD_at _ _ 0 (by have q0_ := (dec_f h1); have q1_ := (dec_f h4); (try have kr_ := row_len hp.2.2.2.2 (i := i.toNat) (by omega)); exact sd))) Kr Kr) {} (TL.r 8 [] [(8, .i ((x_4[i.toNat]?.getD [])[k.toNat]?.getD 0))] {} (TL.next rfl (TC.ret ?_))))))
        have e : assign_least_1 i k x x_2 x_3 x_4 = ((x_4[i.toNat]?.getD [])[k.toNat]?.getD 0) := by unfold assign_least_1; exact cond_f h1 (cond_f h3 (cond_f h4 (rfl)))
        exact TE.ret [] (.i ((x_4[i.toNat]?.getD [])[k.toNat]?.getD 0)) {} (by rw [e]; first | done | kernel_rfl)

end Go.Sky
