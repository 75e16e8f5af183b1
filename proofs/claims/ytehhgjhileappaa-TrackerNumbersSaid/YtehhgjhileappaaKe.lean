/- Functions of the program, each with the Lean function that it computes. Conditions: none. -/
import Derived.Test.YtehhgjhileappaaKd
import Derived.Test.YtehhgjhileappaaPlanB
namespace Go.Sky
open Go Go.Eng Go.Proofs
def skywaykeep2_fine_1 (e_ : Int) : Bool :=
  e_ != 0

set_option maxRecDepth 100000 in
theorem skywaykeep2_fine_1_w (e_ : Int) (w : World) : Calls Try.prog 21 #[.int .i64 e_] w (Ret w (.bool (skywaykeep2_fine_1 e_))) := by
  refine calls_intro (vs := [.i e_]) (w := w) Try.func21 rfl Try.ntmps21 rfl (TC.weak [(0, .i e_)] Kr (TC.seq (TC.region (TL.r 1 [] [(2, .b false)] {} (TL.next rfl (TC.seq (TC.region (TL.r 3 [] [(2, .b (e_ != 0))] {} (TL.next rfl (TC.ret ?_))))))))))
  have e : skywaykeep2_fine_1 e_ = (e_ != 0) := by unfold skywaykeep2_fine_1; exact rfl
  exact TE.ret [] (.b (e_ != 0)) {} (by rw [e]; first | done | kernel_rfl)

def IndexFunc_fine_L1 : List Int → Nat → ((Unit) ⊕ (Int))
  | [], _ => .inl ()
  | x :: xs, k => let r1 := skywaykeep2_fine_1 x
    cond r1 (
      .inr (k : Int)) (
      IndexFunc_fine_L1 xs (k + 1))
def IndexFunc_fine (s : List Int) : Int :=
  Sum.elim (fun _ =>
    (-1)) (fun r => r) (IndexFunc_fine_L1 s 0)

set_option maxRecDepth 100000 in
theorem IndexFunc_fine_w (A_s : Option Addr) (c_s : Nat) (s : List Int) (w : World) (h_s : Rd w 1 A_s (s.map ic)) (_hc_s : s.length ≤ c_s) : Calls Try.prog 40 #[.slice A_s s.length c_s, .func (.func 21) #[] #[]] w (Ret w (.int .i64 (IndexFunc_fine s))) := by
  have s_s := h_s.short; rw [List.length_map] at s_s
  refine calls_intro (vs := [.slice A_s s.length c_s, .func (.func 21) #[] #[]]) (w := w) Try.func40 rfl Try.ntmps40 rfl (TC.weak [(0, .slice A_s s.length c_s), (1, .func (.func 21) #[] #[])] Kr (TC.seq (TC.region (TL.r 1 [] [(4, .i 0)] {} (TL.next rfl (TC.seq (TC.seq (TC.region (TL.r 3 [] [(7, .i (s.length : Int)), (8, .i 0)] {} (TL.next rfl (TC.weak [(0, .slice A_s s.length c_s), (1, .func (.func 21) #[] #[]), (7, .i (s.length : Int)), (8, .i 0)] Kr ?_)))))))))))
  obtain ⟨R1, hR⟩ : ∃ R, R = IndexFunc_fine_L1 s 0 := ⟨_, rfl⟩
  refine TC.cut (S := Unit) (fun (_ : Unit) => []) (fun (_ : Unit) => []) (fun (_ : Unit) => R1 = .inl ()) ?_ ?_
  · refine TC.block (TC.loop (X := Nat) (fun k => [(0, .slice A_s s.length c_s), (1, .func (.func 21) #[] #[]), (7, .i (s.length : Int)), (8, .i (k : Int))]) (fun k => []) (fun k => s.length - k) (fun k => k ≤ s.length ∧ R1 = IndexFunc_fine_L1 (s.drop k) k) ?_ 0 ⟨Nat.zero_le _, hR⟩)
    rintro k ⟨hk, hI⟩
    refine TC.seq (TC.region (TL.r 1 [] [(9, .b (decide ((k : Int) < (s.length : Int))))] {} (TL.next rfl (TC.seq (TC.cond (decide ((k : Int) < (s.length : Int))) rfl Kr (fun h1 => ?_) (fun h1 => ?_))))))
    · have hlt : k < s.length := by have := of_decide_eq_true h1; first | omega | (simp at this; omega)
      obtain ⟨x, hx⟩ : ∃ e_, s[k]? = some e_ := ⟨_, List.getElem?_eq_getElem hlt⟩
      have hd := drop_at hx
      refine TC.skip (TE.next (TC.seq (TC.block (TC.seq (TC.region (TL.r 2 [] [(5, .i (k : Int))] {} (TL.next rfl (TC.seq (TC.region (TL.r 3 [] [(11, .func (.func 21) #[] #[]), (12, .slice A_s s.length c_s), (13, .i (k : Int))] {} (TL.v (sV (Instr.indexAt 61 (.slice A_s s.length c_s) (.i (k : Int)))) 14 (.pointer (some (Ix A_s (k * 1)))) (fun w hM => run_index (h_s.sat hM) (by simp) Kr (by exact sd) (by exact sd)) {} (TL.v (sV (Instr.loadAt 25 (.pointer (some (Ix A_s (k * 1)))))) 15 (.i x) (fun w hM => run_load_one (off := 0) (i := k) (.i x) (h_s.sat hM) (map_at hx) Kr Kr) {} (TL.c 16 (skywaykeep2_fine_1 x) (fun r1 => .b r1) (fun w _ => skywaykeep2_fine_1_w x w) {} (fun r1 hr1 => TL.next rfl (TC.cond r1 rfl Kr (fun h2 => ?_) (fun h2 => ?_))))))))))))))))
      · refine TC.seq (TC.region (TL.r 2 [] [(4, .i (k : Int))] {} (TL.next rfl (TC.ret (TE.ret_block (TE.ret_then (TE.ret_then (TE.ret_block (TE.ret_then (TE.ret_then ?_))))))))))
        have e : IndexFunc_fine s = (k : Int) := by subst hr1; unfold IndexFunc_fine; exact elim_r (hR.symm.trans (hI.trans (by rw [hd]; exact cond_t h2 (rfl)))) rfl
        exact TE.ret [] (.i (k : Int)) {} (by rw [e]; first | done | kernel_rfl)
      · exact TC.skip (TE.normal_block (TE.next (TC.region (TL.r 2 [] [(8, .i (w64 ((k : Int) + 1)))] {} (TL.done rfl (TE.rw 8 (.i (w64 ((k : Int) + 1))) (.i ((k + 1 : Nat) : Int)) Kr (w64_cast k (by omega)) (TE.again (x := k) (k + 1) ⟨by omega, hI.trans (by subst hr1; rw [hd]; exact cond_f h2 (rfl))⟩ (by show s.length - (k + 1) < s.length - k; omega) Kr (.slnil))))))))
    · have hd : s.drop k = [] := List.drop_eq_nil_of_le (by have := of_decide_eq_false h1; first | omega | (simp at this; omega))
      refine TC.exit (TE.exit_then (TE.exit_then (TE.exit_same ?_)))
      exact TE.cut () (hI.trans (by rw [hd]; exact rfl)) Kr (.slnil)
  · intro _ hJ
    refine TE.next (TC.seq (TC.region (TL.r 1 [] [(4, .i (-1))] {} (TL.next rfl (TC.ret ?_)))))
    have e : IndexFunc_fine s = (-1) := by unfold IndexFunc_fine; exact elim_l (hR.symm.trans hJ) (rfl)
    exact TE.ret [] (.i (-1)) {} (by rw [e]; first | done | kernel_rfl)

def ContainsFunc_fine (s : List Int) : Bool :=
  let r1 := IndexFunc_fine s
  decide (r1 ≥ 0)

set_option maxRecDepth 100000 in
theorem ContainsFunc_fine_w (A_s : Option Addr) (c_s : Nat) (s : List Int) (w : World) (h_s : Rd w 1 A_s (s.map ic)) (hc_s : s.length ≤ c_s) : Calls Try.prog 20 #[.slice A_s s.length c_s, .func (.func 21) #[] #[]] w (Ret w (.bool (ContainsFunc_fine s))) := by
  have s_s := h_s.short; rw [List.length_map] at s_s
  refine calls_intro (vs := [.slice A_s s.length c_s, .func (.func 21) #[] #[]]) (w := w) Try.func20 rfl Try.ntmps20 rfl (TC.weak [(0, .slice A_s s.length c_s), (1, .func (.func 21) #[] #[])] Kr (TC.seq (TC.region (TL.r 1 [] [(4, .b false)] {} (TL.next rfl (TC.seq (TC.region (TL.r 2 [] [(5, .slice A_s s.length c_s), (6, .func (.func 21) #[] #[])] {} (TL.c 7 (IndexFunc_fine s) (fun r1 => .i r1) (fun w hM => IndexFunc_fine_w A_s c_s s w (h_s.sat hM) hc_s) {} (fun r1 hr1 => TL.r 5 [] [(4, .b (decide (r1 ≥ 0)))] {} (TL.next rfl (TC.ret ?_))))))))))))
  have e : ContainsFunc_fine s = (decide (r1 ≥ 0)) := by subst hr1; unfold ContainsFunc_fine; exact rfl
  exact TE.ret [] (.b (decide (r1 ≥ 0))) {} (by rw [e]; first | done | kernel_rfl)

def skywaykeep2_fine (l : List Int) : Bool :=
  let r1 := ContainsFunc_fine l
  !r1

set_option maxRecDepth 100000 in
theorem skywaykeep2_fine_w (A_l : Option Addr) (c_l : Nat) (l : List Int) (w : World) (h_l : Rd w 1 A_l (l.map ic)) (hc_l : l.length ≤ c_l) : Calls Try.prog 9 #[.slice A_l l.length c_l] w (Ret w (.bool (skywaykeep2_fine l))) := by
  have s_l := h_l.short; rw [List.length_map] at s_l
  refine calls_intro (vs := [.slice A_l l.length c_l]) (w := w) Try.func9 rfl Try.ntmps9 rfl (TC.weak [(0, .slice A_l l.length c_l)] Kr (TC.seq (TC.region (TL.r 1 [] [(2, .b false)] {} (TL.next rfl (TC.seq (TC.region (TL.r 1 [] [(3, .slice A_l l.length c_l)] {} (TL.c 4 (ContainsFunc_fine l) (fun r1 => .b r1) (fun w hM => ContainsFunc_fine_w A_l c_l l w (h_l.sat hM) hc_l) {} (fun r1 hr1 => TL.r 4 [] [(2, .b (!r1))] {} (TL.next rfl (TC.ret ?_))))))))))))
  have e : skywaykeep2_fine l = (!r1) := by subst hr1; unfold skywaykeep2_fine; exact rfl
  exact TE.ret [] (.b (!r1)) {} (by rw [e]; first | done | kernel_rfl)

def skywaykeep2_within (n : Int) (low : Int) (high : Int) : Int :=
  w64 (low + ((w64 ((n.tmod (w64 ((w64 (high - low)) + 1))) + (w64 ((w64 (high - low)) + 1)))).tmod (w64 ((w64 (high - low)) + 1))))

theorem within_eq {n low high r : Int} (hr : skywaykeep2_within n low high = r) (h : low ≤ high) (h1 : -1000000000000 ≤ low) (h2 : high ≤ 1000000000000) :
    r = low + (n.tmod (high - low + 1) + (high - low + 1)).tmod (high - low + 1) ∧ low ≤ r ∧ r ≤ high := by
  subst hr
  unfold skywaykeep2_within
  have s : w64 ((w64 (high - low)) + 1) = high - low + 1 := by rw [w64_id (x := high - low) (by omega), w64_id (by omega)]
  simp only [s]
  have t1 := Int.tmod_lt_of_pos n (show 0 < high - low + 1 by omega)
  have t2 := Int.lt_tmod_of_pos n (show 0 < high - low + 1 by omega)
  rw [w64_id (x := n.tmod (high - low + 1) + (high - low + 1)) (by omega)]
  have t3 := Int.tmod_lt_of_pos (n.tmod (high - low + 1) + (high - low + 1)) (show 0 < high - low + 1 by omega)
  have t4 := Int.tmod_nonneg (high - low + 1) (show 0 ≤ n.tmod (high - low + 1) + (high - low + 1) by omega)
  rw [w64_id (by omega)]
  omega
theorem within_in {n low high r : Int} (hr : skywaykeep2_within n low high = r) (h : low ≤ high) (h1 : -1000000000000 ≤ low) (h2 : high ≤ 1000000000000) : low ≤ r ∧ r ≤ high := (within_eq hr h h1 h2).2

set_option maxRecDepth 100000 in
theorem skywaykeep2_within_w (n : Int) (low : Int) (high : Int) (w : World) (hs : w64 ((w64 (high - low)) + 1) ≠ 0) : Calls Try.prog 11 #[.int .i64 n, .int .i64 low, .int .i64 high] w (Ret w (.int .i64 (skywaykeep2_within n low high))) := by
  refine calls_intro (vs := [.i n, .i low, .i high]) (w := w) Try.func11 rfl Try.ntmps11 rfl (TC.weak [(0, .i n), (1, .i low), (2, .i high)] Kr (TC.seq (TC.region (TL.r 1 [] [(6, .i 0)] {} (TL.next rfl (TC.seq (TC.region (TL.r 5 [] [(7, .i (w64 ((w64 (high - low)) + 1)))] {} (TL.next rfl (TC.seq (TC.region (TL.r 3 [] [(12, .i low), (13, .i n), (14, .i (w64 ((w64 (high - low)) + 1)))] {} (TL.v (sV (binOp .rem 3 (.i n) (.i (w64 ((w64 (high - low)) + 1))))) 15 (.i (n.tmod (w64 ((w64 (high - low)) + 1)))) (fun w hM => run_rem (by exact sdr)) {} (TL.r 7 [] [(17, .i (w64 ((n.tmod (w64 ((w64 (high - low)) + 1))) + (w64 ((w64 (high - low)) + 1))))), (18, .i (w64 ((w64 (high - low)) + 1)))] {} (TL.v (sV (binOp .rem 3 (.i (w64 ((n.tmod (w64 ((w64 (high - low)) + 1))) + (w64 ((w64 (high - low)) + 1))))) (.i (w64 ((w64 (high - low)) + 1))))) 19 (.i ((w64 ((n.tmod (w64 ((w64 (high - low)) + 1))) + (w64 ((w64 (high - low)) + 1)))).tmod (w64 ((w64 (high - low)) + 1)))) (fun w hM => run_rem (by exact sdr)) {} (TL.r 10 [] [(6, .i (w64 (low + ((w64 ((n.tmod (w64 ((w64 (high - low)) + 1))) + (w64 ((w64 (high - low)) + 1)))).tmod (w64 ((w64 (high - low)) + 1))))))] {} (TL.next rfl (TC.ret ?_))))))))))))))))))
  have e : skywaykeep2_within n low high = (w64 (low + ((w64 ((n.tmod (w64 ((w64 (high - low)) + 1))) + (w64 ((w64 (high - low)) + 1)))).tmod (w64 ((w64 (high - low)) + 1))))) := by unfold skywaykeep2_within; exact rfl
  exact TE.ret [] (.i (w64 (low + ((w64 ((n.tmod (w64 ((w64 (high - low)) + 1))) + (w64 ((w64 (high - low)) + 1)))).tmod (w64 ((w64 (high - low)) + 1)))))) {} (by rw [e]; first | done | kernel_rfl)

end Go.Sky
