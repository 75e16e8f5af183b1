/- Functions of the program, each with the Lean function that it computes. Conditions: none. -/
import Derived.Test.YtehhgjhileappaaRows
import Derived.Test.YtehhgjhileappaaEqb
import Derived.Test.YtehhgjhileappaaFct
import Derived.Test.YtehhgjhileappaaDelta
namespace Go.Sky
open Go Go.Eng Go.Proofs
def cmp_isNaN_int (x : Int) : Bool :=
  x != x

set_option maxRecDepth 100000 in
theorem cmp_isNaN_int_w (x : Int) (w : World) : Calls Try.prog 91 #[.int .i64 x] w (Ret w (.bool (cmp_isNaN_int x))) := by
  refine calls_intro (vs := [.i x]) (w := w) Try.func91 rfl Try.ntmps91 rfl (TC.weak [(0, .i x)] Kr (TC.seq (TC.region (TL.r 1 [] [(2, .b false)] {} (TL.next rfl (TC.seq (TC.region (TL.r 4 [] [(2, .b (x != x))] {} (TL.next rfl (TC.ret ?_))))))))))
  have e : cmp_isNaN_int x = (x != x) := by unfold cmp_isNaN_int; exact rfl
  exact TE.ret [] (.b (x != x)) {} (by rw [e]; first | done | kernel_rfl)

def cmp_Compare_int (x : Int) (y : Int) : Int :=
  let r1 := cmp_isNaN_int x
  let r2 := cmp_isNaN_int y
  cond r1 (
    cond r2 (
      0) (
      (-1))) (
    cond r2 (
      1) (
      cond (decide (x < y)) (
        (-1)) (
        cond (decide (x > y)) (
          1) (
          0))))

set_option maxRecDepth 100000 in
theorem cmp_Compare_int_w (x : Int) (y : Int) (w : World) : Calls Try.prog 68 #[.int .i64 x, .int .i64 y] w (Ret w (.int .i64 (cmp_Compare_int x y))) := by
  refine calls_intro (vs := [.i x, .i y]) (w := w) Try.func68 rfl Try.ntmps68 rfl (TC.weak [(0, .i x), (1, .i y)] Kr (TC.seq (TC.region (TL.r 1 [] [(4, .i 0)] {} (TL.next rfl (TC.seq (TC.region (TL.r 1 [] [(7, .i x)] {} (TL.c 8 (cmp_isNaN_int x) (fun r1 => .b r1) (fun w _ => cmp_isNaN_int_w x w) {} (fun r1 hr1 => TL.r 3 [] [(5, .b r1)] {} (TL.next rfl (TC.seq (TC.region (TL.r 1 [] [(9, .i y)] {} (TL.c 10 (cmp_isNaN_int y) (fun r2 => .b r2) (fun w _ => cmp_isNaN_int_w y w) {} (fun r2 hr2 => TL.r 3 [] [(6, .b r2)] {} (TL.next rfl (TC.seq (TC.seq (TC.region (TL.r 1 [] [(11, .b r1)] {} (TL.next rfl (TC.cond r1 rfl Kr (fun h1 => ?_) (fun h1 => ?_))))))))))))))))))))))))
  · refine TC.seq (TC.seq (TC.region (TL.r 1 [] [(12, .b r2)] {} (TL.next rfl (TC.cond r2 rfl Kr (fun h2 => ?_) (fun h2 => ?_))))))
    · refine TC.seq (TC.region (TL.r 1 [] [(4, .i 0)] {} (TL.next rfl (TC.ret (TE.ret_then (TE.ret_then ?_))))))
      have e : cmp_Compare_int x y = 0 := by subst hr1 hr2; unfold cmp_Compare_int; exact cond_t h1 (cond_t h2 (rfl))
      exact TE.ret [] (.i 0) {} (by rw [e]; first | done | kernel_rfl)
    · refine TC.skip (TE.next (TC.seq (TC.region (TL.r 1 [] [(4, .i (-1))] {} (TL.next rfl (TC.ret (TE.ret_then ?_)))))))
      have e : cmp_Compare_int x y = (-1) := by subst hr1 hr2; unfold cmp_Compare_int; exact cond_t h1 (cond_f h2 (rfl))
      exact TE.ret [] (.i (-1)) {} (by rw [e]; first | done | kernel_rfl)
  · refine TC.skip (TE.next (TC.seq (TC.seq (TC.region (TL.r 1 [] [(13, .b r2)] {} (TL.next rfl (TC.cond r2 rfl Kr (fun h3 => ?_) (fun h3 => ?_))))))))
    · refine TC.seq (TC.region (TL.r 1 [] [(4, .i 1)] {} (TL.next rfl (TC.ret (TE.ret_then ?_)))))
      have e : cmp_Compare_int x y = 1 := by subst hr1 hr2; unfold cmp_Compare_int; exact cond_f h1 (cond_t h3 (rfl))
      exact TE.ret [] (.i 1) {} (by rw [e]; first | done | kernel_rfl)
    · refine TC.skip (TE.next (TC.seq (TC.seq (TC.region (TL.r 3 [] [(16, .b (decide (x < y)))] {} (TL.next rfl (TC.cond (decide (x < y)) rfl Kr (fun h4 => ?_) (fun h4 => ?_))))))))
      · refine TC.seq (TC.region (TL.r 1 [] [(4, .i (-1))] {} (TL.next rfl (TC.ret (TE.ret_then ?_)))))
        have e : cmp_Compare_int x y = (-1) := by subst hr1 hr2; unfold cmp_Compare_int; exact cond_f h1 (cond_f h3 (cond_t h4 (rfl)))
        exact TE.ret [] (.i (-1)) {} (by rw [e]; first | done | kernel_rfl)
      · refine TC.skip (TE.next (TC.seq (TC.seq (TC.region (TL.r 3 [] [(19, .b (decide (x > y)))] {} (TL.next rfl (TC.cond (decide (x > y)) rfl Kr (fun h5 => ?_) (fun h5 => ?_))))))))
        · refine TC.seq (TC.region (TL.r 1 [] [(4, .i 1)] {} (TL.next rfl (TC.ret (TE.ret_then ?_)))))
          have e : cmp_Compare_int x y = 1 := by subst hr1 hr2; unfold cmp_Compare_int; exact cond_f h1 (cond_f h3 (cond_f h4 (cond_t h5 (rfl))))
          exact TE.ret [] (.i 1) {} (by rw [e]; first | done | kernel_rfl)
        · refine TC.skip (TE.next (TC.seq (TC.region (TL.r 1 [] [(4, .i 0)] {} (TL.next rfl (TC.ret ?_))))))
          have e : cmp_Compare_int x y = 0 := by subst hr1 hr2; unfold cmp_Compare_int; exact cond_f h1 (cond_f h3 (cond_f h4 (cond_f h5 (rfl))))
          exact TE.ret [] (.i 0) {} (by rw [e]; first | done | kernel_rfl)

def cmp_Or_int_L1 : List Int → Nat → ((Unit) ⊕ (Int))
  | [], _ => .inl ()
  | x :: xs, k => cond (x != 0) (
      .inr x) (
      cmp_Or_int_L1 xs (k + 1))
def cmp_Or_int (vals : List Int) : Int :=
  Sum.elim (fun _ =>
    0) (fun r => r) (cmp_Or_int_L1 vals 0)

set_option maxRecDepth 100000 in
theorem cmp_Or_int_w (A_vals : Option Addr) (c_vals : Nat) (vals : List Int) (w : World) (h_vals : Rd w 1 A_vals (vals.map ic)) (_hc_vals : vals.length ≤ c_vals) : Calls Try.prog 67 #[.slice A_vals vals.length c_vals] w (Ret w (.int .i64 (cmp_Or_int vals))) := by
  have s_vals := h_vals.short; rw [List.length_map] at s_vals
  refine calls_intro (vs := [.slice A_vals vals.length c_vals]) (w := w) Try.func67 rfl Try.ntmps67 rfl (TC.weak [(0, .slice A_vals vals.length c_vals)] Kr (TC.seq (TC.region (TL.r 1 [] [(2, .i 0)] {} (TL.next rfl (TC.seq (TC.region (TL.r 1 [] [(3, .i 0)] {} (TL.next rfl (TC.seq (TC.seq (TC.region (TL.r 3 [] [(6, .slice A_vals vals.length c_vals), (7, .i (vals.length : Int)), (8, .i 0)] {} (TL.next rfl (TC.weak [(3, .i 0), (6, .slice A_vals vals.length c_vals), (7, .i (vals.length : Int)), (8, .i 0)] Kr ?_)))))))))))))))
  obtain ⟨R1, hR⟩ : ∃ R, R = cmp_Or_int_L1 vals 0 := ⟨_, rfl⟩
  refine TC.cut (S := Unit) (fun (_ : Unit) => [(3, .i 0)]) (fun (_ : Unit) => []) (fun (_ : Unit) => R1 = .inl ()) ?_ ?_
  · refine TC.block (TC.loop (X := Nat) (fun k => [(3, .i 0), (6, .slice A_vals vals.length c_vals), (7, .i (vals.length : Int)), (8, .i (k : Int))]) (fun k => []) (fun k => vals.length - k) (fun k => k ≤ vals.length ∧ R1 = cmp_Or_int_L1 (vals.drop k) k) ?_ 0 ⟨Nat.zero_le _, hR⟩)
    rintro k ⟨hk, hI⟩
    refine TC.seq (TC.region (TL.r 1 [] [(9, .b (decide ((k : Int) < (vals.length : Int))))] {} (TL.next rfl (TC.seq (TC.cond (decide ((k : Int) < (vals.length : Int))) rfl Kr (fun h1 => ?_) (fun h1 => ?_))))))
    · have hlt : k < vals.length := by have := of_decide_eq_true h1; first | omega | (simp at this; omega)
      obtain ⟨x, hx⟩ : ∃ e_, vals[k]? = some e_ := ⟨_, List.getElem?_eq_getElem hlt⟩
      have hd := drop_at hx
      refine TC.skip (TE.next (TC.seq (TC.block (TC.seq (TC.region (TL.v (sV (Instr.indexAt 74 (.slice A_vals vals.length c_vals) (.i (k : Int)))) 10 (.pointer (some (Ix A_vals (k * 1)))) (fun w hM => run_index (h_vals.sat hM) (by simp) Kr (by exact sd) (by exact sd)) {} (TL.v (sV (Instr.loadAt 3 (.pointer (some (Ix A_vals (k * 1)))))) 11 (.i x) (fun w hM => run_load_one (off := 0) (i := k) (.i x) (h_vals.sat hM) (map_at hx) Kr Kr) {} (TL.r 3 [] [(5, .i x)] {} (TL.next rfl (TC.seq (TC.region (TL.r 3 [] [(14, .b (x != 0))] {} (TL.next rfl (TC.cond (x != 0) rfl Kr (fun h2 => ?_) (fun h2 => ?_)))))))))))))))
      · refine TC.seq (TC.region (TL.r 2 [] [(2, .i x)] {} (TL.next rfl (TC.ret (TE.ret_block (TE.ret_then (TE.ret_then (TE.ret_block (TE.ret_then (TE.ret_then ?_))))))))))
        have e : cmp_Or_int vals = x := by unfold cmp_Or_int; exact elim_r (hR.symm.trans (hI.trans (by rw [hd]; exact cond_t h2 (rfl)))) rfl
        exact TE.ret [] (.i x) {} (by rw [e]; first | done | kernel_rfl)
      · exact TC.skip (TE.normal_block (TE.next (TC.region (TL.r 2 [] [(8, .i (w64 ((k : Int) + 1)))] {} (TL.done rfl (TE.rw 8 (.i (w64 ((k : Int) + 1))) (.i ((k + 1 : Nat) : Int)) Kr (w64_cast k (by omega)) (TE.again (x := k) (k + 1) ⟨by omega, hI.trans (by rw [hd]; exact cond_f h2 (rfl))⟩ (by show vals.length - (k + 1) < vals.length - k; omega) Kr (.slnil))))))))
    · have hd : vals.drop k = [] := List.drop_eq_nil_of_le (by have := of_decide_eq_false h1; first | omega | (simp at this; omega))
      refine TC.exit (TE.exit_then (TE.exit_then (TE.exit_same ?_)))
      exact TE.cut () (hI.trans (by rw [hd]; exact rfl)) Kr (.slnil)
  · intro _ hJ
    refine TE.next (TC.seq (TC.region (TL.r 2 [] [(2, .i 0)] {} (TL.next rfl (TC.ret ?_)))))
    have e : cmp_Or_int vals = 0 := by unfold cmp_Or_int; exact elim_l (hR.symm.trans hJ) (rfl)
    exact TE.ret [] (.i 0) {} (by rw [e]; first | done | kernel_rfl)

end Go.Sky
