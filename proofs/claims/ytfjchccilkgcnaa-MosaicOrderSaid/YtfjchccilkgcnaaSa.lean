/- Functions of the program, each with the Lean function that it computes. Conditions: none. -/
import Derived.Test.YtfjchccilkgcnaaRows
import Derived.Test.YtfjchccilkgcnaaEqb
import Derived.Test.YtfjchccilkgcnaaFct
import Derived.Test.YtfjchccilkgcnaaFacts
import Derived.Test.YtfjchccilkgcnaaStr
namespace Go.Sky
open Go Go.Eng Go.Proofs
def cmp_isNaN_int (x : Int) : Bool :=
  x != x

set_option maxRecDepth 100000 in
theorem cmp_isNaN_int_w (x : Int) (w : World) : Calls Try.prog 104 #[.int .i64 x] w (Ret w (.bool (cmp_isNaN_int x))) := by
  refine calls_intro (vs := [.int .i64 x]) (w := w) Try.func104 rfl Try.ntmps104 rfl ?_
  refine TC.weak [(0, .int .i64 x)] (by kernel_rfl) ?_
  refine TC.seq ?_
  refine TC.region ?_
  refine TL.run 1 [] [(0, .int .i64 x)] rfl ⟨by kernel_rfl, by kernel_rfl⟩ ?_
  refine TL.next rfl ?_
  refine TC.seq ?_
  refine TC.region ?_
  refine TL.run 4 [] [(2, .bool (x != x))] rfl ⟨by kernel_rfl, by kernel_rfl⟩ ?_
  refine TL.next rfl ?_
  refine TC.ret ?_
  have e : cmp_isNaN_int x = (x != x) := by unfold cmp_isNaN_int; exact rfl
  exact TE.ret [] (.bool (x != x)) ⟨by kernel_rfl, by kernel_rfl⟩ (by rw [e]; first | done | kernel_rfl)

def cmp_Compare_int (x : Int) (y : Int) : Int :=
  let r1 := cmp_isNaN_int x
  let r2 := cmp_isNaN_int y
  cond r1 (
    cond r2 (
      0) (
      (-1))) (
    cond r2 (
      1) (
      cond (decide (x < y)) (
        (-1)) (
        cond (decide (x > y)) (
          1) (
          0))))

set_option maxRecDepth 100000 in
theorem cmp_Compare_int_w (x : Int) (y : Int) (w : World) : Calls Try.prog 69 #[.int .i64 x, .int .i64 y] w (Ret w (.int .i64 (cmp_Compare_int x y))) := by
  refine calls_intro (vs := [.int .i64 x, .int .i64 y]) (w := w) Try.func69 rfl Try.ntmps69 rfl ?_
  refine TC.weak [(0, .int .i64 x), (1, .int .i64 y)] (by kernel_rfl) ?_
  refine TC.seq ?_
  refine TC.region ?_
  refine TL.run 1 [] [(0, .int .i64 x), (1, .int .i64 y)] rfl ⟨by kernel_rfl, by kernel_rfl⟩ ?_
  refine TL.next rfl ?_
  refine TC.seq ?_
  refine TC.region ?_
  refine TL.run 1 [] [(0, .int .i64 x), (1, .int .i64 y), (7, .int .i64 x)] rfl ⟨by kernel_rfl, by kernel_rfl⟩ ?_
  refine TL.call (some 8) [(0, .int .i64 x), (1, .int .i64 y), (8, .bool ((cmp_isNaN_int x)))] (fun w _ => cmp_isNaN_int_w x w) (by kernel_rfl) (by kernel_rfl) ?_
  generalize hr1 : cmp_isNaN_int x = r1
  refine TL.run 3 [] [(0, .int .i64 x), (1, .int .i64 y), (5, .bool r1)] rfl ⟨by kernel_rfl, by kernel_rfl⟩ ?_
  refine TL.next rfl ?_
  refine TC.seq ?_
  refine TC.region ?_
  refine TL.run 1 [] [(0, .int .i64 x), (1, .int .i64 y), (5, .bool r1), (9, .int .i64 y)] rfl ⟨by kernel_rfl, by kernel_rfl⟩ ?_
  refine TL.call (some 10) [(0, .int .i64 x), (1, .int .i64 y), (5, .bool r1), (10, .bool ((cmp_isNaN_int y)))] (fun w _ => cmp_isNaN_int_w y w) (by kernel_rfl) (by kernel_rfl) ?_
  generalize hr2 : cmp_isNaN_int y = r2
  refine TL.run 3 [] [(0, .int .i64 x), (1, .int .i64 y), (5, .bool r1), (6, .bool r2)] rfl ⟨by kernel_rfl, by kernel_rfl⟩ ?_
  refine TL.next rfl ?_
  refine TC.seq ?_
  refine TC.seq ?_
  refine TC.region ?_
  refine TL.run 1 [] [(0, .int .i64 x), (1, .int .i64 y), (6, .bool r2), (11, .bool r1)] rfl ⟨by kernel_rfl, by kernel_rfl⟩ ?_
  refine TL.next rfl ?_
  refine TC.cond r1 rfl (by kernel_rfl) (fun h1 => ?_) (fun h1 => ?_)
  · refine TC.seq ?_
    refine TC.seq ?_
    refine TC.region ?_
    refine TL.run 1 [] [(12, .bool r2)] rfl ⟨by kernel_rfl, by kernel_rfl⟩ ?_
    refine TL.next rfl ?_
    refine TC.cond r2 rfl (by kernel_rfl) (fun h2 => ?_) (fun h2 => ?_)
    · refine TC.seq ?_
      refine TC.region ?_
      refine TL.run 1 [] [(4, .int .i64 0)] rfl ⟨by kernel_rfl, by kernel_rfl⟩ ?_
      refine TL.next rfl ?_
      refine TC.ret ?_
      refine TE.ret_then (TE.ret_then ?_)
      have e : cmp_Compare_int x y = 0 := by subst hr1 hr2; unfold cmp_Compare_int; exact cond_t h1 (cond_t h2 (rfl))
      exact TE.ret [] (.int .i64 0) ⟨by kernel_rfl, by kernel_rfl⟩ (by rw [e]; first | done | kernel_rfl)
    · refine TC.skip ?_
      refine TE.next ?_
      refine TC.seq ?_
      refine TC.region ?_
      refine TL.run 1 [] [(4, .int .i64 (-1))] rfl ⟨by kernel_rfl, by kernel_rfl⟩ ?_
      refine TL.next rfl ?_
      refine TC.ret ?_
      refine TE.ret_then ?_
      have e : cmp_Compare_int x y = (-1) := by subst hr1 hr2; unfold cmp_Compare_int; exact cond_t h1 (cond_f h2 (rfl))
      exact TE.ret [] (.int .i64 (-1)) ⟨by kernel_rfl, by kernel_rfl⟩ (by rw [e]; first | done | kernel_rfl)
  · refine TC.skip ?_
    refine TE.next ?_
    refine TC.seq ?_
    refine TC.seq ?_
    refine TC.region ?_
    refine TL.run 1 [] [(0, .int .i64 x), (1, .int .i64 y), (13, .bool r2)] rfl ⟨by kernel_rfl, by kernel_rfl⟩ ?_
    refine TL.next rfl ?_
    refine TC.cond r2 rfl (by kernel_rfl) (fun h3 => ?_) (fun h3 => ?_)
    · refine TC.seq ?_
      refine TC.region ?_
      refine TL.run 1 [] [(4, .int .i64 1)] rfl ⟨by kernel_rfl, by kernel_rfl⟩ ?_
      refine TL.next rfl ?_
      refine TC.ret ?_
      refine TE.ret_then ?_
      have e : cmp_Compare_int x y = 1 := by subst hr1 hr2; unfold cmp_Compare_int; exact cond_f h1 (cond_t h3 (rfl))
      exact TE.ret [] (.int .i64 1) ⟨by kernel_rfl, by kernel_rfl⟩ (by rw [e]; first | done | kernel_rfl)
    · refine TC.skip ?_
      refine TE.next ?_
      refine TC.seq ?_
      refine TC.seq ?_
      refine TC.region ?_
      refine TL.run 3 [] [(0, .int .i64 x), (1, .int .i64 y), (16, .bool (decide (x < y)))] rfl ⟨by kernel_rfl, by kernel_rfl⟩ ?_
      refine TL.next rfl ?_
      refine TC.cond (decide (x < y)) rfl (by kernel_rfl) (fun h4 => ?_) (fun h4 => ?_)
      · refine TC.seq ?_
        refine TC.region ?_
        refine TL.run 1 [] [(4, .int .i64 (-1))] rfl ⟨by kernel_rfl, by kernel_rfl⟩ ?_
        refine TL.next rfl ?_
        refine TC.ret ?_
        refine TE.ret_then ?_
        have e : cmp_Compare_int x y = (-1) := by subst hr1 hr2; unfold cmp_Compare_int; exact cond_f h1 (cond_f h3 (cond_t h4 (rfl)))
        exact TE.ret [] (.int .i64 (-1)) ⟨by kernel_rfl, by kernel_rfl⟩ (by rw [e]; first | done | kernel_rfl)
      · refine TC.skip ?_
        refine TE.next ?_
        refine TC.seq ?_
        refine TC.seq ?_
        refine TC.region ?_
        refine TL.run 3 [] [(19, .bool (decide (x > y)))] rfl ⟨by kernel_rfl, by kernel_rfl⟩ ?_
        refine TL.next rfl ?_
        refine TC.cond (decide (x > y)) rfl (by kernel_rfl) (fun h5 => ?_) (fun h5 => ?_)
        · refine TC.seq ?_
          refine TC.region ?_
          refine TL.run 1 [] [(4, .int .i64 1)] rfl ⟨by kernel_rfl, by kernel_rfl⟩ ?_
          refine TL.next rfl ?_
          refine TC.ret ?_
          refine TE.ret_then ?_
          have e : cmp_Compare_int x y = 1 := by subst hr1 hr2; unfold cmp_Compare_int; exact cond_f h1 (cond_f h3 (cond_f h4 (cond_t h5 (rfl))))
          exact TE.ret [] (.int .i64 1) ⟨by kernel_rfl, by kernel_rfl⟩ (by rw [e]; first | done | kernel_rfl)
        · refine TC.skip ?_
          refine TE.next ?_
          refine TC.seq ?_
          refine TC.region ?_
          refine TL.run 1 [] [(4, .int .i64 0)] rfl ⟨by kernel_rfl, by kernel_rfl⟩ ?_
          refine TL.next rfl ?_
          refine TC.ret ?_
          have e : cmp_Compare_int x y = 0 := by subst hr1 hr2; unfold cmp_Compare_int; exact cond_f h1 (cond_f h3 (cond_f h4 (cond_f h5 (rfl))))
          exact TE.ret [] (.int .i64 0) ⟨by kernel_rfl, by kernel_rfl⟩ (by rw [e]; first | done | kernel_rfl)

def cmp_Or_int_L1 : List Int → Nat → ((Unit) ⊕ (Int))
  | [], _ => .inl ()
  | x :: xs, k => cond (x != 0) (
      .inr x) (
      cmp_Or_int_L1 xs (k + 1))
def cmp_Or_int (vals : List Int) : Int :=
  Sum.elim (fun _ =>
    0) (fun r => r) (cmp_Or_int_L1 vals 0)

set_option maxRecDepth 100000 in
theorem cmp_Or_int_w (A_vals : Option Addr) (c_vals : Nat) (vals : List Int) (w : World) (h_vals : Rd w 1 A_vals (vals.map ic)) (_hc_vals : vals.length ≤ c_vals) : Calls Try.prog 68 #[.slice A_vals vals.length c_vals] w (Ret w (.int .i64 (cmp_Or_int vals))) := by
  have s_vals := h_vals.short; rw [List.length_map] at s_vals
  refine calls_intro (vs := [.slice A_vals vals.length c_vals]) (w := w) Try.func68 rfl Try.ntmps68 rfl ?_
  refine TC.weak [(0, .slice A_vals vals.length c_vals)] (by kernel_rfl) ?_
  refine TC.seq ?_
  refine TC.region ?_
  refine TL.run 1 [] [(0, .slice A_vals vals.length c_vals)] rfl ⟨by kernel_rfl, by kernel_rfl⟩ ?_
  refine TL.next rfl ?_
  refine TC.seq ?_
  refine TC.region ?_
  refine TL.run 1 [] [(0, .slice A_vals vals.length c_vals), (3, .int .i64 0)] rfl ⟨by kernel_rfl, by kernel_rfl⟩ ?_
  refine TL.next rfl ?_
  refine TC.seq ?_
  refine TC.seq ?_
  refine TC.region ?_
  refine TL.run 3 [] [(3, .int .i64 0), (6, .slice A_vals vals.length c_vals), (7, .int .i64 (vals.length : Int)), (8, .int .i64 0)] rfl ⟨by kernel_rfl, by kernel_rfl⟩ ?_
  refine TL.next rfl ?_
  refine TC.weak [(3, .int .i64 0), (6, .slice A_vals vals.length c_vals), (7, .int .i64 (vals.length : Int)), (8, .int .i64 0)] (by kernel_rfl) ?_
  obtain ⟨R1, hR⟩ : ∃ R, R = cmp_Or_int_L1 vals 0 := ⟨_, rfl⟩
  refine TC.cut (S := Unit) (fun (_ : Unit) => [(3, .int .i64 0)]) (fun (_ : Unit) => []) (fun (_ : Unit) => R1 = .inl ()) ?_ ?_
  · refine TC.block ?_
    refine TC.loop (X := Nat) (fun k => [(3, .int .i64 0), (6, .slice A_vals vals.length c_vals), (7, .int .i64 (vals.length : Int)), (8, .int .i64 (k : Int))]) (fun k => []) (fun k => vals.length - k) (fun k => k ≤ vals.length ∧ R1 = cmp_Or_int_L1 (vals.drop k) k) ?_ 0 ⟨Nat.zero_le _, hR⟩
    rintro k ⟨hk, hI⟩
    refine TC.seq ?_
    refine TC.region ?_
    refine TL.run 1 [] [(3, .int .i64 0), (6, .slice A_vals vals.length c_vals), (7, .int .i64 (vals.length : Int)), (8, .int .i64 (k : Int)), (9, .bool (decide ((k : Int) < (vals.length : Int))))] rfl ⟨by kernel_rfl, by kernel_rfl⟩ ?_
    refine TL.next rfl ?_
    refine TC.seq ?_
    refine TC.cond (decide ((k : Int) < (vals.length : Int))) rfl (by kernel_rfl) (fun h1 => ?_) (fun h1 => ?_)
    · have hlt : k < vals.length := by have := of_decide_eq_true h1; first | omega | (simp at this; omega)
      obtain ⟨x, hx⟩ : ∃ e_, vals[k]? = some e_ := ⟨_, List.getElem?_eq_getElem hlt⟩
      have hd := drop_at hx
      refine TC.skip ?_
      refine TE.next ?_
      refine TC.seq ?_
      refine TC.block ?_
      refine TC.seq ?_
      refine TC.region ?_
      refine TL.val (sV (Instr.indexAt 23 (.slice A_vals vals.length c_vals) (.int .i64 (k : Int)))) (some 10) (.pointer (some ((A_vals.getD noAddr).add (k * 1)))) [(3, .int .i64 0), (6, .slice A_vals vals.length c_vals), (7, .int .i64 (vals.length : Int)), (8, .int .i64 (k : Int)), (10, .pointer (some ((A_vals.getD noAddr).add (k * 1))))] (fun w hM => run_index (h_vals.sat hM) (by simp) (by kernel_rfl) (by first | omega | (rw [List.length_set]; omega) | (rw [w64_id (by omega)]; omega) | (dsimp only; omega) | (rw [List.length_drop]; omega) | (simp only [w64_eq]; omega) | exact (tm_in (by (first | (rw [w64_id (by omega)]; omega) | (simp only [w64_eq]; omega))) (by omega)).1 | exact (tm_in (by (first | (rw [w64_id (by omega)]; omega) | (simp only [w64_eq]; omega))) (by omega)).2.1 | exact (tm_in (by (first | (rw [w64_id (by omega)]; omega) | (simp only [w64_eq]; omega))) (by omega)).2.2 | (simp only [List.length_take] at *; omega) | (simp <;> omega)) (by first | omega | (rw [List.length_set]; omega) | (rw [w64_id (by omega)]; omega) | (dsimp only; omega) | (rw [List.length_drop]; omega) | (simp only [w64_eq]; omega) | exact (tm_in (by (first | (rw [w64_id (by omega)]; omega) | (simp only [w64_eq]; omega))) (by omega)).1 | exact (tm_in (by (first | (rw [w64_id (by omega)]; omega) | (simp only [w64_eq]; omega))) (by omega)).2.1 | exact (tm_in (by (first | (rw [w64_id (by omega)]; omega) | (simp only [w64_eq]; omega))) (by omega)).2.2 | (simp only [List.length_take] at *; omega) | (simp <;> omega))) (by kernel_rfl) (by kernel_rfl) ?_
      refine TL.val (sV (Instr.loadAt 3 (.pointer (some ((A_vals.getD noAddr).add (k * 1)))))) (some 11) (.int .i64 x) [(3, .int .i64 0), (6, .slice A_vals vals.length c_vals), (7, .int .i64 (vals.length : Int)), (8, .int .i64 (k : Int)), (11, .int .i64 x)] (fun w hM => run_load_one (off := 0) (i := k) (.int .i64 x) (h_vals.sat hM) (map_at hx) (by kernel_rfl) (by kernel_rfl)) (by kernel_rfl) (by kernel_rfl) ?_
      refine TL.run 3 [] [(3, .int .i64 0), (5, .int .i64 x), (6, .slice A_vals vals.length c_vals), (7, .int .i64 (vals.length : Int)), (8, .int .i64 (k : Int))] rfl ⟨by kernel_rfl, by kernel_rfl⟩ ?_
      refine TL.next rfl ?_
      refine TC.seq ?_
      refine TC.region ?_
      refine TL.run 3 [] [(3, .int .i64 0), (5, .int .i64 x), (6, .slice A_vals vals.length c_vals), (7, .int .i64 (vals.length : Int)), (8, .int .i64 (k : Int)), (14, .bool (x != 0))] rfl ⟨by kernel_rfl, by kernel_rfl⟩ ?_
      refine TL.next rfl ?_
      refine TC.cond (x != 0) rfl (by kernel_rfl) (fun h2 => ?_) (fun h2 => ?_)
      · refine TC.seq ?_
        refine TC.region ?_
        refine TL.run 2 [] [(2, .int .i64 x)] rfl ⟨by kernel_rfl, by kernel_rfl⟩ ?_
        refine TL.next rfl ?_
        refine TC.ret ?_
        refine TE.ret_block (TE.ret_then (TE.ret_then (TE.ret_block (TE.ret_then (TE.ret_then ?_)))))
        have e : cmp_Or_int vals = x := by unfold cmp_Or_int; exact elim_r (hR.symm.trans (hI.trans (by rw [hd]; exact cond_t h2 (rfl)))) rfl
        exact TE.ret [] (.int .i64 x) ⟨by kernel_rfl, by kernel_rfl⟩ (by rw [e]; first | done | kernel_rfl)
      · refine TC.skip ?_
        refine TE.normal_block ?_
        refine TE.next ?_
        refine TC.region ?_
        refine TL.run 2 [] [(3, .int .i64 0), (6, .slice A_vals vals.length c_vals), (7, .int .i64 (vals.length : Int)), (8, .int .i64 (w64 ((k : Int) + 1)))] rfl ⟨by kernel_rfl, by kernel_rfl⟩ ?_
        refine TL.done rfl ?_
        refine TE.rw 8 (.int .i64 (w64 ((k : Int) + 1))) (.int .i64 ((k + 1 : Nat) : Int)) (by kernel_rfl) (w64_cast k (by omega)) ?_
        exact TE.again (x := k) (k + 1) ⟨by omega, hI.trans (by rw [hd]; exact cond_f h2 (rfl))⟩ (by show vals.length - (k + 1) < vals.length - k; omega) (by kernel_rfl) (.slnil)
    · have hd : vals.drop k = [] := List.drop_eq_nil_of_le (by have := of_decide_eq_false h1; first | omega | (simp at this; omega))
      refine TC.exit ?_
      refine TE.exit_then (TE.exit_then (TE.exit_same ?_))
      exact TE.cut () (hI.trans (by rw [hd]; exact rfl)) (by kernel_rfl) (.slnil)
  · intro _ hJ
    refine TE.next ?_
    refine TC.seq ?_
    refine TC.region ?_
    refine TL.run 2 [] [(2, .int .i64 0)] rfl ⟨by kernel_rfl, by kernel_rfl⟩ ?_
    refine TL.next rfl ?_
    refine TC.ret ?_
    have e : cmp_Or_int vals = 0 := by unfold cmp_Or_int; exact elim_l (hR.symm.trans hJ) (rfl)
    exact TE.ret [] (.int .i64 0) ⟨by kernel_rfl, by kernel_rfl⟩ (by rw [e]; first | done | kernel_rfl)

end Go.Sky
