/- Functions of the program, each with the Lean function that it computes. Conditions: none. -/
import Derived.Test.YtbhemgagabdjkaaWd
import Derived.Test.YtbhemgagabdjkaaWb
namespace Go.Sky
open Go Go.Eng Go.Proofs
def climb_Through_L1 (l : List ClimbReport) (level : Int) (from_ : Int) : Nat → Nat → ((Unit) ⊕ (Int × Int))
  | 0, _ => .inl ()
  | m + 1, k => let r2 := climb_Heights l (from_ + (k : Int))
    cond (r2.2.2 == 0) (
      cond (decide (level ≥ ((l[(l.length - 1)]?.getD ClimbReport.zero).Level))) (
        cond (decide (r2.2.1 ≥ (w64 (100 * level)))) (
          .inr ((from_ + (k : Int)), 0)) (
          cond (!(decide (level ≥ ((l[(l.length - 1)]?.getD ClimbReport.zero).Level)))) (
            cond (decide (r2.1 < (w64 ((w64 (100 * level)) + 100)))) (
              .inr ((from_ + (k : Int)), 0)) (
              climb_Through_L1 l level from_ m (k + 1))) (
            climb_Through_L1 l level from_ m (k + 1)))) (
        cond (!(decide (level ≥ ((l[(l.length - 1)]?.getD ClimbReport.zero).Level)))) (
          cond (decide (r2.1 < (w64 ((w64 (100 * level)) + 100)))) (
            .inr ((from_ + (k : Int)), 0)) (
            climb_Through_L1 l level from_ m (k + 1))) (
          climb_Through_L1 l level from_ m (k + 1)))) (
      climb_Through_L1 l level from_ m (k + 1))
def climb_Through (l : List ClimbReport) (level : Int) (from_ : Int) (within : Int) : Int × Int :=
  let r1 := climb_Check l
  cond (r1 != 0) (
    (0, r1)) (
    cond ((((((decide (level < 0)) || (decide (level > 600))) || (decide (from_ < 0))) || (decide (from_ > 200000))) || (decide (within < 0))) || (decide (within > 600))) (
      (0, 4)) (
      cond ((l.length : Int) == 0) (
        (0, 8)) (
        Sum.elim (fun _ =>
          (0, 8)) (fun r => r) (climb_Through_L1 l level from_ ((imin (w64 (from_ + within)) 200000 - from_ + 1).toNat) 0))))

theorem ite_of_cond' {α : Type} (c : Bool) (x y : α) : cond c x y = if c = true then x else y := by cases c <;> rfl
theorem check_form (l : List ClimbReport) : ∀ (xs : List ClimbReport) (k : Nat), climb_Check_L1 l xs k = .inl () ∨ climb_Check_L1 l xs k = .inr 4 ∨ climb_Check_L1 l xs k = .inr 12
  | [], _ => .inl rfl
  | x :: xs, k => by
    unfold climb_Check_L1
    simp only [ite_of_cond']
    split
    · exact .inr (.inl rfl)
    · split
      · split
        · exact .inr (.inr rfl)
        · exact check_form l xs (k + 1)
      · exact check_form l xs (k + 1)

set_option maxRecDepth 100000 in
theorem climb_Through_w (A_l : Option Addr) (c_l : Nat) (l : List ClimbReport) (level : Int) (from_ : Int) (within : Int) (w : World) (h_l : Rd w 2 A_l (l.map ClimbReport.c)) (hc_l : l.length ≤ c_l) : Calls Try.prog 36 #[.slice A_l l.length c_l, .int .i64 level, .int .i64 from_, .int .i64 within] w (Ret w (.tuple #[.int .i64 ((climb_Through l level from_ within).1), .int .i64 ((climb_Through l level from_ within).2)])) := by
  have s_l := h_l.short; rw [List.length_map] at s_l
  refine calls_intro (vs := [.slice A_l l.length c_l, .int .i64 level, .int .i64 from_, .int .i64 within]) (w := w) Try.func36 rfl Try.ntmps36 rfl ?_
  refine TC.weak [(0, .slice A_l l.length c_l), (1, .int .i64 level), (2, .int .i64 from_), (3, .int .i64 within)] (by kernel_rfl) ?_
  refine TC.seq ?_
  refine TC.region ?_
  refine TL.run 2 [] [(0, .slice A_l l.length c_l), (1, .int .i64 level), (2, .int .i64 from_), (3, .int .i64 within)] rfl ⟨by kernel_rfl, by kernel_rfl⟩ ?_
  refine TL.next rfl ?_
  refine TC.seq ?_
  refine TC.seq ?_
  refine TC.region ?_
  refine TL.run 1 [] [(0, .slice A_l l.length c_l), (1, .int .i64 level), (2, .int .i64 from_), (3, .int .i64 within), (16, .slice A_l l.length c_l)] rfl ⟨by kernel_rfl, by kernel_rfl⟩ ?_
  refine TL.call (some 17) [(0, .slice A_l l.length c_l), (1, .int .i64 level), (2, .int .i64 from_), (3, .int .i64 within), (17, .int .i64 (climb_Check l))] (fun w hM => climb_Check_w A_l c_l l w (h_l.sat hM) hc_l) (by kernel_rfl) (by kernel_rfl) ?_
  generalize hr1 : climb_Check l = r1
  refine TL.run 3 [] [(0, .slice A_l l.length c_l), (1, .int .i64 level), (2, .int .i64 from_), (3, .int .i64 within), (10, .int .i64 r1)] rfl ⟨by kernel_rfl, by kernel_rfl⟩ ?_
  refine TL.next rfl ?_
  refine TC.seq ?_
  refine TC.region ?_
  refine TL.run 2 [] [(0, .slice A_l l.length c_l), (1, .int .i64 level), (2, .int .i64 from_), (3, .int .i64 within), (10, .int .i64 r1), (19, .bool (r1 != 0))] rfl ⟨by kernel_rfl, by kernel_rfl⟩ ?_
  refine TL.next rfl ?_
  refine TC.cond (r1 != 0) rfl (by kernel_rfl) (fun h1 => ?_) (fun h1 => ?_)
  · refine TC.seq ?_
    refine TC.region ?_
    refine TL.run 3 [] [(8, .int .i64 0), (9, .int .i64 r1)] rfl ⟨by kernel_rfl, by kernel_rfl⟩ ?_
    refine TL.next rfl ?_
    refine TC.ret ?_
    refine TE.ret_then ?_
    have e : climb_Through l level from_ within = (0, r1) := by subst hr1; unfold climb_Through; exact cond_t h1 (rfl)
    exact TE.ret [] (.tuple #[.int .i64 0, .int .i64 r1]) ⟨by kernel_rfl, by kernel_rfl⟩ (by rw [e]; first | done | kernel_rfl)
  · refine TC.skip ?_
    refine TE.next ?_
    refine TC.seq ?_
    refine TC.block ?_
    refine TC.seq ?_
    refine TC.region ?_
    refine TL.run 3 [] [(0, .slice A_l l.length c_l), (1, .int .i64 level), (2, .int .i64 from_), (3, .int .i64 within), (24, .bool (decide (level < 0)))] rfl ⟨by kernel_rfl, by kernel_rfl⟩ ?_
    refine TL.join 24 (decide (level < 0)) 6 [] [] (fun β => [(0, .slice A_l l.length c_l), (1, .int .i64 level), (2, .int .i64 from_), (3, .int .i64 within), (27, .bool (β || (decide (level > 600))))]) (by kernel_rfl) rfl ⟨by kernel_rfl, by kernel_rfl⟩ ⟨by kernel_rfl, by kernel_rfl⟩ ?_
    refine TL.run 7 [] [(0, .slice A_l l.length c_l), (1, .int .i64 level), (2, .int .i64 from_), (3, .int .i64 within), (28, .bool ((decide (level < 0)) || (decide (level > 600))))] rfl ⟨by kernel_rfl, by kernel_rfl⟩ ?_
    refine TL.join 28 ((decide (level < 0)) || (decide (level > 600))) 10 [] [] (fun β => [(0, .slice A_l l.length c_l), (1, .int .i64 level), (2, .int .i64 from_), (3, .int .i64 within), (31, .bool (β || (decide (from_ < 0))))]) (by kernel_rfl) rfl ⟨by kernel_rfl, by kernel_rfl⟩ ⟨by kernel_rfl, by kernel_rfl⟩ ?_
    refine TL.run 11 [] [(0, .slice A_l l.length c_l), (1, .int .i64 level), (2, .int .i64 from_), (3, .int .i64 within), (32, .bool (((decide (level < 0)) || (decide (level > 600))) || (decide (from_ < 0))))] rfl ⟨by kernel_rfl, by kernel_rfl⟩ ?_
    refine TL.join 32 (((decide (level < 0)) || (decide (level > 600))) || (decide (from_ < 0))) 14 [] [] (fun β => [(0, .slice A_l l.length c_l), (1, .int .i64 level), (2, .int .i64 from_), (3, .int .i64 within), (35, .bool (β || (decide (from_ > 200000))))]) (by kernel_rfl) rfl ⟨by kernel_rfl, by kernel_rfl⟩ ⟨by kernel_rfl, by kernel_rfl⟩ ?_
    refine TL.run 15 [] [(0, .slice A_l l.length c_l), (1, .int .i64 level), (2, .int .i64 from_), (3, .int .i64 within), (36, .bool ((((decide (level < 0)) || (decide (level > 600))) || (decide (from_ < 0))) || (decide (from_ > 200000))))] rfl ⟨by kernel_rfl, by kernel_rfl⟩ ?_
    refine TL.join 36 ((((decide (level < 0)) || (decide (level > 600))) || (decide (from_ < 0))) || (decide (from_ > 200000))) 18 [] [] (fun β => [(0, .slice A_l l.length c_l), (1, .int .i64 level), (2, .int .i64 from_), (3, .int .i64 within), (39, .bool (β || (decide (within < 0))))]) (by kernel_rfl) rfl ⟨by kernel_rfl, by kernel_rfl⟩ ⟨by kernel_rfl, by kernel_rfl⟩ ?_
    refine TL.run 19 [] [(0, .slice A_l l.length c_l), (1, .int .i64 level), (2, .int .i64 from_), (3, .int .i64 within), (40, .bool (((((decide (level < 0)) || (decide (level > 600))) || (decide (from_ < 0))) || (decide (from_ > 200000))) || (decide (within < 0))))] rfl ⟨by kernel_rfl, by kernel_rfl⟩ ?_
    refine TL.join 40 (((((decide (level < 0)) || (decide (level > 600))) || (decide (from_ < 0))) || (decide (from_ > 200000))) || (decide (within < 0))) 22 [] [] (fun β => [(0, .slice A_l l.length c_l), (1, .int .i64 level), (2, .int .i64 from_), (3, .int .i64 within), (43, .bool (β || (decide (within > 600))))]) (by kernel_rfl) rfl ⟨by kernel_rfl, by kernel_rfl⟩ ⟨by kernel_rfl, by kernel_rfl⟩ ?_
    refine TL.run 23 [] [(0, .slice A_l l.length c_l), (1, .int .i64 level), (2, .int .i64 from_), (3, .int .i64 within), (21, .bool ((((((decide (level < 0)) || (decide (level > 600))) || (decide (from_ < 0))) || (decide (from_ > 200000))) || (decide (within < 0))) || (decide (within > 600))))] rfl ⟨by kernel_rfl, by kernel_rfl⟩ ?_
    refine TL.next rfl ?_
    refine TC.cond ((((((decide (level < 0)) || (decide (level > 600))) || (decide (from_ < 0))) || (decide (from_ > 200000))) || (decide (within < 0))) || (decide (within > 600))) rfl (by kernel_rfl) (fun h2 => ?_) (fun h2 => ?_)
    · refine TC.seq ?_
      refine TC.region ?_
      refine TL.run 2 [] [(8, .int .i64 0), (9, .int .i64 4)] rfl ⟨by kernel_rfl, by kernel_rfl⟩ ?_
      refine TL.next rfl ?_
      refine TC.ret ?_
      refine TE.ret_block (TE.ret_then ?_)
      have e : climb_Through l level from_ within = (0, 4) := by subst hr1; unfold climb_Through; exact cond_f h1 (cond_t h2 (rfl))
      exact TE.ret [] (.tuple #[.int .i64 0, .int .i64 4]) ⟨by kernel_rfl, by kernel_rfl⟩ (by rw [e]; first | done | kernel_rfl)
    · refine TC.seq ?_
      refine TC.region ?_
      refine TL.run 4 [] [(0, .slice A_l l.length c_l), (1, .int .i64 level), (2, .int .i64 from_), (3, .int .i64 within), (44, .bool ((l.length : Int) == 0))] rfl ⟨by kernel_rfl, by kernel_rfl⟩ ?_
      refine TL.next rfl ?_
      refine TC.cond ((l.length : Int) == 0) rfl (by kernel_rfl) (fun h3 => ?_) (fun h3 => ?_)
      · refine TC.seq ?_
        refine TC.region ?_
        refine TL.run 2 [] [(8, .int .i64 0), (9, .int .i64 8)] rfl ⟨by kernel_rfl, by kernel_rfl⟩ ?_
        refine TL.next rfl ?_
        refine TC.ret ?_
        refine TE.ret_block (TE.ret_then ?_)
        have e : climb_Through l level from_ within = (0, 8) := by subst hr1; unfold climb_Through; exact cond_f h1 (cond_f h2 (cond_t h3 (rfl)))
        exact TE.ret [] (.tuple #[.int .i64 0, .int .i64 8]) ⟨by kernel_rfl, by kernel_rfl⟩ (by rw [e]; first | done | kernel_rfl)
      · refine TC.skip ?_
        refine TE.normal_block ?_
        refine TE.next ?_
        refine TC.seq ?_
        refine TC.region ?_
        refine TL.run 5 [] [(0, .slice A_l l.length c_l), (1, .int .i64 level), (2, .int .i64 from_), (3, .int .i64 within), (48, .int .i64 level), (49, .slice A_l l.length c_l), (52, .int .i64 (w64 ((l.length : Int) - 1)))] rfl ⟨by kernel_rfl, by kernel_rfl⟩ ?_
        refine TL.rw 52 (.int .i64 (w64 ((l.length : Int) - 1))) (.int .i64 ((l.length - 1 : Nat) : Int)) (by kernel_rfl) (w64_pred l.length (by have q0_ := (bne_f h1); have q1_ := (dec_f (or_f1 (or_f1 (or_f1 (or_f1 (or_f1 h2)))))); have q2_ := (dec_f (or_f2 (or_f1 (or_f1 (or_f1 (or_f1 h2)))))); have q3_ := (dec_f (or_f2 (or_f1 (or_f1 (or_f1 h2))))); have q4_ := (dec_f (or_f2 (or_f1 (or_f1 h2)))); have q5_ := (dec_f (or_f2 (or_f1 h2))); have q6_ := (dec_f (or_f2 h2)); have q7_ := (beq_f h3); first | omega | (simp only [List.length_drop]; omega) | (simp only [w64_eq]; omega))) ?_
        refine TL.val (sV (Instr.indexAt 34 (.slice A_l l.length c_l) (.int .i64 ((l.length - 1 : Nat) : Int)))) (some 53) (.pointer (some ((A_l.getD noAddr).add ((l.length - 1) * 2)))) [(0, .slice A_l l.length c_l), (1, .int .i64 level), (2, .int .i64 from_), (3, .int .i64 within), (48, .int .i64 level), (53, .pointer (some ((A_l.getD noAddr).add ((l.length - 1) * 2))))] (fun w hM => run_index (h_l.sat hM) (by simp) (by kernel_rfl) (by have q0_ := (bne_f h1); have q1_ := (dec_f (or_f1 (or_f1 (or_f1 (or_f1 (or_f1 h2)))))); have q2_ := (dec_f (or_f2 (or_f1 (or_f1 (or_f1 (or_f1 h2)))))); have q3_ := (dec_f (or_f2 (or_f1 (or_f1 (or_f1 h2))))); have q4_ := (dec_f (or_f2 (or_f1 (or_f1 h2)))); have q5_ := (dec_f (or_f2 (or_f1 h2))); have q6_ := (dec_f (or_f2 h2)); have q7_ := (beq_f h3); first | omega | (simp only [List.length_drop]; omega) | (simp only [w64_eq]; omega)) (by have q0_ := (bne_f h1); have q1_ := (dec_f (or_f1 (or_f1 (or_f1 (or_f1 (or_f1 h2)))))); have q2_ := (dec_f (or_f2 (or_f1 (or_f1 (or_f1 (or_f1 h2)))))); have q3_ := (dec_f (or_f2 (or_f1 (or_f1 (or_f1 h2))))); have q4_ := (dec_f (or_f2 (or_f1 (or_f1 h2)))); have q5_ := (dec_f (or_f2 (or_f1 h2))); have q6_ := (dec_f (or_f2 h2)); have q7_ := (beq_f h3); first | omega | (simp only [List.length_drop]; omega) | (simp only [w64_eq]; omega))) (by kernel_rfl) (by kernel_rfl) ?_
        refine TL.run 7 [] [(0, .slice A_l l.length c_l), (1, .int .i64 level), (2, .int .i64 from_), (3, .int .i64 within), (48, .int .i64 level), (54, .pointer (some (((A_l.getD noAddr).add ((l.length - 1) * 2)).add 1)))] rfl ⟨by kernel_rfl, by kernel_rfl⟩ ?_
        refine TL.val (sV (Instr.loadAt 3 (.pointer (some (((A_l.getD noAddr).add ((l.length - 1) * 2)).add 1))))) (some 55) (.int .i64 ((l[(l.length - 1)]?.getD ClimbReport.zero).Level)) [(0, .slice A_l l.length c_l), (1, .int .i64 level), (2, .int .i64 from_), (3, .int .i64 within), (48, .int .i64 level), (55, .int .i64 ((l[(l.length - 1)]?.getD ClimbReport.zero).Level))] (fun w hM => run_load_one (off := 1) (.int .i64 ((l[(l.length - 1)]?.getD ClimbReport.zero).Level)) (h_l.sat hM) (map_at (getD_at _ _ ClimbReport.zero (by have q0_ := (bne_f h1); have q1_ := (dec_f (or_f1 (or_f1 (or_f1 (or_f1 (or_f1 h2)))))); have q2_ := (dec_f (or_f2 (or_f1 (or_f1 (or_f1 (or_f1 h2)))))); have q3_ := (dec_f (or_f2 (or_f1 (or_f1 (or_f1 h2))))); have q4_ := (dec_f (or_f2 (or_f1 (or_f1 h2)))); have q5_ := (dec_f (or_f2 (or_f1 h2))); have q6_ := (dec_f (or_f2 h2)); have q7_ := (beq_f h3); first | omega | (simp only [List.length_drop]; omega) | (simp only [w64_eq]; omega)))) (by kernel_rfl) (by kernel_rfl)) (by kernel_rfl) (by kernel_rfl) ?_
        refine TL.run 10 [] [(0, .slice A_l l.length c_l), (1, .int .i64 level), (2, .int .i64 from_), (3, .int .i64 within), (11, .bool (decide (level ≥ ((l[(l.length - 1)]?.getD ClimbReport.zero).Level))))] rfl ⟨by kernel_rfl, by kernel_rfl⟩ ?_
        refine TL.next rfl ?_
        refine TC.seq ?_
        refine TC.seq ?_
        refine TC.region ?_
        refine TL.run 2 [] [(0, .slice A_l l.length c_l), (1, .int .i64 level), (2, .int .i64 from_), (3, .int .i64 within), (11, .bool (decide (level ≥ ((l[(l.length - 1)]?.getD ClimbReport.zero).Level)))), (12, .int .i64 from_)] rfl ⟨by kernel_rfl, by kernel_rfl⟩ ?_
        refine TL.next rfl ?_
        refine TC.weak [(0, .slice A_l l.length c_l), (1, .int .i64 level), (2, .int .i64 from_), (3, .int .i64 within), (11, .bool (decide (level ≥ ((l[(l.length - 1)]?.getD ClimbReport.zero).Level)))), (12, .int .i64 from_)] (by kernel_rfl) ?_
        obtain ⟨R1, hR⟩ : ∃ R, R = climb_Through_L1 l level from_ ((imin (w64 (from_ + within)) 200000 - from_ + 1).toNat) 0 := ⟨_, rfl⟩
        refine TC.cut (S := Unit) (fun (_ : Unit) => []) (fun (_ : Unit) => []) (fun (_ : Unit) => R1 = .inl ()) ?_ ?_
        · refine TC.block ?_
          refine TC.rw 12 (.int .i64 from_) (.int .i64 (from_ + ((0 : Nat) : Int))) (by kernel_rfl) (int_eq (by omega)) ?_
          refine TC.weak [(0, .slice A_l l.length c_l), (1, .int .i64 level), (2, .int .i64 from_), (3, .int .i64 within), (11, .bool (decide (level ≥ ((l[(l.length - 1)]?.getD ClimbReport.zero).Level)))), (12, .int .i64 (from_ + ((0 : Nat) : Int)))] (by kernel_rfl) ?_
          refine TC.loop (X := Nat) (fun k => [(0, .slice A_l l.length c_l), (1, .int .i64 level), (2, .int .i64 from_), (3, .int .i64 within), (11, .bool (decide (level ≥ ((l[(l.length - 1)]?.getD ClimbReport.zero).Level)))), (12, .int .i64 (from_ + (k : Int)))]) (fun k => []) (fun k => ((imin (w64 (from_ + within)) 200000 - from_ + 1).toNat) - k) (fun k => k ≤ ((imin (w64 (from_ + within)) 200000 - from_ + 1).toNat) ∧ R1 = climb_Through_L1 l level from_ (((imin (w64 (from_ + within)) 200000 - from_ + 1).toNat) - k) k) ?_ 0 ⟨Nat.zero_le _, hR⟩
          rintro k ⟨hk, hI⟩
          refine TC.seq ?_
          refine TC.seq ?_
          refine TC.region ?_
          refine TL.run 6 [] [(0, .slice A_l l.length c_l), (1, .int .i64 level), (2, .int .i64 from_), (3, .int .i64 within), (11, .bool (decide (level ≥ ((l[(l.length - 1)]?.getD ClimbReport.zero).Level)))), (12, .int .i64 (from_ + (k : Int))), (63, .bool (decide ((from_ + (k : Int)) ≤ (imin (w64 (from_ + within)) 200000))))] rfl ⟨by kernel_rfl, by kernel_rfl⟩ ?_
          refine TL.next rfl ?_
          refine TC.cond (decide ((from_ + (k : Int)) ≤ (imin (w64 (from_ + within)) 200000))) rfl (by kernel_rfl) (fun h4 => ?_) (fun h4 => ?_)
          · have hlt : k < ((imin (w64 (from_ + within)) 200000 - from_ + 1).toNat) := by have q0_ := (bne_f h1); have q1_ := (dec_f (or_f1 (or_f1 (or_f1 (or_f1 (or_f1 h2)))))); have q2_ := (dec_f (or_f2 (or_f1 (or_f1 (or_f1 (or_f1 h2)))))); have q3_ := (dec_f (or_f2 (or_f1 (or_f1 (or_f1 h2))))); have q4_ := (dec_f (or_f2 (or_f1 (or_f1 h2)))); have q5_ := (dec_f (or_f2 (or_f1 h2))); have q6_ := (dec_f (or_f2 h2)); have q7_ := (beq_f h3); have p0_ := (dec_t h4); have u1_ := imin_r (w64 (from_ + within)) 200000; first | omega | (simp only [w64_eq] at *; omega)
            have hd : ((imin (w64 (from_ + within)) 200000 - from_ + 1).toNat) - k = (((imin (w64 (from_ + within)) 200000 - from_ + 1).toNat) - (k + 1)) + 1 := by omega
            refine TC.skip ?_
            refine TE.next ?_
            refine TC.seq ?_
            refine TC.block ?_
            refine TC.seq ?_
            refine TC.region ?_
            refine TL.run 2 [] [(0, .slice A_l l.length c_l), (1, .int .i64 level), (2, .int .i64 from_), (3, .int .i64 within), (11, .bool (decide (level ≥ ((l[(l.length - 1)]?.getD ClimbReport.zero).Level)))), (12, .int .i64 (from_ + (k : Int))), (67, .slice A_l l.length c_l), (68, .int .i64 (from_ + (k : Int)))] rfl ⟨by kernel_rfl, by kernel_rfl⟩ ?_
            refine TL.call (some 69) [(0, .slice A_l l.length c_l), (1, .int .i64 level), (2, .int .i64 from_), (3, .int .i64 within), (11, .bool (decide (level ≥ ((l[(l.length - 1)]?.getD ClimbReport.zero).Level)))), (12, .int .i64 (from_ + (k : Int))), (69, .tuple #[.int .i64 ((climb_Heights l (from_ + (k : Int))).1), .int .i64 ((climb_Heights l (from_ + (k : Int))).2.1), .int .i64 ((climb_Heights l (from_ + (k : Int))).2.2)])] (fun w hM => climb_Heights_w A_l c_l l (from_ + (k : Int)) w (h_l.sat hM) hc_l) (by kernel_rfl) (by kernel_rfl) ?_
            generalize hr2 : climb_Heights l (from_ + (k : Int)) = r2
            refine TL.run 10 [] [(0, .slice A_l l.length c_l), (1, .int .i64 level), (2, .int .i64 from_), (3, .int .i64 within), (11, .bool (decide (level ≥ ((l[(l.length - 1)]?.getD ClimbReport.zero).Level)))), (12, .int .i64 (from_ + (k : Int))), (13, .int .i64 r2.1), (14, .int .i64 r2.2.1), (15, .int .i64 r2.2.2)] rfl ⟨by kernel_rfl, by kernel_rfl⟩ ?_
            refine TL.next rfl ?_
            refine TC.seq ?_
            refine TC.region ?_
            refine TL.run 3 [] [(0, .slice A_l l.length c_l), (1, .int .i64 level), (2, .int .i64 from_), (3, .int .i64 within), (11, .bool (decide (level ≥ ((l[(l.length - 1)]?.getD ClimbReport.zero).Level)))), (12, .int .i64 (from_ + (k : Int))), (13, .int .i64 r2.1), (14, .int .i64 r2.2.1), (75, .bool (r2.2.2 == 0))] rfl ⟨by kernel_rfl, by kernel_rfl⟩ ?_
            refine TL.split 75 (r2.2.2 == 0) (by kernel_rfl) (fun h5 => ?_) (fun h5 => ?_)
            · refine TL.run 5 [] [(0, .slice A_l l.length c_l), (1, .int .i64 level), (2, .int .i64 from_), (3, .int .i64 within), (11, .bool (decide (level ≥ ((l[(l.length - 1)]?.getD ClimbReport.zero).Level)))), (12, .int .i64 (from_ + (k : Int))), (13, .int .i64 r2.1), (14, .int .i64 r2.2.1), (75, .bool true), (77, .bool (decide (level ≥ ((l[(l.length - 1)]?.getD ClimbReport.zero).Level))))] rfl ⟨by kernel_rfl, by kernel_rfl⟩ ?_
              refine TL.split 77 (decide (level ≥ ((l[(l.length - 1)]?.getD ClimbReport.zero).Level))) (by kernel_rfl) (fun h6 => ?_) (fun h6 => ?_)
              · refine TL.run 11 [] [(0, .slice A_l l.length c_l), (1, .int .i64 level), (2, .int .i64 from_), (3, .int .i64 within), (11, .bool (decide (level ≥ ((l[(l.length - 1)]?.getD ClimbReport.zero).Level)))), (12, .int .i64 (from_ + (k : Int))), (13, .int .i64 r2.1), (75, .bool true), (83, .bool (decide (r2.2.1 ≥ (w64 (100 * level)))))] rfl ⟨by kernel_rfl, by kernel_rfl⟩ ?_
                refine TL.split 83 (decide (r2.2.1 ≥ (w64 (100 * level)))) (by kernel_rfl) (fun h7 => ?_) (fun h7 => ?_)
                · refine TL.run 22 [] [(0, .slice A_l l.length c_l), (1, .int .i64 level), (2, .int .i64 from_), (3, .int .i64 within), (11, .bool (decide (level ≥ ((l[(l.length - 1)]?.getD ClimbReport.zero).Level)))), (12, .int .i64 (from_ + (k : Int))), (94, .bool true)] rfl ⟨by kernel_rfl, by kernel_rfl⟩ ?_
                  refine TL.next rfl ?_
                  refine TC.condT rfl (by kernel_rfl) ?_
                  refine TC.seq ?_
                  refine TC.region ?_
                  refine TL.run 3 [] [(8, .int .i64 (from_ + (k : Int))), (9, .int .i64 0)] rfl ⟨by kernel_rfl, by kernel_rfl⟩ ?_
                  refine TL.next rfl ?_
                  refine TC.ret ?_
                  refine TE.ret_block (TE.ret_then (TE.ret_then (TE.ret_block (TE.ret_then (TE.ret_then ?_)))))
                  have e : climb_Through l level from_ within = ((from_ + (k : Int)), 0) := by subst hr1 hr2; unfold climb_Through; exact cond_f h1 (cond_f h2 (cond_f h3 (elim_r (hR.symm.trans (hI.trans (by rw [hd]; exact cond_t h5 (cond_t h6 (cond_t h7 (rfl)))))) rfl)))
                  exact TE.ret [] (.tuple #[.int .i64 (from_ + (k : Int)), .int .i64 0]) ⟨by kernel_rfl, by kernel_rfl⟩ (by rw [e]; first | done | kernel_rfl)
                · refine TL.run 14 [] [(0, .slice A_l l.length c_l), (1, .int .i64 level), (2, .int .i64 from_), (3, .int .i64 within), (11, .bool (decide (level ≥ ((l[(l.length - 1)]?.getD ClimbReport.zero).Level)))), (12, .int .i64 (from_ + (k : Int))), (13, .int .i64 r2.1), (75, .bool true), (83, .bool false), (86, .bool (!(decide (level ≥ ((l[(l.length - 1)]?.getD ClimbReport.zero).Level)))))] rfl ⟨by kernel_rfl, by kernel_rfl⟩ ?_
                  refine TL.split 86 (!(decide (level ≥ ((l[(l.length - 1)]?.getD ClimbReport.zero).Level)))) (by kernel_rfl) (fun h8 => ?_) (fun h8 => ?_)
                  · refine TL.run 22 [] [(0, .slice A_l l.length c_l), (1, .int .i64 level), (2, .int .i64 from_), (3, .int .i64 within), (11, .bool (decide (level ≥ ((l[(l.length - 1)]?.getD ClimbReport.zero).Level)))), (12, .int .i64 (from_ + (k : Int))), (94, .bool (decide (r2.1 < (w64 ((w64 (100 * level)) + 100)))))] rfl ⟨by kernel_rfl, by kernel_rfl⟩ ?_
                    refine TL.next rfl ?_
                    refine TC.cond (decide (r2.1 < (w64 ((w64 (100 * level)) + 100)))) rfl (by kernel_rfl) (fun h9 => ?_) (fun h9 => ?_)
                    · refine TC.seq ?_
                      refine TC.region ?_
                      refine TL.run 3 [] [(8, .int .i64 (from_ + (k : Int))), (9, .int .i64 0)] rfl ⟨by kernel_rfl, by kernel_rfl⟩ ?_
                      refine TL.next rfl ?_
                      refine TC.ret ?_
                      refine TE.ret_block (TE.ret_then (TE.ret_then (TE.ret_block (TE.ret_then (TE.ret_then ?_)))))
                      have e : climb_Through l level from_ within = ((from_ + (k : Int)), 0) := by subst hr1 hr2; unfold climb_Through; exact cond_f h1 (cond_f h2 (cond_f h3 (elim_r (hR.symm.trans (hI.trans (by rw [hd]; exact cond_t h5 (cond_t h6 (cond_f h7 (cond_t h8 (cond_t h9 (rfl)))))))) rfl)))
                      exact TE.ret [] (.tuple #[.int .i64 (from_ + (k : Int)), .int .i64 0]) ⟨by kernel_rfl, by kernel_rfl⟩ (by rw [e]; first | done | kernel_rfl)
                    · refine TC.skip ?_
                      refine TE.normal_block ?_
                      refine TE.next ?_
                      refine TC.region ?_
                      refine TL.run 3 [] [(0, .slice A_l l.length c_l), (1, .int .i64 level), (2, .int .i64 from_), (3, .int .i64 within), (11, .bool (decide (level ≥ ((l[(l.length - 1)]?.getD ClimbReport.zero).Level)))), (12, .int .i64 (w64 ((from_ + (k : Int)) + 1)))] rfl ⟨by kernel_rfl, by kernel_rfl⟩ ?_
                      refine TL.done rfl ?_
                      refine TE.rw 12 (.int .i64 (w64 ((from_ + (k : Int)) + 1))) (.int .i64 (from_ + ((k + 1 : Nat) : Int))) (by kernel_rfl) (int_eq (by have q0_ := (bne_f h1); have q1_ := (dec_f (or_f1 (or_f1 (or_f1 (or_f1 (or_f1 h2)))))); have q2_ := (dec_f (or_f2 (or_f1 (or_f1 (or_f1 (or_f1 h2)))))); have q3_ := (dec_f (or_f2 (or_f1 (or_f1 (or_f1 h2))))); have q4_ := (dec_f (or_f2 (or_f1 (or_f1 h2)))); have q5_ := (dec_f (or_f2 (or_f1 h2))); have q6_ := (dec_f (or_f2 h2)); have q7_ := (beq_f h3); have q8_ := (dec_t h4); have q9_ := (beq_t h5); have q10_ := (dec_t h6); have q11_ := (dec_f h7); have q12_ := (dec_f (not_t h8)); have q13_ := (dec_f h9); have u1_ := imin_r (w64 (from_ + within)) 200000; first | omega | (rw [w64_id (by omega)]; omega) | (simp only [w64_eq] at *; omega))) ?_
                      exact TE.again (x := k) (k + 1) ⟨by omega, hI.trans (by subst hr1 hr2; rw [hd]; exact cond_t h5 (cond_t h6 (cond_f h7 (cond_t h8 (cond_f h9 (rfl))))))⟩ (by show ((imin (w64 (from_ + within)) 200000 - from_ + 1).toNat) - (k + 1) < ((imin (w64 (from_ + within)) 200000 - from_ + 1).toNat) - k; omega) (by kernel_rfl) (.slnil)
                  · refine TL.run 22 [] [(0, .slice A_l l.length c_l), (1, .int .i64 level), (2, .int .i64 from_), (3, .int .i64 within), (11, .bool (decide (level ≥ ((l[(l.length - 1)]?.getD ClimbReport.zero).Level)))), (12, .int .i64 (from_ + (k : Int))), (94, .bool false)] rfl ⟨by kernel_rfl, by kernel_rfl⟩ ?_
                    refine TL.next rfl ?_
                    refine TC.condF rfl (by kernel_rfl) ?_
                    refine TC.skip ?_
                    refine TE.normal_block ?_
                    refine TE.next ?_
                    refine TC.region ?_
                    refine TL.run 3 [] [(0, .slice A_l l.length c_l), (1, .int .i64 level), (2, .int .i64 from_), (3, .int .i64 within), (11, .bool (decide (level ≥ ((l[(l.length - 1)]?.getD ClimbReport.zero).Level)))), (12, .int .i64 (w64 ((from_ + (k : Int)) + 1)))] rfl ⟨by kernel_rfl, by kernel_rfl⟩ ?_
                    refine TL.done rfl ?_
                    refine TE.rw 12 (.int .i64 (w64 ((from_ + (k : Int)) + 1))) (.int .i64 (from_ + ((k + 1 : Nat) : Int))) (by kernel_rfl) (int_eq (by have q0_ := (bne_f h1); have q1_ := (dec_f (or_f1 (or_f1 (or_f1 (or_f1 (or_f1 h2)))))); have q2_ := (dec_f (or_f2 (or_f1 (or_f1 (or_f1 (or_f1 h2)))))); have q3_ := (dec_f (or_f2 (or_f1 (or_f1 (or_f1 h2))))); have q4_ := (dec_f (or_f2 (or_f1 (or_f1 h2)))); have q5_ := (dec_f (or_f2 (or_f1 h2))); have q6_ := (dec_f (or_f2 h2)); have q7_ := (beq_f h3); have q8_ := (dec_t h4); have q9_ := (beq_t h5); have q10_ := (dec_t h6); have q11_ := (dec_f h7); have q12_ := (dec_t (not_f h8)); have u1_ := imin_r (w64 (from_ + within)) 200000; first | omega | (rw [w64_id (by omega)]; omega) | (simp only [w64_eq] at *; omega))) ?_
                    exact TE.again (x := k) (k + 1) ⟨by omega, hI.trans (by subst hr1 hr2; rw [hd]; exact cond_t h5 (cond_t h6 (cond_f h7 (cond_f h8 (rfl)))))⟩ (by show ((imin (w64 (from_ + within)) 200000 - from_ + 1).toNat) - (k + 1) < ((imin (w64 (from_ + within)) 200000 - from_ + 1).toNat) - k; omega) (by kernel_rfl) (.slnil)
              · refine TL.run 14 [] [(0, .slice A_l l.length c_l), (1, .int .i64 level), (2, .int .i64 from_), (3, .int .i64 within), (11, .bool (decide (level ≥ ((l[(l.length - 1)]?.getD ClimbReport.zero).Level)))), (12, .int .i64 (from_ + (k : Int))), (13, .int .i64 r2.1), (75, .bool true), (83, .bool false), (86, .bool (!(decide (level ≥ ((l[(l.length - 1)]?.getD ClimbReport.zero).Level)))))] rfl ⟨by kernel_rfl, by kernel_rfl⟩ ?_
                refine TL.split 86 (!(decide (level ≥ ((l[(l.length - 1)]?.getD ClimbReport.zero).Level)))) (by kernel_rfl) (fun h10 => ?_) (fun h10 => ?_)
                · refine TL.run 22 [] [(0, .slice A_l l.length c_l), (1, .int .i64 level), (2, .int .i64 from_), (3, .int .i64 within), (11, .bool (decide (level ≥ ((l[(l.length - 1)]?.getD ClimbReport.zero).Level)))), (12, .int .i64 (from_ + (k : Int))), (94, .bool (decide (r2.1 < (w64 ((w64 (100 * level)) + 100)))))] rfl ⟨by kernel_rfl, by kernel_rfl⟩ ?_
                  refine TL.next rfl ?_
                  refine TC.cond (decide (r2.1 < (w64 ((w64 (100 * level)) + 100)))) rfl (by kernel_rfl) (fun h11 => ?_) (fun h11 => ?_)
                  · refine TC.seq ?_
                    refine TC.region ?_
                    refine TL.run 3 [] [(8, .int .i64 (from_ + (k : Int))), (9, .int .i64 0)] rfl ⟨by kernel_rfl, by kernel_rfl⟩ ?_
                    refine TL.next rfl ?_
                    refine TC.ret ?_
                    refine TE.ret_block (TE.ret_then (TE.ret_then (TE.ret_block (TE.ret_then (TE.ret_then ?_)))))
                    have e : climb_Through l level from_ within = ((from_ + (k : Int)), 0) := by subst hr1 hr2; unfold climb_Through; exact cond_f h1 (cond_f h2 (cond_f h3 (elim_r (hR.symm.trans (hI.trans (by rw [hd]; exact cond_t h5 (cond_f h6 (cond_t h10 (cond_t h11 (rfl))))))) rfl)))
                    exact TE.ret [] (.tuple #[.int .i64 (from_ + (k : Int)), .int .i64 0]) ⟨by kernel_rfl, by kernel_rfl⟩ (by rw [e]; first | done | kernel_rfl)
                  · refine TC.skip ?_
                    refine TE.normal_block ?_
                    refine TE.next ?_
                    refine TC.region ?_
                    refine TL.run 3 [] [(0, .slice A_l l.length c_l), (1, .int .i64 level), (2, .int .i64 from_), (3, .int .i64 within), (11, .bool (decide (level ≥ ((l[(l.length - 1)]?.getD ClimbReport.zero).Level)))), (12, .int .i64 (w64 ((from_ + (k : Int)) + 1)))] rfl ⟨by kernel_rfl, by kernel_rfl⟩ ?_
                    refine TL.done rfl ?_
                    refine TE.rw 12 (.int .i64 (w64 ((from_ + (k : Int)) + 1))) (.int .i64 (from_ + ((k + 1 : Nat) : Int))) (by kernel_rfl) (int_eq (by have q0_ := (bne_f h1); have q1_ := (dec_f (or_f1 (or_f1 (or_f1 (or_f1 (or_f1 h2)))))); have q2_ := (dec_f (or_f2 (or_f1 (or_f1 (or_f1 (or_f1 h2)))))); have q3_ := (dec_f (or_f2 (or_f1 (or_f1 (or_f1 h2))))); have q4_ := (dec_f (or_f2 (or_f1 (or_f1 h2)))); have q5_ := (dec_f (or_f2 (or_f1 h2))); have q6_ := (dec_f (or_f2 h2)); have q7_ := (beq_f h3); have q8_ := (dec_t h4); have q9_ := (beq_t h5); have q10_ := (dec_f h6); have q11_ := (dec_f (not_t h10)); have q12_ := (dec_f h11); have u1_ := imin_r (w64 (from_ + within)) 200000; first | omega | (rw [w64_id (by omega)]; omega) | (simp only [w64_eq] at *; omega))) ?_
                    exact TE.again (x := k) (k + 1) ⟨by omega, hI.trans (by subst hr1 hr2; rw [hd]; exact cond_t h5 (cond_f h6 (cond_t h10 (cond_f h11 (rfl)))))⟩ (by show ((imin (w64 (from_ + within)) 200000 - from_ + 1).toNat) - (k + 1) < ((imin (w64 (from_ + within)) 200000 - from_ + 1).toNat) - k; omega) (by kernel_rfl) (.slnil)
                · refine TL.run 22 [] [(0, .slice A_l l.length c_l), (1, .int .i64 level), (2, .int .i64 from_), (3, .int .i64 within), (11, .bool (decide (level ≥ ((l[(l.length - 1)]?.getD ClimbReport.zero).Level)))), (12, .int .i64 (from_ + (k : Int))), (94, .bool false)] rfl ⟨by kernel_rfl, by kernel_rfl⟩ ?_
                  refine TL.next rfl ?_
                  refine TC.condF rfl (by kernel_rfl) ?_
                  refine TC.skip ?_
                  refine TE.normal_block ?_
                  refine TE.next ?_
                  refine TC.region ?_
                  refine TL.run 3 [] [(0, .slice A_l l.length c_l), (1, .int .i64 level), (2, .int .i64 from_), (3, .int .i64 within), (11, .bool (decide (level ≥ ((l[(l.length - 1)]?.getD ClimbReport.zero).Level)))), (12, .int .i64 (w64 ((from_ + (k : Int)) + 1)))] rfl ⟨by kernel_rfl, by kernel_rfl⟩ ?_
                  refine TL.done rfl ?_
                  refine TE.rw 12 (.int .i64 (w64 ((from_ + (k : Int)) + 1))) (.int .i64 (from_ + ((k + 1 : Nat) : Int))) (by kernel_rfl) (int_eq (by have q0_ := (bne_f h1); have q1_ := (dec_f (or_f1 (or_f1 (or_f1 (or_f1 (or_f1 h2)))))); have q2_ := (dec_f (or_f2 (or_f1 (or_f1 (or_f1 (or_f1 h2)))))); have q3_ := (dec_f (or_f2 (or_f1 (or_f1 (or_f1 h2))))); have q4_ := (dec_f (or_f2 (or_f1 (or_f1 h2)))); have q5_ := (dec_f (or_f2 (or_f1 h2))); have q6_ := (dec_f (or_f2 h2)); have q7_ := (beq_f h3); have q8_ := (dec_t h4); have q9_ := (beq_t h5); have q10_ := (dec_f h6); have q11_ := (dec_t (not_f h10)); have u1_ := imin_r (w64 (from_ + within)) 200000; first | omega | (rw [w64_id (by omega)]; omega) | (simp only [w64_eq] at *; omega))) ?_
                  exact TE.again (x := k) (k + 1) ⟨by omega, hI.trans (by subst hr1 hr2; rw [hd]; exact cond_t h5 (cond_f h6 (cond_f h10 (rfl))))⟩ (by show ((imin (w64 (from_ + within)) 200000 - from_ + 1).toNat) - (k + 1) < ((imin (w64 (from_ + within)) 200000 - from_ + 1).toNat) - k; omega) (by kernel_rfl) (.slnil)
            · refine TL.run 22 [] [(0, .slice A_l l.length c_l), (1, .int .i64 level), (2, .int .i64 from_), (3, .int .i64 within), (11, .bool (decide (level ≥ ((l[(l.length - 1)]?.getD ClimbReport.zero).Level)))), (12, .int .i64 (from_ + (k : Int))), (94, .bool false)] rfl ⟨by kernel_rfl, by kernel_rfl⟩ ?_
              refine TL.next rfl ?_
              refine TC.condF rfl (by kernel_rfl) ?_
              refine TC.skip ?_
              refine TE.normal_block ?_
              refine TE.next ?_
              refine TC.region ?_
              refine TL.run 3 [] [(0, .slice A_l l.length c_l), (1, .int .i64 level), (2, .int .i64 from_), (3, .int .i64 within), (11, .bool (decide (level ≥ ((l[(l.length - 1)]?.getD ClimbReport.zero).Level)))), (12, .int .i64 (w64 ((from_ + (k : Int)) + 1)))] rfl ⟨by kernel_rfl, by kernel_rfl⟩ ?_
              refine TL.done rfl ?_
              refine TE.rw 12 (.int .i64 (w64 ((from_ + (k : Int)) + 1))) (.int .i64 (from_ + ((k + 1 : Nat) : Int))) (by kernel_rfl) (int_eq (by have q0_ := (bne_f h1); have q1_ := (dec_f (or_f1 (or_f1 (or_f1 (or_f1 (or_f1 h2)))))); have q2_ := (dec_f (or_f2 (or_f1 (or_f1 (or_f1 (or_f1 h2)))))); have q3_ := (dec_f (or_f2 (or_f1 (or_f1 (or_f1 h2))))); have q4_ := (dec_f (or_f2 (or_f1 (or_f1 h2)))); have q5_ := (dec_f (or_f2 (or_f1 h2))); have q6_ := (dec_f (or_f2 h2)); have q7_ := (beq_f h3); have q8_ := (dec_t h4); have q9_ := (beq_f h5); have u1_ := imin_r (w64 (from_ + within)) 200000; first | omega | (rw [w64_id (by omega)]; omega) | (simp only [w64_eq] at *; omega))) ?_
              exact TE.again (x := k) (k + 1) ⟨by omega, hI.trans (by subst hr1 hr2; rw [hd]; exact cond_f h5 (rfl))⟩ (by show ((imin (w64 (from_ + within)) 200000 - from_ + 1).toNat) - (k + 1) < ((imin (w64 (from_ + within)) 200000 - from_ + 1).toNat) - k; omega) (by kernel_rfl) (.slnil)
          · have hd : ((imin (w64 (from_ + within)) 200000 - from_ + 1).toNat) - k = 0 := by have q0_ := (bne_f h1); have q1_ := (dec_f (or_f1 (or_f1 (or_f1 (or_f1 (or_f1 h2)))))); have q2_ := (dec_f (or_f2 (or_f1 (or_f1 (or_f1 (or_f1 h2)))))); have q3_ := (dec_f (or_f2 (or_f1 (or_f1 (or_f1 h2))))); have q4_ := (dec_f (or_f2 (or_f1 (or_f1 h2)))); have q5_ := (dec_f (or_f2 (or_f1 h2))); have q6_ := (dec_f (or_f2 h2)); have q7_ := (beq_f h3); have p0_ := (dec_f h4); have u1_ := imin_r (w64 (from_ + within)) 200000; first | omega | (simp only [w64_eq] at *; omega)
            refine TC.exit ?_
            refine TE.exit_then (TE.exit_then (TE.exit_same ?_))
            exact TE.cut () (hI.trans (by subst hr1; rw [hd]; exact rfl)) (by kernel_rfl) (.slnil)
        · intro _ hJ
          refine TE.next ?_
          refine TC.seq ?_
          refine TC.region ?_
          refine TL.run 2 [] [(8, .int .i64 0), (9, .int .i64 8)] rfl ⟨by kernel_rfl, by kernel_rfl⟩ ?_
          refine TL.next rfl ?_
          refine TC.ret ?_
          have e : climb_Through l level from_ within = (0, 8) := by subst hr1; unfold climb_Through; exact cond_f h1 (cond_f h2 (cond_f h3 (elim_l (hR.symm.trans hJ) (rfl))))
          exact TE.ret [] (.tuple #[.int .i64 0, .int .i64 8]) ⟨by kernel_rfl, by kernel_rfl⟩ (by rw [e]; first | done | kernel_rfl)

def skywaykeep2_ClimbThrough_L1 (l : List ClimbReport) (level : Int) (from_ : Int) : Nat → Nat → ((Unit) ⊕ (Bool))
  | 0, _ => .inl ()
  | m + 1, k => let r4 := climb_Heights l (from_ + (k : Int))
    cond (r4.2.2 == 0) (
      cond (decide (level ≥ ((l[(l.length - 1)]?.getD ClimbReport.zero).Level))) (
        cond (decide (r4.2.1 ≥ (w64 (100 * level)))) (
          .inr false) (
          cond (!(decide (level ≥ ((l[(l.length - 1)]?.getD ClimbReport.zero).Level)))) (
            cond (decide (r4.1 < (w64 ((w64 (100 * level)) + 100)))) (
              .inr false) (
              skywaykeep2_ClimbThrough_L1 l level from_ m (k + 1))) (
            skywaykeep2_ClimbThrough_L1 l level from_ m (k + 1)))) (
        cond (!(decide (level ≥ ((l[(l.length - 1)]?.getD ClimbReport.zero).Level)))) (
          cond (decide (r4.1 < (w64 ((w64 (100 * level)) + 100)))) (
            .inr false) (
            skywaykeep2_ClimbThrough_L1 l level from_ m (k + 1))) (
          skywaykeep2_ClimbThrough_L1 l level from_ m (k + 1)))) (
      skywaykeep2_ClimbThrough_L1 l level from_ m (k + 1))
def skywaykeep2_ClimbThrough_L2 (l : List ClimbReport) (level : Int) (from_ : Int) : Nat → Nat → ((Unit) ⊕ (Bool))
  | 0, _ => .inl ()
  | m + 1, k_2 => let r5 := climb_Heights l (from_ + (k_2 : Int))
    cond (r5.2.2 == 0) (
      cond (decide (level ≥ ((l[(l.length - 1)]?.getD ClimbReport.zero).Level))) (
        cond (decide (r5.2.1 ≥ (w64 (100 * level)))) (
          .inr false) (
          cond (!(decide (level ≥ ((l[(l.length - 1)]?.getD ClimbReport.zero).Level)))) (
            cond (decide (r5.1 < (w64 ((w64 (100 * level)) + 100)))) (
              .inr false) (
              skywaykeep2_ClimbThrough_L2 l level from_ m (k_2 + 1))) (
            skywaykeep2_ClimbThrough_L2 l level from_ m (k_2 + 1)))) (
        cond (!(decide (level ≥ ((l[(l.length - 1)]?.getD ClimbReport.zero).Level)))) (
          cond (decide (r5.1 < (w64 ((w64 (100 * level)) + 100)))) (
            .inr false) (
            skywaykeep2_ClimbThrough_L2 l level from_ m (k_2 + 1))) (
          skywaykeep2_ClimbThrough_L2 l level from_ m (k_2 + 1)))) (
      skywaykeep2_ClimbThrough_L2 l level from_ m (k_2 + 1))
def skywaykeep2_ClimbThrough (l : List ClimbReport) (level : Int) (from_ : Int) (wait : Int) : Bool :=
  let r1 := climb_Through ([(⟨0, 10⟩ : ClimbReport), (⟨100, 20⟩ : ClimbReport)]) 30 100 600
  cond ((r1.2 != 0) || (decide (r1.1 ≤ 100))) (
    false) (
    let r2 := skywaykeep2_within wait 0 100
    let r3 := climb_Through l level from_ r2
    cond (((r3.2 != 0) && (r3.2 != 8)) || ((l.length : Int) == 0)) (
      r3.1 == 0) (
      cond (r3.2 == 0) (
        Sum.elim (fun _ =>
          true) (fun r => r) (skywaykeep2_ClimbThrough_L1 l level from_ ((imin (w64 (r3.1 - 1)) 200000 - from_ + 1).toNat) 0)) (
        Sum.elim (fun _ =>
          true) (fun r => r) (skywaykeep2_ClimbThrough_L2 l level from_ ((imin (w64 (from_ + r2)) 200000 - from_ + 1).toNat) 0))))

theorem through_from {l : List ClimbReport} {level from_ wait : Int} {r : Int × Int} (hr : climb_Through l level from_ wait = r) (h : (((r.2 != 0) && (r.2 != 8)) || ((l.length : Int) == 0)) = false) : 0 ≤ from_ ∧ from_ ≤ 200000 := by
  subst hr
  have h1 := or_f1 h
  unfold climb_Through at h1
  cases hc : ((((((decide (level < 0)) || (decide (level > 600))) || (decide (from_ < 0))) || (decide (from_ > 200000))) || (decide (wait < 0))) || (decide (wait > 600))) with
  | false =>
    have q := or_f1 (or_f1 hc)
    have q1 := dec_f (or_f2 (or_f1 q))
    have q2 := dec_f (or_f2 q)
    omega
  | true =>
    exfalso
    cases he : (climb_Check l != 0) with
    | false => simp only [he, hc, cond_true, cond_false] at h1; cases h1
    | true =>
      simp only [he, cond_true] at h1
      have h2 : (climb_Check l != 8) = true := by
        unfold climb_Check
        simp only [ite_of_cond']
        split
        · rfl
        · rcases check_form l l 0 with e | e | e <;> rw [e] <;> rfl
      simp [h2] at h1

set_option maxRecDepth 100000 in
theorem skywaykeep2_ClimbThrough_w (A_l : Option Addr) (c_l : Nat) (l : List ClimbReport) (level : Int) (from_ : Int) (wait : Int) (w : World) (h_l : Rd w 2 A_l (l.map ClimbReport.c)) (hc_l : l.length ≤ c_l) : Calls Try.prog 13 #[.slice A_l l.length c_l, .int .i64 level, .int .i64 from_, .int .i64 wait] w (Ret w (.bool (skywaykeep2_ClimbThrough l level from_ wait))) := by
  have s_l := h_l.short; rw [List.length_map] at s_l
  refine calls_intro (vs := [.slice A_l l.length c_l, .int .i64 level, .int .i64 from_, .int .i64 wait]) (w := w) Try.func13 rfl Try.ntmps13 rfl ?_
  refine TC.weak [(0, .slice A_l l.length c_l), (1, .int .i64 level), (2, .int .i64 from_), (3, .int .i64 wait)] (by kernel_rfl) ?_
  refine TC.seq ?_
  refine TC.region ?_
  refine TL.run 1 [] [(0, .slice A_l l.length c_l), (1, .int .i64 level), (2, .int .i64 from_), (3, .int .i64 wait)] rfl ⟨by kernel_rfl, by kernel_rfl⟩ ?_
  refine TL.next rfl ?_
  refine TC.seq ?_
  refine TC.region ?_
  refine TL.run 2 [] [(0, .slice A_l l.length c_l), (1, .int .i64 level), (2, .int .i64 from_), (3, .int .i64 wait), (20, .agg #[.int .i64 0, .int .i64 10]), (21, .agg #[.int .i64 100, .int .i64 20])] rfl ⟨by kernel_rfl, by kernel_rfl⟩ ?_
  refine TL.write 0 (fun b1 => [(0, .slice A_l l.length c_l), (1, .int .i64 level), (2, .int .i64 from_), (3, .int .i64 wait), (22, .slice (some ⟨b1, 0, none⟩) 2 2)]) (fun b1 => [.inl (b1, .cells #[.int .i64 0, .int .i64 10, .int .i64 100, .int .i64 20] 71 (0, 0))]) (fun b1 => ⟨by kernel_rfl, by kernel_rfl⟩) (fun b1 => ?_)
  refine TL.run 4 [] [(0, .slice A_l l.length c_l), (1, .int .i64 level), (2, .int .i64 from_), (3, .int .i64 wait), (9, .slice (some ⟨b1, 0, none⟩) 2 2)] rfl ⟨by kernel_rfl, by kernel_rfl⟩ ?_
  refine TL.next rfl ?_
  refine TC.seq ?_
  refine TC.seq ?_
  refine TC.region ?_
  refine TL.run 1 [] [(0, .slice A_l l.length c_l), (1, .int .i64 level), (2, .int .i64 from_), (3, .int .i64 wait), (24, .slice (some ⟨b1, 0, none⟩) 2 2)] rfl ⟨by kernel_rfl, by kernel_rfl⟩ ?_
  refine TL.call (some 25) [(0, .slice A_l l.length c_l), (1, .int .i64 level), (2, .int .i64 from_), (3, .int .i64 wait), (25, .tuple #[.int .i64 ((climb_Through ([(⟨0, 10⟩ : ClimbReport), (⟨100, 20⟩ : ClimbReport)]) 30 100 600).1), .int .i64 ((climb_Through ([(⟨0, 10⟩ : ClimbReport), (⟨100, 20⟩ : ClimbReport)]) 30 100 600).2)])] (fun w hM => climb_Through_w (some ⟨b1, 0, none⟩) 2 ([(⟨0, 10⟩ : ClimbReport), (⟨100, 20⟩ : ClimbReport)]) 30 100 600 w (Rd.lit hM 0 _ rfl (by kernel_rfl) (by kernel_rfl) (by kernel_rfl)) (Nat.le_refl _)) (by kernel_rfl) (by kernel_rfl) ?_
  generalize hr1 : climb_Through ([(⟨0, 10⟩ : ClimbReport), (⟨100, 20⟩ : ClimbReport)]) 30 100 600 = r1
  refine TL.run 7 [] [(0, .slice A_l l.length c_l), (1, .int .i64 level), (2, .int .i64 from_), (3, .int .i64 wait), (10, .int .i64 r1.1), (11, .int .i64 r1.2)] rfl ⟨by kernel_rfl, by kernel_rfl⟩ ?_
  refine TL.next rfl ?_
  refine TC.seq ?_
  refine TC.region ?_
  refine TL.run 3 [] [(0, .slice A_l l.length c_l), (1, .int .i64 level), (2, .int .i64 from_), (3, .int .i64 wait), (10, .int .i64 r1.1), (30, .bool (r1.2 != 0))] rfl ⟨by kernel_rfl, by kernel_rfl⟩ ?_
  refine TL.join 30 (r1.2 != 0) 6 [] [] (fun β => [(0, .slice A_l l.length c_l), (1, .int .i64 level), (2, .int .i64 from_), (3, .int .i64 wait), (33, .bool (β || (decide (r1.1 ≤ 100))))]) (by kernel_rfl) rfl ⟨by kernel_rfl, by kernel_rfl⟩ ⟨by kernel_rfl, by kernel_rfl⟩ ?_
  refine TL.next rfl ?_
  refine TC.cond ((r1.2 != 0) || (decide (r1.1 ≤ 100))) rfl (by kernel_rfl) (fun h1 => ?_) (fun h1 => ?_)
  · refine TC.seq ?_
    refine TC.region ?_
    refine TL.run 1 [] [(8, .bool false)] rfl ⟨by kernel_rfl, by kernel_rfl⟩ ?_
    refine TL.next rfl ?_
    refine TC.ret ?_
    refine TE.ret_then ?_
    have e : skywaykeep2_ClimbThrough l level from_ wait = false := by subst hr1; unfold skywaykeep2_ClimbThrough; exact cond_t h1 (rfl)
    exact TE.ret [] (.bool false) ⟨by kernel_rfl, by kernel_rfl⟩ (by rw [e]; first | done | kernel_rfl)
  · refine TC.skip ?_
    refine TE.next ?_
    refine TC.seq ?_
    refine TC.region ?_
    refine TL.run 1 [] [(0, .slice A_l l.length c_l), (1, .int .i64 level), (2, .int .i64 from_), (34, .int .i64 wait)] rfl ⟨by kernel_rfl, by kernel_rfl⟩ ?_
    refine TL.call (some 35) [(0, .slice A_l l.length c_l), (1, .int .i64 level), (2, .int .i64 from_), (35, .int .i64 (skywaykeep2_within wait 0 100))] (fun w _ => skywaykeep2_within_w wait 0 100 w (by have q0_ := (bne_f (or_f1 h1)); have q1_ := (dec_f (or_f2 h1)); first | omega | first | decide | omega | (simp only [w64_eq]; omega) | (simp only [List.length_append, List.length_cons, List.length_nil, List.length_set, List.length_replicate, List.length_map, List.length_take, List.length_drop, Nat.zero_add, Nat.add_zero]; omega))) (by kernel_rfl) (by kernel_rfl) ?_
    generalize hr2 : skywaykeep2_within wait 0 100 = r2
    refine TL.run 3 [] [(0, .slice A_l l.length c_l), (1, .int .i64 level), (2, .int .i64 from_), (3, .int .i64 r2)] rfl ⟨by kernel_rfl, by kernel_rfl⟩ ?_
    refine TL.next rfl ?_
    refine TC.seq ?_
    refine TC.region ?_
    refine TL.run 4 [] [(0, .slice A_l l.length c_l), (1, .int .i64 level), (2, .int .i64 from_), (3, .int .i64 r2), (37, .slice A_l l.length c_l), (38, .int .i64 level), (39, .int .i64 from_), (40, .int .i64 r2)] rfl ⟨by kernel_rfl, by kernel_rfl⟩ ?_
    refine TL.call (some 41) [(0, .slice A_l l.length c_l), (1, .int .i64 level), (2, .int .i64 from_), (3, .int .i64 r2), (41, .tuple #[.int .i64 ((climb_Through l level from_ r2).1), .int .i64 ((climb_Through l level from_ r2).2)])] (fun w hM => climb_Through_w A_l c_l l level from_ r2 w (h_l.sat hM) hc_l) (by kernel_rfl) (by kernel_rfl) ?_
    generalize hr3 : climb_Through l level from_ r2 = r3
    refine TL.run 10 [] [(0, .slice A_l l.length c_l), (1, .int .i64 level), (2, .int .i64 from_), (3, .int .i64 r2), (12, .int .i64 r3.1), (13, .int .i64 r3.2)] rfl ⟨by kernel_rfl, by kernel_rfl⟩ ?_
    refine TL.next rfl ?_
    refine TC.seq ?_
    refine TC.seq ?_
    refine TC.region ?_
    refine TL.run 3 [] [(0, .slice A_l l.length c_l), (1, .int .i64 level), (2, .int .i64 from_), (3, .int .i64 r2), (12, .int .i64 r3.1), (13, .int .i64 r3.2), (46, .bool (r3.2 != 0))] rfl ⟨by kernel_rfl, by kernel_rfl⟩ ?_
    refine TL.join 46 (r3.2 != 0) 6 [] [] (fun β => [(0, .slice A_l l.length c_l), (1, .int .i64 level), (2, .int .i64 from_), (3, .int .i64 r2), (12, .int .i64 r3.1), (13, .int .i64 r3.2), (49, .bool (β && (r3.2 != 8)))]) (by kernel_rfl) rfl ⟨by kernel_rfl, by kernel_rfl⟩ ⟨by kernel_rfl, by kernel_rfl⟩ ?_
    refine TL.run 7 [] [(0, .slice A_l l.length c_l), (1, .int .i64 level), (2, .int .i64 from_), (3, .int .i64 r2), (12, .int .i64 r3.1), (13, .int .i64 r3.2), (50, .bool ((r3.2 != 0) && (r3.2 != 8)))] rfl ⟨by kernel_rfl, by kernel_rfl⟩ ?_
    refine TL.join 50 ((r3.2 != 0) && (r3.2 != 8)) 11 [] [] (fun β => [(0, .slice A_l l.length c_l), (1, .int .i64 level), (2, .int .i64 from_), (3, .int .i64 r2), (12, .int .i64 r3.1), (13, .int .i64 r3.2), (54, .bool (β || ((l.length : Int) == 0)))]) (by kernel_rfl) rfl ⟨by kernel_rfl, by kernel_rfl⟩ ⟨by kernel_rfl, by kernel_rfl⟩ ?_
    refine TL.next rfl ?_
    refine TC.cond (((r3.2 != 0) && (r3.2 != 8)) || ((l.length : Int) == 0)) rfl (by kernel_rfl) (fun h2 => ?_) (fun h2 => ?_)
    · refine TC.seq ?_
      refine TC.region ?_
      refine TL.run 3 [] [(8, .bool (r3.1 == 0))] rfl ⟨by kernel_rfl, by kernel_rfl⟩ ?_
      refine TL.next rfl ?_
      refine TC.ret ?_
      refine TE.ret_then ?_
      have e : skywaykeep2_ClimbThrough l level from_ wait = (r3.1 == 0) := by subst hr1 hr2 hr3; unfold skywaykeep2_ClimbThrough; exact cond_f h1 (cond_t h2 (rfl))
      exact TE.ret [] (.bool (r3.1 == 0)) ⟨by kernel_rfl, by kernel_rfl⟩ (by rw [e]; first | done | kernel_rfl)
    · refine TC.skip ?_
      refine TE.next ?_
      refine TC.seq ?_
      refine TC.region ?_
      refine TL.run 4 [] [(0, .slice A_l l.length c_l), (1, .int .i64 level), (2, .int .i64 from_), (12, .int .i64 r3.1), (13, .int .i64 r3.2), (14, .int .i64 (w64 (from_ + r2)))] rfl ⟨by kernel_rfl, by kernel_rfl⟩ ?_
      refine TL.next rfl ?_
      refine TC.seq ?_
      refine TC.seq ?_
      refine TC.region ?_
      refine TL.run 2 [] [(0, .slice A_l l.length c_l), (1, .int .i64 level), (2, .int .i64 from_), (12, .int .i64 r3.1), (14, .int .i64 (w64 (from_ + r2))), (61, .bool (r3.2 == 0))] rfl ⟨by kernel_rfl, by kernel_rfl⟩ ?_
      refine TL.next rfl ?_
      refine TC.cond (r3.2 == 0) rfl (by kernel_rfl) (fun h3 => ?_) (fun h3 => ?_)
      · refine TC.region ?_
        refine TL.run 3 [] [(0, .slice A_l l.length c_l), (1, .int .i64 level), (2, .int .i64 from_), (14, .int .i64 (w64 (r3.1 - 1)))] rfl ⟨by kernel_rfl, by kernel_rfl⟩ ?_
        refine TL.next rfl ?_
        refine TC.seq ?_
        refine TC.seq ?_
        refine TC.region ?_
        refine TL.run 2 [] [(0, .slice A_l l.length c_l), (1, .int .i64 level), (14, .int .i64 (w64 (r3.1 - 1))), (15, .int .i64 from_)] rfl ⟨by kernel_rfl, by kernel_rfl⟩ ?_
        refine TL.next rfl ?_
        refine TC.weak [(0, .slice A_l l.length c_l), (1, .int .i64 level), (14, .int .i64 (w64 (r3.1 - 1))), (15, .int .i64 from_)] (by kernel_rfl) ?_
        refine TC.forget [] (.cons _ (.slnil)) ?_
        obtain ⟨R1, hR⟩ : ∃ R, R = skywaykeep2_ClimbThrough_L1 l level from_ ((imin (w64 (r3.1 - 1)) 200000 - from_ + 1).toNat) 0 := ⟨_, rfl⟩
        refine TC.cut (S := Unit) (fun (_ : Unit) => []) (fun (_ : Unit) => []) (fun (_ : Unit) => R1 = .inl ()) ?_ ?_
        · refine TC.block ?_
          refine TC.rw 15 (.int .i64 from_) (.int .i64 (from_ + ((0 : Nat) : Int))) (by kernel_rfl) (int_eq (by omega)) ?_
          refine TC.weak [(0, .slice A_l l.length c_l), (1, .int .i64 level), (14, .int .i64 (w64 (r3.1 - 1))), (15, .int .i64 (from_ + ((0 : Nat) : Int)))] (by kernel_rfl) ?_
          refine TC.loop (X := Nat) (fun k => [(0, .slice A_l l.length c_l), (1, .int .i64 level), (14, .int .i64 (w64 (r3.1 - 1))), (15, .int .i64 (from_ + (k : Int)))]) (fun k => []) (fun k => ((imin (w64 (r3.1 - 1)) 200000 - from_ + 1).toNat) - k) (fun k => k ≤ ((imin (w64 (r3.1 - 1)) 200000 - from_ + 1).toNat) ∧ R1 = skywaykeep2_ClimbThrough_L1 l level from_ (((imin (w64 (r3.1 - 1)) 200000 - from_ + 1).toNat) - k) k) ?_ 0 ⟨Nat.zero_le _, hR⟩
          rintro k ⟨hk, hI⟩
          refine TC.seq ?_
          refine TC.seq ?_
          refine TC.region ?_
          refine TL.run 4 [] [(0, .slice A_l l.length c_l), (1, .int .i64 level), (14, .int .i64 (w64 (r3.1 - 1))), (15, .int .i64 (from_ + (k : Int))), (68, .bool (decide ((from_ + (k : Int)) ≤ (w64 (r3.1 - 1)))))] rfl ⟨by kernel_rfl, by kernel_rfl⟩ ?_
          refine TL.join 68 (decide ((from_ + (k : Int)) ≤ (w64 (r3.1 - 1)))) 7 [] [] (fun β => [(0, .slice A_l l.length c_l), (1, .int .i64 level), (14, .int .i64 (w64 (r3.1 - 1))), (15, .int .i64 (from_ + (k : Int))), (71, .bool (β && (decide ((from_ + (k : Int)) ≤ 200000))))]) (by kernel_rfl) rfl ⟨by kernel_rfl, by kernel_rfl⟩ ⟨by kernel_rfl, by kernel_rfl⟩ ?_
          refine TL.next rfl ?_
          refine TC.cond ((decide ((from_ + (k : Int)) ≤ (w64 (r3.1 - 1)))) && (decide ((from_ + (k : Int)) ≤ 200000))) rfl (by kernel_rfl) (fun h4 => ?_) (fun h4 => ?_)
          · have hlt : k < ((imin (w64 (r3.1 - 1)) 200000 - from_ + 1).toNat) := by have q0_ := (bne_f (or_f1 h1)); have q1_ := (dec_f (or_f2 h1)); have q2_ := ((and_f (or_f1 h2)).imp (fun h => (bne_f h)) (fun h => (bne_f h))); have q3_ := (beq_f (or_f2 h2)); have q4_ := (beq_t h3); have p0_ := (dec_t (and_t1 h4)); have p1_ := (dec_t (and_t2 h4)); have u1_ := imin_l (w64 (r3.1 - 1)) 200000; have u2_ := imin_r (w64 (r3.1 - 1)) 200000; have u3_ := imin_or (w64 (r3.1 - 1)) 200000; have u4_ := through_from hr3 h2; first | omega | (simp only [w64_eq] at *; omega)
            have hd : ((imin (w64 (r3.1 - 1)) 200000 - from_ + 1).toNat) - k = (((imin (w64 (r3.1 - 1)) 200000 - from_ + 1).toNat) - (k + 1)) + 1 := by omega
            refine TC.skip ?_
            refine TE.next ?_
            refine TC.seq ?_
            refine TC.block ?_
            refine TC.seq ?_
            refine TC.region ?_
            refine TL.run 2 [] [(0, .slice A_l l.length c_l), (1, .int .i64 level), (14, .int .i64 (w64 (r3.1 - 1))), (15, .int .i64 (from_ + (k : Int))), (75, .slice A_l l.length c_l), (76, .int .i64 (from_ + (k : Int)))] rfl ⟨by kernel_rfl, by kernel_rfl⟩ ?_
            refine TL.call (some 77) [(0, .slice A_l l.length c_l), (1, .int .i64 level), (14, .int .i64 (w64 (r3.1 - 1))), (15, .int .i64 (from_ + (k : Int))), (77, .tuple #[.int .i64 ((climb_Heights l (from_ + (k : Int))).1), .int .i64 ((climb_Heights l (from_ + (k : Int))).2.1), .int .i64 ((climb_Heights l (from_ + (k : Int))).2.2)])] (fun w hM => climb_Heights_w A_l c_l l (from_ + (k : Int)) w (h_l.sat hM) hc_l) (by kernel_rfl) (by kernel_rfl) ?_
            generalize hr4 : climb_Heights l (from_ + (k : Int)) = r4
            refine TL.run 10 [] [(0, .slice A_l l.length c_l), (1, .int .i64 level), (14, .int .i64 (w64 (r3.1 - 1))), (15, .int .i64 (from_ + (k : Int))), (16, .int .i64 r4.1), (17, .int .i64 r4.2.1), (18, .int .i64 r4.2.2)] rfl ⟨by kernel_rfl, by kernel_rfl⟩ ?_
            refine TL.next rfl ?_
            refine TC.seq ?_
            refine TC.region ?_
            refine TL.run 5 [] [(0, .slice A_l l.length c_l), (1, .int .i64 level), (14, .int .i64 (w64 (r3.1 - 1))), (15, .int .i64 (from_ + (k : Int))), (16, .int .i64 r4.1), (17, .int .i64 r4.2.1), (18, .int .i64 r4.2.2), (81, .int .i64 level), (82, .slice A_l l.length c_l), (85, .int .i64 (w64 ((l.length : Int) - 1)))] rfl ⟨by kernel_rfl, by kernel_rfl⟩ ?_
            refine TL.rw 85 (.int .i64 (w64 ((l.length : Int) - 1))) (.int .i64 ((l.length - 1 : Nat) : Int)) (by kernel_rfl) (w64_pred l.length (by have q0_ := (bne_f (or_f1 h1)); have q1_ := (dec_f (or_f2 h1)); have q2_ := ((and_f (or_f1 h2)).imp (fun h => (bne_f h)) (fun h => (bne_f h))); have q3_ := (beq_f (or_f2 h2)); have q4_ := (beq_t h3); have q5_ := (dec_t (and_t1 h4)); have q6_ := (dec_t (and_t2 h4)); first | omega | (simp only [List.length_drop]; omega) | (simp only [w64_eq]; omega))) ?_
            refine TL.val (sV (Instr.indexAt 34 (.slice A_l l.length c_l) (.int .i64 ((l.length - 1 : Nat) : Int)))) (some 86) (.pointer (some ((A_l.getD noAddr).add ((l.length - 1) * 2)))) [(0, .slice A_l l.length c_l), (1, .int .i64 level), (14, .int .i64 (w64 (r3.1 - 1))), (15, .int .i64 (from_ + (k : Int))), (16, .int .i64 r4.1), (17, .int .i64 r4.2.1), (18, .int .i64 r4.2.2), (81, .int .i64 level), (86, .pointer (some ((A_l.getD noAddr).add ((l.length - 1) * 2))))] (fun w hM => run_index (h_l.sat hM) (by simp) (by kernel_rfl) (by have q0_ := (bne_f (or_f1 h1)); have q1_ := (dec_f (or_f2 h1)); have q2_ := ((and_f (or_f1 h2)).imp (fun h => (bne_f h)) (fun h => (bne_f h))); have q3_ := (beq_f (or_f2 h2)); have q4_ := (beq_t h3); have q5_ := (dec_t (and_t1 h4)); have q6_ := (dec_t (and_t2 h4)); first | omega | (simp only [List.length_drop]; omega) | (simp only [w64_eq]; omega)) (by have q0_ := (bne_f (or_f1 h1)); have q1_ := (dec_f (or_f2 h1)); have q2_ := ((and_f (or_f1 h2)).imp (fun h => (bne_f h)) (fun h => (bne_f h))); have q3_ := (beq_f (or_f2 h2)); have q4_ := (beq_t h3); have q5_ := (dec_t (and_t1 h4)); have q6_ := (dec_t (and_t2 h4)); first | omega | (simp only [List.length_drop]; omega) | (simp only [w64_eq]; omega))) (by kernel_rfl) (by kernel_rfl) ?_
            refine TL.run 7 [] [(0, .slice A_l l.length c_l), (1, .int .i64 level), (14, .int .i64 (w64 (r3.1 - 1))), (15, .int .i64 (from_ + (k : Int))), (16, .int .i64 r4.1), (17, .int .i64 r4.2.1), (18, .int .i64 r4.2.2), (81, .int .i64 level), (87, .pointer (some (((A_l.getD noAddr).add ((l.length - 1) * 2)).add 1)))] rfl ⟨by kernel_rfl, by kernel_rfl⟩ ?_
            refine TL.val (sV (Instr.loadAt 3 (.pointer (some (((A_l.getD noAddr).add ((l.length - 1) * 2)).add 1))))) (some 88) (.int .i64 ((l[(l.length - 1)]?.getD ClimbReport.zero).Level)) [(0, .slice A_l l.length c_l), (1, .int .i64 level), (14, .int .i64 (w64 (r3.1 - 1))), (15, .int .i64 (from_ + (k : Int))), (16, .int .i64 r4.1), (17, .int .i64 r4.2.1), (18, .int .i64 r4.2.2), (81, .int .i64 level), (88, .int .i64 ((l[(l.length - 1)]?.getD ClimbReport.zero).Level))] (fun w hM => run_load_one (off := 1) (.int .i64 ((l[(l.length - 1)]?.getD ClimbReport.zero).Level)) (h_l.sat hM) (map_at (getD_at _ _ ClimbReport.zero (by have q0_ := (bne_f (or_f1 h1)); have q1_ := (dec_f (or_f2 h1)); have q2_ := ((and_f (or_f1 h2)).imp (fun h => (bne_f h)) (fun h => (bne_f h))); have q3_ := (beq_f (or_f2 h2)); have q4_ := (beq_t h3); have q5_ := (dec_t (and_t1 h4)); have q6_ := (dec_t (and_t2 h4)); first | omega | (simp only [List.length_drop]; omega) | (simp only [w64_eq]; omega)))) (by kernel_rfl) (by kernel_rfl)) (by kernel_rfl) (by kernel_rfl) ?_
            refine TL.run 10 [] [(0, .slice A_l l.length c_l), (1, .int .i64 level), (14, .int .i64 (w64 (r3.1 - 1))), (15, .int .i64 (from_ + (k : Int))), (16, .int .i64 r4.1), (17, .int .i64 r4.2.1), (18, .int .i64 r4.2.2), (19, .bool (decide (level ≥ ((l[(l.length - 1)]?.getD ClimbReport.zero).Level))))] rfl ⟨by kernel_rfl, by kernel_rfl⟩ ?_
            refine TL.next rfl ?_
            refine TC.seq ?_
            refine TC.region ?_
            refine TL.run 3 [] [(0, .slice A_l l.length c_l), (1, .int .i64 level), (14, .int .i64 (w64 (r3.1 - 1))), (15, .int .i64 (from_ + (k : Int))), (16, .int .i64 r4.1), (17, .int .i64 r4.2.1), (19, .bool (decide (level ≥ ((l[(l.length - 1)]?.getD ClimbReport.zero).Level)))), (92, .bool (r4.2.2 == 0))] rfl ⟨by kernel_rfl, by kernel_rfl⟩ ?_
            refine TL.split 92 (r4.2.2 == 0) (by kernel_rfl) (fun h5 => ?_) (fun h5 => ?_)
            · refine TL.run 5 [] [(0, .slice A_l l.length c_l), (1, .int .i64 level), (14, .int .i64 (w64 (r3.1 - 1))), (15, .int .i64 (from_ + (k : Int))), (16, .int .i64 r4.1), (17, .int .i64 r4.2.1), (19, .bool (decide (level ≥ ((l[(l.length - 1)]?.getD ClimbReport.zero).Level)))), (92, .bool true), (94, .bool (decide (level ≥ ((l[(l.length - 1)]?.getD ClimbReport.zero).Level))))] rfl ⟨by kernel_rfl, by kernel_rfl⟩ ?_
              refine TL.split 94 (decide (level ≥ ((l[(l.length - 1)]?.getD ClimbReport.zero).Level))) (by kernel_rfl) (fun h6 => ?_) (fun h6 => ?_)
              · refine TL.run 11 [] [(0, .slice A_l l.length c_l), (1, .int .i64 level), (14, .int .i64 (w64 (r3.1 - 1))), (15, .int .i64 (from_ + (k : Int))), (16, .int .i64 r4.1), (19, .bool (decide (level ≥ ((l[(l.length - 1)]?.getD ClimbReport.zero).Level)))), (92, .bool true), (100, .bool (decide (r4.2.1 ≥ (w64 (100 * level)))))] rfl ⟨by kernel_rfl, by kernel_rfl⟩ ?_
                refine TL.split 100 (decide (r4.2.1 ≥ (w64 (100 * level)))) (by kernel_rfl) (fun h7 => ?_) (fun h7 => ?_)
                · refine TL.run 22 [] [(0, .slice A_l l.length c_l), (1, .int .i64 level), (14, .int .i64 (w64 (r3.1 - 1))), (15, .int .i64 (from_ + (k : Int))), (111, .bool true)] rfl ⟨by kernel_rfl, by kernel_rfl⟩ ?_
                  refine TL.next rfl ?_
                  refine TC.condT rfl (by kernel_rfl) ?_
                  refine TC.seq ?_
                  refine TC.region ?_
                  refine TL.run 1 [] [(8, .bool false)] rfl ⟨by kernel_rfl, by kernel_rfl⟩ ?_
                  refine TL.next rfl ?_
                  refine TC.ret ?_
                  refine TE.ret_block (TE.ret_then (TE.ret_then (TE.ret_block (TE.ret_then (TE.ret_then ?_)))))
                  have e : skywaykeep2_ClimbThrough l level from_ wait = false := by subst hr1 hr2 hr3 hr4; unfold skywaykeep2_ClimbThrough; exact cond_f h1 (cond_f h2 (cond_t h3 (elim_r (hR.symm.trans (hI.trans (by rw [hd]; exact cond_t h5 (cond_t h6 (cond_t h7 (rfl)))))) rfl)))
                  exact TE.ret [] (.bool false) ⟨by kernel_rfl, by kernel_rfl⟩ (by rw [e]; first | done | kernel_rfl)
                · refine TL.run 14 [] [(0, .slice A_l l.length c_l), (1, .int .i64 level), (14, .int .i64 (w64 (r3.1 - 1))), (15, .int .i64 (from_ + (k : Int))), (16, .int .i64 r4.1), (92, .bool true), (100, .bool false), (103, .bool (!(decide (level ≥ ((l[(l.length - 1)]?.getD ClimbReport.zero).Level)))))] rfl ⟨by kernel_rfl, by kernel_rfl⟩ ?_
                  refine TL.split 103 (!(decide (level ≥ ((l[(l.length - 1)]?.getD ClimbReport.zero).Level)))) (by kernel_rfl) (fun h8 => ?_) (fun h8 => ?_)
                  · refine TL.run 22 [] [(0, .slice A_l l.length c_l), (1, .int .i64 level), (14, .int .i64 (w64 (r3.1 - 1))), (15, .int .i64 (from_ + (k : Int))), (111, .bool (decide (r4.1 < (w64 ((w64 (100 * level)) + 100)))))] rfl ⟨by kernel_rfl, by kernel_rfl⟩ ?_
                    refine TL.next rfl ?_
                    refine TC.cond (decide (r4.1 < (w64 ((w64 (100 * level)) + 100)))) rfl (by kernel_rfl) (fun h9 => ?_) (fun h9 => ?_)
                    · refine TC.seq ?_
                      refine TC.region ?_
                      refine TL.run 1 [] [(8, .bool false)] rfl ⟨by kernel_rfl, by kernel_rfl⟩ ?_
                      refine TL.next rfl ?_
                      refine TC.ret ?_
                      refine TE.ret_block (TE.ret_then (TE.ret_then (TE.ret_block (TE.ret_then (TE.ret_then ?_)))))
                      have e : skywaykeep2_ClimbThrough l level from_ wait = false := by subst hr1 hr2 hr3 hr4; unfold skywaykeep2_ClimbThrough; exact cond_f h1 (cond_f h2 (cond_t h3 (elim_r (hR.symm.trans (hI.trans (by rw [hd]; exact cond_t h5 (cond_t h6 (cond_f h7 (cond_t h8 (cond_t h9 (rfl)))))))) rfl)))
                      exact TE.ret [] (.bool false) ⟨by kernel_rfl, by kernel_rfl⟩ (by rw [e]; first | done | kernel_rfl)
                    · refine TC.skip ?_
                      refine TE.normal_block ?_
                      refine TE.next ?_
                      refine TC.region ?_
                      refine TL.run 3 [] [(0, .slice A_l l.length c_l), (1, .int .i64 level), (14, .int .i64 (w64 (r3.1 - 1))), (15, .int .i64 (w64 ((from_ + (k : Int)) + 1)))] rfl ⟨by kernel_rfl, by kernel_rfl⟩ ?_
                      refine TL.done rfl ?_
                      refine TE.rw 15 (.int .i64 (w64 ((from_ + (k : Int)) + 1))) (.int .i64 (from_ + ((k + 1 : Nat) : Int))) (by kernel_rfl) (int_eq (by have q0_ := (bne_f (or_f1 h1)); have q1_ := (dec_f (or_f2 h1)); have q2_ := ((and_f (or_f1 h2)).imp (fun h => (bne_f h)) (fun h => (bne_f h))); have q3_ := (beq_f (or_f2 h2)); have q4_ := (beq_t h3); have q5_ := (dec_t (and_t1 h4)); have q6_ := (dec_t (and_t2 h4)); have q7_ := (beq_t h5); have q8_ := (dec_t h6); have q9_ := (dec_f h7); have q10_ := (dec_f (not_t h8)); have q11_ := (dec_f h9); have u1_ := imin_l (w64 (r3.1 - 1)) 200000; have u2_ := imin_r (w64 (r3.1 - 1)) 200000; have u3_ := imin_or (w64 (r3.1 - 1)) 200000; have u4_ := through_from hr3 h2; first | omega | (rw [w64_id (by omega)]; omega) | (simp only [w64_eq] at *; omega))) ?_
                      exact TE.again (x := k) (k + 1) ⟨by omega, hI.trans (by subst hr1 hr2 hr3 hr4; rw [hd]; exact cond_t h5 (cond_t h6 (cond_f h7 (cond_t h8 (cond_f h9 (rfl))))))⟩ (by show ((imin (w64 (r3.1 - 1)) 200000 - from_ + 1).toNat) - (k + 1) < ((imin (w64 (r3.1 - 1)) 200000 - from_ + 1).toNat) - k; omega) (by kernel_rfl) (.slnil)
                  · refine TL.run 22 [] [(0, .slice A_l l.length c_l), (1, .int .i64 level), (14, .int .i64 (w64 (r3.1 - 1))), (15, .int .i64 (from_ + (k : Int))), (111, .bool false)] rfl ⟨by kernel_rfl, by kernel_rfl⟩ ?_
                    refine TL.next rfl ?_
                    refine TC.condF rfl (by kernel_rfl) ?_
                    refine TC.skip ?_
                    refine TE.normal_block ?_
                    refine TE.next ?_
                    refine TC.region ?_
                    refine TL.run 3 [] [(0, .slice A_l l.length c_l), (1, .int .i64 level), (14, .int .i64 (w64 (r3.1 - 1))), (15, .int .i64 (w64 ((from_ + (k : Int)) + 1)))] rfl ⟨by kernel_rfl, by kernel_rfl⟩ ?_
                    refine TL.done rfl ?_
                    refine TE.rw 15 (.int .i64 (w64 ((from_ + (k : Int)) + 1))) (.int .i64 (from_ + ((k + 1 : Nat) : Int))) (by kernel_rfl) (int_eq (by have q0_ := (bne_f (or_f1 h1)); have q1_ := (dec_f (or_f2 h1)); have q2_ := ((and_f (or_f1 h2)).imp (fun h => (bne_f h)) (fun h => (bne_f h))); have q3_ := (beq_f (or_f2 h2)); have q4_ := (beq_t h3); have q5_ := (dec_t (and_t1 h4)); have q6_ := (dec_t (and_t2 h4)); have q7_ := (beq_t h5); have q8_ := (dec_t h6); have q9_ := (dec_f h7); have q10_ := (dec_t (not_f h8)); have u1_ := imin_l (w64 (r3.1 - 1)) 200000; have u2_ := imin_r (w64 (r3.1 - 1)) 200000; have u3_ := imin_or (w64 (r3.1 - 1)) 200000; have u4_ := through_from hr3 h2; first | omega | (rw [w64_id (by omega)]; omega) | (simp only [w64_eq] at *; omega))) ?_
                    exact TE.again (x := k) (k + 1) ⟨by omega, hI.trans (by subst hr1 hr2 hr3 hr4; rw [hd]; exact cond_t h5 (cond_t h6 (cond_f h7 (cond_f h8 (rfl)))))⟩ (by show ((imin (w64 (r3.1 - 1)) 200000 - from_ + 1).toNat) - (k + 1) < ((imin (w64 (r3.1 - 1)) 200000 - from_ + 1).toNat) - k; omega) (by kernel_rfl) (.slnil)
              · refine TL.run 14 [] [(0, .slice A_l l.length c_l), (1, .int .i64 level), (14, .int .i64 (w64 (r3.1 - 1))), (15, .int .i64 (from_ + (k : Int))), (16, .int .i64 r4.1), (92, .bool true), (100, .bool false), (103, .bool (!(decide (level ≥ ((l[(l.length - 1)]?.getD ClimbReport.zero).Level)))))] rfl ⟨by kernel_rfl, by kernel_rfl⟩ ?_
                refine TL.split 103 (!(decide (level ≥ ((l[(l.length - 1)]?.getD ClimbReport.zero).Level)))) (by kernel_rfl) (fun h10 => ?_) (fun h10 => ?_)
                · refine TL.run 22 [] [(0, .slice A_l l.length c_l), (1, .int .i64 level), (14, .int .i64 (w64 (r3.1 - 1))), (15, .int .i64 (from_ + (k : Int))), (111, .bool (decide (r4.1 < (w64 ((w64 (100 * level)) + 100)))))] rfl ⟨by kernel_rfl, by kernel_rfl⟩ ?_
                  refine TL.next rfl ?_
                  refine TC.cond (decide (r4.1 < (w64 ((w64 (100 * level)) + 100)))) rfl (by kernel_rfl) (fun h11 => ?_) (fun h11 => ?_)
                  · refine TC.seq ?_
                    refine TC.region ?_
                    refine TL.run 1 [] [(8, .bool false)] rfl ⟨by kernel_rfl, by kernel_rfl⟩ ?_
                    refine TL.next rfl ?_
                    refine TC.ret ?_
                    refine TE.ret_block (TE.ret_then (TE.ret_then (TE.ret_block (TE.ret_then (TE.ret_then ?_)))))
                    have e : skywaykeep2_ClimbThrough l level from_ wait = false := by subst hr1 hr2 hr3 hr4; unfold skywaykeep2_ClimbThrough; exact cond_f h1 (cond_f h2 (cond_t h3 (elim_r (hR.symm.trans (hI.trans (by rw [hd]; exact cond_t h5 (cond_f h6 (cond_t h10 (cond_t h11 (rfl))))))) rfl)))
                    exact TE.ret [] (.bool false) ⟨by kernel_rfl, by kernel_rfl⟩ (by rw [e]; first | done | kernel_rfl)
                  · refine TC.skip ?_
                    refine TE.normal_block ?_
                    refine TE.next ?_
                    refine TC.region ?_
                    refine TL.run 3 [] [(0, .slice A_l l.length c_l), (1, .int .i64 level), (14, .int .i64 (w64 (r3.1 - 1))), (15, .int .i64 (w64 ((from_ + (k : Int)) + 1)))] rfl ⟨by kernel_rfl, by kernel_rfl⟩ ?_
                    refine TL.done rfl ?_
                    refine TE.rw 15 (.int .i64 (w64 ((from_ + (k : Int)) + 1))) (.int .i64 (from_ + ((k + 1 : Nat) : Int))) (by kernel_rfl) (int_eq (by have q0_ := (bne_f (or_f1 h1)); have q1_ := (dec_f (or_f2 h1)); have q2_ := ((and_f (or_f1 h2)).imp (fun h => (bne_f h)) (fun h => (bne_f h))); have q3_ := (beq_f (or_f2 h2)); have q4_ := (beq_t h3); have q5_ := (dec_t (and_t1 h4)); have q6_ := (dec_t (and_t2 h4)); have q7_ := (beq_t h5); have q8_ := (dec_f h6); have q9_ := (dec_f (not_t h10)); have q10_ := (dec_f h11); have u1_ := imin_l (w64 (r3.1 - 1)) 200000; have u2_ := imin_r (w64 (r3.1 - 1)) 200000; have u3_ := imin_or (w64 (r3.1 - 1)) 200000; have u4_ := through_from hr3 h2; first | omega | (rw [w64_id (by omega)]; omega) | (simp only [w64_eq] at *; omega))) ?_
                    exact TE.again (x := k) (k + 1) ⟨by omega, hI.trans (by subst hr1 hr2 hr3 hr4; rw [hd]; exact cond_t h5 (cond_f h6 (cond_t h10 (cond_f h11 (rfl)))))⟩ (by show ((imin (w64 (r3.1 - 1)) 200000 - from_ + 1).toNat) - (k + 1) < ((imin (w64 (r3.1 - 1)) 200000 - from_ + 1).toNat) - k; omega) (by kernel_rfl) (.slnil)
                · refine TL.run 22 [] [(0, .slice A_l l.length c_l), (1, .int .i64 level), (14, .int .i64 (w64 (r3.1 - 1))), (15, .int .i64 (from_ + (k : Int))), (111, .bool false)] rfl ⟨by kernel_rfl, by kernel_rfl⟩ ?_
                  refine TL.next rfl ?_
                  refine TC.condF rfl (by kernel_rfl) ?_
                  refine TC.skip ?_
                  refine TE.normal_block ?_
                  refine TE.next ?_
                  refine TC.region ?_
                  refine TL.run 3 [] [(0, .slice A_l l.length c_l), (1, .int .i64 level), (14, .int .i64 (w64 (r3.1 - 1))), (15, .int .i64 (w64 ((from_ + (k : Int)) + 1)))] rfl ⟨by kernel_rfl, by kernel_rfl⟩ ?_
                  refine TL.done rfl ?_
                  refine TE.rw 15 (.int .i64 (w64 ((from_ + (k : Int)) + 1))) (.int .i64 (from_ + ((k + 1 : Nat) : Int))) (by kernel_rfl) (int_eq (by have q0_ := (bne_f (or_f1 h1)); have q1_ := (dec_f (or_f2 h1)); have q2_ := ((and_f (or_f1 h2)).imp (fun h => (bne_f h)) (fun h => (bne_f h))); have q3_ := (beq_f (or_f2 h2)); have q4_ := (beq_t h3); have q5_ := (dec_t (and_t1 h4)); have q6_ := (dec_t (and_t2 h4)); have q7_ := (beq_t h5); have q8_ := (dec_f h6); have q9_ := (dec_t (not_f h10)); have u1_ := imin_l (w64 (r3.1 - 1)) 200000; have u2_ := imin_r (w64 (r3.1 - 1)) 200000; have u3_ := imin_or (w64 (r3.1 - 1)) 200000; have u4_ := through_from hr3 h2; first | omega | (rw [w64_id (by omega)]; omega) | (simp only [w64_eq] at *; omega))) ?_
                  exact TE.again (x := k) (k + 1) ⟨by omega, hI.trans (by subst hr1 hr2 hr3 hr4; rw [hd]; exact cond_t h5 (cond_f h6 (cond_f h10 (rfl))))⟩ (by show ((imin (w64 (r3.1 - 1)) 200000 - from_ + 1).toNat) - (k + 1) < ((imin (w64 (r3.1 - 1)) 200000 - from_ + 1).toNat) - k; omega) (by kernel_rfl) (.slnil)
            · refine TL.run 22 [] [(0, .slice A_l l.length c_l), (1, .int .i64 level), (14, .int .i64 (w64 (r3.1 - 1))), (15, .int .i64 (from_ + (k : Int))), (111, .bool false)] rfl ⟨by kernel_rfl, by kernel_rfl⟩ ?_
              refine TL.next rfl ?_
              refine TC.condF rfl (by kernel_rfl) ?_
              refine TC.skip ?_
              refine TE.normal_block ?_
              refine TE.next ?_
              refine TC.region ?_
              refine TL.run 3 [] [(0, .slice A_l l.length c_l), (1, .int .i64 level), (14, .int .i64 (w64 (r3.1 - 1))), (15, .int .i64 (w64 ((from_ + (k : Int)) + 1)))] rfl ⟨by kernel_rfl, by kernel_rfl⟩ ?_
              refine TL.done rfl ?_
              refine TE.rw 15 (.int .i64 (w64 ((from_ + (k : Int)) + 1))) (.int .i64 (from_ + ((k + 1 : Nat) : Int))) (by kernel_rfl) (int_eq (by have q0_ := (bne_f (or_f1 h1)); have q1_ := (dec_f (or_f2 h1)); have q2_ := ((and_f (or_f1 h2)).imp (fun h => (bne_f h)) (fun h => (bne_f h))); have q3_ := (beq_f (or_f2 h2)); have q4_ := (beq_t h3); have q5_ := (dec_t (and_t1 h4)); have q6_ := (dec_t (and_t2 h4)); have q7_ := (beq_f h5); have u1_ := imin_l (w64 (r3.1 - 1)) 200000; have u2_ := imin_r (w64 (r3.1 - 1)) 200000; have u3_ := imin_or (w64 (r3.1 - 1)) 200000; have u4_ := through_from hr3 h2; first | omega | (rw [w64_id (by omega)]; omega) | (simp only [w64_eq] at *; omega))) ?_
              exact TE.again (x := k) (k + 1) ⟨by omega, hI.trans (by subst hr1 hr2 hr3 hr4; rw [hd]; exact cond_f h5 (rfl))⟩ (by show ((imin (w64 (r3.1 - 1)) 200000 - from_ + 1).toNat) - (k + 1) < ((imin (w64 (r3.1 - 1)) 200000 - from_ + 1).toNat) - k; omega) (by kernel_rfl) (.slnil)
          · have hd : ((imin (w64 (r3.1 - 1)) 200000 - from_ + 1).toNat) - k = 0 := by have q0_ := (bne_f (or_f1 h1)); have q1_ := (dec_f (or_f2 h1)); have q2_ := ((and_f (or_f1 h2)).imp (fun h => (bne_f h)) (fun h => (bne_f h))); have q3_ := (beq_f (or_f2 h2)); have q4_ := (beq_t h3); have p0_ := ((and_f h4).imp (fun h => (dec_f h)) (fun h => (dec_f h))); have u1_ := imin_l (w64 (r3.1 - 1)) 200000; have u2_ := imin_r (w64 (r3.1 - 1)) 200000; have u3_ := imin_or (w64 (r3.1 - 1)) 200000; have u4_ := through_from hr3 h2; first | omega | (simp only [w64_eq] at *; omega)
            refine TC.exit ?_
            refine TE.exit_then (TE.exit_then (TE.exit_same ?_))
            exact TE.cut () (hI.trans (by subst hr1 hr2 hr3; rw [hd]; exact rfl)) (by kernel_rfl) (.slnil)
        · intro _ hJ
          refine TE.next ?_
          refine TC.seq ?_
          refine TC.region ?_
          refine TL.run 1 [] [(8, .bool true)] rfl ⟨by kernel_rfl, by kernel_rfl⟩ ?_
          refine TL.next rfl ?_
          refine TC.ret ?_
          have e : skywaykeep2_ClimbThrough l level from_ wait = true := by subst hr1 hr2 hr3; unfold skywaykeep2_ClimbThrough; exact cond_f h1 (cond_f h2 (cond_t h3 (elim_l (hR.symm.trans hJ) (rfl))))
          exact TE.ret [] (.bool true) ⟨by kernel_rfl, by kernel_rfl⟩ (by rw [e]; first | done | kernel_rfl)
      · refine TC.skip ?_
        refine TE.next ?_
        refine TC.seq ?_
        refine TC.seq ?_
        refine TC.region ?_
        refine TL.run 2 [] [(0, .slice A_l l.length c_l), (1, .int .i64 level), (14, .int .i64 (w64 (from_ + r2))), (15, .int .i64 from_)] rfl ⟨by kernel_rfl, by kernel_rfl⟩ ?_
        refine TL.next rfl ?_
        refine TC.weak [(0, .slice A_l l.length c_l), (1, .int .i64 level), (14, .int .i64 (w64 (from_ + r2))), (15, .int .i64 from_)] (by kernel_rfl) ?_
        refine TC.forget [] (.cons _ (.slnil)) ?_
        obtain ⟨R2, hR_2⟩ : ∃ R, R = skywaykeep2_ClimbThrough_L2 l level from_ ((imin (w64 (from_ + r2)) 200000 - from_ + 1).toNat) 0 := ⟨_, rfl⟩
        refine TC.cut (S := Unit) (fun (_ : Unit) => []) (fun (_ : Unit) => []) (fun (_ : Unit) => R2 = .inl ()) ?_ ?_
        · refine TC.block ?_
          refine TC.rw 15 (.int .i64 from_) (.int .i64 (from_ + ((0 : Nat) : Int))) (by kernel_rfl) (int_eq (by omega)) ?_
          refine TC.weak [(0, .slice A_l l.length c_l), (1, .int .i64 level), (14, .int .i64 (w64 (from_ + r2))), (15, .int .i64 (from_ + ((0 : Nat) : Int)))] (by kernel_rfl) ?_
          refine TC.loop (X := Nat) (fun k_2 => [(0, .slice A_l l.length c_l), (1, .int .i64 level), (14, .int .i64 (w64 (from_ + r2))), (15, .int .i64 (from_ + (k_2 : Int)))]) (fun k_2 => []) (fun k_2 => ((imin (w64 (from_ + r2)) 200000 - from_ + 1).toNat) - k_2) (fun k_2 => k_2 ≤ ((imin (w64 (from_ + r2)) 200000 - from_ + 1).toNat) ∧ R2 = skywaykeep2_ClimbThrough_L2 l level from_ (((imin (w64 (from_ + r2)) 200000 - from_ + 1).toNat) - k_2) k_2) ?_ 0 ⟨Nat.zero_le _, hR_2⟩
          rintro k_2 ⟨hk_2, hI_2⟩
          refine TC.seq ?_
          refine TC.seq ?_
          refine TC.region ?_
          refine TL.run 4 [] [(0, .slice A_l l.length c_l), (1, .int .i64 level), (14, .int .i64 (w64 (from_ + r2))), (15, .int .i64 (from_ + (k_2 : Int))), (68, .bool (decide ((from_ + (k_2 : Int)) ≤ (w64 (from_ + r2)))))] rfl ⟨by kernel_rfl, by kernel_rfl⟩ ?_
          refine TL.join 68 (decide ((from_ + (k_2 : Int)) ≤ (w64 (from_ + r2)))) 7 [] [] (fun β => [(0, .slice A_l l.length c_l), (1, .int .i64 level), (14, .int .i64 (w64 (from_ + r2))), (15, .int .i64 (from_ + (k_2 : Int))), (71, .bool (β && (decide ((from_ + (k_2 : Int)) ≤ 200000))))]) (by kernel_rfl) rfl ⟨by kernel_rfl, by kernel_rfl⟩ ⟨by kernel_rfl, by kernel_rfl⟩ ?_
          refine TL.next rfl ?_
          refine TC.cond ((decide ((from_ + (k_2 : Int)) ≤ (w64 (from_ + r2)))) && (decide ((from_ + (k_2 : Int)) ≤ 200000))) rfl (by kernel_rfl) (fun h12 => ?_) (fun h12 => ?_)
          · have hlt_2 : k_2 < ((imin (w64 (from_ + r2)) 200000 - from_ + 1).toNat) := by have q0_ := (bne_f (or_f1 h1)); have q1_ := (dec_f (or_f2 h1)); have q2_ := ((and_f (or_f1 h2)).imp (fun h => (bne_f h)) (fun h => (bne_f h))); have q3_ := (beq_f (or_f2 h2)); have q4_ := (beq_f h3); have p0_ := (dec_t (and_t1 h12)); have p1_ := (dec_t (and_t2 h12)); have u1_ := imin_l (w64 (from_ + r2)) 200000; have u2_ := imin_r (w64 (from_ + r2)) 200000; have u3_ := imin_or (w64 (from_ + r2)) 200000; have u4_ := through_from hr3 h2; first | omega | (simp only [w64_eq] at *; omega)
            have hd_2 : ((imin (w64 (from_ + r2)) 200000 - from_ + 1).toNat) - k_2 = (((imin (w64 (from_ + r2)) 200000 - from_ + 1).toNat) - (k_2 + 1)) + 1 := by omega
            refine TC.skip ?_
            refine TE.next ?_
            refine TC.seq ?_
            refine TC.block ?_
            refine TC.seq ?_
            refine TC.region ?_
            refine TL.run 2 [] [(0, .slice A_l l.length c_l), (1, .int .i64 level), (14, .int .i64 (w64 (from_ + r2))), (15, .int .i64 (from_ + (k_2 : Int))), (75, .slice A_l l.length c_l), (76, .int .i64 (from_ + (k_2 : Int)))] rfl ⟨by kernel_rfl, by kernel_rfl⟩ ?_
            refine TL.call (some 77) [(0, .slice A_l l.length c_l), (1, .int .i64 level), (14, .int .i64 (w64 (from_ + r2))), (15, .int .i64 (from_ + (k_2 : Int))), (77, .tuple #[.int .i64 ((climb_Heights l (from_ + (k_2 : Int))).1), .int .i64 ((climb_Heights l (from_ + (k_2 : Int))).2.1), .int .i64 ((climb_Heights l (from_ + (k_2 : Int))).2.2)])] (fun w hM => climb_Heights_w A_l c_l l (from_ + (k_2 : Int)) w (h_l.sat hM) hc_l) (by kernel_rfl) (by kernel_rfl) ?_
            generalize hr5 : climb_Heights l (from_ + (k_2 : Int)) = r5
            refine TL.run 10 [] [(0, .slice A_l l.length c_l), (1, .int .i64 level), (14, .int .i64 (w64 (from_ + r2))), (15, .int .i64 (from_ + (k_2 : Int))), (16, .int .i64 r5.1), (17, .int .i64 r5.2.1), (18, .int .i64 r5.2.2)] rfl ⟨by kernel_rfl, by kernel_rfl⟩ ?_
            refine TL.next rfl ?_
            refine TC.seq ?_
            refine TC.region ?_
            refine TL.run 5 [] [(0, .slice A_l l.length c_l), (1, .int .i64 level), (14, .int .i64 (w64 (from_ + r2))), (15, .int .i64 (from_ + (k_2 : Int))), (16, .int .i64 r5.1), (17, .int .i64 r5.2.1), (18, .int .i64 r5.2.2), (81, .int .i64 level), (82, .slice A_l l.length c_l), (85, .int .i64 (w64 ((l.length : Int) - 1)))] rfl ⟨by kernel_rfl, by kernel_rfl⟩ ?_
            refine TL.rw 85 (.int .i64 (w64 ((l.length : Int) - 1))) (.int .i64 ((l.length - 1 : Nat) : Int)) (by kernel_rfl) (w64_pred l.length (by have q0_ := (bne_f (or_f1 h1)); have q1_ := (dec_f (or_f2 h1)); have q2_ := ((and_f (or_f1 h2)).imp (fun h => (bne_f h)) (fun h => (bne_f h))); have q3_ := (beq_f (or_f2 h2)); have q4_ := (beq_f h3); have q5_ := (dec_t (and_t1 h12)); have q6_ := (dec_t (and_t2 h12)); first | omega | (simp only [List.length_drop]; omega) | (simp only [w64_eq]; omega))) ?_
            refine TL.val (sV (Instr.indexAt 34 (.slice A_l l.length c_l) (.int .i64 ((l.length - 1 : Nat) : Int)))) (some 86) (.pointer (some ((A_l.getD noAddr).add ((l.length - 1) * 2)))) [(0, .slice A_l l.length c_l), (1, .int .i64 level), (14, .int .i64 (w64 (from_ + r2))), (15, .int .i64 (from_ + (k_2 : Int))), (16, .int .i64 r5.1), (17, .int .i64 r5.2.1), (18, .int .i64 r5.2.2), (81, .int .i64 level), (86, .pointer (some ((A_l.getD noAddr).add ((l.length - 1) * 2))))] (fun w hM => run_index (h_l.sat hM) (by simp) (by kernel_rfl) (by have q0_ := (bne_f (or_f1 h1)); have q1_ := (dec_f (or_f2 h1)); have q2_ := ((and_f (or_f1 h2)).imp (fun h => (bne_f h)) (fun h => (bne_f h))); have q3_ := (beq_f (or_f2 h2)); have q4_ := (beq_f h3); have q5_ := (dec_t (and_t1 h12)); have q6_ := (dec_t (and_t2 h12)); first | omega | (simp only [List.length_drop]; omega) | (simp only [w64_eq]; omega)) (by have q0_ := (bne_f (or_f1 h1)); have q1_ := (dec_f (or_f2 h1)); have q2_ := ((and_f (or_f1 h2)).imp (fun h => (bne_f h)) (fun h => (bne_f h))); have q3_ := (beq_f (or_f2 h2)); have q4_ := (beq_f h3); have q5_ := (dec_t (and_t1 h12)); have q6_ := (dec_t (and_t2 h12)); first | omega | (simp only [List.length_drop]; omega) | (simp only [w64_eq]; omega))) (by kernel_rfl) (by kernel_rfl) ?_
            refine TL.run 7 [] [(0, .slice A_l l.length c_l), (1, .int .i64 level), (14, .int .i64 (w64 (from_ + r2))), (15, .int .i64 (from_ + (k_2 : Int))), (16, .int .i64 r5.1), (17, .int .i64 r5.2.1), (18, .int .i64 r5.2.2), (81, .int .i64 level), (87, .pointer (some (((A_l.getD noAddr).add ((l.length - 1) * 2)).add 1)))] rfl ⟨by kernel_rfl, by kernel_rfl⟩ ?_
            refine TL.val (sV (Instr.loadAt 3 (.pointer (some (((A_l.getD noAddr).add ((l.length - 1) * 2)).add 1))))) (some 88) (.int .i64 ((l[(l.length - 1)]?.getD ClimbReport.zero).Level)) [(0, .slice A_l l.length c_l), (1, .int .i64 level), (14, .int .i64 (w64 (from_ + r2))), (15, .int .i64 (from_ + (k_2 : Int))), (16, .int .i64 r5.1), (17, .int .i64 r5.2.1), (18, .int .i64 r5.2.2), (81, .int .i64 level), (88, .int .i64 ((l[(l.length - 1)]?.getD ClimbReport.zero).Level))] (fun w hM => run_load_one (off := 1) (.int .i64 ((l[(l.length - 1)]?.getD ClimbReport.zero).Level)) (h_l.sat hM) (map_at (getD_at _ _ ClimbReport.zero (by have q0_ := (bne_f (or_f1 h1)); have q1_ := (dec_f (or_f2 h1)); have q2_ := ((and_f (or_f1 h2)).imp (fun h => (bne_f h)) (fun h => (bne_f h))); have q3_ := (beq_f (or_f2 h2)); have q4_ := (beq_f h3); have q5_ := (dec_t (and_t1 h12)); have q6_ := (dec_t (and_t2 h12)); first | omega | (simp only [List.length_drop]; omega) | (simp only [w64_eq]; omega)))) (by kernel_rfl) (by kernel_rfl)) (by kernel_rfl) (by kernel_rfl) ?_
            refine TL.run 10 [] [(0, .slice A_l l.length c_l), (1, .int .i64 level), (14, .int .i64 (w64 (from_ + r2))), (15, .int .i64 (from_ + (k_2 : Int))), (16, .int .i64 r5.1), (17, .int .i64 r5.2.1), (18, .int .i64 r5.2.2), (19, .bool (decide (level ≥ ((l[(l.length - 1)]?.getD ClimbReport.zero).Level))))] rfl ⟨by kernel_rfl, by kernel_rfl⟩ ?_
            refine TL.next rfl ?_
            refine TC.seq ?_
            refine TC.region ?_
            refine TL.run 3 [] [(0, .slice A_l l.length c_l), (1, .int .i64 level), (14, .int .i64 (w64 (from_ + r2))), (15, .int .i64 (from_ + (k_2 : Int))), (16, .int .i64 r5.1), (17, .int .i64 r5.2.1), (19, .bool (decide (level ≥ ((l[(l.length - 1)]?.getD ClimbReport.zero).Level)))), (92, .bool (r5.2.2 == 0))] rfl ⟨by kernel_rfl, by kernel_rfl⟩ ?_
            refine TL.split 92 (r5.2.2 == 0) (by kernel_rfl) (fun h13 => ?_) (fun h13 => ?_)
            · refine TL.run 5 [] [(0, .slice A_l l.length c_l), (1, .int .i64 level), (14, .int .i64 (w64 (from_ + r2))), (15, .int .i64 (from_ + (k_2 : Int))), (16, .int .i64 r5.1), (17, .int .i64 r5.2.1), (19, .bool (decide (level ≥ ((l[(l.length - 1)]?.getD ClimbReport.zero).Level)))), (92, .bool true), (94, .bool (decide (level ≥ ((l[(l.length - 1)]?.getD ClimbReport.zero).Level))))] rfl ⟨by kernel_rfl, by kernel_rfl⟩ ?_
              refine TL.split 94 (decide (level ≥ ((l[(l.length - 1)]?.getD ClimbReport.zero).Level))) (by kernel_rfl) (fun h14 => ?_) (fun h14 => ?_)
              · refine TL.run 11 [] [(0, .slice A_l l.length c_l), (1, .int .i64 level), (14, .int .i64 (w64 (from_ + r2))), (15, .int .i64 (from_ + (k_2 : Int))), (16, .int .i64 r5.1), (19, .bool (decide (level ≥ ((l[(l.length - 1)]?.getD ClimbReport.zero).Level)))), (92, .bool true), (100, .bool (decide (r5.2.1 ≥ (w64 (100 * level)))))] rfl ⟨by kernel_rfl, by kernel_rfl⟩ ?_
                refine TL.split 100 (decide (r5.2.1 ≥ (w64 (100 * level)))) (by kernel_rfl) (fun h15 => ?_) (fun h15 => ?_)
                · refine TL.run 22 [] [(0, .slice A_l l.length c_l), (1, .int .i64 level), (14, .int .i64 (w64 (from_ + r2))), (15, .int .i64 (from_ + (k_2 : Int))), (111, .bool true)] rfl ⟨by kernel_rfl, by kernel_rfl⟩ ?_
                  refine TL.next rfl ?_
                  refine TC.condT rfl (by kernel_rfl) ?_
                  refine TC.seq ?_
                  refine TC.region ?_
                  refine TL.run 1 [] [(8, .bool false)] rfl ⟨by kernel_rfl, by kernel_rfl⟩ ?_
                  refine TL.next rfl ?_
                  refine TC.ret ?_
                  refine TE.ret_block (TE.ret_then (TE.ret_then (TE.ret_block (TE.ret_then (TE.ret_then ?_)))))
                  have e : skywaykeep2_ClimbThrough l level from_ wait = false := by subst hr1 hr2 hr3 hr5; unfold skywaykeep2_ClimbThrough; exact cond_f h1 (cond_f h2 (cond_f h3 (elim_r (hR_2.symm.trans (hI_2.trans (by rw [hd_2]; exact cond_t h13 (cond_t h14 (cond_t h15 (rfl)))))) rfl)))
                  exact TE.ret [] (.bool false) ⟨by kernel_rfl, by kernel_rfl⟩ (by rw [e]; first | done | kernel_rfl)
                · refine TL.run 14 [] [(0, .slice A_l l.length c_l), (1, .int .i64 level), (14, .int .i64 (w64 (from_ + r2))), (15, .int .i64 (from_ + (k_2 : Int))), (16, .int .i64 r5.1), (92, .bool true), (100, .bool false), (103, .bool (!(decide (level ≥ ((l[(l.length - 1)]?.getD ClimbReport.zero).Level)))))] rfl ⟨by kernel_rfl, by kernel_rfl⟩ ?_
                  refine TL.split 103 (!(decide (level ≥ ((l[(l.length - 1)]?.getD ClimbReport.zero).Level)))) (by kernel_rfl) (fun h16 => ?_) (fun h16 => ?_)
                  · refine TL.run 22 [] [(0, .slice A_l l.length c_l), (1, .int .i64 level), (14, .int .i64 (w64 (from_ + r2))), (15, .int .i64 (from_ + (k_2 : Int))), (111, .bool (decide (r5.1 < (w64 ((w64 (100 * level)) + 100)))))] rfl ⟨by kernel_rfl, by kernel_rfl⟩ ?_
                    refine TL.next rfl ?_
                    refine TC.cond (decide (r5.1 < (w64 ((w64 (100 * level)) + 100)))) rfl (by kernel_rfl) (fun h17 => ?_) (fun h17 => ?_)
                    · refine TC.seq ?_
                      refine TC.region ?_
                      refine TL.run 1 [] [(8, .bool false)] rfl ⟨by kernel_rfl, by kernel_rfl⟩ ?_
                      refine TL.next rfl ?_
                      refine TC.ret ?_
                      refine TE.ret_block (TE.ret_then (TE.ret_then (TE.ret_block (TE.ret_then (TE.ret_then ?_)))))
                      have e : skywaykeep2_ClimbThrough l level from_ wait = false := by subst hr1 hr2 hr3 hr5; unfold skywaykeep2_ClimbThrough; exact cond_f h1 (cond_f h2 (cond_f h3 (elim_r (hR_2.symm.trans (hI_2.trans (by rw [hd_2]; exact cond_t h13 (cond_t h14 (cond_f h15 (cond_t h16 (cond_t h17 (rfl)))))))) rfl)))
                      exact TE.ret [] (.bool false) ⟨by kernel_rfl, by kernel_rfl⟩ (by rw [e]; first | done | kernel_rfl)
                    · refine TC.skip ?_
                      refine TE.normal_block ?_
                      refine TE.next ?_
                      refine TC.region ?_
                      refine TL.run 3 [] [(0, .slice A_l l.length c_l), (1, .int .i64 level), (14, .int .i64 (w64 (from_ + r2))), (15, .int .i64 (w64 ((from_ + (k_2 : Int)) + 1)))] rfl ⟨by kernel_rfl, by kernel_rfl⟩ ?_
                      refine TL.done rfl ?_
                      refine TE.rw 15 (.int .i64 (w64 ((from_ + (k_2 : Int)) + 1))) (.int .i64 (from_ + ((k_2 + 1 : Nat) : Int))) (by kernel_rfl) (int_eq (by have q0_ := (bne_f (or_f1 h1)); have q1_ := (dec_f (or_f2 h1)); have q2_ := ((and_f (or_f1 h2)).imp (fun h => (bne_f h)) (fun h => (bne_f h))); have q3_ := (beq_f (or_f2 h2)); have q4_ := (beq_f h3); have q5_ := (dec_t (and_t1 h12)); have q6_ := (dec_t (and_t2 h12)); have q7_ := (beq_t h13); have q8_ := (dec_t h14); have q9_ := (dec_f h15); have q10_ := (dec_f (not_t h16)); have q11_ := (dec_f h17); have u1_ := imin_l (w64 (from_ + r2)) 200000; have u2_ := imin_r (w64 (from_ + r2)) 200000; have u3_ := imin_or (w64 (from_ + r2)) 200000; have u4_ := through_from hr3 h2; first | omega | (rw [w64_id (by omega)]; omega) | (simp only [w64_eq] at *; omega))) ?_
                      exact TE.again (x := k_2) (k_2 + 1) ⟨by omega, hI_2.trans (by subst hr1 hr2 hr3 hr5; rw [hd_2]; exact cond_t h13 (cond_t h14 (cond_f h15 (cond_t h16 (cond_f h17 (rfl))))))⟩ (by show ((imin (w64 (from_ + r2)) 200000 - from_ + 1).toNat) - (k_2 + 1) < ((imin (w64 (from_ + r2)) 200000 - from_ + 1).toNat) - k_2; omega) (by kernel_rfl) (.slnil)
                  · refine TL.run 22 [] [(0, .slice A_l l.length c_l), (1, .int .i64 level), (14, .int .i64 (w64 (from_ + r2))), (15, .int .i64 (from_ + (k_2 : Int))), (111, .bool false)] rfl ⟨by kernel_rfl, by kernel_rfl⟩ ?_
                    refine TL.next rfl ?_
                    refine TC.condF rfl (by kernel_rfl) ?_
                    refine TC.skip ?_
                    refine TE.normal_block ?_
                    refine TE.next ?_
                    refine TC.region ?_
                    refine TL.run 3 [] [(0, .slice A_l l.length c_l), (1, .int .i64 level), (14, .int .i64 (w64 (from_ + r2))), (15, .int .i64 (w64 ((from_ + (k_2 : Int)) + 1)))] rfl ⟨by kernel_rfl, by kernel_rfl⟩ ?_
                    refine TL.done rfl ?_
                    refine TE.rw 15 (.int .i64 (w64 ((from_ + (k_2 : Int)) + 1))) (.int .i64 (from_ + ((k_2 + 1 : Nat) : Int))) (by kernel_rfl) (int_eq (by have q0_ := (bne_f (or_f1 h1)); have q1_ := (dec_f (or_f2 h1)); have q2_ := ((and_f (or_f1 h2)).imp (fun h => (bne_f h)) (fun h => (bne_f h))); have q3_ := (beq_f (or_f2 h2)); have q4_ := (beq_f h3); have q5_ := (dec_t (and_t1 h12)); have q6_ := (dec_t (and_t2 h12)); have q7_ := (beq_t h13); have q8_ := (dec_t h14); have q9_ := (dec_f h15); have q10_ := (dec_t (not_f h16)); have u1_ := imin_l (w64 (from_ + r2)) 200000; have u2_ := imin_r (w64 (from_ + r2)) 200000; have u3_ := imin_or (w64 (from_ + r2)) 200000; have u4_ := through_from hr3 h2; first | omega | (rw [w64_id (by omega)]; omega) | (simp only [w64_eq] at *; omega))) ?_
                    exact TE.again (x := k_2) (k_2 + 1) ⟨by omega, hI_2.trans (by subst hr1 hr2 hr3 hr5; rw [hd_2]; exact cond_t h13 (cond_t h14 (cond_f h15 (cond_f h16 (rfl)))))⟩ (by show ((imin (w64 (from_ + r2)) 200000 - from_ + 1).toNat) - (k_2 + 1) < ((imin (w64 (from_ + r2)) 200000 - from_ + 1).toNat) - k_2; omega) (by kernel_rfl) (.slnil)
              · refine TL.run 14 [] [(0, .slice A_l l.length c_l), (1, .int .i64 level), (14, .int .i64 (w64 (from_ + r2))), (15, .int .i64 (from_ + (k_2 : Int))), (16, .int .i64 r5.1), (92, .bool true), (100, .bool false), (103, .bool (!(decide (level ≥ ((l[(l.length - 1)]?.getD ClimbReport.zero).Level)))))] rfl ⟨by kernel_rfl, by kernel_rfl⟩ ?_
                refine TL.split 103 (!(decide (level ≥ ((l[(l.length - 1)]?.getD ClimbReport.zero).Level)))) (by kernel_rfl) (fun h18 => ?_) (fun h18 => ?_)
                · refine TL.run 22 [] [(0, .slice A_l l.length c_l), (1, .int .i64 level), (14, .int .i64 (w64 (from_ + r2))), (15, .int .i64 (from_ + (k_2 : Int))), (111, .bool (decide (r5.1 < (w64 ((w64 (100 * level)) + 100)))))] rfl ⟨by kernel_rfl, by kernel_rfl⟩ ?_
                  refine TL.next rfl ?_
                  refine TC.cond (decide (r5.1 < (w64 ((w64 (100 * level)) + 100)))) rfl (by kernel_rfl) (fun h19 => ?_) (fun h19 => ?_)
                  · refine TC.seq ?_
                    refine TC.region ?_
                    refine TL.run 1 [] [(8, .bool false)] rfl ⟨by kernel_rfl, by kernel_rfl⟩ ?_
                    refine TL.next rfl ?_
                    refine TC.ret ?_
                    refine TE.ret_block (TE.ret_then (TE.ret_then (TE.ret_block (TE.ret_then (TE.ret_then ?_)))))
                    have e : skywaykeep2_ClimbThrough l level from_ wait = false := by subst hr1 hr2 hr3 hr5; unfold skywaykeep2_ClimbThrough; exact cond_f h1 (cond_f h2 (cond_f h3 (elim_r (hR_2.symm.trans (hI_2.trans (by rw [hd_2]; exact cond_t h13 (cond_f h14 (cond_t h18 (cond_t h19 (rfl))))))) rfl)))
                    exact TE.ret [] (.bool false) ⟨by kernel_rfl, by kernel_rfl⟩ (by rw [e]; first | done | kernel_rfl)
                  · refine TC.skip ?_
                    refine TE.normal_block ?_
                    refine TE.next ?_
                    refine TC.region ?_
                    refine TL.run 3 [] [(0, .slice A_l l.length c_l), (1, .int .i64 level), (14, .int .i64 (w64 (from_ + r2))), (15, .int .i64 (w64 ((from_ + (k_2 : Int)) + 1)))] rfl ⟨by kernel_rfl, by kernel_rfl⟩ ?_
                    refine TL.done rfl ?_
                    refine TE.rw 15 (.int .i64 (w64 ((from_ + (k_2 : Int)) + 1))) (.int .i64 (from_ + ((k_2 + 1 : Nat) : Int))) (by kernel_rfl) (int_eq (by have q0_ := (bne_f (or_f1 h1)); have q1_ := (dec_f (or_f2 h1)); have q2_ := ((and_f (or_f1 h2)).imp (fun h => (bne_f h)) (fun h => (bne_f h))); have q3_ := (beq_f (or_f2 h2)); have q4_ := (beq_f h3); have q5_ := (dec_t (and_t1 h12)); have q6_ := (dec_t (and_t2 h12)); have q7_ := (beq_t h13); have q8_ := (dec_f h14); have q9_ := (dec_f (not_t h18)); have q10_ := (dec_f h19); have u1_ := imin_l (w64 (from_ + r2)) 200000; have u2_ := imin_r (w64 (from_ + r2)) 200000; have u3_ := imin_or (w64 (from_ + r2)) 200000; have u4_ := through_from hr3 h2; first | omega | (rw [w64_id (by omega)]; omega) | (simp only [w64_eq] at *; omega))) ?_
                    exact TE.again (x := k_2) (k_2 + 1) ⟨by omega, hI_2.trans (by subst hr1 hr2 hr3 hr5; rw [hd_2]; exact cond_t h13 (cond_f h14 (cond_t h18 (cond_f h19 (rfl)))))⟩ (by show ((imin (w64 (from_ + r2)) 200000 - from_ + 1).toNat) - (k_2 + 1) < ((imin (w64 (from_ + r2)) 200000 - from_ + 1).toNat) - k_2; omega) (by kernel_rfl) (.slnil)
                · refine TL.run 22 [] [(0, .slice A_l l.length c_l), (1, .int .i64 level), (14, .int .i64 (w64 (from_ + r2))), (15, .int .i64 (from_ + (k_2 : Int))), (111, .bool false)] rfl ⟨by kernel_rfl, by kernel_rfl⟩ ?_
                  refine TL.next rfl ?_
                  refine TC.condF rfl (by kernel_rfl) ?_
                  refine TC.skip ?_
                  refine TE.normal_block ?_
                  refine TE.next ?_
                  refine TC.region ?_
                  refine TL.run 3 [] [(0, .slice A_l l.length c_l), (1, .int .i64 level), (14, .int .i64 (w64 (from_ + r2))), (15, .int .i64 (w64 ((from_ + (k_2 : Int)) + 1)))] rfl ⟨by kernel_rfl, by kernel_rfl⟩ ?_
                  refine TL.done rfl ?_
                  refine TE.rw 15 (.int .i64 (w64 ((from_ + (k_2 : Int)) + 1))) (.int .i64 (from_ + ((k_2 + 1 : Nat) : Int))) (by kernel_rfl) (int_eq (by have q0_ := (bne_f (or_f1 h1)); have q1_ := (dec_f (or_f2 h1)); have q2_ := ((and_f (or_f1 h2)).imp (fun h => (bne_f h)) (fun h => (bne_f h))); have q3_ := (beq_f (or_f2 h2)); have q4_ := (beq_f h3); have q5_ := (dec_t (and_t1 h12)); have q6_ := (dec_t (and_t2 h12)); have q7_ := (beq_t h13); have q8_ := (dec_f h14); have q9_ := (dec_t (not_f h18)); have u1_ := imin_l (w64 (from_ + r2)) 200000; have u2_ := imin_r (w64 (from_ + r2)) 200000; have u3_ := imin_or (w64 (from_ + r2)) 200000; have u4_ := through_from hr3 h2; first | omega | (rw [w64_id (by omega)]; omega) | (simp only [w64_eq] at *; omega))) ?_
                  exact TE.again (x := k_2) (k_2 + 1) ⟨by omega, hI_2.trans (by subst hr1 hr2 hr3 hr5; rw [hd_2]; exact cond_t h13 (cond_f h14 (cond_f h18 (rfl))))⟩ (by show ((imin (w64 (from_ + r2)) 200000 - from_ + 1).toNat) - (k_2 + 1) < ((imin (w64 (from_ + r2)) 200000 - from_ + 1).toNat) - k_2; omega) (by kernel_rfl) (.slnil)
            · refine TL.run 22 [] [(0, .slice A_l l.length c_l), (1, .int .i64 level), (14, .int .i64 (w64 (from_ + r2))), (15, .int .i64 (from_ + (k_2 : Int))), (111, .bool false)] rfl ⟨by kernel_rfl, by kernel_rfl⟩ ?_
              refine TL.next rfl ?_
              refine TC.condF rfl (by kernel_rfl) ?_
              refine TC.skip ?_
              refine TE.normal_block ?_
              refine TE.next ?_
              refine TC.region ?_
              refine TL.run 3 [] [(0, .slice A_l l.length c_l), (1, .int .i64 level), (14, .int .i64 (w64 (from_ + r2))), (15, .int .i64 (w64 ((from_ + (k_2 : Int)) + 1)))] rfl ⟨by kernel_rfl, by kernel_rfl⟩ ?_
              refine TL.done rfl ?_
              refine TE.rw 15 (.int .i64 (w64 ((from_ + (k_2 : Int)) + 1))) (.int .i64 (from_ + ((k_2 + 1 : Nat) : Int))) (by kernel_rfl) (int_eq (by have q0_ := (bne_f (or_f1 h1)); have q1_ := (dec_f (or_f2 h1)); have q2_ := ((and_f (or_f1 h2)).imp (fun h => (bne_f h)) (fun h => (bne_f h))); have q3_ := (beq_f (or_f2 h2)); have q4_ := (beq_f h3); have q5_ := (dec_t (and_t1 h12)); have q6_ := (dec_t (and_t2 h12)); have q7_ := (beq_f h13); have u1_ := imin_l (w64 (from_ + r2)) 200000; have u2_ := imin_r (w64 (from_ + r2)) 200000; have u3_ := imin_or (w64 (from_ + r2)) 200000; have u4_ := through_from hr3 h2; first | omega | (rw [w64_id (by omega)]; omega) | (simp only [w64_eq] at *; omega))) ?_
              exact TE.again (x := k_2) (k_2 + 1) ⟨by omega, hI_2.trans (by subst hr1 hr2 hr3 hr5; rw [hd_2]; exact cond_f h13 (rfl))⟩ (by show ((imin (w64 (from_ + r2)) 200000 - from_ + 1).toNat) - (k_2 + 1) < ((imin (w64 (from_ + r2)) 200000 - from_ + 1).toNat) - k_2; omega) (by kernel_rfl) (.slnil)
          · have hd_2 : ((imin (w64 (from_ + r2)) 200000 - from_ + 1).toNat) - k_2 = 0 := by have q0_ := (bne_f (or_f1 h1)); have q1_ := (dec_f (or_f2 h1)); have q2_ := ((and_f (or_f1 h2)).imp (fun h => (bne_f h)) (fun h => (bne_f h))); have q3_ := (beq_f (or_f2 h2)); have q4_ := (beq_f h3); have p0_ := ((and_f h12).imp (fun h => (dec_f h)) (fun h => (dec_f h))); have u1_ := imin_l (w64 (from_ + r2)) 200000; have u2_ := imin_r (w64 (from_ + r2)) 200000; have u3_ := imin_or (w64 (from_ + r2)) 200000; have u4_ := through_from hr3 h2; first | omega | (simp only [w64_eq] at *; omega)
            refine TC.exit ?_
            refine TE.exit_then (TE.exit_then (TE.exit_same ?_))
            exact TE.cut () (hI_2.trans (by subst hr1 hr2 hr3; rw [hd_2]; exact rfl)) (by kernel_rfl) (.slnil)
        · intro _ hJ_2
          refine TE.next ?_
          refine TC.seq ?_
          refine TC.region ?_
          refine TL.run 1 [] [(8, .bool true)] rfl ⟨by kernel_rfl, by kernel_rfl⟩ ?_
          refine TL.next rfl ?_
          refine TC.ret ?_
          have e : skywaykeep2_ClimbThrough l level from_ wait = true := by subst hr1 hr2 hr3; unfold skywaykeep2_ClimbThrough; exact cond_f h1 (cond_f h2 (cond_f h3 (elim_l (hR_2.symm.trans hJ_2) (rfl))))
          exact TE.ret [] (.bool true) ⟨by kernel_rfl, by kernel_rfl⟩ (by rw [e]; first | done | kernel_rfl)

end Go.Sky
