/- Functions of the program, each with the Lean function that it computes. Conditions: none. -/
import Derived.Test.YtbhemgagabdjkaaWf
import Derived.Test.YtbhemgagabdjkaaWe
namespace Go.Sky
open Go Go.Eng Go.Proofs
def skywaykeep2_ClimbHolds_1 (n : Int) (x : Int) : Bool :=
  let r1 := skywaykeep2_within n 0 99
  r1 == x

set_option maxRecDepth 100000 in
theorem skywaykeep2_ClimbHolds_1_w (n : Int) (a_x : Addr) (x : Int) (w : World) (h_x : Rd w 1 (some a_x) [ic x]) : Calls Try.prog 32 #[.int .i64 n, .pointer (some a_x)] w (Ret w (.bool (skywaykeep2_ClimbHolds_1 n x))) := by
  refine calls_intro (vs := [.int .i64 n, .pointer (some a_x)]) (w := w) Try.func32 rfl Try.ntmps32 rfl ?_
  refine TC.weak [(0, .int .i64 n), (1, .pointer (some a_x))] (by kernel_rfl) ?_
  refine TC.seq ?_
  refine TC.region ?_
  refine TL.run 1 [] [(0, .int .i64 n), (1, .pointer (some a_x))] rfl ⟨by kernel_rfl, by kernel_rfl⟩ ?_
  refine TL.next rfl ?_
  refine TC.seq ?_
  refine TC.draw 5 (by kernel_rfl) (by kernel_rfl) (by kernel_rfl) ?_
  refine TQ.run 1 [] [(1, .pointer (some a_x)), (4, .int .i64 n)] rfl ⟨by kernel_rfl, by kernel_rfl⟩ ?_
  refine TQ.call (some 5) [(1, .pointer (some a_x)), (5, .int .i64 (skywaykeep2_within n 0 99))] (fun w _ => skywaykeep2_within_w n 0 99 w (by first | omega | first | decide | omega | (simp only [w64_eq]; omega) | (simp <;> omega))) rfl (by kernel_rfl) (by kernel_rfl) ?_
  generalize hr1 : skywaykeep2_within n 0 99 = r1
  refine TQ.val (sV (Instr.loadAt 3 (.pointer (some a_x)))) (some 6) (.int .i64 x) [(5, .int .i64 r1), (6, .int .i64 x)] (fun w hM => run_load_one (off := 0) (.int .i64 x) (h_x.sat hM) (rows_one _) (by kernel_rfl) (by kernel_rfl)) rfl (by kernel_rfl) (by kernel_rfl) ?_
  refine TQ.run 5 [] [(3, .bool (r1 == x))] rfl ⟨by kernel_rfl, by kernel_rfl⟩ ?_
  refine TQ.next rfl ?_
  refine TC.ret ?_
  have e : skywaykeep2_ClimbHolds_1 n x = (r1 == x) := by subst hr1; unfold skywaykeep2_ClimbHolds_1; exact rfl
  exact TE.ret [] (.bool (r1 == x)) ⟨by kernel_rfl, by kernel_rfl⟩ (by rw [e]; first | done | kernel_rfl)

def IndexFunc_climb_L1 (c0 : Int) : List Int → Nat → ((Unit) ⊕ (Int))
  | [], _ => .inl ()
  | x :: xs, k => let r1 := skywaykeep2_ClimbHolds_1 x c0
    cond r1 (
      .inr (k : Int)) (
      IndexFunc_climb_L1 c0 xs (k + 1))
def IndexFunc_climb (s : List Int) (c0 : Int) : Int :=
  Sum.elim (fun _ =>
    (-1)) (fun r => r) (IndexFunc_climb_L1 c0 s 0)

set_option maxRecDepth 100000 in
theorem IndexFunc_climb_w (A_s : Option Addr) (c_s : Nat) (s : List Int) (a_c0 : Addr) (c0 : Int) (w : World) (h_s : Rd w 1 A_s (s.map ic)) (_hc_s : s.length ≤ c_s) (h_c0 : Rd w 1 (some a_c0) [ic c0]) : Calls Try.prog 51 #[.slice A_s s.length c_s, .func (.func 32) #[] #[.pointer (some a_c0)]] w (Ret w (.int .i64 (IndexFunc_climb s c0))) := by
  have s_s := h_s.short; rw [List.length_map] at s_s
  refine calls_intro (vs := [.slice A_s s.length c_s, .func (.func 32) #[] #[.pointer (some a_c0)]]) (w := w) Try.func51 rfl Try.ntmps51 rfl ?_
  refine TC.weak [(0, .slice A_s s.length c_s), (1, .func (.func 32) #[] #[.pointer (some a_c0)])] (by kernel_rfl) ?_
  refine TC.seq ?_
  refine TC.region ?_
  refine TL.run 1 [] [(0, .slice A_s s.length c_s), (1, .func (.func 32) #[] #[.pointer (some a_c0)])] rfl ⟨by kernel_rfl, by kernel_rfl⟩ ?_
  refine TL.next rfl ?_
  refine TC.seq ?_
  refine TC.seq ?_
  refine TC.region ?_
  refine TL.run 3 [] [(0, .slice A_s s.length c_s), (1, .func (.func 32) #[] #[.pointer (some a_c0)]), (7, .int .i64 (s.length : Int)), (8, .int .i64 0)] rfl ⟨by kernel_rfl, by kernel_rfl⟩ ?_
  refine TL.next rfl ?_
  refine TC.weak [(0, .slice A_s s.length c_s), (1, .func (.func 32) #[] #[.pointer (some a_c0)]), (7, .int .i64 (s.length : Int)), (8, .int .i64 0)] (by kernel_rfl) ?_
  obtain ⟨R1, hR⟩ : ∃ R, R = IndexFunc_climb_L1 c0 s 0 := ⟨_, rfl⟩
  refine TC.cut (S := Unit) (fun (_ : Unit) => []) (fun (_ : Unit) => []) (fun (_ : Unit) => R1 = .inl ()) ?_ ?_
  · refine TC.block ?_
    refine TC.loop (X := Nat) (fun k => [(0, .slice A_s s.length c_s), (1, .func (.func 32) #[] #[.pointer (some a_c0)]), (7, .int .i64 (s.length : Int)), (8, .int .i64 (k : Int))]) (fun k => []) (fun k => s.length - k) (fun k => k ≤ s.length ∧ R1 = IndexFunc_climb_L1 c0 (s.drop k) k) ?_ 0 ⟨Nat.zero_le _, hR⟩
    rintro k ⟨hk, hI⟩
    refine TC.seq ?_
    refine TC.region ?_
    refine TL.run 1 [] [(0, .slice A_s s.length c_s), (1, .func (.func 32) #[] #[.pointer (some a_c0)]), (7, .int .i64 (s.length : Int)), (8, .int .i64 (k : Int)), (9, .bool (decide ((k : Int) < (s.length : Int))))] rfl ⟨by kernel_rfl, by kernel_rfl⟩ ?_
    refine TL.next rfl ?_
    refine TC.seq ?_
    refine TC.cond (decide ((k : Int) < (s.length : Int))) rfl (by kernel_rfl) (fun h1 => ?_) (fun h1 => ?_)
    · have hlt : k < s.length := by have := of_decide_eq_true h1; first | omega | (simp at this; omega)
      obtain ⟨x, hx⟩ : ∃ x, s[k]? = some x := ⟨_, List.getElem?_eq_getElem hlt⟩
      have hd := drop_at hx
      refine TC.skip ?_
      refine TE.next ?_
      refine TC.seq ?_
      refine TC.block ?_
      refine TC.seq ?_
      refine TC.region ?_
      refine TL.run 2 [] [(0, .slice A_s s.length c_s), (1, .func (.func 32) #[] #[.pointer (some a_c0)]), (5, .int .i64 (k : Int)), (7, .int .i64 (s.length : Int)), (8, .int .i64 (k : Int))] rfl ⟨by kernel_rfl, by kernel_rfl⟩ ?_
      refine TL.next rfl ?_
      refine TC.seq ?_
      refine TC.region ?_
      refine TL.run 3 [] [(0, .slice A_s s.length c_s), (1, .func (.func 32) #[] #[.pointer (some a_c0)]), (5, .int .i64 (k : Int)), (7, .int .i64 (s.length : Int)), (8, .int .i64 (k : Int)), (11, .func (.func 32) #[] #[.pointer (some a_c0)]), (12, .slice A_s s.length c_s), (13, .int .i64 (k : Int))] rfl ⟨by kernel_rfl, by kernel_rfl⟩ ?_
      refine TL.val (sV (Instr.indexAt 68 (.slice A_s s.length c_s) (.int .i64 (k : Int)))) (some 14) (.pointer (some ((A_s.getD noAddr).add (k * 1)))) [(0, .slice A_s s.length c_s), (1, .func (.func 32) #[] #[.pointer (some a_c0)]), (5, .int .i64 (k : Int)), (7, .int .i64 (s.length : Int)), (8, .int .i64 (k : Int)), (11, .func (.func 32) #[] #[.pointer (some a_c0)]), (14, .pointer (some ((A_s.getD noAddr).add (k * 1))))] (fun w hM => run_index (h_s.sat hM) (by simp) (by kernel_rfl) (by first | omega | (simp only [List.length_drop]; omega) | (simp only [w64_eq]; omega)) (by first | omega | (simp only [List.length_drop]; omega) | (simp only [w64_eq]; omega))) (by kernel_rfl) (by kernel_rfl) ?_
      refine TL.val (sV (Instr.loadAt 3 (.pointer (some ((A_s.getD noAddr).add (k * 1)))))) (some 15) (.int .i64 x) [(0, .slice A_s s.length c_s), (1, .func (.func 32) #[] #[.pointer (some a_c0)]), (5, .int .i64 (k : Int)), (7, .int .i64 (s.length : Int)), (8, .int .i64 (k : Int)), (11, .func (.func 32) #[] #[.pointer (some a_c0)]), (15, .int .i64 x)] (fun w hM => run_load_one (off := 0) (.int .i64 x) (h_s.sat hM) (map_at hx) (by kernel_rfl) (by kernel_rfl)) (by kernel_rfl) (by kernel_rfl) ?_
      refine TL.call (some 16) [(0, .slice A_s s.length c_s), (1, .func (.func 32) #[] #[.pointer (some a_c0)]), (5, .int .i64 (k : Int)), (7, .int .i64 (s.length : Int)), (8, .int .i64 (k : Int)), (16, .bool ((skywaykeep2_ClimbHolds_1 x c0)))] (fun w hM => skywaykeep2_ClimbHolds_1_w x a_c0 c0 w (h_c0.sat hM)) (by kernel_rfl) (by kernel_rfl) ?_
      generalize hr1 : skywaykeep2_ClimbHolds_1 x c0 = r1
      refine TL.next rfl ?_
      refine TC.cond r1 rfl (by kernel_rfl) (fun h2 => ?_) (fun h2 => ?_)
      · refine TC.seq ?_
        refine TC.region ?_
        refine TL.run 2 [] [(4, .int .i64 (k : Int))] rfl ⟨by kernel_rfl, by kernel_rfl⟩ ?_
        refine TL.next rfl ?_
        refine TC.ret ?_
        refine TE.ret_block (TE.ret_then (TE.ret_then (TE.ret_block (TE.ret_then (TE.ret_then ?_)))))
        have e : IndexFunc_climb s c0 = (k : Int) := by subst hr1; unfold IndexFunc_climb; exact elim_r (hR.symm.trans (hI.trans (by rw [hd]; exact cond_t h2 (rfl)))) rfl
        exact TE.ret [] (.int .i64 (k : Int)) ⟨by kernel_rfl, by kernel_rfl⟩ (by rw [e]; first | done | kernel_rfl)
      · refine TC.skip ?_
        refine TE.normal_block ?_
        refine TE.next ?_
        refine TC.region ?_
        refine TL.run 2 [] [(0, .slice A_s s.length c_s), (1, .func (.func 32) #[] #[.pointer (some a_c0)]), (7, .int .i64 (s.length : Int)), (8, .int .i64 (w64 ((k : Int) + 1)))] rfl ⟨by kernel_rfl, by kernel_rfl⟩ ?_
        refine TL.done rfl ?_
        refine TE.rw 8 (.int .i64 (w64 ((k : Int) + 1))) (.int .i64 ((k + 1 : Nat) : Int)) (by kernel_rfl) (w64_cast k (by omega)) ?_
        exact TE.again (x := k) (k + 1) ⟨by omega, hI.trans (by subst hr1; rw [hd]; exact cond_f h2 (rfl))⟩ (by show s.length - (k + 1) < s.length - k; omega) (by kernel_rfl) (.slnil)
    · have hd : s.drop k = [] := List.drop_eq_nil_of_le (by have := of_decide_eq_false h1; first | omega | (simp at this; omega))
      refine TC.exit ?_
      refine TE.exit_then (TE.exit_then (TE.exit_same ?_))
      exact TE.cut () (hI.trans (by rw [hd]; exact rfl)) (by kernel_rfl) (.slnil)
  · intro _ hJ
    refine TE.next ?_
    refine TC.seq ?_
    refine TC.region ?_
    refine TL.run 1 [] [(4, .int .i64 (-1))] rfl ⟨by kernel_rfl, by kernel_rfl⟩ ?_
    refine TL.next rfl ?_
    refine TC.ret ?_
    have e : IndexFunc_climb s c0 = (-1) := by unfold IndexFunc_climb; exact elim_l (hR.symm.trans hJ) (rfl)
    exact TE.ret [] (.int .i64 (-1)) ⟨by kernel_rfl, by kernel_rfl⟩ (by rw [e]; first | done | kernel_rfl)

def ContainsFunc_climb (s : List Int) (c0 : Int) : Bool :=
  let r1 := IndexFunc_climb s c0
  decide (r1 ≥ 0)

set_option maxRecDepth 100000 in
theorem ContainsFunc_climb_w (A_s : Option Addr) (c_s : Nat) (s : List Int) (a_c0 : Addr) (c0 : Int) (w : World) (h_s : Rd w 1 A_s (s.map ic)) (hc_s : s.length ≤ c_s) (h_c0 : Rd w 1 (some a_c0) [ic c0]) : Calls Try.prog 31 #[.slice A_s s.length c_s, .func (.func 32) #[] #[.pointer (some a_c0)]] w (Ret w (.bool (ContainsFunc_climb s c0))) := by
  have s_s := h_s.short; rw [List.length_map] at s_s
  refine calls_intro (vs := [.slice A_s s.length c_s, .func (.func 32) #[] #[.pointer (some a_c0)]]) (w := w) Try.func31 rfl Try.ntmps31 rfl ?_
  refine TC.weak [(0, .slice A_s s.length c_s), (1, .func (.func 32) #[] #[.pointer (some a_c0)])] (by kernel_rfl) ?_
  refine TC.seq ?_
  refine TC.region ?_
  refine TL.run 1 [] [(0, .slice A_s s.length c_s), (1, .func (.func 32) #[] #[.pointer (some a_c0)])] rfl ⟨by kernel_rfl, by kernel_rfl⟩ ?_
  refine TL.next rfl ?_
  refine TC.seq ?_
  refine TC.region ?_
  refine TL.run 2 [] [(5, .slice A_s s.length c_s), (6, .func (.func 32) #[] #[.pointer (some a_c0)])] rfl ⟨by kernel_rfl, by kernel_rfl⟩ ?_
  refine TL.call (some 7) [(7, .int .i64 (IndexFunc_climb s c0))] (fun w hM => IndexFunc_climb_w A_s c_s s a_c0 c0 w (h_s.sat hM) hc_s (h_c0.sat hM)) (by kernel_rfl) (by kernel_rfl) ?_
  generalize hr1 : IndexFunc_climb s c0 = r1
  refine TL.run 5 [] [(4, .bool (decide (r1 ≥ 0)))] rfl ⟨by kernel_rfl, by kernel_rfl⟩ ?_
  refine TL.next rfl ?_
  refine TC.ret ?_
  have e : ContainsFunc_climb s c0 = (decide (r1 ≥ 0)) := by subst hr1; unfold ContainsFunc_climb; exact rfl
  exact TE.ret [] (.bool (decide (r1 ≥ 0))) ⟨by kernel_rfl, by kernel_rfl⟩ (by rw [e]; first | done | kernel_rfl)

def skywaykeep2_ClimbHolds_L1 (times : List Int) (r2 : Int) (r3 : Int) : Nat → Nat → (List ClimbReport) → ((List ClimbReport) ⊕ (Bool))
  | 0, _, l => .inl l
  | m + 1, k, l => let r4 := ContainsFunc_climb times (k : Int)
    cond ((!r4) || ((l.length : Int) == 8)) (
      skywaykeep2_ClimbHolds_L1 times r2 r3 m (k + 1) l) (
      let r5 := climb_Level (w64 (r2 + (w64 (r3 * (k : Int)))))
      cond (r5.2 != 0) (
        .inr false) (
        skywaykeep2_ClimbHolds_L1 times r2 r3 m (k + 1) (l ++ ([(⟨(k : Int), r5.1⟩ : ClimbReport)]))))
def skywaykeep2_ClimbHolds_L2 (r2 : Int) (r3 : Int) (l_2 : List ClimbReport) : Nat → Nat → ((Unit) ⊕ (Bool))
  | 0, _ => .inl ()
  | m + 1, k_2 => let r7 := climb_Heights l_2 ((7 * k_2 : Nat) : Int)
    cond (((r7.2.2 != 0) || (decide ((w64 (r2 + (w64 (r3 * ((7 * k_2 : Nat) : Int))))) < r7.1))) || (decide ((w64 (r2 + (w64 (r3 * ((7 * k_2 : Nat) : Int))))) > r7.2.1))) (
      .inr false) (
      skywaykeep2_ClimbHolds_L2 r2 r3 l_2 m (k_2 + 1))
def skywaykeep2_ClimbHolds (height : Int) (rate : Int) (times : List Int) : Bool :=
  let r1 := climb_Level 5199
  cond ((r1.2 != 0) || (r1.1 != 51)) (
    false) (
    let r2 := skywaykeep2_within height 20000 40000
    let r3 := skywaykeep2_within rate (-100) 100
    Sum.elim (fun l_2 =>
      let r6 := climb_Rates l_2
      cond (((r6.2.2 != 0) || (decide ((w64 (16 * r3)) < r6.1))) || (decide ((w64 (16 * r3)) > r6.2.1))) (
        false) (
        Sum.elim (fun _ =>
          true) (fun r => r) (skywaykeep2_ClimbHolds_L2 r2 r3 l_2 20 0))) (fun r => r) (skywaykeep2_ClimbHolds_L1 times r2 r3 ((100 : Int).toNat) 0 ([] : List ClimbReport)))

set_option maxRecDepth 100000 in
theorem skywaykeep2_ClimbHolds_w (height : Int) (rate : Int) (A_times : Option Addr) (c_times : Nat) (times : List Int) (w : World) (h_times : Rd w 1 A_times (times.map ic)) (hc_times : times.length ≤ c_times) : Calls Try.prog 11 #[.int .i64 height, .int .i64 rate, .slice A_times times.length c_times] w (Ret w (.bool (skywaykeep2_ClimbHolds height rate times))) := by
  have s_times := h_times.short; rw [List.length_map] at s_times
  refine calls_intro (vs := [.int .i64 height, .int .i64 rate, .slice A_times times.length c_times]) (w := w) Try.func11 rfl Try.ntmps11 rfl ?_
  refine TC.weak [(0, .int .i64 height), (1, .int .i64 rate), (2, .slice A_times times.length c_times)] (by kernel_rfl) ?_
  refine TC.seq ?_
  refine TC.region ?_
  refine TL.run 1 [] [(0, .int .i64 height), (1, .int .i64 rate), (2, .slice A_times times.length c_times)] rfl ⟨by kernel_rfl, by kernel_rfl⟩ ?_
  refine TL.next rfl ?_
  refine TC.seq ?_
  refine TC.seq ?_
  refine TC.region ?_
  refine TL.call (some 21) [(0, .int .i64 height), (1, .int .i64 rate), (2, .slice A_times times.length c_times), (21, .tuple #[.int .i64 ((climb_Level 5199).1), .int .i64 ((climb_Level 5199).2)])] (fun w _ => climb_Level_w 5199 w) (by kernel_rfl) (by kernel_rfl) ?_
  generalize hr1 : climb_Level 5199 = r1
  refine TL.run 6 [] [(0, .int .i64 height), (1, .int .i64 rate), (2, .slice A_times times.length c_times), (7, .int .i64 r1.1), (8, .int .i64 r1.2)] rfl ⟨by kernel_rfl, by kernel_rfl⟩ ?_
  refine TL.next rfl ?_
  refine TC.seq ?_
  refine TC.region ?_
  refine TL.run 3 [] [(0, .int .i64 height), (1, .int .i64 rate), (2, .slice A_times times.length c_times), (7, .int .i64 r1.1), (26, .bool (r1.2 != 0))] rfl ⟨by kernel_rfl, by kernel_rfl⟩ ?_
  refine TL.join 26 (r1.2 != 0) 6 [] [] (fun β => [(0, .int .i64 height), (1, .int .i64 rate), (2, .slice A_times times.length c_times), (29, .bool (β || (r1.1 != 51)))]) (by kernel_rfl) rfl ⟨by kernel_rfl, by kernel_rfl⟩ ⟨by kernel_rfl, by kernel_rfl⟩ ?_
  refine TL.next rfl ?_
  refine TC.cond ((r1.2 != 0) || (r1.1 != 51)) rfl (by kernel_rfl) (fun h1 => ?_) (fun h1 => ?_)
  · refine TC.seq ?_
    refine TC.region ?_
    refine TL.run 1 [] [(6, .bool false)] rfl ⟨by kernel_rfl, by kernel_rfl⟩ ?_
    refine TL.next rfl ?_
    refine TC.ret ?_
    refine TE.ret_then ?_
    have e : skywaykeep2_ClimbHolds height rate times = false := by subst hr1; unfold skywaykeep2_ClimbHolds; exact cond_t h1 (rfl)
    exact TE.ret [] (.bool false) ⟨by kernel_rfl, by kernel_rfl⟩ (by rw [e]; first | done | kernel_rfl)
  · refine TC.skip ?_
    refine TE.next ?_
    refine TC.seq ?_
    refine TC.region ?_
    refine TL.run 1 [] [(1, .int .i64 rate), (2, .slice A_times times.length c_times), (30, .int .i64 height)] rfl ⟨by kernel_rfl, by kernel_rfl⟩ ?_
    refine TL.call (some 31) [(1, .int .i64 rate), (2, .slice A_times times.length c_times), (31, .int .i64 (skywaykeep2_within height 20000 40000))] (fun w _ => skywaykeep2_within_w height 20000 40000 w (by have q0_ := (bne_f (or_f1 h1)); have q1_ := (bne_f (or_f2 h1)); first | omega | first | decide | omega | (simp only [w64_eq]; omega) | (simp <;> omega))) (by kernel_rfl) (by kernel_rfl) ?_
    generalize hr2 : skywaykeep2_within height 20000 40000 = r2
    refine TL.run 3 [] [(2, .slice A_times times.length c_times), (31, .int .i64 r2), (32, .int .i64 rate)] rfl ⟨by kernel_rfl, by kernel_rfl⟩ ?_
    refine TL.call (some 33) [(2, .slice A_times times.length c_times), (31, .int .i64 r2), (33, .int .i64 (skywaykeep2_within rate (-100) 100))] (fun w _ => skywaykeep2_within_w rate (-100) 100 w (by have q0_ := (bne_f (or_f1 h1)); have q1_ := (bne_f (or_f2 h1)); first | omega | first | decide | omega | (simp only [w64_eq]; omega) | (simp <;> omega))) (by kernel_rfl) (by kernel_rfl) ?_
    generalize hr3 : skywaykeep2_within rate (-100) 100 = r3
    refine TL.run 6 [] [(0, .int .i64 r2), (1, .int .i64 r3), (2, .slice A_times times.length c_times)] rfl ⟨by kernel_rfl, by kernel_rfl⟩ ?_
    refine TL.next rfl ?_
    refine TC.seq ?_
    refine TC.region ?_
    refine TL.run 1 [] [(0, .int .i64 r2), (1, .int .i64 r3), (2, .slice A_times times.length c_times), (9, .slice none 0 0)] rfl ⟨by kernel_rfl, by kernel_rfl⟩ ?_
    refine TL.next rfl ?_
    refine TC.seq ?_
    refine TC.seq ?_
    refine TC.region ?_
    refine TL.run 1 [] [(0, .int .i64 r2), (1, .int .i64 r3), (2, .slice A_times times.length c_times), (9, .slice none 0 0), (34, .int .i64 0)] rfl ⟨by kernel_rfl, by kernel_rfl⟩ ?_
    refine TL.next rfl ?_
    refine TC.conv [.inr (Own none 0 71 2 (([] : List ClimbReport).map ClimbReport.c))] (fun _ hM => hM.emptyrow none 71 2) ?_
    refine TC.weak [(0, .int .i64 r2), (1, .int .i64 r3), (2, .slice A_times times.length c_times), (9, .slice none (([] : List ClimbReport).length) 0), (34, .int .i64 0)] (by kernel_rfl) ?_
    obtain ⟨R2, hR⟩ : ∃ R, R = skywaykeep2_ClimbHolds_L1 times r2 r3 ((100 : Int).toNat) 0 ([] : List ClimbReport) := ⟨_, rfl⟩
    refine TC.cut (S := (List ClimbReport) × (Option Addr) × Nat) (fun (l_2, A_l_2, c_l_2) => [(0, .int .i64 r2), (1, .int .i64 r3), (9, .slice A_l_2 l_2.length c_l_2)]) (fun (l_2, A_l_2, c_l_2) => [.inr (Own A_l_2 c_l_2 71 2 (l_2.map ClimbReport.c))]) (fun (l_2, A_l_2, c_l_2) => R2 = .inl l_2 ∧ l_2.length ≤ (100 : Int).toNat) ?_ ?_
    · refine TC.block ?_
      refine TC.loop (X := Nat × (List ClimbReport) × (Option Addr) × Nat) (fun (k, l, A_l, c_l) => [(0, .int .i64 r2), (1, .int .i64 r3), (2, .slice A_times times.length c_times), (9, .slice A_l l.length c_l), (34, .int .i64 (k : Int))]) (fun (k, l, A_l, c_l) => [.inr (Own A_l c_l 71 2 (l.map ClimbReport.c))]) (fun (k, l, A_l, c_l) => (100 : Int).toNat - k) (fun (k, l, A_l, c_l) => k ≤ (100 : Int).toNat ∧ R2 = skywaykeep2_ClimbHolds_L1 times r2 r3 ((100 : Int).toNat - k) k l ∧ l.length ≤ k) ?_ (0, ([] : List ClimbReport), none, 0) ⟨Nat.zero_le _, hR, (by first | omega | (simp; omega) | simp)⟩
      rintro ⟨k, l, A_l, c_l⟩ ⟨hk, hI, hl_l⟩
      refine TC.seq ?_
      refine TC.region ?_
      refine TL.run 1 [] [(0, .int .i64 r2), (1, .int .i64 r3), (2, .slice A_times times.length c_times), (9, .slice A_l l.length c_l), (34, .int .i64 (k : Int)), (35, .bool (decide ((k : Int) < 100)))] rfl ⟨by kernel_rfl, by kernel_rfl⟩ ?_
      refine TL.next rfl ?_
      refine TC.seq ?_
      refine TC.cond (decide ((k : Int) < 100)) rfl (by kernel_rfl) (fun h2 => ?_) (fun h2 => ?_)
      · have hlt : k < (100 : Int).toNat := by have := of_decide_eq_true h2; first | omega | (simp at this; omega)
        have hd : (100 : Int).toNat - k = ((100 : Int).toNat - (k + 1)) + 1 := by omega
        refine TC.skip ?_
        refine TE.next ?_
        refine TC.seq ?_
        refine TC.block ?_
        refine TC.seq ?_
        refine TC.region ?_
        refine TL.run 1 [] [(0, .int .i64 r2), (1, .int .i64 r3), (2, .slice A_times times.length c_times), (9, .slice A_l l.length c_l), (34, .int .i64 (k : Int)), (36, .int .i64 (k : Int))] rfl ⟨by kernel_rfl, by kernel_rfl⟩ ?_
        refine TL.write 0 (fun b1 => [(0, .int .i64 r2), (1, .int .i64 r3), (2, .slice A_times times.length c_times), (9, .slice A_l l.length c_l), (10, .pointer (some ⟨b1, 0, none⟩)), (34, .int .i64 (k : Int)), (36, .int .i64 (k : Int))]) (fun b1 => [.inl (b1, .cells #[.int .i64 0] 3 (0, 0)), .inr (Own A_l c_l 71 2 (l.map ClimbReport.c))]) (fun b1 => ⟨by kernel_rfl, by kernel_rfl⟩) (fun b1 => ?_)
        refine TL.write 0 (fun _ => [(0, .int .i64 r2), (1, .int .i64 r3), (2, .slice A_times times.length c_times), (9, .slice A_l l.length c_l), (10, .pointer (some ⟨b1, 0, none⟩)), (34, .int .i64 (k : Int))]) (fun _ => [.inl (b1, .cells #[.int .i64 (k : Int)] 3 (0, 0)), .inr (Own A_l c_l 71 2 (l.map ClimbReport.c))]) (fun _ => ⟨by kernel_rfl, by kernel_rfl⟩) (fun _ => ?_)
        refine TL.next rfl ?_
        refine TC.seq ?_
        refine TC.seq ?_
        refine TC.region ?_
        refine TL.run 2 [] [(0, .int .i64 r2), (1, .int .i64 r3), (2, .slice A_times times.length c_times), (9, .slice A_l l.length c_l), (10, .pointer (some ⟨b1, 0, none⟩)), (34, .int .i64 (k : Int)), (37, .slice A_times times.length c_times), (38, .func (.func 32) #[] #[.pointer (some ⟨b1, 0, none⟩)])] rfl ⟨by kernel_rfl, by kernel_rfl⟩ ?_
        refine TL.call (some 39) [(0, .int .i64 r2), (1, .int .i64 r3), (2, .slice A_times times.length c_times), (9, .slice A_l l.length c_l), (10, .pointer (some ⟨b1, 0, none⟩)), (34, .int .i64 (k : Int)), (39, .bool ((ContainsFunc_climb times (k : Int))))] (fun w hM => ContainsFunc_climb_w A_times c_times times ⟨b1, 0, none⟩ (k : Int) w (h_times.sat hM) hc_times (Rd.lit hM 0 _ rfl (by kernel_rfl) (by kernel_rfl) (by kernel_rfl))) (by kernel_rfl) (by kernel_rfl) ?_
        generalize hr4 : ContainsFunc_climb times (k : Int) = r4
        refine TL.run 5 [] [(0, .int .i64 r2), (1, .int .i64 r3), (2, .slice A_times times.length c_times), (9, .slice A_l l.length c_l), (10, .pointer (some ⟨b1, 0, none⟩)), (34, .int .i64 (k : Int)), (41, .bool (!r4))] rfl ⟨by kernel_rfl, by kernel_rfl⟩ ?_
        refine TL.join 41 (!r4) 9 [] [] (fun β => [(0, .int .i64 r2), (1, .int .i64 r3), (2, .slice A_times times.length c_times), (9, .slice A_l l.length c_l), (10, .pointer (some ⟨b1, 0, none⟩)), (34, .int .i64 (k : Int)), (45, .bool (β || ((l.length : Int) == 8)))]) (by kernel_rfl) rfl ⟨by kernel_rfl, by kernel_rfl⟩ ⟨by kernel_rfl, by kernel_rfl⟩ ?_
        refine TL.next rfl ?_
        refine TC.cond ((!r4) || ((l.length : Int) == 8)) rfl (by kernel_rfl) (fun h3 => ?_) (fun h3 => ?_)
        · refine TC.exit ?_
          refine TE.exit_then (TE.exit_same ?_)
          refine TE.next ?_
          refine TC.region ?_
          refine TL.run 2 [] [(0, .int .i64 r2), (1, .int .i64 r3), (2, .slice A_times times.length c_times), (9, .slice A_l l.length c_l), (34, .int .i64 (w64 ((k : Int) + 1)))] rfl ⟨by kernel_rfl, by kernel_rfl⟩ ?_
          refine TL.done rfl ?_
          refine TE.rw 34 (.int .i64 (w64 ((k : Int) + 1))) (.int .i64 ((k + 1 : Nat) : Int)) (by kernel_rfl) (w64_cast k (by omega)) ?_
          exact TE.again (x := (k, l, A_l, c_l)) (k + 1, l, A_l, c_l) ⟨by omega, hI.trans (by subst hr1 hr2 hr3 hr4; rw [hd]; exact cond_t h3 (rfl)), (by have q0_ := (bne_f (or_f1 h1)); have q1_ := (bne_f (or_f2 h1)); first | omega | (simp <;> omega) | (simp at * <;> omega))⟩ (by show (100 : Int).toNat - (k + 1) < (100 : Int).toNat - k; omega) (by kernel_rfl) (.cons _ (.cons_cons _ (.slnil)))
        · refine TC.skip ?_
          refine TE.next ?_
          refine TC.seq ?_
          refine TC.region ?_
          refine TL.run 5 [0] [(0, .int .i64 r2), (1, .int .i64 r3), (2, .slice A_times times.length c_times), (9, .slice A_l l.length c_l), (10, .pointer (some ⟨b1, 0, none⟩)), (34, .int .i64 (k : Int)), (51, .int .i64 (w64 (r2 + (w64 (r3 * (k : Int))))))] rfl ⟨by kernel_rfl, by kernel_rfl⟩ ?_
          refine TL.call (some 52) [(0, .int .i64 r2), (1, .int .i64 r3), (2, .slice A_times times.length c_times), (9, .slice A_l l.length c_l), (10, .pointer (some ⟨b1, 0, none⟩)), (34, .int .i64 (k : Int)), (52, .tuple #[.int .i64 ((climb_Level (w64 (r2 + (w64 (r3 * (k : Int)))))).1), .int .i64 ((climb_Level (w64 (r2 + (w64 (r3 * (k : Int)))))).2)])] (fun w _ => climb_Level_w (w64 (r2 + (w64 (r3 * (k : Int))))) w) (by kernel_rfl) (by kernel_rfl) ?_
          generalize hr5 : climb_Level (w64 (r2 + (w64 (r3 * (k : Int))))) = r5
          refine TL.run 11 [] [(0, .int .i64 r2), (1, .int .i64 r3), (2, .slice A_times times.length c_times), (9, .slice A_l l.length c_l), (10, .pointer (some ⟨b1, 0, none⟩)), (11, .int .i64 r5.1), (12, .int .i64 r5.2), (34, .int .i64 (k : Int))] rfl ⟨by kernel_rfl, by kernel_rfl⟩ ?_
          refine TL.next rfl ?_
          refine TC.seq ?_
          refine TC.seq ?_
          refine TC.region ?_
          refine TL.run 2 [] [(0, .int .i64 r2), (1, .int .i64 r3), (2, .slice A_times times.length c_times), (9, .slice A_l l.length c_l), (10, .pointer (some ⟨b1, 0, none⟩)), (11, .int .i64 r5.1), (34, .int .i64 (k : Int)), (56, .bool (r5.2 != 0))] rfl ⟨by kernel_rfl, by kernel_rfl⟩ ?_
          refine TL.next rfl ?_
          refine TC.cond (r5.2 != 0) rfl (by kernel_rfl) (fun h4 => ?_) (fun h4 => ?_)
          · refine TC.seq ?_
            refine TC.region ?_
            refine TL.run 1 [] [(6, .bool false)] rfl ⟨by kernel_rfl, by kernel_rfl⟩ ?_
            refine TL.next rfl ?_
            refine TC.ret ?_
            refine TE.ret_then (TE.ret_block (TE.ret_then (TE.ret_then (TE.ret_block (TE.ret_then (TE.ret_then ?_))))))
            have e : skywaykeep2_ClimbHolds height rate times = false := by subst hr1 hr2 hr3 hr4 hr5; unfold skywaykeep2_ClimbHolds; exact cond_f h1 (elim_r (hR.symm.trans (hI.trans (by rw [hd]; exact cond_f h3 (cond_t h4 (rfl))))) rfl)
            exact TE.ret [] (.bool false) ⟨by kernel_rfl, by kernel_rfl⟩ (by rw [e]; first | done | kernel_rfl)
          · refine TC.skip ?_
            refine TE.next ?_
            refine TC.region ?_
            refine TL.run 4 [0] [(0, .int .i64 r2), (1, .int .i64 r3), (2, .slice A_times times.length c_times), (34, .int .i64 (k : Int)), (57, .slice A_l l.length c_l), (60, .agg #[.int .i64 (k : Int), .int .i64 r5.1])] rfl ⟨by kernel_rfl, by kernel_rfl⟩ ?_
            refine TL.write 0 (fun b2 => [(0, .int .i64 r2), (1, .int .i64 r3), (2, .slice A_times times.length c_times), (34, .int .i64 (k : Int)), (57, .slice A_l l.length c_l), (61, .slice (some ⟨b2, 0, none⟩) 1 1)]) (fun b2 => [.inl (b2, .cells #[.int .i64 (k : Int), .int .i64 r5.1] 71 (0, 0)), .inl (b1, .cells #[.int .i64 (k : Int)] 3 (0, 0)), .inr (Own A_l c_l 71 2 (l.map ClimbReport.c))]) (fun b2 => ⟨by kernel_rfl, by kernel_rfl⟩) (fun b2 => ?_)
            refine TL.opM (Γ := Option Addr × Nat) (sV (Builtin.append_ #[34, 34] 34 #[.slice A_l l.length c_l, .slice (some ⟨b2, 0, none⟩) 1 1])) (some 62) (fun g => .slice g.1 (l ++ ([(⟨(k : Int), r5.1⟩ : ClimbReport)])).length g.2) (fun g => [.inl (b2, .cells #[.int .i64 (k : Int), .int .i64 r5.1] 71 (0, 0)), .inl (b1, .cells #[.int .i64 (k : Int)] 3 (0, 0)), .inr (Own g.1 g.2 71 2 ((l ++ ([(⟨(k : Int), r5.1⟩ : ClimbReport)])).map ClimbReport.c))]) (fun g => [(0, .int .i64 r2), (1, .int .i64 r3), (2, .slice A_times times.length c_times), (34, .int .i64 (k : Int)), (62, .slice g.1 ((l ++ ([(⟨(k : Int), r5.1⟩ : ClimbReport)])).length) g.2)]) (app_at (bytes := 16) 34 2 ([(⟨(k : Int), r5.1⟩ : ClimbReport)]) (by kernel_rfl) rfl rfl ClimbReport.one rfl (fun w hM => (Rd.lit hM 0 _ rfl (by kernel_rfl) (by kernel_rfl) (by kernel_rfl))) rfl (by have q0_ := (bne_f (or_f1 h1)); have q1_ := (bne_f (or_f2 h1)); have q2_ := (beq_f (or_f2 h3)); have q3_ := (bne_f h4); first | omega | (simp <;> omega) | (simp at * <;> omega))) (by kernel_rfl) (fun g => by kernel_rfl) ?_
            rintro ⟨A, c⟩
            refine TL.run 7 [] [(0, .int .i64 r2), (1, .int .i64 r3), (2, .slice A_times times.length c_times), (9, .slice A ((l ++ ([(⟨(k : Int), r5.1⟩ : ClimbReport)])).length) c), (34, .int .i64 (k : Int))] rfl ⟨by kernel_rfl, by kernel_rfl⟩ ?_
            refine TL.done rfl ?_
            refine TE.normal_block ?_
            refine TE.next ?_
            refine TC.region ?_
            refine TL.run 2 [] [(0, .int .i64 r2), (1, .int .i64 r3), (2, .slice A_times times.length c_times), (9, .slice A ((l ++ ([(⟨(k : Int), r5.1⟩ : ClimbReport)])).length) c), (34, .int .i64 (w64 ((k : Int) + 1)))] rfl ⟨by kernel_rfl, by kernel_rfl⟩ ?_
            refine TL.done rfl ?_
            refine TE.rw 34 (.int .i64 (w64 ((k : Int) + 1))) (.int .i64 ((k + 1 : Nat) : Int)) (by kernel_rfl) (w64_cast k (by omega)) ?_
            exact TE.again (x := (k, l, A_l, c_l)) (k + 1, (l ++ ([(⟨(k : Int), r5.1⟩ : ClimbReport)])), A, c) ⟨by omega, hI.trans (by subst hr1 hr2 hr3 hr4 hr5; rw [hd]; exact cond_f h3 (cond_f h4 (rfl))), (by have q0_ := (bne_f (or_f1 h1)); have q1_ := (bne_f (or_f2 h1)); have q2_ := (beq_f (or_f2 h3)); have q3_ := (bne_f h4); first | omega | (simp <;> omega) | (simp at * <;> omega))⟩ (by show (100 : Int).toNat - (k + 1) < (100 : Int).toNat - k; omega) (by kernel_rfl) (.cons _ (.cons _ (.cons_cons _ (.slnil))))
      · have hd : (100 : Int).toNat - k = 0 := by have := of_decide_eq_false h2; first | omega | (simp at this; omega)
        refine TC.exit ?_
        refine TE.exit_then (TE.exit_then (TE.exit_same ?_))
        exact TE.cut (l, A_l, c_l) (⟨hI.trans (by subst hr1 hr2 hr3; rw [hd]; exact rfl), (by have q0_ := (bne_f (or_f1 h1)); have q1_ := (bne_f (or_f2 h1)); first | omega | (simp <;> omega) | (simp at * <;> omega))⟩) (by kernel_rfl) (.cons_cons _ (.slnil))
    · rintro ⟨l_2, A_l_2, c_l_2⟩ ⟨hJ, hl_l_2⟩
      refine TE.next ?_
      refine TC.seq ?_
      refine TC.region ?_
      refine TL.run 1 [] [(0, .int .i64 r2), (1, .int .i64 r3), (9, .slice A_l_2 l_2.length c_l_2), (65, .slice A_l_2 l_2.length c_l_2)] rfl ⟨by kernel_rfl, by kernel_rfl⟩ ?_
      refine TL.call (some 66) [(0, .int .i64 r2), (1, .int .i64 r3), (9, .slice A_l_2 l_2.length c_l_2), (66, .tuple #[.int .i64 ((climb_Rates l_2).1), .int .i64 ((climb_Rates l_2).2.1), .int .i64 ((climb_Rates l_2).2.2)])] (fun w hM => climb_Rates_w A_l_2 c_l_2 l_2 w (hM.rd_at 0 rfl) (hM.le_at 0 rfl)) (by kernel_rfl) (by kernel_rfl) ?_
      generalize hr6 : climb_Rates l_2 = r6
      refine TL.run 9 [] [(0, .int .i64 r2), (1, .int .i64 r3), (9, .slice A_l_2 l_2.length c_l_2), (13, .int .i64 r6.1), (14, .int .i64 r6.2.1), (15, .int .i64 r6.2.2)] rfl ⟨by kernel_rfl, by kernel_rfl⟩ ?_
      refine TL.next rfl ?_
      refine TC.seq ?_
      refine TC.seq ?_
      refine TC.region ?_
      refine TL.run 3 [] [(0, .int .i64 r2), (1, .int .i64 r3), (9, .slice A_l_2 l_2.length c_l_2), (13, .int .i64 r6.1), (14, .int .i64 r6.2.1), (72, .bool (r6.2.2 != 0))] rfl ⟨by kernel_rfl, by kernel_rfl⟩ ?_
      refine TL.join 72 (r6.2.2 != 0) 8 [] [] (fun β => [(0, .int .i64 r2), (1, .int .i64 r3), (9, .slice A_l_2 l_2.length c_l_2), (14, .int .i64 r6.2.1), (77, .bool (β || (decide ((w64 (16 * r3)) < r6.1))))]) (by kernel_rfl) rfl ⟨by kernel_rfl, by kernel_rfl⟩ ⟨by kernel_rfl, by kernel_rfl⟩ ?_
      refine TL.run 9 [] [(0, .int .i64 r2), (1, .int .i64 r3), (9, .slice A_l_2 l_2.length c_l_2), (14, .int .i64 r6.2.1), (78, .bool ((r6.2.2 != 0) || (decide ((w64 (16 * r3)) < r6.1))))] rfl ⟨by kernel_rfl, by kernel_rfl⟩ ?_
      refine TL.join 78 ((r6.2.2 != 0) || (decide ((w64 (16 * r3)) < r6.1))) 14 [] [] (fun β => [(0, .int .i64 r2), (1, .int .i64 r3), (9, .slice A_l_2 l_2.length c_l_2), (83, .bool (β || (decide ((w64 (16 * r3)) > r6.2.1))))]) (by kernel_rfl) rfl ⟨by kernel_rfl, by kernel_rfl⟩ ⟨by kernel_rfl, by kernel_rfl⟩ ?_
      refine TL.next rfl ?_
      refine TC.cond (((r6.2.2 != 0) || (decide ((w64 (16 * r3)) < r6.1))) || (decide ((w64 (16 * r3)) > r6.2.1))) rfl (by kernel_rfl) (fun h5 => ?_) (fun h5 => ?_)
      · refine TC.seq ?_
        refine TC.region ?_
        refine TL.run 1 [] [(6, .bool false)] rfl ⟨by kernel_rfl, by kernel_rfl⟩ ?_
        refine TL.next rfl ?_
        refine TC.ret ?_
        refine TE.ret_then ?_
        have e : skywaykeep2_ClimbHolds height rate times = false := by subst hr1 hr2 hr3 hr6; unfold skywaykeep2_ClimbHolds; exact cond_f h1 (elim_l (hR.symm.trans hJ) (cond_t h5 (rfl)))
        exact TE.ret [] (.bool false) ⟨by kernel_rfl, by kernel_rfl⟩ (by rw [e]; first | done | kernel_rfl)
      · refine TC.skip ?_
        refine TE.next ?_
        refine TC.seq ?_
        refine TC.seq ?_
        refine TC.region ?_
        refine TL.run 1 [] [(0, .int .i64 r2), (1, .int .i64 r3), (9, .slice A_l_2 l_2.length c_l_2), (16, .int .i64 0)] rfl ⟨by kernel_rfl, by kernel_rfl⟩ ?_
        refine TL.next rfl ?_
        refine TC.weak [(0, .int .i64 r2), (1, .int .i64 r3), (9, .slice A_l_2 l_2.length c_l_2), (16, .int .i64 0)] (by kernel_rfl) ?_
        obtain ⟨R3, hR_2⟩ : ∃ R, R = skywaykeep2_ClimbHolds_L2 r2 r3 l_2 20 0 := ⟨_, rfl⟩
        refine TC.cut (S := Unit) (fun (_ : Unit) => []) (fun (_ : Unit) => []) (fun (_ : Unit) => R3 = .inl ()) ?_ ?_
        · refine TC.block ?_
          refine TC.loop (X := Nat) (fun k_2 => [(0, .int .i64 r2), (1, .int .i64 r3), (9, .slice A_l_2 l_2.length c_l_2), (16, .int .i64 ((7 * k_2 : Nat) : Int))]) (fun k_2 => [.inr (Own A_l_2 c_l_2 71 2 (l_2.map ClimbReport.c))]) (fun k_2 => 20 - k_2) (fun k_2 => k_2 ≤ 20 ∧ R3 = skywaykeep2_ClimbHolds_L2 r2 r3 l_2 (20 - k_2) k_2) ?_ 0 ⟨Nat.zero_le _, hR_2⟩
          rintro k_2 ⟨hk_2, hI_2⟩
          refine TC.seq ?_
          refine TC.seq ?_
          refine TC.region ?_
          refine TL.run 2 [] [(0, .int .i64 r2), (1, .int .i64 r3), (9, .slice A_l_2 l_2.length c_l_2), (16, .int .i64 ((7 * k_2 : Nat) : Int)), (85, .bool (decide (((7 * k_2 : Nat) : Int) < 140)))] rfl ⟨by kernel_rfl, by kernel_rfl⟩ ?_
          refine TL.next rfl ?_
          refine TC.cond (decide (((7 * k_2 : Nat) : Int) < 140)) rfl (by kernel_rfl) (fun h6 => ?_) (fun h6 => ?_)
          · have hlt_2 : k_2 < 20 := by have q0_ := (bne_f (or_f1 h1)); have q1_ := (bne_f (or_f2 h1)); have q2_ := (bne_f (or_f1 (or_f1 h5))); have q3_ := (dec_f (or_f2 (or_f1 h5))); have q4_ := (dec_f (or_f2 h5)); have p0_ := (dec_t h6); first | omega | (simp only [w64_eq] at *; omega)
            have hd_2 : 20 - k_2 = (20 - (k_2 + 1)) + 1 := by omega
            refine TC.skip ?_
            refine TE.next ?_
            refine TC.seq ?_
            refine TC.block ?_
            refine TC.seq ?_
            refine TC.region ?_
            refine TL.run 2 [] [(0, .int .i64 r2), (1, .int .i64 r3), (9, .slice A_l_2 l_2.length c_l_2), (16, .int .i64 ((7 * k_2 : Nat) : Int)), (89, .slice A_l_2 l_2.length c_l_2), (90, .int .i64 ((7 * k_2 : Nat) : Int))] rfl ⟨by kernel_rfl, by kernel_rfl⟩ ?_
            refine TL.call (some 91) [(0, .int .i64 r2), (1, .int .i64 r3), (9, .slice A_l_2 l_2.length c_l_2), (16, .int .i64 ((7 * k_2 : Nat) : Int)), (91, .tuple #[.int .i64 ((climb_Heights l_2 ((7 * k_2 : Nat) : Int)).1), .int .i64 ((climb_Heights l_2 ((7 * k_2 : Nat) : Int)).2.1), .int .i64 ((climb_Heights l_2 ((7 * k_2 : Nat) : Int)).2.2)])] (fun w hM => climb_Heights_w A_l_2 c_l_2 l_2 ((7 * k_2 : Nat) : Int) w (hM.rd_at 0 rfl) (hM.le_at 0 rfl)) (by kernel_rfl) (by kernel_rfl) ?_
            generalize hr7 : climb_Heights l_2 ((7 * k_2 : Nat) : Int) = r7
            refine TL.run 10 [] [(0, .int .i64 r2), (1, .int .i64 r3), (9, .slice A_l_2 l_2.length c_l_2), (16, .int .i64 ((7 * k_2 : Nat) : Int)), (17, .int .i64 r7.1), (18, .int .i64 r7.2.1), (19, .int .i64 r7.2.2)] rfl ⟨by kernel_rfl, by kernel_rfl⟩ ?_
            refine TL.next rfl ?_
            refine TC.seq ?_
            refine TC.region ?_
            refine TL.run 3 [] [(0, .int .i64 r2), (1, .int .i64 r3), (9, .slice A_l_2 l_2.length c_l_2), (16, .int .i64 ((7 * k_2 : Nat) : Int)), (17, .int .i64 r7.1), (18, .int .i64 r7.2.1), (97, .bool (r7.2.2 != 0))] rfl ⟨by kernel_rfl, by kernel_rfl⟩ ?_
            refine TL.join 97 (r7.2.2 != 0) 11 [] [] (fun β => [(0, .int .i64 r2), (1, .int .i64 r3), (9, .slice A_l_2 l_2.length c_l_2), (16, .int .i64 ((7 * k_2 : Nat) : Int)), (18, .int .i64 r7.2.1), (105, .bool (β || (decide ((w64 (r2 + (w64 (r3 * ((7 * k_2 : Nat) : Int))))) < r7.1))))]) (by kernel_rfl) rfl ⟨by kernel_rfl, by kernel_rfl⟩ ⟨by kernel_rfl, by kernel_rfl⟩ ?_
            refine TL.run 12 [] [(0, .int .i64 r2), (1, .int .i64 r3), (9, .slice A_l_2 l_2.length c_l_2), (16, .int .i64 ((7 * k_2 : Nat) : Int)), (18, .int .i64 r7.2.1), (106, .bool ((r7.2.2 != 0) || (decide ((w64 (r2 + (w64 (r3 * ((7 * k_2 : Nat) : Int))))) < r7.1))))] rfl ⟨by kernel_rfl, by kernel_rfl⟩ ?_
            refine TL.join 106 ((r7.2.2 != 0) || (decide ((w64 (r2 + (w64 (r3 * ((7 * k_2 : Nat) : Int))))) < r7.1))) 20 [] [] (fun β => [(0, .int .i64 r2), (1, .int .i64 r3), (9, .slice A_l_2 l_2.length c_l_2), (16, .int .i64 ((7 * k_2 : Nat) : Int)), (114, .bool (β || (decide ((w64 (r2 + (w64 (r3 * ((7 * k_2 : Nat) : Int))))) > r7.2.1))))]) (by kernel_rfl) rfl ⟨by kernel_rfl, by kernel_rfl⟩ ⟨by kernel_rfl, by kernel_rfl⟩ ?_
            refine TL.next rfl ?_
            refine TC.cond (((r7.2.2 != 0) || (decide ((w64 (r2 + (w64 (r3 * ((7 * k_2 : Nat) : Int))))) < r7.1))) || (decide ((w64 (r2 + (w64 (r3 * ((7 * k_2 : Nat) : Int))))) > r7.2.1))) rfl (by kernel_rfl) (fun h7 => ?_) (fun h7 => ?_)
            · refine TC.seq ?_
              refine TC.region ?_
              refine TL.run 1 [] [(6, .bool false)] rfl ⟨by kernel_rfl, by kernel_rfl⟩ ?_
              refine TL.next rfl ?_
              refine TC.ret ?_
              refine TE.ret_block (TE.ret_then (TE.ret_then (TE.ret_block (TE.ret_then (TE.ret_then ?_)))))
              have e : skywaykeep2_ClimbHolds height rate times = false := by subst hr1 hr2 hr3 hr6 hr7; unfold skywaykeep2_ClimbHolds; exact cond_f h1 (elim_l (hR.symm.trans hJ) (cond_f h5 (elim_r (hR_2.symm.trans (hI_2.trans (by rw [hd_2]; exact cond_t h7 (rfl)))) rfl)))
              exact TE.ret [] (.bool false) ⟨by kernel_rfl, by kernel_rfl⟩ (by rw [e]; first | done | kernel_rfl)
            · refine TC.skip ?_
              refine TE.normal_block ?_
              refine TE.next ?_
              refine TC.region ?_
              refine TL.run 3 [] [(0, .int .i64 r2), (1, .int .i64 r3), (9, .slice A_l_2 l_2.length c_l_2), (16, .int .i64 (w64 (((7 * k_2 : Nat) : Int) + 7)))] rfl ⟨by kernel_rfl, by kernel_rfl⟩ ?_
              refine TL.done rfl ?_
              refine TE.rw 16 (.int .i64 (w64 (((7 * k_2 : Nat) : Int) + 7))) (.int .i64 ((7 * (k_2 + 1) : Nat) : Int)) (by kernel_rfl) (int_eq (by have q0_ := (bne_f (or_f1 h1)); have q1_ := (bne_f (or_f2 h1)); have q2_ := (bne_f (or_f1 (or_f1 h5))); have q3_ := (dec_f (or_f2 (or_f1 h5))); have q4_ := (dec_f (or_f2 h5)); have q5_ := (dec_t h6); have q6_ := (bne_f (or_f1 (or_f1 h7))); have q7_ := (dec_f (or_f2 (or_f1 h7))); have q8_ := (dec_f (or_f2 h7)); first | omega | (rw [w64_id (by omega)]; omega) | (simp only [w64_eq] at *; omega))) ?_
              exact TE.again (x := k_2) (k_2 + 1) ⟨by omega, hI_2.trans (by subst hr1 hr2 hr3 hr6 hr7; rw [hd_2]; exact cond_f h7 (rfl))⟩ (by show 20 - (k_2 + 1) < 20 - k_2; omega) (by kernel_rfl) (.cons_cons _ (.slnil))
          · have hd_2 : 20 - k_2 = 0 := by have q0_ := (bne_f (or_f1 h1)); have q1_ := (bne_f (or_f2 h1)); have q2_ := (bne_f (or_f1 (or_f1 h5))); have q3_ := (dec_f (or_f2 (or_f1 h5))); have q4_ := (dec_f (or_f2 h5)); have p0_ := (dec_f h6); first | omega | (simp only [w64_eq] at *; omega)
            refine TC.exit ?_
            refine TE.exit_then (TE.exit_then (TE.exit_same ?_))
            exact TE.cut () (hI_2.trans (by subst hr1 hr2 hr3 hr6; rw [hd_2]; exact rfl)) (by kernel_rfl) (.cons _ (.slnil))
        · intro _ hJ_2
          refine TE.next ?_
          refine TC.seq ?_
          refine TC.region ?_
          refine TL.run 1 [] [(6, .bool true)] rfl ⟨by kernel_rfl, by kernel_rfl⟩ ?_
          refine TL.next rfl ?_
          refine TC.ret ?_
          have e : skywaykeep2_ClimbHolds height rate times = true := by subst hr1 hr2 hr3 hr6; unfold skywaykeep2_ClimbHolds; exact cond_f h1 (elim_l (hR.symm.trans hJ) (cond_f h5 (elim_l (hR_2.symm.trans hJ_2) (rfl))))
          exact TE.ret [] (.bool true) ⟨by kernel_rfl, by kernel_rfl⟩ (by rw [e]; first | done | kernel_rfl)

def slices_Clone_bool_bool (s : List Bool) : List Bool :=
  s

set_option maxRecDepth 100000 in
theorem slices_Clone_bool_bool_w (A_s : Option Addr) (c_s : Nat) (s : List Bool) (w : World) (h_s : Rd w 1 A_s (s.map bc)) (_hc_s : s.length ≤ c_s) (hb : s.length * 1 ≤ 140737488355328) : Calls Try.prog 35 #[.slice A_s s.length c_s] w (RetM (Γ := Option Addr × Nat) (cx w) (fun g => .slice g.1 (slices_Clone_bool_bool s).length g.2) (fun g => [.inr (Own g.1 g.2 4 1 ((slices_Clone_bool_bool s).map bc))])) := by
  have s_s := h_s.short; rw [List.length_map] at s_s
  rcases A_s with _ | a
  · have hz : s = [] := nil_of_none h_s
    subst hz
    refine calls_intro (vs := [.slice none 0 c_s]) (w := w) Try.func35 rfl Try.ntmps35 rfl ?_
    refine TC.weak [(0, .slice none 0 c_s)] (by kernel_rfl) ?_
    refine TC.seq ?_
    refine TC.region ?_
    refine TL.run 1 [] [(0, .slice none 0 c_s)] rfl ⟨by kernel_rfl, by kernel_rfl⟩ ?_
    refine TL.next rfl ?_
    refine TC.seq ?_
    refine TC.seq ?_
    refine TC.region ?_
    refine TL.run 2 [] [(0, .slice none 0 c_s), (4, .bool true)] rfl ⟨by kernel_rfl, by kernel_rfl⟩ ?_
    refine TL.next rfl ?_
    refine TC.condT rfl (by kernel_rfl) ?_
    refine TC.seq ?_
    refine TC.region ?_
    refine TL.run 1 [] [(2, .slice none 0 0)] rfl ⟨by kernel_rfl, by kernel_rfl⟩ ?_
    refine TL.next rfl ?_
    refine TC.ret ?_
    refine TE.ret_then ?_
    have e : slices_Clone_bool_bool [] = ([]) := rfl
    refine TE.conv [.inr (Own none 0 4 1 (([] : List Bool).map bc))] (fun _ hM => hM.emptyrow none 4 1) ?_
    rw [e]
    exact TE.retM (.inl rfl) (none, 0) [] (.slice none 0 0) ⟨by kernel_rfl, by kernel_rfl⟩ rfl (fun _ hM => hM.sub (.cons_cons _ (.slnil)))
  · refine calls_intro (vs := [.slice (some a) s.length c_s]) (w := w) Try.func35 rfl Try.ntmps35 rfl ?_
    refine TC.weak [(0, .slice (some a) s.length c_s)] (by kernel_rfl) ?_
    refine TC.seq ?_
    refine TC.region ?_
    refine TL.run 1 [] [(0, .slice (some a) s.length c_s)] rfl ⟨by kernel_rfl, by kernel_rfl⟩ ?_
    refine TL.next rfl ?_
    refine TC.seq ?_
    refine TC.seq ?_
    refine TC.region ?_
    refine TL.run 2 [] [(0, .slice (some a) s.length c_s), (4, .bool false)] rfl ⟨by kernel_rfl, by kernel_rfl⟩ ?_
    refine TL.next rfl ?_
    refine TC.condF rfl (by kernel_rfl) ?_
    refine TC.skip ?_
    refine TE.next ?_
    refine TC.seq ?_
    refine TC.region ?_
    refine TL.write 0 (fun b1 => [(0, .slice (some a) s.length c_s), (5, .slice (some ⟨b1, 0, none⟩) 0 0)]) (fun b1 => [.inl (b1, .cells #[] 4 (0, 0))]) (fun b1 => ⟨by kernel_rfl, by kernel_rfl⟩) (fun b1 => ?_)
    refine TL.run 2 [] [(5, .slice (some ⟨b1, 0, none⟩) 0 0), (6, .slice (some a) s.length c_s)] rfl ⟨by kernel_rfl, by kernel_rfl⟩ ?_
    refine TL.conv [.inr (Own (some ⟨b1, 0, none⟩) 0 4 1 (([] : List Bool).map bc))] (fun _ hM => by exact hM.litrow 0 (([] : List Bool).map bc) rfl (by kernel_rfl) (by kernel_rfl) (by kernel_rfl) (by kernel_rfl)) ?_
    refine TL.opM (Γ := Option Addr × Nat) (sV (Builtin.append_ #[60, 60] 60 #[.slice (some ⟨b1, 0, none⟩) (([] : List Bool).length) 0, .slice (some a) s.length c_s])) (some 7) (fun g => .slice g.1 (([] : List Bool) ++ s).length g.2) (fun g => [.inr (Own g.1 g.2 4 1 ((([] : List Bool) ++ s).map bc))]) (fun g => [(7, .slice g.1 ((([] : List Bool) ++ s).length) g.2)]) (app_at (bytes := 1) 60 0 s (by kernel_rfl) rfl rfl bc_one rfl (fun w hM => (h_s.sat hM)) rfl (by first | omega | (simp <;> omega) | (simp at * <;> omega))) (by kernel_rfl) (fun g => by kernel_rfl) ?_
    rintro ⟨A, c⟩
    refine TL.run 4 [] [(2, .slice A ((([] : List Bool) ++ s).length) c)] rfl ⟨by kernel_rfl, by kernel_rfl⟩ ?_
    refine TL.next rfl ?_
    refine TC.ret ?_
    have e : slices_Clone_bool_bool s = (([] : List Bool) ++ s) := rfl
    rw [e]
    exact TE.retM (.inl rfl) (A, c) [] (.slice A ((([] : List Bool) ++ s).length) c) ⟨by kernel_rfl, by kernel_rfl⟩ rfl (fun _ hM => hM.sub (.cons_cons _ (.slnil)))

def skywaykeep2_BeginSooner_L1 (more : List Bool) : Nat → Nat → (List Bool) → (List Bool)
  | 0, _, all => all
  | m + 1, k, all => cond ((all[k]?.getD false)) (
      skywaykeep2_BeginSooner_L1 more m (k + 1) (all.set k true)) (
      cond (decide ((k : Int) < (more.length : Int))) (
        skywaykeep2_BeginSooner_L1 more m (k + 1) (all.set k (more[k]?.getD false))) (
        skywaykeep2_BeginSooner_L1 more m (k + 1) (all.set k false)))
def skywaykeep2_BeginSooner (hits : List Bool) (more : List Bool) (need : Int) (of_ : Int) : Bool :=
  let r1 := begin_Run ([true, true]) 2 2
  cond (((r1.2.2 != 0) || (r1.1 != 2)) || (r1.2.1 != 1)) (
    false) (
    let r2 := slices_Clone_bool_bool (hits.take (imin (hits.length : Int) 30).toNat)
    bindv (skywaykeep2_BeginSooner_L1 more r2.length 0 r2) (fun all_2 =>
      let r3 := begin_Run (hits.take (imin (hits.length : Int) 30).toNat) need of_
      let r4 := begin_Run all_2 need of_
      cond (r3.2.2 == r4.2.2) (
        cond (r3.2.1 != 1) (
          true) (
          cond (r4.2.1 == 1) (
            decide (r4.1 ≤ r3.1)) (
            false))) (
        false)))

set_option maxRecDepth 100000 in
theorem skywaykeep2_BeginSooner_w (A_hits : Option Addr) (c_hits : Nat) (hits : List Bool) (A_more : Option Addr) (c_more : Nat) (more : List Bool) (need : Int) (of_ : Int) (w : World) (h_hits : Rd w 1 A_hits (hits.map bc)) (hc_hits : hits.length ≤ c_hits) (h_more : Rd w 1 A_more (more.map bc)) (_hc_more : more.length ≤ c_more) : Calls Try.prog 12 #[.slice A_hits hits.length c_hits, .slice A_more more.length c_more, .int .i64 need, .int .i64 of_] w (Ret w (.bool (skywaykeep2_BeginSooner hits more need of_))) := by
  have s_hits := h_hits.short; rw [List.length_map] at s_hits
  have s_more := h_more.short; rw [List.length_map] at s_more
  refine calls_intro (vs := [.slice A_hits hits.length c_hits, .slice A_more more.length c_more, .int .i64 need, .int .i64 of_]) (w := w) Try.func12 rfl Try.ntmps12 rfl ?_
  refine TC.weak [(0, .slice A_hits hits.length c_hits), (1, .slice A_more more.length c_more), (2, .int .i64 need), (3, .int .i64 of_)] (by kernel_rfl) ?_
  refine TC.seq ?_
  refine TC.region ?_
  refine TL.run 1 [] [(0, .slice A_hits hits.length c_hits), (1, .slice A_more more.length c_more), (2, .int .i64 need), (3, .int .i64 of_)] rfl ⟨by kernel_rfl, by kernel_rfl⟩ ?_
  refine TL.next rfl ?_
  refine TC.seq ?_
  refine TC.seq ?_
  refine TC.region ?_
  refine TL.write 0 (fun b1 => [(0, .slice A_hits hits.length c_hits), (1, .slice A_more more.length c_more), (2, .int .i64 need), (3, .int .i64 of_), (21, .slice (some ⟨b1, 0, none⟩) 2 2)]) (fun b1 => [.inl (b1, .cells #[.bool true, .bool true] 4 (0, 0))]) (fun b1 => ⟨by kernel_rfl, by kernel_rfl⟩) (fun b1 => ?_)
  refine TL.call (some 22) [(0, .slice A_hits hits.length c_hits), (1, .slice A_more more.length c_more), (2, .int .i64 need), (3, .int .i64 of_), (22, .tuple #[.int .i64 ((begin_Run ([true, true]) 2 2).1), .int .i64 ((begin_Run ([true, true]) 2 2).2.1), .int .i64 ((begin_Run ([true, true]) 2 2).2.2)])] (fun w hM => begin_Run_w (some ⟨b1, 0, none⟩) 2 ([true, true]) 2 2 w (Rd.lit hM 0 _ rfl (by kernel_rfl) (by kernel_rfl) (by kernel_rfl)) (Nat.le_refl _)) (by kernel_rfl) (by kernel_rfl) ?_
  generalize hr1 : begin_Run ([true, true]) 2 2 = r1
  refine TL.run 9 [] [(0, .slice A_hits hits.length c_hits), (1, .slice A_more more.length c_more), (2, .int .i64 need), (3, .int .i64 of_), (9, .int .i64 r1.1), (10, .int .i64 r1.2.1), (11, .int .i64 r1.2.2)] rfl ⟨by kernel_rfl, by kernel_rfl⟩ ?_
  refine TL.next rfl ?_
  refine TC.seq ?_
  refine TC.region ?_
  refine TL.run 3 [] [(0, .slice A_hits hits.length c_hits), (1, .slice A_more more.length c_more), (2, .int .i64 need), (3, .int .i64 of_), (9, .int .i64 r1.1), (10, .int .i64 r1.2.1), (28, .bool (r1.2.2 != 0))] rfl ⟨by kernel_rfl, by kernel_rfl⟩ ?_
  refine TL.join 28 (r1.2.2 != 0) 6 [] [] (fun β => [(0, .slice A_hits hits.length c_hits), (1, .slice A_more more.length c_more), (2, .int .i64 need), (3, .int .i64 of_), (10, .int .i64 r1.2.1), (31, .bool (β || (r1.1 != 2)))]) (by kernel_rfl) rfl ⟨by kernel_rfl, by kernel_rfl⟩ ⟨by kernel_rfl, by kernel_rfl⟩ ?_
  refine TL.run 7 [] [(0, .slice A_hits hits.length c_hits), (1, .slice A_more more.length c_more), (2, .int .i64 need), (3, .int .i64 of_), (10, .int .i64 r1.2.1), (32, .bool ((r1.2.2 != 0) || (r1.1 != 2)))] rfl ⟨by kernel_rfl, by kernel_rfl⟩ ?_
  refine TL.join 32 ((r1.2.2 != 0) || (r1.1 != 2)) 10 [] [] (fun β => [(0, .slice A_hits hits.length c_hits), (1, .slice A_more more.length c_more), (2, .int .i64 need), (3, .int .i64 of_), (35, .bool (β || (r1.2.1 != 1)))]) (by kernel_rfl) rfl ⟨by kernel_rfl, by kernel_rfl⟩ ⟨by kernel_rfl, by kernel_rfl⟩ ?_
  refine TL.next rfl ?_
  refine TC.cond (((r1.2.2 != 0) || (r1.1 != 2)) || (r1.2.1 != 1)) rfl (by kernel_rfl) (fun h1 => ?_) (fun h1 => ?_)
  · refine TC.seq ?_
    refine TC.region ?_
    refine TL.run 1 [] [(8, .bool false)] rfl ⟨by kernel_rfl, by kernel_rfl⟩ ?_
    refine TL.next rfl ?_
    refine TC.ret ?_
    refine TE.ret_then ?_
    have e : skywaykeep2_BeginSooner hits more need of_ = false := by subst hr1; unfold skywaykeep2_BeginSooner; exact cond_t h1 (rfl)
    exact TE.ret [] (.bool false) ⟨by kernel_rfl, by kernel_rfl⟩ (by rw [e]; first | done | kernel_rfl)
  · refine TC.skip ?_
    refine TE.next ?_
    refine TC.seq ?_
    refine TC.region ?_
    refine TL.run 4 [] [(1, .slice A_more more.length c_more), (2, .int .i64 need), (3, .int .i64 of_), (36, .slice A_hits hits.length c_hits), (39, .int .i64 (imin (hits.length : Int) 30))] rfl ⟨by kernel_rfl, by kernel_rfl⟩ ?_
    obtain ⟨A1, hA1⟩ : ∃ A, A = (if c_hits = 0 then A_hits else A_hits.map (fun a => a.add (0 * 1))) := ⟨_, rfl⟩
    have hR1 : Rd w 1 A1 ((hits.take (imin (hits.length : Int) 30).toNat).map bc) := by rw [hA1]; exact h_hits.cutMap 0 _ hc_hits
    have hC1 : (hits.take (imin (hits.length : Int) 30).toNat).length ≤ (c_hits - 0) := by have m0_ := imin_l (hits.length : Int) 30; have m1_ := imin_r (hits.length : Int) 30; have m2_ := imin_or (hits.length : Int) 30; simp only [List.length_take]; omega
    have s_hR1 := hR1.short; rw [List.length_map] at s_hR1
    refine TL.val (sV (Instr.sliceAt 60 (.slice A_hits hits.length c_hits) none (some (.int .i64 (imin (hits.length : Int) 30))) none)) (some 40) (.slice A1 ((hits.take (imin (hits.length : Int) 30).toNat).length) (c_hits - 0)) [(1, .slice A_more more.length c_more), (2, .int .i64 need), (3, .int .i64 of_), (40, .slice A1 ((hits.take (imin (hits.length : Int) 30).toNat).length) (c_hits - 0))] (fun w hM => (run_slice 0 (imin (hits.length : Int) 30).toNat (by kernel_rfl) (.inl ⟨rfl, rfl⟩) (.inr ⟨_, _, rfl, (by have q0_ := (bne_f (or_f1 (or_f1 h1))); have q1_ := (bne_f (or_f2 (or_f1 h1))); have q2_ := (bne_f (or_f2 h1)); have m0_ := imin_l (hits.length : Int) 30; have m1_ := imin_r (hits.length : Int) 30; have m2_ := imin_or (hits.length : Int) 30; first | omega | (simp only [List.length_drop]; omega) | (simp only [w64_eq]; omega)), rfl⟩) (by have q0_ := (bne_f (or_f1 (or_f1 h1))); have q1_ := (bne_f (or_f2 (or_f1 h1))); have q2_ := (bne_f (or_f2 h1)); have m0_ := imin_l (hits.length : Int) 30; have m1_ := imin_r (hits.length : Int) 30; have m2_ := imin_or (hits.length : Int) 30; first | omega | (simp only [List.length_drop]; omega) | (simp only [w64_eq]; omega)) (by have q0_ := (bne_f (or_f1 (or_f1 h1))); have q1_ := (bne_f (or_f2 (or_f1 h1))); have q2_ := (bne_f (or_f2 h1)); have m0_ := imin_l (hits.length : Int) 30; have m1_ := imin_r (hits.length : Int) 30; have m2_ := imin_or (hits.length : Int) 30; first | omega | (simp only [List.length_drop]; omega) | (simp only [w64_eq]; omega))).trans (by rw [hA1]; have m0_ := imin_l (hits.length : Int) 30; have m1_ := imin_r (hits.length : Int) 30; have m2_ := imin_or (hits.length : Int) 30; congr 3; simp only [List.length_take] <;> omega)) (by kernel_rfl) (by kernel_rfl) ?_
    refine TL.run 6 [] [(0, .slice A1 ((hits.take (imin (hits.length : Int) 30).toNat).length) (c_hits - 0)), (1, .slice A_more more.length c_more), (2, .int .i64 need), (3, .int .i64 of_)] rfl ⟨by kernel_rfl, by kernel_rfl⟩ ?_
    refine TL.next rfl ?_
    refine TC.seq ?_
    refine TC.region ?_
    refine TL.run 1 [] [(0, .slice A1 ((hits.take (imin (hits.length : Int) 30).toNat).length) (c_hits - 0)), (1, .slice A_more more.length c_more), (2, .int .i64 need), (3, .int .i64 of_), (41, .slice A1 ((hits.take (imin (hits.length : Int) 30).toNat).length) (c_hits - 0))] rfl ⟨by kernel_rfl, by kernel_rfl⟩ ?_
    refine TL.callN (Γ := Option Addr × Nat) (fun g => .slice g.1 ((slices_Clone_bool_bool (hits.take (imin (hits.length : Int) 30).toNat)).length) g.2) (fun g => [.inr (Own g.1 g.2 4 1 ((slices_Clone_bool_bool (hits.take (imin (hits.length : Int) 30).toNat)).map bc))]) (fun g => [.inr (Own g.1 g.2 4 1 ((slices_Clone_bool_bool (hits.take (imin (hits.length : Int) 30).toNat)).map bc)), .inl (b1, .cells #[.bool true, .bool true] 4 (0, 0))]) (fun g => rfl) (some 42) (fun g => [(0, .slice A1 ((hits.take (imin (hits.length : Int) 30).toNat).length) (c_hits - 0)), (1, .slice A_more more.length c_more), (2, .int .i64 need), (3, .int .i64 of_), (42, .slice g.1 ((slices_Clone_bool_bool (hits.take (imin (hits.length : Int) 30).toNat)).length) g.2)]) (fun w hM => slices_Clone_bool_bool_w A1 (c_hits - 0) (hits.take (imin (hits.length : Int) 30).toNat) w (hR1.sat hM) hC1 (by have q0_ := (bne_f (or_f1 (or_f1 h1))); have q1_ := (bne_f (or_f2 (or_f1 h1))); have q2_ := (bne_f (or_f2 h1)); have m0_ := imin_l (hits.length : Int) 30; have m1_ := imin_r (hits.length : Int) 30; have m2_ := imin_or (hits.length : Int) 30; first | omega | (simp only [w64_eq]; omega) | (simp <;> omega))) (by kernel_rfl) (fun g => by kernel_rfl) ?_
    rintro ⟨A, c⟩
    generalize hr2 : slices_Clone_bool_bool (hits.take (imin (hits.length : Int) 30).toNat) = r2
    refine TL.know (fun w hM => hM.short_at 0 rfl) (fun s_r2_0 => ?_)
    refine TL.run 3 [] [(0, .slice A1 ((hits.take (imin (hits.length : Int) 30).toNat).length) (c_hits - 0)), (1, .slice A_more more.length c_more), (2, .int .i64 need), (3, .int .i64 of_), (12, .slice A r2.length c)] rfl ⟨by kernel_rfl, by kernel_rfl⟩ ?_
    refine TL.next rfl ?_
    refine TC.seq ?_
    refine TC.seq ?_
    refine TC.region ?_
    refine TL.run 3 [] [(0, .slice A1 ((hits.take (imin (hits.length : Int) 30).toNat).length) (c_hits - 0)), (1, .slice A_more more.length c_more), (2, .int .i64 need), (3, .int .i64 of_), (12, .slice A r2.length c), (44, .int .i64 (r2.length : Int)), (45, .int .i64 0)] rfl ⟨by kernel_rfl, by kernel_rfl⟩ ?_
    refine TL.next rfl ?_
    refine TC.weak [(0, .slice A1 ((hits.take (imin (hits.length : Int) 30).toNat).length) (c_hits - 0)), (1, .slice A_more more.length c_more), (2, .int .i64 need), (3, .int .i64 of_), (12, .slice A r2.length c), (44, .int .i64 (r2.length : Int)), (45, .int .i64 0)] (by kernel_rfl) ?_
    refine TC.forget [.inr (Own A c 4 1 (r2.map bc))] (.cons_cons _ (.cons _ (.slnil))) ?_
    obtain ⟨R1, hR⟩ : ∃ R, R = skywaykeep2_BeginSooner_L1 more r2.length 0 r2 := ⟨_, rfl⟩
    refine TC.cut (S := (List Bool)) (fun all_2 => [(0, .slice A1 ((hits.take (imin (hits.length : Int) 30).toNat).length) (c_hits - 0)), (2, .int .i64 need), (3, .int .i64 of_), (12, .slice A all_2.length c)]) (fun all_2 => [.inr (Own A c 4 1 (all_2.map bc))]) (fun all_2 => R1 = all_2 ∧ all_2.length = r2.length) ?_ ?_
    · refine TC.block ?_
      refine TC.loop (X := Nat × (List Bool)) (fun (k, all) => [(0, .slice A1 ((hits.take (imin (hits.length : Int) 30).toNat).length) (c_hits - 0)), (1, .slice A_more more.length c_more), (2, .int .i64 need), (3, .int .i64 of_), (12, .slice A all.length c), (44, .int .i64 (r2.length : Int)), (45, .int .i64 (k : Int))]) (fun (k, all) => [.inr (Own A c 4 1 (all.map bc))]) (fun (k, all) => r2.length - k) (fun (k, all) => k ≤ r2.length ∧ R1 = skywaykeep2_BeginSooner_L1 more (r2.length - k) k all ∧ all.length = r2.length) ?_ (0, r2) ⟨Nat.zero_le _, hR, (by first | omega | (simp; omega) | simp)⟩
      rintro ⟨k, all⟩ ⟨hk, hI, hl_all⟩
      refine TC.seq ?_
      refine TC.region ?_
      refine TL.run 1 [] [(0, .slice A1 ((hits.take (imin (hits.length : Int) 30).toNat).length) (c_hits - 0)), (1, .slice A_more more.length c_more), (2, .int .i64 need), (3, .int .i64 of_), (12, .slice A all.length c), (44, .int .i64 (r2.length : Int)), (45, .int .i64 (k : Int)), (46, .bool (decide ((k : Int) < (r2.length : Int))))] rfl ⟨by kernel_rfl, by kernel_rfl⟩ ?_
      refine TL.next rfl ?_
      refine TC.seq ?_
      refine TC.cond (decide ((k : Int) < (r2.length : Int))) rfl (by kernel_rfl) (fun h2 => ?_) (fun h2 => ?_)
      · have hlt : k < r2.length := by have := of_decide_eq_true h2; first | omega | (simp at this; omega)
        have hd : r2.length - k = (r2.length - (k + 1)) + 1 := by omega
        refine TC.skip ?_
        refine TE.next ?_
        refine TC.seq ?_
        refine TC.block ?_
        refine TC.seq ?_
        refine TC.region ?_
        refine TL.run 2 [] [(0, .slice A1 ((hits.take (imin (hits.length : Int) 30).toNat).length) (c_hits - 0)), (1, .slice A_more more.length c_more), (2, .int .i64 need), (3, .int .i64 of_), (12, .slice A all.length c), (13, .int .i64 (k : Int)), (44, .int .i64 (r2.length : Int)), (45, .int .i64 (k : Int))] rfl ⟨by kernel_rfl, by kernel_rfl⟩ ?_
        refine TL.next rfl ?_
        refine TC.region ?_
        refine TL.run 4 [] [(0, .slice A1 ((hits.take (imin (hits.length : Int) 30).toNat).length) (c_hits - 0)), (1, .slice A_more more.length c_more), (2, .int .i64 need), (3, .int .i64 of_), (12, .slice A all.length c), (13, .int .i64 (k : Int)), (44, .int .i64 (r2.length : Int)), (45, .int .i64 (k : Int)), (48, .slice A all.length c), (49, .int .i64 (k : Int)), (50, .slice A all.length c), (51, .int .i64 (k : Int))] rfl ⟨by kernel_rfl, by kernel_rfl⟩ ?_
        refine TL.val (sV (Instr.indexAt 60 (.slice A all.length c) (.int .i64 (k : Int)))) (some 52) (.pointer (some ((A.getD noAddr).add (k * 1)))) [(0, .slice A1 ((hits.take (imin (hits.length : Int) 30).toNat).length) (c_hits - 0)), (1, .slice A_more more.length c_more), (2, .int .i64 need), (3, .int .i64 of_), (12, .slice A all.length c), (13, .int .i64 (k : Int)), (44, .int .i64 (r2.length : Int)), (45, .int .i64 (k : Int)), (48, .slice A all.length c), (49, .int .i64 (k : Int)), (52, .pointer (some ((A.getD noAddr).add (k * 1))))] (fun w hM => run_index (hM.rd_at 0 rfl) (by simp) (by kernel_rfl) (by have q0_ := (bne_f (or_f1 (or_f1 h1))); have q1_ := (bne_f (or_f2 (or_f1 h1))); have q2_ := (bne_f (or_f2 h1)); first | omega | (simp only [List.length_drop]; omega) | (simp only [w64_eq]; omega)) (by have q0_ := (bne_f (or_f1 (or_f1 h1))); have q1_ := (bne_f (or_f2 (or_f1 h1))); have q2_ := (bne_f (or_f2 h1)); first | omega | (simp only [List.length_drop]; omega) | (simp only [w64_eq]; omega))) (by kernel_rfl) (by kernel_rfl) ?_
        refine TL.val (sV (Instr.loadAt 4 (.pointer (some ((A.getD noAddr).add (k * 1)))))) (some 53) (.bool ((all[k]?.getD false))) [(0, .slice A1 ((hits.take (imin (hits.length : Int) 30).toNat).length) (c_hits - 0)), (1, .slice A_more more.length c_more), (2, .int .i64 need), (3, .int .i64 of_), (12, .slice A all.length c), (13, .int .i64 (k : Int)), (44, .int .i64 (r2.length : Int)), (45, .int .i64 (k : Int)), (48, .slice A all.length c), (49, .int .i64 (k : Int)), (53, .bool ((all[k]?.getD false)))] (fun w hM => run_load_one (off := 0) (.bool ((all[k]?.getD false))) (hM.rd_at 0 rfl) (map_at (getD_at _ _ false (by have q0_ := (bne_f (or_f1 (or_f1 h1))); have q1_ := (bne_f (or_f2 (or_f1 h1))); have q2_ := (bne_f (or_f2 h1)); first | omega | (simp only [List.length_drop]; omega) | (simp only [w64_eq]; omega)))) (by kernel_rfl) (by kernel_rfl)) (by kernel_rfl) (by kernel_rfl) ?_
        refine TL.run 7 [] [(0, .slice A1 ((hits.take (imin (hits.length : Int) 30).toNat).length) (c_hits - 0)), (1, .slice A_more more.length c_more), (2, .int .i64 need), (3, .int .i64 of_), (12, .slice A all.length c), (13, .int .i64 (k : Int)), (44, .int .i64 (r2.length : Int)), (45, .int .i64 (k : Int)), (48, .slice A all.length c), (49, .int .i64 (k : Int)), (54, .bool ((all[k]?.getD false)))] rfl ⟨by kernel_rfl, by kernel_rfl⟩ ?_
        refine TL.split 54 ((all[k]?.getD false)) (by kernel_rfl) (fun h3 => ?_) (fun h3 => ?_)
        · refine TL.run 18 [] [(0, .slice A1 ((hits.take (imin (hits.length : Int) 30).toNat).length) (c_hits - 0)), (1, .slice A_more more.length c_more), (2, .int .i64 need), (3, .int .i64 of_), (12, .slice A all.length c), (44, .int .i64 (r2.length : Int)), (45, .int .i64 (k : Int)), (48, .slice A all.length c), (49, .int .i64 (k : Int)), (65, .bool true)] rfl ⟨by kernel_rfl, by kernel_rfl⟩ ?_
          refine TL.val (sV (Instr.indexAt 60 (.slice A all.length c) (.int .i64 (k : Int)))) (some 66) (.pointer (some ((A.getD noAddr).add (k * 1)))) [(0, .slice A1 ((hits.take (imin (hits.length : Int) 30).toNat).length) (c_hits - 0)), (1, .slice A_more more.length c_more), (2, .int .i64 need), (3, .int .i64 of_), (12, .slice A all.length c), (44, .int .i64 (r2.length : Int)), (45, .int .i64 (k : Int)), (65, .bool true), (66, .pointer (some ((A.getD noAddr).add (k * 1))))] (fun w hM => run_index (hM.rd_at 0 rfl) (by simp) (by kernel_rfl) (by have q0_ := (bne_f (or_f1 (or_f1 h1))); have q1_ := (bne_f (or_f2 (or_f1 h1))); have q2_ := (bne_f (or_f2 h1)); first | omega | (simp only [List.length_drop]; omega) | (simp only [w64_eq]; omega)) (by have q0_ := (bne_f (or_f1 (or_f1 h1))); have q1_ := (bne_f (or_f2 (or_f1 h1))); have q2_ := (bne_f (or_f2 h1)); first | omega | (simp only [List.length_drop]; omega) | (simp only [w64_eq]; omega))) (by kernel_rfl) (by kernel_rfl) ?_
          refine TL.skipM (Γ := Unit) (sU (Instr.storeAt 4 (.pointer (some (((A.getD noAddr).add (k * 1)).add 0))) (.bool true))) none (fun _ => [.inr (Own A c 4 1 ((all.set k true).map bc))]) (fun _ => [(0, .slice A1 ((hits.take (imin (hits.length : Int) 30).toNat).length) (c_hits - 0)), (1, .slice A_more more.length c_more), (2, .int .i64 need), (3, .int .i64 of_), (12, .slice A all.length c), (44, .int .i64 (r2.length : Int)), (45, .int .i64 (k : Int))]) (run_store_at (n := 1) (off := 0) (.bool true) 0 ((all.set k true).map bc) rfl (map_at (getD_at _ _ false (by have q0_ := (bne_f (or_f1 (or_f1 h1))); have q1_ := (bne_f (or_f2 (or_f1 h1))); have q2_ := (bne_f (or_f2 h1)); first | omega | (simp only [List.length_drop]; omega) | (simp only [w64_eq]; omega)))) (by kernel_rfl) (by kernel_rfl) (by kernel_rfl) (by kernel_rfl) (set_map_at (by kernel_rfl))) (by kernel_rfl) (fun _ => by kernel_rfl) (fun _ => ?_)
          refine TL.rw 12 (.slice A all.length c) (.slice A ((all.set k true).length) c) (by kernel_rfl) (by rw [List.length_set]) ?_
          refine TL.done rfl ?_
          refine TE.normal_block ?_
          refine TE.next ?_
          refine TC.region ?_
          refine TL.run 2 [] [(0, .slice A1 ((hits.take (imin (hits.length : Int) 30).toNat).length) (c_hits - 0)), (1, .slice A_more more.length c_more), (2, .int .i64 need), (3, .int .i64 of_), (12, .slice A ((all.set k true).length) c), (44, .int .i64 (r2.length : Int)), (45, .int .i64 (w64 ((k : Int) + 1)))] rfl ⟨by kernel_rfl, by kernel_rfl⟩ ?_
          refine TL.done rfl ?_
          refine TE.rw 45 (.int .i64 (w64 ((k : Int) + 1))) (.int .i64 ((k + 1 : Nat) : Int)) (by kernel_rfl) (w64_cast k (by omega)) ?_
          exact TE.again (x := (k, all)) (k + 1, (all.set k true)) ⟨by omega, hI.trans (by subst hr1 hr2; rw [hd]; exact cond_t h3 (rfl)), (by have q0_ := (bne_f (or_f1 (or_f1 h1))); have q1_ := (bne_f (or_f2 (or_f1 h1))); have q2_ := (bne_f (or_f2 h1)); first | omega | (simp <;> omega) | (simp at * <;> omega))⟩ (by show r2.length - (k + 1) < r2.length - k; omega) (by kernel_rfl) (.cons_cons _ (.slnil))
        · refine TL.run 12 [] [(0, .slice A1 ((hits.take (imin (hits.length : Int) 30).toNat).length) (c_hits - 0)), (1, .slice A_more more.length c_more), (2, .int .i64 need), (3, .int .i64 of_), (12, .slice A all.length c), (13, .int .i64 (k : Int)), (44, .int .i64 (r2.length : Int)), (45, .int .i64 (k : Int)), (48, .slice A all.length c), (49, .int .i64 (k : Int)), (54, .bool false), (59, .bool (decide ((k : Int) < (more.length : Int))))] rfl ⟨by kernel_rfl, by kernel_rfl⟩ ?_
          refine TL.split 59 (decide ((k : Int) < (more.length : Int))) (by kernel_rfl) (fun h4 => ?_) (fun h4 => ?_)
          · refine TL.run 14 [] [(0, .slice A1 ((hits.take (imin (hits.length : Int) 30).toNat).length) (c_hits - 0)), (1, .slice A_more more.length c_more), (2, .int .i64 need), (3, .int .i64 of_), (12, .slice A all.length c), (44, .int .i64 (r2.length : Int)), (45, .int .i64 (k : Int)), (48, .slice A all.length c), (49, .int .i64 (k : Int)), (54, .bool false), (59, .bool true), (60, .slice A_more more.length c_more), (61, .int .i64 (k : Int))] rfl ⟨by kernel_rfl, by kernel_rfl⟩ ?_
            refine TL.val (sV (Instr.indexAt 60 (.slice A_more more.length c_more) (.int .i64 (k : Int)))) (some 62) (.pointer (some ((A_more.getD noAddr).add (k * 1)))) [(0, .slice A1 ((hits.take (imin (hits.length : Int) 30).toNat).length) (c_hits - 0)), (1, .slice A_more more.length c_more), (2, .int .i64 need), (3, .int .i64 of_), (12, .slice A all.length c), (44, .int .i64 (r2.length : Int)), (45, .int .i64 (k : Int)), (48, .slice A all.length c), (49, .int .i64 (k : Int)), (54, .bool false), (59, .bool true), (62, .pointer (some ((A_more.getD noAddr).add (k * 1))))] (fun w hM => run_index (h_more.sat hM) (by simp) (by kernel_rfl) (by have q0_ := (bne_f (or_f1 (or_f1 h1))); have q1_ := (bne_f (or_f2 (or_f1 h1))); have q2_ := (bne_f (or_f2 h1)); have q3_ := (dec_t h4); first | omega | (simp only [List.length_drop]; omega) | (simp only [w64_eq]; omega)) (by have q0_ := (bne_f (or_f1 (or_f1 h1))); have q1_ := (bne_f (or_f2 (or_f1 h1))); have q2_ := (bne_f (or_f2 h1)); have q3_ := (dec_t h4); first | omega | (simp only [List.length_drop]; omega) | (simp only [w64_eq]; omega))) (by kernel_rfl) (by kernel_rfl) ?_
            refine TL.val (sV (Instr.loadAt 4 (.pointer (some ((A_more.getD noAddr).add (k * 1)))))) (some 63) (.bool ((more[k]?.getD false))) [(0, .slice A1 ((hits.take (imin (hits.length : Int) 30).toNat).length) (c_hits - 0)), (1, .slice A_more more.length c_more), (2, .int .i64 need), (3, .int .i64 of_), (12, .slice A all.length c), (44, .int .i64 (r2.length : Int)), (45, .int .i64 (k : Int)), (48, .slice A all.length c), (49, .int .i64 (k : Int)), (54, .bool false), (59, .bool true), (63, .bool ((more[k]?.getD false)))] (fun w hM => run_load_one (off := 0) (.bool ((more[k]?.getD false))) (h_more.sat hM) (map_at (getD_at _ _ false (by have q0_ := (bne_f (or_f1 (or_f1 h1))); have q1_ := (bne_f (or_f2 (or_f1 h1))); have q2_ := (bne_f (or_f2 h1)); have q3_ := (dec_t h4); first | omega | (simp only [List.length_drop]; omega) | (simp only [w64_eq]; omega)))) (by kernel_rfl) (by kernel_rfl)) (by kernel_rfl) (by kernel_rfl) ?_
            refine TL.run 18 [] [(0, .slice A1 ((hits.take (imin (hits.length : Int) 30).toNat).length) (c_hits - 0)), (1, .slice A_more more.length c_more), (2, .int .i64 need), (3, .int .i64 of_), (12, .slice A all.length c), (44, .int .i64 (r2.length : Int)), (45, .int .i64 (k : Int)), (48, .slice A all.length c), (49, .int .i64 (k : Int)), (65, .bool ((more[k]?.getD false)))] rfl ⟨by kernel_rfl, by kernel_rfl⟩ ?_
            refine TL.val (sV (Instr.indexAt 60 (.slice A all.length c) (.int .i64 (k : Int)))) (some 66) (.pointer (some ((A.getD noAddr).add (k * 1)))) [(0, .slice A1 ((hits.take (imin (hits.length : Int) 30).toNat).length) (c_hits - 0)), (1, .slice A_more more.length c_more), (2, .int .i64 need), (3, .int .i64 of_), (12, .slice A all.length c), (44, .int .i64 (r2.length : Int)), (45, .int .i64 (k : Int)), (65, .bool ((more[k]?.getD false))), (66, .pointer (some ((A.getD noAddr).add (k * 1))))] (fun w hM => run_index (hM.rd_at 0 rfl) (by simp) (by kernel_rfl) (by have q0_ := (bne_f (or_f1 (or_f1 h1))); have q1_ := (bne_f (or_f2 (or_f1 h1))); have q2_ := (bne_f (or_f2 h1)); have q3_ := (dec_t h4); first | omega | (simp only [List.length_drop]; omega) | (simp only [w64_eq]; omega)) (by have q0_ := (bne_f (or_f1 (or_f1 h1))); have q1_ := (bne_f (or_f2 (or_f1 h1))); have q2_ := (bne_f (or_f2 h1)); have q3_ := (dec_t h4); first | omega | (simp only [List.length_drop]; omega) | (simp only [w64_eq]; omega))) (by kernel_rfl) (by kernel_rfl) ?_
            refine TL.skipM (Γ := Unit) (sU (Instr.storeAt 4 (.pointer (some (((A.getD noAddr).add (k * 1)).add 0))) (.bool ((more[k]?.getD false))))) none (fun _ => [.inr (Own A c 4 1 ((all.set k (more[k]?.getD false)).map bc))]) (fun _ => [(0, .slice A1 ((hits.take (imin (hits.length : Int) 30).toNat).length) (c_hits - 0)), (1, .slice A_more more.length c_more), (2, .int .i64 need), (3, .int .i64 of_), (12, .slice A all.length c), (44, .int .i64 (r2.length : Int)), (45, .int .i64 (k : Int))]) (run_store_at (n := 1) (off := 0) (.bool ((more[k]?.getD false))) 0 ((all.set k (more[k]?.getD false)).map bc) rfl (map_at (getD_at _ _ false (by have q0_ := (bne_f (or_f1 (or_f1 h1))); have q1_ := (bne_f (or_f2 (or_f1 h1))); have q2_ := (bne_f (or_f2 h1)); have q3_ := (dec_t h4); first | omega | (simp only [List.length_drop]; omega) | (simp only [w64_eq]; omega)))) (by kernel_rfl) (by kernel_rfl) (by kernel_rfl) (by kernel_rfl) (set_map_at (by kernel_rfl))) (by kernel_rfl) (fun _ => by kernel_rfl) (fun _ => ?_)
            refine TL.rw 12 (.slice A all.length c) (.slice A ((all.set k (more[k]?.getD false)).length) c) (by kernel_rfl) (by rw [List.length_set]) ?_
            refine TL.done rfl ?_
            refine TE.normal_block ?_
            refine TE.next ?_
            refine TC.region ?_
            refine TL.run 2 [] [(0, .slice A1 ((hits.take (imin (hits.length : Int) 30).toNat).length) (c_hits - 0)), (1, .slice A_more more.length c_more), (2, .int .i64 need), (3, .int .i64 of_), (12, .slice A ((all.set k (more[k]?.getD false)).length) c), (44, .int .i64 (r2.length : Int)), (45, .int .i64 (w64 ((k : Int) + 1)))] rfl ⟨by kernel_rfl, by kernel_rfl⟩ ?_
            refine TL.done rfl ?_
            refine TE.rw 45 (.int .i64 (w64 ((k : Int) + 1))) (.int .i64 ((k + 1 : Nat) : Int)) (by kernel_rfl) (w64_cast k (by omega)) ?_
            exact TE.again (x := (k, all)) (k + 1, (all.set k (more[k]?.getD false))) ⟨by omega, hI.trans (by subst hr1 hr2; rw [hd]; exact cond_f h3 (cond_t h4 (rfl))), (by have q0_ := (bne_f (or_f1 (or_f1 h1))); have q1_ := (bne_f (or_f2 (or_f1 h1))); have q2_ := (bne_f (or_f2 h1)); have q3_ := (dec_t h4); first | omega | (simp <;> omega) | (simp at * <;> omega))⟩ (by show r2.length - (k + 1) < r2.length - k; omega) (by kernel_rfl) (.cons_cons _ (.slnil))
          · refine TL.run 18 [] [(0, .slice A1 ((hits.take (imin (hits.length : Int) 30).toNat).length) (c_hits - 0)), (1, .slice A_more more.length c_more), (2, .int .i64 need), (3, .int .i64 of_), (12, .slice A all.length c), (44, .int .i64 (r2.length : Int)), (45, .int .i64 (k : Int)), (48, .slice A all.length c), (49, .int .i64 (k : Int)), (65, .bool false)] rfl ⟨by kernel_rfl, by kernel_rfl⟩ ?_
            refine TL.val (sV (Instr.indexAt 60 (.slice A all.length c) (.int .i64 (k : Int)))) (some 66) (.pointer (some ((A.getD noAddr).add (k * 1)))) [(0, .slice A1 ((hits.take (imin (hits.length : Int) 30).toNat).length) (c_hits - 0)), (1, .slice A_more more.length c_more), (2, .int .i64 need), (3, .int .i64 of_), (12, .slice A all.length c), (44, .int .i64 (r2.length : Int)), (45, .int .i64 (k : Int)), (65, .bool false), (66, .pointer (some ((A.getD noAddr).add (k * 1))))] (fun w hM => run_index (hM.rd_at 0 rfl) (by simp) (by kernel_rfl) (by have q0_ := (bne_f (or_f1 (or_f1 h1))); have q1_ := (bne_f (or_f2 (or_f1 h1))); have q2_ := (bne_f (or_f2 h1)); have q3_ := (dec_f h4); first | omega | (simp only [List.length_drop]; omega) | (simp only [w64_eq]; omega)) (by have q0_ := (bne_f (or_f1 (or_f1 h1))); have q1_ := (bne_f (or_f2 (or_f1 h1))); have q2_ := (bne_f (or_f2 h1)); have q3_ := (dec_f h4); first | omega | (simp only [List.length_drop]; omega) | (simp only [w64_eq]; omega))) (by kernel_rfl) (by kernel_rfl) ?_
            refine TL.skipM (Γ := Unit) (sU (Instr.storeAt 4 (.pointer (some (((A.getD noAddr).add (k * 1)).add 0))) (.bool false))) none (fun _ => [.inr (Own A c 4 1 ((all.set k false).map bc))]) (fun _ => [(0, .slice A1 ((hits.take (imin (hits.length : Int) 30).toNat).length) (c_hits - 0)), (1, .slice A_more more.length c_more), (2, .int .i64 need), (3, .int .i64 of_), (12, .slice A all.length c), (44, .int .i64 (r2.length : Int)), (45, .int .i64 (k : Int))]) (run_store_at (n := 1) (off := 0) (.bool false) 0 ((all.set k false).map bc) rfl (map_at (getD_at _ _ false (by have q0_ := (bne_f (or_f1 (or_f1 h1))); have q1_ := (bne_f (or_f2 (or_f1 h1))); have q2_ := (bne_f (or_f2 h1)); have q3_ := (dec_f h4); first | omega | (simp only [List.length_drop]; omega) | (simp only [w64_eq]; omega)))) (by kernel_rfl) (by kernel_rfl) (by kernel_rfl) (by kernel_rfl) (set_map_at (by kernel_rfl))) (by kernel_rfl) (fun _ => by kernel_rfl) (fun _ => ?_)
            refine TL.rw 12 (.slice A all.length c) (.slice A ((all.set k false).length) c) (by kernel_rfl) (by rw [List.length_set]) ?_
            refine TL.done rfl ?_
            refine TE.normal_block ?_
            refine TE.next ?_
            refine TC.region ?_
            refine TL.run 2 [] [(0, .slice A1 ((hits.take (imin (hits.length : Int) 30).toNat).length) (c_hits - 0)), (1, .slice A_more more.length c_more), (2, .int .i64 need), (3, .int .i64 of_), (12, .slice A ((all.set k false).length) c), (44, .int .i64 (r2.length : Int)), (45, .int .i64 (w64 ((k : Int) + 1)))] rfl ⟨by kernel_rfl, by kernel_rfl⟩ ?_
            refine TL.done rfl ?_
            refine TE.rw 45 (.int .i64 (w64 ((k : Int) + 1))) (.int .i64 ((k + 1 : Nat) : Int)) (by kernel_rfl) (w64_cast k (by omega)) ?_
            exact TE.again (x := (k, all)) (k + 1, (all.set k false)) ⟨by omega, hI.trans (by subst hr1 hr2; rw [hd]; exact cond_f h3 (cond_f h4 (rfl))), (by have q0_ := (bne_f (or_f1 (or_f1 h1))); have q1_ := (bne_f (or_f2 (or_f1 h1))); have q2_ := (bne_f (or_f2 h1)); have q3_ := (dec_f h4); first | omega | (simp <;> omega) | (simp at * <;> omega))⟩ (by show r2.length - (k + 1) < r2.length - k; omega) (by kernel_rfl) (.cons_cons _ (.slnil))
      · have hd : r2.length - k = 0 := by have := of_decide_eq_false h2; first | omega | (simp at this; omega)
        refine TC.exit ?_
        refine TE.exit_then (TE.exit_then (TE.exit_same ?_))
        exact TE.cut all (⟨hI.trans (by subst hr1 hr2; rw [hd]; exact rfl), (by have q0_ := (bne_f (or_f1 (or_f1 h1))); have q1_ := (bne_f (or_f2 (or_f1 h1))); have q2_ := (bne_f (or_f2 h1)); first | omega | (simp <;> omega) | (simp at * <;> omega))⟩) (by kernel_rfl) (.cons_cons _ (.slnil))
    · rintro all_2 ⟨hJ, hl_all_2⟩
      refine TE.next ?_
      refine TC.seq ?_
      refine TC.region ?_
      refine TL.run 3 [] [(2, .int .i64 need), (3, .int .i64 of_), (12, .slice A all_2.length c), (69, .slice A1 ((hits.take (imin (hits.length : Int) 30).toNat).length) (c_hits - 0)), (70, .int .i64 need), (71, .int .i64 of_)] rfl ⟨by kernel_rfl, by kernel_rfl⟩ ?_
      refine TL.call (some 72) [(2, .int .i64 need), (3, .int .i64 of_), (12, .slice A all_2.length c), (72, .tuple #[.int .i64 ((begin_Run (hits.take (imin (hits.length : Int) 30).toNat) need of_).1), .int .i64 ((begin_Run (hits.take (imin (hits.length : Int) 30).toNat) need of_).2.1), .int .i64 ((begin_Run (hits.take (imin (hits.length : Int) 30).toNat) need of_).2.2)])] (fun w hM => begin_Run_w A1 (c_hits - 0) (hits.take (imin (hits.length : Int) 30).toNat) need of_ w (hR1.sat hM) hC1) (by kernel_rfl) (by kernel_rfl) ?_
      generalize hr3 : begin_Run (hits.take (imin (hits.length : Int) 30).toNat) need of_ = r3
      refine TL.run 11 [] [(2, .int .i64 need), (3, .int .i64 of_), (12, .slice A all_2.length c), (14, .int .i64 r3.1), (15, .int .i64 r3.2.1), (16, .int .i64 r3.2.2)] rfl ⟨by kernel_rfl, by kernel_rfl⟩ ?_
      refine TL.next rfl ?_
      refine TC.seq ?_
      refine TC.region ?_
      refine TL.run 3 [] [(14, .int .i64 r3.1), (15, .int .i64 r3.2.1), (16, .int .i64 r3.2.2), (77, .slice A all_2.length c), (78, .int .i64 need), (79, .int .i64 of_)] rfl ⟨by kernel_rfl, by kernel_rfl⟩ ?_
      refine TL.call (some 80) [(14, .int .i64 r3.1), (15, .int .i64 r3.2.1), (16, .int .i64 r3.2.2), (80, .tuple #[.int .i64 ((begin_Run all_2 need of_).1), .int .i64 ((begin_Run all_2 need of_).2.1), .int .i64 ((begin_Run all_2 need of_).2.2)])] (fun w hM => begin_Run_w A c all_2 need of_ w (hM.rd_at 0 rfl) (hM.le_at 0 rfl)) (by kernel_rfl) (by kernel_rfl) ?_
      generalize hr4 : begin_Run all_2 need of_ = r4
      refine TL.run 11 [] [(14, .int .i64 r3.1), (15, .int .i64 r3.2.1), (16, .int .i64 r3.2.2), (17, .int .i64 r4.1), (18, .int .i64 r4.2.1), (19, .int .i64 r4.2.2)] rfl ⟨by kernel_rfl, by kernel_rfl⟩ ?_
      refine TL.next rfl ?_
      refine TC.seq ?_
      refine TC.region ?_
      refine TL.run 4 [] [(14, .int .i64 r3.1), (15, .int .i64 r3.2.1), (17, .int .i64 r4.1), (18, .int .i64 r4.2.1), (87, .bool (r3.2.2 == r4.2.2))] rfl ⟨by kernel_rfl, by kernel_rfl⟩ ?_
      refine TL.split 87 (r3.2.2 == r4.2.2) (by kernel_rfl) (fun h5 => ?_) (fun h5 => ?_)
      · refine TL.run 7 [] [(14, .int .i64 r3.1), (17, .int .i64 r4.1), (18, .int .i64 r4.2.1), (87, .bool true), (90, .bool (r3.2.1 != 1))] rfl ⟨by kernel_rfl, by kernel_rfl⟩ ?_
        refine TL.split 90 (r3.2.1 != 1) (by kernel_rfl) (fun h6 => ?_) (fun h6 => ?_)
        · refine TL.run 17 [] [(8, .bool true)] rfl ⟨by kernel_rfl, by kernel_rfl⟩ ?_
          refine TL.next rfl ?_
          refine TC.ret ?_
          have e : skywaykeep2_BeginSooner hits more need of_ = true := by subst hr1 hr2 hr3 hr4; unfold skywaykeep2_BeginSooner; exact cond_f h1 (bindv_eq (hR.symm.trans hJ) (cond_t h5 (cond_t h6 (rfl))))
          exact TE.ret [] (.bool true) ⟨by kernel_rfl, by kernel_rfl⟩ (by rw [e]; first | done | kernel_rfl)
        · refine TL.run 10 [] [(14, .int .i64 r3.1), (17, .int .i64 r4.1), (87, .bool true), (90, .bool false), (93, .bool (r4.2.1 == 1))] rfl ⟨by kernel_rfl, by kernel_rfl⟩ ?_
          refine TL.split 93 (r4.2.1 == 1) (by kernel_rfl) (fun h7 => ?_) (fun h7 => ?_)
          · refine TL.run 17 [] [(8, .bool (decide (r4.1 ≤ r3.1)))] rfl ⟨by kernel_rfl, by kernel_rfl⟩ ?_
            refine TL.next rfl ?_
            refine TC.ret ?_
            have e : skywaykeep2_BeginSooner hits more need of_ = (decide (r4.1 ≤ r3.1)) := by subst hr1 hr2 hr3 hr4; unfold skywaykeep2_BeginSooner; exact cond_f h1 (bindv_eq (hR.symm.trans hJ) (cond_t h5 (cond_f h6 (cond_t h7 (rfl)))))
            exact TE.ret [] (.bool (decide (r4.1 ≤ r3.1))) ⟨by kernel_rfl, by kernel_rfl⟩ (by rw [e]; first | done | kernel_rfl)
          · refine TL.run 17 [] [(8, .bool false)] rfl ⟨by kernel_rfl, by kernel_rfl⟩ ?_
            refine TL.next rfl ?_
            refine TC.ret ?_
            have e : skywaykeep2_BeginSooner hits more need of_ = false := by subst hr1 hr2 hr3 hr4; unfold skywaykeep2_BeginSooner; exact cond_f h1 (bindv_eq (hR.symm.trans hJ) (cond_t h5 (cond_f h6 (cond_f h7 (rfl)))))
            exact TE.ret [] (.bool false) ⟨by kernel_rfl, by kernel_rfl⟩ (by rw [e]; first | done | kernel_rfl)
      · refine TL.run 17 [] [(8, .bool false)] rfl ⟨by kernel_rfl, by kernel_rfl⟩ ?_
        refine TL.next rfl ?_
        refine TC.ret ?_
        have e : skywaykeep2_BeginSooner hits more need of_ = false := by subst hr1 hr2 hr3 hr4; unfold skywaykeep2_BeginSooner; exact cond_f h1 (bindv_eq (hR.symm.trans hJ) (cond_f h5 (rfl)))
        exact TE.ret [] (.bool false) ⟨by kernel_rfl, by kernel_rfl⟩ (by rw [e]; first | done | kernel_rfl)

def skywaykeep2_BeginAlways_L1 : Nat → Nat → (List Bool) → (List Bool)
  | 0, _, yes => yes
  | m + 1, k, yes => skywaykeep2_BeginAlways_L1 m (k + 1) (yes.set k true)
def skywaykeep2_BeginAlways (need : Int) (of_ : Int) : Bool :=
  let r1 := skywaykeep2_within of_ 1 16
  let r2 := skywaykeep2_within need 1 r1
  bindv (skywaykeep2_BeginAlways_L1 20 0 (List.replicate 20 false)) (fun yes_2 =>
    let r3 := begin_Run yes_2 r2 r1
    let r4 := begin_Run (List.replicate 20 false) r2 r1
    let r5 := skywaykeep2_fine ([r3.2.2, r4.2.2])
    (((r5 && (r3.1 == r2)) && (r3.2.1 == 1)) && (r4.1 == r1)) && (r4.2.1 == 2))

set_option maxRecDepth 100000 in
theorem skywaykeep2_BeginAlways_w (need : Int) (of_ : Int) (w : World) : Calls Try.prog 14 #[.int .i64 need, .int .i64 of_] w (Ret w (.bool (skywaykeep2_BeginAlways need of_))) := by
  refine calls_intro (vs := [.int .i64 need, .int .i64 of_]) (w := w) Try.func14 rfl Try.ntmps14 rfl ?_
  refine TC.weak [(0, .int .i64 need), (1, .int .i64 of_)] (by kernel_rfl) ?_
  refine TC.seq ?_
  refine TC.region ?_
  refine TL.run 1 [] [(0, .int .i64 need), (1, .int .i64 of_)] rfl ⟨by kernel_rfl, by kernel_rfl⟩ ?_
  refine TL.next rfl ?_
  refine TC.seq ?_
  refine TC.region ?_
  refine TL.run 1 [] [(0, .int .i64 need), (13, .int .i64 of_)] rfl ⟨by kernel_rfl, by kernel_rfl⟩ ?_
  refine TL.call (some 14) [(0, .int .i64 need), (14, .int .i64 (skywaykeep2_within of_ 1 16))] (fun w _ => skywaykeep2_within_w of_ 1 16 w (by first | decide | (have u := within_in hr1 (by omega) (by omega) (by omega); simp only [w64_eq]; omega))) (by kernel_rfl) (by kernel_rfl) ?_
  generalize hr1 : skywaykeep2_within of_ 1 16 = r1
  refine TL.run 3 [] [(0, .int .i64 need), (1, .int .i64 r1)] rfl ⟨by kernel_rfl, by kernel_rfl⟩ ?_
  refine TL.next rfl ?_
  refine TC.seq ?_
  refine TC.region ?_
  refine TL.run 2 [] [(1, .int .i64 r1), (15, .int .i64 need), (16, .int .i64 r1)] rfl ⟨by kernel_rfl, by kernel_rfl⟩ ?_
  refine TL.call (some 17) [(1, .int .i64 r1), (17, .int .i64 (skywaykeep2_within need 1 r1))] (fun w _ => skywaykeep2_within_w need 1 r1 w (by first | decide | (have u := within_in hr1 (by omega) (by omega) (by omega); simp only [w64_eq]; omega))) (by kernel_rfl) (by kernel_rfl) ?_
  generalize hr2 : skywaykeep2_within need 1 r1 = r2
  refine TL.run 4 [] [(0, .int .i64 r2), (1, .int .i64 r1)] rfl ⟨by kernel_rfl, by kernel_rfl⟩ ?_
  refine TL.next rfl ?_
  refine TC.seq ?_
  refine TC.region ?_
  refine TL.opM (Γ := Option Addr × Nat) (sV (Instr.makeSlice 60 (.int .i64 20) (.int .i64 20))) (some 18) (fun g => .slice g.1 (List.replicate 20 false).length g.2) (fun g => [.inr (Own g.1 g.2 4 1 ((List.replicate 20 false).map bc))]) (fun g => [(0, .int .i64 r2), (1, .int .i64 r1), (18, .slice g.1 ((List.replicate 20 false).length) g.2)]) (make_at (bytes := 1) false .i64 .i64 20 (by kernel_rfl) (by kernel_rfl) (by first | omega | (simp only [List.length_drop]; omega) | (simp only [w64_eq]; omega)) (by first | omega | (simp only [List.length_drop]; omega) | (simp only [w64_eq]; omega))) (by kernel_rfl) (fun g => by kernel_rfl) ?_
  rintro ⟨A, c⟩
  refine TL.run 2 [] [(0, .int .i64 r2), (1, .int .i64 r1), (5, .slice A ((List.replicate 20 false).length) c)] rfl ⟨by kernel_rfl, by kernel_rfl⟩ ?_
  refine TL.next rfl ?_
  refine TC.seq ?_
  refine TC.seq ?_
  refine TC.region ?_
  refine TL.run 3 [] [(0, .int .i64 r2), (1, .int .i64 r1), (5, .slice A ((List.replicate 20 false).length) c), (20, .int .i64 ((List.replicate 20 false).length : Int)), (21, .int .i64 0)] rfl ⟨by kernel_rfl, by kernel_rfl⟩ ?_
  refine TL.next rfl ?_
  refine TC.weak [(0, .int .i64 r2), (1, .int .i64 r1), (5, .slice A ((List.replicate 20 false).length) c), (20, .int .i64 ((List.replicate 20 false).length : Int)), (21, .int .i64 0)] (by kernel_rfl) ?_
  obtain ⟨R2, hR⟩ : ∃ R, R = skywaykeep2_BeginAlways_L1 20 0 (List.replicate 20 false) := ⟨_, rfl⟩
  refine TC.cut (S := (List Bool)) (fun yes_2 => [(0, .int .i64 r2), (1, .int .i64 r1), (5, .slice A yes_2.length c)]) (fun yes_2 => [.inr (Own A c 4 1 (yes_2.map bc))]) (fun yes_2 => R2 = yes_2 ∧ yes_2.length = 20) ?_ ?_
  · refine TC.block ?_
    refine TC.loop (X := Nat × (List Bool)) (fun (k, yes) => [(0, .int .i64 r2), (1, .int .i64 r1), (5, .slice A yes.length c), (20, .int .i64 ((List.replicate 20 false).length : Int)), (21, .int .i64 (k : Int))]) (fun (k, yes) => [.inr (Own A c 4 1 (yes.map bc))]) (fun (k, yes) => 20 - k) (fun (k, yes) => k ≤ 20 ∧ R2 = skywaykeep2_BeginAlways_L1 (20 - k) k yes ∧ yes.length = 20) ?_ (0, (List.replicate 20 false)) ⟨Nat.zero_le _, hR, (by first | omega | (simp; omega) | simp)⟩
    rintro ⟨k, yes⟩ ⟨hk, hI, hl_yes⟩
    refine TC.seq ?_
    refine TC.region ?_
    refine TL.run 1 [] [(0, .int .i64 r2), (1, .int .i64 r1), (5, .slice A yes.length c), (20, .int .i64 ((List.replicate 20 false).length : Int)), (21, .int .i64 (k : Int)), (22, .bool (decide ((k : Int) < ((List.replicate 20 false).length : Int))))] rfl ⟨by kernel_rfl, by kernel_rfl⟩ ?_
    refine TL.next rfl ?_
    refine TC.seq ?_
    refine TC.cond (decide ((k : Int) < ((List.replicate 20 false).length : Int))) rfl (by kernel_rfl) (fun h1 => ?_) (fun h1 => ?_)
    · have hlt : k < 20 := by have := of_decide_eq_true h1; first | omega | (simp at this; omega)
      have hd : 20 - k = (20 - (k + 1)) + 1 := by omega
      refine TC.skip ?_
      refine TE.next ?_
      refine TC.seq ?_
      refine TC.block ?_
      refine TC.seq ?_
      refine TC.region ?_
      refine TL.run 2 [] [(0, .int .i64 r2), (1, .int .i64 r1), (5, .slice A yes.length c), (6, .int .i64 (k : Int)), (20, .int .i64 ((List.replicate 20 false).length : Int)), (21, .int .i64 (k : Int))] rfl ⟨by kernel_rfl, by kernel_rfl⟩ ?_
      refine TL.next rfl ?_
      refine TC.region ?_
      refine TL.run 2 [] [(0, .int .i64 r2), (1, .int .i64 r1), (5, .slice A yes.length c), (20, .int .i64 ((List.replicate 20 false).length : Int)), (21, .int .i64 (k : Int)), (24, .slice A yes.length c), (25, .int .i64 (k : Int))] rfl ⟨by kernel_rfl, by kernel_rfl⟩ ?_
      refine TL.val (sV (Instr.indexAt 60 (.slice A yes.length c) (.int .i64 (k : Int)))) (some 26) (.pointer (some ((A.getD noAddr).add (k * 1)))) [(0, .int .i64 r2), (1, .int .i64 r1), (5, .slice A yes.length c), (20, .int .i64 ((List.replicate 20 false).length : Int)), (21, .int .i64 (k : Int)), (26, .pointer (some ((A.getD noAddr).add (k * 1))))] (fun w hM => run_index (hM.rd_at 0 rfl) (by simp) (by kernel_rfl) (by first | omega | (simp only [List.length_drop]; omega) | (simp only [w64_eq]; omega)) (by first | omega | (simp only [List.length_drop]; omega) | (simp only [w64_eq]; omega))) (by kernel_rfl) (by kernel_rfl) ?_
      refine TL.skipM (Γ := Unit) (sU (Instr.storeAt 4 (.pointer (some (((A.getD noAddr).add (k * 1)).add 0))) (.bool true))) none (fun _ => [.inr (Own A c 4 1 ((yes.set k true).map bc))]) (fun _ => [(0, .int .i64 r2), (1, .int .i64 r1), (5, .slice A yes.length c), (20, .int .i64 ((List.replicate 20 false).length : Int)), (21, .int .i64 (k : Int))]) (run_store_at (n := 1) (off := 0) (.bool true) 0 ((yes.set k true).map bc) rfl (map_at (getD_at _ _ false (by first | omega | (simp only [List.length_drop]; omega) | (simp only [w64_eq]; omega)))) (by kernel_rfl) (by kernel_rfl) (by kernel_rfl) (by kernel_rfl) (set_map_at (by kernel_rfl))) (by kernel_rfl) (fun _ => by kernel_rfl) (fun _ => ?_)
      refine TL.rw 5 (.slice A yes.length c) (.slice A ((yes.set k true).length) c) (by kernel_rfl) (by rw [List.length_set]) ?_
      refine TL.done rfl ?_
      refine TE.normal_block ?_
      refine TE.next ?_
      refine TC.region ?_
      refine TL.run 2 [] [(0, .int .i64 r2), (1, .int .i64 r1), (5, .slice A ((yes.set k true).length) c), (20, .int .i64 ((List.replicate 20 false).length : Int)), (21, .int .i64 (w64 ((k : Int) + 1)))] rfl ⟨by kernel_rfl, by kernel_rfl⟩ ?_
      refine TL.done rfl ?_
      refine TE.rw 21 (.int .i64 (w64 ((k : Int) + 1))) (.int .i64 ((k + 1 : Nat) : Int)) (by kernel_rfl) (w64_cast k (by omega)) ?_
      exact TE.again (x := (k, yes)) (k + 1, (yes.set k true)) ⟨by omega, hI.trans (by subst hr1 hr2; rw [hd]; exact rfl), (by first | omega | (simp <;> omega) | (simp at * <;> omega))⟩ (by show 20 - (k + 1) < 20 - k; omega) (by kernel_rfl) (.cons_cons _ (.slnil))
    · have hd : 20 - k = 0 := by have := of_decide_eq_false h1; first | omega | (simp at this; omega)
      refine TC.exit ?_
      refine TE.exit_then (TE.exit_then (TE.exit_same ?_))
      exact TE.cut yes (⟨hI.trans (by subst hr1 hr2; rw [hd]; exact rfl), (by first | omega | (simp <;> omega) | (simp at * <;> omega))⟩) (by kernel_rfl) (.cons_cons _ (.slnil))
  · rintro yes_2 ⟨hJ, hl_yes_2⟩
    refine TE.next ?_
    refine TC.seq ?_
    refine TC.region ?_
    refine TL.run 3 [] [(0, .int .i64 r2), (1, .int .i64 r1), (29, .slice A yes_2.length c), (30, .int .i64 r2), (31, .int .i64 r1)] rfl ⟨by kernel_rfl, by kernel_rfl⟩ ?_
    refine TL.call (some 32) [(0, .int .i64 r2), (1, .int .i64 r1), (32, .tuple #[.int .i64 ((begin_Run yes_2 r2 r1).1), .int .i64 ((begin_Run yes_2 r2 r1).2.1), .int .i64 ((begin_Run yes_2 r2 r1).2.2)])] (fun w hM => begin_Run_w A c yes_2 r2 r1 w (hM.rd_at 0 rfl) (hM.le_at 0 rfl)) (by kernel_rfl) (by kernel_rfl) ?_
    generalize hr3 : begin_Run yes_2 r2 r1 = r3
    refine TL.run 11 [] [(0, .int .i64 r2), (1, .int .i64 r1), (7, .int .i64 r3.1), (8, .int .i64 r3.2.1), (9, .int .i64 r3.2.2)] rfl ⟨by kernel_rfl, by kernel_rfl⟩ ?_
    refine TL.next rfl ?_
    refine TC.seq ?_
    refine TC.region ?_
    refine TL.opM (Γ := Option Addr × Nat) (sV (Instr.makeSlice 60 (.int .i64 20) (.int .i64 20))) (some 37) (fun g => .slice g.1 (List.replicate 20 false).length g.2) (fun g => [.inr (Own g.1 g.2 4 1 ((List.replicate 20 false).map bc)), .inr (Own A c 4 1 (yes_2.map bc))]) (fun g => [(0, .int .i64 r2), (1, .int .i64 r1), (7, .int .i64 r3.1), (8, .int .i64 r3.2.1), (9, .int .i64 r3.2.2), (37, .slice g.1 ((List.replicate 20 false).length) g.2)]) (make_at (bytes := 1) false .i64 .i64 20 (by kernel_rfl) (by kernel_rfl) (by first | omega | (simp only [List.length_drop]; omega) | (simp only [w64_eq]; omega)) (by first | omega | (simp only [List.length_drop]; omega) | (simp only [w64_eq]; omega))) (by kernel_rfl) (fun g => by kernel_rfl) ?_
    rintro ⟨A_2, c_2⟩
    refine TL.run 3 [] [(0, .int .i64 r2), (1, .int .i64 r1), (7, .int .i64 r3.1), (8, .int .i64 r3.2.1), (9, .int .i64 r3.2.2), (37, .slice A_2 ((List.replicate 20 false).length) c_2), (38, .int .i64 r2), (39, .int .i64 r1)] rfl ⟨by kernel_rfl, by kernel_rfl⟩ ?_
    refine TL.call (some 40) [(0, .int .i64 r2), (1, .int .i64 r1), (7, .int .i64 r3.1), (8, .int .i64 r3.2.1), (9, .int .i64 r3.2.2), (40, .tuple #[.int .i64 ((begin_Run (List.replicate 20 false) r2 r1).1), .int .i64 ((begin_Run (List.replicate 20 false) r2 r1).2.1), .int .i64 ((begin_Run (List.replicate 20 false) r2 r1).2.2)])] (fun w hM => begin_Run_w A_2 c_2 (List.replicate 20 false) r2 r1 w (hM.rd_at 0 rfl) (hM.le_at 0 rfl)) (by kernel_rfl) (by kernel_rfl) ?_
    generalize hr4 : begin_Run (List.replicate 20 false) r2 r1 = r4
    refine TL.run 11 [] [(0, .int .i64 r2), (1, .int .i64 r1), (7, .int .i64 r3.1), (8, .int .i64 r3.2.1), (9, .int .i64 r3.2.2), (10, .int .i64 r4.1), (11, .int .i64 r4.2.1), (12, .int .i64 r4.2.2)] rfl ⟨by kernel_rfl, by kernel_rfl⟩ ?_
    refine TL.next rfl ?_
    refine TC.seq ?_
    refine TC.region ?_
    refine TL.run 2 [] [(0, .int .i64 r2), (1, .int .i64 r1), (7, .int .i64 r3.1), (8, .int .i64 r3.2.1), (10, .int .i64 r4.1), (11, .int .i64 r4.2.1), (44, .int .i64 r3.2.2), (45, .int .i64 r4.2.2)] rfl ⟨by kernel_rfl, by kernel_rfl⟩ ?_
    refine TL.write 0 (fun b1 => [(0, .int .i64 r2), (1, .int .i64 r1), (7, .int .i64 r3.1), (8, .int .i64 r3.2.1), (10, .int .i64 r4.1), (11, .int .i64 r4.2.1), (46, .slice (some ⟨b1, 0, none⟩) 2 2)]) (fun b1 => [.inl (b1, .cells #[.int .i64 r3.2.2, .int .i64 r4.2.2] 22 (0, 0)), .inr (Own A_2 c_2 4 1 ((List.replicate 20 false).map bc)), .inr (Own A c 4 1 (yes_2.map bc))]) (fun b1 => ⟨by kernel_rfl, by kernel_rfl⟩) (fun b1 => ?_)
    refine TL.call (some 47) [(0, .int .i64 r2), (1, .int .i64 r1), (7, .int .i64 r3.1), (8, .int .i64 r3.2.1), (10, .int .i64 r4.1), (11, .int .i64 r4.2.1), (47, .bool ((skywaykeep2_fine ([r3.2.2, r4.2.2]))))] (fun w hM => skywaykeep2_fine_w (some ⟨b1, 0, none⟩) 2 ([r3.2.2, r4.2.2]) w (Rd.lit hM 0 _ rfl (by kernel_rfl) (by kernel_rfl) (by kernel_rfl)) (Nat.le_refl _)) (by kernel_rfl) (by kernel_rfl) ?_
    generalize hr5 : skywaykeep2_fine ([r3.2.2, r4.2.2]) = r5
    refine TL.run 5 [] [(0, .int .i64 r2), (1, .int .i64 r1), (7, .int .i64 r3.1), (8, .int .i64 r3.2.1), (10, .int .i64 r4.1), (11, .int .i64 r4.2.1), (48, .bool r5)] rfl ⟨by kernel_rfl, by kernel_rfl⟩ ?_
    refine TL.join 48 r5 9 [] [] (fun β => [(1, .int .i64 r1), (8, .int .i64 r3.2.1), (10, .int .i64 r4.1), (11, .int .i64 r4.2.1), (52, .bool (β && (r3.1 == r2)))]) (by kernel_rfl) rfl ⟨by kernel_rfl, by kernel_rfl⟩ ⟨by kernel_rfl, by kernel_rfl⟩ ?_
    refine TL.run 10 [] [(1, .int .i64 r1), (8, .int .i64 r3.2.1), (10, .int .i64 r4.1), (11, .int .i64 r4.2.1), (53, .bool (r5 && (r3.1 == r2)))] rfl ⟨by kernel_rfl, by kernel_rfl⟩ ?_
    refine TL.join 53 (r5 && (r3.1 == r2)) 13 [] [] (fun β => [(1, .int .i64 r1), (10, .int .i64 r4.1), (11, .int .i64 r4.2.1), (56, .bool (β && (r3.2.1 == 1)))]) (by kernel_rfl) rfl ⟨by kernel_rfl, by kernel_rfl⟩ ⟨by kernel_rfl, by kernel_rfl⟩ ?_
    refine TL.run 14 [] [(1, .int .i64 r1), (10, .int .i64 r4.1), (11, .int .i64 r4.2.1), (57, .bool ((r5 && (r3.1 == r2)) && (r3.2.1 == 1)))] rfl ⟨by kernel_rfl, by kernel_rfl⟩ ?_
    refine TL.join 57 ((r5 && (r3.1 == r2)) && (r3.2.1 == 1)) 18 [] [] (fun β => [(11, .int .i64 r4.2.1), (61, .bool (β && (r4.1 == r1)))]) (by kernel_rfl) rfl ⟨by kernel_rfl, by kernel_rfl⟩ ⟨by kernel_rfl, by kernel_rfl⟩ ?_
    refine TL.run 19 [] [(11, .int .i64 r4.2.1), (62, .bool (((r5 && (r3.1 == r2)) && (r3.2.1 == 1)) && (r4.1 == r1)))] rfl ⟨by kernel_rfl, by kernel_rfl⟩ ?_
    refine TL.join 62 (((r5 && (r3.1 == r2)) && (r3.2.1 == 1)) && (r4.1 == r1)) 22 [] [] (fun β => [(65, .bool (β && (r4.2.1 == 2)))]) (by kernel_rfl) rfl ⟨by kernel_rfl, by kernel_rfl⟩ ⟨by kernel_rfl, by kernel_rfl⟩ ?_
    refine TL.run 23 [] [(4, .bool ((((r5 && (r3.1 == r2)) && (r3.2.1 == 1)) && (r4.1 == r1)) && (r4.2.1 == 2)))] rfl ⟨by kernel_rfl, by kernel_rfl⟩ ?_
    refine TL.next rfl ?_
    refine TC.ret ?_
    have e : skywaykeep2_BeginAlways need of_ = ((((r5 && (r3.1 == r2)) && (r3.2.1 == 1)) && (r4.1 == r1)) && (r4.2.1 == 2)) := by subst hr1 hr2 hr3 hr4 hr5; unfold skywaykeep2_BeginAlways; exact bindv_eq (hR.symm.trans hJ) (rfl)
    exact TE.ret [] (.bool ((((r5 && (r3.1 == r2)) && (r3.2.1 == 1)) && (r4.1 == r1)) && (r4.2.1 == 2))) ⟨by kernel_rfl, by kernel_rfl⟩ (by rw [e]; first | done | kernel_rfl)

end Go.Sky
