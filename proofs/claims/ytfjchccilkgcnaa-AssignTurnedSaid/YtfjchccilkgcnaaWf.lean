/- Functions of the program, each with the Lean function that it computes. Conditions: none. -/
import Derived.Test.YtfjchccilkgcnaaWe
import Derived.Test.YtfjchccilkgcnaaTurned
import Derived.Test.YtfjchccilkgcnaaBestEq
namespace Go.Sky
open Go Go.Eng Go.Proofs
def slices_Clone_int_int (s : List Int) : List Int :=
  s

set_option maxRecDepth 100000 in
theorem slices_Clone_int_int_w (A_s : Option Addr) (c_s : Nat) (s : List Int) (w : World) (h_s : Rd w 1 A_s (s.map ic)) (_hc_s : s.length ≤ c_s) (hb : s.length * 8 ≤ 140737488355328) : Calls Try.prog 17 #[.slice A_s s.length c_s] w (RetM (Γ := (Option Addr × Nat)) (cx w) (fun g => .slice g.1 ((slices_Clone_int_int s).length) g.2) (fun g => [.inr (Own g.1 g.2 3 1 ((slices_Clone_int_int s).map ic))])) := by
  have s_s := h_s.short; rw [List.length_map] at s_s
  rcases A_s with _ | a
  · have hz : s = [] := nil_of_none h_s
    subst hz
    refine calls_intro (vs := [.slice none 0 c_s]) (w := w) Try.func17 rfl Try.ntmps17 rfl ?_
    refine TC.weak [(0, .slice none 0 c_s)] (by kernel_rfl) ?_
    refine TC.seq ?_
    refine TC.region ?_
    refine TL.run 1 [] [(0, .slice none 0 c_s)] rfl ⟨by kernel_rfl, by kernel_rfl⟩ ?_
    refine TL.next rfl ?_
    refine TC.seq ?_
    refine TC.seq ?_
    refine TC.region ?_
    refine TL.run 2 [] [(0, .slice none 0 c_s), (4, .bool true)] rfl ⟨by kernel_rfl, by kernel_rfl⟩ ?_
    refine TL.next rfl ?_
    refine TC.condT rfl (by kernel_rfl) ?_
    refine TC.seq ?_
    refine TC.region ?_
    refine TL.run 1 [] [(2, .slice none 0 0)] rfl ⟨by kernel_rfl, by kernel_rfl⟩ ?_
    refine TL.next rfl ?_
    refine TC.ret ?_
    refine TE.ret_then ?_
    have e : slices_Clone_int_int [] = ([]) := rfl
    refine TE.conv [.inr (Own none 0 3 1 (([] : List Int).map ic))] (fun _ hM => hM.emptyrow none 3 1) ?_
    rw [e]
    exact TE.retM (.inl rfl) (none, 0) [] (.slice none 0 0) ⟨by kernel_rfl, by kernel_rfl⟩ rfl (fun _ hM => hM.sub (.cons_cons _ (.slnil)))
  · refine calls_intro (vs := [.slice (some a) s.length c_s]) (w := w) Try.func17 rfl Try.ntmps17 rfl ?_
    refine TC.weak [(0, .slice (some a) s.length c_s)] (by kernel_rfl) ?_
    refine TC.seq ?_
    refine TC.region ?_
    refine TL.run 1 [] [(0, .slice (some a) s.length c_s)] rfl ⟨by kernel_rfl, by kernel_rfl⟩ ?_
    refine TL.next rfl ?_
    refine TC.seq ?_
    refine TC.seq ?_
    refine TC.region ?_
    refine TL.run 2 [] [(0, .slice (some a) s.length c_s), (4, .bool false)] rfl ⟨by kernel_rfl, by kernel_rfl⟩ ?_
    refine TL.next rfl ?_
    refine TC.condF rfl (by kernel_rfl) ?_
    refine TC.skip ?_
    refine TE.next ?_
    refine TC.seq ?_
    refine TC.region ?_
    refine TL.write 0 (fun b1 => [(0, .slice (some a) s.length c_s), (5, .slice (some ⟨b1, 0, none⟩) 0 0)]) (fun b1 => [.inl (b1, .cells #[] 3 (0, 0))]) (fun b1 => ⟨by kernel_rfl, by kernel_rfl⟩) (fun b1 => ?_)
    refine TL.run 2 [] [(5, .slice (some ⟨b1, 0, none⟩) 0 0), (6, .slice (some a) s.length c_s)] rfl ⟨by kernel_rfl, by kernel_rfl⟩ ?_
    refine TL.conv [.inr (Own (some ⟨b1, 0, none⟩) 0 3 1 (([] : List Int).map ic))] (fun _ hM => by exact hM.litrow 0 (([] : List Int).map ic) rfl (by kernel_rfl) (by kernel_rfl) (by kernel_rfl) (by kernel_rfl)) ?_
    refine TL.opM (Γ := Option Addr × Nat) (sV (Builtin.append_ #[23, 23] 23 #[.slice (some ⟨b1, 0, none⟩) (([] : List Int).length) 0, .slice (some a) s.length c_s])) (some 7) (fun g => .slice g.1 (([] : List Int) ++ s).length g.2) (fun g => [.inr (Own g.1 g.2 3 1 ((([] : List Int) ++ s).map ic))]) (fun g => [(7, .slice g.1 ((([] : List Int) ++ s).length) g.2)]) (app_at (bytes := 8) 23 0 s (by kernel_rfl) rfl rfl ic_one rfl (fun w hM => (h_s.sat hM)) rfl (by first | omega | (simp <;> omega) | (simp at * <;> omega))) (by kernel_rfl) (fun g => by kernel_rfl) ?_
    rintro ⟨A, c⟩
    refine TL.run 4 [] [(2, .slice A ((([] : List Int) ++ s).length) c)] rfl ⟨by kernel_rfl, by kernel_rfl⟩ ?_
    refine TL.next rfl ?_
    refine TC.ret ?_
    have e : slices_Clone_int_int s = (([] : List Int) ++ s) := rfl
    rw [e]
    exact TE.retM (.inl rfl) (A, c) [] (.slice A ((([] : List Int) ++ s).length) c) ⟨by kernel_rfl, by kernel_rfl⟩ rfl (fun _ hM => hM.sub (.cons_cons _ (.slnil)))

def skywaykeep2_AssignMisses_1 (k : Int) : Bool :=
  decide (k ≥ 0)

set_option maxRecDepth 100000 in
theorem skywaykeep2_AssignMisses_1_w (k : Int) (w : World) : Calls Try.prog 21 #[.int .i64 k] w (Ret w (.bool (skywaykeep2_AssignMisses_1 k))) := by
  refine calls_intro (vs := [.int .i64 k]) (w := w) Try.func21 rfl Try.ntmps21 rfl ?_
  refine TC.weak [(0, .int .i64 k)] (by kernel_rfl) ?_
  refine TC.seq ?_
  refine TC.region ?_
  refine TL.run 1 [] [(0, .int .i64 k)] rfl ⟨by kernel_rfl, by kernel_rfl⟩ ?_
  refine TL.next rfl ?_
  refine TC.seq ?_
  refine TC.region ?_
  refine TL.run 3 [] [(2, .bool (decide (k ≥ 0)))] rfl ⟨by kernel_rfl, by kernel_rfl⟩ ?_
  refine TL.next rfl ?_
  refine TC.ret ?_
  have e : skywaykeep2_AssignMisses_1 k = (decide (k ≥ 0)) := by unfold skywaykeep2_AssignMisses_1; exact rfl
  exact TE.ret [] (.bool (decide (k ≥ 0))) ⟨by kernel_rfl, by kernel_rfl⟩ (by rw [e]; first | done | kernel_rfl)

def IndexFunc_pos_L1 : List Int → Nat → ((Unit) ⊕ (Int))
  | [], _ => .inl ()
  | x :: xs, k => let r1 := skywaykeep2_AssignMisses_1 x
    cond r1 (
      .inr (k : Int)) (
      IndexFunc_pos_L1 xs (k + 1))
def IndexFunc_pos (s : List Int) : Int :=
  Sum.elim (fun _ =>
    (-1)) (fun r => r) (IndexFunc_pos_L1 s 0)

set_option maxRecDepth 100000 in
theorem IndexFunc_pos_w (A_s : Option Addr) (c_s : Nat) (s : List Int) (w : World) (h_s : Rd w 1 A_s (s.map ic)) (_hc_s : s.length ≤ c_s) : Calls Try.prog 51 #[.slice A_s s.length c_s, .func (.func 21) #[] #[]] w (Ret w (.int .i64 (IndexFunc_pos s))) := by
  have s_s := h_s.short; rw [List.length_map] at s_s
  refine calls_intro (vs := [.slice A_s s.length c_s, .func (.func 21) #[] #[]]) (w := w) Try.func51 rfl Try.ntmps51 rfl ?_
  refine TC.weak [(0, .slice A_s s.length c_s), (1, .func (.func 21) #[] #[])] (by kernel_rfl) ?_
  refine TC.seq ?_
  refine TC.region ?_
  refine TL.run 1 [] [(0, .slice A_s s.length c_s), (1, .func (.func 21) #[] #[])] rfl ⟨by kernel_rfl, by kernel_rfl⟩ ?_
  refine TL.next rfl ?_
  refine TC.seq ?_
  refine TC.seq ?_
  refine TC.region ?_
  refine TL.run 3 [] [(0, .slice A_s s.length c_s), (1, .func (.func 21) #[] #[]), (7, .int .i64 (s.length : Int)), (8, .int .i64 0)] rfl ⟨by kernel_rfl, by kernel_rfl⟩ ?_
  refine TL.next rfl ?_
  refine TC.weak [(0, .slice A_s s.length c_s), (1, .func (.func 21) #[] #[]), (7, .int .i64 (s.length : Int)), (8, .int .i64 0)] (by kernel_rfl) ?_
  obtain ⟨R1, hR⟩ : ∃ R, R = IndexFunc_pos_L1 s 0 := ⟨_, rfl⟩
  refine TC.cut (S := Unit) (fun (_ : Unit) => []) (fun (_ : Unit) => []) (fun (_ : Unit) => R1 = .inl ()) ?_ ?_
  · refine TC.block ?_
    refine TC.loop (X := Nat) (fun k => [(0, .slice A_s s.length c_s), (1, .func (.func 21) #[] #[]), (7, .int .i64 (s.length : Int)), (8, .int .i64 (k : Int))]) (fun k => []) (fun k => s.length - k) (fun k => k ≤ s.length ∧ R1 = IndexFunc_pos_L1 (s.drop k) k) ?_ 0 ⟨Nat.zero_le _, hR⟩
    rintro k ⟨hk, hI⟩
    refine TC.seq ?_
    refine TC.region ?_
    refine TL.run 1 [] [(0, .slice A_s s.length c_s), (1, .func (.func 21) #[] #[]), (7, .int .i64 (s.length : Int)), (8, .int .i64 (k : Int)), (9, .bool (decide ((k : Int) < (s.length : Int))))] rfl ⟨by kernel_rfl, by kernel_rfl⟩ ?_
    refine TL.next rfl ?_
    refine TC.seq ?_
    refine TC.cond (decide ((k : Int) < (s.length : Int))) rfl (by kernel_rfl) (fun h1 => ?_) (fun h1 => ?_)
    · have hlt : k < s.length := by have := of_decide_eq_true h1; first | omega | (simp at this; omega)
      obtain ⟨x, hx⟩ : ∃ e_, s[k]? = some e_ := ⟨_, List.getElem?_eq_getElem hlt⟩
      have hd := drop_at hx
      refine TC.skip ?_
      refine TE.next ?_
      refine TC.seq ?_
      refine TC.block ?_
      refine TC.seq ?_
      refine TC.region ?_
      refine TL.run 2 [] [(0, .slice A_s s.length c_s), (1, .func (.func 21) #[] #[]), (5, .int .i64 (k : Int)), (7, .int .i64 (s.length : Int)), (8, .int .i64 (k : Int))] rfl ⟨by kernel_rfl, by kernel_rfl⟩ ?_
      refine TL.next rfl ?_
      refine TC.seq ?_
      refine TC.region ?_
      refine TL.run 3 [] [(0, .slice A_s s.length c_s), (1, .func (.func 21) #[] #[]), (5, .int .i64 (k : Int)), (7, .int .i64 (s.length : Int)), (8, .int .i64 (k : Int)), (11, .func (.func 21) #[] #[]), (12, .slice A_s s.length c_s), (13, .int .i64 (k : Int))] rfl ⟨by kernel_rfl, by kernel_rfl⟩ ?_
      refine TL.val (sV (Instr.indexAt 23 (.slice A_s s.length c_s) (.int .i64 (k : Int)))) (some 14) (.pointer (some ((A_s.getD noAddr).add (k * 1)))) [(0, .slice A_s s.length c_s), (1, .func (.func 21) #[] #[]), (5, .int .i64 (k : Int)), (7, .int .i64 (s.length : Int)), (8, .int .i64 (k : Int)), (11, .func (.func 21) #[] #[]), (14, .pointer (some ((A_s.getD noAddr).add (k * 1))))] (fun w hM => run_index (h_s.sat hM) (by simp) (by kernel_rfl) (by first | omega | (simp only [List.length_set]; omega) | (dsimp only; omega) | (rw [List.length_drop]; omega) | (simp only [w64_eq]; omega) | exact (tm_in (by (first | (rw [w64_id (by omega)]; omega) | (simp only [w64_eq]; omega))) (by omega)).1 | exact (tm_in (by (first | (rw [w64_id (by omega)]; omega) | (simp only [w64_eq]; omega))) (by omega)).2.1 | exact (tm_in (by (first | (rw [w64_id (by omega)]; omega) | (simp only [w64_eq]; omega))) (by omega)).2.2 | (simp only [List.length_take] at *; omega) | (simp <;> omega)) (by first | omega | (simp only [List.length_set]; omega) | (dsimp only; omega) | (rw [List.length_drop]; omega) | (simp only [w64_eq]; omega) | exact (tm_in (by (first | (rw [w64_id (by omega)]; omega) | (simp only [w64_eq]; omega))) (by omega)).1 | exact (tm_in (by (first | (rw [w64_id (by omega)]; omega) | (simp only [w64_eq]; omega))) (by omega)).2.1 | exact (tm_in (by (first | (rw [w64_id (by omega)]; omega) | (simp only [w64_eq]; omega))) (by omega)).2.2 | (simp only [List.length_take] at *; omega) | (simp <;> omega))) (by kernel_rfl) (by kernel_rfl) ?_
      refine TL.val (sV (Instr.loadAt 3 (.pointer (some ((A_s.getD noAddr).add (k * 1)))))) (some 15) (.int .i64 x) [(0, .slice A_s s.length c_s), (1, .func (.func 21) #[] #[]), (5, .int .i64 (k : Int)), (7, .int .i64 (s.length : Int)), (8, .int .i64 (k : Int)), (11, .func (.func 21) #[] #[]), (15, .int .i64 x)] (fun w hM => run_load_one (off := 0) (i := k) (.int .i64 x) (h_s.sat hM) (map_at hx) (by kernel_rfl) (by kernel_rfl)) (by kernel_rfl) (by kernel_rfl) ?_
      refine TL.call (some 16) [(0, .slice A_s s.length c_s), (1, .func (.func 21) #[] #[]), (5, .int .i64 (k : Int)), (7, .int .i64 (s.length : Int)), (8, .int .i64 (k : Int)), (16, .bool ((skywaykeep2_AssignMisses_1 x)))] (fun w _ => skywaykeep2_AssignMisses_1_w x w) (by kernel_rfl) (by kernel_rfl) ?_
      generalize hr1 : skywaykeep2_AssignMisses_1 x = r1
      refine TL.next rfl ?_
      refine TC.cond r1 rfl (by kernel_rfl) (fun h2 => ?_) (fun h2 => ?_)
      · refine TC.seq ?_
        refine TC.region ?_
        refine TL.run 2 [] [(4, .int .i64 (k : Int))] rfl ⟨by kernel_rfl, by kernel_rfl⟩ ?_
        refine TL.next rfl ?_
        refine TC.ret ?_
        refine TE.ret_block (TE.ret_then (TE.ret_then (TE.ret_block (TE.ret_then (TE.ret_then ?_)))))
        have e : IndexFunc_pos s = (k : Int) := by subst hr1; unfold IndexFunc_pos; exact elim_r (hR.symm.trans (hI.trans (by rw [hd]; exact cond_t h2 (rfl)))) rfl
        exact TE.ret [] (.int .i64 (k : Int)) ⟨by kernel_rfl, by kernel_rfl⟩ (by rw [e]; first | done | kernel_rfl)
      · refine TC.skip ?_
        refine TE.normal_block ?_
        refine TE.next ?_
        refine TC.region ?_
        refine TL.run 2 [] [(0, .slice A_s s.length c_s), (1, .func (.func 21) #[] #[]), (7, .int .i64 (s.length : Int)), (8, .int .i64 (w64 ((k : Int) + 1)))] rfl ⟨by kernel_rfl, by kernel_rfl⟩ ?_
        refine TL.done rfl ?_
        refine TE.rw 8 (.int .i64 (w64 ((k : Int) + 1))) (.int .i64 ((k + 1 : Nat) : Int)) (by kernel_rfl) (w64_cast k (by omega)) ?_
        exact TE.again (x := k) (k + 1) ⟨by omega, hI.trans (by subst hr1; rw [hd]; exact cond_f h2 (rfl))⟩ (by show s.length - (k + 1) < s.length - k; omega) (by kernel_rfl) (.slnil)
    · have hd : s.drop k = [] := List.drop_eq_nil_of_le (by have := of_decide_eq_false h1; first | omega | (simp at this; omega))
      refine TC.exit ?_
      refine TE.exit_then (TE.exit_then (TE.exit_same ?_))
      exact TE.cut () (hI.trans (by rw [hd]; exact rfl)) (by kernel_rfl) (.slnil)
  · intro _ hJ
    refine TE.next ?_
    refine TC.seq ?_
    refine TC.region ?_
    refine TL.run 1 [] [(4, .int .i64 (-1))] rfl ⟨by kernel_rfl, by kernel_rfl⟩ ?_
    refine TL.next rfl ?_
    refine TC.ret ?_
    have e : IndexFunc_pos s = (-1) := by unfold IndexFunc_pos; exact elim_l (hR.symm.trans hJ) (rfl)
    exact TE.ret [] (.int .i64 (-1)) ⟨by kernel_rfl, by kernel_rfl⟩ (by rw [e]; first | done | kernel_rfl)

def ContainsFunc_pos (s : List Int) : Bool :=
  let r1 := IndexFunc_pos s
  decide (r1 ≥ 0)

set_option maxRecDepth 100000 in
theorem ContainsFunc_pos_w (A_s : Option Addr) (c_s : Nat) (s : List Int) (w : World) (h_s : Rd w 1 A_s (s.map ic)) (hc_s : s.length ≤ c_s) : Calls Try.prog 20 #[.slice A_s s.length c_s, .func (.func 21) #[] #[]] w (Ret w (.bool (ContainsFunc_pos s))) := by
  have s_s := h_s.short; rw [List.length_map] at s_s
  refine calls_intro (vs := [.slice A_s s.length c_s, .func (.func 21) #[] #[]]) (w := w) Try.func20 rfl Try.ntmps20 rfl ?_
  refine TC.weak [(0, .slice A_s s.length c_s), (1, .func (.func 21) #[] #[])] (by kernel_rfl) ?_
  refine TC.seq ?_
  refine TC.region ?_
  refine TL.run 1 [] [(0, .slice A_s s.length c_s), (1, .func (.func 21) #[] #[])] rfl ⟨by kernel_rfl, by kernel_rfl⟩ ?_
  refine TL.next rfl ?_
  refine TC.seq ?_
  refine TC.region ?_
  refine TL.run 2 [] [(5, .slice A_s s.length c_s), (6, .func (.func 21) #[] #[])] rfl ⟨by kernel_rfl, by kernel_rfl⟩ ?_
  refine TL.call (some 7) [(7, .int .i64 (IndexFunc_pos s))] (fun w hM => IndexFunc_pos_w A_s c_s s w (h_s.sat hM) hc_s) (by kernel_rfl) (by kernel_rfl) ?_
  generalize hr1 : IndexFunc_pos s = r1
  refine TL.run 5 [] [(4, .bool (decide (r1 ≥ 0)))] rfl ⟨by kernel_rfl, by kernel_rfl⟩ ?_
  refine TL.next rfl ?_
  refine TC.ret ?_
  have e : ContainsFunc_pos s = (decide (r1 ≥ 0)) := by subst hr1; unfold ContainsFunc_pos; exact rfl
  exact TE.ret [] (.bool (decide (r1 ≥ 0))) ⟨by kernel_rfl, by kernel_rfl⟩ (by rw [e]; first | done | kernel_rfl)

def slices_Max_int_int_L1 (x : List Int) : Nat → Nat → Int → Int
  | 0, _, m_ => m_
  | m + 1, k, m_ => slices_Max_int_int_L1 x m (k + 1) (imax m_ (x[(1 + (k : Int)).toNat]?.getD 0))
def slices_Max_int_int (x : List Int) : Int :=
  cond (decide ((x.length : Int) < 1)) (
    0) (
    bindv (slices_Max_int_int_L1 x (x.length - 1) 0 (x[0]?.getD 0)) (fun m__2 =>
      m__2))

set_option maxRecDepth 100000 in
theorem slices_Max_int_int_w (A_x : Option Addr) (c_x : Nat) (x : List Int) (w : World) (h_x : Rd w 1 A_x (x.map ic)) (_hc_x : x.length ≤ c_x) (hp : 0 < x.length) : Calls Try.prog 22 #[.slice A_x x.length c_x] w (Ret w (.int .i64 (slices_Max_int_int x))) := by
  have s_x := h_x.short; rw [List.length_map] at s_x
  refine calls_intro (vs := [.slice A_x x.length c_x]) (w := w) Try.func22 rfl Try.ntmps22 rfl ?_
  refine TC.weak [(0, .slice A_x x.length c_x)] (by kernel_rfl) ?_
  refine TC.seq ?_
  refine TC.region ?_
  refine TL.run 1 [] [(0, .slice A_x x.length c_x)] rfl ⟨by kernel_rfl, by kernel_rfl⟩ ?_
  refine TL.next rfl ?_
  refine TC.seq ?_
  refine TC.seq ?_
  refine TC.region ?_
  refine TL.run 3 [] [(0, .slice A_x x.length c_x), (7, .bool (decide ((x.length : Int) < 1)))] rfl ⟨by kernel_rfl, by kernel_rfl⟩ ?_
  refine TL.next rfl ?_
  refine TC.cond (decide ((x.length : Int) < 1)) rfl (by kernel_rfl) (fun h1 => ?_) (fun h1 => ?_)
  · exact ((by have := dec_t h1; omega) : False).elim
  · refine TC.skip ?_
    refine TE.next ?_
    refine TC.seq ?_
    refine TC.region ?_
    refine TL.run 1 [] [(0, .slice A_x x.length c_x), (9, .slice A_x x.length c_x)] rfl ⟨by kernel_rfl, by kernel_rfl⟩ ?_
    refine TL.val (sV (Instr.indexAt 23 (.slice A_x x.length c_x) (.int .i64 0))) (some 10) (.pointer (some ((A_x.getD noAddr).add (0 * 1)))) [(0, .slice A_x x.length c_x), (10, .pointer (some ((A_x.getD noAddr).add (0 * 1))))] (fun w hM => run_index (h_x.sat hM) (by simp) (by kernel_rfl) (by have q0_ := (dec_f h1); first | omega | (simp only [List.length_set]; omega) | (dsimp only; omega) | (rw [List.length_drop]; omega) | (simp only [w64_eq]; omega) | exact (tm_in (by (first | (rw [w64_id (by omega)]; omega) | (simp only [w64_eq]; omega))) (by omega)).1 | exact (tm_in (by (first | (rw [w64_id (by omega)]; omega) | (simp only [w64_eq]; omega))) (by omega)).2.1 | exact (tm_in (by (first | (rw [w64_id (by omega)]; omega) | (simp only [w64_eq]; omega))) (by omega)).2.2 | (simp only [List.length_take] at *; omega) | (simp <;> omega)) (by have q0_ := (dec_f h1); first | omega | (simp only [List.length_set]; omega) | (dsimp only; omega) | (rw [List.length_drop]; omega) | (simp only [w64_eq]; omega) | exact (tm_in (by (first | (rw [w64_id (by omega)]; omega) | (simp only [w64_eq]; omega))) (by omega)).1 | exact (tm_in (by (first | (rw [w64_id (by omega)]; omega) | (simp only [w64_eq]; omega))) (by omega)).2.1 | exact (tm_in (by (first | (rw [w64_id (by omega)]; omega) | (simp only [w64_eq]; omega))) (by omega)).2.2 | (simp only [List.length_take] at *; omega) | (simp <;> omega))) (by kernel_rfl) (by kernel_rfl) ?_
    refine TL.val (sV (Instr.loadAt 3 (.pointer (some ((A_x.getD noAddr).add (0 * 1)))))) (some 11) (.int .i64 (x[0]?.getD 0)) [(0, .slice A_x x.length c_x), (11, .int .i64 (x[0]?.getD 0))] (fun w hM => run_load_one (off := 0) (i := 0) (.int .i64 (x[0]?.getD 0)) (h_x.sat hM) (map_at (getD_at _ _ 0 (by have q0_ := (dec_f h1); first | omega | (simp only [List.length_set]; omega) | (dsimp only; omega) | (rw [List.length_drop]; omega) | (simp only [w64_eq]; omega) | exact (tm_in (by (first | (rw [w64_id (by omega)]; omega) | (simp only [w64_eq]; omega))) (by omega)).1 | exact (tm_in (by (first | (rw [w64_id (by omega)]; omega) | (simp only [w64_eq]; omega))) (by omega)).2.1 | exact (tm_in (by (first | (rw [w64_id (by omega)]; omega) | (simp only [w64_eq]; omega))) (by omega)).2.2 | (simp only [List.length_take] at *; omega) | (simp <;> omega)))) (by kernel_rfl) (by kernel_rfl)) (by kernel_rfl) (by kernel_rfl) ?_
    refine TL.run 4 [] [(0, .slice A_x x.length c_x), (3, .int .i64 (x[0]?.getD 0))] rfl ⟨by kernel_rfl, by kernel_rfl⟩ ?_
    refine TL.next rfl ?_
    refine TC.seq ?_
    refine TC.seq ?_
    refine TC.region ?_
    refine TL.run 1 [] [(0, .slice A_x x.length c_x), (3, .int .i64 (x[0]?.getD 0)), (4, .int .i64 1)] rfl ⟨by kernel_rfl, by kernel_rfl⟩ ?_
    refine TL.next rfl ?_
    refine TC.weak [(0, .slice A_x x.length c_x), (3, .int .i64 (x[0]?.getD 0)), (4, .int .i64 1)] (by kernel_rfl) ?_
    obtain ⟨R1, hR⟩ : ∃ R, R = slices_Max_int_int_L1 x (x.length - 1) 0 (x[0]?.getD 0) := ⟨_, rfl⟩
    refine TC.cut (S := Int) (fun m__2 => [(3, .int .i64 m__2)]) (fun m__2 => []) (fun m__2 => R1 = m__2) ?_ ?_
    · refine TC.block ?_
      refine TC.rw 4 (.int .i64 1) (.int .i64 (1 + ((0 : Nat) : Int))) (by kernel_rfl) (int_eq (by have q0_ := (dec_f h1); first | omega | (rw [w64_id (by omega)]; omega) | (simp only [w64_eq]; omega))) ?_
      refine TC.weak [(0, .slice A_x x.length c_x), (3, .int .i64 (x[0]?.getD 0)), (4, .int .i64 (1 + ((0 : Nat) : Int)))] (by kernel_rfl) ?_
      refine TC.loop (X := Nat × Int) (fun (k, m_) => [(0, .slice A_x x.length c_x), (3, .int .i64 m_), (4, .int .i64 (1 + (k : Int)))]) (fun (k, m_) => []) (fun (k, m_) => (x.length - 1) - k) (fun (k, m_) => k ≤ (x.length - 1) ∧ R1 = slices_Max_int_int_L1 x ((x.length - 1) - k) k m_) ?_ (0, (x[0]?.getD 0)) ⟨Nat.zero_le _, hR⟩
      rintro ⟨k, m_⟩ ⟨hk, hI⟩
      refine TC.seq ?_
      refine TC.seq ?_
      refine TC.region ?_
      refine TL.run 4 [] [(0, .slice A_x x.length c_x), (3, .int .i64 m_), (4, .int .i64 (1 + (k : Int))), (15, .bool (decide ((1 + (k : Int)) < (x.length : Int))))] rfl ⟨by kernel_rfl, by kernel_rfl⟩ ?_
      refine TL.next rfl ?_
      refine TC.cond (decide ((1 + (k : Int)) < (x.length : Int))) rfl (by kernel_rfl) (fun h2 => ?_) (fun h2 => ?_)
      · have hlt : k < (x.length - 1) := by have q0_ := (dec_f h1); have p0_ := (dec_t h2); first | omega | (simp only [w64_eq] at *; omega)
        have hd : (x.length - 1) - k = ((x.length - 1) - (k + 1)) + 1 := by omega
        refine TC.skip ?_
        refine TE.next ?_
        refine TC.seq ?_
        refine TC.block ?_
        refine TC.region ?_
        refine TL.run 3 [] [(0, .slice A_x x.length c_x), (4, .int .i64 (1 + (k : Int))), (18, .int .i64 m_), (19, .slice A_x x.length c_x), (20, .int .i64 (1 + (k : Int)))] rfl ⟨by kernel_rfl, by kernel_rfl⟩ ?_
        refine TL.val (sV (Instr.indexAt 23 (.slice A_x x.length c_x) (.int .i64 (1 + (k : Int))))) (some 21) (.pointer (some ((A_x.getD noAddr).add ((1 + (k : Int)).toNat * 1)))) [(0, .slice A_x x.length c_x), (4, .int .i64 (1 + (k : Int))), (18, .int .i64 m_), (21, .pointer (some ((A_x.getD noAddr).add ((1 + (k : Int)).toNat * 1))))] (fun w hM => run_index (h_x.sat hM) (by simp) (by kernel_rfl) (by have q0_ := (dec_f h1); have q1_ := (dec_t h2); first | omega | (simp only [List.length_set]; omega) | (dsimp only; omega) | (rw [List.length_drop]; omega) | (simp only [w64_eq]; omega) | exact (tm_in (by (first | (rw [w64_id (by omega)]; omega) | (simp only [w64_eq]; omega))) (by omega)).1 | exact (tm_in (by (first | (rw [w64_id (by omega)]; omega) | (simp only [w64_eq]; omega))) (by omega)).2.1 | exact (tm_in (by (first | (rw [w64_id (by omega)]; omega) | (simp only [w64_eq]; omega))) (by omega)).2.2 | (simp only [List.length_take] at *; omega) | (simp <;> omega)) (by have q0_ := (dec_f h1); have q1_ := (dec_t h2); first | omega | (simp only [List.length_set]; omega) | (dsimp only; omega) | (rw [List.length_drop]; omega) | (simp only [w64_eq]; omega) | exact (tm_in (by (first | (rw [w64_id (by omega)]; omega) | (simp only [w64_eq]; omega))) (by omega)).1 | exact (tm_in (by (first | (rw [w64_id (by omega)]; omega) | (simp only [w64_eq]; omega))) (by omega)).2.1 | exact (tm_in (by (first | (rw [w64_id (by omega)]; omega) | (simp only [w64_eq]; omega))) (by omega)).2.2 | (simp only [List.length_take] at *; omega) | (simp <;> omega))) (by kernel_rfl) (by kernel_rfl) ?_
        refine TL.val (sV (Instr.loadAt 3 (.pointer (some ((A_x.getD noAddr).add ((1 + (k : Int)).toNat * 1)))))) (some 22) (.int .i64 (x[(1 + (k : Int)).toNat]?.getD 0)) [(0, .slice A_x x.length c_x), (4, .int .i64 (1 + (k : Int))), (18, .int .i64 m_), (22, .int .i64 (x[(1 + (k : Int)).toNat]?.getD 0))] (fun w hM => run_load_one (off := 0) (i := (1 + (k : Int)).toNat) (.int .i64 (x[(1 + (k : Int)).toNat]?.getD 0)) (h_x.sat hM) (map_at (getD_at _ _ 0 (by have q0_ := (dec_f h1); have q1_ := (dec_t h2); first | omega | (simp only [List.length_set]; omega) | (dsimp only; omega) | (rw [List.length_drop]; omega) | (simp only [w64_eq]; omega) | exact (tm_in (by (first | (rw [w64_id (by omega)]; omega) | (simp only [w64_eq]; omega))) (by omega)).1 | exact (tm_in (by (first | (rw [w64_id (by omega)]; omega) | (simp only [w64_eq]; omega))) (by omega)).2.1 | exact (tm_in (by (first | (rw [w64_id (by omega)]; omega) | (simp only [w64_eq]; omega))) (by omega)).2.2 | (simp only [List.length_take] at *; omega) | (simp <;> omega)))) (by kernel_rfl) (by kernel_rfl)) (by kernel_rfl) (by kernel_rfl) ?_
        refine TL.run 7 [] [(0, .slice A_x x.length c_x), (3, .int .i64 (imax m_ (x[(1 + (k : Int)).toNat]?.getD 0))), (4, .int .i64 (1 + (k : Int)))] rfl ⟨by kernel_rfl, by kernel_rfl⟩ ?_
        refine TL.done rfl ?_
        refine TE.normal_block ?_
        refine TE.next ?_
        refine TC.region ?_
        refine TL.run 3 [] [(0, .slice A_x x.length c_x), (3, .int .i64 (imax m_ (x[(1 + (k : Int)).toNat]?.getD 0))), (4, .int .i64 (w64 ((1 + (k : Int)) + 1)))] rfl ⟨by kernel_rfl, by kernel_rfl⟩ ?_
        refine TL.done rfl ?_
        refine TE.rw 4 (.int .i64 (w64 ((1 + (k : Int)) + 1))) (.int .i64 (1 + ((k + 1 : Nat) : Int))) (by kernel_rfl) (int_eq (by have q0_ := (dec_f h1); have q1_ := (dec_t h2); first | omega | (rw [w64_id (by omega)]; omega) | (simp only [w64_eq] at *; omega))) ?_
        exact TE.again (x := (k, m_)) (k + 1, imax m_ (x[(1 + (k : Int)).toNat]?.getD 0)) ⟨by omega, hI.trans (by rw [hd]; exact rfl)⟩ (by show (x.length - 1) - (k + 1) < (x.length - 1) - k; omega) (by kernel_rfl) (.slnil)
      · have hd : (x.length - 1) - k = 0 := by have q0_ := (dec_f h1); have p0_ := (dec_f h2); first | omega | (simp only [w64_eq] at *; omega)
        refine TC.exit ?_
        refine TE.exit_then (TE.exit_then (TE.exit_same ?_))
        exact TE.cut m_ (hI.trans (by rw [hd]; exact rfl)) (by kernel_rfl) (.slnil)
    · rintro m__2 hJ
      refine TE.next ?_
      refine TC.seq ?_
      refine TC.region ?_
      refine TL.run 2 [] [(2, .int .i64 m__2)] rfl ⟨by kernel_rfl, by kernel_rfl⟩ ?_
      refine TL.next rfl ?_
      refine TC.ret ?_
      have e : slices_Max_int_int x = m__2 := by unfold slices_Max_int_int; exact cond_f h1 (bindv_eq (hR.symm.trans hJ) (rfl))
      exact TE.ret [] (.int .i64 m__2) ⟨by kernel_rfl, by kernel_rfl⟩ (by rw [e]; first | done | kernel_rfl)

def slices_Index_int_int_L1 (v : Int) : List Int → Nat → ((Unit) ⊕ (Int))
  | [], _ => .inl ()
  | x :: xs, k => cond (v == x) (
      .inr (k : Int)) (
      slices_Index_int_int_L1 v xs (k + 1))
def slices_Index_int_int (s : List Int) (v : Int) : Int :=
  Sum.elim (fun _ =>
    (-1)) (fun r => r) (slices_Index_int_int_L1 v s 0)

set_option maxRecDepth 100000 in
theorem slices_Index_int_int_w (A_s : Option Addr) (c_s : Nat) (s : List Int) (v : Int) (w : World) (h_s : Rd w 1 A_s (s.map ic)) (_hc_s : s.length ≤ c_s) : Calls Try.prog 52 #[.slice A_s s.length c_s, .int .i64 v] w (Ret w (.int .i64 (slices_Index_int_int s v))) := by
  have s_s := h_s.short; rw [List.length_map] at s_s
  refine calls_intro (vs := [.slice A_s s.length c_s, .int .i64 v]) (w := w) Try.func52 rfl Try.ntmps52 rfl ?_
  refine TC.weak [(0, .slice A_s s.length c_s), (1, .int .i64 v)] (by kernel_rfl) ?_
  refine TC.seq ?_
  refine TC.region ?_
  refine TL.run 1 [] [(0, .slice A_s s.length c_s), (1, .int .i64 v)] rfl ⟨by kernel_rfl, by kernel_rfl⟩ ?_
  refine TL.next rfl ?_
  refine TC.seq ?_
  refine TC.seq ?_
  refine TC.region ?_
  refine TL.run 3 [] [(0, .slice A_s s.length c_s), (1, .int .i64 v), (7, .int .i64 (s.length : Int)), (8, .int .i64 0)] rfl ⟨by kernel_rfl, by kernel_rfl⟩ ?_
  refine TL.next rfl ?_
  refine TC.weak [(0, .slice A_s s.length c_s), (1, .int .i64 v), (7, .int .i64 (s.length : Int)), (8, .int .i64 0)] (by kernel_rfl) ?_
  obtain ⟨R1, hR⟩ : ∃ R, R = slices_Index_int_int_L1 v s 0 := ⟨_, rfl⟩
  refine TC.cut (S := Unit) (fun (_ : Unit) => []) (fun (_ : Unit) => []) (fun (_ : Unit) => R1 = .inl ()) ?_ ?_
  · refine TC.block ?_
    refine TC.loop (X := Nat) (fun k => [(0, .slice A_s s.length c_s), (1, .int .i64 v), (7, .int .i64 (s.length : Int)), (8, .int .i64 (k : Int))]) (fun k => []) (fun k => s.length - k) (fun k => k ≤ s.length ∧ R1 = slices_Index_int_int_L1 v (s.drop k) k) ?_ 0 ⟨Nat.zero_le _, hR⟩
    rintro k ⟨hk, hI⟩
    refine TC.seq ?_
    refine TC.region ?_
    refine TL.run 1 [] [(0, .slice A_s s.length c_s), (1, .int .i64 v), (7, .int .i64 (s.length : Int)), (8, .int .i64 (k : Int)), (9, .bool (decide ((k : Int) < (s.length : Int))))] rfl ⟨by kernel_rfl, by kernel_rfl⟩ ?_
    refine TL.next rfl ?_
    refine TC.seq ?_
    refine TC.cond (decide ((k : Int) < (s.length : Int))) rfl (by kernel_rfl) (fun h1 => ?_) (fun h1 => ?_)
    · have hlt : k < s.length := by have := of_decide_eq_true h1; first | omega | (simp at this; omega)
      obtain ⟨x, hx⟩ : ∃ e_, s[k]? = some e_ := ⟨_, List.getElem?_eq_getElem hlt⟩
      have hd := drop_at hx
      refine TC.skip ?_
      refine TE.next ?_
      refine TC.seq ?_
      refine TC.block ?_
      refine TC.seq ?_
      refine TC.region ?_
      refine TL.run 2 [] [(0, .slice A_s s.length c_s), (1, .int .i64 v), (5, .int .i64 (k : Int)), (7, .int .i64 (s.length : Int)), (8, .int .i64 (k : Int))] rfl ⟨by kernel_rfl, by kernel_rfl⟩ ?_
      refine TL.next rfl ?_
      refine TC.seq ?_
      refine TC.region ?_
      refine TL.run 3 [] [(0, .slice A_s s.length c_s), (1, .int .i64 v), (5, .int .i64 (k : Int)), (7, .int .i64 (s.length : Int)), (8, .int .i64 (k : Int)), (11, .int .i64 v), (12, .slice A_s s.length c_s), (13, .int .i64 (k : Int))] rfl ⟨by kernel_rfl, by kernel_rfl⟩ ?_
      refine TL.val (sV (Instr.indexAt 23 (.slice A_s s.length c_s) (.int .i64 (k : Int)))) (some 14) (.pointer (some ((A_s.getD noAddr).add (k * 1)))) [(0, .slice A_s s.length c_s), (1, .int .i64 v), (5, .int .i64 (k : Int)), (7, .int .i64 (s.length : Int)), (8, .int .i64 (k : Int)), (11, .int .i64 v), (14, .pointer (some ((A_s.getD noAddr).add (k * 1))))] (fun w hM => run_index (h_s.sat hM) (by simp) (by kernel_rfl) (by first | omega | (simp only [List.length_set]; omega) | (dsimp only; omega) | (rw [List.length_drop]; omega) | (simp only [w64_eq]; omega) | exact (tm_in (by (first | (rw [w64_id (by omega)]; omega) | (simp only [w64_eq]; omega))) (by omega)).1 | exact (tm_in (by (first | (rw [w64_id (by omega)]; omega) | (simp only [w64_eq]; omega))) (by omega)).2.1 | exact (tm_in (by (first | (rw [w64_id (by omega)]; omega) | (simp only [w64_eq]; omega))) (by omega)).2.2 | (simp only [List.length_take] at *; omega) | (simp <;> omega)) (by first | omega | (simp only [List.length_set]; omega) | (dsimp only; omega) | (rw [List.length_drop]; omega) | (simp only [w64_eq]; omega) | exact (tm_in (by (first | (rw [w64_id (by omega)]; omega) | (simp only [w64_eq]; omega))) (by omega)).1 | exact (tm_in (by (first | (rw [w64_id (by omega)]; omega) | (simp only [w64_eq]; omega))) (by omega)).2.1 | exact (tm_in (by (first | (rw [w64_id (by omega)]; omega) | (simp only [w64_eq]; omega))) (by omega)).2.2 | (simp only [List.length_take] at *; omega) | (simp <;> omega))) (by kernel_rfl) (by kernel_rfl) ?_
      refine TL.val (sV (Instr.loadAt 3 (.pointer (some ((A_s.getD noAddr).add (k * 1)))))) (some 15) (.int .i64 x) [(0, .slice A_s s.length c_s), (1, .int .i64 v), (5, .int .i64 (k : Int)), (7, .int .i64 (s.length : Int)), (8, .int .i64 (k : Int)), (11, .int .i64 v), (15, .int .i64 x)] (fun w hM => run_load_one (off := 0) (i := k) (.int .i64 x) (h_s.sat hM) (map_at hx) (by kernel_rfl) (by kernel_rfl)) (by kernel_rfl) (by kernel_rfl) ?_
      refine TL.run 6 [] [(0, .slice A_s s.length c_s), (1, .int .i64 v), (5, .int .i64 (k : Int)), (7, .int .i64 (s.length : Int)), (8, .int .i64 (k : Int)), (16, .bool (v == x))] rfl ⟨by kernel_rfl, by kernel_rfl⟩ ?_
      refine TL.next rfl ?_
      refine TC.cond (v == x) rfl (by kernel_rfl) (fun h2 => ?_) (fun h2 => ?_)
      · refine TC.seq ?_
        refine TC.region ?_
        refine TL.run 2 [] [(4, .int .i64 (k : Int))] rfl ⟨by kernel_rfl, by kernel_rfl⟩ ?_
        refine TL.next rfl ?_
        refine TC.ret ?_
        refine TE.ret_block (TE.ret_then (TE.ret_then (TE.ret_block (TE.ret_then (TE.ret_then ?_)))))
        have e : slices_Index_int_int s v = (k : Int) := by unfold slices_Index_int_int; exact elim_r (hR.symm.trans (hI.trans (by rw [hd]; exact cond_t h2 (rfl)))) rfl
        exact TE.ret [] (.int .i64 (k : Int)) ⟨by kernel_rfl, by kernel_rfl⟩ (by rw [e]; first | done | kernel_rfl)
      · refine TC.skip ?_
        refine TE.normal_block ?_
        refine TE.next ?_
        refine TC.region ?_
        refine TL.run 2 [] [(0, .slice A_s s.length c_s), (1, .int .i64 v), (7, .int .i64 (s.length : Int)), (8, .int .i64 (w64 ((k : Int) + 1)))] rfl ⟨by kernel_rfl, by kernel_rfl⟩ ?_
        refine TL.done rfl ?_
        refine TE.rw 8 (.int .i64 (w64 ((k : Int) + 1))) (.int .i64 ((k + 1 : Nat) : Int)) (by kernel_rfl) (w64_cast k (by omega)) ?_
        exact TE.again (x := k) (k + 1) ⟨by omega, hI.trans (by rw [hd]; exact cond_f h2 (rfl))⟩ (by show s.length - (k + 1) < s.length - k; omega) (by kernel_rfl) (.slnil)
    · have hd : s.drop k = [] := List.drop_eq_nil_of_le (by have := of_decide_eq_false h1; first | omega | (simp at this; omega))
      refine TC.exit ?_
      refine TE.exit_then (TE.exit_then (TE.exit_same ?_))
      exact TE.cut () (hI.trans (by rw [hd]; exact rfl)) (by kernel_rfl) (.slnil)
  · intro _ hJ
    refine TE.next ?_
    refine TC.seq ?_
    refine TC.region ?_
    refine TL.run 1 [] [(4, .int .i64 (-1))] rfl ⟨by kernel_rfl, by kernel_rfl⟩ ?_
    refine TL.next rfl ?_
    refine TC.ret ?_
    have e : slices_Index_int_int s v = (-1) := by unfold slices_Index_int_int; exact elim_l (hR.symm.trans hJ) (rfl)
    exact TE.ret [] (.int .i64 (-1)) ⟨by kernel_rfl, by kernel_rfl⟩ (by rw [e]; first | done | kernel_rfl)

def slices_Contains_int_int (s : List Int) (v : Int) : Bool :=
  let r1 := slices_Index_int_int s v
  decide (r1 ≥ 0)

set_option maxRecDepth 100000 in
theorem slices_Contains_int_int_w (A_s : Option Addr) (c_s : Nat) (s : List Int) (v : Int) (w : World) (h_s : Rd w 1 A_s (s.map ic)) (hc_s : s.length ≤ c_s) : Calls Try.prog 23 #[.slice A_s s.length c_s, .int .i64 v] w (Ret w (.bool (slices_Contains_int_int s v))) := by
  have s_s := h_s.short; rw [List.length_map] at s_s
  refine calls_intro (vs := [.slice A_s s.length c_s, .int .i64 v]) (w := w) Try.func23 rfl Try.ntmps23 rfl ?_
  refine TC.weak [(0, .slice A_s s.length c_s), (1, .int .i64 v)] (by kernel_rfl) ?_
  refine TC.seq ?_
  refine TC.region ?_
  refine TL.run 1 [] [(0, .slice A_s s.length c_s), (1, .int .i64 v)] rfl ⟨by kernel_rfl, by kernel_rfl⟩ ?_
  refine TL.next rfl ?_
  refine TC.seq ?_
  refine TC.region ?_
  refine TL.run 2 [] [(5, .slice A_s s.length c_s), (6, .int .i64 v)] rfl ⟨by kernel_rfl, by kernel_rfl⟩ ?_
  refine TL.call (some 7) [(7, .int .i64 (slices_Index_int_int s v))] (fun w hM => slices_Index_int_int_w A_s c_s s v w (h_s.sat hM) hc_s) (by kernel_rfl) (by kernel_rfl) ?_
  generalize hr1 : slices_Index_int_int s v = r1
  refine TL.run 5 [] [(4, .bool (decide (r1 ≥ 0)))] rfl ⟨by kernel_rfl, by kernel_rfl⟩ ?_
  refine TL.next rfl ?_
  refine TC.ret ?_
  have e : slices_Contains_int_int s v = (decide (r1 ≥ 0)) := by subst hr1; unfold slices_Contains_int_int; exact rfl
  exact TE.ret [] (.bool (decide (r1 ≥ 0))) ⟨by kernel_rfl, by kernel_rfl⟩ (by rw [e]; first | done | kernel_rfl)

def skywaykeep2_AssignMisses_L2 (r4 : List Int × Int × Int) : List Int → Nat → ((Unit) ⊕ (Bool))
  | [], _ => .inl ()
  | x_2 :: xs, k_2 => cond ((decide (x_2 ≥ 0)) && (decide (x_2 < 1073741824))) (
      let r7 := slices_Contains_int_int r4.1 (k_2 : Int)
      cond (!r7) (
        .inr false) (
        skywaykeep2_AssignMisses_L2 r4 xs (k_2 + 1))) (
      skywaykeep2_AssignMisses_L2 r4 xs (k_2 + 1))
def skywaykeep2_AssignMisses_L1 (r4 : List Int × Int × Int) : List (List Int) → Nat → ((Unit) ⊕ (Bool))
  | [], _ => .inl ()
  | x :: xs, k => cond (r4.2.2 == 0) (
      cond (decide ((r4.1[k]?.getD 0) < 0)) (
        let r5 := slices_Clone_int_int x
        let r6 := slices_Max_int_int (r5 ++ ([(-1)]))
        cond (decide (r6 ≥ 0)) (
          Sum.elim (fun _ =>
            skywaykeep2_AssignMisses_L1 r4 xs (k + 1)) (fun r => .inr r) (skywaykeep2_AssignMisses_L2 r4 x 0)) (
          skywaykeep2_AssignMisses_L1 r4 xs (k + 1))) (
        skywaykeep2_AssignMisses_L1 r4 xs (k + 1))) (
      skywaykeep2_AssignMisses_L1 r4 xs (k + 1))
def skywaykeep2_AssignMisses_L4 (r10 : List Int × Int × Int) : List Int → Nat → ((Unit) ⊕ (Bool))
  | [], _ => .inl ()
  | x_4 :: xs, k_4 => cond ((decide (x_4 ≥ 0)) && (decide (x_4 < 1073741824))) (
      let r13 := slices_Contains_int_int r10.1 (k_4 : Int)
      cond (!r13) (
        .inr false) (
        skywaykeep2_AssignMisses_L4 r10 xs (k_4 + 1))) (
      skywaykeep2_AssignMisses_L4 r10 xs (k_4 + 1))
def skywaykeep2_AssignMisses_L3 (r10 : List Int × Int × Int) : List (List Int) → Nat → ((Unit) ⊕ (Bool))
  | [], _ => .inl ()
  | x_3 :: xs, k_3 => cond (r10.2.2 == 0) (
      cond (decide ((r10.1[k_3]?.getD 0) < 0)) (
        let r11 := slices_Clone_int_int x_3
        let r12 := slices_Max_int_int (r11 ++ ([(-1)]))
        cond (decide (r12 ≥ 0)) (
          Sum.elim (fun _ =>
            skywaykeep2_AssignMisses_L3 r10 xs (k_3 + 1)) (fun r => .inr r) (skywaykeep2_AssignMisses_L4 r10 x_3 0)) (
          skywaykeep2_AssignMisses_L3 r10 xs (k_3 + 1))) (
        skywaykeep2_AssignMisses_L3 r10 xs (k_3 + 1))) (
      skywaykeep2_AssignMisses_L3 r10 xs (k_3 + 1))
def skywaykeep2_AssignMisses (costs : List (List Int)) : Bool :=
  let r1 := skywaykeep2_assigns
  cond (!r1) (
    false) (
    cond (decide ((costs.length : Int) > 8)) (
      let r2 := assign_Best (costs.take 8) 0
      cond (r2.2.2 != 0) (
        (r2.1.length : Int) == 0) (
        cond (r2.2.1 != 0) (
          false) (
          let r3 := ContainsFunc_pos r2.1
          cond r3 (
            false) (
            let r4 := assign_Best (costs.take 8) 1099511627776
            Sum.elim (fun _ =>
              r4.2.2 == 0) (fun r => r) (skywaykeep2_AssignMisses_L1 r4 (costs.take 8) 0))))) (
      let r8 := assign_Best costs 0
      cond (r8.2.2 != 0) (
        (r8.1.length : Int) == 0) (
        cond (r8.2.1 != 0) (
          false) (
          let r9 := ContainsFunc_pos r8.1
          cond r9 (
            false) (
            let r10 := assign_Best costs 1099511627776
            Sum.elim (fun _ =>
              r10.2.2 == 0) (fun r => r) (skywaykeep2_AssignMisses_L3 r10 costs 0))))))

theorem clone_len {x r : List Int} (h : slices_Clone_int_int x = r) : r.length = x.length := by subst h; rfl

set_option maxHeartbeats 4000000 in
set_option maxRecDepth 100000 in
theorem skywaykeep2_AssignMisses_w (A_costs : Option Addr) (c_costs : Nat) (costs : List (List Int)) (o_costs : List (Sl Int)) (w : World) (h_costs : Rd w 1 A_costs (o_costs.map Sl.c)) (hc_costs : costs.length ≤ c_costs) (hd_costs : ∀ s ∈ o_costs, s.rd w 1 ic) (he_costs : costs = o_costs.map Sl.l) : Calls Try.prog 5 #[.slice A_costs costs.length c_costs] w (Ret w (.bool (skywaykeep2_AssignMisses costs))) := by
  have s_costs := h_costs.short; rw [← sl_len he_costs] at s_costs
  refine calls_intro (vs := [.slice A_costs costs.length c_costs]) (w := w) Try.func5 rfl Try.ntmps5 rfl ?_
  refine TC.weak [(0, .slice A_costs costs.length c_costs)] (by kernel_rfl) ?_
  refine TC.seq ?_
  refine TC.region ?_
  refine TL.run 1 [] [(0, .slice A_costs costs.length c_costs)] rfl ⟨by kernel_rfl, by kernel_rfl⟩ ?_
  refine TL.next rfl ?_
  refine TC.seq ?_
  refine TC.seq ?_
  refine TC.region ?_
  refine TL.call (some 13) [(0, .slice A_costs costs.length c_costs), (13, .bool ((skywaykeep2_assigns)))] (fun w _ => skywaykeep2_assigns_w w) (by kernel_rfl) (by kernel_rfl) ?_
  generalize hr1 : skywaykeep2_assigns = r1
  refine TL.run 2 [] [(0, .slice A_costs costs.length c_costs), (14, .bool (!r1))] rfl ⟨by kernel_rfl, by kernel_rfl⟩ ?_
  refine TL.next rfl ?_
  refine TC.cond (!r1) rfl (by kernel_rfl) (fun h1 => ?_) (fun h1 => ?_)
  · refine TC.seq ?_
    refine TC.region ?_
    refine TL.run 1 [] [(2, .bool false)] rfl ⟨by kernel_rfl, by kernel_rfl⟩ ?_
    refine TL.next rfl ?_
    refine TC.ret ?_
    refine TE.ret_then ?_
    have e : skywaykeep2_AssignMisses costs = false := by subst hr1; unfold skywaykeep2_AssignMisses; exact cond_t h1 (rfl)
    exact TE.ret [] (.bool false) ⟨by kernel_rfl, by kernel_rfl⟩ (by rw [e]; first | done | kernel_rfl)
  · refine TC.skip ?_
    refine TE.next ?_
    refine TC.seq ?_
    refine TC.seq ?_
    refine TC.region ?_
    refine TL.run 3 [] [(0, .slice A_costs costs.length c_costs), (17, .bool (decide ((costs.length : Int) > 8)))] rfl ⟨by kernel_rfl, by kernel_rfl⟩ ?_
    refine TL.next rfl ?_
    refine TC.cond (decide ((costs.length : Int) > 8)) rfl (by kernel_rfl) (fun h2 => ?_) (fun h2 => ?_)
    · refine TC.region ?_
      refine TL.run 1 [] [(18, .slice A_costs costs.length c_costs)] rfl ⟨by kernel_rfl, by kernel_rfl⟩ ?_
      obtain ⟨A1, hA1⟩ : ∃ A0_, A0_ = (if c_costs = 0 then A_costs else A_costs.map (fun a => a.add (0 * 1))) := ⟨_, rfl⟩
      have hR1 : Rd w 1 A1 ((o_costs.take 8).map Sl.c) := by rw [hA1]; exact h_costs.cutMap 0 _ (sl_le he_costs hc_costs)
      have hC1 : (costs.take 8).length ≤ (c_costs - 0) := by simp only [List.length_take]; omega
      refine TL.val (sV (Instr.sliceAt 22 (.slice A_costs costs.length c_costs) none (some (.int .i64 8)) none)) (some 19) (.slice A1 ((costs.take 8).length) (c_costs - 0)) [(19, .slice A1 ((costs.take 8).length) (c_costs - 0))] (fun w hM => (run_slice 0 8 (by kernel_rfl) (.inl ⟨rfl, rfl⟩) (.inr ⟨_, _, rfl, (by have q0_ := (dec_t h2); (try have kb_ := best_len hr4 ‹(r4.2.2 == 0) = true›); (try have kc_ := best_len hr10 ‹(r10.2.2 == 0) = true›); (try have kg_ := know_b hr4 ‹(r4.2.2 == 0) = true›); (try have kg_ := know_b hr10 ‹(r10.2.2 == 0) = true›); (try have kx_ := know_at kg_ hx); (try have kx_ := know_at kg_ hx_3); (try have ky_ := kg_.c1); have kz_ : (costs.take 8).length ≤ 8 := List.length_take_le 8 costs; (try have kl_ := clone_len hr5); (try have kl_ := clone_len hr11); first | omega | (simp only [List.length_set]; omega) | (dsimp only; omega) | (rw [List.length_drop]; omega) | (simp only [w64_eq]; omega) | exact (tm_in (by (first | (rw [w64_id (by omega)]; omega) | (simp only [w64_eq]; omega))) (by omega)).1 | exact (tm_in (by (first | (rw [w64_id (by omega)]; omega) | (simp only [w64_eq]; omega))) (by omega)).2.1 | exact (tm_in (by (first | (rw [w64_id (by omega)]; omega) | (simp only [w64_eq]; omega))) (by omega)).2.2 | (simp only [List.length_take] at *; omega) | (simp <;> omega)), rfl⟩) (by have q0_ := (dec_t h2); (try have kb_ := best_len hr4 ‹(r4.2.2 == 0) = true›); (try have kc_ := best_len hr10 ‹(r10.2.2 == 0) = true›); (try have kg_ := know_b hr4 ‹(r4.2.2 == 0) = true›); (try have kg_ := know_b hr10 ‹(r10.2.2 == 0) = true›); (try have kx_ := know_at kg_ hx); (try have kx_ := know_at kg_ hx_3); (try have ky_ := kg_.c1); have kz_ : (costs.take 8).length ≤ 8 := List.length_take_le 8 costs; (try have kl_ := clone_len hr5); (try have kl_ := clone_len hr11); first | omega | (simp only [List.length_set]; omega) | (dsimp only; omega) | (rw [List.length_drop]; omega) | (simp only [w64_eq]; omega) | exact (tm_in (by (first | (rw [w64_id (by omega)]; omega) | (simp only [w64_eq]; omega))) (by omega)).1 | exact (tm_in (by (first | (rw [w64_id (by omega)]; omega) | (simp only [w64_eq]; omega))) (by omega)).2.1 | exact (tm_in (by (first | (rw [w64_id (by omega)]; omega) | (simp only [w64_eq]; omega))) (by omega)).2.2 | (simp only [List.length_take] at *; omega) | (simp <;> omega)) (by have q0_ := (dec_t h2); (try have kb_ := best_len hr4 ‹(r4.2.2 == 0) = true›); (try have kc_ := best_len hr10 ‹(r10.2.2 == 0) = true›); (try have kg_ := know_b hr4 ‹(r4.2.2 == 0) = true›); (try have kg_ := know_b hr10 ‹(r10.2.2 == 0) = true›); (try have kx_ := know_at kg_ hx); (try have kx_ := know_at kg_ hx_3); (try have ky_ := kg_.c1); have kz_ : (costs.take 8).length ≤ 8 := List.length_take_le 8 costs; (try have kl_ := clone_len hr5); (try have kl_ := clone_len hr11); first | omega | (simp only [List.length_set]; omega) | (dsimp only; omega) | (rw [List.length_drop]; omega) | (simp only [w64_eq]; omega) | exact (tm_in (by (first | (rw [w64_id (by omega)]; omega) | (simp only [w64_eq]; omega))) (by omega)).1 | exact (tm_in (by (first | (rw [w64_id (by omega)]; omega) | (simp only [w64_eq]; omega))) (by omega)).2.1 | exact (tm_in (by (first | (rw [w64_id (by omega)]; omega) | (simp only [w64_eq]; omega))) (by omega)).2.2 | (simp only [List.length_take] at *; omega) | (simp <;> omega))).trans (by rw [hA1]; have q0_ := (dec_t h2); (try have kb_ := best_len hr4 ‹(r4.2.2 == 0) = true›); (try have kc_ := best_len hr10 ‹(r10.2.2 == 0) = true›); (try have kg_ := know_b hr4 ‹(r4.2.2 == 0) = true›); (try have kg_ := know_b hr10 ‹(r10.2.2 == 0) = true›); (try have kx_ := know_at kg_ hx); (try have kx_ := know_at kg_ hx_3); (try have ky_ := kg_.c1); have kz_ : (costs.take 8).length ≤ 8 := List.length_take_le 8 costs; (try have kl_ := clone_len hr5); (try have kl_ := clone_len hr11); congr 3; first | (simp only [List.length_take] <;> omega) | (simp only [List.length_take] at * <;> omega))) (by kernel_rfl) (by kernel_rfl) ?_
      refine TL.run 3 [] [(0, .slice A1 ((costs.take 8).length) (c_costs - 0))] rfl ⟨by kernel_rfl, by kernel_rfl⟩ ?_
      refine TL.next rfl ?_
      refine TC.seq ?_
      refine TC.region ?_
      refine TL.run 1 [] [(0, .slice A1 ((costs.take 8).length) (c_costs - 0)), (21, .slice A1 ((costs.take 8).length) (c_costs - 0))] rfl ⟨by kernel_rfl, by kernel_rfl⟩ ?_
      refine TL.callN (Γ := (Option Addr × Nat)) (fun g => .tuple #[.slice g.1 (((assign_Best (costs.take 8) 0).1).length) g.2, .int .i64 ((assign_Best (costs.take 8) 0).2.1), .int .i64 ((assign_Best (costs.take 8) 0).2.2)]) (fun g => [.inr (Own g.1 g.2 3 1 (((assign_Best (costs.take 8) 0).1).map ic))]) (fun g => [.inr (Own g.1 g.2 3 1 (((assign_Best (costs.take 8) 0).1).map ic))]) (fun g => rfl) (some 22) (fun g => [(0, .slice A1 ((costs.take 8).length) (c_costs - 0)), (22, .tuple #[.slice g.1 (((assign_Best (costs.take 8) 0).1).length) g.2, .int .i64 ((assign_Best (costs.take 8) 0).2.1), .int .i64 ((assign_Best (costs.take 8) 0).2.2)])]) (fun w hM => assign_Best_w A1 (c_costs - 0) (costs.take 8) (o_costs.take 8) 0 w (hR1.sat hM) hC1 (fun s hs => ((sl_take hd_costs 8) s hs).sat hM) (hq_take he_costs 8)) (by kernel_rfl) (fun g => by kernel_rfl) ?_
      rintro ⟨A, c⟩
      generalize hr2 : assign_Best (costs.take 8) 0 = r2
      refine TL.know (fun w hM => hM.short_at 0 rfl) (fun s_r2_0 => ?_)
      refine TL.run 9 [] [(0, .slice A1 ((costs.take 8).length) (c_costs - 0)), (3, .slice A r2.1.length c), (4, .int .i64 r2.2.1), (5, .int .i64 r2.2.2)] rfl ⟨by kernel_rfl, by kernel_rfl⟩ ?_
      refine TL.next rfl ?_
      refine TC.seq ?_
      refine TC.seq ?_
      refine TC.region ?_
      refine TL.run 2 [] [(0, .slice A1 ((costs.take 8).length) (c_costs - 0)), (3, .slice A r2.1.length c), (4, .int .i64 r2.2.1), (27, .bool (r2.2.2 != 0))] rfl ⟨by kernel_rfl, by kernel_rfl⟩ ?_
      refine TL.next rfl ?_
      refine TC.cond (r2.2.2 != 0) rfl (by kernel_rfl) (fun h3 => ?_) (fun h3 => ?_)
      · refine TC.seq ?_
        refine TC.region ?_
        refine TL.run 4 [] [(2, .bool ((r2.1.length : Int) == 0))] rfl ⟨by kernel_rfl, by kernel_rfl⟩ ?_
        refine TL.next rfl ?_
        refine TC.ret ?_
        refine TE.ret_then ?_
        have e : skywaykeep2_AssignMisses costs = ((r2.1.length : Int) == 0) := by subst hr1 hr2; unfold skywaykeep2_AssignMisses; exact cond_f h1 (cond_t h2 (cond_t h3 (rfl)))
        exact TE.ret [] (.bool ((r2.1.length : Int) == 0)) ⟨by kernel_rfl, by kernel_rfl⟩ (by rw [e]; first | done | kernel_rfl)
      · refine TC.skip ?_
        refine TE.next ?_
        refine TC.seq ?_
        refine TC.seq ?_
        refine TC.region ?_
        refine TL.run 3 [] [(0, .slice A1 ((costs.take 8).length) (c_costs - 0)), (3, .slice A r2.1.length c), (33, .bool (r2.2.1 != 0))] rfl ⟨by kernel_rfl, by kernel_rfl⟩ ?_
        refine TL.split 33 (r2.2.1 != 0) (by kernel_rfl) (fun h4 => ?_) (fun h4 => ?_)
        · refine TL.run 6 [] [(0, .slice A1 ((costs.take 8).length) (c_costs - 0)), (36, .bool true)] rfl ⟨by kernel_rfl, by kernel_rfl⟩ ?_
          refine TL.next rfl ?_
          refine TC.condT rfl (by kernel_rfl) ?_
          refine TC.seq ?_
          refine TC.region ?_
          refine TL.run 1 [] [(2, .bool false)] rfl ⟨by kernel_rfl, by kernel_rfl⟩ ?_
          refine TL.next rfl ?_
          refine TC.ret ?_
          refine TE.ret_then ?_
          have e : skywaykeep2_AssignMisses costs = false := by subst hr1 hr2; unfold skywaykeep2_AssignMisses; exact cond_f h1 (cond_t h2 (cond_f h3 (cond_t h4 (rfl))))
          exact TE.ret [] (.bool false) ⟨by kernel_rfl, by kernel_rfl⟩ (by rw [e]; first | done | kernel_rfl)
        · refine TL.run 4 [] [(0, .slice A1 ((costs.take 8).length) (c_costs - 0)), (33, .bool false), (34, .slice A r2.1.length c)] rfl ⟨by kernel_rfl, by kernel_rfl⟩ ?_
          refine TL.call (some 35) [(0, .slice A1 ((costs.take 8).length) (c_costs - 0)), (33, .bool false), (35, .bool ((ContainsFunc_pos r2.1)))] (fun w hM => ContainsFunc_pos_w A c r2.1 w (hM.rd_at 0 rfl) (hM.le_at 0 rfl)) (by kernel_rfl) (by kernel_rfl) ?_
          generalize hr3 : ContainsFunc_pos r2.1 = r3
          refine TL.run 6 [] [(0, .slice A1 ((costs.take 8).length) (c_costs - 0)), (36, .bool r3)] rfl ⟨by kernel_rfl, by kernel_rfl⟩ ?_
          refine TL.next rfl ?_
          refine TC.cond r3 rfl (by kernel_rfl) (fun h5 => ?_) (fun h5 => ?_)
          · refine TC.seq ?_
            refine TC.region ?_
            refine TL.run 1 [] [(2, .bool false)] rfl ⟨by kernel_rfl, by kernel_rfl⟩ ?_
            refine TL.next rfl ?_
            refine TC.ret ?_
            refine TE.ret_then ?_
            have e : skywaykeep2_AssignMisses costs = false := by subst hr1 hr2 hr3; unfold skywaykeep2_AssignMisses; exact cond_f h1 (cond_t h2 (cond_f h3 (cond_f h4 (cond_t h5 (rfl)))))
            exact TE.ret [] (.bool false) ⟨by kernel_rfl, by kernel_rfl⟩ (by rw [e]; first | done | kernel_rfl)
          · refine TC.skip ?_
            refine TE.next ?_
            refine TC.seq ?_
            refine TC.region ?_
            refine TL.run 1 [] [(0, .slice A1 ((costs.take 8).length) (c_costs - 0)), (38, .slice A1 ((costs.take 8).length) (c_costs - 0))] rfl ⟨by kernel_rfl, by kernel_rfl⟩ ?_
            refine TL.callN (Γ := (Option Addr × Nat)) (fun g => .tuple #[.slice g.1 (((assign_Best (costs.take 8) 1099511627776).1).length) g.2, .int .i64 ((assign_Best (costs.take 8) 1099511627776).2.1), .int .i64 ((assign_Best (costs.take 8) 1099511627776).2.2)]) (fun g => [.inr (Own g.1 g.2 3 1 (((assign_Best (costs.take 8) 1099511627776).1).map ic))]) (fun g => [.inr (Own g.1 g.2 3 1 (((assign_Best (costs.take 8) 1099511627776).1).map ic)), .inr (Own A c 3 1 (r2.1.map ic))]) (fun g => rfl) (some 39) (fun g => [(0, .slice A1 ((costs.take 8).length) (c_costs - 0)), (39, .tuple #[.slice g.1 (((assign_Best (costs.take 8) 1099511627776).1).length) g.2, .int .i64 ((assign_Best (costs.take 8) 1099511627776).2.1), .int .i64 ((assign_Best (costs.take 8) 1099511627776).2.2)])]) (fun w hM => assign_Best_w A1 (c_costs - 0) (costs.take 8) (o_costs.take 8) 1099511627776 w (hR1.sat hM) hC1 (fun s hs => ((sl_take hd_costs 8) s hs).sat hM) (hq_take he_costs 8)) (by kernel_rfl) (fun g => by kernel_rfl) ?_
            rintro ⟨A_2, c_2⟩
            generalize hr4 : assign_Best (costs.take 8) 1099511627776 = r4
            refine TL.know (fun w hM => hM.short_at 0 rfl) (fun s_r4_0 => ?_)
            refine TL.run 9 [] [(0, .slice A1 ((costs.take 8).length) (c_costs - 0)), (6, .slice A_2 r4.1.length c_2), (8, .int .i64 r4.2.2)] rfl ⟨by kernel_rfl, by kernel_rfl⟩ ?_
            refine TL.next rfl ?_
            refine TC.seq ?_
            refine TC.seq ?_
            refine TC.region ?_
            refine TL.run 3 [] [(6, .slice A_2 r4.1.length c_2), (8, .int .i64 r4.2.2), (43, .slice A1 ((costs.take 8).length) (c_costs - 0)), (44, .int .i64 ((costs.take 8).length : Int)), (45, .int .i64 0)] rfl ⟨by kernel_rfl, by kernel_rfl⟩ ?_
            refine TL.next rfl ?_
            refine TC.weak [(6, .slice A_2 r4.1.length c_2), (8, .int .i64 r4.2.2), (43, .slice A1 ((costs.take 8).length) (c_costs - 0)), (44, .int .i64 ((costs.take 8).length : Int)), (45, .int .i64 0)] (by kernel_rfl) ?_
            refine TC.forget [.inr (Own A_2 c_2 3 1 (r4.1.map ic))] (.cons_cons _ (.cons _ (.slnil))) ?_
            obtain ⟨R1, hR⟩ : ∃ R, R = skywaykeep2_AssignMisses_L1 r4 (costs.take 8) 0 := ⟨_, rfl⟩
            refine TC.cut (S := Unit) (fun (_ : Unit) => [(8, .int .i64 r4.2.2)]) (fun (_ : Unit) => []) (fun (_ : Unit) => R1 = .inl ()) ?_ ?_
            · refine TC.block ?_
              refine TC.loop (X := Nat) (fun k => [(6, .slice A_2 r4.1.length c_2), (8, .int .i64 r4.2.2), (43, .slice A1 ((costs.take 8).length) (c_costs - 0)), (44, .int .i64 ((costs.take 8).length : Int)), (45, .int .i64 (k : Int))]) (fun k => [.inr (Own A_2 c_2 3 1 (r4.1.map ic))]) (fun k => (costs.take 8).length - k) (fun k => k ≤ (costs.take 8).length ∧ R1 = skywaykeep2_AssignMisses_L1 r4 ((costs.take 8).drop k) k) ?_ 0 ⟨Nat.zero_le _, hR⟩
              rintro k ⟨hk, hI⟩
              refine TC.seq ?_
              refine TC.region ?_
              refine TL.run 1 [] [(6, .slice A_2 r4.1.length c_2), (8, .int .i64 r4.2.2), (43, .slice A1 ((costs.take 8).length) (c_costs - 0)), (44, .int .i64 ((costs.take 8).length : Int)), (45, .int .i64 (k : Int)), (46, .bool (decide ((k : Int) < ((costs.take 8).length : Int))))] rfl ⟨by kernel_rfl, by kernel_rfl⟩ ?_
              refine TL.next rfl ?_
              refine TC.seq ?_
              refine TC.cond (decide ((k : Int) < ((costs.take 8).length : Int))) rfl (by kernel_rfl) (fun h6 => ?_) (fun h6 => ?_)
              · have hlt : k < (costs.take 8).length := by have := of_decide_eq_true h6; first | omega | (simp at this; omega)
                obtain ⟨x, hx⟩ : ∃ e_, (costs.take 8)[k]? = some e_ := ⟨_, List.getElem?_eq_getElem hlt⟩
                have hd := drop_at hx
                refine TC.skip ?_
                refine TE.next ?_
                refine TC.seq ?_
                refine TC.block ?_
                refine TC.seq ?_
                refine TC.region ?_
                refine TL.run 1 [] [(6, .slice A_2 r4.1.length c_2), (8, .int .i64 r4.2.2), (43, .slice A1 ((costs.take 8).length) (c_costs - 0)), (44, .int .i64 ((costs.take 8).length : Int)), (45, .int .i64 (k : Int)), (47, .int .i64 (k : Int))] rfl ⟨by kernel_rfl, by kernel_rfl⟩ ?_
                refine TL.val (sV (Instr.indexAt 22 (.slice A1 ((costs.take 8).length) (c_costs - 0)) (.int .i64 (k : Int)))) (some 48) (.pointer (some ((A1.getD noAddr).add (k * 1)))) [(6, .slice A_2 r4.1.length c_2), (8, .int .i64 r4.2.2), (43, .slice A1 ((costs.take 8).length) (c_costs - 0)), (44, .int .i64 ((costs.take 8).length : Int)), (45, .int .i64 (k : Int)), (47, .int .i64 (k : Int)), (48, .pointer (some ((A1.getD noAddr).add (k * 1))))] (fun w hM => run_index (hR1.sat hM) (sl_len (hq_take he_costs 8)) (by kernel_rfl) (by have q0_ := (dec_t h2); have q1_ := (bne_f h3); have q2_ := (bne_f h4); (try have kb_ := best_len hr4 ‹(r4.2.2 == 0) = true›); (try have kc_ := best_len hr10 ‹(r10.2.2 == 0) = true›); (try have kg_ := know_b hr4 ‹(r4.2.2 == 0) = true›); (try have kg_ := know_b hr10 ‹(r10.2.2 == 0) = true›); (try have kx_ := know_at kg_ hx); (try have kx_ := know_at kg_ hx_3); (try have ky_ := kg_.c1); have kz_ : (costs.take 8).length ≤ 8 := List.length_take_le 8 costs; (try have kl_ := clone_len hr5); (try have kl_ := clone_len hr11); first | omega | (simp only [List.length_set]; omega) | (dsimp only; omega) | (rw [List.length_drop]; omega) | (simp only [w64_eq]; omega) | exact (tm_in (by (first | (rw [w64_id (by omega)]; omega) | (simp only [w64_eq]; omega))) (by omega)).1 | exact (tm_in (by (first | (rw [w64_id (by omega)]; omega) | (simp only [w64_eq]; omega))) (by omega)).2.1 | exact (tm_in (by (first | (rw [w64_id (by omega)]; omega) | (simp only [w64_eq]; omega))) (by omega)).2.2 | (simp only [List.length_take] at *; omega) | (simp <;> omega)) (by have q0_ := (dec_t h2); have q1_ := (bne_f h3); have q2_ := (bne_f h4); (try have kb_ := best_len hr4 ‹(r4.2.2 == 0) = true›); (try have kc_ := best_len hr10 ‹(r10.2.2 == 0) = true›); (try have kg_ := know_b hr4 ‹(r4.2.2 == 0) = true›); (try have kg_ := know_b hr10 ‹(r10.2.2 == 0) = true›); (try have kx_ := know_at kg_ hx); (try have kx_ := know_at kg_ hx_3); (try have ky_ := kg_.c1); have kz_ : (costs.take 8).length ≤ 8 := List.length_take_le 8 costs; (try have kl_ := clone_len hr5); (try have kl_ := clone_len hr11); first | omega | (simp only [List.length_set]; omega) | (dsimp only; omega) | (rw [List.length_drop]; omega) | (simp only [w64_eq]; omega) | exact (tm_in (by (first | (rw [w64_id (by omega)]; omega) | (simp only [w64_eq]; omega))) (by omega)).1 | exact (tm_in (by (first | (rw [w64_id (by omega)]; omega) | (simp only [w64_eq]; omega))) (by omega)).2.1 | exact (tm_in (by (first | (rw [w64_id (by omega)]; omega) | (simp only [w64_eq]; omega))) (by omega)).2.2 | (simp only [List.length_take] at *; omega) | (simp <;> omega))) (by kernel_rfl) (by kernel_rfl) ?_
                have s_s1 := (el_rd (sl_all (sl_take hd_costs 8) k) (sl_at (hq_take he_costs 8) hx)).short; rw [List.length_map] at s_s1
                refine TL.val (sV (Instr.loadAt 23 (.pointer (some ((A1.getD noAddr).add (k * 1)))))) (some 49) (.slice (((o_costs.take 8)[k]?.getD Sl.zero).A) x.length (((o_costs.take 8)[k]?.getD Sl.zero).cap)) [(6, .slice A_2 r4.1.length c_2), (8, .int .i64 r4.2.2), (43, .slice A1 ((costs.take 8).length) (c_costs - 0)), (44, .int .i64 ((costs.take 8).length : Int)), (45, .int .i64 (k : Int)), (47, .int .i64 (k : Int)), (49, .slice (((o_costs.take 8)[k]?.getD Sl.zero).A) x.length (((o_costs.take 8)[k]?.getD Sl.zero).cap))] (fun w hM => (by have h := run_load_one (P := Try.prog) (T := 23) (off := 0) (i := k) (.slice ((o_costs.take 8)[k]?.getD Sl.zero).A ((o_costs.take 8)[k]?.getD Sl.zero).l.length ((o_costs.take 8)[k]?.getD Sl.zero).cap) (hR1.sat hM) (map_at (getD_at _ _ Sl.zero (sl_lt (hq_take he_costs 8) (List.getElem?_eq_some_iff.1 hx).1))) (by kernel_rfl) (by kernel_rfl); rw [(sl_at (hq_take he_costs 8) hx)] at h; exact h)) (by kernel_rfl) (by kernel_rfl) ?_
                refine TL.run 5 [] [(6, .slice A_2 r4.1.length c_2), (8, .int .i64 r4.2.2), (9, .int .i64 (k : Int)), (10, .slice (((o_costs.take 8)[k]?.getD Sl.zero).A) x.length (((o_costs.take 8)[k]?.getD Sl.zero).cap)), (43, .slice A1 ((costs.take 8).length) (c_costs - 0)), (44, .int .i64 ((costs.take 8).length : Int)), (45, .int .i64 (k : Int))] rfl ⟨by kernel_rfl, by kernel_rfl⟩ ?_
                refine TL.next rfl ?_
                refine TC.seq ?_
                refine TC.region ?_
                refine TL.run 3 [] [(6, .slice A_2 r4.1.length c_2), (8, .int .i64 r4.2.2), (9, .int .i64 (k : Int)), (10, .slice (((o_costs.take 8)[k]?.getD Sl.zero).A) x.length (((o_costs.take 8)[k]?.getD Sl.zero).cap)), (43, .slice A1 ((costs.take 8).length) (c_costs - 0)), (44, .int .i64 ((costs.take 8).length : Int)), (45, .int .i64 (k : Int)), (52, .bool (r4.2.2 == 0))] rfl ⟨by kernel_rfl, by kernel_rfl⟩ ?_
                refine TL.split 52 (r4.2.2 == 0) (by kernel_rfl) (fun h7 => ?_) (fun h7 => ?_)
                · refine TL.run 5 [] [(6, .slice A_2 r4.1.length c_2), (8, .int .i64 r4.2.2), (10, .slice (((o_costs.take 8)[k]?.getD Sl.zero).A) x.length (((o_costs.take 8)[k]?.getD Sl.zero).cap)), (43, .slice A1 ((costs.take 8).length) (c_costs - 0)), (44, .int .i64 ((costs.take 8).length : Int)), (45, .int .i64 (k : Int)), (52, .bool true), (53, .slice A_2 r4.1.length c_2), (54, .int .i64 (k : Int))] rfl ⟨by kernel_rfl, by kernel_rfl⟩ ?_
                  refine TL.val (sV (Instr.indexAt 23 (.slice A_2 r4.1.length c_2) (.int .i64 (k : Int)))) (some 55) (.pointer (some ((A_2.getD noAddr).add (k * 1)))) [(6, .slice A_2 r4.1.length c_2), (8, .int .i64 r4.2.2), (10, .slice (((o_costs.take 8)[k]?.getD Sl.zero).A) x.length (((o_costs.take 8)[k]?.getD Sl.zero).cap)), (43, .slice A1 ((costs.take 8).length) (c_costs - 0)), (44, .int .i64 ((costs.take 8).length : Int)), (45, .int .i64 (k : Int)), (52, .bool true), (55, .pointer (some ((A_2.getD noAddr).add (k * 1))))] (fun w hM => run_index (hM.rd_at 0 rfl) (by simp) (by kernel_rfl) (by have q0_ := (dec_t h2); have q1_ := (bne_f h3); have q2_ := (bne_f h4); have q3_ := (beq_t h7); (try have kb_ := best_len hr4 ‹(r4.2.2 == 0) = true›); (try have kc_ := best_len hr10 ‹(r10.2.2 == 0) = true›); (try have kg_ := know_b hr4 ‹(r4.2.2 == 0) = true›); (try have kg_ := know_b hr10 ‹(r10.2.2 == 0) = true›); (try have kx_ := know_at kg_ hx); (try have kx_ := know_at kg_ hx_3); (try have ky_ := kg_.c1); have kz_ : (costs.take 8).length ≤ 8 := List.length_take_le 8 costs; (try have kl_ := clone_len hr5); (try have kl_ := clone_len hr11); first | omega | (simp only [List.length_set]; omega) | (dsimp only; omega) | (rw [List.length_drop]; omega) | (simp only [w64_eq]; omega) | exact (tm_in (by (first | (rw [w64_id (by omega)]; omega) | (simp only [w64_eq]; omega))) (by omega)).1 | exact (tm_in (by (first | (rw [w64_id (by omega)]; omega) | (simp only [w64_eq]; omega))) (by omega)).2.1 | exact (tm_in (by (first | (rw [w64_id (by omega)]; omega) | (simp only [w64_eq]; omega))) (by omega)).2.2 | (simp only [List.length_take] at *; omega) | (simp <;> omega)) (by have q0_ := (dec_t h2); have q1_ := (bne_f h3); have q2_ := (bne_f h4); have q3_ := (beq_t h7); (try have kb_ := best_len hr4 ‹(r4.2.2 == 0) = true›); (try have kc_ := best_len hr10 ‹(r10.2.2 == 0) = true›); (try have kg_ := know_b hr4 ‹(r4.2.2 == 0) = true›); (try have kg_ := know_b hr10 ‹(r10.2.2 == 0) = true›); (try have kx_ := know_at kg_ hx); (try have kx_ := know_at kg_ hx_3); (try have ky_ := kg_.c1); have kz_ : (costs.take 8).length ≤ 8 := List.length_take_le 8 costs; (try have kl_ := clone_len hr5); (try have kl_ := clone_len hr11); first | omega | (simp only [List.length_set]; omega) | (dsimp only; omega) | (rw [List.length_drop]; omega) | (simp only [w64_eq]; omega) | exact (tm_in (by (first | (rw [w64_id (by omega)]; omega) | (simp only [w64_eq]; omega))) (by omega)).1 | exact (tm_in (by (first | (rw [w64_id (by omega)]; omega) | (simp only [w64_eq]; omega))) (by omega)).2.1 | exact (tm_in (by (first | (rw [w64_id (by omega)]; omega) | (simp only [w64_eq]; omega))) (by omega)).2.2 | (simp only [List.length_take] at *; omega) | (simp <;> omega))) (by kernel_rfl) (by kernel_rfl) ?_
                  refine TL.val (sV (Instr.loadAt 3 (.pointer (some ((A_2.getD noAddr).add (k * 1)))))) (some 56) (.int .i64 (r4.1[k]?.getD 0)) [(6, .slice A_2 r4.1.length c_2), (8, .int .i64 r4.2.2), (10, .slice (((o_costs.take 8)[k]?.getD Sl.zero).A) x.length (((o_costs.take 8)[k]?.getD Sl.zero).cap)), (43, .slice A1 ((costs.take 8).length) (c_costs - 0)), (44, .int .i64 ((costs.take 8).length : Int)), (45, .int .i64 (k : Int)), (52, .bool true), (56, .int .i64 (r4.1[k]?.getD 0))] (fun w hM => run_load_one (off := 0) (i := k) (.int .i64 (r4.1[k]?.getD 0)) (hM.rd_at 0 rfl) (map_at (getD_at _ _ 0 (by have q0_ := (dec_t h2); have q1_ := (bne_f h3); have q2_ := (bne_f h4); have q3_ := (beq_t h7); (try have kb_ := best_len hr4 ‹(r4.2.2 == 0) = true›); (try have kc_ := best_len hr10 ‹(r10.2.2 == 0) = true›); (try have kg_ := know_b hr4 ‹(r4.2.2 == 0) = true›); (try have kg_ := know_b hr10 ‹(r10.2.2 == 0) = true›); (try have kx_ := know_at kg_ hx); (try have kx_ := know_at kg_ hx_3); (try have ky_ := kg_.c1); have kz_ : (costs.take 8).length ≤ 8 := List.length_take_le 8 costs; (try have kl_ := clone_len hr5); (try have kl_ := clone_len hr11); first | omega | (simp only [List.length_set]; omega) | (dsimp only; omega) | (rw [List.length_drop]; omega) | (simp only [w64_eq]; omega) | exact (tm_in (by (first | (rw [w64_id (by omega)]; omega) | (simp only [w64_eq]; omega))) (by omega)).1 | exact (tm_in (by (first | (rw [w64_id (by omega)]; omega) | (simp only [w64_eq]; omega))) (by omega)).2.1 | exact (tm_in (by (first | (rw [w64_id (by omega)]; omega) | (simp only [w64_eq]; omega))) (by omega)).2.2 | (simp only [List.length_take] at *; omega) | (simp <;> omega)))) (by kernel_rfl) (by kernel_rfl)) (by kernel_rfl) (by kernel_rfl) ?_
                  refine TL.run 10 [] [(6, .slice A_2 r4.1.length c_2), (8, .int .i64 r4.2.2), (10, .slice (((o_costs.take 8)[k]?.getD Sl.zero).A) x.length (((o_costs.take 8)[k]?.getD Sl.zero).cap)), (43, .slice A1 ((costs.take 8).length) (c_costs - 0)), (44, .int .i64 ((costs.take 8).length : Int)), (45, .int .i64 (k : Int)), (59, .bool (decide ((r4.1[k]?.getD 0) < 0)))] rfl ⟨by kernel_rfl, by kernel_rfl⟩ ?_
                  refine TL.split 59 (decide ((r4.1[k]?.getD 0) < 0)) (by kernel_rfl) (fun h8 => ?_) (fun h8 => ?_)
                  · refine TL.run 11 [] [(6, .slice A_2 r4.1.length c_2), (8, .int .i64 r4.2.2), (10, .slice (((o_costs.take 8)[k]?.getD Sl.zero).A) x.length (((o_costs.take 8)[k]?.getD Sl.zero).cap)), (43, .slice A1 ((costs.take 8).length) (c_costs - 0)), (44, .int .i64 ((costs.take 8).length : Int)), (45, .int .i64 (k : Int)), (59, .bool true), (60, .slice (((o_costs.take 8)[k]?.getD Sl.zero).A) x.length (((o_costs.take 8)[k]?.getD Sl.zero).cap))] rfl ⟨by kernel_rfl, by kernel_rfl⟩ ?_
                    refine TL.callN (Γ := (Option Addr × Nat)) (fun g => .slice g.1 ((slices_Clone_int_int x).length) g.2) (fun g => [.inr (Own g.1 g.2 3 1 ((slices_Clone_int_int x).map ic))]) (fun g => [.inr (Own g.1 g.2 3 1 ((slices_Clone_int_int x).map ic)), .inr (Own A_2 c_2 3 1 (r4.1.map ic))]) (fun g => rfl) (some 61) (fun g => [(6, .slice A_2 r4.1.length c_2), (8, .int .i64 r4.2.2), (10, .slice (((o_costs.take 8)[k]?.getD Sl.zero).A) x.length (((o_costs.take 8)[k]?.getD Sl.zero).cap)), (43, .slice A1 ((costs.take 8).length) (c_costs - 0)), (44, .int .i64 ((costs.take 8).length : Int)), (45, .int .i64 (k : Int)), (59, .bool true), (61, .slice g.1 ((slices_Clone_int_int x).length) g.2)]) (fun w hM => slices_Clone_int_int_w (((o_costs.take 8)[k]?.getD Sl.zero).A) (((o_costs.take 8)[k]?.getD Sl.zero).cap) x w (el_rd ((sl_all (sl_take hd_costs 8) k).sat hM) (sl_at (hq_take he_costs 8) hx)) (el_le ((sl_all (sl_take hd_costs 8) k).sat hM) (sl_at (hq_take he_costs 8) hx)) (by have q0_ := (dec_t h2); have q1_ := (bne_f h3); have q2_ := (bne_f h4); have q3_ := (beq_t h7); have q4_ := (dec_t h8); (try have kb_ := best_len hr4 ‹(r4.2.2 == 0) = true›); (try have kc_ := best_len hr10 ‹(r10.2.2 == 0) = true›); (try have kg_ := know_b hr4 ‹(r4.2.2 == 0) = true›); (try have kg_ := know_b hr10 ‹(r10.2.2 == 0) = true›); (try have kx_ := know_at kg_ hx); (try have kx_ := know_at kg_ hx_3); (try have ky_ := kg_.c1); have kz_ : (costs.take 8).length ≤ 8 := List.length_take_le 8 costs; (try have kl_ := clone_len hr5); (try have kl_ := clone_len hr11); first | omega | (simp only [w64_eq]; omega) | (simp <;> omega))) (by kernel_rfl) (fun g => by kernel_rfl) ?_
                    rintro ⟨A_3, c_3⟩
                    generalize hr5 : slices_Clone_int_int x = r5
                    refine TL.know (fun w hM => hM.short_at 0 rfl) (fun s_r5_0 => ?_)
                    refine TL.write 0 (fun b1 => [(6, .slice A_2 r4.1.length c_2), (8, .int .i64 r4.2.2), (10, .slice (((o_costs.take 8)[k]?.getD Sl.zero).A) x.length (((o_costs.take 8)[k]?.getD Sl.zero).cap)), (43, .slice A1 ((costs.take 8).length) (c_costs - 0)), (44, .int .i64 ((costs.take 8).length : Int)), (45, .int .i64 (k : Int)), (59, .bool true), (61, .slice A_3 r5.length c_3), (62, .slice (some ⟨b1, 0, none⟩) 1 1)]) (fun b1 => [.inl (b1, .cells #[.int .i64 (-1)] 3 (0, 0)), .inr (Own A_3 c_3 3 1 (r5.map ic)), .inr (Own A_2 c_2 3 1 (r4.1.map ic))]) (fun b1 => ⟨by kernel_rfl, by kernel_rfl⟩) (fun b1 => ?_)
                    refine TL.opM (Γ := Option Addr × Nat) (sV (Builtin.append_ #[23, 23] 23 #[.slice A_3 r5.length c_3, .slice (some ⟨b1, 0, none⟩) 1 1])) (some 63) (fun g => .slice g.1 (r5 ++ ([(-1)])).length g.2) (fun g => [.inl (b1, .cells #[.int .i64 (-1)] 3 (0, 0)), .inr (Own g.1 g.2 3 1 ((r5 ++ ([(-1)])).map ic)), .inr (Own A_2 c_2 3 1 (r4.1.map ic))]) (fun g => [(6, .slice A_2 r4.1.length c_2), (8, .int .i64 r4.2.2), (10, .slice (((o_costs.take 8)[k]?.getD Sl.zero).A) x.length (((o_costs.take 8)[k]?.getD Sl.zero).cap)), (43, .slice A1 ((costs.take 8).length) (c_costs - 0)), (44, .int .i64 ((costs.take 8).length : Int)), (45, .int .i64 (k : Int)), (59, .bool true), (63, .slice g.1 ((r5 ++ ([(-1)])).length) g.2)]) (app_at (bytes := 8) 23 1 ([(-1)]) (by kernel_rfl) rfl rfl ic_one rfl (fun w hM => (Rd.lit hM 0 _ rfl (by kernel_rfl) (by kernel_rfl) (by kernel_rfl))) rfl (by have q0_ := (dec_t h2); have q1_ := (bne_f h3); have q2_ := (bne_f h4); have q3_ := (beq_t h7); have q4_ := (dec_t h8); (try have kb_ := best_len hr4 ‹(r4.2.2 == 0) = true›); (try have kc_ := best_len hr10 ‹(r10.2.2 == 0) = true›); (try have kg_ := know_b hr4 ‹(r4.2.2 == 0) = true›); (try have kg_ := know_b hr10 ‹(r10.2.2 == 0) = true›); (try have kx_ := know_at kg_ hx); (try have kx_ := know_at kg_ hx_3); (try have ky_ := kg_.c1); have kz_ : (costs.take 8).length ≤ 8 := List.length_take_le 8 costs; (try have kl_ := clone_len hr5); (try have kl_ := clone_len hr11); first | omega | (simp <;> omega) | (simp at * <;> omega))) (by kernel_rfl) (fun g => by kernel_rfl) ?_
                    rintro ⟨A_4, c_4⟩
                    refine TL.call (some 64) [(6, .slice A_2 r4.1.length c_2), (8, .int .i64 r4.2.2), (10, .slice (((o_costs.take 8)[k]?.getD Sl.zero).A) x.length (((o_costs.take 8)[k]?.getD Sl.zero).cap)), (43, .slice A1 ((costs.take 8).length) (c_costs - 0)), (44, .int .i64 ((costs.take 8).length : Int)), (45, .int .i64 (k : Int)), (59, .bool true), (64, .int .i64 (slices_Max_int_int (r5 ++ ([(-1)]))))] (fun w hM => slices_Max_int_int_w A_4 c_4 (r5 ++ ([(-1)])) w (hM.rd_at 1 rfl) (hM.le_at 1 rfl) (by have q0_ := (dec_t h2); have q1_ := (bne_f h3); have q2_ := (bne_f h4); have q3_ := (beq_t h7); have q4_ := (dec_t h8); (try have kb_ := best_len hr4 ‹(r4.2.2 == 0) = true›); (try have kc_ := best_len hr10 ‹(r10.2.2 == 0) = true›); (try have kg_ := know_b hr4 ‹(r4.2.2 == 0) = true›); (try have kg_ := know_b hr10 ‹(r10.2.2 == 0) = true›); (try have kx_ := know_at kg_ hx); (try have kx_ := know_at kg_ hx_3); (try have ky_ := kg_.c1); have kz_ : (costs.take 8).length ≤ 8 := List.length_take_le 8 costs; (try have kl_ := clone_len hr5); (try have kl_ := clone_len hr11); first | omega | (simp only [w64_eq]; omega) | (simp <;> omega))) (by kernel_rfl) (by kernel_rfl) ?_
                    generalize hr6 : slices_Max_int_int (r5 ++ ([(-1)])) = r6
                    refine TL.run 17 [] [(6, .slice A_2 r4.1.length c_2), (8, .int .i64 r4.2.2), (10, .slice (((o_costs.take 8)[k]?.getD Sl.zero).A) x.length (((o_costs.take 8)[k]?.getD Sl.zero).cap)), (43, .slice A1 ((costs.take 8).length) (c_costs - 0)), (44, .int .i64 ((costs.take 8).length : Int)), (45, .int .i64 (k : Int)), (66, .bool (decide (r6 ≥ 0)))] rfl ⟨by kernel_rfl, by kernel_rfl⟩ ?_
                    refine TL.next rfl ?_
                    refine TC.cond (decide (r6 ≥ 0)) rfl (by kernel_rfl) (fun h9 => ?_) (fun h9 => ?_)
                    · refine TC.seq ?_
                      refine TC.region ?_
                      refine TL.run 3 [] [(6, .slice A_2 r4.1.length c_2), (8, .int .i64 r4.2.2), (43, .slice A1 ((costs.take 8).length) (c_costs - 0)), (44, .int .i64 ((costs.take 8).length : Int)), (45, .int .i64 (k : Int)), (67, .slice (((o_costs.take 8)[k]?.getD Sl.zero).A) x.length (((o_costs.take 8)[k]?.getD Sl.zero).cap)), (68, .int .i64 (x.length : Int)), (69, .int .i64 0)] rfl ⟨by kernel_rfl, by kernel_rfl⟩ ?_
                      refine TL.next rfl ?_
                      refine TC.weak [(6, .slice A_2 r4.1.length c_2), (8, .int .i64 r4.2.2), (43, .slice A1 ((costs.take 8).length) (c_costs - 0)), (44, .int .i64 ((costs.take 8).length : Int)), (45, .int .i64 (k : Int)), (67, .slice (((o_costs.take 8)[k]?.getD Sl.zero).A) x.length (((o_costs.take 8)[k]?.getD Sl.zero).cap)), (68, .int .i64 (x.length : Int)), (69, .int .i64 0)] (by kernel_rfl) ?_
                      refine TC.forget [.inr (Own A_2 c_2 3 1 (r4.1.map ic))] (.cons _ (.cons _ (.cons_cons _ (.slnil)))) ?_
                      obtain ⟨R2, hR_2⟩ : ∃ R, R = skywaykeep2_AssignMisses_L2 r4 x 0 := ⟨_, rfl⟩
                      refine TC.cut (S := Unit) (fun (_ : Unit) => [(6, .slice A_2 r4.1.length c_2), (8, .int .i64 r4.2.2), (43, .slice A1 ((costs.take 8).length) (c_costs - 0)), (44, .int .i64 ((costs.take 8).length : Int)), (45, .int .i64 (k : Int))]) (fun (_ : Unit) => [.inr (Own A_2 c_2 3 1 (r4.1.map ic))]) (fun (_ : Unit) => R2 = .inl ()) ?_ ?_
                      · refine TC.block ?_
                        refine TC.loop (X := Nat) (fun k_2 => [(6, .slice A_2 r4.1.length c_2), (8, .int .i64 r4.2.2), (43, .slice A1 ((costs.take 8).length) (c_costs - 0)), (44, .int .i64 ((costs.take 8).length : Int)), (45, .int .i64 (k : Int)), (67, .slice (((o_costs.take 8)[k]?.getD Sl.zero).A) x.length (((o_costs.take 8)[k]?.getD Sl.zero).cap)), (68, .int .i64 (x.length : Int)), (69, .int .i64 (k_2 : Int))]) (fun k_2 => [.inr (Own A_2 c_2 3 1 (r4.1.map ic))]) (fun k_2 => x.length - k_2) (fun k_2 => k_2 ≤ x.length ∧ R2 = skywaykeep2_AssignMisses_L2 r4 (x.drop k_2) k_2) ?_ 0 ⟨Nat.zero_le _, hR_2⟩
                        rintro k_2 ⟨hk_2, hI_2⟩
                        refine TC.seq ?_
                        refine TC.region ?_
                        refine TL.run 1 [] [(6, .slice A_2 r4.1.length c_2), (8, .int .i64 r4.2.2), (43, .slice A1 ((costs.take 8).length) (c_costs - 0)), (44, .int .i64 ((costs.take 8).length : Int)), (45, .int .i64 (k : Int)), (67, .slice (((o_costs.take 8)[k]?.getD Sl.zero).A) x.length (((o_costs.take 8)[k]?.getD Sl.zero).cap)), (68, .int .i64 (x.length : Int)), (69, .int .i64 (k_2 : Int)), (70, .bool (decide ((k_2 : Int) < (x.length : Int))))] rfl ⟨by kernel_rfl, by kernel_rfl⟩ ?_
                        refine TL.next rfl ?_
                        refine TC.seq ?_
                        refine TC.cond (decide ((k_2 : Int) < (x.length : Int))) rfl (by kernel_rfl) (fun h10 => ?_) (fun h10 => ?_)
                        · have hlt_2 : k_2 < x.length := by have := of_decide_eq_true h10; first | omega | (simp at this; omega)
                          obtain ⟨x_2, hx_2⟩ : ∃ e_, x[k_2]? = some e_ := ⟨_, List.getElem?_eq_getElem hlt_2⟩
                          have hd_2 := drop_at hx_2
                          refine TC.skip ?_
                          refine TE.next ?_
                          refine TC.seq ?_
                          refine TC.block ?_
                          refine TC.seq ?_
                          refine TC.region ?_
                          refine TL.run 1 [] [(6, .slice A_2 r4.1.length c_2), (8, .int .i64 r4.2.2), (43, .slice A1 ((costs.take 8).length) (c_costs - 0)), (44, .int .i64 ((costs.take 8).length : Int)), (45, .int .i64 (k : Int)), (67, .slice (((o_costs.take 8)[k]?.getD Sl.zero).A) x.length (((o_costs.take 8)[k]?.getD Sl.zero).cap)), (68, .int .i64 (x.length : Int)), (69, .int .i64 (k_2 : Int)), (71, .int .i64 (k_2 : Int))] rfl ⟨by kernel_rfl, by kernel_rfl⟩ ?_
                          refine TL.val (sV (Instr.indexAt 23 (.slice (((o_costs.take 8)[k]?.getD Sl.zero).A) x.length (((o_costs.take 8)[k]?.getD Sl.zero).cap)) (.int .i64 (k_2 : Int)))) (some 72) (.pointer (some (((((o_costs.take 8)[k]?.getD Sl.zero).A).getD noAddr).add (k_2 * 1)))) [(6, .slice A_2 r4.1.length c_2), (8, .int .i64 r4.2.2), (43, .slice A1 ((costs.take 8).length) (c_costs - 0)), (44, .int .i64 ((costs.take 8).length : Int)), (45, .int .i64 (k : Int)), (67, .slice (((o_costs.take 8)[k]?.getD Sl.zero).A) x.length (((o_costs.take 8)[k]?.getD Sl.zero).cap)), (68, .int .i64 (x.length : Int)), (69, .int .i64 (k_2 : Int)), (71, .int .i64 (k_2 : Int)), (72, .pointer (some (((((o_costs.take 8)[k]?.getD Sl.zero).A).getD noAddr).add (k_2 * 1))))] (fun w hM => run_index (el_rd ((sl_all (sl_take hd_costs 8) k).sat hM) (sl_at (hq_take he_costs 8) hx)) (by simp) (by kernel_rfl) (by have q0_ := (dec_t h2); have q1_ := (bne_f h3); have q2_ := (bne_f h4); have q3_ := (beq_t h7); have q4_ := (dec_t h8); have q5_ := (dec_t h9); (try have kb_ := best_len hr4 ‹(r4.2.2 == 0) = true›); (try have kc_ := best_len hr10 ‹(r10.2.2 == 0) = true›); (try have kg_ := know_b hr4 ‹(r4.2.2 == 0) = true›); (try have kg_ := know_b hr10 ‹(r10.2.2 == 0) = true›); (try have kx_ := know_at kg_ hx); (try have kx_ := know_at kg_ hx_3); (try have ky_ := kg_.c1); have kz_ : (costs.take 8).length ≤ 8 := List.length_take_le 8 costs; (try have kl_ := clone_len hr5); (try have kl_ := clone_len hr11); first | omega | (simp only [List.length_set]; omega) | (dsimp only; omega) | (rw [List.length_drop]; omega) | (simp only [w64_eq]; omega) | exact (tm_in (by (first | (rw [w64_id (by omega)]; omega) | (simp only [w64_eq]; omega))) (by omega)).1 | exact (tm_in (by (first | (rw [w64_id (by omega)]; omega) | (simp only [w64_eq]; omega))) (by omega)).2.1 | exact (tm_in (by (first | (rw [w64_id (by omega)]; omega) | (simp only [w64_eq]; omega))) (by omega)).2.2 | (simp only [List.length_take] at *; omega) | (simp <;> omega)) (by have q0_ := (dec_t h2); have q1_ := (bne_f h3); have q2_ := (bne_f h4); have q3_ := (beq_t h7); have q4_ := (dec_t h8); have q5_ := (dec_t h9); (try have kb_ := best_len hr4 ‹(r4.2.2 == 0) = true›); (try have kc_ := best_len hr10 ‹(r10.2.2 == 0) = true›); (try have kg_ := know_b hr4 ‹(r4.2.2 == 0) = true›); (try have kg_ := know_b hr10 ‹(r10.2.2 == 0) = true›); (try have kx_ := know_at kg_ hx); (try have kx_ := know_at kg_ hx_3); (try have ky_ := kg_.c1); have kz_ : (costs.take 8).length ≤ 8 := List.length_take_le 8 costs; (try have kl_ := clone_len hr5); (try have kl_ := clone_len hr11); first | omega | (simp only [List.length_set]; omega) | (dsimp only; omega) | (rw [List.length_drop]; omega) | (simp only [w64_eq]; omega) | exact (tm_in (by (first | (rw [w64_id (by omega)]; omega) | (simp only [w64_eq]; omega))) (by omega)).1 | exact (tm_in (by (first | (rw [w64_id (by omega)]; omega) | (simp only [w64_eq]; omega))) (by omega)).2.1 | exact (tm_in (by (first | (rw [w64_id (by omega)]; omega) | (simp only [w64_eq]; omega))) (by omega)).2.2 | (simp only [List.length_take] at *; omega) | (simp <;> omega))) (by kernel_rfl) (by kernel_rfl) ?_
                          refine TL.val (sV (Instr.loadAt 3 (.pointer (some (((((o_costs.take 8)[k]?.getD Sl.zero).A).getD noAddr).add (k_2 * 1)))))) (some 73) (.int .i64 x_2) [(6, .slice A_2 r4.1.length c_2), (8, .int .i64 r4.2.2), (43, .slice A1 ((costs.take 8).length) (c_costs - 0)), (44, .int .i64 ((costs.take 8).length : Int)), (45, .int .i64 (k : Int)), (67, .slice (((o_costs.take 8)[k]?.getD Sl.zero).A) x.length (((o_costs.take 8)[k]?.getD Sl.zero).cap)), (68, .int .i64 (x.length : Int)), (69, .int .i64 (k_2 : Int)), (71, .int .i64 (k_2 : Int)), (73, .int .i64 x_2)] (fun w hM => run_load_one (off := 0) (i := k_2) (.int .i64 x_2) (el_rd ((sl_all (sl_take hd_costs 8) k).sat hM) (sl_at (hq_take he_costs 8) hx)) (map_at hx_2) (by kernel_rfl) (by kernel_rfl)) (by kernel_rfl) (by kernel_rfl) ?_
                          refine TL.run 5 [] [(6, .slice A_2 r4.1.length c_2), (8, .int .i64 r4.2.2), (11, .int .i64 (k_2 : Int)), (12, .int .i64 x_2), (43, .slice A1 ((costs.take 8).length) (c_costs - 0)), (44, .int .i64 ((costs.take 8).length : Int)), (45, .int .i64 (k : Int)), (67, .slice (((o_costs.take 8)[k]?.getD Sl.zero).A) x.length (((o_costs.take 8)[k]?.getD Sl.zero).cap)), (68, .int .i64 (x.length : Int)), (69, .int .i64 (k_2 : Int))] rfl ⟨by kernel_rfl, by kernel_rfl⟩ ?_
                          refine TL.next rfl ?_
                          refine TC.seq ?_
                          refine TC.region ?_
                          refine TL.run 3 [] [(6, .slice A_2 r4.1.length c_2), (8, .int .i64 r4.2.2), (11, .int .i64 (k_2 : Int)), (12, .int .i64 x_2), (43, .slice A1 ((costs.take 8).length) (c_costs - 0)), (44, .int .i64 ((costs.take 8).length : Int)), (45, .int .i64 (k : Int)), (67, .slice (((o_costs.take 8)[k]?.getD Sl.zero).A) x.length (((o_costs.take 8)[k]?.getD Sl.zero).cap)), (68, .int .i64 (x.length : Int)), (69, .int .i64 (k_2 : Int)), (76, .bool (decide (x_2 ≥ 0)))] rfl ⟨by kernel_rfl, by kernel_rfl⟩ ?_
                          refine TL.join 76 (decide (x_2 ≥ 0)) 6 [] [] (fun β => [(6, .slice A_2 r4.1.length c_2), (8, .int .i64 r4.2.2), (11, .int .i64 (k_2 : Int)), (43, .slice A1 ((costs.take 8).length) (c_costs - 0)), (44, .int .i64 ((costs.take 8).length : Int)), (45, .int .i64 (k : Int)), (67, .slice (((o_costs.take 8)[k]?.getD Sl.zero).A) x.length (((o_costs.take 8)[k]?.getD Sl.zero).cap)), (68, .int .i64 (x.length : Int)), (69, .int .i64 (k_2 : Int)), (79, .bool (β && (decide (x_2 < 1073741824))))]) (by kernel_rfl) rfl ⟨by kernel_rfl, by kernel_rfl⟩ ⟨by kernel_rfl, by kernel_rfl⟩ ?_
                          refine TL.run 7 [] [(6, .slice A_2 r4.1.length c_2), (8, .int .i64 r4.2.2), (11, .int .i64 (k_2 : Int)), (43, .slice A1 ((costs.take 8).length) (c_costs - 0)), (44, .int .i64 ((costs.take 8).length : Int)), (45, .int .i64 (k : Int)), (67, .slice (((o_costs.take 8)[k]?.getD Sl.zero).A) x.length (((o_costs.take 8)[k]?.getD Sl.zero).cap)), (68, .int .i64 (x.length : Int)), (69, .int .i64 (k_2 : Int)), (80, .bool ((decide (x_2 ≥ 0)) && (decide (x_2 < 1073741824))))] rfl ⟨by kernel_rfl, by kernel_rfl⟩ ?_
                          refine TL.split 80 ((decide (x_2 ≥ 0)) && (decide (x_2 < 1073741824))) (by kernel_rfl) (fun h11 => ?_) (fun h11 => ?_)
                          · refine TL.run 9 [] [(6, .slice A_2 r4.1.length c_2), (8, .int .i64 r4.2.2), (43, .slice A1 ((costs.take 8).length) (c_costs - 0)), (44, .int .i64 ((costs.take 8).length : Int)), (45, .int .i64 (k : Int)), (67, .slice (((o_costs.take 8)[k]?.getD Sl.zero).A) x.length (((o_costs.take 8)[k]?.getD Sl.zero).cap)), (68, .int .i64 (x.length : Int)), (69, .int .i64 (k_2 : Int)), (80, .bool true), (81, .slice A_2 r4.1.length c_2), (82, .int .i64 (k_2 : Int))] rfl ⟨by kernel_rfl, by kernel_rfl⟩ ?_
                            refine TL.call (some 83) [(6, .slice A_2 r4.1.length c_2), (8, .int .i64 r4.2.2), (43, .slice A1 ((costs.take 8).length) (c_costs - 0)), (44, .int .i64 ((costs.take 8).length : Int)), (45, .int .i64 (k : Int)), (67, .slice (((o_costs.take 8)[k]?.getD Sl.zero).A) x.length (((o_costs.take 8)[k]?.getD Sl.zero).cap)), (68, .int .i64 (x.length : Int)), (69, .int .i64 (k_2 : Int)), (80, .bool true), (83, .bool ((slices_Contains_int_int r4.1 (k_2 : Int))))] (fun w hM => slices_Contains_int_int_w A_2 c_2 r4.1 (k_2 : Int) w (hM.rd_at 0 rfl) (hM.le_at 0 rfl)) (by kernel_rfl) (by kernel_rfl) ?_
                            generalize hr7 : slices_Contains_int_int r4.1 (k_2 : Int) = r7
                            refine TL.run 12 [] [(6, .slice A_2 r4.1.length c_2), (8, .int .i64 r4.2.2), (43, .slice A1 ((costs.take 8).length) (c_costs - 0)), (44, .int .i64 ((costs.take 8).length : Int)), (45, .int .i64 (k : Int)), (67, .slice (((o_costs.take 8)[k]?.getD Sl.zero).A) x.length (((o_costs.take 8)[k]?.getD Sl.zero).cap)), (68, .int .i64 (x.length : Int)), (69, .int .i64 (k_2 : Int)), (85, .bool (!r7))] rfl ⟨by kernel_rfl, by kernel_rfl⟩ ?_
                            refine TL.next rfl ?_
                            refine TC.cond (!r7) rfl (by kernel_rfl) (fun h12 => ?_) (fun h12 => ?_)
                            · refine TC.seq ?_
                              refine TC.region ?_
                              refine TL.run 1 [] [(2, .bool false)] rfl ⟨by kernel_rfl, by kernel_rfl⟩ ?_
                              refine TL.next rfl ?_
                              refine TC.ret ?_
                              refine TE.ret_block (TE.ret_then (TE.ret_then (TE.ret_block (TE.ret_then (TE.ret_block (TE.ret_then (TE.ret_then (TE.ret_block (TE.ret_then (TE.ret_then ?_))))))))))
                              have e : skywaykeep2_AssignMisses costs = false := by subst hr1 hr2 hr3 hr4 hr5 hr6 hr7; unfold skywaykeep2_AssignMisses; exact cond_f h1 (cond_t h2 (cond_f h3 (cond_f h4 (cond_f h5 (elim_r (hR.symm.trans (hI.trans (by rw [hd]; exact cond_t h7 (cond_t h8 (cond_t h9 (elim_r (hR_2.symm.trans (hI_2.trans (by rw [hd_2]; exact cond_t h11 (cond_t h12 (rfl))))) rfl)))))) rfl)))))
                              exact TE.ret [] (.bool false) ⟨by kernel_rfl, by kernel_rfl⟩ (by rw [e]; first | done | kernel_rfl)
                            · refine TC.skip ?_
                              refine TE.normal_block ?_
                              refine TE.next ?_
                              refine TC.region ?_
                              refine TL.run 2 [] [(6, .slice A_2 r4.1.length c_2), (8, .int .i64 r4.2.2), (43, .slice A1 ((costs.take 8).length) (c_costs - 0)), (44, .int .i64 ((costs.take 8).length : Int)), (45, .int .i64 (k : Int)), (67, .slice (((o_costs.take 8)[k]?.getD Sl.zero).A) x.length (((o_costs.take 8)[k]?.getD Sl.zero).cap)), (68, .int .i64 (x.length : Int)), (69, .int .i64 (w64 ((k_2 : Int) + 1)))] rfl ⟨by kernel_rfl, by kernel_rfl⟩ ?_
                              refine TL.done rfl ?_
                              refine TE.rw 69 (.int .i64 (w64 ((k_2 : Int) + 1))) (.int .i64 ((k_2 + 1 : Nat) : Int)) (by kernel_rfl) (w64_cast k_2 (by (try have kb_ := best_len hr4 ‹(r4.2.2 == 0) = true›); (try have kc_ := best_len hr10 ‹(r10.2.2 == 0) = true›); (try have kg_ := know_b hr4 ‹(r4.2.2 == 0) = true›); (try have kg_ := know_b hr10 ‹(r10.2.2 == 0) = true›); (try have kx_ := know_at kg_ hx); (try have kx_ := know_at kg_ hx_3); (try have ky_ := kg_.c1); have kz_ : (costs.take 8).length ≤ 8 := List.length_take_le 8 costs; (try have kl_ := clone_len hr5); (try have kl_ := clone_len hr11); omega)) ?_
                              exact TE.again (x := k_2) (k_2 + 1) ⟨by omega, hI_2.trans (by subst hr1 hr2 hr3 hr4 hr5 hr6 hr7; rw [hd_2]; exact cond_t h11 (cond_f h12 (rfl)))⟩ (by show x.length - (k_2 + 1) < x.length - k_2; omega) (by kernel_rfl) (.cons_cons _ (.slnil))
                          · refine TL.run 12 [] [(6, .slice A_2 r4.1.length c_2), (8, .int .i64 r4.2.2), (43, .slice A1 ((costs.take 8).length) (c_costs - 0)), (44, .int .i64 ((costs.take 8).length : Int)), (45, .int .i64 (k : Int)), (67, .slice (((o_costs.take 8)[k]?.getD Sl.zero).A) x.length (((o_costs.take 8)[k]?.getD Sl.zero).cap)), (68, .int .i64 (x.length : Int)), (69, .int .i64 (k_2 : Int)), (85, .bool false)] rfl ⟨by kernel_rfl, by kernel_rfl⟩ ?_
                            refine TL.next rfl ?_
                            refine TC.condF rfl (by kernel_rfl) ?_
                            refine TC.skip ?_
                            refine TE.normal_block ?_
                            refine TE.next ?_
                            refine TC.region ?_
                            refine TL.run 2 [] [(6, .slice A_2 r4.1.length c_2), (8, .int .i64 r4.2.2), (43, .slice A1 ((costs.take 8).length) (c_costs - 0)), (44, .int .i64 ((costs.take 8).length : Int)), (45, .int .i64 (k : Int)), (67, .slice (((o_costs.take 8)[k]?.getD Sl.zero).A) x.length (((o_costs.take 8)[k]?.getD Sl.zero).cap)), (68, .int .i64 (x.length : Int)), (69, .int .i64 (w64 ((k_2 : Int) + 1)))] rfl ⟨by kernel_rfl, by kernel_rfl⟩ ?_
                            refine TL.done rfl ?_
                            refine TE.rw 69 (.int .i64 (w64 ((k_2 : Int) + 1))) (.int .i64 ((k_2 + 1 : Nat) : Int)) (by kernel_rfl) (w64_cast k_2 (by (try have kb_ := best_len hr4 ‹(r4.2.2 == 0) = true›); (try have kc_ := best_len hr10 ‹(r10.2.2 == 0) = true›); (try have kg_ := know_b hr4 ‹(r4.2.2 == 0) = true›); (try have kg_ := know_b hr10 ‹(r10.2.2 == 0) = true›); (try have kx_ := know_at kg_ hx); (try have kx_ := know_at kg_ hx_3); (try have ky_ := kg_.c1); have kz_ : (costs.take 8).length ≤ 8 := List.length_take_le 8 costs; (try have kl_ := clone_len hr5); (try have kl_ := clone_len hr11); omega)) ?_
                            exact TE.again (x := k_2) (k_2 + 1) ⟨by omega, hI_2.trans (by subst hr1 hr2 hr3 hr4 hr5 hr6; rw [hd_2]; exact cond_f h11 (rfl))⟩ (by show x.length - (k_2 + 1) < x.length - k_2; omega) (by kernel_rfl) (.cons_cons _ (.slnil))
                        · have hd_2 : x.drop k_2 = [] := List.drop_eq_nil_of_le (by have := of_decide_eq_false h10; first | omega | (simp at this; omega))
                          refine TC.exit ?_
                          refine TE.exit_then (TE.exit_then (TE.exit_same ?_))
                          exact TE.cut () (hI_2.trans (by subst hr1 hr2 hr3 hr4 hr5 hr6; rw [hd_2]; exact rfl)) (by kernel_rfl) (.cons_cons _ (.slnil))
                      · intro _ hJ_2
                        refine TE.normal_block ?_
                        refine TE.next ?_
                        refine TC.region ?_
                        refine TL.run 2 [] [(6, .slice A_2 r4.1.length c_2), (8, .int .i64 r4.2.2), (43, .slice A1 ((costs.take 8).length) (c_costs - 0)), (44, .int .i64 ((costs.take 8).length : Int)), (45, .int .i64 (w64 ((k : Int) + 1)))] rfl ⟨by kernel_rfl, by kernel_rfl⟩ ?_
                        refine TL.done rfl ?_
                        refine TE.rw 45 (.int .i64 (w64 ((k : Int) + 1))) (.int .i64 ((k + 1 : Nat) : Int)) (by kernel_rfl) (w64_cast k (by (try have kb_ := best_len hr4 ‹(r4.2.2 == 0) = true›); (try have kc_ := best_len hr10 ‹(r10.2.2 == 0) = true›); (try have kg_ := know_b hr4 ‹(r4.2.2 == 0) = true›); (try have kg_ := know_b hr10 ‹(r10.2.2 == 0) = true›); (try have kx_ := know_at kg_ hx); (try have kx_ := know_at kg_ hx_3); (try have ky_ := kg_.c1); have kz_ : (costs.take 8).length ≤ 8 := List.length_take_le 8 costs; (try have kl_ := clone_len hr5); (try have kl_ := clone_len hr11); omega)) ?_
                        exact TE.again (x := k) (k + 1) ⟨by omega, hI.trans (by subst hr1 hr2 hr3 hr4 hr5 hr6; rw [hd]; exact cond_t h7 (cond_t h8 (cond_t h9 (elim_l (hR_2.symm.trans hJ_2) (rfl)))))⟩ (by show (costs.take 8).length - (k + 1) < (costs.take 8).length - k; omega) (by kernel_rfl) (.cons_cons _ (.slnil))
                    · refine TC.skip ?_
                      refine TE.normal_block ?_
                      refine TE.next ?_
                      refine TC.region ?_
                      refine TL.run 2 [] [(6, .slice A_2 r4.1.length c_2), (8, .int .i64 r4.2.2), (43, .slice A1 ((costs.take 8).length) (c_costs - 0)), (44, .int .i64 ((costs.take 8).length : Int)), (45, .int .i64 (w64 ((k : Int) + 1)))] rfl ⟨by kernel_rfl, by kernel_rfl⟩ ?_
                      refine TL.done rfl ?_
                      refine TE.rw 45 (.int .i64 (w64 ((k : Int) + 1))) (.int .i64 ((k + 1 : Nat) : Int)) (by kernel_rfl) (w64_cast k (by (try have kb_ := best_len hr4 ‹(r4.2.2 == 0) = true›); (try have kc_ := best_len hr10 ‹(r10.2.2 == 0) = true›); (try have kg_ := know_b hr4 ‹(r4.2.2 == 0) = true›); (try have kg_ := know_b hr10 ‹(r10.2.2 == 0) = true›); (try have kx_ := know_at kg_ hx); (try have kx_ := know_at kg_ hx_3); (try have ky_ := kg_.c1); have kz_ : (costs.take 8).length ≤ 8 := List.length_take_le 8 costs; (try have kl_ := clone_len hr5); (try have kl_ := clone_len hr11); omega)) ?_
                      exact TE.again (x := k) (k + 1) ⟨by omega, hI.trans (by subst hr1 hr2 hr3 hr4 hr5 hr6; rw [hd]; exact cond_t h7 (cond_t h8 (cond_f h9 (rfl))))⟩ (by show (costs.take 8).length - (k + 1) < (costs.take 8).length - k; omega) (by kernel_rfl) (.cons _ (.cons _ (.cons_cons _ (.slnil))))
                  · refine TL.run 17 [] [(6, .slice A_2 r4.1.length c_2), (8, .int .i64 r4.2.2), (10, .slice (((o_costs.take 8)[k]?.getD Sl.zero).A) x.length (((o_costs.take 8)[k]?.getD Sl.zero).cap)), (43, .slice A1 ((costs.take 8).length) (c_costs - 0)), (44, .int .i64 ((costs.take 8).length : Int)), (45, .int .i64 (k : Int)), (66, .bool false)] rfl ⟨by kernel_rfl, by kernel_rfl⟩ ?_
                    refine TL.next rfl ?_
                    refine TC.condF rfl (by kernel_rfl) ?_
                    refine TC.skip ?_
                    refine TE.normal_block ?_
                    refine TE.next ?_
                    refine TC.region ?_
                    refine TL.run 2 [] [(6, .slice A_2 r4.1.length c_2), (8, .int .i64 r4.2.2), (43, .slice A1 ((costs.take 8).length) (c_costs - 0)), (44, .int .i64 ((costs.take 8).length : Int)), (45, .int .i64 (w64 ((k : Int) + 1)))] rfl ⟨by kernel_rfl, by kernel_rfl⟩ ?_
                    refine TL.done rfl ?_
                    refine TE.rw 45 (.int .i64 (w64 ((k : Int) + 1))) (.int .i64 ((k + 1 : Nat) : Int)) (by kernel_rfl) (w64_cast k (by (try have kb_ := best_len hr4 ‹(r4.2.2 == 0) = true›); (try have kc_ := best_len hr10 ‹(r10.2.2 == 0) = true›); (try have kg_ := know_b hr4 ‹(r4.2.2 == 0) = true›); (try have kg_ := know_b hr10 ‹(r10.2.2 == 0) = true›); (try have kx_ := know_at kg_ hx); (try have kx_ := know_at kg_ hx_3); (try have ky_ := kg_.c1); have kz_ : (costs.take 8).length ≤ 8 := List.length_take_le 8 costs; (try have kl_ := clone_len hr5); (try have kl_ := clone_len hr11); omega)) ?_
                    exact TE.again (x := k) (k + 1) ⟨by omega, hI.trans (by subst hr1 hr2 hr3 hr4; rw [hd]; exact cond_t h7 (cond_f h8 (rfl)))⟩ (by show (costs.take 8).length - (k + 1) < (costs.take 8).length - k; omega) (by kernel_rfl) (.cons_cons _ (.slnil))
                · refine TL.run 17 [] [(6, .slice A_2 r4.1.length c_2), (8, .int .i64 r4.2.2), (10, .slice (((o_costs.take 8)[k]?.getD Sl.zero).A) x.length (((o_costs.take 8)[k]?.getD Sl.zero).cap)), (43, .slice A1 ((costs.take 8).length) (c_costs - 0)), (44, .int .i64 ((costs.take 8).length : Int)), (45, .int .i64 (k : Int)), (66, .bool false)] rfl ⟨by kernel_rfl, by kernel_rfl⟩ ?_
                  refine TL.next rfl ?_
                  refine TC.condF rfl (by kernel_rfl) ?_
                  refine TC.skip ?_
                  refine TE.normal_block ?_
                  refine TE.next ?_
                  refine TC.region ?_
                  refine TL.run 2 [] [(6, .slice A_2 r4.1.length c_2), (8, .int .i64 r4.2.2), (43, .slice A1 ((costs.take 8).length) (c_costs - 0)), (44, .int .i64 ((costs.take 8).length : Int)), (45, .int .i64 (w64 ((k : Int) + 1)))] rfl ⟨by kernel_rfl, by kernel_rfl⟩ ?_
                  refine TL.done rfl ?_
                  refine TE.rw 45 (.int .i64 (w64 ((k : Int) + 1))) (.int .i64 ((k + 1 : Nat) : Int)) (by kernel_rfl) (w64_cast k (by (try have kb_ := best_len hr4 ‹(r4.2.2 == 0) = true›); (try have kc_ := best_len hr10 ‹(r10.2.2 == 0) = true›); (try have kg_ := know_b hr4 ‹(r4.2.2 == 0) = true›); (try have kg_ := know_b hr10 ‹(r10.2.2 == 0) = true›); (try have kx_ := know_at kg_ hx); (try have kx_ := know_at kg_ hx_3); (try have ky_ := kg_.c1); have kz_ : (costs.take 8).length ≤ 8 := List.length_take_le 8 costs; (try have kl_ := clone_len hr5); (try have kl_ := clone_len hr11); omega)) ?_
                  exact TE.again (x := k) (k + 1) ⟨by omega, hI.trans (by subst hr1 hr2 hr3 hr4; rw [hd]; exact cond_f h7 (rfl))⟩ (by show (costs.take 8).length - (k + 1) < (costs.take 8).length - k; omega) (by kernel_rfl) (.cons_cons _ (.slnil))
              · have hd : (costs.take 8).drop k = [] := List.drop_eq_nil_of_le (by have := of_decide_eq_false h6; first | omega | (simp at this; omega))
                refine TC.exit ?_
                refine TE.exit_then (TE.exit_then (TE.exit_same ?_))
                exact TE.cut () (hI.trans (by subst hr1 hr2 hr3 hr4; rw [hd]; exact rfl)) (by kernel_rfl) (.cons _ (.slnil))
            · intro _ hJ
              refine TE.next ?_
              refine TC.seq ?_
              refine TC.region ?_
              refine TL.run 3 [] [(2, .bool (r4.2.2 == 0))] rfl ⟨by kernel_rfl, by kernel_rfl⟩ ?_
              refine TL.next rfl ?_
              refine TC.ret ?_
              have e : skywaykeep2_AssignMisses costs = (r4.2.2 == 0) := by subst hr1 hr2 hr3 hr4; unfold skywaykeep2_AssignMisses; exact cond_f h1 (cond_t h2 (cond_f h3 (cond_f h4 (cond_f h5 (elim_l (hR.symm.trans hJ) (rfl))))))
              exact TE.ret [] (.bool (r4.2.2 == 0)) ⟨by kernel_rfl, by kernel_rfl⟩ (by rw [e]; first | done | kernel_rfl)
    · refine TC.skip ?_
      refine TE.next ?_
      refine TC.seq ?_
      refine TC.region ?_
      refine TL.run 1 [] [(0, .slice A_costs costs.length c_costs), (21, .slice A_costs costs.length c_costs)] rfl ⟨by kernel_rfl, by kernel_rfl⟩ ?_
      refine TL.callN (Γ := (Option Addr × Nat)) (fun g => .tuple #[.slice g.1 (((assign_Best costs 0).1).length) g.2, .int .i64 ((assign_Best costs 0).2.1), .int .i64 ((assign_Best costs 0).2.2)]) (fun g => [.inr (Own g.1 g.2 3 1 (((assign_Best costs 0).1).map ic))]) (fun g => [.inr (Own g.1 g.2 3 1 (((assign_Best costs 0).1).map ic))]) (fun g => rfl) (some 22) (fun g => [(0, .slice A_costs costs.length c_costs), (22, .tuple #[.slice g.1 (((assign_Best costs 0).1).length) g.2, .int .i64 ((assign_Best costs 0).2.1), .int .i64 ((assign_Best costs 0).2.2)])]) (fun w hM => assign_Best_w A_costs c_costs costs o_costs 0 w (h_costs.sat hM) hc_costs (fun s hs => (hd_costs s hs).sat hM) he_costs) (by kernel_rfl) (fun g => by kernel_rfl) ?_
      rintro ⟨A_5, c_5⟩
      generalize hr8 : assign_Best costs 0 = r8
      refine TL.know (fun w hM => hM.short_at 0 rfl) (fun s_r8_0 => ?_)
      refine TL.run 9 [] [(0, .slice A_costs costs.length c_costs), (3, .slice A_5 r8.1.length c_5), (4, .int .i64 r8.2.1), (5, .int .i64 r8.2.2)] rfl ⟨by kernel_rfl, by kernel_rfl⟩ ?_
      refine TL.next rfl ?_
      refine TC.seq ?_
      refine TC.seq ?_
      refine TC.region ?_
      refine TL.run 2 [] [(0, .slice A_costs costs.length c_costs), (3, .slice A_5 r8.1.length c_5), (4, .int .i64 r8.2.1), (27, .bool (r8.2.2 != 0))] rfl ⟨by kernel_rfl, by kernel_rfl⟩ ?_
      refine TL.next rfl ?_
      refine TC.cond (r8.2.2 != 0) rfl (by kernel_rfl) (fun h13 => ?_) (fun h13 => ?_)
      · refine TC.seq ?_
        refine TC.region ?_
        refine TL.run 4 [] [(2, .bool ((r8.1.length : Int) == 0))] rfl ⟨by kernel_rfl, by kernel_rfl⟩ ?_
        refine TL.next rfl ?_
        refine TC.ret ?_
        refine TE.ret_then ?_
        have e : skywaykeep2_AssignMisses costs = ((r8.1.length : Int) == 0) := by subst hr1 hr8; unfold skywaykeep2_AssignMisses; exact cond_f h1 (cond_f h2 (cond_t h13 (rfl)))
        exact TE.ret [] (.bool ((r8.1.length : Int) == 0)) ⟨by kernel_rfl, by kernel_rfl⟩ (by rw [e]; first | done | kernel_rfl)
      · refine TC.skip ?_
        refine TE.next ?_
        refine TC.seq ?_
        refine TC.seq ?_
        refine TC.region ?_
        refine TL.run 3 [] [(0, .slice A_costs costs.length c_costs), (3, .slice A_5 r8.1.length c_5), (33, .bool (r8.2.1 != 0))] rfl ⟨by kernel_rfl, by kernel_rfl⟩ ?_
        refine TL.split 33 (r8.2.1 != 0) (by kernel_rfl) (fun h14 => ?_) (fun h14 => ?_)
        · refine TL.run 6 [] [(0, .slice A_costs costs.length c_costs), (36, .bool true)] rfl ⟨by kernel_rfl, by kernel_rfl⟩ ?_
          refine TL.next rfl ?_
          refine TC.condT rfl (by kernel_rfl) ?_
          refine TC.seq ?_
          refine TC.region ?_
          refine TL.run 1 [] [(2, .bool false)] rfl ⟨by kernel_rfl, by kernel_rfl⟩ ?_
          refine TL.next rfl ?_
          refine TC.ret ?_
          refine TE.ret_then ?_
          have e : skywaykeep2_AssignMisses costs = false := by subst hr1 hr8; unfold skywaykeep2_AssignMisses; exact cond_f h1 (cond_f h2 (cond_f h13 (cond_t h14 (rfl))))
          exact TE.ret [] (.bool false) ⟨by kernel_rfl, by kernel_rfl⟩ (by rw [e]; first | done | kernel_rfl)
        · refine TL.run 4 [] [(0, .slice A_costs costs.length c_costs), (33, .bool false), (34, .slice A_5 r8.1.length c_5)] rfl ⟨by kernel_rfl, by kernel_rfl⟩ ?_
          refine TL.call (some 35) [(0, .slice A_costs costs.length c_costs), (33, .bool false), (35, .bool ((ContainsFunc_pos r8.1)))] (fun w hM => ContainsFunc_pos_w A_5 c_5 r8.1 w (hM.rd_at 0 rfl) (hM.le_at 0 rfl)) (by kernel_rfl) (by kernel_rfl) ?_
          generalize hr9 : ContainsFunc_pos r8.1 = r9
          refine TL.run 6 [] [(0, .slice A_costs costs.length c_costs), (36, .bool r9)] rfl ⟨by kernel_rfl, by kernel_rfl⟩ ?_
          refine TL.next rfl ?_
          refine TC.cond r9 rfl (by kernel_rfl) (fun h15 => ?_) (fun h15 => ?_)
          · refine TC.seq ?_
            refine TC.region ?_
            refine TL.run 1 [] [(2, .bool false)] rfl ⟨by kernel_rfl, by kernel_rfl⟩ ?_
            refine TL.next rfl ?_
            refine TC.ret ?_
            refine TE.ret_then ?_
            have e : skywaykeep2_AssignMisses costs = false := by subst hr1 hr8 hr9; unfold skywaykeep2_AssignMisses; exact cond_f h1 (cond_f h2 (cond_f h13 (cond_f h14 (cond_t h15 (rfl)))))
            exact TE.ret [] (.bool false) ⟨by kernel_rfl, by kernel_rfl⟩ (by rw [e]; first | done | kernel_rfl)
          · refine TC.skip ?_
            refine TE.next ?_
            refine TC.seq ?_
            refine TC.region ?_
            refine TL.run 1 [] [(0, .slice A_costs costs.length c_costs), (38, .slice A_costs costs.length c_costs)] rfl ⟨by kernel_rfl, by kernel_rfl⟩ ?_
            refine TL.callN (Γ := (Option Addr × Nat)) (fun g => .tuple #[.slice g.1 (((assign_Best costs 1099511627776).1).length) g.2, .int .i64 ((assign_Best costs 1099511627776).2.1), .int .i64 ((assign_Best costs 1099511627776).2.2)]) (fun g => [.inr (Own g.1 g.2 3 1 (((assign_Best costs 1099511627776).1).map ic))]) (fun g => [.inr (Own g.1 g.2 3 1 (((assign_Best costs 1099511627776).1).map ic)), .inr (Own A_5 c_5 3 1 (r8.1.map ic))]) (fun g => rfl) (some 39) (fun g => [(0, .slice A_costs costs.length c_costs), (39, .tuple #[.slice g.1 (((assign_Best costs 1099511627776).1).length) g.2, .int .i64 ((assign_Best costs 1099511627776).2.1), .int .i64 ((assign_Best costs 1099511627776).2.2)])]) (fun w hM => assign_Best_w A_costs c_costs costs o_costs 1099511627776 w (h_costs.sat hM) hc_costs (fun s hs => (hd_costs s hs).sat hM) he_costs) (by kernel_rfl) (fun g => by kernel_rfl) ?_
            rintro ⟨A_6, c_6⟩
            generalize hr10 : assign_Best costs 1099511627776 = r10
            refine TL.know (fun w hM => hM.short_at 0 rfl) (fun s_r10_0 => ?_)
            refine TL.run 9 [] [(0, .slice A_costs costs.length c_costs), (6, .slice A_6 r10.1.length c_6), (8, .int .i64 r10.2.2)] rfl ⟨by kernel_rfl, by kernel_rfl⟩ ?_
            refine TL.next rfl ?_
            refine TC.seq ?_
            refine TC.seq ?_
            refine TC.region ?_
            refine TL.run 3 [] [(6, .slice A_6 r10.1.length c_6), (8, .int .i64 r10.2.2), (43, .slice A_costs costs.length c_costs), (44, .int .i64 (costs.length : Int)), (45, .int .i64 0)] rfl ⟨by kernel_rfl, by kernel_rfl⟩ ?_
            refine TL.next rfl ?_
            refine TC.weak [(6, .slice A_6 r10.1.length c_6), (8, .int .i64 r10.2.2), (43, .slice A_costs costs.length c_costs), (44, .int .i64 (costs.length : Int)), (45, .int .i64 0)] (by kernel_rfl) ?_
            refine TC.forget [.inr (Own A_6 c_6 3 1 (r10.1.map ic))] (.cons_cons _ (.cons _ (.slnil))) ?_
            obtain ⟨R3, hR_3⟩ : ∃ R, R = skywaykeep2_AssignMisses_L3 r10 costs 0 := ⟨_, rfl⟩
            refine TC.cut (S := Unit) (fun (_ : Unit) => [(8, .int .i64 r10.2.2)]) (fun (_ : Unit) => []) (fun (_ : Unit) => R3 = .inl ()) ?_ ?_
            · refine TC.block ?_
              refine TC.loop (X := Nat) (fun k_3 => [(6, .slice A_6 r10.1.length c_6), (8, .int .i64 r10.2.2), (43, .slice A_costs costs.length c_costs), (44, .int .i64 (costs.length : Int)), (45, .int .i64 (k_3 : Int))]) (fun k_3 => [.inr (Own A_6 c_6 3 1 (r10.1.map ic))]) (fun k_3 => costs.length - k_3) (fun k_3 => k_3 ≤ costs.length ∧ R3 = skywaykeep2_AssignMisses_L3 r10 (costs.drop k_3) k_3) ?_ 0 ⟨Nat.zero_le _, hR_3⟩
              rintro k_3 ⟨hk_3, hI_3⟩
              refine TC.seq ?_
              refine TC.region ?_
              refine TL.run 1 [] [(6, .slice A_6 r10.1.length c_6), (8, .int .i64 r10.2.2), (43, .slice A_costs costs.length c_costs), (44, .int .i64 (costs.length : Int)), (45, .int .i64 (k_3 : Int)), (46, .bool (decide ((k_3 : Int) < (costs.length : Int))))] rfl ⟨by kernel_rfl, by kernel_rfl⟩ ?_
              refine TL.next rfl ?_
              refine TC.seq ?_
              refine TC.cond (decide ((k_3 : Int) < (costs.length : Int))) rfl (by kernel_rfl) (fun h16 => ?_) (fun h16 => ?_)
              · have hlt_3 : k_3 < costs.length := by have := of_decide_eq_true h16; first | omega | (simp at this; omega)
                obtain ⟨x_3, hx_3⟩ : ∃ e_, costs[k_3]? = some e_ := ⟨_, List.getElem?_eq_getElem hlt_3⟩
                have hd_3 := drop_at hx_3
                refine TC.skip ?_
                refine TE.next ?_
                refine TC.seq ?_
                refine TC.block ?_
                refine TC.seq ?_
                refine TC.region ?_
                refine TL.run 1 [] [(6, .slice A_6 r10.1.length c_6), (8, .int .i64 r10.2.2), (43, .slice A_costs costs.length c_costs), (44, .int .i64 (costs.length : Int)), (45, .int .i64 (k_3 : Int)), (47, .int .i64 (k_3 : Int))] rfl ⟨by kernel_rfl, by kernel_rfl⟩ ?_
                refine TL.val (sV (Instr.indexAt 22 (.slice A_costs costs.length c_costs) (.int .i64 (k_3 : Int)))) (some 48) (.pointer (some ((A_costs.getD noAddr).add (k_3 * 1)))) [(6, .slice A_6 r10.1.length c_6), (8, .int .i64 r10.2.2), (43, .slice A_costs costs.length c_costs), (44, .int .i64 (costs.length : Int)), (45, .int .i64 (k_3 : Int)), (47, .int .i64 (k_3 : Int)), (48, .pointer (some ((A_costs.getD noAddr).add (k_3 * 1))))] (fun w hM => run_index (h_costs.sat hM) (sl_len he_costs) (by kernel_rfl) (by have q0_ := (dec_f h2); have q1_ := (bne_f h13); have q2_ := (bne_f h14); (try have kb_ := best_len hr4 ‹(r4.2.2 == 0) = true›); (try have kc_ := best_len hr10 ‹(r10.2.2 == 0) = true›); (try have kg_ := know_b hr4 ‹(r4.2.2 == 0) = true›); (try have kg_ := know_b hr10 ‹(r10.2.2 == 0) = true›); (try have kx_ := know_at kg_ hx); (try have kx_ := know_at kg_ hx_3); (try have ky_ := kg_.c1); have kz_ : (costs.take 8).length ≤ 8 := List.length_take_le 8 costs; (try have kl_ := clone_len hr5); (try have kl_ := clone_len hr11); first | omega | (simp only [List.length_set]; omega) | (dsimp only; omega) | (rw [List.length_drop]; omega) | (simp only [w64_eq]; omega) | exact (tm_in (by (first | (rw [w64_id (by omega)]; omega) | (simp only [w64_eq]; omega))) (by omega)).1 | exact (tm_in (by (first | (rw [w64_id (by omega)]; omega) | (simp only [w64_eq]; omega))) (by omega)).2.1 | exact (tm_in (by (first | (rw [w64_id (by omega)]; omega) | (simp only [w64_eq]; omega))) (by omega)).2.2 | (simp only [List.length_take] at *; omega) | (simp <;> omega)) (by have q0_ := (dec_f h2); have q1_ := (bne_f h13); have q2_ := (bne_f h14); (try have kb_ := best_len hr4 ‹(r4.2.2 == 0) = true›); (try have kc_ := best_len hr10 ‹(r10.2.2 == 0) = true›); (try have kg_ := know_b hr4 ‹(r4.2.2 == 0) = true›); (try have kg_ := know_b hr10 ‹(r10.2.2 == 0) = true›); (try have kx_ := know_at kg_ hx); (try have kx_ := know_at kg_ hx_3); (try have ky_ := kg_.c1); have kz_ : (costs.take 8).length ≤ 8 := List.length_take_le 8 costs; (try have kl_ := clone_len hr5); (try have kl_ := clone_len hr11); first | omega | (simp only [List.length_set]; omega) | (dsimp only; omega) | (rw [List.length_drop]; omega) | (simp only [w64_eq]; omega) | exact (tm_in (by (first | (rw [w64_id (by omega)]; omega) | (simp only [w64_eq]; omega))) (by omega)).1 | exact (tm_in (by (first | (rw [w64_id (by omega)]; omega) | (simp only [w64_eq]; omega))) (by omega)).2.1 | exact (tm_in (by (first | (rw [w64_id (by omega)]; omega) | (simp only [w64_eq]; omega))) (by omega)).2.2 | (simp only [List.length_take] at *; omega) | (simp <;> omega))) (by kernel_rfl) (by kernel_rfl) ?_
                have s_s2 := (el_rd (sl_all hd_costs k_3) (sl_at he_costs hx_3)).short; rw [List.length_map] at s_s2
                refine TL.val (sV (Instr.loadAt 23 (.pointer (some ((A_costs.getD noAddr).add (k_3 * 1)))))) (some 49) (.slice ((o_costs[k_3]?.getD Sl.zero).A) x_3.length ((o_costs[k_3]?.getD Sl.zero).cap)) [(6, .slice A_6 r10.1.length c_6), (8, .int .i64 r10.2.2), (43, .slice A_costs costs.length c_costs), (44, .int .i64 (costs.length : Int)), (45, .int .i64 (k_3 : Int)), (47, .int .i64 (k_3 : Int)), (49, .slice ((o_costs[k_3]?.getD Sl.zero).A) x_3.length ((o_costs[k_3]?.getD Sl.zero).cap))] (fun w hM => (by have h := run_load_one (P := Try.prog) (T := 23) (off := 0) (i := k_3) (.slice (o_costs[k_3]?.getD Sl.zero).A (o_costs[k_3]?.getD Sl.zero).l.length (o_costs[k_3]?.getD Sl.zero).cap) (h_costs.sat hM) (map_at (getD_at _ _ Sl.zero (sl_lt he_costs (List.getElem?_eq_some_iff.1 hx_3).1))) (by kernel_rfl) (by kernel_rfl); rw [(sl_at he_costs hx_3)] at h; exact h)) (by kernel_rfl) (by kernel_rfl) ?_
                refine TL.run 5 [] [(6, .slice A_6 r10.1.length c_6), (8, .int .i64 r10.2.2), (9, .int .i64 (k_3 : Int)), (10, .slice ((o_costs[k_3]?.getD Sl.zero).A) x_3.length ((o_costs[k_3]?.getD Sl.zero).cap)), (43, .slice A_costs costs.length c_costs), (44, .int .i64 (costs.length : Int)), (45, .int .i64 (k_3 : Int))] rfl ⟨by kernel_rfl, by kernel_rfl⟩ ?_
                refine TL.next rfl ?_
                refine TC.seq ?_
                refine TC.region ?_
                refine TL.run 3 [] [(6, .slice A_6 r10.1.length c_6), (8, .int .i64 r10.2.2), (9, .int .i64 (k_3 : Int)), (10, .slice ((o_costs[k_3]?.getD Sl.zero).A) x_3.length ((o_costs[k_3]?.getD Sl.zero).cap)), (43, .slice A_costs costs.length c_costs), (44, .int .i64 (costs.length : Int)), (45, .int .i64 (k_3 : Int)), (52, .bool (r10.2.2 == 0))] rfl ⟨by kernel_rfl, by kernel_rfl⟩ ?_
                refine TL.split 52 (r10.2.2 == 0) (by kernel_rfl) (fun h17 => ?_) (fun h17 => ?_)
                · refine TL.run 5 [] [(6, .slice A_6 r10.1.length c_6), (8, .int .i64 r10.2.2), (10, .slice ((o_costs[k_3]?.getD Sl.zero).A) x_3.length ((o_costs[k_3]?.getD Sl.zero).cap)), (43, .slice A_costs costs.length c_costs), (44, .int .i64 (costs.length : Int)), (45, .int .i64 (k_3 : Int)), (52, .bool true), (53, .slice A_6 r10.1.length c_6), (54, .int .i64 (k_3 : Int))] rfl ⟨by kernel_rfl, by kernel_rfl⟩ ?_
                  refine TL.val (sV (Instr.indexAt 23 (.slice A_6 r10.1.length c_6) (.int .i64 (k_3 : Int)))) (some 55) (.pointer (some ((A_6.getD noAddr).add (k_3 * 1)))) [(6, .slice A_6 r10.1.length c_6), (8, .int .i64 r10.2.2), (10, .slice ((o_costs[k_3]?.getD Sl.zero).A) x_3.length ((o_costs[k_3]?.getD Sl.zero).cap)), (43, .slice A_costs costs.length c_costs), (44, .int .i64 (costs.length : Int)), (45, .int .i64 (k_3 : Int)), (52, .bool true), (55, .pointer (some ((A_6.getD noAddr).add (k_3 * 1))))] (fun w hM => run_index (hM.rd_at 0 rfl) (by simp) (by kernel_rfl) (by have q0_ := (dec_f h2); have q1_ := (bne_f h13); have q2_ := (bne_f h14); have q3_ := (beq_t h17); (try have kb_ := best_len hr4 ‹(r4.2.2 == 0) = true›); (try have kc_ := best_len hr10 ‹(r10.2.2 == 0) = true›); (try have kg_ := know_b hr4 ‹(r4.2.2 == 0) = true›); (try have kg_ := know_b hr10 ‹(r10.2.2 == 0) = true›); (try have kx_ := know_at kg_ hx); (try have kx_ := know_at kg_ hx_3); (try have ky_ := kg_.c1); have kz_ : (costs.take 8).length ≤ 8 := List.length_take_le 8 costs; (try have kl_ := clone_len hr5); (try have kl_ := clone_len hr11); first | omega | (simp only [List.length_set]; omega) | (dsimp only; omega) | (rw [List.length_drop]; omega) | (simp only [w64_eq]; omega) | exact (tm_in (by (first | (rw [w64_id (by omega)]; omega) | (simp only [w64_eq]; omega))) (by omega)).1 | exact (tm_in (by (first | (rw [w64_id (by omega)]; omega) | (simp only [w64_eq]; omega))) (by omega)).2.1 | exact (tm_in (by (first | (rw [w64_id (by omega)]; omega) | (simp only [w64_eq]; omega))) (by omega)).2.2 | (simp only [List.length_take] at *; omega) | (simp <;> omega)) (by have q0_ := (dec_f h2); have q1_ := (bne_f h13); have q2_ := (bne_f h14); have q3_ := (beq_t h17); (try have kb_ := best_len hr4 ‹(r4.2.2 == 0) = true›); (try have kc_ := best_len hr10 ‹(r10.2.2 == 0) = true›); (try have kg_ := know_b hr4 ‹(r4.2.2 == 0) = true›); (try have kg_ := know_b hr10 ‹(r10.2.2 == 0) = true›); (try have kx_ := know_at kg_ hx); (try have kx_ := know_at kg_ hx_3); (try have ky_ := kg_.c1); have kz_ : (costs.take 8).length ≤ 8 := List.length_take_le 8 costs; (try have kl_ := clone_len hr5); (try have kl_ := clone_len hr11); first | omega | (simp only [List.length_set]; omega) | (dsimp only; omega) | (rw [List.length_drop]; omega) | (simp only [w64_eq]; omega) | exact (tm_in (by (first | (rw [w64_id (by omega)]; omega) | (simp only [w64_eq]; omega))) (by omega)).1 | exact (tm_in (by (first | (rw [w64_id (by omega)]; omega) | (simp only [w64_eq]; omega))) (by omega)).2.1 | exact (tm_in (by (first | (rw [w64_id (by omega)]; omega) | (simp only [w64_eq]; omega))) (by omega)).2.2 | (simp only [List.length_take] at *; omega) | (simp <;> omega))) (by kernel_rfl) (by kernel_rfl) ?_
                  refine TL.val (sV (Instr.loadAt 3 (.pointer (some ((A_6.getD noAddr).add (k_3 * 1)))))) (some 56) (.int .i64 (r10.1[k_3]?.getD 0)) [(6, .slice A_6 r10.1.length c_6), (8, .int .i64 r10.2.2), (10, .slice ((o_costs[k_3]?.getD Sl.zero).A) x_3.length ((o_costs[k_3]?.getD Sl.zero).cap)), (43, .slice A_costs costs.length c_costs), (44, .int .i64 (costs.length : Int)), (45, .int .i64 (k_3 : Int)), (52, .bool true), (56, .int .i64 (r10.1[k_3]?.getD 0))] (fun w hM => run_load_one (off := 0) (i := k_3) (.int .i64 (r10.1[k_3]?.getD 0)) (hM.rd_at 0 rfl) (map_at (getD_at _ _ 0 (by have q0_ := (dec_f h2); have q1_ := (bne_f h13); have q2_ := (bne_f h14); have q3_ := (beq_t h17); (try have kb_ := best_len hr4 ‹(r4.2.2 == 0) = true›); (try have kc_ := best_len hr10 ‹(r10.2.2 == 0) = true›); (try have kg_ := know_b hr4 ‹(r4.2.2 == 0) = true›); (try have kg_ := know_b hr10 ‹(r10.2.2 == 0) = true›); (try have kx_ := know_at kg_ hx); (try have kx_ := know_at kg_ hx_3); (try have ky_ := kg_.c1); have kz_ : (costs.take 8).length ≤ 8 := List.length_take_le 8 costs; (try have kl_ := clone_len hr5); (try have kl_ := clone_len hr11); first | omega | (simp only [List.length_set]; omega) | (dsimp only; omega) | (rw [List.length_drop]; omega) | (simp only [w64_eq]; omega) | exact (tm_in (by (first | (rw [w64_id (by omega)]; omega) | (simp only [w64_eq]; omega))) (by omega)).1 | exact (tm_in (by (first | (rw [w64_id (by omega)]; omega) | (simp only [w64_eq]; omega))) (by omega)).2.1 | exact (tm_in (by (first | (rw [w64_id (by omega)]; omega) | (simp only [w64_eq]; omega))) (by omega)).2.2 | (simp only [List.length_take] at *; omega) | (simp <;> omega)))) (by kernel_rfl) (by kernel_rfl)) (by kernel_rfl) (by kernel_rfl) ?_
                  refine TL.run 10 [] [(6, .slice A_6 r10.1.length c_6), (8, .int .i64 r10.2.2), (10, .slice ((o_costs[k_3]?.getD Sl.zero).A) x_3.length ((o_costs[k_3]?.getD Sl.zero).cap)), (43, .slice A_costs costs.length c_costs), (44, .int .i64 (costs.length : Int)), (45, .int .i64 (k_3 : Int)), (59, .bool (decide ((r10.1[k_3]?.getD 0) < 0)))] rfl ⟨by kernel_rfl, by kernel_rfl⟩ ?_
                  refine TL.split 59 (decide ((r10.1[k_3]?.getD 0) < 0)) (by kernel_rfl) (fun h18 => ?_) (fun h18 => ?_)
                  · refine TL.run 11 [] [(6, .slice A_6 r10.1.length c_6), (8, .int .i64 r10.2.2), (10, .slice ((o_costs[k_3]?.getD Sl.zero).A) x_3.length ((o_costs[k_3]?.getD Sl.zero).cap)), (43, .slice A_costs costs.length c_costs), (44, .int .i64 (costs.length : Int)), (45, .int .i64 (k_3 : Int)), (59, .bool true), (60, .slice ((o_costs[k_3]?.getD Sl.zero).A) x_3.length ((o_costs[k_3]?.getD Sl.zero).cap))] rfl ⟨by kernel_rfl, by kernel_rfl⟩ ?_
                    refine TL.callN (Γ := (Option Addr × Nat)) (fun g => .slice g.1 ((slices_Clone_int_int x_3).length) g.2) (fun g => [.inr (Own g.1 g.2 3 1 ((slices_Clone_int_int x_3).map ic))]) (fun g => [.inr (Own g.1 g.2 3 1 ((slices_Clone_int_int x_3).map ic)), .inr (Own A_6 c_6 3 1 (r10.1.map ic))]) (fun g => rfl) (some 61) (fun g => [(6, .slice A_6 r10.1.length c_6), (8, .int .i64 r10.2.2), (10, .slice ((o_costs[k_3]?.getD Sl.zero).A) x_3.length ((o_costs[k_3]?.getD Sl.zero).cap)), (43, .slice A_costs costs.length c_costs), (44, .int .i64 (costs.length : Int)), (45, .int .i64 (k_3 : Int)), (59, .bool true), (61, .slice g.1 ((slices_Clone_int_int x_3).length) g.2)]) (fun w hM => slices_Clone_int_int_w ((o_costs[k_3]?.getD Sl.zero).A) ((o_costs[k_3]?.getD Sl.zero).cap) x_3 w (el_rd ((sl_all hd_costs k_3).sat hM) (sl_at he_costs hx_3)) (el_le ((sl_all hd_costs k_3).sat hM) (sl_at he_costs hx_3)) (by have q0_ := (dec_f h2); have q1_ := (bne_f h13); have q2_ := (bne_f h14); have q3_ := (beq_t h17); have q4_ := (dec_t h18); (try have kb_ := best_len hr4 ‹(r4.2.2 == 0) = true›); (try have kc_ := best_len hr10 ‹(r10.2.2 == 0) = true›); (try have kg_ := know_b hr4 ‹(r4.2.2 == 0) = true›); (try have kg_ := know_b hr10 ‹(r10.2.2 == 0) = true›); (try have kx_ := know_at kg_ hx); (try have kx_ := know_at kg_ hx_3); (try have ky_ := kg_.c1); have kz_ : (costs.take 8).length ≤ 8 := List.length_take_le 8 costs; (try have kl_ := clone_len hr5); (try have kl_ := clone_len hr11); first | omega | (simp only [w64_eq]; omega) | (simp <;> omega))) (by kernel_rfl) (fun g => by kernel_rfl) ?_
                    rintro ⟨A_7, c_7⟩
                    generalize hr11 : slices_Clone_int_int x_3 = r11
                    refine TL.know (fun w hM => hM.short_at 0 rfl) (fun s_r11_0 => ?_)
                    refine TL.write 0 (fun b2 => [(6, .slice A_6 r10.1.length c_6), (8, .int .i64 r10.2.2), (10, .slice ((o_costs[k_3]?.getD Sl.zero).A) x_3.length ((o_costs[k_3]?.getD Sl.zero).cap)), (43, .slice A_costs costs.length c_costs), (44, .int .i64 (costs.length : Int)), (45, .int .i64 (k_3 : Int)), (59, .bool true), (61, .slice A_7 r11.length c_7), (62, .slice (some ⟨b2, 0, none⟩) 1 1)]) (fun b2 => [.inl (b2, .cells #[.int .i64 (-1)] 3 (0, 0)), .inr (Own A_7 c_7 3 1 (r11.map ic)), .inr (Own A_6 c_6 3 1 (r10.1.map ic))]) (fun b2 => ⟨by kernel_rfl, by kernel_rfl⟩) (fun b2 => ?_)
                    refine TL.opM (Γ := Option Addr × Nat) (sV (Builtin.append_ #[23, 23] 23 #[.slice A_7 r11.length c_7, .slice (some ⟨b2, 0, none⟩) 1 1])) (some 63) (fun g => .slice g.1 (r11 ++ ([(-1)])).length g.2) (fun g => [.inl (b2, .cells #[.int .i64 (-1)] 3 (0, 0)), .inr (Own g.1 g.2 3 1 ((r11 ++ ([(-1)])).map ic)), .inr (Own A_6 c_6 3 1 (r10.1.map ic))]) (fun g => [(6, .slice A_6 r10.1.length c_6), (8, .int .i64 r10.2.2), (10, .slice ((o_costs[k_3]?.getD Sl.zero).A) x_3.length ((o_costs[k_3]?.getD Sl.zero).cap)), (43, .slice A_costs costs.length c_costs), (44, .int .i64 (costs.length : Int)), (45, .int .i64 (k_3 : Int)), (59, .bool true), (63, .slice g.1 ((r11 ++ ([(-1)])).length) g.2)]) (app_at (bytes := 8) 23 1 ([(-1)]) (by kernel_rfl) rfl rfl ic_one rfl (fun w hM => (Rd.lit hM 0 _ rfl (by kernel_rfl) (by kernel_rfl) (by kernel_rfl))) rfl (by have q0_ := (dec_f h2); have q1_ := (bne_f h13); have q2_ := (bne_f h14); have q3_ := (beq_t h17); have q4_ := (dec_t h18); (try have kb_ := best_len hr4 ‹(r4.2.2 == 0) = true›); (try have kc_ := best_len hr10 ‹(r10.2.2 == 0) = true›); (try have kg_ := know_b hr4 ‹(r4.2.2 == 0) = true›); (try have kg_ := know_b hr10 ‹(r10.2.2 == 0) = true›); (try have kx_ := know_at kg_ hx); (try have kx_ := know_at kg_ hx_3); (try have ky_ := kg_.c1); have kz_ : (costs.take 8).length ≤ 8 := List.length_take_le 8 costs; (try have kl_ := clone_len hr5); (try have kl_ := clone_len hr11); first | omega | (simp <;> omega) | (simp at * <;> omega))) (by kernel_rfl) (fun g => by kernel_rfl) ?_
                    rintro ⟨A_8, c_8⟩
                    refine TL.call (some 64) [(6, .slice A_6 r10.1.length c_6), (8, .int .i64 r10.2.2), (10, .slice ((o_costs[k_3]?.getD Sl.zero).A) x_3.length ((o_costs[k_3]?.getD Sl.zero).cap)), (43, .slice A_costs costs.length c_costs), (44, .int .i64 (costs.length : Int)), (45, .int .i64 (k_3 : Int)), (59, .bool true), (64, .int .i64 (slices_Max_int_int (r11 ++ ([(-1)]))))] (fun w hM => slices_Max_int_int_w A_8 c_8 (r11 ++ ([(-1)])) w (hM.rd_at 1 rfl) (hM.le_at 1 rfl) (by have q0_ := (dec_f h2); have q1_ := (bne_f h13); have q2_ := (bne_f h14); have q3_ := (beq_t h17); have q4_ := (dec_t h18); (try have kb_ := best_len hr4 ‹(r4.2.2 == 0) = true›); (try have kc_ := best_len hr10 ‹(r10.2.2 == 0) = true›); (try have kg_ := know_b hr4 ‹(r4.2.2 == 0) = true›); (try have kg_ := know_b hr10 ‹(r10.2.2 == 0) = true›); (try have kx_ := know_at kg_ hx); (try have kx_ := know_at kg_ hx_3); (try have ky_ := kg_.c1); have kz_ : (costs.take 8).length ≤ 8 := List.length_take_le 8 costs; (try have kl_ := clone_len hr5); (try have kl_ := clone_len hr11); first | omega | (simp only [w64_eq]; omega) | (simp <;> omega))) (by kernel_rfl) (by kernel_rfl) ?_
                    generalize hr12 : slices_Max_int_int (r11 ++ ([(-1)])) = r12
                    refine TL.run 17 [] [(6, .slice A_6 r10.1.length c_6), (8, .int .i64 r10.2.2), (10, .slice ((o_costs[k_3]?.getD Sl.zero).A) x_3.length ((o_costs[k_3]?.getD Sl.zero).cap)), (43, .slice A_costs costs.length c_costs), (44, .int .i64 (costs.length : Int)), (45, .int .i64 (k_3 : Int)), (66, .bool (decide (r12 ≥ 0)))] rfl ⟨by kernel_rfl, by kernel_rfl⟩ ?_
                    refine TL.next rfl ?_
                    refine TC.cond (decide (r12 ≥ 0)) rfl (by kernel_rfl) (fun h19 => ?_) (fun h19 => ?_)
                    · refine TC.seq ?_
                      refine TC.region ?_
                      refine TL.run 3 [] [(6, .slice A_6 r10.1.length c_6), (8, .int .i64 r10.2.2), (43, .slice A_costs costs.length c_costs), (44, .int .i64 (costs.length : Int)), (45, .int .i64 (k_3 : Int)), (67, .slice ((o_costs[k_3]?.getD Sl.zero).A) x_3.length ((o_costs[k_3]?.getD Sl.zero).cap)), (68, .int .i64 (x_3.length : Int)), (69, .int .i64 0)] rfl ⟨by kernel_rfl, by kernel_rfl⟩ ?_
                      refine TL.next rfl ?_
                      refine TC.weak [(6, .slice A_6 r10.1.length c_6), (8, .int .i64 r10.2.2), (43, .slice A_costs costs.length c_costs), (44, .int .i64 (costs.length : Int)), (45, .int .i64 (k_3 : Int)), (67, .slice ((o_costs[k_3]?.getD Sl.zero).A) x_3.length ((o_costs[k_3]?.getD Sl.zero).cap)), (68, .int .i64 (x_3.length : Int)), (69, .int .i64 0)] (by kernel_rfl) ?_
                      refine TC.forget [.inr (Own A_6 c_6 3 1 (r10.1.map ic))] (.cons _ (.cons _ (.cons_cons _ (.slnil)))) ?_
                      obtain ⟨R4, hR_4⟩ : ∃ R, R = skywaykeep2_AssignMisses_L4 r10 x_3 0 := ⟨_, rfl⟩
                      refine TC.cut (S := Unit) (fun (_ : Unit) => [(6, .slice A_6 r10.1.length c_6), (8, .int .i64 r10.2.2), (43, .slice A_costs costs.length c_costs), (44, .int .i64 (costs.length : Int)), (45, .int .i64 (k_3 : Int))]) (fun (_ : Unit) => [.inr (Own A_6 c_6 3 1 (r10.1.map ic))]) (fun (_ : Unit) => R4 = .inl ()) ?_ ?_
                      · refine TC.block ?_
                        refine TC.loop (X := Nat) (fun k_4 => [(6, .slice A_6 r10.1.length c_6), (8, .int .i64 r10.2.2), (43, .slice A_costs costs.length c_costs), (44, .int .i64 (costs.length : Int)), (45, .int .i64 (k_3 : Int)), (67, .slice ((o_costs[k_3]?.getD Sl.zero).A) x_3.length ((o_costs[k_3]?.getD Sl.zero).cap)), (68, .int .i64 (x_3.length : Int)), (69, .int .i64 (k_4 : Int))]) (fun k_4 => [.inr (Own A_6 c_6 3 1 (r10.1.map ic))]) (fun k_4 => x_3.length - k_4) (fun k_4 => k_4 ≤ x_3.length ∧ R4 = skywaykeep2_AssignMisses_L4 r10 (x_3.drop k_4) k_4) ?_ 0 ⟨Nat.zero_le _, hR_4⟩
                        rintro k_4 ⟨hk_4, hI_4⟩
                        refine TC.seq ?_
                        refine TC.region ?_
                        refine TL.run 1 [] [(6, .slice A_6 r10.1.length c_6), (8, .int .i64 r10.2.2), (43, .slice A_costs costs.length c_costs), (44, .int .i64 (costs.length : Int)), (45, .int .i64 (k_3 : Int)), (67, .slice ((o_costs[k_3]?.getD Sl.zero).A) x_3.length ((o_costs[k_3]?.getD Sl.zero).cap)), (68, .int .i64 (x_3.length : Int)), (69, .int .i64 (k_4 : Int)), (70, .bool (decide ((k_4 : Int) < (x_3.length : Int))))] rfl ⟨by kernel_rfl, by kernel_rfl⟩ ?_
                        refine TL.next rfl ?_
                        refine TC.seq ?_
                        refine TC.cond (decide ((k_4 : Int) < (x_3.length : Int))) rfl (by kernel_rfl) (fun h20 => ?_) (fun h20 => ?_)
                        · have hlt_4 : k_4 < x_3.length := by have := of_decide_eq_true h20; first | omega | (simp at this; omega)
                          obtain ⟨x_4, hx_4⟩ : ∃ e_, x_3[k_4]? = some e_ := ⟨_, List.getElem?_eq_getElem hlt_4⟩
                          have hd_4 := drop_at hx_4
                          refine TC.skip ?_
                          refine TE.next ?_
                          refine TC.seq ?_
                          refine TC.block ?_
                          refine TC.seq ?_
                          refine TC.region ?_
                          refine TL.run 1 [] [(6, .slice A_6 r10.1.length c_6), (8, .int .i64 r10.2.2), (43, .slice A_costs costs.length c_costs), (44, .int .i64 (costs.length : Int)), (45, .int .i64 (k_3 : Int)), (67, .slice ((o_costs[k_3]?.getD Sl.zero).A) x_3.length ((o_costs[k_3]?.getD Sl.zero).cap)), (68, .int .i64 (x_3.length : Int)), (69, .int .i64 (k_4 : Int)), (71, .int .i64 (k_4 : Int))] rfl ⟨by kernel_rfl, by kernel_rfl⟩ ?_
                          refine TL.val (sV (Instr.indexAt 23 (.slice ((o_costs[k_3]?.getD Sl.zero).A) x_3.length ((o_costs[k_3]?.getD Sl.zero).cap)) (.int .i64 (k_4 : Int)))) (some 72) (.pointer (some ((((o_costs[k_3]?.getD Sl.zero).A).getD noAddr).add (k_4 * 1)))) [(6, .slice A_6 r10.1.length c_6), (8, .int .i64 r10.2.2), (43, .slice A_costs costs.length c_costs), (44, .int .i64 (costs.length : Int)), (45, .int .i64 (k_3 : Int)), (67, .slice ((o_costs[k_3]?.getD Sl.zero).A) x_3.length ((o_costs[k_3]?.getD Sl.zero).cap)), (68, .int .i64 (x_3.length : Int)), (69, .int .i64 (k_4 : Int)), (71, .int .i64 (k_4 : Int)), (72, .pointer (some ((((o_costs[k_3]?.getD Sl.zero).A).getD noAddr).add (k_4 * 1))))] (fun w hM => run_index (el_rd ((sl_all hd_costs k_3).sat hM) (sl_at he_costs hx_3)) (by simp) (by kernel_rfl) (by have q0_ := (dec_f h2); have q1_ := (bne_f h13); have q2_ := (bne_f h14); have q3_ := (beq_t h17); have q4_ := (dec_t h18); have q5_ := (dec_t h19); (try have kb_ := best_len hr4 ‹(r4.2.2 == 0) = true›); (try have kc_ := best_len hr10 ‹(r10.2.2 == 0) = true›); (try have kg_ := know_b hr4 ‹(r4.2.2 == 0) = true›); (try have kg_ := know_b hr10 ‹(r10.2.2 == 0) = true›); (try have kx_ := know_at kg_ hx); (try have kx_ := know_at kg_ hx_3); (try have ky_ := kg_.c1); have kz_ : (costs.take 8).length ≤ 8 := List.length_take_le 8 costs; (try have kl_ := clone_len hr5); (try have kl_ := clone_len hr11); first | omega | (simp only [List.length_set]; omega) | (dsimp only; omega) | (rw [List.length_drop]; omega) | (simp only [w64_eq]; omega) | exact (tm_in (by (first | (rw [w64_id (by omega)]; omega) | (simp only [w64_eq]; omega))) (by omega)).1 | exact (tm_in (by (first | (rw [w64_id (by omega)]; omega) | (simp only [w64_eq]; omega))) (by omega)).2.1 | exact (tm_in (by (first | (rw [w64_id (by omega)]; omega) | (simp only [w64_eq]; omega))) (by omega)).2.2 | (simp only [List.length_take] at *; omega) | (simp <;> omega)) (by have q0_ := (dec_f h2); have q1_ := (bne_f h13); have q2_ := (bne_f h14); have q3_ := (beq_t h17); have q4_ := (dec_t h18); have q5_ := (dec_t h19); (try have kb_ := best_len hr4 ‹(r4.2.2 == 0) = true›); (try have kc_ := best_len hr10 ‹(r10.2.2 == 0) = true›); (try have kg_ := know_b hr4 ‹(r4.2.2 == 0) = true›); (try have kg_ := know_b hr10 ‹(r10.2.2 == 0) = true›); (try have kx_ := know_at kg_ hx); (try have kx_ := know_at kg_ hx_3); (try have ky_ := kg_.c1); have kz_ : (costs.take 8).length ≤ 8 := List.length_take_le 8 costs; (try have kl_ := clone_len hr5); (try have kl_ := clone_len hr11); first | omega | (simp only [List.length_set]; omega) | (dsimp only; omega) | (rw [List.length_drop]; omega) | (simp only [w64_eq]; omega) | exact (tm_in (by (first | (rw [w64_id (by omega)]; omega) | (simp only [w64_eq]; omega))) (by omega)).1 | exact (tm_in (by (first | (rw [w64_id (by omega)]; omega) | (simp only [w64_eq]; omega))) (by omega)).2.1 | exact (tm_in (by (first | (rw [w64_id (by omega)]; omega) | (simp only [w64_eq]; omega))) (by omega)).2.2 | (simp only [List.length_take] at *; omega) | (simp <;> omega))) (by kernel_rfl) (by kernel_rfl) ?_
                          refine TL.val (sV (Instr.loadAt 3 (.pointer (some ((((o_costs[k_3]?.getD Sl.zero).A).getD noAddr).add (k_4 * 1)))))) (some 73) (.int .i64 x_4) [(6, .slice A_6 r10.1.length c_6), (8, .int .i64 r10.2.2), (43, .slice A_costs costs.length c_costs), (44, .int .i64 (costs.length : Int)), (45, .int .i64 (k_3 : Int)), (67, .slice ((o_costs[k_3]?.getD Sl.zero).A) x_3.length ((o_costs[k_3]?.getD Sl.zero).cap)), (68, .int .i64 (x_3.length : Int)), (69, .int .i64 (k_4 : Int)), (71, .int .i64 (k_4 : Int)), (73, .int .i64 x_4)] (fun w hM => run_load_one (off := 0) (i := k_4) (.int .i64 x_4) (el_rd ((sl_all hd_costs k_3).sat hM) (sl_at he_costs hx_3)) (map_at hx_4) (by kernel_rfl) (by kernel_rfl)) (by kernel_rfl) (by kernel_rfl) ?_
                          refine TL.run 5 [] [(6, .slice A_6 r10.1.length c_6), (8, .int .i64 r10.2.2), (11, .int .i64 (k_4 : Int)), (12, .int .i64 x_4), (43, .slice A_costs costs.length c_costs), (44, .int .i64 (costs.length : Int)), (45, .int .i64 (k_3 : Int)), (67, .slice ((o_costs[k_3]?.getD Sl.zero).A) x_3.length ((o_costs[k_3]?.getD Sl.zero).cap)), (68, .int .i64 (x_3.length : Int)), (69, .int .i64 (k_4 : Int))] rfl ⟨by kernel_rfl, by kernel_rfl⟩ ?_
                          refine TL.next rfl ?_
                          refine TC.seq ?_
                          refine TC.region ?_
                          refine TL.run 3 [] [(6, .slice A_6 r10.1.length c_6), (8, .int .i64 r10.2.2), (11, .int .i64 (k_4 : Int)), (12, .int .i64 x_4), (43, .slice A_costs costs.length c_costs), (44, .int .i64 (costs.length : Int)), (45, .int .i64 (k_3 : Int)), (67, .slice ((o_costs[k_3]?.getD Sl.zero).A) x_3.length ((o_costs[k_3]?.getD Sl.zero).cap)), (68, .int .i64 (x_3.length : Int)), (69, .int .i64 (k_4 : Int)), (76, .bool (decide (x_4 ≥ 0)))] rfl ⟨by kernel_rfl, by kernel_rfl⟩ ?_
                          refine TL.join 76 (decide (x_4 ≥ 0)) 6 [] [] (fun β => [(6, .slice A_6 r10.1.length c_6), (8, .int .i64 r10.2.2), (11, .int .i64 (k_4 : Int)), (43, .slice A_costs costs.length c_costs), (44, .int .i64 (costs.length : Int)), (45, .int .i64 (k_3 : Int)), (67, .slice ((o_costs[k_3]?.getD Sl.zero).A) x_3.length ((o_costs[k_3]?.getD Sl.zero).cap)), (68, .int .i64 (x_3.length : Int)), (69, .int .i64 (k_4 : Int)), (79, .bool (β && (decide (x_4 < 1073741824))))]) (by kernel_rfl) rfl ⟨by kernel_rfl, by kernel_rfl⟩ ⟨by kernel_rfl, by kernel_rfl⟩ ?_
                          refine TL.run 7 [] [(6, .slice A_6 r10.1.length c_6), (8, .int .i64 r10.2.2), (11, .int .i64 (k_4 : Int)), (43, .slice A_costs costs.length c_costs), (44, .int .i64 (costs.length : Int)), (45, .int .i64 (k_3 : Int)), (67, .slice ((o_costs[k_3]?.getD Sl.zero).A) x_3.length ((o_costs[k_3]?.getD Sl.zero).cap)), (68, .int .i64 (x_3.length : Int)), (69, .int .i64 (k_4 : Int)), (80, .bool ((decide (x_4 ≥ 0)) && (decide (x_4 < 1073741824))))] rfl ⟨by kernel_rfl, by kernel_rfl⟩ ?_
                          refine TL.split 80 ((decide (x_4 ≥ 0)) && (decide (x_4 < 1073741824))) (by kernel_rfl) (fun h21 => ?_) (fun h21 => ?_)
                          · refine TL.run 9 [] [(6, .slice A_6 r10.1.length c_6), (8, .int .i64 r10.2.2), (43, .slice A_costs costs.length c_costs), (44, .int .i64 (costs.length : Int)), (45, .int .i64 (k_3 : Int)), (67, .slice ((o_costs[k_3]?.getD Sl.zero).A) x_3.length ((o_costs[k_3]?.getD Sl.zero).cap)), (68, .int .i64 (x_3.length : Int)), (69, .int .i64 (k_4 : Int)), (80, .bool true), (81, .slice A_6 r10.1.length c_6), (82, .int .i64 (k_4 : Int))] rfl ⟨by kernel_rfl, by kernel_rfl⟩ ?_
                            refine TL.call (some 83) [(6, .slice A_6 r10.1.length c_6), (8, .int .i64 r10.2.2), (43, .slice A_costs costs.length c_costs), (44, .int .i64 (costs.length : Int)), (45, .int .i64 (k_3 : Int)), (67, .slice ((o_costs[k_3]?.getD Sl.zero).A) x_3.length ((o_costs[k_3]?.getD Sl.zero).cap)), (68, .int .i64 (x_3.length : Int)), (69, .int .i64 (k_4 : Int)), (80, .bool true), (83, .bool ((slices_Contains_int_int r10.1 (k_4 : Int))))] (fun w hM => slices_Contains_int_int_w A_6 c_6 r10.1 (k_4 : Int) w (hM.rd_at 0 rfl) (hM.le_at 0 rfl)) (by kernel_rfl) (by kernel_rfl) ?_
                            generalize hr13 : slices_Contains_int_int r10.1 (k_4 : Int) = r13
                            refine TL.run 12 [] [(6, .slice A_6 r10.1.length c_6), (8, .int .i64 r10.2.2), (43, .slice A_costs costs.length c_costs), (44, .int .i64 (costs.length : Int)), (45, .int .i64 (k_3 : Int)), (67, .slice ((o_costs[k_3]?.getD Sl.zero).A) x_3.length ((o_costs[k_3]?.getD Sl.zero).cap)), (68, .int .i64 (x_3.length : Int)), (69, .int .i64 (k_4 : Int)), (85, .bool (!r13))] rfl ⟨by kernel_rfl, by kernel_rfl⟩ ?_
                            refine TL.next rfl ?_
                            refine TC.cond (!r13) rfl (by kernel_rfl) (fun h22 => ?_) (fun h22 => ?_)
                            · refine TC.seq ?_
                              refine TC.region ?_
                              refine TL.run 1 [] [(2, .bool false)] rfl ⟨by kernel_rfl, by kernel_rfl⟩ ?_
                              refine TL.next rfl ?_
                              refine TC.ret ?_
                              refine TE.ret_block (TE.ret_then (TE.ret_then (TE.ret_block (TE.ret_then (TE.ret_block (TE.ret_then (TE.ret_then (TE.ret_block (TE.ret_then (TE.ret_then ?_))))))))))
                              have e : skywaykeep2_AssignMisses costs = false := by subst hr1 hr8 hr9 hr10 hr11 hr12 hr13; unfold skywaykeep2_AssignMisses; exact cond_f h1 (cond_f h2 (cond_f h13 (cond_f h14 (cond_f h15 (elim_r (hR_3.symm.trans (hI_3.trans (by rw [hd_3]; exact cond_t h17 (cond_t h18 (cond_t h19 (elim_r (hR_4.symm.trans (hI_4.trans (by rw [hd_4]; exact cond_t h21 (cond_t h22 (rfl))))) rfl)))))) rfl)))))
                              exact TE.ret [] (.bool false) ⟨by kernel_rfl, by kernel_rfl⟩ (by rw [e]; first | done | kernel_rfl)
                            · refine TC.skip ?_
                              refine TE.normal_block ?_
                              refine TE.next ?_
                              refine TC.region ?_
                              refine TL.run 2 [] [(6, .slice A_6 r10.1.length c_6), (8, .int .i64 r10.2.2), (43, .slice A_costs costs.length c_costs), (44, .int .i64 (costs.length : Int)), (45, .int .i64 (k_3 : Int)), (67, .slice ((o_costs[k_3]?.getD Sl.zero).A) x_3.length ((o_costs[k_3]?.getD Sl.zero).cap)), (68, .int .i64 (x_3.length : Int)), (69, .int .i64 (w64 ((k_4 : Int) + 1)))] rfl ⟨by kernel_rfl, by kernel_rfl⟩ ?_
                              refine TL.done rfl ?_
                              refine TE.rw 69 (.int .i64 (w64 ((k_4 : Int) + 1))) (.int .i64 ((k_4 + 1 : Nat) : Int)) (by kernel_rfl) (w64_cast k_4 (by (try have kb_ := best_len hr4 ‹(r4.2.2 == 0) = true›); (try have kc_ := best_len hr10 ‹(r10.2.2 == 0) = true›); (try have kg_ := know_b hr4 ‹(r4.2.2 == 0) = true›); (try have kg_ := know_b hr10 ‹(r10.2.2 == 0) = true›); (try have kx_ := know_at kg_ hx); (try have kx_ := know_at kg_ hx_3); (try have ky_ := kg_.c1); have kz_ : (costs.take 8).length ≤ 8 := List.length_take_le 8 costs; (try have kl_ := clone_len hr5); (try have kl_ := clone_len hr11); omega)) ?_
                              exact TE.again (x := k_4) (k_4 + 1) ⟨by omega, hI_4.trans (by subst hr1 hr8 hr9 hr10 hr11 hr12 hr13; rw [hd_4]; exact cond_t h21 (cond_f h22 (rfl)))⟩ (by show x_3.length - (k_4 + 1) < x_3.length - k_4; omega) (by kernel_rfl) (.cons_cons _ (.slnil))
                          · refine TL.run 12 [] [(6, .slice A_6 r10.1.length c_6), (8, .int .i64 r10.2.2), (43, .slice A_costs costs.length c_costs), (44, .int .i64 (costs.length : Int)), (45, .int .i64 (k_3 : Int)), (67, .slice ((o_costs[k_3]?.getD Sl.zero).A) x_3.length ((o_costs[k_3]?.getD Sl.zero).cap)), (68, .int .i64 (x_3.length : Int)), (69, .int .i64 (k_4 : Int)), (85, .bool false)] rfl ⟨by kernel_rfl, by kernel_rfl⟩ ?_
                            refine TL.next rfl ?_
                            refine TC.condF rfl (by kernel_rfl) ?_
                            refine TC.skip ?_
                            refine TE.normal_block ?_
                            refine TE.next ?_
                            refine TC.region ?_
                            refine TL.run 2 [] [(6, .slice A_6 r10.1.length c_6), (8, .int .i64 r10.2.2), (43, .slice A_costs costs.length c_costs), (44, .int .i64 (costs.length : Int)), (45, .int .i64 (k_3 : Int)), (67, .slice ((o_costs[k_3]?.getD Sl.zero).A) x_3.length ((o_costs[k_3]?.getD Sl.zero).cap)), (68, .int .i64 (x_3.length : Int)), (69, .int .i64 (w64 ((k_4 : Int) + 1)))] rfl ⟨by kernel_rfl, by kernel_rfl⟩ ?_
                            refine TL.done rfl ?_
                            refine TE.rw 69 (.int .i64 (w64 ((k_4 : Int) + 1))) (.int .i64 ((k_4 + 1 : Nat) : Int)) (by kernel_rfl) (w64_cast k_4 (by (try have kb_ := best_len hr4 ‹(r4.2.2 == 0) = true›); (try have kc_ := best_len hr10 ‹(r10.2.2 == 0) = true›); (try have kg_ := know_b hr4 ‹(r4.2.2 == 0) = true›); (try have kg_ := know_b hr10 ‹(r10.2.2 == 0) = true›); (try have kx_ := know_at kg_ hx); (try have kx_ := know_at kg_ hx_3); (try have ky_ := kg_.c1); have kz_ : (costs.take 8).length ≤ 8 := List.length_take_le 8 costs; (try have kl_ := clone_len hr5); (try have kl_ := clone_len hr11); omega)) ?_
                            exact TE.again (x := k_4) (k_4 + 1) ⟨by omega, hI_4.trans (by subst hr1 hr8 hr9 hr10 hr11 hr12; rw [hd_4]; exact cond_f h21 (rfl))⟩ (by show x_3.length - (k_4 + 1) < x_3.length - k_4; omega) (by kernel_rfl) (.cons_cons _ (.slnil))
                        · have hd_4 : x_3.drop k_4 = [] := List.drop_eq_nil_of_le (by have := of_decide_eq_false h20; first | omega | (simp at this; omega))
                          refine TC.exit ?_
                          refine TE.exit_then (TE.exit_then (TE.exit_same ?_))
                          exact TE.cut () (hI_4.trans (by subst hr1 hr8 hr9 hr10 hr11 hr12; rw [hd_4]; exact rfl)) (by kernel_rfl) (.cons_cons _ (.slnil))
                      · intro _ hJ_4
                        refine TE.normal_block ?_
                        refine TE.next ?_
                        refine TC.region ?_
                        refine TL.run 2 [] [(6, .slice A_6 r10.1.length c_6), (8, .int .i64 r10.2.2), (43, .slice A_costs costs.length c_costs), (44, .int .i64 (costs.length : Int)), (45, .int .i64 (w64 ((k_3 : Int) + 1)))] rfl ⟨by kernel_rfl, by kernel_rfl⟩ ?_
                        refine TL.done rfl ?_
                        refine TE.rw 45 (.int .i64 (w64 ((k_3 : Int) + 1))) (.int .i64 ((k_3 + 1 : Nat) : Int)) (by kernel_rfl) (w64_cast k_3 (by (try have kb_ := best_len hr4 ‹(r4.2.2 == 0) = true›); (try have kc_ := best_len hr10 ‹(r10.2.2 == 0) = true›); (try have kg_ := know_b hr4 ‹(r4.2.2 == 0) = true›); (try have kg_ := know_b hr10 ‹(r10.2.2 == 0) = true›); (try have kx_ := know_at kg_ hx); (try have kx_ := know_at kg_ hx_3); (try have ky_ := kg_.c1); have kz_ : (costs.take 8).length ≤ 8 := List.length_take_le 8 costs; (try have kl_ := clone_len hr5); (try have kl_ := clone_len hr11); omega)) ?_
                        exact TE.again (x := k_3) (k_3 + 1) ⟨by omega, hI_3.trans (by subst hr1 hr8 hr9 hr10 hr11 hr12; rw [hd_3]; exact cond_t h17 (cond_t h18 (cond_t h19 (elim_l (hR_4.symm.trans hJ_4) (rfl)))))⟩ (by show costs.length - (k_3 + 1) < costs.length - k_3; omega) (by kernel_rfl) (.cons_cons _ (.slnil))
                    · refine TC.skip ?_
                      refine TE.normal_block ?_
                      refine TE.next ?_
                      refine TC.region ?_
                      refine TL.run 2 [] [(6, .slice A_6 r10.1.length c_6), (8, .int .i64 r10.2.2), (43, .slice A_costs costs.length c_costs), (44, .int .i64 (costs.length : Int)), (45, .int .i64 (w64 ((k_3 : Int) + 1)))] rfl ⟨by kernel_rfl, by kernel_rfl⟩ ?_
                      refine TL.done rfl ?_
                      refine TE.rw 45 (.int .i64 (w64 ((k_3 : Int) + 1))) (.int .i64 ((k_3 + 1 : Nat) : Int)) (by kernel_rfl) (w64_cast k_3 (by (try have kb_ := best_len hr4 ‹(r4.2.2 == 0) = true›); (try have kc_ := best_len hr10 ‹(r10.2.2 == 0) = true›); (try have kg_ := know_b hr4 ‹(r4.2.2 == 0) = true›); (try have kg_ := know_b hr10 ‹(r10.2.2 == 0) = true›); (try have kx_ := know_at kg_ hx); (try have kx_ := know_at kg_ hx_3); (try have ky_ := kg_.c1); have kz_ : (costs.take 8).length ≤ 8 := List.length_take_le 8 costs; (try have kl_ := clone_len hr5); (try have kl_ := clone_len hr11); omega)) ?_
                      exact TE.again (x := k_3) (k_3 + 1) ⟨by omega, hI_3.trans (by subst hr1 hr8 hr9 hr10 hr11 hr12; rw [hd_3]; exact cond_t h17 (cond_t h18 (cond_f h19 (rfl))))⟩ (by show costs.length - (k_3 + 1) < costs.length - k_3; omega) (by kernel_rfl) (.cons _ (.cons _ (.cons_cons _ (.slnil))))
                  · refine TL.run 17 [] [(6, .slice A_6 r10.1.length c_6), (8, .int .i64 r10.2.2), (10, .slice ((o_costs[k_3]?.getD Sl.zero).A) x_3.length ((o_costs[k_3]?.getD Sl.zero).cap)), (43, .slice A_costs costs.length c_costs), (44, .int .i64 (costs.length : Int)), (45, .int .i64 (k_3 : Int)), (66, .bool false)] rfl ⟨by kernel_rfl, by kernel_rfl⟩ ?_
                    refine TL.next rfl ?_
                    refine TC.condF rfl (by kernel_rfl) ?_
                    refine TC.skip ?_
                    refine TE.normal_block ?_
                    refine TE.next ?_
                    refine TC.region ?_
                    refine TL.run 2 [] [(6, .slice A_6 r10.1.length c_6), (8, .int .i64 r10.2.2), (43, .slice A_costs costs.length c_costs), (44, .int .i64 (costs.length : Int)), (45, .int .i64 (w64 ((k_3 : Int) + 1)))] rfl ⟨by kernel_rfl, by kernel_rfl⟩ ?_
                    refine TL.done rfl ?_
                    refine TE.rw 45 (.int .i64 (w64 ((k_3 : Int) + 1))) (.int .i64 ((k_3 + 1 : Nat) : Int)) (by kernel_rfl) (w64_cast k_3 (by (try have kb_ := best_len hr4 ‹(r4.2.2 == 0) = true›); (try have kc_ := best_len hr10 ‹(r10.2.2 == 0) = true›); (try have kg_ := know_b hr4 ‹(r4.2.2 == 0) = true›); (try have kg_ := know_b hr10 ‹(r10.2.2 == 0) = true›); (try have kx_ := know_at kg_ hx); (try have kx_ := know_at kg_ hx_3); (try have ky_ := kg_.c1); have kz_ : (costs.take 8).length ≤ 8 := List.length_take_le 8 costs; (try have kl_ := clone_len hr5); (try have kl_ := clone_len hr11); omega)) ?_
                    exact TE.again (x := k_3) (k_3 + 1) ⟨by omega, hI_3.trans (by subst hr1 hr8 hr9 hr10; rw [hd_3]; exact cond_t h17 (cond_f h18 (rfl)))⟩ (by show costs.length - (k_3 + 1) < costs.length - k_3; omega) (by kernel_rfl) (.cons_cons _ (.slnil))
                · refine TL.run 17 [] [(6, .slice A_6 r10.1.length c_6), (8, .int .i64 r10.2.2), (10, .slice ((o_costs[k_3]?.getD Sl.zero).A) x_3.length ((o_costs[k_3]?.getD Sl.zero).cap)), (43, .slice A_costs costs.length c_costs), (44, .int .i64 (costs.length : Int)), (45, .int .i64 (k_3 : Int)), (66, .bool false)] rfl ⟨by kernel_rfl, by kernel_rfl⟩ ?_
                  refine TL.next rfl ?_
                  refine TC.condF rfl (by kernel_rfl) ?_
                  refine TC.skip ?_
                  refine TE.normal_block ?_
                  refine TE.next ?_
                  refine TC.region ?_
                  refine TL.run 2 [] [(6, .slice A_6 r10.1.length c_6), (8, .int .i64 r10.2.2), (43, .slice A_costs costs.length c_costs), (44, .int .i64 (costs.length : Int)), (45, .int .i64 (w64 ((k_3 : Int) + 1)))] rfl ⟨by kernel_rfl, by kernel_rfl⟩ ?_
                  refine TL.done rfl ?_
                  refine TE.rw 45 (.int .i64 (w64 ((k_3 : Int) + 1))) (.int .i64 ((k_3 + 1 : Nat) : Int)) (by kernel_rfl) (w64_cast k_3 (by (try have kb_ := best_len hr4 ‹(r4.2.2 == 0) = true›); (try have kc_ := best_len hr10 ‹(r10.2.2 == 0) = true›); (try have kg_ := know_b hr4 ‹(r4.2.2 == 0) = true›); (try have kg_ := know_b hr10 ‹(r10.2.2 == 0) = true›); (try have kx_ := know_at kg_ hx); (try have kx_ := know_at kg_ hx_3); (try have ky_ := kg_.c1); have kz_ : (costs.take 8).length ≤ 8 := List.length_take_le 8 costs; (try have kl_ := clone_len hr5); (try have kl_ := clone_len hr11); omega)) ?_
                  exact TE.again (x := k_3) (k_3 + 1) ⟨by omega, hI_3.trans (by subst hr1 hr8 hr9 hr10; rw [hd_3]; exact cond_f h17 (rfl))⟩ (by show costs.length - (k_3 + 1) < costs.length - k_3; omega) (by kernel_rfl) (.cons_cons _ (.slnil))
              · have hd_3 : costs.drop k_3 = [] := List.drop_eq_nil_of_le (by have := of_decide_eq_false h16; first | omega | (simp at this; omega))
                refine TC.exit ?_
                refine TE.exit_then (TE.exit_then (TE.exit_same ?_))
                exact TE.cut () (hI_3.trans (by subst hr1 hr8 hr9 hr10; rw [hd_3]; exact rfl)) (by kernel_rfl) (.cons _ (.slnil))
            · intro _ hJ_3
              refine TE.next ?_
              refine TC.seq ?_
              refine TC.region ?_
              refine TL.run 3 [] [(2, .bool (r10.2.2 == 0))] rfl ⟨by kernel_rfl, by kernel_rfl⟩ ?_
              refine TL.next rfl ?_
              refine TC.ret ?_
              have e : skywaykeep2_AssignMisses costs = (r10.2.2 == 0) := by subst hr1 hr8 hr9 hr10; unfold skywaykeep2_AssignMisses; exact cond_f h1 (cond_f h2 (cond_f h13 (cond_f h14 (cond_f h15 (elim_l (hR_3.symm.trans hJ_3) (rfl))))))
              exact TE.ret [] (.bool (r10.2.2 == 0)) ⟨by kernel_rfl, by kernel_rfl⟩ (by rw [e]; first | done | kernel_rfl)

end Go.Sky
