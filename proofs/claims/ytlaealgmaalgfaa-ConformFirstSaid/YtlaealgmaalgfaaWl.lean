/- Functions of the program, each with the Lean function that it computes. Conditions: none. -/
import Derived.Test.YtlaealgmaalgfaaFirst
namespace Go.Sky
open Go Go.Eng Go.Proofs
def skywaykeep2_ConformFirst_1 (x : Track) (x_2 : List TubeNode) : Bool :=
  let r1 := conform_Compare x x_2
  (r1.2 == 0) && (r1.1 == 2)

set_option maxRecDepth 100000 in
theorem skywaykeep2_ConformFirst_1_w (x : Track) (a_x_2 : Addr) (A_x_2 : Option Addr) (c_x_2 : Nat) (x_2 : List TubeNode) (w : World) (h_x_2 : Rd w 1 (some a_x_2) [Sl.c (⟨A_x_2, c_x_2, x_2⟩ : Sl TubeNode)]) (hd_x_2 : (⟨A_x_2, c_x_2, x_2⟩ : Sl TubeNode).rd w 6 TubeNode.c) : Calls Try.prog 45 #[Track.v x, .pointer (some a_x_2)] w (Ret w (.bool (skywaykeep2_ConformFirst_1 x x_2))) := by
  refine calls_intro (vs := [Track.v x, .pointer (some a_x_2)]) (w := w) Try.func45 rfl Try.ntmps45 rfl ?_
  refine TC.weak [(0, Track.v x), (1, .pointer (some a_x_2))] (by kernel_rfl) ?_
  refine TC.seq ?_
  refine TC.region ?_
  refine TL.write 0 (fun b1 => [(1, .pointer (some a_x_2)), (2, .pointer (some ⟨b1, 0, none⟩))]) (fun b1 => [.inl (b1, .cells (Track.c x) 33 (0, 0))]) (fun b1 => ⟨by kernel_rfl, by kernel_rfl⟩) (fun b1 => ?_)
  refine TL.run 2 [] [(1, .pointer (some a_x_2)), (2, .pointer (some ⟨b1, 0, none⟩))] rfl ⟨by kernel_rfl, by kernel_rfl⟩ ?_
  refine TL.next rfl ?_
  refine TC.seq ?_
  refine TC.region ?_
  refine TL.run 1 [0] [(1, .pointer (some a_x_2)), (7, Track.v x)] rfl ⟨by kernel_rfl, by kernel_rfl⟩ ?_
  refine TL.val (sV (Instr.loadAt 53 (.pointer (some a_x_2)))) (some 8) (.slice A_x_2 x_2.length c_x_2) [(7, Track.v x), (8, .slice A_x_2 x_2.length c_x_2)] (fun w hM => run_load_one (off := 0) (.slice A_x_2 x_2.length c_x_2) (h_x_2.sat hM) (rows_one _) (by kernel_rfl) (by kernel_rfl)) (by kernel_rfl) (by kernel_rfl) ?_
  refine TL.call (some 9) [(9, .tuple #[.int .i64 ((conform_Compare x x_2).1), .int .i64 ((conform_Compare x x_2).2)])] (fun w hM => conform_Compare_w x A_x_2 c_x_2 x_2 w (hd_x_2.rd.sat hM) hd_x_2.le) (by kernel_rfl) (by kernel_rfl) ?_
  generalize hr1 : conform_Compare x x_2 = r1
  refine TL.run 8 [] [(4, .int .i64 r1.1), (5, .int .i64 r1.2)] rfl ⟨by kernel_rfl, by kernel_rfl⟩ ?_
  refine TL.next rfl ?_
  refine TC.seq ?_
  refine TC.region ?_
  refine TL.run 3 [] [(4, .int .i64 r1.1), (14, .bool (r1.2 == 0))] rfl ⟨by kernel_rfl, by kernel_rfl⟩ ?_
  refine TL.join 14 (r1.2 == 0) 6 [] [] (fun β => [(17, .bool (β && (r1.1 == 2)))]) (by kernel_rfl) rfl ⟨by kernel_rfl, by kernel_rfl⟩ ⟨by kernel_rfl, by kernel_rfl⟩ ?_
  refine TL.run 7 [] [(3, .bool ((r1.2 == 0) && (r1.1 == 2)))] rfl ⟨by kernel_rfl, by kernel_rfl⟩ ?_
  refine TL.next rfl ?_
  refine TC.ret ?_
  have e : skywaykeep2_ConformFirst_1 x x_2 = ((r1.2 == 0) && (r1.1 == 2)) := by subst hr1; unfold skywaykeep2_ConformFirst_1; exact rfl
  exact TE.ret [] (.bool ((r1.2 == 0) && (r1.1 == 2))) ⟨by kernel_rfl, by kernel_rfl⟩ (by rw [e]; first | done | kernel_rfl)

def IndexFunc_first_L1 (c0 : List TubeNode) : List Track → Nat → ((Unit) ⊕ (Int))
  | [], _ => .inl ()
  | x :: xs, k => let r1 := skywaykeep2_ConformFirst_1 x c0
    cond r1 (
      .inr (k : Int)) (
      IndexFunc_first_L1 c0 xs (k + 1))
def IndexFunc_first (s : List Track) (c0 : List TubeNode) : Int :=
  Sum.elim (fun _ =>
    (-1)) (fun r => r) (IndexFunc_first_L1 c0 s 0)

set_option maxRecDepth 100000 in
theorem IndexFunc_first_w (A_s : Option Addr) (c_s : Nat) (s : List Track) (a_c0 : Addr) (A_c0 : Option Addr) (c_c0 : Nat) (c0 : List TubeNode) (w : World) (h_s : Rd w 13 A_s (s.map Track.c)) (_hc_s : s.length ≤ c_s) (h_c0 : Rd w 1 (some a_c0) [Sl.c (⟨A_c0, c_c0, c0⟩ : Sl TubeNode)]) (hd_c0 : (⟨A_c0, c_c0, c0⟩ : Sl TubeNode).rd w 6 TubeNode.c) : Calls Try.prog 83 #[.slice A_s s.length c_s, .func (.func 45) #[] #[.pointer (some a_c0)]] w (Ret w (.int .i64 (IndexFunc_first s c0))) := by
  have s_s := h_s.short; rw [List.length_map] at s_s
  refine calls_intro (vs := [.slice A_s s.length c_s, .func (.func 45) #[] #[.pointer (some a_c0)]]) (w := w) Try.func83 rfl Try.ntmps83 rfl ?_
  refine TC.weak [(0, .slice A_s s.length c_s), (1, .func (.func 45) #[] #[.pointer (some a_c0)])] (by kernel_rfl) ?_
  refine TC.seq ?_
  refine TC.region ?_
  refine TL.run 1 [] [(0, .slice A_s s.length c_s), (1, .func (.func 45) #[] #[.pointer (some a_c0)])] rfl ⟨by kernel_rfl, by kernel_rfl⟩ ?_
  refine TL.next rfl ?_
  refine TC.seq ?_
  refine TC.seq ?_
  refine TC.region ?_
  refine TL.run 3 [] [(0, .slice A_s s.length c_s), (1, .func (.func 45) #[] #[.pointer (some a_c0)]), (7, .int .i64 (s.length : Int)), (8, .int .i64 0)] rfl ⟨by kernel_rfl, by kernel_rfl⟩ ?_
  refine TL.next rfl ?_
  refine TC.weak [(0, .slice A_s s.length c_s), (1, .func (.func 45) #[] #[.pointer (some a_c0)]), (7, .int .i64 (s.length : Int)), (8, .int .i64 0)] (by kernel_rfl) ?_
  obtain ⟨R1, hR⟩ : ∃ R, R = IndexFunc_first_L1 c0 s 0 := ⟨_, rfl⟩
  refine TC.cut (S := Unit) (fun (_ : Unit) => []) (fun (_ : Unit) => []) (fun (_ : Unit) => R1 = .inl ()) ?_ ?_
  · refine TC.block ?_
    refine TC.loop (X := Nat) (fun k => [(0, .slice A_s s.length c_s), (1, .func (.func 45) #[] #[.pointer (some a_c0)]), (7, .int .i64 (s.length : Int)), (8, .int .i64 (k : Int))]) (fun k => []) (fun k => s.length - k) (fun k => k ≤ s.length ∧ R1 = IndexFunc_first_L1 c0 (s.drop k) k) ?_ 0 ⟨Nat.zero_le _, hR⟩
    rintro k ⟨hk, hI⟩
    refine TC.seq ?_
    refine TC.region ?_
    refine TL.run 1 [] [(0, .slice A_s s.length c_s), (1, .func (.func 45) #[] #[.pointer (some a_c0)]), (7, .int .i64 (s.length : Int)), (8, .int .i64 (k : Int)), (9, .bool (decide ((k : Int) < (s.length : Int))))] rfl ⟨by kernel_rfl, by kernel_rfl⟩ ?_
    refine TL.next rfl ?_
    refine TC.seq ?_
    refine TC.cond (decide ((k : Int) < (s.length : Int))) rfl (by kernel_rfl) (fun h1 => ?_) (fun h1 => ?_)
    · have hlt : k < s.length := by have := of_decide_eq_true h1; first | omega | (simp at this; omega)
      obtain ⟨x, hx⟩ : ∃ x, s[k]? = some x := ⟨_, List.getElem?_eq_getElem hlt⟩
      have hd := drop_at hx
      refine TC.skip ?_
      refine TE.next ?_
      refine TC.seq ?_
      refine TC.block ?_
      refine TC.seq ?_
      refine TC.region ?_
      refine TL.run 2 [] [(0, .slice A_s s.length c_s), (1, .func (.func 45) #[] #[.pointer (some a_c0)]), (5, .int .i64 (k : Int)), (7, .int .i64 (s.length : Int)), (8, .int .i64 (k : Int))] rfl ⟨by kernel_rfl, by kernel_rfl⟩ ?_
      refine TL.next rfl ?_
      refine TC.seq ?_
      refine TC.region ?_
      refine TL.run 3 [] [(0, .slice A_s s.length c_s), (1, .func (.func 45) #[] #[.pointer (some a_c0)]), (5, .int .i64 (k : Int)), (7, .int .i64 (s.length : Int)), (8, .int .i64 (k : Int)), (11, .func (.func 45) #[] #[.pointer (some a_c0)]), (12, .slice A_s s.length c_s), (13, .int .i64 (k : Int))] rfl ⟨by kernel_rfl, by kernel_rfl⟩ ?_
      refine TL.val (sV (Instr.indexAt 22 (.slice A_s s.length c_s) (.int .i64 (k : Int)))) (some 14) (.pointer (some ((A_s.getD noAddr).add (k * 13)))) [(0, .slice A_s s.length c_s), (1, .func (.func 45) #[] #[.pointer (some a_c0)]), (5, .int .i64 (k : Int)), (7, .int .i64 (s.length : Int)), (8, .int .i64 (k : Int)), (11, .func (.func 45) #[] #[.pointer (some a_c0)]), (14, .pointer (some ((A_s.getD noAddr).add (k * 13))))] (fun w hM => run_index (h_s.sat hM) (by simp) (by kernel_rfl) (by first | omega | (simp only [List.length_drop]; omega) | (simp only [w64_eq]; omega) | exact (tm_in (by (first | (rw [w64_id (by omega)]; omega) | (simp only [w64_eq]; omega))) (by omega)).1 | exact (tm_in (by (first | (rw [w64_id (by omega)]; omega) | (simp only [w64_eq]; omega))) (by omega)).2.1 | exact (tm_in (by (first | (rw [w64_id (by omega)]; omega) | (simp only [w64_eq]; omega))) (by omega)).2.2 | (simp <;> omega)) (by first | omega | (simp only [List.length_drop]; omega) | (simp only [w64_eq]; omega) | exact (tm_in (by (first | (rw [w64_id (by omega)]; omega) | (simp only [w64_eq]; omega))) (by omega)).1 | exact (tm_in (by (first | (rw [w64_id (by omega)]; omega) | (simp only [w64_eq]; omega))) (by omega)).2.1 | exact (tm_in (by (first | (rw [w64_id (by omega)]; omega) | (simp only [w64_eq]; omega))) (by omega)).2.2 | (simp <;> omega))) (by kernel_rfl) (by kernel_rfl) ?_
      refine TL.val (sV (Instr.loadAt 33 (.pointer (some ((A_s.getD noAddr).add (k * 13)))))) (some 15) (Track.v x) [(0, .slice A_s s.length c_s), (1, .func (.func 45) #[] #[.pointer (some a_c0)]), (5, .int .i64 (k : Int)), (7, .int .i64 (s.length : Int)), (8, .int .i64 (k : Int)), (11, .func (.func 45) #[] #[.pointer (some a_c0)]), (15, Track.v x)] (fun w hM => run_load_agg (n := 13) (off := 0) (i := k) (Track.v x) (h_s.sat hM) (map_at hx) (by kernel_rfl) (by kernel_rfl) (by kernel_rfl)) (by kernel_rfl) (by kernel_rfl) ?_
      refine TL.call (some 16) [(0, .slice A_s s.length c_s), (1, .func (.func 45) #[] #[.pointer (some a_c0)]), (5, .int .i64 (k : Int)), (7, .int .i64 (s.length : Int)), (8, .int .i64 (k : Int)), (16, .bool ((skywaykeep2_ConformFirst_1 x c0)))] (fun w hM => skywaykeep2_ConformFirst_1_w x a_c0 A_c0 c_c0 c0 w (h_c0.sat hM) (hd_c0.sat hM)) (by kernel_rfl) (by kernel_rfl) ?_
      generalize hr1 : skywaykeep2_ConformFirst_1 x c0 = r1
      refine TL.next rfl ?_
      refine TC.cond r1 rfl (by kernel_rfl) (fun h2 => ?_) (fun h2 => ?_)
      · refine TC.seq ?_
        refine TC.region ?_
        refine TL.run 2 [] [(4, .int .i64 (k : Int))] rfl ⟨by kernel_rfl, by kernel_rfl⟩ ?_
        refine TL.next rfl ?_
        refine TC.ret ?_
        refine TE.ret_block (TE.ret_then (TE.ret_then (TE.ret_block (TE.ret_then (TE.ret_then ?_)))))
        have e : IndexFunc_first s c0 = (k : Int) := by subst hr1; unfold IndexFunc_first; exact elim_r (hR.symm.trans (hI.trans (by rw [hd]; exact cond_t h2 (rfl)))) rfl
        exact TE.ret [] (.int .i64 (k : Int)) ⟨by kernel_rfl, by kernel_rfl⟩ (by rw [e]; first | done | kernel_rfl)
      · refine TC.skip ?_
        refine TE.normal_block ?_
        refine TE.next ?_
        refine TC.region ?_
        refine TL.run 2 [] [(0, .slice A_s s.length c_s), (1, .func (.func 45) #[] #[.pointer (some a_c0)]), (7, .int .i64 (s.length : Int)), (8, .int .i64 (w64 ((k : Int) + 1)))] rfl ⟨by kernel_rfl, by kernel_rfl⟩ ?_
        refine TL.done rfl ?_
        refine TE.rw 8 (.int .i64 (w64 ((k : Int) + 1))) (.int .i64 ((k + 1 : Nat) : Int)) (by kernel_rfl) (w64_cast k (by omega)) ?_
        exact TE.again (x := k) (k + 1) ⟨by omega, hI.trans (by subst hr1; rw [hd]; exact cond_f h2 (rfl))⟩ (by show s.length - (k + 1) < s.length - k; omega) (by kernel_rfl) (.slnil)
    · have hd : s.drop k = [] := List.drop_eq_nil_of_le (by have := of_decide_eq_false h1; first | omega | (simp at this; omega))
      refine TC.exit ?_
      refine TE.exit_then (TE.exit_then (TE.exit_same ?_))
      exact TE.cut () (hI.trans (by rw [hd]; exact rfl)) (by kernel_rfl) (.slnil)
  · intro _ hJ
    refine TE.next ?_
    refine TC.seq ?_
    refine TC.region ?_
    refine TL.run 1 [] [(4, .int .i64 (-1))] rfl ⟨by kernel_rfl, by kernel_rfl⟩ ?_
    refine TL.next rfl ?_
    refine TC.ret ?_
    have e : IndexFunc_first s c0 = (-1) := by unfold IndexFunc_first; exact elim_l (hR.symm.trans hJ) (rfl)
    exact TE.ret [] (.int .i64 (-1)) ⟨by kernel_rfl, by kernel_rfl⟩ (by rw [e]; first | done | kernel_rfl)

def ContainsFunc_first (s : List Track) (c0 : List TubeNode) : Bool :=
  let r1 := IndexFunc_first s c0
  decide (r1 ≥ 0)

set_option maxRecDepth 100000 in
theorem ContainsFunc_first_w (A_s : Option Addr) (c_s : Nat) (s : List Track) (a_c0 : Addr) (A_c0 : Option Addr) (c_c0 : Nat) (c0 : List TubeNode) (w : World) (h_s : Rd w 13 A_s (s.map Track.c)) (hc_s : s.length ≤ c_s) (h_c0 : Rd w 1 (some a_c0) [Sl.c (⟨A_c0, c_c0, c0⟩ : Sl TubeNode)]) (hd_c0 : (⟨A_c0, c_c0, c0⟩ : Sl TubeNode).rd w 6 TubeNode.c) : Calls Try.prog 44 #[.slice A_s s.length c_s, .func (.func 45) #[] #[.pointer (some a_c0)]] w (Ret w (.bool (ContainsFunc_first s c0))) := by
  have s_s := h_s.short; rw [List.length_map] at s_s
  refine calls_intro (vs := [.slice A_s s.length c_s, .func (.func 45) #[] #[.pointer (some a_c0)]]) (w := w) Try.func44 rfl Try.ntmps44 rfl ?_
  refine TC.weak [(0, .slice A_s s.length c_s), (1, .func (.func 45) #[] #[.pointer (some a_c0)])] (by kernel_rfl) ?_
  refine TC.seq ?_
  refine TC.region ?_
  refine TL.run 1 [] [(0, .slice A_s s.length c_s), (1, .func (.func 45) #[] #[.pointer (some a_c0)])] rfl ⟨by kernel_rfl, by kernel_rfl⟩ ?_
  refine TL.next rfl ?_
  refine TC.seq ?_
  refine TC.region ?_
  refine TL.run 2 [] [(5, .slice A_s s.length c_s), (6, .func (.func 45) #[] #[.pointer (some a_c0)])] rfl ⟨by kernel_rfl, by kernel_rfl⟩ ?_
  refine TL.call (some 7) [(7, .int .i64 (IndexFunc_first s c0))] (fun w hM => IndexFunc_first_w A_s c_s s a_c0 A_c0 c_c0 c0 w (h_s.sat hM) hc_s (h_c0.sat hM) (hd_c0.sat hM)) (by kernel_rfl) (by kernel_rfl) ?_
  generalize hr1 : IndexFunc_first s c0 = r1
  refine TL.run 5 [] [(4, .bool (decide (r1 ≥ 0)))] rfl ⟨by kernel_rfl, by kernel_rfl⟩ ?_
  refine TL.next rfl ?_
  refine TC.ret ?_
  have e : ContainsFunc_first s c0 = (decide (r1 ≥ 0)) := by subst hr1; unfold ContainsFunc_first; exact rfl
  exact TE.ret [] (.bool (decide (r1 ≥ 0))) ⟨by kernel_rfl, by kernel_rfl⟩ (by rw [e]; first | done | kernel_rfl)

def skywaykeep2_ConformFirst (l : List Track) (t : List TubeNode) : Bool :=
  let r1 := skywaykeep2_line 100 300
  let r2 := conform_First ([(⟨0, 0, 50, ⟨10000, 0⟩, ⟨0, 0⟩, 5000, 0, 0, 0, 0, 0⟩ : Track), (⟨0, 0, 60, ⟨0, 90000⟩, ⟨0, 0⟩, 5000, 0, 0, 0, 0, 0⟩ : Track)]) r1
  cond ((r2.2 != 0) || (r2.1 != 1)) (
    false) (
    let r3 := conform_First l t
    cond ((r3.2 != 0) && (r3.2 != 8)) (
      r3.1 == 0) (
      cond (r3.2 == 0) (
        let r4 := conform_Compare (l[r3.1.toNat]?.getD Track.zero) t
        cond ((r4.2 != 0) || (r4.1 != 2)) (
          false) (
          let r5 := ContainsFunc_first (l.take r3.1.toNat) t
          !r5)) (
        let r6 := ContainsFunc_first (l.take (l.length : Int).toNat) t
        !r6)))

set_option maxRecDepth 100000 in
theorem skywaykeep2_ConformFirst_w (A_l : Option Addr) (c_l : Nat) (l : List Track) (A_t : Option Addr) (c_t : Nat) (t : List TubeNode) (w : World) (h_l : Rd w 13 A_l (l.map Track.c)) (hc_l : l.length ≤ c_l) (h_t : Rd w 6 A_t (t.map TubeNode.c)) (hc_t : t.length ≤ c_t) : Calls Try.prog 12 #[.slice A_l l.length c_l, .slice A_t t.length c_t] w (Ret w (.bool (skywaykeep2_ConformFirst l t))) := by
  have s_l := h_l.short; rw [List.length_map] at s_l
  have s_t := h_t.short; rw [List.length_map] at s_t
  refine calls_intro (vs := [.slice A_l l.length c_l, .slice A_t t.length c_t]) (w := w) Try.func12 rfl Try.ntmps12 rfl ?_
  refine TC.weak [(0, .slice A_l l.length c_l), (1, .slice A_t t.length c_t)] (by kernel_rfl) ?_
  refine TC.seq ?_
  refine TC.region ?_
  refine TL.write 0 (fun b1 => [(0, .slice A_l l.length c_l), (3, .pointer (some ⟨b1, 0, none⟩))]) (fun b1 => [.inl (b1, .cells #[.slice A_t t.length c_t] 53 (0, 0))]) (fun b1 => ⟨by kernel_rfl, by kernel_rfl⟩) (fun b1 => ?_)
  refine TL.run 2 [] [(0, .slice A_l l.length c_l), (3, .pointer (some ⟨b1, 0, none⟩))] rfl ⟨by kernel_rfl, by kernel_rfl⟩ ?_
  refine TL.next rfl ?_
  refine TC.seq ?_
  refine TC.region ?_
  refine TL.run 2 [] [(0, .slice A_l l.length c_l), (3, .pointer (some ⟨b1, 0, none⟩)), (14, .agg #[.int .i64 0, .int .i64 0, .int .i64 60, .int .i64 0, .int .i64 90000, .int .i64 0, .int .i64 0, .int .i64 5000, .int .i64 0, .int .i64 0, .int .i64 0, .int .i64 0, .int .i64 0])] rfl ⟨by kernel_rfl, by kernel_rfl⟩ ?_
  refine TL.write 0 (fun b2 => [(0, .slice A_l l.length c_l), (3, .pointer (some ⟨b1, 0, none⟩)), (5, .pointer (some ⟨b2, 0, none⟩)), (14, .agg #[.int .i64 0, .int .i64 0, .int .i64 60, .int .i64 0, .int .i64 90000, .int .i64 0, .int .i64 0, .int .i64 5000, .int .i64 0, .int .i64 0, .int .i64 0, .int .i64 0, .int .i64 0])]) (fun b2 => [.inl (b2, .cells (Track.c Track.zero) 33 (0, 0)), .inl (b1, .cells #[.slice A_t t.length c_t] 53 (0, 0))]) (fun b2 => ⟨by kernel_rfl, by kernel_rfl⟩) (fun b2 => ?_)
  refine TL.write 0 (fun _ => [(0, .slice A_l l.length c_l), (3, .pointer (some ⟨b1, 0, none⟩)), (5, .pointer (some ⟨b2, 0, none⟩))]) (fun _ => [.inl (b2, .cells #[.int .i64 0, .int .i64 0, .int .i64 60, .int .i64 0, .int .i64 90000, .int .i64 0, .int .i64 0, .int .i64 5000, .int .i64 0, .int .i64 0, .int .i64 0, .int .i64 0, .int .i64 0] 33 (0, 0)), .inl (b1, .cells #[.slice A_t t.length c_t] 53 (0, 0))]) (fun _ => ⟨by kernel_rfl, by kernel_rfl⟩) (fun _ => ?_)
  refine TL.next rfl ?_
  refine TC.seq ?_
  refine TC.seq ?_
  obtain ⟨r1, hr1⟩ : ∃ r, skywaykeep2_line 100 300 = r := ⟨_, rfl⟩
  obtain ⟨r2, hr2⟩ : ∃ r, conform_First ([(⟨0, 0, 50, ⟨10000, 0⟩, ⟨0, 0⟩, 5000, 0, 0, 0, 0, 0⟩ : Track), (⟨0, 0, 60, ⟨0, 90000⟩, ⟨0, 0⟩, 5000, 0, 0, 0, 0, 0⟩ : Track)]) r1 = r := ⟨_, rfl⟩
  refine TC.plan (G := Nat × (Option Addr × Nat)) (base := [(0, .slice A_l l.length c_l), (3, .pointer (some ⟨b1, 0, none⟩)), (5, .pointer (some ⟨b2, 0, none⟩))]) (vals := fun γ => [.agg #[.int .i64 10000, .int .i64 0], .agg #[.int .i64 0, .int .i64 0, .int .i64 50, .int .i64 10000, .int .i64 0, .int .i64 0, .int .i64 0, .int .i64 5000, .int .i64 0, .int .i64 0, .int .i64 0, .int .i64 0, .int .i64 0], .agg #[.int .i64 0, .int .i64 0, .int .i64 60, .int .i64 0, .int .i64 90000, .int .i64 0, .int .i64 0, .int .i64 5000, .int .i64 0, .int .i64 0, .int .i64 0, .int .i64 0, .int .i64 0], .slice (some ⟨γ.1, 0, none⟩) 2 2, .slice (γ.2.1) r1.length (γ.2.2), .tuple #[.int .i64 r2.1, .int .i64 r2.2], .tuple #[.int .i64 r2.1, .int .i64 r2.2], .int .i64 r2.1, .int .i64 r2.2, .int .i64 r2.1, .int .i64 r2.2]) (writes := [3, 4]) (mem := fun bs γ => match bs with | [x3_, x4_] => (bif x3_ then [.inl (γ.1, .cells #[.int .i64 0, .int .i64 0, .int .i64 50, .int .i64 10000, .int .i64 0, .int .i64 0, .int .i64 0, .int .i64 5000, .int .i64 0, .int .i64 0, .int .i64 0, .int .i64 0, .int .i64 0, .int .i64 0, .int .i64 0, .int .i64 60, .int .i64 0, .int .i64 90000, .int .i64 0, .int .i64 0, .int .i64 5000, .int .i64 0, .int .i64 0, .int .i64 0, .int .i64 0, .int .i64 0] 33 (0, 0))] else []) ++ ((bif x4_ then [.inr (Own (γ.2.1) (γ.2.2) 57 6 (r1.map TubeNode.c))] else []) ++ ([.inl (b2, .cells #[.int .i64 0, .int .i64 0, .int .i64 60, .int .i64 0, .int .i64 90000, .int .i64 0, .int .i64 0, .int .i64 5000, .int .i64 0, .int .i64 0, .int .i64 0, .int .i64 0, .int .i64 0] 33 (0, 0)), .inl (b1, .cells #[.slice A_t t.length c_t] 53 (0, 0))])) | _ => []) (0, (none, 0)) (fun γ => [(0, .slice A_l l.length c_l), (3, .pointer (some ⟨b1, 0, none⟩)), (6, .int .i64 r2.1), (7, .int .i64 r2.2)]) (by kernel_rfl) (by kernel_rfl) (by kernel_rfl) (by kernel_rfl) (by kernel_rfl) (fun γ => by kernel_rfl) (fun _ hM => hM) (fun γ => by kernel_rfl) ?_ ?_
  · skip
    refine Steps.run (i := 0) 3 [0, 0, 0] [.inl (b2, .cells #[.int .i64 0, .int .i64 0, .int .i64 60, .int .i64 0, .int .i64 90000, .int .i64 0, .int .i64 0, .int .i64 5000, .int .i64 0, .int .i64 0, .int .i64 0, .int .i64 0, .int .i64 0] 33 (0, 0)), .inl (b1, .cells #[.slice A_t t.length c_t] 53 (0, 0))] (by kernel_rfl) (by kernel_rfl) (fun S (γ : Nat × (Option Addr × Nat)) w hM => by change Sat _ ((bif S 3 then [.inl (γ.1, .cells #[.int .i64 0, .int .i64 0, .int .i64 50, .int .i64 10000, .int .i64 0, .int .i64 0, .int .i64 0, .int .i64 5000, .int .i64 0, .int .i64 0, .int .i64 0, .int .i64 0, .int .i64 0, .int .i64 0, .int .i64 0, .int .i64 60, .int .i64 0, .int .i64 90000, .int .i64 0, .int .i64 0, .int .i64 5000, .int .i64 0, .int .i64 0, .int .i64 0, .int .i64 0, .int .i64 0] 33 (0, 0))] else []) ++ ((bif S 4 then [.inr (Own (γ.2.1) (γ.2.2) 57 6 (r1.map TubeNode.c))] else []) ++ ([.inl (b2, .cells #[.int .i64 0, .int .i64 0, .int .i64 60, .int .i64 0, .int .i64 90000, .int .i64 0, .int .i64 0, .int .i64 5000, .int .i64 0, .int .i64 0, .int .i64 0, .int .i64 0, .int .i64 0] 33 (0, 0)), .inl (b1, .cells #[.slice A_t t.length c_t] 53 (0, 0))]))) w at hM; exact hM.sub (sub_skip (sub_skip (List.Sublist.refl _)))) (by kernel_rfl) (fun (γ : Nat × (Option Addr × Nat)) => ⟨by kernel_rfl, by kernel_rfl⟩) ?_
    refine Steps.op (i := 3) (Γ := Nat) (fun g (γ : Nat × (Option Addr × Nat)) => (g, γ.2)) (fun _ => []) (fun b (γ : Nat × (Option Addr × Nat)) => [.inl (b, .cells #[.int .i64 0, .int .i64 0, .int .i64 50, .int .i64 10000, .int .i64 0, .int .i64 0, .int .i64 0, .int .i64 5000, .int .i64 0, .int .i64 0, .int .i64 0, .int .i64 0, .int .i64 0, .int .i64 0, .int .i64 0, .int .i64 60, .int .i64 0, .int .i64 90000, .int .i64 0, .int .i64 0, .int .i64 5000, .int .i64 0, .int .i64 0, .int .i64 0, .int .i64 0, .int .i64 0] 33 (0, 0))]) (fun S (γ : Nat × (Option Addr × Nat)) => (bif S 4 then [.inr (Own (γ.2.1) (γ.2.2) 57 6 (r1.map TubeNode.c))] else []) ++ ([.inl (b2, .cells #[.int .i64 0, .int .i64 0, .int .i64 60, .int .i64 0, .int .i64 90000, .int .i64 0, .int .i64 0, .int .i64 5000, .int .i64 0, .int .i64 0, .int .i64 0, .int .i64 0, .int .i64 0] 33 (0, 0)), .inl (b1, .cells #[.slice A_t t.length c_t] 53 (0, 0))])) [3, 5, 6, 7, 8, 9, 10] (fun (γ : Nat × (Option Addr × Nat)) => sV (Instr.buildSlice 22 2 #[(0, .agg #[.int .i64 0, .int .i64 0, .int .i64 50, .int .i64 10000, .int .i64 0, .int .i64 0, .int .i64 0, .int .i64 5000, .int .i64 0, .int .i64 0, .int .i64 0, .int .i64 0, .int .i64 0]), (1, .agg #[.int .i64 0, .int .i64 0, .int .i64 60, .int .i64 0, .int .i64 90000, .int .i64 0, .int .i64 0, .int .i64 5000, .int .i64 0, .int .i64 0, .int .i64 0, .int .i64 0, .int .i64 0])])) (some 19) (fun b (γ : Nat × (Option Addr × Nat)) => .slice (some ⟨b, 0, none⟩) 2 2) (fun S (γ : Nat × (Option Addr × Nat)) hj hd hl => by change List.Perm (((bif S 3 then [.inl (γ.1, .cells #[.int .i64 0, .int .i64 0, .int .i64 50, .int .i64 10000, .int .i64 0, .int .i64 0, .int .i64 0, .int .i64 5000, .int .i64 0, .int .i64 0, .int .i64 0, .int .i64 0, .int .i64 0, .int .i64 0, .int .i64 0, .int .i64 60, .int .i64 0, .int .i64 90000, .int .i64 0, .int .i64 0, .int .i64 5000, .int .i64 0, .int .i64 0, .int .i64 0, .int .i64 0, .int .i64 0] 33 (0, 0))] else []) ++ ((bif S 4 then [.inr (Own (γ.2.1) (γ.2.2) 57 6 (r1.map TubeNode.c))] else []) ++ ([.inl (b2, .cells #[.int .i64 0, .int .i64 0, .int .i64 60, .int .i64 0, .int .i64 90000, .int .i64 0, .int .i64 0, .int .i64 5000, .int .i64 0, .int .i64 0, .int .i64 0, .int .i64 0, .int .i64 0] 33 (0, 0)), .inl (b1, .cells #[.slice A_t t.length c_t] 53 (0, 0))]))) : Mem) _; rw [hj]; exact List.Perm.refl _) (fun S (γ : Nat × (Option Addr × Nat)) g _ => (List.Perm.refl _).symm) (fun (γ : Nat × (Option Addr × Nat)) M' w hM => run_new (v := fun b => .slice (some ⟨b, 0, none⟩) 2 2) (fun b M => by kernel_rfl) M' w hM) (fun (γ : Nat × (Option Addr × Nat)) => by kernel_rfl) (fun (γ : Nat × (Option Addr × Nat)) g => by kernel_rfl) (by kernel_rfl) (fun (γ : Nat × (Option Addr × Nat)) g => by kernel_rfl) ?_
    refine Steps.callN (i := 4) (Γ := Option Addr × Nat) (fun g (γ : Nat × (Option Addr × Nat)) => (γ.1, g)) 39 (fun (γ : Nat × (Option Addr × Nat)) => #[.int .i64 100, .int .i64 300]) (fun (γ : Nat × (Option Addr × Nat)) => [.inl (b2, .cells #[.int .i64 0, .int .i64 0, .int .i64 60, .int .i64 0, .int .i64 90000, .int .i64 0, .int .i64 0, .int .i64 5000, .int .i64 0, .int .i64 0, .int .i64 0, .int .i64 0, .int .i64 0] 33 (0, 0)), .inl (b1, .cells #[.slice A_t t.length c_t] 53 (0, 0))]) (fun g (γ : Nat × (Option Addr × Nat)) => [.inr (Own (g.1) (g.2) 57 6 (r1.map TubeNode.c))]) [4, 5, 6, 7, 8, 9, 10] (some 20) (fun g (γ : Nat × (Option Addr × Nat)) => .slice (g.1) r1.length (g.2)) (fun S (γ : Nat × (Option Addr × Nat)) w _ hM => by change Sat _ ((bif S 3 then [.inl (γ.1, .cells #[.int .i64 0, .int .i64 0, .int .i64 50, .int .i64 10000, .int .i64 0, .int .i64 0, .int .i64 0, .int .i64 5000, .int .i64 0, .int .i64 0, .int .i64 0, .int .i64 0, .int .i64 0, .int .i64 0, .int .i64 0, .int .i64 60, .int .i64 0, .int .i64 90000, .int .i64 0, .int .i64 0, .int .i64 5000, .int .i64 0, .int .i64 0, .int .i64 0, .int .i64 0, .int .i64 0] 33 (0, 0))] else []) ++ ((bif S 4 then [.inr (Own (γ.2.1) (γ.2.2) 57 6 (r1.map TubeNode.c))] else []) ++ ([.inl (b2, .cells #[.int .i64 0, .int .i64 0, .int .i64 60, .int .i64 0, .int .i64 90000, .int .i64 0, .int .i64 0, .int .i64 5000, .int .i64 0, .int .i64 0, .int .i64 0, .int .i64 0, .int .i64 0] 33 (0, 0)), .inl (b1, .cells #[.slice A_t t.length c_t] 53 (0, 0))]))) w at hM; exact hM.sub (sub_skip (sub_skip (List.Sublist.refl _)))) (fun S (γ : Nat × (Option Addr × Nat)) g hj _ => by change List.Perm (_ ++ (((bif S 3 then [.inl (γ.1, .cells #[.int .i64 0, .int .i64 0, .int .i64 50, .int .i64 10000, .int .i64 0, .int .i64 0, .int .i64 0, .int .i64 5000, .int .i64 0, .int .i64 0, .int .i64 0, .int .i64 0, .int .i64 0, .int .i64 0, .int .i64 0, .int .i64 60, .int .i64 0, .int .i64 90000, .int .i64 0, .int .i64 0, .int .i64 5000, .int .i64 0, .int .i64 0, .int .i64 0, .int .i64 0, .int .i64 0] 33 (0, 0))] else []) ++ ((bif S 4 then [.inr (Own (γ.2.1) (γ.2.2) 57 6 (r1.map TubeNode.c))] else []) ++ ([.inl (b2, .cells #[.int .i64 0, .int .i64 0, .int .i64 60, .int .i64 0, .int .i64 90000, .int .i64 0, .int .i64 0, .int .i64 5000, .int .i64 0, .int .i64 0, .int .i64 0, .int .i64 0, .int .i64 0] 33 (0, 0)), .inl (b1, .cells #[.slice A_t t.length c_t] 53 (0, 0))]))) : Mem)) _; rw [hj]; exact ((List.Perm.append_left _ (List.Perm.refl _)).trans (perm_mid _ _ _)).symm) (fun (γ : Nat × (Option Addr × Nat)) w _ => by have h := skywaykeep2_line_w 100 300 w; rw [hr1] at h; exact h) (fun (γ : Nat × (Option Addr × Nat)) => by kernel_rfl) (fun (γ : Nat × (Option Addr × Nat)) g => by kernel_rfl) (by kernel_rfl) (fun (γ : Nat × (Option Addr × Nat)) g => by kernel_rfl) ?_
    refine Steps.call (i := 5) 43 (fun (γ : Nat × (Option Addr × Nat)) => #[.slice (some ⟨γ.1, 0, none⟩) 2 2, .slice (γ.2.1) r1.length (γ.2.2)]) (some 21) (fun (γ : Nat × (Option Addr × Nat)) => .tuple #[.int .i64 r2.1, .int .i64 r2.2]) (fun (γ : Nat × (Option Addr × Nat)) => [.inl (γ.1, .cells #[.int .i64 0, .int .i64 0, .int .i64 50, .int .i64 10000, .int .i64 0, .int .i64 0, .int .i64 0, .int .i64 5000, .int .i64 0, .int .i64 0, .int .i64 0, .int .i64 0, .int .i64 0, .int .i64 0, .int .i64 0, .int .i64 60, .int .i64 0, .int .i64 90000, .int .i64 0, .int .i64 0, .int .i64 5000, .int .i64 0, .int .i64 0, .int .i64 0, .int .i64 0, .int .i64 0] 33 (0, 0)), .inr (Own (γ.2.1) (γ.2.2) 57 6 (r1.map TubeNode.c)), .inl (b2, .cells #[.int .i64 0, .int .i64 0, .int .i64 60, .int .i64 0, .int .i64 90000, .int .i64 0, .int .i64 0, .int .i64 5000, .int .i64 0, .int .i64 0, .int .i64 0, .int .i64 0, .int .i64 0] 33 (0, 0)), .inl (b1, .cells #[.slice A_t t.length c_t] 53 (0, 0))]) (by kernel_rfl) (fun S (γ : Nat × (Option Addr × Nat)) w hd hM => by change Sat _ ((bif S 3 then [.inl (γ.1, .cells #[.int .i64 0, .int .i64 0, .int .i64 50, .int .i64 10000, .int .i64 0, .int .i64 0, .int .i64 0, .int .i64 5000, .int .i64 0, .int .i64 0, .int .i64 0, .int .i64 0, .int .i64 0, .int .i64 0, .int .i64 0, .int .i64 60, .int .i64 0, .int .i64 90000, .int .i64 0, .int .i64 0, .int .i64 5000, .int .i64 0, .int .i64 0, .int .i64 0, .int .i64 0, .int .i64 0] 33 (0, 0))] else []) ++ ((bif S 4 then [.inr (Own (γ.2.1) (γ.2.2) 57 6 (r1.map TubeNode.c))] else []) ++ ([.inl (b2, .cells #[.int .i64 0, .int .i64 0, .int .i64 60, .int .i64 0, .int .i64 90000, .int .i64 0, .int .i64 0, .int .i64 5000, .int .i64 0, .int .i64 0, .int .i64 0, .int .i64 0, .int .i64 0] 33 (0, 0)), .inl (b1, .cells #[.slice A_t t.length c_t] 53 (0, 0))]))) w at hM; exact hM.sub (sub_keep (by rw [hd 3 (by kernel_rfl)]; rfl) (sub_keep (by rw [hd 4 (by kernel_rfl)]; rfl) (List.Sublist.refl _)))) (fun (γ : Nat × (Option Addr × Nat)) w hM => by have h := conform_First_w (some ⟨γ.1, 0, none⟩) 2 ([(⟨0, 0, 50, ⟨10000, 0⟩, ⟨0, 0⟩, 5000, 0, 0, 0, 0, 0⟩ : Track), (⟨0, 0, 60, ⟨0, 90000⟩, ⟨0, 0⟩, 5000, 0, 0, 0, 0, 0⟩ : Track)]) (γ.2.1) (γ.2.2) r1 w (Rd.lit hM 0 _ rfl (by kernel_rfl) (by kernel_rfl) (by kernel_rfl)) (Nat.le_refl _) (hM.rd_at 1 rfl) (hM.le_at 1 rfl); rw [hr2] at h; exact h) (fun (γ : Nat × (Option Addr × Nat)) => by kernel_rfl) (fun (γ : Nat × (Option Addr × Nat)) => by kernel_rfl) ?_
    refine Steps.run (i := 6) 11 [0, 0, 0, 0, 0] [.inl (b2, .cells #[.int .i64 0, .int .i64 0, .int .i64 60, .int .i64 0, .int .i64 90000, .int .i64 0, .int .i64 0, .int .i64 5000, .int .i64 0, .int .i64 0, .int .i64 0, .int .i64 0, .int .i64 0] 33 (0, 0)), .inl (b1, .cells #[.slice A_t t.length c_t] 53 (0, 0))] (by kernel_rfl) (by kernel_rfl) (fun S (γ : Nat × (Option Addr × Nat)) w hM => by change Sat _ ((bif S 3 then [.inl (γ.1, .cells #[.int .i64 0, .int .i64 0, .int .i64 50, .int .i64 10000, .int .i64 0, .int .i64 0, .int .i64 0, .int .i64 5000, .int .i64 0, .int .i64 0, .int .i64 0, .int .i64 0, .int .i64 0, .int .i64 0, .int .i64 0, .int .i64 60, .int .i64 0, .int .i64 90000, .int .i64 0, .int .i64 0, .int .i64 5000, .int .i64 0, .int .i64 0, .int .i64 0, .int .i64 0, .int .i64 0] 33 (0, 0))] else []) ++ ((bif S 4 then [.inr (Own (γ.2.1) (γ.2.2) 57 6 (r1.map TubeNode.c))] else []) ++ ([.inl (b2, .cells #[.int .i64 0, .int .i64 0, .int .i64 60, .int .i64 0, .int .i64 90000, .int .i64 0, .int .i64 0, .int .i64 5000, .int .i64 0, .int .i64 0, .int .i64 0, .int .i64 0, .int .i64 0] 33 (0, 0)), .inl (b1, .cells #[.slice A_t t.length c_t] 53 (0, 0))]))) w at hM; exact hM.sub (sub_skip (sub_skip (List.Sublist.refl _)))) (by kernel_rfl) (fun (γ : Nat × (Option Addr × Nat)) => ⟨by kernel_rfl, by kernel_rfl⟩) ?_
    exact Steps.done (by kernel_rfl)
  · rintro ⟨b3, ⟨A, c⟩⟩
    refine TE.conv [.inl (b3, .cells #[.int .i64 0, .int .i64 0, .int .i64 50, .int .i64 10000, .int .i64 0, .int .i64 0, .int .i64 0, .int .i64 5000, .int .i64 0, .int .i64 0, .int .i64 0, .int .i64 0, .int .i64 0, .int .i64 0, .int .i64 0, .int .i64 60, .int .i64 0, .int .i64 90000, .int .i64 0, .int .i64 0, .int .i64 5000, .int .i64 0, .int .i64 0, .int .i64 0, .int .i64 0, .int .i64 0] 33 (0, 0)), .inr (Own A c 57 6 (r1.map TubeNode.c)), .inl (b2, .cells #[.int .i64 0, .int .i64 0, .int .i64 60, .int .i64 0, .int .i64 90000, .int .i64 0, .int .i64 0, .int .i64 5000, .int .i64 0, .int .i64 0, .int .i64 0, .int .i64 0, .int .i64 0] 33 (0, 0)), .inl (b1, .cells #[.slice A_t t.length c_t] 53 (0, 0))] (fun _ hM => hM) ?_
    refine TE.next ?_
    refine TC.seq ?_
    refine TC.region ?_
    refine TL.run 3 [] [(0, .slice A_l l.length c_l), (3, .pointer (some ⟨b1, 0, none⟩)), (6, .int .i64 r2.1), (26, .bool (r2.2 != 0))] rfl ⟨by kernel_rfl, by kernel_rfl⟩ ?_
    refine TL.join 26 (r2.2 != 0) 6 [] [] (fun β => [(0, .slice A_l l.length c_l), (3, .pointer (some ⟨b1, 0, none⟩)), (29, .bool (β || (r2.1 != 1)))]) (by kernel_rfl) rfl ⟨by kernel_rfl, by kernel_rfl⟩ ⟨by kernel_rfl, by kernel_rfl⟩ ?_
    refine TL.next rfl ?_
    refine TC.cond ((r2.2 != 0) || (r2.1 != 1)) rfl (by kernel_rfl) (fun h1 => ?_) (fun h1 => ?_)
    · refine TC.seq ?_
      refine TC.region ?_
      refine TL.run 1 [] [(4, .bool false)] rfl ⟨by kernel_rfl, by kernel_rfl⟩ ?_
      refine TL.next rfl ?_
      refine TC.ret ?_
      refine TE.ret_then ?_
      have e : skywaykeep2_ConformFirst l t = false := by subst hr1 hr2; unfold skywaykeep2_ConformFirst; exact cond_t h1 (rfl)
      exact TE.ret [] (.bool false) ⟨by kernel_rfl, by kernel_rfl⟩ (by rw [e]; first | done | kernel_rfl)
    · refine TC.skip ?_
      refine TE.next ?_
      refine TC.seq ?_
      refine TC.region ?_
      refine TL.run 2 [3] [(0, .slice A_l l.length c_l), (3, .pointer (some ⟨b1, 0, none⟩)), (31, .slice A_l l.length c_l), (32, .slice A_t t.length c_t)] rfl ⟨by kernel_rfl, by kernel_rfl⟩ ?_
      refine TL.call (some 33) [(0, .slice A_l l.length c_l), (3, .pointer (some ⟨b1, 0, none⟩)), (33, .tuple #[.int .i64 ((conform_First l t).1), .int .i64 ((conform_First l t).2)])] (fun w hM => conform_First_w A_l c_l l A_t c_t t w (h_l.sat hM) hc_l (h_t.sat hM) hc_t) (by kernel_rfl) (by kernel_rfl) ?_
      generalize hr3 : conform_First l t = r3
      refine TL.run 8 [] [(0, .slice A_l l.length c_l), (3, .pointer (some ⟨b1, 0, none⟩)), (8, .int .i64 r3.1), (9, .int .i64 r3.2)] rfl ⟨by kernel_rfl, by kernel_rfl⟩ ?_
      refine TL.next rfl ?_
      refine TC.seq ?_
      refine TC.seq ?_
      refine TC.region ?_
      refine TL.run 3 [] [(0, .slice A_l l.length c_l), (3, .pointer (some ⟨b1, 0, none⟩)), (8, .int .i64 r3.1), (9, .int .i64 r3.2), (38, .bool (r3.2 != 0))] rfl ⟨by kernel_rfl, by kernel_rfl⟩ ?_
      refine TL.join 38 (r3.2 != 0) 6 [] [] (fun β => [(0, .slice A_l l.length c_l), (3, .pointer (some ⟨b1, 0, none⟩)), (8, .int .i64 r3.1), (9, .int .i64 r3.2), (41, .bool (β && (r3.2 != 8)))]) (by kernel_rfl) rfl ⟨by kernel_rfl, by kernel_rfl⟩ ⟨by kernel_rfl, by kernel_rfl⟩ ?_
      refine TL.next rfl ?_
      refine TC.cond ((r3.2 != 0) && (r3.2 != 8)) rfl (by kernel_rfl) (fun h2 => ?_) (fun h2 => ?_)
      · refine TC.seq ?_
        refine TC.region ?_
        refine TL.run 3 [] [(4, .bool (r3.1 == 0))] rfl ⟨by kernel_rfl, by kernel_rfl⟩ ?_
        refine TL.next rfl ?_
        refine TC.ret ?_
        refine TE.ret_then ?_
        have e : skywaykeep2_ConformFirst l t = (r3.1 == 0) := by subst hr1 hr2 hr3; unfold skywaykeep2_ConformFirst; exact cond_f h1 (cond_t h2 (rfl))
        exact TE.ret [] (.bool (r3.1 == 0)) ⟨by kernel_rfl, by kernel_rfl⟩ (by rw [e]; first | done | kernel_rfl)
      · refine TC.skip ?_
        refine TE.next ?_
        refine TC.seq ?_
        refine TC.region ?_
        refine TL.run 3 [] [(0, .slice A_l l.length c_l), (3, .pointer (some ⟨b1, 0, none⟩)), (8, .int .i64 r3.1), (9, .int .i64 r3.2), (10, .int .i64 (l.length : Int))] rfl ⟨by kernel_rfl, by kernel_rfl⟩ ?_
        refine TL.next rfl ?_
        refine TC.seq ?_
        refine TC.seq ?_
        refine TC.region ?_
        refine TL.run 2 [] [(0, .slice A_l l.length c_l), (3, .pointer (some ⟨b1, 0, none⟩)), (8, .int .i64 r3.1), (10, .int .i64 (l.length : Int)), (47, .bool (r3.2 == 0))] rfl ⟨by kernel_rfl, by kernel_rfl⟩ ?_
        refine TL.next rfl ?_
        refine TC.cond (r3.2 == 0) rfl (by kernel_rfl) (fun h3 => ?_) (fun h3 => ?_)
        · refine TC.seq ?_
          refine TC.region ?_
          refine TL.run 2 [] [(0, .slice A_l l.length c_l), (3, .pointer (some ⟨b1, 0, none⟩)), (8, .int .i64 r3.1), (10, .int .i64 r3.1)] rfl ⟨by kernel_rfl, by kernel_rfl⟩ ?_
          refine TL.next rfl ?_
          refine TC.seq ?_
          refine TC.draw 11 (by kernel_rfl) (by kernel_rfl) (by kernel_rfl) ?_
          refine TQ.run 2 [] [(0, .slice A_l l.length c_l), (3, .pointer (some ⟨b1, 0, none⟩)), (10, .int .i64 r3.1), (50, .slice A_l l.length c_l), (51, .int .i64 r3.1)] rfl ⟨by kernel_rfl, by kernel_rfl⟩ ?_
          refine TQ.val (sV (Instr.indexAt 22 (.slice A_l l.length c_l) (.int .i64 r3.1))) (some 52) (.pointer (some ((A_l.getD noAddr).add (r3.1.toNat * 13)))) [(0, .slice A_l l.length c_l), (3, .pointer (some ⟨b1, 0, none⟩)), (10, .int .i64 r3.1), (52, .pointer (some ((A_l.getD noAddr).add (r3.1.toNat * 13))))] (fun w hM => run_index (h_l.sat hM) (by simp) (by kernel_rfl) (by have q0_ := (bne_f (or_f1 h1)); have q1_ := (bne_f (or_f2 h1)); have q2_ := ((and_f h2).imp (fun h => (bne_f h)) (fun h => (bne_f h))); have q3_ := (beq_t h3); (try have uk_ := first_in hr3 ‹(r3.2 == 0) = true›); first | omega | (simp only [List.length_drop]; omega) | (simp only [w64_eq]; omega) | exact (tm_in (by (first | (rw [w64_id (by omega)]; omega) | (simp only [w64_eq]; omega))) (by omega)).1 | exact (tm_in (by (first | (rw [w64_id (by omega)]; omega) | (simp only [w64_eq]; omega))) (by omega)).2.1 | exact (tm_in (by (first | (rw [w64_id (by omega)]; omega) | (simp only [w64_eq]; omega))) (by omega)).2.2 | (simp <;> omega)) (by have q0_ := (bne_f (or_f1 h1)); have q1_ := (bne_f (or_f2 h1)); have q2_ := ((and_f h2).imp (fun h => (bne_f h)) (fun h => (bne_f h))); have q3_ := (beq_t h3); (try have uk_ := first_in hr3 ‹(r3.2 == 0) = true›); first | omega | (simp only [List.length_drop]; omega) | (simp only [w64_eq]; omega) | exact (tm_in (by (first | (rw [w64_id (by omega)]; omega) | (simp only [w64_eq]; omega))) (by omega)).1 | exact (tm_in (by (first | (rw [w64_id (by omega)]; omega) | (simp only [w64_eq]; omega))) (by omega)).2.1 | exact (tm_in (by (first | (rw [w64_id (by omega)]; omega) | (simp only [w64_eq]; omega))) (by omega)).2.2 | (simp <;> omega))) rfl (by kernel_rfl) (by kernel_rfl) ?_
          refine TQ.val (sV (Instr.loadAt 33 (.pointer (some ((A_l.getD noAddr).add (r3.1.toNat * 13)))))) (some 53) (Track.v (l[r3.1.toNat]?.getD Track.zero)) [(0, .slice A_l l.length c_l), (3, .pointer (some ⟨b1, 0, none⟩)), (10, .int .i64 r3.1), (53, Track.v (l[r3.1.toNat]?.getD Track.zero))] (fun w hM => run_load_agg (n := 13) (off := 0) (i := r3.1.toNat) (Track.v (l[r3.1.toNat]?.getD Track.zero)) (h_l.sat hM) (map_at (getD_at _ _ Track.zero (by have q0_ := (bne_f (or_f1 h1)); have q1_ := (bne_f (or_f2 h1)); have q2_ := ((and_f h2).imp (fun h => (bne_f h)) (fun h => (bne_f h))); have q3_ := (beq_t h3); (try have uk_ := first_in hr3 ‹(r3.2 == 0) = true›); first | omega | (simp only [List.length_drop]; omega) | (simp only [w64_eq]; omega) | exact (tm_in (by (first | (rw [w64_id (by omega)]; omega) | (simp only [w64_eq]; omega))) (by omega)).1 | exact (tm_in (by (first | (rw [w64_id (by omega)]; omega) | (simp only [w64_eq]; omega))) (by omega)).2.1 | exact (tm_in (by (first | (rw [w64_id (by omega)]; omega) | (simp only [w64_eq]; omega))) (by omega)).2.2 | (simp <;> omega)))) (by kernel_rfl) (by kernel_rfl) (by kernel_rfl)) rfl (by kernel_rfl) (by kernel_rfl) ?_
          refine TQ.run 5 [3] [(0, .slice A_l l.length c_l), (3, .pointer (some ⟨b1, 0, none⟩)), (10, .int .i64 r3.1), (53, Track.v (l[r3.1.toNat]?.getD Track.zero)), (54, .slice A_t t.length c_t)] rfl ⟨by kernel_rfl, by kernel_rfl⟩ ?_
          refine TQ.call (some 55) [(0, .slice A_l l.length c_l), (3, .pointer (some ⟨b1, 0, none⟩)), (10, .int .i64 r3.1), (55, .tuple #[.int .i64 ((conform_Compare (l[r3.1.toNat]?.getD Track.zero) t).1), .int .i64 ((conform_Compare (l[r3.1.toNat]?.getD Track.zero) t).2)])] (fun w hM => conform_Compare_w (l[r3.1.toNat]?.getD Track.zero) A_t c_t t w (h_t.sat hM) hc_t) rfl (by kernel_rfl) (by kernel_rfl) ?_
          generalize hr4 : conform_Compare (l[r3.1.toNat]?.getD Track.zero) t = r4
          refine TQ.run 11 [] [(0, .slice A_l l.length c_l), (3, .pointer (some ⟨b1, 0, none⟩)), (10, .int .i64 r3.1), (11, .int .i64 r4.1), (12, .int .i64 r4.2)] rfl ⟨by kernel_rfl, by kernel_rfl⟩ ?_
          refine TQ.next rfl ?_
          refine TC.seq ?_
          refine TC.region ?_
          refine TL.run 3 [] [(0, .slice A_l l.length c_l), (3, .pointer (some ⟨b1, 0, none⟩)), (10, .int .i64 r3.1), (11, .int .i64 r4.1), (60, .bool (r4.2 != 0))] rfl ⟨by kernel_rfl, by kernel_rfl⟩ ?_
          refine TL.join 60 (r4.2 != 0) 6 [] [] (fun β => [(0, .slice A_l l.length c_l), (3, .pointer (some ⟨b1, 0, none⟩)), (10, .int .i64 r3.1), (63, .bool (β || (r4.1 != 2)))]) (by kernel_rfl) rfl ⟨by kernel_rfl, by kernel_rfl⟩ ⟨by kernel_rfl, by kernel_rfl⟩ ?_
          refine TL.next rfl ?_
          refine TC.cond ((r4.2 != 0) || (r4.1 != 2)) rfl (by kernel_rfl) (fun h4 => ?_) (fun h4 => ?_)
          · refine TC.seq ?_
            refine TC.region ?_
            refine TL.run 1 [] [(4, .bool false)] rfl ⟨by kernel_rfl, by kernel_rfl⟩ ?_
            refine TL.next rfl ?_
            refine TC.ret ?_
            refine TE.ret_then ?_
            have e : skywaykeep2_ConformFirst l t = false := by subst hr1 hr2 hr3 hr4; unfold skywaykeep2_ConformFirst; exact cond_f h1 (cond_f h2 (cond_t h3 (cond_t h4 (rfl))))
            exact TE.ret [] (.bool false) ⟨by kernel_rfl, by kernel_rfl⟩ (by rw [e]; first | done | kernel_rfl)
          · refine TC.skip ?_
            refine TE.next ?_
            refine TC.seq ?_
            refine TC.region ?_
            refine TL.run 2 [] [(3, .pointer (some ⟨b1, 0, none⟩)), (64, .slice A_l l.length c_l), (65, .int .i64 r3.1)] rfl ⟨by kernel_rfl, by kernel_rfl⟩ ?_
            obtain ⟨A1, hA1⟩ : ∃ A, A = (if c_l = 0 then A_l else A_l.map (fun a => a.add (0 * 13))) := ⟨_, rfl⟩
            have hR1 : Rd w 13 A1 ((l.take r3.1.toNat).map Track.c) := by rw [hA1]; exact h_l.cutMap 0 _ hc_l
            have hC1 : (l.take r3.1.toNat).length ≤ (c_l - 0) := by simp only [List.length_take]; omega
            have s_hR1 := hR1.short; rw [List.length_map] at s_hR1
            refine TL.val (sV (Instr.sliceAt 22 (.slice A_l l.length c_l) none (some (.int .i64 r3.1)) none)) (some 66) (.slice A1 ((l.take r3.1.toNat).length) (c_l - 0)) [(3, .pointer (some ⟨b1, 0, none⟩)), (66, .slice A1 ((l.take r3.1.toNat).length) (c_l - 0))] (fun w hM => (run_slice 0 r3.1.toNat (by kernel_rfl) (.inl ⟨rfl, rfl⟩) (.inr ⟨_, _, rfl, (by have q0_ := (bne_f (or_f1 h1)); have q1_ := (bne_f (or_f2 h1)); have q2_ := ((and_f h2).imp (fun h => (bne_f h)) (fun h => (bne_f h))); have q3_ := (beq_t h3); have q4_ := (bne_f (or_f1 h4)); have q5_ := (bne_f (or_f2 h4)); (try have uk_ := first_in hr3 ‹(r3.2 == 0) = true›); first | omega | (simp only [List.length_drop]; omega) | (simp only [w64_eq]; omega) | exact (tm_in (by (first | (rw [w64_id (by omega)]; omega) | (simp only [w64_eq]; omega))) (by omega)).1 | exact (tm_in (by (first | (rw [w64_id (by omega)]; omega) | (simp only [w64_eq]; omega))) (by omega)).2.1 | exact (tm_in (by (first | (rw [w64_id (by omega)]; omega) | (simp only [w64_eq]; omega))) (by omega)).2.2 | (simp <;> omega)), rfl⟩) (by have q0_ := (bne_f (or_f1 h1)); have q1_ := (bne_f (or_f2 h1)); have q2_ := ((and_f h2).imp (fun h => (bne_f h)) (fun h => (bne_f h))); have q3_ := (beq_t h3); have q4_ := (bne_f (or_f1 h4)); have q5_ := (bne_f (or_f2 h4)); (try have uk_ := first_in hr3 ‹(r3.2 == 0) = true›); first | omega | (simp only [List.length_drop]; omega) | (simp only [w64_eq]; omega) | exact (tm_in (by (first | (rw [w64_id (by omega)]; omega) | (simp only [w64_eq]; omega))) (by omega)).1 | exact (tm_in (by (first | (rw [w64_id (by omega)]; omega) | (simp only [w64_eq]; omega))) (by omega)).2.1 | exact (tm_in (by (first | (rw [w64_id (by omega)]; omega) | (simp only [w64_eq]; omega))) (by omega)).2.2 | (simp <;> omega)) (by have q0_ := (bne_f (or_f1 h1)); have q1_ := (bne_f (or_f2 h1)); have q2_ := ((and_f h2).imp (fun h => (bne_f h)) (fun h => (bne_f h))); have q3_ := (beq_t h3); have q4_ := (bne_f (or_f1 h4)); have q5_ := (bne_f (or_f2 h4)); (try have uk_ := first_in hr3 ‹(r3.2 == 0) = true›); first | omega | (simp only [List.length_drop]; omega) | (simp only [w64_eq]; omega) | exact (tm_in (by (first | (rw [w64_id (by omega)]; omega) | (simp only [w64_eq]; omega))) (by omega)).1 | exact (tm_in (by (first | (rw [w64_id (by omega)]; omega) | (simp only [w64_eq]; omega))) (by omega)).2.1 | exact (tm_in (by (first | (rw [w64_id (by omega)]; omega) | (simp only [w64_eq]; omega))) (by omega)).2.2 | (simp <;> omega))).trans (by rw [hA1]; have q0_ := (bne_f (or_f1 h1)); have q1_ := (bne_f (or_f2 h1)); have q2_ := ((and_f h2).imp (fun h => (bne_f h)) (fun h => (bne_f h))); have q3_ := (beq_t h3); have q4_ := (bne_f (or_f1 h4)); have q5_ := (bne_f (or_f2 h4)); (try have uk_ := first_in hr3 ‹(r3.2 == 0) = true›); congr 3; simp only [List.length_take] <;> omega)) (by kernel_rfl) (by kernel_rfl) ?_
            refine TL.run 4 [] [(66, .slice A1 ((l.take r3.1.toNat).length) (c_l - 0)), (67, .func (.func 45) #[] #[.pointer (some ⟨b1, 0, none⟩)])] rfl ⟨by kernel_rfl, by kernel_rfl⟩ ?_
            refine TL.call (some 68) [(68, .bool ((ContainsFunc_first (l.take r3.1.toNat) t)))] (fun w hM => ContainsFunc_first_w A1 (c_l - 0) (l.take r3.1.toNat) ⟨b1, 0, none⟩ A_t c_t t w (hR1.sat hM) hC1 (Rd.lit hM 3 _ rfl (by kernel_rfl) (by kernel_rfl) (by kernel_rfl)) ⟨(h_t.sat hM), hc_t⟩) (by kernel_rfl) (by kernel_rfl) ?_
            generalize hr5 : ContainsFunc_first (l.take r3.1.toNat) t = r5
            refine TL.run 7 [] [(4, .bool (!r5))] rfl ⟨by kernel_rfl, by kernel_rfl⟩ ?_
            refine TL.next rfl ?_
            refine TC.ret ?_
            have e : skywaykeep2_ConformFirst l t = (!r5) := by subst hr1 hr2 hr3 hr4 hr5; unfold skywaykeep2_ConformFirst; exact cond_f h1 (cond_f h2 (cond_t h3 (cond_f h4 (rfl))))
            exact TE.ret [] (.bool (!r5)) ⟨by kernel_rfl, by kernel_rfl⟩ (by rw [e]; first | done | kernel_rfl)
        · refine TC.skip ?_
          refine TE.next ?_
          refine TC.seq ?_
          refine TC.region ?_
          refine TL.run 2 [] [(3, .pointer (some ⟨b1, 0, none⟩)), (64, .slice A_l l.length c_l), (65, .int .i64 (l.length : Int))] rfl ⟨by kernel_rfl, by kernel_rfl⟩ ?_
          obtain ⟨A1_2, hA1_2⟩ : ∃ A, A = (if c_l = 0 then A_l else A_l.map (fun a => a.add (0 * 13))) := ⟨_, rfl⟩
          have hR1_2 : Rd w 13 A1_2 ((l.take (l.length : Int).toNat).map Track.c) := by rw [hA1_2]; exact h_l.cutMap 0 _ hc_l
          have hC1_2 : (l.take (l.length : Int).toNat).length ≤ (c_l - 0) := by simp only [List.length_take]; omega
          have s_hR1_2 := hR1_2.short; rw [List.length_map] at s_hR1_2
          refine TL.val (sV (Instr.sliceAt 22 (.slice A_l l.length c_l) none (some (.int .i64 (l.length : Int))) none)) (some 66) (.slice A1_2 ((l.take (l.length : Int).toNat).length) (c_l - 0)) [(3, .pointer (some ⟨b1, 0, none⟩)), (66, .slice A1_2 ((l.take (l.length : Int).toNat).length) (c_l - 0))] (fun w hM => (run_slice 0 (l.length : Int).toNat (by kernel_rfl) (.inl ⟨rfl, rfl⟩) (.inr ⟨_, _, rfl, (by have q0_ := (bne_f (or_f1 h1)); have q1_ := (bne_f (or_f2 h1)); have q2_ := ((and_f h2).imp (fun h => (bne_f h)) (fun h => (bne_f h))); have q3_ := (beq_f h3); (try have uk_ := first_in hr3 ‹(r3.2 == 0) = true›); first | omega | (simp only [List.length_drop]; omega) | (simp only [w64_eq]; omega) | exact (tm_in (by (first | (rw [w64_id (by omega)]; omega) | (simp only [w64_eq]; omega))) (by omega)).1 | exact (tm_in (by (first | (rw [w64_id (by omega)]; omega) | (simp only [w64_eq]; omega))) (by omega)).2.1 | exact (tm_in (by (first | (rw [w64_id (by omega)]; omega) | (simp only [w64_eq]; omega))) (by omega)).2.2 | (simp <;> omega)), rfl⟩) (by have q0_ := (bne_f (or_f1 h1)); have q1_ := (bne_f (or_f2 h1)); have q2_ := ((and_f h2).imp (fun h => (bne_f h)) (fun h => (bne_f h))); have q3_ := (beq_f h3); (try have uk_ := first_in hr3 ‹(r3.2 == 0) = true›); first | omega | (simp only [List.length_drop]; omega) | (simp only [w64_eq]; omega) | exact (tm_in (by (first | (rw [w64_id (by omega)]; omega) | (simp only [w64_eq]; omega))) (by omega)).1 | exact (tm_in (by (first | (rw [w64_id (by omega)]; omega) | (simp only [w64_eq]; omega))) (by omega)).2.1 | exact (tm_in (by (first | (rw [w64_id (by omega)]; omega) | (simp only [w64_eq]; omega))) (by omega)).2.2 | (simp <;> omega)) (by have q0_ := (bne_f (or_f1 h1)); have q1_ := (bne_f (or_f2 h1)); have q2_ := ((and_f h2).imp (fun h => (bne_f h)) (fun h => (bne_f h))); have q3_ := (beq_f h3); (try have uk_ := first_in hr3 ‹(r3.2 == 0) = true›); first | omega | (simp only [List.length_drop]; omega) | (simp only [w64_eq]; omega) | exact (tm_in (by (first | (rw [w64_id (by omega)]; omega) | (simp only [w64_eq]; omega))) (by omega)).1 | exact (tm_in (by (first | (rw [w64_id (by omega)]; omega) | (simp only [w64_eq]; omega))) (by omega)).2.1 | exact (tm_in (by (first | (rw [w64_id (by omega)]; omega) | (simp only [w64_eq]; omega))) (by omega)).2.2 | (simp <;> omega))).trans (by rw [hA1_2]; have q0_ := (bne_f (or_f1 h1)); have q1_ := (bne_f (or_f2 h1)); have q2_ := ((and_f h2).imp (fun h => (bne_f h)) (fun h => (bne_f h))); have q3_ := (beq_f h3); (try have uk_ := first_in hr3 ‹(r3.2 == 0) = true›); congr 3; simp only [List.length_take] <;> omega)) (by kernel_rfl) (by kernel_rfl) ?_
          refine TL.run 4 [] [(66, .slice A1_2 ((l.take (l.length : Int).toNat).length) (c_l - 0)), (67, .func (.func 45) #[] #[.pointer (some ⟨b1, 0, none⟩)])] rfl ⟨by kernel_rfl, by kernel_rfl⟩ ?_
          refine TL.call (some 68) [(68, .bool ((ContainsFunc_first (l.take (l.length : Int).toNat) t)))] (fun w hM => ContainsFunc_first_w A1_2 (c_l - 0) (l.take (l.length : Int).toNat) ⟨b1, 0, none⟩ A_t c_t t w (hR1_2.sat hM) hC1_2 (Rd.lit hM 3 _ rfl (by kernel_rfl) (by kernel_rfl) (by kernel_rfl)) ⟨(h_t.sat hM), hc_t⟩) (by kernel_rfl) (by kernel_rfl) ?_
          generalize hr6 : ContainsFunc_first (l.take (l.length : Int).toNat) t = r6
          refine TL.run 7 [] [(4, .bool (!r6))] rfl ⟨by kernel_rfl, by kernel_rfl⟩ ?_
          refine TL.next rfl ?_
          refine TC.ret ?_
          have e : skywaykeep2_ConformFirst l t = (!r6) := by subst hr1 hr2 hr3 hr6; unfold skywaykeep2_ConformFirst; exact cond_f h1 (cond_f h2 (cond_f h3 (rfl)))
          exact TE.ret [] (.bool (!r6)) ⟨by kernel_rfl, by kernel_rfl⟩ (by rw [e]; first | done | kernel_rfl)

end Go.Sky
