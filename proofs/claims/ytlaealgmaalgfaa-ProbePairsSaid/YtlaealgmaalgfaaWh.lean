/- Functions of the program, each with the Lean function that it computes. Conditions: none. -/
import Derived.Test.YtlaealgmaalgfaaNode
import Derived.Test.YtlaealgmaalgfaaThick
namespace Go.Sky
open Go Go.Eng Go.Proofs
def probe_CheckSep (s : Sep) : Int :=
  cond ((((decide (s.Lateral < 0)) || (decide (s.Lateral > 1000000))) || (decide (s.Vertical < 0))) || (decide (s.Vertical > 60000))) (
    4) (
    0)

set_option maxRecDepth 100000 in
theorem probe_CheckSep_w (s : Sep) (w : World) : Calls Try.prog 49 #[Sep.v s] w (Ret w (.int .i64 (probe_CheckSep s))) := by
  refine calls_intro (vs := [Sep.v s]) (w := w) Try.func49 rfl Try.ntmps49 rfl ?_
  refine TC.weak [(0, Sep.v s)] (by kernel_rfl) ?_
  refine TC.seq ?_
  refine TC.region ?_
  refine TL.write 0 (fun b1 => [(1, .pointer (some ⟨b1, 0, none⟩))]) (fun b1 => [.inl (b1, .cells (Sep.c s) 84 (0, 0))]) (fun b1 => ⟨by kernel_rfl, by kernel_rfl⟩) (fun b1 => ?_)
  refine TL.run 2 [] [(1, .pointer (some ⟨b1, 0, none⟩))] rfl ⟨by kernel_rfl, by kernel_rfl⟩ ?_
  refine TL.next rfl ?_
  refine TC.seq ?_
  refine TC.seq ?_
  refine TC.region ?_
  refine TL.run 4 [0] [(1, .pointer (some ⟨b1, 0, none⟩)), (6, .bool (decide (s.Lateral < 0)))] rfl ⟨by kernel_rfl, by kernel_rfl⟩ ?_
  refine TL.join 6 (decide (s.Lateral < 0)) 8 [] [0] (fun β => [(1, .pointer (some ⟨b1, 0, none⟩)), (10, .bool (β || (decide (s.Lateral > 1000000))))]) (by kernel_rfl) rfl ⟨by kernel_rfl, by kernel_rfl⟩ ⟨by kernel_rfl, by kernel_rfl⟩ ?_
  refine TL.run 9 [] [(1, .pointer (some ⟨b1, 0, none⟩)), (11, .bool ((decide (s.Lateral < 0)) || (decide (s.Lateral > 1000000))))] rfl ⟨by kernel_rfl, by kernel_rfl⟩ ?_
  refine TL.join 11 ((decide (s.Lateral < 0)) || (decide (s.Lateral > 1000000))) 13 [] [0] (fun β => [(1, .pointer (some ⟨b1, 0, none⟩)), (15, .bool (β || (decide (s.Vertical < 0))))]) (by kernel_rfl) rfl ⟨by kernel_rfl, by kernel_rfl⟩ ⟨by kernel_rfl, by kernel_rfl⟩ ?_
  refine TL.run 14 [] [(1, .pointer (some ⟨b1, 0, none⟩)), (16, .bool (((decide (s.Lateral < 0)) || (decide (s.Lateral > 1000000))) || (decide (s.Vertical < 0))))] rfl ⟨by kernel_rfl, by kernel_rfl⟩ ?_
  refine TL.join 16 (((decide (s.Lateral < 0)) || (decide (s.Lateral > 1000000))) || (decide (s.Vertical < 0))) 18 [] [0] (fun β => [(20, .bool (β || (decide (s.Vertical > 60000))))]) (by kernel_rfl) rfl ⟨by kernel_rfl, by kernel_rfl⟩ ⟨by kernel_rfl, by kernel_rfl⟩ ?_
  refine TL.next rfl ?_
  refine TC.cond ((((decide (s.Lateral < 0)) || (decide (s.Lateral > 1000000))) || (decide (s.Vertical < 0))) || (decide (s.Vertical > 60000))) rfl (by kernel_rfl) (fun h1 => ?_) (fun h1 => ?_)
  · refine TC.seq ?_
    refine TC.region ?_
    refine TL.run 1 [] [(2, .int .i64 4)] rfl ⟨by kernel_rfl, by kernel_rfl⟩ ?_
    refine TL.next rfl ?_
    refine TC.ret ?_
    refine TE.ret_then ?_
    have e : probe_CheckSep s = 4 := by unfold probe_CheckSep; exact cond_t h1 (rfl)
    exact TE.ret [] (.int .i64 4) ⟨by kernel_rfl, by kernel_rfl⟩ (by rw [e]; first | done | kernel_rfl)
  · refine TC.skip ?_
    refine TE.next ?_
    refine TC.seq ?_
    refine TC.region ?_
    refine TL.run 1 [] [(2, .int .i64 0)] rfl ⟨by kernel_rfl, by kernel_rfl⟩ ?_
    refine TL.next rfl ?_
    refine TC.ret ?_
    have e : probe_CheckSep s = 0 := by unfold probe_CheckSep; exact cond_f h1 (rfl)
    exact TE.ret [] (.int .i64 0) ⟨by kernel_rfl, by kernel_rfl⟩ (by rw [e]; first | done | kernel_rfl)

def probe_check_L1 : List (List TubeNode) → Nat → ((Unit) ⊕ (Int))
  | [], _ => .inl ()
  | x :: xs, k => let r2 := tube_Check x
    cond (r2 != 0) (
      .inr r2) (
      probe_check_L1 xs (k + 1))
def probe_check (s : Sep) (l : List (List TubeNode)) : Int :=
  let r1 := probe_CheckSep s
  cond (r1 != 0) (
    r1) (
    Sum.elim (fun _ =>
      0) (fun r => r) (probe_check_L1 l 0))

set_option maxRecDepth 100000 in
theorem probe_check_w (s : Sep) (A_l : Option Addr) (c_l : Nat) (l : List (List TubeNode)) (o_l : List (Sl TubeNode)) (w : World) (h_l : Rd w 1 A_l (o_l.map Sl.c)) (_hc_l : l.length ≤ c_l) (hd_l : ∀ s ∈ o_l, s.rd w 6 TubeNode.c) (he_l : l = o_l.map Sl.l) : Calls Try.prog 84 #[Sep.v s, .slice A_l l.length c_l] w (Ret w (.int .i64 (probe_check s l))) := by
  have s_l := h_l.short; rw [← sl_len he_l] at s_l
  refine calls_intro (vs := [Sep.v s, .slice A_l l.length c_l]) (w := w) Try.func84 rfl Try.ntmps84 rfl ?_
  refine TC.weak [(0, Sep.v s), (1, .slice A_l l.length c_l)] (by kernel_rfl) ?_
  refine TC.seq ?_
  refine TC.region ?_
  refine TL.write 0 (fun b1 => [(1, .slice A_l l.length c_l), (2, .pointer (some ⟨b1, 0, none⟩))]) (fun b1 => [.inl (b1, .cells (Sep.c s) 84 (0, 0))]) (fun b1 => ⟨by kernel_rfl, by kernel_rfl⟩) (fun b1 => ?_)
  refine TL.run 2 [] [(1, .slice A_l l.length c_l), (2, .pointer (some ⟨b1, 0, none⟩))] rfl ⟨by kernel_rfl, by kernel_rfl⟩ ?_
  refine TL.next rfl ?_
  refine TC.seq ?_
  refine TC.seq ?_
  refine TC.region ?_
  refine TL.run 1 [0] [(1, .slice A_l l.length c_l), (9, Sep.v s)] rfl ⟨by kernel_rfl, by kernel_rfl⟩ ?_
  refine TL.call (some 10) [(1, .slice A_l l.length c_l), (10, .int .i64 (probe_CheckSep s))] (fun w _ => probe_CheckSep_w s w) (by kernel_rfl) (by kernel_rfl) ?_
  generalize hr1 : probe_CheckSep s = r1
  refine TL.run 3 [] [(1, .slice A_l l.length c_l), (5, .int .i64 r1)] rfl ⟨by kernel_rfl, by kernel_rfl⟩ ?_
  refine TL.next rfl ?_
  refine TC.seq ?_
  refine TC.region ?_
  refine TL.run 2 [] [(1, .slice A_l l.length c_l), (5, .int .i64 r1), (12, .bool (r1 != 0))] rfl ⟨by kernel_rfl, by kernel_rfl⟩ ?_
  refine TL.next rfl ?_
  refine TC.cond (r1 != 0) rfl (by kernel_rfl) (fun h1 => ?_) (fun h1 => ?_)
  · refine TC.seq ?_
    refine TC.region ?_
    refine TL.run 2 [] [(4, .int .i64 r1)] rfl ⟨by kernel_rfl, by kernel_rfl⟩ ?_
    refine TL.next rfl ?_
    refine TC.ret ?_
    refine TE.ret_then ?_
    have e : probe_check s l = r1 := by subst hr1; unfold probe_check; exact cond_t h1 (rfl)
    exact TE.ret [] (.int .i64 r1) ⟨by kernel_rfl, by kernel_rfl⟩ (by rw [e]; first | done | kernel_rfl)
  · refine TC.skip ?_
    refine TE.next ?_
    refine TC.seq ?_
    refine TC.seq ?_
    refine TC.region ?_
    refine TL.run 3 [] [(14, .slice A_l l.length c_l), (15, .int .i64 (l.length : Int)), (16, .int .i64 0)] rfl ⟨by kernel_rfl, by kernel_rfl⟩ ?_
    refine TL.next rfl ?_
    refine TC.weak [(14, .slice A_l l.length c_l), (15, .int .i64 (l.length : Int)), (16, .int .i64 0)] (by kernel_rfl) ?_
    refine TC.forget [] (.cons _ (.slnil)) ?_
    obtain ⟨R1, hR⟩ : ∃ R, R = probe_check_L1 l 0 := ⟨_, rfl⟩
    refine TC.cut (S := Unit) (fun (_ : Unit) => []) (fun (_ : Unit) => []) (fun (_ : Unit) => R1 = .inl ()) ?_ ?_
    · refine TC.block ?_
      refine TC.loop (X := Nat) (fun k => [(14, .slice A_l l.length c_l), (15, .int .i64 (l.length : Int)), (16, .int .i64 (k : Int))]) (fun k => []) (fun k => l.length - k) (fun k => k ≤ l.length ∧ R1 = probe_check_L1 (l.drop k) k) ?_ 0 ⟨Nat.zero_le _, hR⟩
      rintro k ⟨hk, hI⟩
      refine TC.seq ?_
      refine TC.region ?_
      refine TL.run 1 [] [(14, .slice A_l l.length c_l), (15, .int .i64 (l.length : Int)), (16, .int .i64 (k : Int)), (17, .bool (decide ((k : Int) < (l.length : Int))))] rfl ⟨by kernel_rfl, by kernel_rfl⟩ ?_
      refine TL.next rfl ?_
      refine TC.seq ?_
      refine TC.cond (decide ((k : Int) < (l.length : Int))) rfl (by kernel_rfl) (fun h2 => ?_) (fun h2 => ?_)
      · have hlt : k < l.length := by have := of_decide_eq_true h2; first | omega | (simp at this; omega)
        obtain ⟨x, hx⟩ : ∃ x, l[k]? = some x := ⟨_, List.getElem?_eq_getElem hlt⟩
        have hd := drop_at hx
        refine TC.skip ?_
        refine TE.next ?_
        refine TC.seq ?_
        refine TC.block ?_
        refine TC.seq ?_
        refine TC.region ?_
        refine TL.val (sV (Instr.indexAt 137 (.slice A_l l.length c_l) (.int .i64 (k : Int)))) (some 18) (.pointer (some ((A_l.getD noAddr).add (k * 1)))) [(14, .slice A_l l.length c_l), (15, .int .i64 (l.length : Int)), (16, .int .i64 (k : Int)), (18, .pointer (some ((A_l.getD noAddr).add (k * 1))))] (fun w hM => run_index (h_l.sat hM) (sl_len he_l) (by kernel_rfl) (by have q0_ := (bne_f h1); first | omega | (simp only [List.length_drop]; omega) | (simp only [w64_eq]; omega) | exact (tm_in (by (first | (rw [w64_id (by omega)]; omega) | (simp only [w64_eq]; omega))) (by omega)).1 | exact (tm_in (by (first | (rw [w64_id (by omega)]; omega) | (simp only [w64_eq]; omega))) (by omega)).2.1 | exact (tm_in (by (first | (rw [w64_id (by omega)]; omega) | (simp only [w64_eq]; omega))) (by omega)).2.2 | (simp only [List.length_take] at *; omega) | (simp <;> omega)) (by have q0_ := (bne_f h1); first | omega | (simp only [List.length_drop]; omega) | (simp only [w64_eq]; omega) | exact (tm_in (by (first | (rw [w64_id (by omega)]; omega) | (simp only [w64_eq]; omega))) (by omega)).1 | exact (tm_in (by (first | (rw [w64_id (by omega)]; omega) | (simp only [w64_eq]; omega))) (by omega)).2.1 | exact (tm_in (by (first | (rw [w64_id (by omega)]; omega) | (simp only [w64_eq]; omega))) (by omega)).2.2 | (simp only [List.length_take] at *; omega) | (simp <;> omega))) (by kernel_rfl) (by kernel_rfl) ?_
        refine TL.val (sV (Instr.loadAt 53 (.pointer (some ((A_l.getD noAddr).add (k * 1)))))) (some 19) (.slice ((o_l[k]?.getD Sl.zero).A) x.length ((o_l[k]?.getD Sl.zero).cap)) [(14, .slice A_l l.length c_l), (15, .int .i64 (l.length : Int)), (16, .int .i64 (k : Int)), (19, .slice ((o_l[k]?.getD Sl.zero).A) x.length ((o_l[k]?.getD Sl.zero).cap))] (fun w hM => (by have h := run_load_one (P := Try.prog) (T := 53) (off := 0) (i := k) (.slice (o_l[k]?.getD Sl.zero).A (o_l[k]?.getD Sl.zero).l.length (o_l[k]?.getD Sl.zero).cap) (h_l.sat hM) (map_at (getD_at _ _ Sl.zero (sl_lt he_l (List.getElem?_eq_some_iff.1 hx).1))) (by kernel_rfl) (by kernel_rfl); rw [(sl_at he_l hx)] at h; exact h)) (by kernel_rfl) (by kernel_rfl) ?_
        refine TL.run 3 [] [(7, .slice ((o_l[k]?.getD Sl.zero).A) x.length ((o_l[k]?.getD Sl.zero).cap)), (14, .slice A_l l.length c_l), (15, .int .i64 (l.length : Int)), (16, .int .i64 (k : Int))] rfl ⟨by kernel_rfl, by kernel_rfl⟩ ?_
        refine TL.next rfl ?_
        refine TC.seq ?_
        refine TC.region ?_
        refine TL.run 1 [] [(14, .slice A_l l.length c_l), (15, .int .i64 (l.length : Int)), (16, .int .i64 (k : Int)), (20, .slice ((o_l[k]?.getD Sl.zero).A) x.length ((o_l[k]?.getD Sl.zero).cap))] rfl ⟨by kernel_rfl, by kernel_rfl⟩ ?_
        refine TL.call (some 21) [(14, .slice A_l l.length c_l), (15, .int .i64 (l.length : Int)), (16, .int .i64 (k : Int)), (21, .int .i64 (tube_Check x))] (fun w hM => tube_Check_w ((o_l[k]?.getD Sl.zero).A) ((o_l[k]?.getD Sl.zero).cap) x w (el_rd ((sl_all hd_l k).sat hM) (sl_at he_l hx)) (el_le ((sl_all hd_l k).sat hM) (sl_at he_l hx))) (by kernel_rfl) (by kernel_rfl) ?_
        generalize hr2 : tube_Check x = r2
        refine TL.run 3 [] [(8, .int .i64 r2), (14, .slice A_l l.length c_l), (15, .int .i64 (l.length : Int)), (16, .int .i64 (k : Int))] rfl ⟨by kernel_rfl, by kernel_rfl⟩ ?_
        refine TL.next rfl ?_
        refine TC.seq ?_
        refine TC.region ?_
        refine TL.run 2 [] [(8, .int .i64 r2), (14, .slice A_l l.length c_l), (15, .int .i64 (l.length : Int)), (16, .int .i64 (k : Int)), (23, .bool (r2 != 0))] rfl ⟨by kernel_rfl, by kernel_rfl⟩ ?_
        refine TL.next rfl ?_
        refine TC.cond (r2 != 0) rfl (by kernel_rfl) (fun h3 => ?_) (fun h3 => ?_)
        · refine TC.seq ?_
          refine TC.region ?_
          refine TL.run 2 [] [(4, .int .i64 r2)] rfl ⟨by kernel_rfl, by kernel_rfl⟩ ?_
          refine TL.next rfl ?_
          refine TC.ret ?_
          refine TE.ret_block (TE.ret_then (TE.ret_then (TE.ret_block (TE.ret_then (TE.ret_then ?_)))))
          have e : probe_check s l = r2 := by subst hr1 hr2; unfold probe_check; exact cond_f h1 (elim_r (hR.symm.trans (hI.trans (by rw [hd]; exact cond_t h3 (rfl)))) rfl)
          exact TE.ret [] (.int .i64 r2) ⟨by kernel_rfl, by kernel_rfl⟩ (by rw [e]; first | done | kernel_rfl)
        · refine TC.skip ?_
          refine TE.normal_block ?_
          refine TE.next ?_
          refine TC.region ?_
          refine TL.run 2 [] [(14, .slice A_l l.length c_l), (15, .int .i64 (l.length : Int)), (16, .int .i64 (w64 ((k : Int) + 1)))] rfl ⟨by kernel_rfl, by kernel_rfl⟩ ?_
          refine TL.done rfl ?_
          refine TE.rw 16 (.int .i64 (w64 ((k : Int) + 1))) (.int .i64 ((k + 1 : Nat) : Int)) (by kernel_rfl) (w64_cast k (by omega)) ?_
          exact TE.again (x := k) (k + 1) ⟨by omega, hI.trans (by subst hr1 hr2; rw [hd]; exact cond_f h3 (rfl))⟩ (by show l.length - (k + 1) < l.length - k; omega) (by kernel_rfl) (.slnil)
      · have hd : l.drop k = [] := List.drop_eq_nil_of_le (by have := of_decide_eq_false h2; first | omega | (simp at this; omega))
        refine TC.exit ?_
        refine TE.exit_then (TE.exit_then (TE.exit_same ?_))
        exact TE.cut () (hI.trans (by subst hr1; rw [hd]; exact rfl)) (by kernel_rfl) (.slnil)
    · intro _ hJ
      refine TE.next ?_
      refine TC.seq ?_
      refine TC.region ?_
      refine TL.run 1 [] [(4, .int .i64 0)] rfl ⟨by kernel_rfl, by kernel_rfl⟩ ?_
      refine TL.next rfl ?_
      refine TC.ret ?_
      have e : probe_check s l = 0 := by subst hr1; unfold probe_check; exact cond_f h1 (elim_l (hR.symm.trans hJ) (rfl))
      exact TE.ret [] (.int .i64 0) ⟨by kernel_rfl, by kernel_rfl⟩ (by rw [e]; first | done | kernel_rfl)

def probe_common (a : List TubeNode) (b_ : List TubeNode) : Int × Int :=
  (imax (((a[0]?.getD TubeNode.zero).Node).Time) (((b_[0]?.getD TubeNode.zero).Node).Time), imin (((a[(a.length - 1)]?.getD TubeNode.zero).Node).Time) (((b_[(b_.length - 1)]?.getD TubeNode.zero).Node).Time))

set_option maxRecDepth 100000 in
theorem probe_common_w (A_a : Option Addr) (c_a : Nat) (a : List TubeNode) (A_b_ : Option Addr) (c_b_ : Nat) (b_ : List TubeNode) (w : World) (h_a : Rd w 6 A_a (a.map TubeNode.c)) (_hc_a : a.length ≤ c_a) (h_b_ : Rd w 6 A_b_ (b_.map TubeNode.c)) (_hc_b_ : b_.length ≤ c_b_) (h0 : 1 ≤ a.length) (h1 : 1 ≤ b_.length) : Calls Try.prog 104 #[.slice A_a a.length c_a, .slice A_b_ b_.length c_b_] w (Ret w (.tuple #[.int .i64 ((probe_common a b_).1), .int .i64 ((probe_common a b_).2)])) := by
  have s_a := h_a.short; rw [List.length_map] at s_a
  have s_b_ := h_b_.short; rw [List.length_map] at s_b_
  refine calls_intro (vs := [.slice A_a a.length c_a, .slice A_b_ b_.length c_b_]) (w := w) Try.func104 rfl Try.ntmps104 rfl ?_
  refine TC.weak [(0, .slice A_a a.length c_a), (1, .slice A_b_ b_.length c_b_)] (by kernel_rfl) ?_
  refine TC.seq ?_
  refine TC.region ?_
  refine TL.run 2 [] [(0, .slice A_a a.length c_a), (1, .slice A_b_ b_.length c_b_)] rfl ⟨by kernel_rfl, by kernel_rfl⟩ ?_
  refine TL.next rfl ?_
  refine TC.seq ?_
  refine TC.draw 30 (by kernel_rfl) (by kernel_rfl) (by kernel_rfl) ?_
  refine TQ.run 1 [] [(0, .slice A_a a.length c_a), (1, .slice A_b_ b_.length c_b_), (6, .slice A_a a.length c_a)] rfl ⟨by kernel_rfl, by kernel_rfl⟩ ?_
  refine TQ.val (sV (Instr.indexAt 53 (.slice A_a a.length c_a) (.int .i64 0))) (some 7) (.pointer (some ((A_a.getD noAddr).add (0 * 6)))) [(0, .slice A_a a.length c_a), (1, .slice A_b_ b_.length c_b_), (7, .pointer (some ((A_a.getD noAddr).add (0 * 6))))] (fun w hM => run_index (h_a.sat hM) (by simp) (by kernel_rfl) (by first | omega | (simp only [List.length_drop]; omega) | (simp only [w64_eq]; omega) | exact (tm_in (by (first | (rw [w64_id (by omega)]; omega) | (simp only [w64_eq]; omega))) (by omega)).1 | exact (tm_in (by (first | (rw [w64_id (by omega)]; omega) | (simp only [w64_eq]; omega))) (by omega)).2.1 | exact (tm_in (by (first | (rw [w64_id (by omega)]; omega) | (simp only [w64_eq]; omega))) (by omega)).2.2 | (simp only [List.length_take] at *; omega) | (simp <;> omega)) (by first | omega | (simp only [List.length_drop]; omega) | (simp only [w64_eq]; omega) | exact (tm_in (by (first | (rw [w64_id (by omega)]; omega) | (simp only [w64_eq]; omega))) (by omega)).1 | exact (tm_in (by (first | (rw [w64_id (by omega)]; omega) | (simp only [w64_eq]; omega))) (by omega)).2.1 | exact (tm_in (by (first | (rw [w64_id (by omega)]; omega) | (simp only [w64_eq]; omega))) (by omega)).2.2 | (simp only [List.length_take] at *; omega) | (simp <;> omega))) rfl (by kernel_rfl) (by kernel_rfl) ?_
  refine TQ.run 4 [] [(0, .slice A_a a.length c_a), (1, .slice A_b_ b_.length c_b_), (9, .pointer (some ((A_a.getD noAddr).add (0 * 6))))] rfl ⟨by kernel_rfl, by kernel_rfl⟩ ?_
  refine TQ.val (sV (Instr.loadAt 3 (.pointer (some ((A_a.getD noAddr).add (0 * 6)))))) (some 10) (.int .i64 (((a[0]?.getD TubeNode.zero).Node).Time)) [(0, .slice A_a a.length c_a), (1, .slice A_b_ b_.length c_b_), (10, .int .i64 (((a[0]?.getD TubeNode.zero).Node).Time))] (fun w hM => run_load_one (off := 0) (i := 0) (.int .i64 (((a[0]?.getD TubeNode.zero).Node).Time)) (h_a.sat hM) (map_at (getD_at _ _ TubeNode.zero (by first | omega | (simp only [List.length_drop]; omega) | (simp only [w64_eq]; omega) | exact (tm_in (by (first | (rw [w64_id (by omega)]; omega) | (simp only [w64_eq]; omega))) (by omega)).1 | exact (tm_in (by (first | (rw [w64_id (by omega)]; omega) | (simp only [w64_eq]; omega))) (by omega)).2.1 | exact (tm_in (by (first | (rw [w64_id (by omega)]; omega) | (simp only [w64_eq]; omega))) (by omega)).2.2 | (simp only [List.length_take] at *; omega) | (simp <;> omega)))) (by kernel_rfl) (by kernel_rfl)) rfl (by kernel_rfl) (by kernel_rfl) ?_
  refine TQ.run 6 [] [(0, .slice A_a a.length c_a), (1, .slice A_b_ b_.length c_b_), (10, .int .i64 (((a[0]?.getD TubeNode.zero).Node).Time)), (11, .slice A_b_ b_.length c_b_)] rfl ⟨by kernel_rfl, by kernel_rfl⟩ ?_
  refine TQ.val (sV (Instr.indexAt 53 (.slice A_b_ b_.length c_b_) (.int .i64 0))) (some 12) (.pointer (some ((A_b_.getD noAddr).add (0 * 6)))) [(0, .slice A_a a.length c_a), (1, .slice A_b_ b_.length c_b_), (10, .int .i64 (((a[0]?.getD TubeNode.zero).Node).Time)), (12, .pointer (some ((A_b_.getD noAddr).add (0 * 6))))] (fun w hM => run_index (h_b_.sat hM) (by simp) (by kernel_rfl) (by first | omega | (simp only [List.length_drop]; omega) | (simp only [w64_eq]; omega) | exact (tm_in (by (first | (rw [w64_id (by omega)]; omega) | (simp only [w64_eq]; omega))) (by omega)).1 | exact (tm_in (by (first | (rw [w64_id (by omega)]; omega) | (simp only [w64_eq]; omega))) (by omega)).2.1 | exact (tm_in (by (first | (rw [w64_id (by omega)]; omega) | (simp only [w64_eq]; omega))) (by omega)).2.2 | (simp only [List.length_take] at *; omega) | (simp <;> omega)) (by first | omega | (simp only [List.length_drop]; omega) | (simp only [w64_eq]; omega) | exact (tm_in (by (first | (rw [w64_id (by omega)]; omega) | (simp only [w64_eq]; omega))) (by omega)).1 | exact (tm_in (by (first | (rw [w64_id (by omega)]; omega) | (simp only [w64_eq]; omega))) (by omega)).2.1 | exact (tm_in (by (first | (rw [w64_id (by omega)]; omega) | (simp only [w64_eq]; omega))) (by omega)).2.2 | (simp only [List.length_take] at *; omega) | (simp <;> omega))) rfl (by kernel_rfl) (by kernel_rfl) ?_
  refine TQ.run 9 [] [(0, .slice A_a a.length c_a), (1, .slice A_b_ b_.length c_b_), (10, .int .i64 (((a[0]?.getD TubeNode.zero).Node).Time)), (14, .pointer (some ((A_b_.getD noAddr).add (0 * 6))))] rfl ⟨by kernel_rfl, by kernel_rfl⟩ ?_
  refine TQ.val (sV (Instr.loadAt 3 (.pointer (some ((A_b_.getD noAddr).add (0 * 6)))))) (some 15) (.int .i64 (((b_[0]?.getD TubeNode.zero).Node).Time)) [(0, .slice A_a a.length c_a), (1, .slice A_b_ b_.length c_b_), (10, .int .i64 (((a[0]?.getD TubeNode.zero).Node).Time)), (15, .int .i64 (((b_[0]?.getD TubeNode.zero).Node).Time))] (fun w hM => run_load_one (off := 0) (i := 0) (.int .i64 (((b_[0]?.getD TubeNode.zero).Node).Time)) (h_b_.sat hM) (map_at (getD_at _ _ TubeNode.zero (by first | omega | (simp only [List.length_drop]; omega) | (simp only [w64_eq]; omega) | exact (tm_in (by (first | (rw [w64_id (by omega)]; omega) | (simp only [w64_eq]; omega))) (by omega)).1 | exact (tm_in (by (first | (rw [w64_id (by omega)]; omega) | (simp only [w64_eq]; omega))) (by omega)).2.1 | exact (tm_in (by (first | (rw [w64_id (by omega)]; omega) | (simp only [w64_eq]; omega))) (by omega)).2.2 | (simp only [List.length_take] at *; omega) | (simp <;> omega)))) (by kernel_rfl) (by kernel_rfl)) rfl (by kernel_rfl) (by kernel_rfl) ?_
  refine TQ.run 15 [] [(1, .slice A_b_ b_.length c_b_), (16, .int .i64 (imax (((a[0]?.getD TubeNode.zero).Node).Time) (((b_[0]?.getD TubeNode.zero).Node).Time))), (17, .slice A_a a.length c_a), (20, .int .i64 (w64 ((a.length : Int) - 1)))] rfl ⟨by kernel_rfl, by kernel_rfl⟩ ?_
  refine TQ.rw 20 (.int .i64 (w64 ((a.length : Int) - 1))) (.int .i64 ((a.length - 1 : Nat) : Int)) (by kernel_rfl) (w64_pred a.length (by first | omega | (simp only [List.length_drop]; omega) | (simp only [w64_eq]; omega) | exact (tm_in (by (first | (rw [w64_id (by omega)]; omega) | (simp only [w64_eq]; omega))) (by omega)).1 | exact (tm_in (by (first | (rw [w64_id (by omega)]; omega) | (simp only [w64_eq]; omega))) (by omega)).2.1 | exact (tm_in (by (first | (rw [w64_id (by omega)]; omega) | (simp only [w64_eq]; omega))) (by omega)).2.2 | (simp only [List.length_take] at *; omega) | (simp <;> omega))) ?_
  refine TQ.val (sV (Instr.indexAt 53 (.slice A_a a.length c_a) (.int .i64 ((a.length - 1 : Nat) : Int)))) (some 21) (.pointer (some ((A_a.getD noAddr).add ((a.length - 1) * 6)))) [(1, .slice A_b_ b_.length c_b_), (16, .int .i64 (imax (((a[0]?.getD TubeNode.zero).Node).Time) (((b_[0]?.getD TubeNode.zero).Node).Time))), (21, .pointer (some ((A_a.getD noAddr).add ((a.length - 1) * 6))))] (fun w hM => run_index (h_a.sat hM) (by simp) (by kernel_rfl) (by first | omega | (simp only [List.length_drop]; omega) | (simp only [w64_eq]; omega) | exact (tm_in (by (first | (rw [w64_id (by omega)]; omega) | (simp only [w64_eq]; omega))) (by omega)).1 | exact (tm_in (by (first | (rw [w64_id (by omega)]; omega) | (simp only [w64_eq]; omega))) (by omega)).2.1 | exact (tm_in (by (first | (rw [w64_id (by omega)]; omega) | (simp only [w64_eq]; omega))) (by omega)).2.2 | (simp only [List.length_take] at *; omega) | (simp <;> omega)) (by first | omega | (simp only [List.length_drop]; omega) | (simp only [w64_eq]; omega) | exact (tm_in (by (first | (rw [w64_id (by omega)]; omega) | (simp only [w64_eq]; omega))) (by omega)).1 | exact (tm_in (by (first | (rw [w64_id (by omega)]; omega) | (simp only [w64_eq]; omega))) (by omega)).2.1 | exact (tm_in (by (first | (rw [w64_id (by omega)]; omega) | (simp only [w64_eq]; omega))) (by omega)).2.2 | (simp only [List.length_take] at *; omega) | (simp <;> omega))) rfl (by kernel_rfl) (by kernel_rfl) ?_
  refine TQ.run 18 [] [(1, .slice A_b_ b_.length c_b_), (16, .int .i64 (imax (((a[0]?.getD TubeNode.zero).Node).Time) (((b_[0]?.getD TubeNode.zero).Node).Time))), (23, .pointer (some ((A_a.getD noAddr).add ((a.length - 1) * 6))))] rfl ⟨by kernel_rfl, by kernel_rfl⟩ ?_
  refine TQ.val (sV (Instr.loadAt 3 (.pointer (some ((A_a.getD noAddr).add ((a.length - 1) * 6)))))) (some 24) (.int .i64 (((a[(a.length - 1)]?.getD TubeNode.zero).Node).Time)) [(1, .slice A_b_ b_.length c_b_), (16, .int .i64 (imax (((a[0]?.getD TubeNode.zero).Node).Time) (((b_[0]?.getD TubeNode.zero).Node).Time))), (24, .int .i64 (((a[(a.length - 1)]?.getD TubeNode.zero).Node).Time))] (fun w hM => run_load_one (off := 0) (i := (a.length - 1)) (.int .i64 (((a[(a.length - 1)]?.getD TubeNode.zero).Node).Time)) (h_a.sat hM) (map_at (getD_at _ _ TubeNode.zero (by first | omega | (simp only [List.length_drop]; omega) | (simp only [w64_eq]; omega) | exact (tm_in (by (first | (rw [w64_id (by omega)]; omega) | (simp only [w64_eq]; omega))) (by omega)).1 | exact (tm_in (by (first | (rw [w64_id (by omega)]; omega) | (simp only [w64_eq]; omega))) (by omega)).2.1 | exact (tm_in (by (first | (rw [w64_id (by omega)]; omega) | (simp only [w64_eq]; omega))) (by omega)).2.2 | (simp only [List.length_take] at *; omega) | (simp <;> omega)))) (by kernel_rfl) (by kernel_rfl)) rfl (by kernel_rfl) (by kernel_rfl) ?_
  refine TQ.run 23 [] [(16, .int .i64 (imax (((a[0]?.getD TubeNode.zero).Node).Time) (((b_[0]?.getD TubeNode.zero).Node).Time))), (24, .int .i64 (((a[(a.length - 1)]?.getD TubeNode.zero).Node).Time)), (25, .slice A_b_ b_.length c_b_), (28, .int .i64 (w64 ((b_.length : Int) - 1)))] rfl ⟨by kernel_rfl, by kernel_rfl⟩ ?_
  refine TQ.rw 28 (.int .i64 (w64 ((b_.length : Int) - 1))) (.int .i64 ((b_.length - 1 : Nat) : Int)) (by kernel_rfl) (w64_pred b_.length (by first | omega | (simp only [List.length_drop]; omega) | (simp only [w64_eq]; omega) | exact (tm_in (by (first | (rw [w64_id (by omega)]; omega) | (simp only [w64_eq]; omega))) (by omega)).1 | exact (tm_in (by (first | (rw [w64_id (by omega)]; omega) | (simp only [w64_eq]; omega))) (by omega)).2.1 | exact (tm_in (by (first | (rw [w64_id (by omega)]; omega) | (simp only [w64_eq]; omega))) (by omega)).2.2 | (simp only [List.length_take] at *; omega) | (simp <;> omega))) ?_
  refine TQ.val (sV (Instr.indexAt 53 (.slice A_b_ b_.length c_b_) (.int .i64 ((b_.length - 1 : Nat) : Int)))) (some 29) (.pointer (some ((A_b_.getD noAddr).add ((b_.length - 1) * 6)))) [(16, .int .i64 (imax (((a[0]?.getD TubeNode.zero).Node).Time) (((b_[0]?.getD TubeNode.zero).Node).Time))), (24, .int .i64 (((a[(a.length - 1)]?.getD TubeNode.zero).Node).Time)), (29, .pointer (some ((A_b_.getD noAddr).add ((b_.length - 1) * 6))))] (fun w hM => run_index (h_b_.sat hM) (by simp) (by kernel_rfl) (by first | omega | (simp only [List.length_drop]; omega) | (simp only [w64_eq]; omega) | exact (tm_in (by (first | (rw [w64_id (by omega)]; omega) | (simp only [w64_eq]; omega))) (by omega)).1 | exact (tm_in (by (first | (rw [w64_id (by omega)]; omega) | (simp only [w64_eq]; omega))) (by omega)).2.1 | exact (tm_in (by (first | (rw [w64_id (by omega)]; omega) | (simp only [w64_eq]; omega))) (by omega)).2.2 | (simp only [List.length_take] at *; omega) | (simp <;> omega)) (by first | omega | (simp only [List.length_drop]; omega) | (simp only [w64_eq]; omega) | exact (tm_in (by (first | (rw [w64_id (by omega)]; omega) | (simp only [w64_eq]; omega))) (by omega)).1 | exact (tm_in (by (first | (rw [w64_id (by omega)]; omega) | (simp only [w64_eq]; omega))) (by omega)).2.1 | exact (tm_in (by (first | (rw [w64_id (by omega)]; omega) | (simp only [w64_eq]; omega))) (by omega)).2.2 | (simp only [List.length_take] at *; omega) | (simp <;> omega))) rfl (by kernel_rfl) (by kernel_rfl) ?_
  refine TQ.run 26 [] [(16, .int .i64 (imax (((a[0]?.getD TubeNode.zero).Node).Time) (((b_[0]?.getD TubeNode.zero).Node).Time))), (24, .int .i64 (((a[(a.length - 1)]?.getD TubeNode.zero).Node).Time)), (31, .pointer (some ((A_b_.getD noAddr).add ((b_.length - 1) * 6))))] rfl ⟨by kernel_rfl, by kernel_rfl⟩ ?_
  refine TQ.val (sV (Instr.loadAt 3 (.pointer (some ((A_b_.getD noAddr).add ((b_.length - 1) * 6)))))) (some 32) (.int .i64 (((b_[(b_.length - 1)]?.getD TubeNode.zero).Node).Time)) [(16, .int .i64 (imax (((a[0]?.getD TubeNode.zero).Node).Time) (((b_[0]?.getD TubeNode.zero).Node).Time))), (24, .int .i64 (((a[(a.length - 1)]?.getD TubeNode.zero).Node).Time)), (32, .int .i64 (((b_[(b_.length - 1)]?.getD TubeNode.zero).Node).Time))] (fun w hM => run_load_one (off := 0) (i := (b_.length - 1)) (.int .i64 (((b_[(b_.length - 1)]?.getD TubeNode.zero).Node).Time)) (h_b_.sat hM) (map_at (getD_at _ _ TubeNode.zero (by first | omega | (simp only [List.length_drop]; omega) | (simp only [w64_eq]; omega) | exact (tm_in (by (first | (rw [w64_id (by omega)]; omega) | (simp only [w64_eq]; omega))) (by omega)).1 | exact (tm_in (by (first | (rw [w64_id (by omega)]; omega) | (simp only [w64_eq]; omega))) (by omega)).2.1 | exact (tm_in (by (first | (rw [w64_id (by omega)]; omega) | (simp only [w64_eq]; omega))) (by omega)).2.2 | (simp only [List.length_take] at *; omega) | (simp <;> omega)))) (by kernel_rfl) (by kernel_rfl)) rfl (by kernel_rfl) (by kernel_rfl) ?_
  refine TQ.run 30 [] [(4, .int .i64 (imax (((a[0]?.getD TubeNode.zero).Node).Time) (((b_[0]?.getD TubeNode.zero).Node).Time))), (5, .int .i64 (imin (((a[(a.length - 1)]?.getD TubeNode.zero).Node).Time) (((b_[(b_.length - 1)]?.getD TubeNode.zero).Node).Time)))] rfl ⟨by kernel_rfl, by kernel_rfl⟩ ?_
  refine TQ.next rfl ?_
  refine TC.ret ?_
  have e : probe_common a b_ = (imax (((a[0]?.getD TubeNode.zero).Node).Time) (((b_[0]?.getD TubeNode.zero).Node).Time), imin (((a[(a.length - 1)]?.getD TubeNode.zero).Node).Time) (((b_[(b_.length - 1)]?.getD TubeNode.zero).Node).Time)) := by unfold probe_common; exact rfl
  exact TE.ret [] (.tuple #[.int .i64 (imax (((a[0]?.getD TubeNode.zero).Node).Time) (((b_[0]?.getD TubeNode.zero).Node).Time)), .int .i64 (imin (((a[(a.length - 1)]?.getD TubeNode.zero).Node).Time) (((b_[(b_.length - 1)]?.getD TubeNode.zero).Node).Time))]) ⟨by kernel_rfl, by kernel_rfl⟩ (by rw [e]; first | done | kernel_rfl)

def probe_separated (a : TubeNode) (b_ : TubeNode) (s : Sep) : Bool :=
  let r1 := plane_Distance a.Node.At b_.Node.At
  (decide ((w64 ((w64 (r1.1 - a.Radius)) - b_.Radius)) ≥ s.Lateral)) || (decide ((w64 ((w64 ((imax (w64 (a.Node.Height - b_.Node.Height)) (w64 (b_.Node.Height - a.Node.Height))) - a.Band)) - b_.Band)) ≥ s.Vertical))

set_option maxRecDepth 100000 in
theorem probe_separated_w (a : TubeNode) (b_ : TubeNode) (s : Sep) (w : World) : Calls Try.prog 105 #[TubeNode.v a, TubeNode.v b_, Sep.v s] w (Ret w (.bool (probe_separated a b_ s))) := by
  refine calls_intro (vs := [TubeNode.v a, TubeNode.v b_, Sep.v s]) (w := w) Try.func105 rfl Try.ntmps105 rfl ?_
  refine TC.weak [(0, TubeNode.v a), (1, TubeNode.v b_), (2, Sep.v s)] (by kernel_rfl) ?_
  refine TC.seq ?_
  refine TC.region ?_
  refine TL.write 0 (fun b1 => [(1, TubeNode.v b_), (2, Sep.v s), (3, .pointer (some ⟨b1, 0, none⟩))]) (fun b1 => [.inl (b1, .cells (TubeNode.c a) 57 (0, 0))]) (fun b1 => ⟨by kernel_rfl, by kernel_rfl⟩) (fun b1 => ?_)
  refine TL.write 0 (fun b2 => [(2, Sep.v s), (3, .pointer (some ⟨b1, 0, none⟩)), (4, .pointer (some ⟨b2, 0, none⟩))]) (fun b2 => [.inl (b2, .cells (TubeNode.c b_) 57 (0, 0)), .inl (b1, .cells (TubeNode.c a) 57 (0, 0))]) (fun b2 => ⟨by kernel_rfl, by kernel_rfl⟩) (fun b2 => ?_)
  refine TL.write 0 (fun b3 => [(3, .pointer (some ⟨b1, 0, none⟩)), (4, .pointer (some ⟨b2, 0, none⟩)), (5, .pointer (some ⟨b3, 0, none⟩))]) (fun b3 => [.inl (b3, .cells (Sep.c s) 84 (0, 0)), .inl (b2, .cells (TubeNode.c b_) 57 (0, 0)), .inl (b1, .cells (TubeNode.c a) 57 (0, 0))]) (fun b3 => ⟨by kernel_rfl, by kernel_rfl⟩) (fun b3 => ?_)
  refine TL.run 4 [] [(3, .pointer (some ⟨b1, 0, none⟩)), (4, .pointer (some ⟨b2, 0, none⟩)), (5, .pointer (some ⟨b3, 0, none⟩))] rfl ⟨by kernel_rfl, by kernel_rfl⟩ ?_
  refine TL.next rfl ?_
  refine TC.seq ?_
  refine TC.region ?_
  refine TL.run 6 [2, 1] [(3, .pointer (some ⟨b1, 0, none⟩)), (4, .pointer (some ⟨b2, 0, none⟩)), (5, .pointer (some ⟨b3, 0, none⟩)), (12, P.v a.Node.At), (15, P.v b_.Node.At)] rfl ⟨by kernel_rfl, by kernel_rfl⟩ ?_
  refine TL.call (some 16) [(3, .pointer (some ⟨b1, 0, none⟩)), (4, .pointer (some ⟨b2, 0, none⟩)), (5, .pointer (some ⟨b3, 0, none⟩)), (16, .tuple #[.int .i64 ((plane_Distance a.Node.At b_.Node.At).1), .int .i64 ((plane_Distance a.Node.At b_.Node.At).2)])] (fun w _ => plane_Distance_w a.Node.At b_.Node.At w) (by kernel_rfl) (by kernel_rfl) ?_
  generalize hr1 : plane_Distance a.Node.At b_.Node.At = r1
  refine TL.run 12 [] [(3, .pointer (some ⟨b1, 0, none⟩)), (4, .pointer (some ⟨b2, 0, none⟩)), (5, .pointer (some ⟨b3, 0, none⟩)), (7, .int .i64 r1.1)] rfl ⟨by kernel_rfl, by kernel_rfl⟩ ?_
  refine TL.next rfl ?_
  refine TC.seq ?_
  refine TC.region ?_
  refine TL.run 11 [2, 1, 0] [(3, .pointer (some ⟨b1, 0, none⟩)), (4, .pointer (some ⟨b2, 0, none⟩)), (5, .pointer (some ⟨b3, 0, none⟩)), (29, .bool (decide ((w64 ((w64 (r1.1 - a.Radius)) - b_.Radius)) ≥ s.Lateral)))] rfl ⟨by kernel_rfl, by kernel_rfl⟩ ?_
  refine TL.join 29 (decide ((w64 ((w64 (r1.1 - a.Radius)) - b_.Radius)) ≥ s.Lateral)) 36 [] [2, 1, 1, 2, 2, 1, 0] (fun β => [(54, .bool (β || (decide ((w64 ((w64 ((imax (w64 (a.Node.Height - b_.Node.Height)) (w64 (b_.Node.Height - a.Node.Height))) - a.Band)) - b_.Band)) ≥ s.Vertical))))]) (by kernel_rfl) rfl ⟨by kernel_rfl, by kernel_rfl⟩ ⟨by kernel_rfl, by kernel_rfl⟩ ?_
  refine TL.run 37 [] [(6, .bool ((decide ((w64 ((w64 (r1.1 - a.Radius)) - b_.Radius)) ≥ s.Lateral)) || (decide ((w64 ((w64 ((imax (w64 (a.Node.Height - b_.Node.Height)) (w64 (b_.Node.Height - a.Node.Height))) - a.Band)) - b_.Band)) ≥ s.Vertical))))] rfl ⟨by kernel_rfl, by kernel_rfl⟩ ?_
  refine TL.next rfl ?_
  refine TC.ret ?_
  have e : probe_separated a b_ s = ((decide ((w64 ((w64 (r1.1 - a.Radius)) - b_.Radius)) ≥ s.Lateral)) || (decide ((w64 ((w64 ((imax (w64 (a.Node.Height - b_.Node.Height)) (w64 (b_.Node.Height - a.Node.Height))) - a.Band)) - b_.Band)) ≥ s.Vertical))) := by subst hr1; unfold probe_separated; exact rfl
  exact TE.ret [] (.bool ((decide ((w64 ((w64 (r1.1 - a.Radius)) - b_.Radius)) ≥ s.Lateral)) || (decide ((w64 ((w64 ((imax (w64 (a.Node.Height - b_.Node.Height)) (w64 (b_.Node.Height - a.Node.Height))) - a.Band)) - b_.Band)) ≥ s.Vertical)))) ⟨by kernel_rfl, by kernel_rfl⟩ (by rw [e]; first | done | kernel_rfl)

def probe_spans_L1 (a : List TubeNode) (b_ : List TubeNode) (s : Sep) (r1 : Int × Int) : Nat → Nat → (List Span) → (List Span)
  | 0, _, out => out
  | m + 1, k, out => let r2 := tube_At a (r1.1 + (k : Int))
    let r3 := tube_At b_ (r1.1 + (k : Int))
    let r4 := probe_separated r2.1 r3.1 s
    cond r4 (
      probe_spans_L1 a b_ s r1 m (k + 1) out) (
      cond (decide ((out.length : Int) > 0)) (
        cond (((out[(out.length - 1)]?.getD Span.zero).To) == (r1.1 + (k : Int))) (
          probe_spans_L1 a b_ s r1 m (k + 1) (out.set (out.length - 1) (⟨(out[(out.length - 1)]?.getD Span.zero).From, w64 ((r1.1 + (k : Int)) + 1)⟩ : Span))) (
          probe_spans_L1 a b_ s r1 m (k + 1) (out ++ ([(⟨(r1.1 + (k : Int)), w64 ((r1.1 + (k : Int)) + 1)⟩ : Span)])))) (
        probe_spans_L1 a b_ s r1 m (k + 1) (out ++ ([(⟨(r1.1 + (k : Int)), w64 ((r1.1 + (k : Int)) + 1)⟩ : Span)]))))
def probe_spans (a : List TubeNode) (b_ : List TubeNode) (s : Sep) : List Span :=
  let r1 := probe_common a b_
  bindv (probe_spans_L1 a b_ s r1 ((r1.2 - r1.1 + 1).toNat) 0 ([] : List Span)) (fun out_2 =>
    out_2)

theorem imax_pick (x y : Int) : imax x y = x ∨ imax x y = y := by unfold imax; split <;> simp
theorem imin_pick (x y : Int) : imin x y = x ∨ imin x y = y := by unfold imin; split <;> simp
theorem common_in {a b : List TubeNode} {r : Int × Int} (ha : TubeOk a) (hb : TubeOk b) (hr : probe_common a b = r) : (0 ≤ r.1 ∧ r.1 ≤ 200000) ∧ 0 ≤ r.2 ∧ r.2 ≤ 200000 := by
  subst hr
  have a1 := (ha.2.1 0 (by have := ha.1; omega)).1
  have a2 := (ha.2.1 (a.length - 1) (by have := ha.1; omega)).1
  have b1 := (hb.2.1 0 (by have := hb.1; omega)).1
  have b2 := (hb.2.1 (b.length - 1) (by have := hb.1; omega)).1
  have p := imax_pick (nd a 0).Node.Time (nd b 0).Node.Time
  have q := imin_pick (nd a (a.length - 1)).Node.Time (nd b (b.length - 1)).Node.Time
  show (0 ≤ imax (nd a 0).Node.Time (nd b 0).Node.Time ∧ imax (nd a 0).Node.Time (nd b 0).Node.Time ≤ 200000) ∧ 0 ≤ imin (nd a (a.length - 1)).Node.Time (nd b (b.length - 1)).Node.Time ∧ imin (nd a (a.length - 1)).Node.Time (nd b (b.length - 1)).Node.Time ≤ 200000
  omega
theorem check_two {s : Sep} {a b : List TubeNode} {r : Int} (hr : probe_check s [a, b] = r) (h : (r != 0) = false) : probe_CheckSep s = 0 ∧ tube_Check a = 0 ∧ tube_Check b = 0 := by
  have h0 : r = 0 := by simpa using h
  rw [h0] at hr
  unfold probe_check at hr
  dsimp only at hr
  by_cases h1 : probe_CheckSep s = 0
  · rw [show (probe_CheckSep s != 0) = false by simp [h1]] at hr
    simp only [cond_false] at hr
    unfold probe_check_L1 at hr
    dsimp only at hr
    by_cases h2 : tube_Check a = 0
    · rw [show (tube_Check a != 0) = false by simp [h2]] at hr
      simp only [cond_false] at hr
      unfold probe_check_L1 at hr
      dsimp only at hr
      by_cases h3 : tube_Check b = 0
      · exact ⟨h1, h2, h3⟩
      · rw [show (tube_Check b != 0) = true by simpa using h3] at hr
        exact absurd hr h3
    · rw [show (tube_Check a != 0) = true by simpa using h2] at hr
      exact absurd hr h2
  · rw [show (probe_CheckSep s != 0) = true by simpa using h1] at hr
    exact absurd hr h1

set_option maxRecDepth 100000 in
theorem probe_spans_w (A_a : Option Addr) (c_a : Nat) (a : List TubeNode) (A_b_ : Option Addr) (c_b_ : Nat) (b_ : List TubeNode) (s : Sep) (w : World) (h_a : Rd w 6 A_a (a.map TubeNode.c)) (hc_a : a.length ≤ c_a) (h_b_ : Rd w 6 A_b_ (b_.map TubeNode.c)) (hc_b_ : b_.length ≤ c_b_) (ha : TubeOk a) (hb : TubeOk b_) : Calls Try.prog 85 #[.slice A_a a.length c_a, .slice A_b_ b_.length c_b_, Sep.v s] w (RetM (Γ := (Option Addr × Nat)) (cx w) (fun g => .slice g.1 ((probe_spans a b_ s).length) g.2) (fun g => [.inr (Own g.1 g.2 90 2 ((probe_spans a b_ s).map Span.c))])) := by
  have s_a := h_a.short; rw [List.length_map] at s_a
  have s_b_ := h_b_.short; rw [List.length_map] at s_b_
  refine calls_intro (vs := [.slice A_a a.length c_a, .slice A_b_ b_.length c_b_, Sep.v s]) (w := w) Try.func85 rfl Try.ntmps85 rfl ?_
  refine TC.weak [(0, .slice A_a a.length c_a), (1, .slice A_b_ b_.length c_b_), (2, Sep.v s)] (by kernel_rfl) ?_
  refine TC.seq ?_
  refine TC.region ?_
  refine TL.write 0 (fun b1 => [(0, .slice A_a a.length c_a), (1, .slice A_b_ b_.length c_b_), (5, .pointer (some ⟨b1, 0, none⟩))]) (fun b1 => [.inl (b1, .cells (Sep.c s) 84 (0, 0))]) (fun b1 => ⟨by kernel_rfl, by kernel_rfl⟩) (fun b1 => ?_)
  refine TL.run 2 [] [(0, .slice A_a a.length c_a), (1, .slice A_b_ b_.length c_b_), (5, .pointer (some ⟨b1, 0, none⟩))] rfl ⟨by kernel_rfl, by kernel_rfl⟩ ?_
  refine TL.next rfl ?_
  refine TC.seq ?_
  refine TC.region ?_
  refine TL.run 1 [] [(0, .slice A_a a.length c_a), (1, .slice A_b_ b_.length c_b_), (5, .pointer (some ⟨b1, 0, none⟩)), (7, .slice none 0 0)] rfl ⟨by kernel_rfl, by kernel_rfl⟩ ?_
  refine TL.next rfl ?_
  refine TC.seq ?_
  refine TC.region ?_
  refine TL.run 2 [] [(0, .slice A_a a.length c_a), (1, .slice A_b_ b_.length c_b_), (5, .pointer (some ⟨b1, 0, none⟩)), (7, .slice none 0 0), (17, .slice A_a a.length c_a), (18, .slice A_b_ b_.length c_b_)] rfl ⟨by kernel_rfl, by kernel_rfl⟩ ?_
  refine TL.call (some 19) [(0, .slice A_a a.length c_a), (1, .slice A_b_ b_.length c_b_), (5, .pointer (some ⟨b1, 0, none⟩)), (7, .slice none 0 0), (19, .tuple #[.int .i64 ((probe_common a b_).1), .int .i64 ((probe_common a b_).2)])] (fun w hM => probe_common_w A_a c_a a A_b_ c_b_ b_ w (h_a.sat hM) hc_a (h_b_.sat hM) hc_b_ ha.1.1 hb.1.1) (by kernel_rfl) (by kernel_rfl) ?_
  generalize hr1 : probe_common a b_ = r1
  refine TL.run 8 [] [(0, .slice A_a a.length c_a), (1, .slice A_b_ b_.length c_b_), (5, .pointer (some ⟨b1, 0, none⟩)), (7, .slice none 0 0), (8, .int .i64 r1.1), (9, .int .i64 r1.2)] rfl ⟨by kernel_rfl, by kernel_rfl⟩ ?_
  refine TL.next rfl ?_
  refine TC.seq ?_
  refine TC.seq ?_
  refine TC.region ?_
  refine TL.run 2 [] [(0, .slice A_a a.length c_a), (1, .slice A_b_ b_.length c_b_), (5, .pointer (some ⟨b1, 0, none⟩)), (7, .slice none 0 0), (9, .int .i64 r1.2), (10, .int .i64 r1.1)] rfl ⟨by kernel_rfl, by kernel_rfl⟩ ?_
  refine TL.next rfl ?_
  refine TC.conv [.inr (Own none 0 90 2 (([] : List Span).map Span.c)), .inl (b1, .cells (Sep.c s) 84 (0, 0))] (fun _ hM => hM.emptyrow none 90 2) ?_
  refine TC.weak [(0, .slice A_a a.length c_a), (1, .slice A_b_ b_.length c_b_), (5, .pointer (some ⟨b1, 0, none⟩)), (7, .slice none (([] : List Span).length) 0), (9, .int .i64 r1.2), (10, .int .i64 r1.1)] (by kernel_rfl) ?_
  obtain ⟨R2, hR⟩ : ∃ R, R = probe_spans_L1 a b_ s r1 ((r1.2 - r1.1 + 1).toNat) 0 ([] : List Span) := ⟨_, rfl⟩
  refine TC.cut (S := (List Span) × (Option Addr) × Nat) (fun (out_2, A_out_2, c_out_2) => [(7, .slice A_out_2 out_2.length c_out_2)]) (fun (out_2, A_out_2, c_out_2) => [.inr (Own A_out_2 c_out_2 90 2 (out_2.map Span.c))]) (fun (out_2, A_out_2, c_out_2) => R2 = out_2 ∧ out_2.length ≤ ((r1.2 - r1.1 + 1).toNat)) ?_ ?_
  · refine TC.block ?_
    refine TC.rw 10 (.int .i64 r1.1) (.int .i64 (r1.1 + ((0 : Nat) : Int))) (by kernel_rfl) (int_eq (by (try have kc_ := common_in ha hb hr1); first | omega | (rw [w64_id (by omega)]; omega) | (simp only [w64_eq]; omega))) ?_
    refine TC.weak [(0, .slice A_a a.length c_a), (1, .slice A_b_ b_.length c_b_), (5, .pointer (some ⟨b1, 0, none⟩)), (7, .slice none (([] : List Span).length) 0), (9, .int .i64 r1.2), (10, .int .i64 (r1.1 + ((0 : Nat) : Int)))] (by kernel_rfl) ?_
    refine TC.loop (X := Nat × (List Span) × (Option Addr) × Nat) (fun (k, out, A_out, c_out) => [(0, .slice A_a a.length c_a), (1, .slice A_b_ b_.length c_b_), (5, .pointer (some ⟨b1, 0, none⟩)), (7, .slice A_out out.length c_out), (9, .int .i64 r1.2), (10, .int .i64 (r1.1 + (k : Int)))]) (fun (k, out, A_out, c_out) => [.inr (Own A_out c_out 90 2 (out.map Span.c)), .inl (b1, .cells (Sep.c s) 84 (0, 0))]) (fun (k, out, A_out, c_out) => ((r1.2 - r1.1 + 1).toNat) - k) (fun (k, out, A_out, c_out) => k ≤ ((r1.2 - r1.1 + 1).toNat) ∧ R2 = probe_spans_L1 a b_ s r1 (((r1.2 - r1.1 + 1).toNat) - k) k out ∧ out.length ≤ k) ?_ (0, ([] : List Span), none, 0) ⟨Nat.zero_le _, hR, (by first | omega | (simp; omega) | simp)⟩
    rintro ⟨k, out, A_out, c_out⟩ ⟨hk, hI, hl_out⟩
    refine TC.seq ?_
    refine TC.seq ?_
    refine TC.region ?_
    refine TL.run 3 [] [(0, .slice A_a a.length c_a), (1, .slice A_b_ b_.length c_b_), (5, .pointer (some ⟨b1, 0, none⟩)), (7, .slice A_out out.length c_out), (9, .int .i64 r1.2), (10, .int .i64 (r1.1 + (k : Int))), (25, .bool (decide ((r1.1 + (k : Int)) ≤ r1.2)))] rfl ⟨by kernel_rfl, by kernel_rfl⟩ ?_
    refine TL.next rfl ?_
    refine TC.cond (decide ((r1.1 + (k : Int)) ≤ r1.2)) rfl (by kernel_rfl) (fun h1 => ?_) (fun h1 => ?_)
    · have hlt : k < ((r1.2 - r1.1 + 1).toNat) := by (try have kc_ := common_in ha hb hr1); have p0_ := (dec_t h1); first | omega | (simp only [w64_eq] at *; omega)
      have hd : ((r1.2 - r1.1 + 1).toNat) - k = (((r1.2 - r1.1 + 1).toNat) - (k + 1)) + 1 := by omega
      refine TC.skip ?_
      refine TE.next ?_
      refine TC.seq ?_
      refine TC.block ?_
      refine TC.seq ?_
      refine TC.region ?_
      refine TL.run 2 [] [(0, .slice A_a a.length c_a), (1, .slice A_b_ b_.length c_b_), (5, .pointer (some ⟨b1, 0, none⟩)), (7, .slice A_out out.length c_out), (9, .int .i64 r1.2), (10, .int .i64 (r1.1 + (k : Int))), (29, .slice A_a a.length c_a), (30, .int .i64 (r1.1 + (k : Int)))] rfl ⟨by kernel_rfl, by kernel_rfl⟩ ?_
      refine TL.call (some 31) [(0, .slice A_a a.length c_a), (1, .slice A_b_ b_.length c_b_), (5, .pointer (some ⟨b1, 0, none⟩)), (7, .slice A_out out.length c_out), (9, .int .i64 r1.2), (10, .int .i64 (r1.1 + (k : Int))), (31, .tuple #[TubeNode.v ((tube_At a (r1.1 + (k : Int))).1), .int .i64 ((tube_At a (r1.1 + (k : Int))).2)])] (fun w hM => tube_At_w A_a c_a a (r1.1 + (k : Int)) w (h_a.sat hM) hc_a) (by kernel_rfl) (by kernel_rfl) ?_
      generalize hr2 : tube_At a (r1.1 + (k : Int)) = r2
      refine TL.run 6 [] [(0, .slice A_a a.length c_a), (1, .slice A_b_ b_.length c_b_), (5, .pointer (some ⟨b1, 0, none⟩)), (7, .slice A_out out.length c_out), (9, .int .i64 r1.2), (10, .int .i64 (r1.1 + (k : Int))), (32, TubeNode.v r2.1), (33, .int .i64 r2.2)] rfl ⟨by kernel_rfl, by kernel_rfl⟩ ?_
      refine TL.write 0 (fun b2 => [(0, .slice A_a a.length c_a), (1, .slice A_b_ b_.length c_b_), (5, .pointer (some ⟨b1, 0, none⟩)), (7, .slice A_out out.length c_out), (9, .int .i64 r1.2), (10, .int .i64 (r1.1 + (k : Int))), (11, .pointer (some ⟨b2, 0, none⟩)), (32, TubeNode.v r2.1), (33, .int .i64 r2.2)]) (fun b2 => [.inl (b2, .cells (TubeNode.c TubeNode.zero) 57 (0, 0)), .inr (Own A_out c_out 90 2 (out.map Span.c)), .inl (b1, .cells (Sep.c s) 84 (0, 0))]) (fun b2 => ⟨by kernel_rfl, by kernel_rfl⟩) (fun b2 => ?_)
      refine TL.write 0 (fun _ => [(0, .slice A_a a.length c_a), (1, .slice A_b_ b_.length c_b_), (5, .pointer (some ⟨b1, 0, none⟩)), (7, .slice A_out out.length c_out), (9, .int .i64 r1.2), (10, .int .i64 (r1.1 + (k : Int))), (11, .pointer (some ⟨b2, 0, none⟩)), (33, .int .i64 r2.2)]) (fun _ => [.inl (b2, .cells (TubeNode.c r2.1) 57 (0, 0)), .inr (Own A_out c_out 90 2 (out.map Span.c)), .inl (b1, .cells (Sep.c s) 84 (0, 0))]) (fun _ => ⟨by kernel_rfl, by kernel_rfl⟩) (fun _ => ?_)
      refine TL.run 9 [] [(0, .slice A_a a.length c_a), (1, .slice A_b_ b_.length c_b_), (5, .pointer (some ⟨b1, 0, none⟩)), (7, .slice A_out out.length c_out), (9, .int .i64 r1.2), (10, .int .i64 (r1.1 + (k : Int))), (11, .pointer (some ⟨b2, 0, none⟩))] rfl ⟨by kernel_rfl, by kernel_rfl⟩ ?_
      refine TL.next rfl ?_
      refine TC.seq ?_
      refine TC.region ?_
      refine TL.run 2 [] [(0, .slice A_a a.length c_a), (1, .slice A_b_ b_.length c_b_), (5, .pointer (some ⟨b1, 0, none⟩)), (7, .slice A_out out.length c_out), (9, .int .i64 r1.2), (10, .int .i64 (r1.1 + (k : Int))), (11, .pointer (some ⟨b2, 0, none⟩)), (35, .slice A_b_ b_.length c_b_), (36, .int .i64 (r1.1 + (k : Int)))] rfl ⟨by kernel_rfl, by kernel_rfl⟩ ?_
      refine TL.call (some 37) [(0, .slice A_a a.length c_a), (1, .slice A_b_ b_.length c_b_), (5, .pointer (some ⟨b1, 0, none⟩)), (7, .slice A_out out.length c_out), (9, .int .i64 r1.2), (10, .int .i64 (r1.1 + (k : Int))), (11, .pointer (some ⟨b2, 0, none⟩)), (37, .tuple #[TubeNode.v ((tube_At b_ (r1.1 + (k : Int))).1), .int .i64 ((tube_At b_ (r1.1 + (k : Int))).2)])] (fun w hM => tube_At_w A_b_ c_b_ b_ (r1.1 + (k : Int)) w (h_b_.sat hM) hc_b_) (by kernel_rfl) (by kernel_rfl) ?_
      generalize hr3 : tube_At b_ (r1.1 + (k : Int)) = r3
      refine TL.run 6 [] [(0, .slice A_a a.length c_a), (1, .slice A_b_ b_.length c_b_), (5, .pointer (some ⟨b1, 0, none⟩)), (7, .slice A_out out.length c_out), (9, .int .i64 r1.2), (10, .int .i64 (r1.1 + (k : Int))), (11, .pointer (some ⟨b2, 0, none⟩)), (38, TubeNode.v r3.1), (39, .int .i64 r3.2)] rfl ⟨by kernel_rfl, by kernel_rfl⟩ ?_
      refine TL.write 0 (fun b3 => [(0, .slice A_a a.length c_a), (1, .slice A_b_ b_.length c_b_), (5, .pointer (some ⟨b1, 0, none⟩)), (7, .slice A_out out.length c_out), (9, .int .i64 r1.2), (10, .int .i64 (r1.1 + (k : Int))), (11, .pointer (some ⟨b2, 0, none⟩)), (13, .pointer (some ⟨b3, 0, none⟩)), (38, TubeNode.v r3.1), (39, .int .i64 r3.2)]) (fun b3 => [.inl (b3, .cells (TubeNode.c TubeNode.zero) 57 (0, 0)), .inl (b2, .cells (TubeNode.c r2.1) 57 (0, 0)), .inr (Own A_out c_out 90 2 (out.map Span.c)), .inl (b1, .cells (Sep.c s) 84 (0, 0))]) (fun b3 => ⟨by kernel_rfl, by kernel_rfl⟩) (fun b3 => ?_)
      refine TL.write 0 (fun _ => [(0, .slice A_a a.length c_a), (1, .slice A_b_ b_.length c_b_), (5, .pointer (some ⟨b1, 0, none⟩)), (7, .slice A_out out.length c_out), (9, .int .i64 r1.2), (10, .int .i64 (r1.1 + (k : Int))), (11, .pointer (some ⟨b2, 0, none⟩)), (13, .pointer (some ⟨b3, 0, none⟩)), (39, .int .i64 r3.2)]) (fun _ => [.inl (b3, .cells (TubeNode.c r3.1) 57 (0, 0)), .inl (b2, .cells (TubeNode.c r2.1) 57 (0, 0)), .inr (Own A_out c_out 90 2 (out.map Span.c)), .inl (b1, .cells (Sep.c s) 84 (0, 0))]) (fun _ => ⟨by kernel_rfl, by kernel_rfl⟩) (fun _ => ?_)
      refine TL.run 9 [] [(0, .slice A_a a.length c_a), (1, .slice A_b_ b_.length c_b_), (5, .pointer (some ⟨b1, 0, none⟩)), (7, .slice A_out out.length c_out), (9, .int .i64 r1.2), (10, .int .i64 (r1.1 + (k : Int))), (11, .pointer (some ⟨b2, 0, none⟩)), (13, .pointer (some ⟨b3, 0, none⟩))] rfl ⟨by kernel_rfl, by kernel_rfl⟩ ?_
      refine TL.next rfl ?_
      refine TC.seq ?_
      refine TC.seq ?_
      refine TC.region ?_
      refine TL.run 3 [1, 0, 3] [(0, .slice A_a a.length c_a), (1, .slice A_b_ b_.length c_b_), (5, .pointer (some ⟨b1, 0, none⟩)), (7, .slice A_out out.length c_out), (9, .int .i64 r1.2), (10, .int .i64 (r1.1 + (k : Int))), (40, TubeNode.v r2.1), (41, TubeNode.v r3.1), (42, Sep.v s)] rfl ⟨by kernel_rfl, by kernel_rfl⟩ ?_
      refine TL.call (some 43) [(0, .slice A_a a.length c_a), (1, .slice A_b_ b_.length c_b_), (5, .pointer (some ⟨b1, 0, none⟩)), (7, .slice A_out out.length c_out), (9, .int .i64 r1.2), (10, .int .i64 (r1.1 + (k : Int))), (43, .bool ((probe_separated r2.1 r3.1 s)))] (fun w _ => probe_separated_w r2.1 r3.1 s w) (by kernel_rfl) (by kernel_rfl) ?_
      generalize hr4 : probe_separated r2.1 r3.1 s = r4
      refine TL.next rfl ?_
      refine TC.cond r4 rfl (by kernel_rfl) (fun h2 => ?_) (fun h2 => ?_)
      · refine TC.exit ?_
        refine TE.exit_then (TE.exit_same ?_)
        refine TE.next ?_
        refine TC.region ?_
        refine TL.run 3 [] [(0, .slice A_a a.length c_a), (1, .slice A_b_ b_.length c_b_), (5, .pointer (some ⟨b1, 0, none⟩)), (7, .slice A_out out.length c_out), (9, .int .i64 r1.2), (10, .int .i64 (w64 ((r1.1 + (k : Int)) + 1)))] rfl ⟨by kernel_rfl, by kernel_rfl⟩ ?_
        refine TL.done rfl ?_
        refine TE.rw 10 (.int .i64 (w64 ((r1.1 + (k : Int)) + 1))) (.int .i64 (r1.1 + ((k + 1 : Nat) : Int))) (by kernel_rfl) (int_eq (by have q0_ := (dec_t h1); (try have kc_ := common_in ha hb hr1); first | omega | (rw [w64_id (by omega)]; omega) | (simp only [w64_eq] at *; omega))) ?_
        exact TE.again (x := (k, out, A_out, c_out)) (k + 1, out, A_out, c_out) ⟨by omega, hI.trans (by subst hr1 hr2 hr3 hr4; rw [hd]; exact cond_t h2 (rfl)), (by have q0_ := (dec_t h1); (try have kc_ := common_in ha hb hr1); first | omega | (simp <;> omega) | (simp at * <;> omega) | (simp only [w64_eq] at *; omega) | (simp only [List.length_append, List.length_cons, List.length_nil]; omega))⟩ (by show ((r1.2 - r1.1 + 1).toNat) - (k + 1) < ((r1.2 - r1.1 + 1).toNat) - k; omega) (by kernel_rfl) (.cons _ (.cons _ (.cons_cons _ (.cons_cons _ (.slnil)))))
      · refine TC.skip ?_
        refine TE.next ?_
        refine TC.seq ?_
        refine TC.region ?_
        refine TL.run 3 [] [(0, .slice A_a a.length c_a), (1, .slice A_b_ b_.length c_b_), (5, .pointer (some ⟨b1, 0, none⟩)), (7, .slice A_out out.length c_out), (9, .int .i64 r1.2), (10, .int .i64 (r1.1 + (k : Int))), (15, .int .i64 (out.length : Int))] rfl ⟨by kernel_rfl, by kernel_rfl⟩ ?_
        refine TL.next rfl ?_
        refine TC.seq ?_
        refine TC.region ?_
        refine TL.run 3 [] [(0, .slice A_a a.length c_a), (1, .slice A_b_ b_.length c_b_), (5, .pointer (some ⟨b1, 0, none⟩)), (7, .slice A_out out.length c_out), (9, .int .i64 r1.2), (10, .int .i64 (r1.1 + (k : Int))), (15, .int .i64 (out.length : Int)), (48, .bool (decide ((out.length : Int) > 0)))] rfl ⟨by kernel_rfl, by kernel_rfl⟩ ?_
        refine TL.split 48 (decide ((out.length : Int) > 0)) (by kernel_rfl) (fun h3 => ?_) (fun h3 => ?_)
        · refine TL.run 6 [] [(0, .slice A_a a.length c_a), (1, .slice A_b_ b_.length c_b_), (5, .pointer (some ⟨b1, 0, none⟩)), (7, .slice A_out out.length c_out), (9, .int .i64 r1.2), (10, .int .i64 (r1.1 + (k : Int))), (15, .int .i64 (out.length : Int)), (48, .bool true), (49, .slice A_out out.length c_out), (51, .int .i64 (w64 ((out.length : Int) - 1)))] rfl ⟨by kernel_rfl, by kernel_rfl⟩ ?_
          refine TL.rw 51 (.int .i64 (w64 ((out.length : Int) - 1))) (.int .i64 ((out.length - 1 : Nat) : Int)) (by kernel_rfl) (w64_pred out.length (by have q0_ := (dec_t h1); have q1_ := (dec_t h3); (try have kc_ := common_in ha hb hr1); first | omega | (simp only [List.length_drop]; omega) | (simp only [w64_eq]; omega) | exact (tm_in (by (first | (rw [w64_id (by omega)]; omega) | (simp only [w64_eq]; omega))) (by omega)).1 | exact (tm_in (by (first | (rw [w64_id (by omega)]; omega) | (simp only [w64_eq]; omega))) (by omega)).2.1 | exact (tm_in (by (first | (rw [w64_id (by omega)]; omega) | (simp only [w64_eq]; omega))) (by omega)).2.2 | (simp only [List.length_take] at *; omega) | (simp <;> omega))) ?_
          refine TL.val (sV (Instr.indexAt 85 (.slice A_out out.length c_out) (.int .i64 ((out.length - 1 : Nat) : Int)))) (some 52) (.pointer (some ((A_out.getD noAddr).add ((out.length - 1) * 2)))) [(0, .slice A_a a.length c_a), (1, .slice A_b_ b_.length c_b_), (5, .pointer (some ⟨b1, 0, none⟩)), (7, .slice A_out out.length c_out), (9, .int .i64 r1.2), (10, .int .i64 (r1.1 + (k : Int))), (15, .int .i64 (out.length : Int)), (48, .bool true), (52, .pointer (some ((A_out.getD noAddr).add ((out.length - 1) * 2))))] (fun w hM => run_index (hM.rd_at 2 rfl) (by simp) (by kernel_rfl) (by have q0_ := (dec_t h1); have q1_ := (dec_t h3); (try have kc_ := common_in ha hb hr1); first | omega | (simp only [List.length_drop]; omega) | (simp only [w64_eq]; omega) | exact (tm_in (by (first | (rw [w64_id (by omega)]; omega) | (simp only [w64_eq]; omega))) (by omega)).1 | exact (tm_in (by (first | (rw [w64_id (by omega)]; omega) | (simp only [w64_eq]; omega))) (by omega)).2.1 | exact (tm_in (by (first | (rw [w64_id (by omega)]; omega) | (simp only [w64_eq]; omega))) (by omega)).2.2 | (simp only [List.length_take] at *; omega) | (simp <;> omega)) (by have q0_ := (dec_t h1); have q1_ := (dec_t h3); (try have kc_ := common_in ha hb hr1); first | omega | (simp only [List.length_drop]; omega) | (simp only [w64_eq]; omega) | exact (tm_in (by (first | (rw [w64_id (by omega)]; omega) | (simp only [w64_eq]; omega))) (by omega)).1 | exact (tm_in (by (first | (rw [w64_id (by omega)]; omega) | (simp only [w64_eq]; omega))) (by omega)).2.1 | exact (tm_in (by (first | (rw [w64_id (by omega)]; omega) | (simp only [w64_eq]; omega))) (by omega)).2.2 | (simp only [List.length_take] at *; omega) | (simp <;> omega))) (by kernel_rfl) (by kernel_rfl) ?_
          refine TL.run 8 [] [(0, .slice A_a a.length c_a), (1, .slice A_b_ b_.length c_b_), (5, .pointer (some ⟨b1, 0, none⟩)), (7, .slice A_out out.length c_out), (9, .int .i64 r1.2), (10, .int .i64 (r1.1 + (k : Int))), (15, .int .i64 (out.length : Int)), (48, .bool true), (53, .pointer (some (((A_out.getD noAddr).add ((out.length - 1) * 2)).add 1)))] rfl ⟨by kernel_rfl, by kernel_rfl⟩ ?_
          refine TL.val (sV (Instr.loadAt 3 (.pointer (some (((A_out.getD noAddr).add ((out.length - 1) * 2)).add 1))))) (some 54) (.int .i64 ((out[(out.length - 1)]?.getD Span.zero).To)) [(0, .slice A_a a.length c_a), (1, .slice A_b_ b_.length c_b_), (5, .pointer (some ⟨b1, 0, none⟩)), (7, .slice A_out out.length c_out), (9, .int .i64 r1.2), (10, .int .i64 (r1.1 + (k : Int))), (15, .int .i64 (out.length : Int)), (48, .bool true), (54, .int .i64 ((out[(out.length - 1)]?.getD Span.zero).To))] (fun w hM => run_load_one (off := 1) (i := (out.length - 1)) (.int .i64 ((out[(out.length - 1)]?.getD Span.zero).To)) (hM.rd_at 2 rfl) (map_at (getD_at _ _ Span.zero (by have q0_ := (dec_t h1); have q1_ := (dec_t h3); (try have kc_ := common_in ha hb hr1); first | omega | (simp only [List.length_drop]; omega) | (simp only [w64_eq]; omega) | exact (tm_in (by (first | (rw [w64_id (by omega)]; omega) | (simp only [w64_eq]; omega))) (by omega)).1 | exact (tm_in (by (first | (rw [w64_id (by omega)]; omega) | (simp only [w64_eq]; omega))) (by omega)).2.1 | exact (tm_in (by (first | (rw [w64_id (by omega)]; omega) | (simp only [w64_eq]; omega))) (by omega)).2.2 | (simp only [List.length_take] at *; omega) | (simp <;> omega)))) (by kernel_rfl) (by kernel_rfl)) (by kernel_rfl) (by kernel_rfl) ?_
          refine TL.run 12 [] [(0, .slice A_a a.length c_a), (1, .slice A_b_ b_.length c_b_), (5, .pointer (some ⟨b1, 0, none⟩)), (7, .slice A_out out.length c_out), (9, .int .i64 r1.2), (10, .int .i64 (r1.1 + (k : Int))), (15, .int .i64 (out.length : Int)), (57, .bool (((out[(out.length - 1)]?.getD Span.zero).To) == (r1.1 + (k : Int))))] rfl ⟨by kernel_rfl, by kernel_rfl⟩ ?_
          refine TL.next rfl ?_
          refine TC.cond (((out[(out.length - 1)]?.getD Span.zero).To) == (r1.1 + (k : Int))) rfl (by kernel_rfl) (fun h4 => ?_) (fun h4 => ?_)
          · refine TC.region ?_
            refine TL.run 5 [] [(0, .slice A_a a.length c_a), (1, .slice A_b_ b_.length c_b_), (5, .pointer (some ⟨b1, 0, none⟩)), (7, .slice A_out out.length c_out), (9, .int .i64 r1.2), (10, .int .i64 (r1.1 + (k : Int))), (58, .slice A_out out.length c_out), (60, .int .i64 (w64 ((out.length : Int) - 1))), (62, .int .i64 (w64 ((r1.1 + (k : Int)) + 1)))] rfl ⟨by kernel_rfl, by kernel_rfl⟩ ?_
            refine TL.rw 60 (.int .i64 (w64 ((out.length : Int) - 1))) (.int .i64 ((out.length - 1 : Nat) : Int)) (by kernel_rfl) (w64_pred out.length (by have q0_ := (dec_t h1); have q1_ := (dec_t h3); have q2_ := (beq_t h4); (try have kc_ := common_in ha hb hr1); first | omega | (simp only [List.length_drop]; omega) | (simp only [w64_eq]; omega) | exact (tm_in (by (first | (rw [w64_id (by omega)]; omega) | (simp only [w64_eq]; omega))) (by omega)).1 | exact (tm_in (by (first | (rw [w64_id (by omega)]; omega) | (simp only [w64_eq]; omega))) (by omega)).2.1 | exact (tm_in (by (first | (rw [w64_id (by omega)]; omega) | (simp only [w64_eq]; omega))) (by omega)).2.2 | (simp only [List.length_take] at *; omega) | (simp <;> omega))) ?_
            refine TL.val (sV (Instr.indexAt 85 (.slice A_out out.length c_out) (.int .i64 ((out.length - 1 : Nat) : Int)))) (some 63) (.pointer (some ((A_out.getD noAddr).add ((out.length - 1) * 2)))) [(0, .slice A_a a.length c_a), (1, .slice A_b_ b_.length c_b_), (5, .pointer (some ⟨b1, 0, none⟩)), (7, .slice A_out out.length c_out), (9, .int .i64 r1.2), (10, .int .i64 (r1.1 + (k : Int))), (62, .int .i64 (w64 ((r1.1 + (k : Int)) + 1))), (63, .pointer (some ((A_out.getD noAddr).add ((out.length - 1) * 2))))] (fun w hM => run_index (hM.rd_at 2 rfl) (by simp) (by kernel_rfl) (by have q0_ := (dec_t h1); have q1_ := (dec_t h3); have q2_ := (beq_t h4); (try have kc_ := common_in ha hb hr1); first | omega | (simp only [List.length_drop]; omega) | (simp only [w64_eq]; omega) | exact (tm_in (by (first | (rw [w64_id (by omega)]; omega) | (simp only [w64_eq]; omega))) (by omega)).1 | exact (tm_in (by (first | (rw [w64_id (by omega)]; omega) | (simp only [w64_eq]; omega))) (by omega)).2.1 | exact (tm_in (by (first | (rw [w64_id (by omega)]; omega) | (simp only [w64_eq]; omega))) (by omega)).2.2 | (simp only [List.length_take] at *; omega) | (simp <;> omega)) (by have q0_ := (dec_t h1); have q1_ := (dec_t h3); have q2_ := (beq_t h4); (try have kc_ := common_in ha hb hr1); first | omega | (simp only [List.length_drop]; omega) | (simp only [w64_eq]; omega) | exact (tm_in (by (first | (rw [w64_id (by omega)]; omega) | (simp only [w64_eq]; omega))) (by omega)).1 | exact (tm_in (by (first | (rw [w64_id (by omega)]; omega) | (simp only [w64_eq]; omega))) (by omega)).2.1 | exact (tm_in (by (first | (rw [w64_id (by omega)]; omega) | (simp only [w64_eq]; omega))) (by omega)).2.2 | (simp only [List.length_take] at *; omega) | (simp <;> omega))) (by kernel_rfl) (by kernel_rfl) ?_
            refine TL.run 7 [] [(0, .slice A_a a.length c_a), (1, .slice A_b_ b_.length c_b_), (5, .pointer (some ⟨b1, 0, none⟩)), (7, .slice A_out out.length c_out), (9, .int .i64 r1.2), (10, .int .i64 (r1.1 + (k : Int))), (62, .int .i64 (w64 ((r1.1 + (k : Int)) + 1))), (64, .pointer (some (((A_out.getD noAddr).add ((out.length - 1) * 2)).add 1)))] rfl ⟨by kernel_rfl, by kernel_rfl⟩ ?_
            refine TL.skipM (Γ := Unit) (sU (Instr.storeAt 3 (.pointer (some (((A_out.getD noAddr).add ((out.length - 1) * 2)).add 1))) (.int .i64 (w64 ((r1.1 + (k : Int)) + 1))))) none (fun _ => [.inl (b3, .cells (TubeNode.c r3.1) 57 (0, 0)), .inl (b2, .cells (TubeNode.c r2.1) 57 (0, 0)), .inr (Own A_out c_out 90 2 ((out.set (out.length - 1) (⟨(out[(out.length - 1)]?.getD Span.zero).From, w64 ((r1.1 + (k : Int)) + 1)⟩ : Span)).map Span.c)), .inl (b1, .cells (Sep.c s) 84 (0, 0))]) (fun _ => [(0, .slice A_a a.length c_a), (1, .slice A_b_ b_.length c_b_), (5, .pointer (some ⟨b1, 0, none⟩)), (7, .slice A_out out.length c_out), (9, .int .i64 r1.2), (10, .int .i64 (r1.1 + (k : Int)))]) (run_store_at (n := 1) (off := 1) (.int .i64 (w64 ((r1.1 + (k : Int)) + 1))) 2 ((out.set (out.length - 1) (⟨(out[(out.length - 1)]?.getD Span.zero).From, w64 ((r1.1 + (k : Int)) + 1)⟩ : Span)).map Span.c) rfl (map_at (getD_at _ _ Span.zero (by have q0_ := (dec_t h1); have q1_ := (dec_t h3); have q2_ := (beq_t h4); (try have kc_ := common_in ha hb hr1); first | omega | (simp only [List.length_drop]; omega) | (simp only [w64_eq]; omega) | exact (tm_in (by (first | (rw [w64_id (by omega)]; omega) | (simp only [w64_eq]; omega))) (by omega)).1 | exact (tm_in (by (first | (rw [w64_id (by omega)]; omega) | (simp only [w64_eq]; omega))) (by omega)).2.1 | exact (tm_in (by (first | (rw [w64_id (by omega)]; omega) | (simp only [w64_eq]; omega))) (by omega)).2.2 | (simp only [List.length_take] at *; omega) | (simp <;> omega)))) (by kernel_rfl) (by kernel_rfl) (by kernel_rfl) (by kernel_rfl) (set_map_at (by kernel_rfl))) (by kernel_rfl) (fun _ => by kernel_rfl) (fun _ => ?_)
            refine TL.rw 7 (.slice A_out out.length c_out) (.slice A_out ((out.set (out.length - 1) (⟨(out[(out.length - 1)]?.getD Span.zero).From, w64 ((r1.1 + (k : Int)) + 1)⟩ : Span)).length) c_out) (by kernel_rfl) (by simp only [List.length_set]) ?_
            refine TL.done rfl ?_
            refine TE.normal_block ?_
            refine TE.next ?_
            refine TC.region ?_
            refine TL.run 3 [] [(0, .slice A_a a.length c_a), (1, .slice A_b_ b_.length c_b_), (5, .pointer (some ⟨b1, 0, none⟩)), (7, .slice A_out ((out.set (out.length - 1) (⟨(out[(out.length - 1)]?.getD Span.zero).From, w64 ((r1.1 + (k : Int)) + 1)⟩ : Span)).length) c_out), (9, .int .i64 r1.2), (10, .int .i64 (w64 ((r1.1 + (k : Int)) + 1)))] rfl ⟨by kernel_rfl, by kernel_rfl⟩ ?_
            refine TL.done rfl ?_
            refine TE.rw 10 (.int .i64 (w64 ((r1.1 + (k : Int)) + 1))) (.int .i64 (r1.1 + ((k + 1 : Nat) : Int))) (by kernel_rfl) (int_eq (by have q0_ := (dec_t h1); have q1_ := (dec_t h3); have q2_ := (beq_t h4); (try have kc_ := common_in ha hb hr1); first | omega | (rw [w64_id (by omega)]; omega) | (simp only [w64_eq] at *; omega))) ?_
            exact TE.again (x := (k, out, A_out, c_out)) (k + 1, (out.set (out.length - 1) (⟨(out[(out.length - 1)]?.getD Span.zero).From, w64 ((r1.1 + (k : Int)) + 1)⟩ : Span)), A_out, c_out) ⟨by omega, hI.trans (by subst hr1 hr2 hr3 hr4; rw [hd]; exact cond_f h2 (cond_t h3 (cond_t h4 (rfl)))), (by have q0_ := (dec_t h1); have q1_ := (dec_t h3); have q2_ := (beq_t h4); (try have kc_ := common_in ha hb hr1); first | omega | (simp <;> omega) | (simp at * <;> omega) | (simp only [w64_eq] at *; omega) | (simp only [List.length_append, List.length_cons, List.length_nil]; omega))⟩ (by show ((r1.2 - r1.1 + 1).toNat) - (k + 1) < ((r1.2 - r1.1 + 1).toNat) - k; omega) (by kernel_rfl) (.cons _ (.cons _ (.cons_cons _ (.cons_cons _ (.slnil)))))
          · refine TC.region ?_
            refine TL.run 5 [] [(0, .slice A_a a.length c_a), (1, .slice A_b_ b_.length c_b_), (5, .pointer (some ⟨b1, 0, none⟩)), (9, .int .i64 r1.2), (10, .int .i64 (r1.1 + (k : Int))), (65, .slice A_out out.length c_out), (69, .agg #[.int .i64 (r1.1 + (k : Int)), .int .i64 (w64 ((r1.1 + (k : Int)) + 1))])] rfl ⟨by kernel_rfl, by kernel_rfl⟩ ?_
            refine TL.write 0 (fun b4 => [(0, .slice A_a a.length c_a), (1, .slice A_b_ b_.length c_b_), (5, .pointer (some ⟨b1, 0, none⟩)), (9, .int .i64 r1.2), (10, .int .i64 (r1.1 + (k : Int))), (65, .slice A_out out.length c_out), (70, .slice (some ⟨b4, 0, none⟩) 1 1)]) (fun b4 => [.inl (b4, .cells #[.int .i64 (r1.1 + (k : Int)), .int .i64 (w64 ((r1.1 + (k : Int)) + 1))] 90 (0, 0)), .inl (b3, .cells (TubeNode.c r3.1) 57 (0, 0)), .inl (b2, .cells (TubeNode.c r2.1) 57 (0, 0)), .inr (Own A_out c_out 90 2 (out.map Span.c)), .inl (b1, .cells (Sep.c s) 84 (0, 0))]) (fun b4 => ⟨by kernel_rfl, by kernel_rfl⟩) (fun b4 => ?_)
            refine TL.opM (Γ := Option Addr × Nat) (sV (Builtin.append_ #[85, 85] 85 #[.slice A_out out.length c_out, .slice (some ⟨b4, 0, none⟩) 1 1])) (some 71) (fun g => .slice g.1 (out ++ ([(⟨(r1.1 + (k : Int)), w64 ((r1.1 + (k : Int)) + 1)⟩ : Span)])).length g.2) (fun g => [.inl (b4, .cells #[.int .i64 (r1.1 + (k : Int)), .int .i64 (w64 ((r1.1 + (k : Int)) + 1))] 90 (0, 0)), .inl (b3, .cells (TubeNode.c r3.1) 57 (0, 0)), .inl (b2, .cells (TubeNode.c r2.1) 57 (0, 0)), .inr (Own g.1 g.2 90 2 ((out ++ ([(⟨(r1.1 + (k : Int)), w64 ((r1.1 + (k : Int)) + 1)⟩ : Span)])).map Span.c)), .inl (b1, .cells (Sep.c s) 84 (0, 0))]) (fun g => [(0, .slice A_a a.length c_a), (1, .slice A_b_ b_.length c_b_), (5, .pointer (some ⟨b1, 0, none⟩)), (9, .int .i64 r1.2), (10, .int .i64 (r1.1 + (k : Int))), (71, .slice g.1 ((out ++ ([(⟨(r1.1 + (k : Int)), w64 ((r1.1 + (k : Int)) + 1)⟩ : Span)])).length) g.2)]) (app_at (bytes := 16) 85 3 ([(⟨(r1.1 + (k : Int)), w64 ((r1.1 + (k : Int)) + 1)⟩ : Span)]) (by kernel_rfl) rfl rfl Span.one rfl (fun w hM => (Rd.lit hM 0 _ rfl (by kernel_rfl) (by kernel_rfl) (by kernel_rfl))) rfl (by have q0_ := (dec_t h1); have q1_ := (dec_t h3); have q2_ := (beq_f h4); (try have kc_ := common_in ha hb hr1); first | omega | (simp <;> omega) | (simp at * <;> omega))) (by kernel_rfl) (fun g => by kernel_rfl) ?_
            rintro ⟨A, c⟩
            refine TL.run 8 [] [(0, .slice A_a a.length c_a), (1, .slice A_b_ b_.length c_b_), (5, .pointer (some ⟨b1, 0, none⟩)), (7, .slice A ((out ++ ([(⟨(r1.1 + (k : Int)), w64 ((r1.1 + (k : Int)) + 1)⟩ : Span)])).length) c), (9, .int .i64 r1.2), (10, .int .i64 (r1.1 + (k : Int)))] rfl ⟨by kernel_rfl, by kernel_rfl⟩ ?_
            refine TL.done rfl ?_
            refine TE.normal_block ?_
            refine TE.next ?_
            refine TC.region ?_
            refine TL.run 3 [] [(0, .slice A_a a.length c_a), (1, .slice A_b_ b_.length c_b_), (5, .pointer (some ⟨b1, 0, none⟩)), (7, .slice A ((out ++ ([(⟨(r1.1 + (k : Int)), w64 ((r1.1 + (k : Int)) + 1)⟩ : Span)])).length) c), (9, .int .i64 r1.2), (10, .int .i64 (w64 ((r1.1 + (k : Int)) + 1)))] rfl ⟨by kernel_rfl, by kernel_rfl⟩ ?_
            refine TL.done rfl ?_
            refine TE.rw 10 (.int .i64 (w64 ((r1.1 + (k : Int)) + 1))) (.int .i64 (r1.1 + ((k + 1 : Nat) : Int))) (by kernel_rfl) (int_eq (by have q0_ := (dec_t h1); have q1_ := (dec_t h3); have q2_ := (beq_f h4); (try have kc_ := common_in ha hb hr1); first | omega | (rw [w64_id (by omega)]; omega) | (simp only [w64_eq] at *; omega))) ?_
            exact TE.again (x := (k, out, A_out, c_out)) (k + 1, (out ++ ([(⟨(r1.1 + (k : Int)), w64 ((r1.1 + (k : Int)) + 1)⟩ : Span)])), A, c) ⟨by omega, hI.trans (by subst hr1 hr2 hr3 hr4; rw [hd]; exact cond_f h2 (cond_t h3 (cond_f h4 (rfl)))), (by have q0_ := (dec_t h1); have q1_ := (dec_t h3); have q2_ := (beq_f h4); (try have kc_ := common_in ha hb hr1); first | omega | (simp <;> omega) | (simp at * <;> omega) | (simp only [w64_eq] at *; omega) | (simp only [List.length_append, List.length_cons, List.length_nil]; omega))⟩ (by show ((r1.2 - r1.1 + 1).toNat) - (k + 1) < ((r1.2 - r1.1 + 1).toNat) - k; omega) (by kernel_rfl) (.cons _ (.cons _ (.cons _ (.cons_cons _ (.cons_cons _ (.slnil))))))
        · refine TL.run 12 [] [(0, .slice A_a a.length c_a), (1, .slice A_b_ b_.length c_b_), (5, .pointer (some ⟨b1, 0, none⟩)), (7, .slice A_out out.length c_out), (9, .int .i64 r1.2), (10, .int .i64 (r1.1 + (k : Int))), (15, .int .i64 (out.length : Int)), (57, .bool false)] rfl ⟨by kernel_rfl, by kernel_rfl⟩ ?_
          refine TL.next rfl ?_
          refine TC.condF rfl (by kernel_rfl) ?_
          refine TC.region ?_
          refine TL.run 5 [] [(0, .slice A_a a.length c_a), (1, .slice A_b_ b_.length c_b_), (5, .pointer (some ⟨b1, 0, none⟩)), (9, .int .i64 r1.2), (10, .int .i64 (r1.1 + (k : Int))), (65, .slice A_out out.length c_out), (69, .agg #[.int .i64 (r1.1 + (k : Int)), .int .i64 (w64 ((r1.1 + (k : Int)) + 1))])] rfl ⟨by kernel_rfl, by kernel_rfl⟩ ?_
          refine TL.write 0 (fun b5 => [(0, .slice A_a a.length c_a), (1, .slice A_b_ b_.length c_b_), (5, .pointer (some ⟨b1, 0, none⟩)), (9, .int .i64 r1.2), (10, .int .i64 (r1.1 + (k : Int))), (65, .slice A_out out.length c_out), (70, .slice (some ⟨b5, 0, none⟩) 1 1)]) (fun b5 => [.inl (b5, .cells #[.int .i64 (r1.1 + (k : Int)), .int .i64 (w64 ((r1.1 + (k : Int)) + 1))] 90 (0, 0)), .inl (b3, .cells (TubeNode.c r3.1) 57 (0, 0)), .inl (b2, .cells (TubeNode.c r2.1) 57 (0, 0)), .inr (Own A_out c_out 90 2 (out.map Span.c)), .inl (b1, .cells (Sep.c s) 84 (0, 0))]) (fun b5 => ⟨by kernel_rfl, by kernel_rfl⟩) (fun b5 => ?_)
          refine TL.opM (Γ := Option Addr × Nat) (sV (Builtin.append_ #[85, 85] 85 #[.slice A_out out.length c_out, .slice (some ⟨b5, 0, none⟩) 1 1])) (some 71) (fun g => .slice g.1 (out ++ ([(⟨(r1.1 + (k : Int)), w64 ((r1.1 + (k : Int)) + 1)⟩ : Span)])).length g.2) (fun g => [.inl (b5, .cells #[.int .i64 (r1.1 + (k : Int)), .int .i64 (w64 ((r1.1 + (k : Int)) + 1))] 90 (0, 0)), .inl (b3, .cells (TubeNode.c r3.1) 57 (0, 0)), .inl (b2, .cells (TubeNode.c r2.1) 57 (0, 0)), .inr (Own g.1 g.2 90 2 ((out ++ ([(⟨(r1.1 + (k : Int)), w64 ((r1.1 + (k : Int)) + 1)⟩ : Span)])).map Span.c)), .inl (b1, .cells (Sep.c s) 84 (0, 0))]) (fun g => [(0, .slice A_a a.length c_a), (1, .slice A_b_ b_.length c_b_), (5, .pointer (some ⟨b1, 0, none⟩)), (9, .int .i64 r1.2), (10, .int .i64 (r1.1 + (k : Int))), (71, .slice g.1 ((out ++ ([(⟨(r1.1 + (k : Int)), w64 ((r1.1 + (k : Int)) + 1)⟩ : Span)])).length) g.2)]) (app_at (bytes := 16) 85 3 ([(⟨(r1.1 + (k : Int)), w64 ((r1.1 + (k : Int)) + 1)⟩ : Span)]) (by kernel_rfl) rfl rfl Span.one rfl (fun w hM => (Rd.lit hM 0 _ rfl (by kernel_rfl) (by kernel_rfl) (by kernel_rfl))) rfl (by have q0_ := (dec_t h1); have q1_ := (dec_f h3); (try have kc_ := common_in ha hb hr1); first | omega | (simp <;> omega) | (simp at * <;> omega))) (by kernel_rfl) (fun g => by kernel_rfl) ?_
          rintro ⟨A_2, c_2⟩
          refine TL.run 8 [] [(0, .slice A_a a.length c_a), (1, .slice A_b_ b_.length c_b_), (5, .pointer (some ⟨b1, 0, none⟩)), (7, .slice A_2 ((out ++ ([(⟨(r1.1 + (k : Int)), w64 ((r1.1 + (k : Int)) + 1)⟩ : Span)])).length) c_2), (9, .int .i64 r1.2), (10, .int .i64 (r1.1 + (k : Int)))] rfl ⟨by kernel_rfl, by kernel_rfl⟩ ?_
          refine TL.done rfl ?_
          refine TE.normal_block ?_
          refine TE.next ?_
          refine TC.region ?_
          refine TL.run 3 [] [(0, .slice A_a a.length c_a), (1, .slice A_b_ b_.length c_b_), (5, .pointer (some ⟨b1, 0, none⟩)), (7, .slice A_2 ((out ++ ([(⟨(r1.1 + (k : Int)), w64 ((r1.1 + (k : Int)) + 1)⟩ : Span)])).length) c_2), (9, .int .i64 r1.2), (10, .int .i64 (w64 ((r1.1 + (k : Int)) + 1)))] rfl ⟨by kernel_rfl, by kernel_rfl⟩ ?_
          refine TL.done rfl ?_
          refine TE.rw 10 (.int .i64 (w64 ((r1.1 + (k : Int)) + 1))) (.int .i64 (r1.1 + ((k + 1 : Nat) : Int))) (by kernel_rfl) (int_eq (by have q0_ := (dec_t h1); have q1_ := (dec_f h3); (try have kc_ := common_in ha hb hr1); first | omega | (rw [w64_id (by omega)]; omega) | (simp only [w64_eq] at *; omega))) ?_
          exact TE.again (x := (k, out, A_out, c_out)) (k + 1, (out ++ ([(⟨(r1.1 + (k : Int)), w64 ((r1.1 + (k : Int)) + 1)⟩ : Span)])), A_2, c_2) ⟨by omega, hI.trans (by subst hr1 hr2 hr3 hr4; rw [hd]; exact cond_f h2 (cond_f h3 (rfl))), (by have q0_ := (dec_t h1); have q1_ := (dec_f h3); (try have kc_ := common_in ha hb hr1); first | omega | (simp <;> omega) | (simp at * <;> omega) | (simp only [w64_eq] at *; omega) | (simp only [List.length_append, List.length_cons, List.length_nil]; omega))⟩ (by show ((r1.2 - r1.1 + 1).toNat) - (k + 1) < ((r1.2 - r1.1 + 1).toNat) - k; omega) (by kernel_rfl) (.cons _ (.cons _ (.cons _ (.cons_cons _ (.cons_cons _ (.slnil))))))
    · have hd : ((r1.2 - r1.1 + 1).toNat) - k = 0 := by (try have kc_ := common_in ha hb hr1); have p0_ := (dec_f h1); first | omega | (simp only [w64_eq] at *; omega)
      refine TC.exit ?_
      refine TE.exit_then (TE.exit_then (TE.exit_same ?_))
      exact TE.cut (out, A_out, c_out) (⟨hI.trans (by subst hr1; rw [hd]; exact rfl), (by (try have kc_ := common_in ha hb hr1); first | omega | (simp <;> omega) | (simp at * <;> omega) | (simp only [w64_eq] at *; omega) | (simp only [List.length_append, List.length_cons, List.length_nil]; omega))⟩) (by kernel_rfl) (.cons_cons _ (.cons _ (.slnil)))
  · rintro ⟨out_2, A_out_2, c_out_2⟩ ⟨hJ, hl_out_2⟩
    refine TE.next ?_
    refine TC.seq ?_
    refine TC.region ?_
    refine TL.run 2 [] [(6, .slice A_out_2 out_2.length c_out_2)] rfl ⟨by kernel_rfl, by kernel_rfl⟩ ?_
    refine TL.next rfl ?_
    refine TC.ret ?_
    have e : probe_spans a b_ s = out_2 := by subst hr1; unfold probe_spans; exact bindv_eq (hR.symm.trans hJ) (rfl)
    rw [e]
    exact TE.retM (.inl rfl) (A_out_2, c_out_2) [] (.slice A_out_2 out_2.length c_out_2) ⟨by kernel_rfl, by kernel_rfl⟩ rfl (fun _ hM => hM.sub (.cons_cons _ (.slnil)))

def probe_Pair (a : List TubeNode) (b_ : List TubeNode) (s : Sep) : List Span × Int :=
  let r1 := probe_check s ([a, b_])
  cond (r1 != 0) (
    ([], r1)) (
    let r2 := probe_spans a b_ s
    (r2, 0))

set_option maxRecDepth 100000 in
theorem probe_Pair_w (A_a : Option Addr) (c_a : Nat) (a : List TubeNode) (A_b_ : Option Addr) (c_b_ : Nat) (b_ : List TubeNode) (s : Sep) (w : World) (h_a : Rd w 6 A_a (a.map TubeNode.c)) (hc_a : a.length ≤ c_a) (h_b_ : Rd w 6 A_b_ (b_.map TubeNode.c)) (hc_b_ : b_.length ≤ c_b_) : Calls Try.prog 48 #[.slice A_a a.length c_a, .slice A_b_ b_.length c_b_, Sep.v s] w (RetM (Γ := (Option Addr × Nat)) (cx w) (fun g => .tuple #[.slice g.1 ((probe_Pair a b_ s).1.length) g.2, .int .i64 ((probe_Pair a b_ s).2)]) (fun g => [.inr (Own g.1 g.2 90 2 (((probe_Pair a b_ s).1).map Span.c))])) := by
  have s_a := h_a.short; rw [List.length_map] at s_a
  have s_b_ := h_b_.short; rw [List.length_map] at s_b_
  refine calls_intro (vs := [.slice A_a a.length c_a, .slice A_b_ b_.length c_b_, Sep.v s]) (w := w) Try.func48 rfl Try.ntmps48 rfl ?_
  refine TC.weak [(0, .slice A_a a.length c_a), (1, .slice A_b_ b_.length c_b_), (2, Sep.v s)] (by kernel_rfl) ?_
  refine TC.seq ?_
  refine TC.region ?_
  refine TL.write 0 (fun b1 => [(0, .slice A_a a.length c_a), (1, .slice A_b_ b_.length c_b_), (5, .pointer (some ⟨b1, 0, none⟩))]) (fun b1 => [.inl (b1, .cells (Sep.c s) 84 (0, 0))]) (fun b1 => ⟨by kernel_rfl, by kernel_rfl⟩) (fun b1 => ?_)
  refine TL.run 3 [] [(0, .slice A_a a.length c_a), (1, .slice A_b_ b_.length c_b_), (5, .pointer (some ⟨b1, 0, none⟩))] rfl ⟨by kernel_rfl, by kernel_rfl⟩ ?_
  refine TL.next rfl ?_
  refine TC.seq ?_
  refine TC.seq ?_
  refine TC.region ?_
  refine TL.run 3 [0] [(0, .slice A_a a.length c_a), (1, .slice A_b_ b_.length c_b_), (5, .pointer (some ⟨b1, 0, none⟩)), (9, Sep.v s), (10, .slice A_a a.length c_a), (11, .slice A_b_ b_.length c_b_)] rfl ⟨by kernel_rfl, by kernel_rfl⟩ ?_
  refine TL.write 0 (fun b2 => [(0, .slice A_a a.length c_a), (1, .slice A_b_ b_.length c_b_), (5, .pointer (some ⟨b1, 0, none⟩)), (9, Sep.v s), (12, .slice (some ⟨b2, 0, none⟩) 2 2)]) (fun b2 => [.inl (b2, .cells #[.slice A_a a.length c_a, .slice A_b_ b_.length c_b_] 53 (0, 0)), .inl (b1, .cells (Sep.c s) 84 (0, 0))]) (fun b2 => ⟨by kernel_rfl, by kernel_rfl⟩) (fun b2 => ?_)
  refine TL.call (some 13) [(0, .slice A_a a.length c_a), (1, .slice A_b_ b_.length c_b_), (5, .pointer (some ⟨b1, 0, none⟩)), (13, .int .i64 (probe_check s ([a, b_])))] (fun w hM => probe_check_w s (some ⟨b2, 0, none⟩) 2 ([a, b_]) ([(⟨A_a, c_a, a⟩ : Sl TubeNode), (⟨A_b_, c_b_, b_⟩ : Sl TubeNode)]) w (Rd.lit hM 0 _ rfl (by kernel_rfl) (by kernel_rfl) (by kernel_rfl)) (Nat.le_refl _) (all_cons ⟨(h_a.sat hM), hc_a⟩ (all_cons ⟨(h_b_.sat hM), hc_b_⟩ all_nil)) (sl_cons rfl (sl_cons rfl rfl))) (by kernel_rfl) (by kernel_rfl) ?_
  generalize hr1 : probe_check s ([a, b_]) = r1
  refine TL.run 6 [] [(0, .slice A_a a.length c_a), (1, .slice A_b_ b_.length c_b_), (5, .pointer (some ⟨b1, 0, none⟩)), (8, .int .i64 r1)] rfl ⟨by kernel_rfl, by kernel_rfl⟩ ?_
  refine TL.next rfl ?_
  refine TC.seq ?_
  refine TC.region ?_
  refine TL.run 2 [] [(0, .slice A_a a.length c_a), (1, .slice A_b_ b_.length c_b_), (5, .pointer (some ⟨b1, 0, none⟩)), (8, .int .i64 r1), (15, .bool (r1 != 0))] rfl ⟨by kernel_rfl, by kernel_rfl⟩ ?_
  refine TL.next rfl ?_
  refine TC.cond (r1 != 0) rfl (by kernel_rfl) (fun h1 => ?_) (fun h1 => ?_)
  · refine TC.seq ?_
    refine TC.region ?_
    refine TL.run 3 [] [(6, .slice none 0 0), (7, .int .i64 r1)] rfl ⟨by kernel_rfl, by kernel_rfl⟩ ?_
    refine TL.next rfl ?_
    refine TC.ret ?_
    refine TE.ret_then ?_
    have e : probe_Pair a b_ s = ([], r1) := by subst hr1; unfold probe_Pair; exact cond_t h1 (rfl)
    refine TE.conv [.inr (Own none 0 90 2 (([] : List Span).map Span.c)), .inl (b2, .cells #[.slice A_a a.length c_a, .slice A_b_ b_.length c_b_] 53 (0, 0)), .inl (b1, .cells (Sep.c s) 84 (0, 0))] (fun _ hM => hM.emptyrow none 90 2) ?_
    rw [e]
    exact TE.retM (.inl rfl) (none, 0) [] (.tuple #[.slice none 0 0, .int .i64 r1]) ⟨by kernel_rfl, by kernel_rfl⟩ rfl (fun _ hM => hM.sub (.cons_cons _ (.cons _ (.cons _ (.slnil)))))
  · refine TC.skip ?_
    refine TE.next ?_
    refine TC.seq ?_
    refine TC.region ?_
    refine TL.run 3 [1] [(17, .slice A_a a.length c_a), (18, .slice A_b_ b_.length c_b_), (19, Sep.v s)] rfl ⟨by kernel_rfl, by kernel_rfl⟩ ?_
    refine TL.callN (Γ := (Option Addr × Nat)) (fun g => .slice g.1 ((probe_spans a b_ s).length) g.2) (fun g => [.inr (Own g.1 g.2 90 2 ((probe_spans a b_ s).map Span.c))]) (fun g => [.inr (Own g.1 g.2 90 2 ((probe_spans a b_ s).map Span.c)), .inl (b2, .cells #[.slice A_a a.length c_a, .slice A_b_ b_.length c_b_] 53 (0, 0)), .inl (b1, .cells (Sep.c s) 84 (0, 0))]) (fun g => rfl) (some 20) (fun g => [(20, .slice g.1 ((probe_spans a b_ s).length) g.2)]) (fun w hM => probe_spans_w A_a c_a a A_b_ c_b_ b_ s w (h_a.sat hM) hc_a (h_b_.sat hM) hc_b_ (tube_ok (check_two hr1 h1).2.1) (tube_ok (check_two hr1 h1).2.2)) (by kernel_rfl) (fun g => by kernel_rfl) ?_
    rintro ⟨A, c⟩
    generalize hr2 : probe_spans a b_ s = r2
    refine TL.know (fun w hM => hM.short_at 0 rfl) (fun s_r2_0 => ?_)
    refine TL.run 6 [] [(6, .slice A r2.length c), (7, .int .i64 0)] rfl ⟨by kernel_rfl, by kernel_rfl⟩ ?_
    refine TL.next rfl ?_
    refine TC.ret ?_
    have e : probe_Pair a b_ s = (r2, 0) := by subst hr1 hr2; unfold probe_Pair; exact cond_f h1 (rfl)
    rw [e]
    exact TE.retM (.inl rfl) (A, c) [] (.tuple #[.slice A r2.length c, .int .i64 0]) ⟨by kernel_rfl, by kernel_rfl⟩ rfl (fun _ hM => hM.sub (.cons_cons _ (.cons _ (.cons _ (.slnil)))))

end Go.Sky
