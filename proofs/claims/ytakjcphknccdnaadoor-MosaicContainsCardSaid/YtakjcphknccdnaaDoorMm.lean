/- Functions of the program, each with the Lean function that it computes. Conditions: none. -/
import Derived.Test.YtakjcphknccdnaaDoorWr
import Derived.Test.YtakjcphknccdnaaDoorIntSort
import Derived.Test.YtakjcphknccdnaaDoorLaysI
import Derived.Test.YtakjcphknccdnaaDoorPlanC
namespace Go.Sky
open Go Go.Eng Go.Proofs
set_option maxRecDepth 100000 in
theorem sortI_w (A_x : Option Addr) (c_x : Nat) (x : List Int) (w : World) (hM : Sat ⟨w, feet [.inr (Own A_x c_x 3 1 (x.map ic))]⟩ [.inr (Own A_x c_x 3 1 (x.map ic))] w) : Calls Tryd.prog 15 #[.slice A_x x.length c_x] w (RetM (Γ := (List Int)) ⟨w, feet [.inr (Own A_x c_x 3 1 (x.map ic))]⟩ (fun _ => .tuple #[]) (fun g => [.inr (Fact (g.length = x.length ∧ g = x.mergeSort (fun x y => decide (x ≤ y)))), .inr (Own A_x c_x 3 1 (g.map ic))])) := by
  exact ints_sort Tryd.laysSortI A_x c_x 3 x w hM

def mosaic_Check_1 (x : RadarSite) (x_2 : RadarSite) : Bool :=
  x.ID == x_2.ID

set_option maxRecDepth 100000 in
theorem mosaic_Check_1_w (x : RadarSite) (a_x_2 : Addr) (x_2 : RadarSite) (w : World) (h_x_2 : Rd w 6 (some a_x_2) [RadarSite.c x_2]) : Calls Tryd.prog 28 #[RadarSite.v x, .pointer (some a_x_2)] w (Ret w (.bool (mosaic_Check_1 x x_2))) := by
  refine calls_intro (vs := [RadarSite.v x, .pointer (some a_x_2)]) (w := w) Tryd.func28 rfl Tryd.ntmps28 rfl ?_
  refine TC.weak [(0, RadarSite.v x), (1, .pointer (some a_x_2))] (by kernel_rfl) ?_
  refine TC.seq ?_
  refine TC.region ?_
  refine TL.write 0 (fun b1 => [(1, .pointer (some a_x_2)), (2, .pointer (some ⟨b1, 0, none⟩))]) (fun b1 => [.inl (b1, .cells (RadarSite.c x) 32 (0, 0))]) (fun b1 => ⟨by kernel_rfl, by kernel_rfl⟩) (fun b1 => ?_)
  refine TL.run 2 [] [(1, .pointer (some a_x_2)), (2, .pointer (some ⟨b1, 0, none⟩))] rfl ⟨by kernel_rfl, by kernel_rfl⟩ ?_
  refine TL.next rfl ?_
  refine TC.seq ?_
  refine TC.region ?_
  refine TL.run 3 [0] [(5, .int .i64 x.ID), (6, .pointer (some a_x_2))] rfl ⟨by kernel_rfl, by kernel_rfl⟩ ?_
  refine TL.val (sV (Instr.loadAt 3 (.pointer (some a_x_2)))) (some 7) (.int .i64 x_2.ID) [(5, .int .i64 x.ID), (7, .int .i64 x_2.ID)] (fun w hM => run_load_one (off := 0) (.int .i64 x_2.ID) (h_x_2.sat hM) (rows_one _) (by kernel_rfl) (by kernel_rfl)) (by kernel_rfl) (by kernel_rfl) ?_
  refine TL.run 6 [] [(3, .bool (x.ID == x_2.ID))] rfl ⟨by kernel_rfl, by kernel_rfl⟩ ?_
  refine TL.next rfl ?_
  refine TC.ret ?_
  have e : mosaic_Check_1 x x_2 = (x.ID == x_2.ID) := by unfold mosaic_Check_1; exact rfl
  exact TE.ret [] (.bool (x.ID == x_2.ID)) ⟨by kernel_rfl, by kernel_rfl⟩ (by rw [e]; first | done | kernel_rfl)

def IndexFunc_site_L1 (c0 : RadarSite) : List RadarSite → Nat → ((Unit) ⊕ (Int))
  | [], _ => .inl ()
  | x :: xs, k => let r1 := mosaic_Check_1 x c0
    cond r1 (
      .inr (k : Int)) (
      IndexFunc_site_L1 c0 xs (k + 1))
def IndexFunc_site (s : List RadarSite) (c0 : RadarSite) : Int :=
  Sum.elim (fun _ =>
    (-1)) (fun r => r) (IndexFunc_site_L1 c0 s 0)

set_option maxRecDepth 100000 in
theorem IndexFunc_site_w (A_s : Option Addr) (c_s : Nat) (s : List RadarSite) (a_c0 : Addr) (c0 : RadarSite) (w : World) (h_s : Rd w 6 A_s (s.map RadarSite.c)) (_hc_s : s.length ≤ c_s) (h_c0 : Rd w 6 (some a_c0) [RadarSite.c c0]) : Calls Tryd.prog 42 #[.slice A_s s.length c_s, .func (.func 28) #[] #[.pointer (some a_c0)]] w (Ret w (.int .i64 (IndexFunc_site s c0))) := by
  have s_s := h_s.short; rw [List.length_map] at s_s
  refine calls_intro (vs := [.slice A_s s.length c_s, .func (.func 28) #[] #[.pointer (some a_c0)]]) (w := w) Tryd.func42 rfl Tryd.ntmps42 rfl ?_
  refine TC.weak [(0, .slice A_s s.length c_s), (1, .func (.func 28) #[] #[.pointer (some a_c0)])] (by kernel_rfl) ?_
  refine TC.seq ?_
  refine TC.region ?_
  refine TL.run 1 [] [(0, .slice A_s s.length c_s), (1, .func (.func 28) #[] #[.pointer (some a_c0)])] rfl ⟨by kernel_rfl, by kernel_rfl⟩ ?_
  refine TL.next rfl ?_
  refine TC.seq ?_
  refine TC.seq ?_
  refine TC.region ?_
  refine TL.run 3 [] [(0, .slice A_s s.length c_s), (1, .func (.func 28) #[] #[.pointer (some a_c0)]), (7, .int .i64 (s.length : Int)), (8, .int .i64 0)] rfl ⟨by kernel_rfl, by kernel_rfl⟩ ?_
  refine TL.next rfl ?_
  refine TC.weak [(0, .slice A_s s.length c_s), (1, .func (.func 28) #[] #[.pointer (some a_c0)]), (7, .int .i64 (s.length : Int)), (8, .int .i64 0)] (by kernel_rfl) ?_
  obtain ⟨R1, hR⟩ : ∃ R, R = IndexFunc_site_L1 c0 s 0 := ⟨_, rfl⟩
  refine TC.cut (S := Unit) (fun (_ : Unit) => []) (fun (_ : Unit) => []) (fun (_ : Unit) => R1 = .inl ()) ?_ ?_
  · refine TC.block ?_
    refine TC.loop (X := Nat) (fun k => [(0, .slice A_s s.length c_s), (1, .func (.func 28) #[] #[.pointer (some a_c0)]), (7, .int .i64 (s.length : Int)), (8, .int .i64 (k : Int))]) (fun k => []) (fun k => s.length - k) (fun k => k ≤ s.length ∧ R1 = IndexFunc_site_L1 c0 (s.drop k) k) ?_ 0 ⟨Nat.zero_le _, hR⟩
    rintro k ⟨hk, hI⟩
    refine TC.seq ?_
    refine TC.region ?_
    refine TL.run 1 [] [(0, .slice A_s s.length c_s), (1, .func (.func 28) #[] #[.pointer (some a_c0)]), (7, .int .i64 (s.length : Int)), (8, .int .i64 (k : Int)), (9, .bool (decide ((k : Int) < (s.length : Int))))] rfl ⟨by kernel_rfl, by kernel_rfl⟩ ?_
    refine TL.next rfl ?_
    refine TC.seq ?_
    refine TC.cond (decide ((k : Int) < (s.length : Int))) rfl (by kernel_rfl) (fun h1 => ?_) (fun h1 => ?_)
    · have hlt : k < s.length := by have := of_decide_eq_true h1; first | omega | (simp at this; omega)
      obtain ⟨x, hx⟩ : ∃ e_, s[k]? = some e_ := ⟨_, List.getElem?_eq_getElem hlt⟩
      have hd := drop_at hx
      refine TC.skip ?_
      refine TE.next ?_
      refine TC.seq ?_
      refine TC.block ?_
      refine TC.seq ?_
      refine TC.region ?_
      refine TL.run 2 [] [(0, .slice A_s s.length c_s), (1, .func (.func 28) #[] #[.pointer (some a_c0)]), (5, .int .i64 (k : Int)), (7, .int .i64 (s.length : Int)), (8, .int .i64 (k : Int))] rfl ⟨by kernel_rfl, by kernel_rfl⟩ ?_
      refine TL.next rfl ?_
      refine TC.seq ?_
      refine TC.region ?_
      refine TL.run 3 [] [(0, .slice A_s s.length c_s), (1, .func (.func 28) #[] #[.pointer (some a_c0)]), (5, .int .i64 (k : Int)), (7, .int .i64 (s.length : Int)), (8, .int .i64 (k : Int)), (11, .func (.func 28) #[] #[.pointer (some a_c0)]), (12, .slice A_s s.length c_s), (13, .int .i64 (k : Int))] rfl ⟨by kernel_rfl, by kernel_rfl⟩ ?_
      refine TL.val (sV (Instr.indexAt 22 (.slice A_s s.length c_s) (.int .i64 (k : Int)))) (some 14) (.pointer (some ((A_s.getD noAddr).add (k * 6)))) [(0, .slice A_s s.length c_s), (1, .func (.func 28) #[] #[.pointer (some a_c0)]), (5, .int .i64 (k : Int)), (7, .int .i64 (s.length : Int)), (8, .int .i64 (k : Int)), (11, .func (.func 28) #[] #[.pointer (some a_c0)]), (14, .pointer (some ((A_s.getD noAddr).add (k * 6))))] (fun w hM => run_index (h_s.sat hM) (by simp) (by kernel_rfl) (by exact sd) (by exact sd)) (by kernel_rfl) (by kernel_rfl) ?_
      refine TL.val (sV (Instr.loadAt 32 (.pointer (some ((A_s.getD noAddr).add (k * 6)))))) (some 15) (RadarSite.v x) [(0, .slice A_s s.length c_s), (1, .func (.func 28) #[] #[.pointer (some a_c0)]), (5, .int .i64 (k : Int)), (7, .int .i64 (s.length : Int)), (8, .int .i64 (k : Int)), (11, .func (.func 28) #[] #[.pointer (some a_c0)]), (15, RadarSite.v x)] (fun w hM => run_load_agg (n := 6) (off := 0) (i := k) (RadarSite.v x) (h_s.sat hM) (map_at hx) (by kernel_rfl) (by kernel_rfl) (by kernel_rfl)) (by kernel_rfl) (by kernel_rfl) ?_
      refine TL.call (some 16) [(0, .slice A_s s.length c_s), (1, .func (.func 28) #[] #[.pointer (some a_c0)]), (5, .int .i64 (k : Int)), (7, .int .i64 (s.length : Int)), (8, .int .i64 (k : Int)), (16, .bool ((mosaic_Check_1 x c0)))] (fun w hM => mosaic_Check_1_w x a_c0 c0 w (h_c0.sat hM)) (by kernel_rfl) (by kernel_rfl) ?_
      generalize hr1 : mosaic_Check_1 x c0 = r1
      refine TL.next rfl ?_
      refine TC.cond r1 rfl (by kernel_rfl) (fun h2 => ?_) (fun h2 => ?_)
      · refine TC.seq ?_
        refine TC.region ?_
        refine TL.run 2 [] [(4, .int .i64 (k : Int))] rfl ⟨by kernel_rfl, by kernel_rfl⟩ ?_
        refine TL.next rfl ?_
        refine TC.ret ?_
        refine TE.ret_block (TE.ret_then (TE.ret_then (TE.ret_block (TE.ret_then (TE.ret_then ?_)))))
        have e : IndexFunc_site s c0 = (k : Int) := by subst hr1; unfold IndexFunc_site; exact elim_r (hR.symm.trans (hI.trans (by rw [hd]; exact cond_t h2 (rfl)))) rfl
        exact TE.ret [] (.int .i64 (k : Int)) ⟨by kernel_rfl, by kernel_rfl⟩ (by rw [e]; first | done | kernel_rfl)
      · refine TC.skip ?_
        refine TE.normal_block ?_
        refine TE.next ?_
        refine TC.region ?_
        refine TL.run 2 [] [(0, .slice A_s s.length c_s), (1, .func (.func 28) #[] #[.pointer (some a_c0)]), (7, .int .i64 (s.length : Int)), (8, .int .i64 (w64 ((k : Int) + 1)))] rfl ⟨by kernel_rfl, by kernel_rfl⟩ ?_
        refine TL.done rfl ?_
        refine TE.rw 8 (.int .i64 (w64 ((k : Int) + 1))) (.int .i64 ((k + 1 : Nat) : Int)) (by kernel_rfl) (w64_cast k (by omega)) ?_
        exact TE.again (x := k) (k + 1) ⟨by omega, hI.trans (by subst hr1; rw [hd]; exact cond_f h2 (rfl))⟩ (by show s.length - (k + 1) < s.length - k; omega) (by kernel_rfl) (.slnil)
    · have hd : s.drop k = [] := List.drop_eq_nil_of_le (by have := of_decide_eq_false h1; first | omega | (simp at this; omega))
      refine TC.exit ?_
      refine TE.exit_then (TE.exit_then (TE.exit_same ?_))
      exact TE.cut () (hI.trans (by rw [hd]; exact rfl)) (by kernel_rfl) (.slnil)
  · intro _ hJ
    refine TE.next ?_
    refine TC.seq ?_
    refine TC.region ?_
    refine TL.run 1 [] [(4, .int .i64 (-1))] rfl ⟨by kernel_rfl, by kernel_rfl⟩ ?_
    refine TL.next rfl ?_
    refine TC.ret ?_
    have e : IndexFunc_site s c0 = (-1) := by unfold IndexFunc_site; exact elim_l (hR.symm.trans hJ) (rfl)
    exact TE.ret [] (.int .i64 (-1)) ⟨by kernel_rfl, by kernel_rfl⟩ (by rw [e]; first | done | kernel_rfl)

def ContainsFunc_site (s : List RadarSite) (c0 : RadarSite) : Bool :=
  let r1 := IndexFunc_site s c0
  decide (r1 ≥ 0)

set_option maxRecDepth 100000 in
theorem ContainsFunc_site_w (A_s : Option Addr) (c_s : Nat) (s : List RadarSite) (a_c0 : Addr) (c0 : RadarSite) (w : World) (h_s : Rd w 6 A_s (s.map RadarSite.c)) (hc_s : s.length ≤ c_s) (h_c0 : Rd w 6 (some a_c0) [RadarSite.c c0]) : Calls Tryd.prog 27 #[.slice A_s s.length c_s, .func (.func 28) #[] #[.pointer (some a_c0)]] w (Ret w (.bool (ContainsFunc_site s c0))) := by
  have s_s := h_s.short; rw [List.length_map] at s_s
  refine calls_intro (vs := [.slice A_s s.length c_s, .func (.func 28) #[] #[.pointer (some a_c0)]]) (w := w) Tryd.func27 rfl Tryd.ntmps27 rfl ?_
  refine TC.weak [(0, .slice A_s s.length c_s), (1, .func (.func 28) #[] #[.pointer (some a_c0)])] (by kernel_rfl) ?_
  refine TC.seq ?_
  refine TC.region ?_
  refine TL.run 1 [] [(0, .slice A_s s.length c_s), (1, .func (.func 28) #[] #[.pointer (some a_c0)])] rfl ⟨by kernel_rfl, by kernel_rfl⟩ ?_
  refine TL.next rfl ?_
  refine TC.seq ?_
  refine TC.region ?_
  refine TL.run 2 [] [(5, .slice A_s s.length c_s), (6, .func (.func 28) #[] #[.pointer (some a_c0)])] rfl ⟨by kernel_rfl, by kernel_rfl⟩ ?_
  refine TL.call (some 7) [(7, .int .i64 (IndexFunc_site s c0))] (fun w hM => IndexFunc_site_w A_s c_s s a_c0 c0 w (h_s.sat hM) hc_s (h_c0.sat hM)) (by kernel_rfl) (by kernel_rfl) ?_
  generalize hr1 : IndexFunc_site s c0 = r1
  refine TL.run 5 [] [(4, .bool (decide (r1 ≥ 0)))] rfl ⟨by kernel_rfl, by kernel_rfl⟩ ?_
  refine TL.next rfl ?_
  refine TC.ret ?_
  have e : ContainsFunc_site s c0 = (decide (r1 ≥ 0)) := by subst hr1; unfold ContainsFunc_site; exact rfl
  exact TE.ret [] (.bool (decide (r1 ≥ 0))) ⟨by kernel_rfl, by kernel_rfl⟩ (by rw [e]; first | done | kernel_rfl)

def mosaic_Check_L1 (l : List RadarSite) : List RadarSite → Nat → ((Unit) ⊕ (Int))
  | [], _ => .inl ()
  | x :: xs, k => let r1 := radar_Check x
    cond (r1 != 0) (
      .inr r1) (
      let r2 := ContainsFunc_site (l.take k) x
      cond r2 (
        .inr 7) (
        mosaic_Check_L1 l xs (k + 1)))
def mosaic_Check (l : List RadarSite) : Int :=
  cond (decide ((l.length : Int) > 4)) (
    2) (
    Sum.elim (fun _ =>
      0) (fun r => r) (mosaic_Check_L1 l l 0))

set_option maxHeartbeats 4000000 in
set_option maxRecDepth 100000 in
theorem mosaic_Check_w (A_l : Option Addr) (c_l : Nat) (l : List RadarSite) (w : World) (h_l : Rd w 6 A_l (l.map RadarSite.c)) (hc_l : l.length ≤ c_l) : Calls Tryd.prog 13 #[.slice A_l l.length c_l] w (Ret w (.int .i64 (mosaic_Check l))) := by
  have s_l := h_l.short; rw [List.length_map] at s_l
  refine calls_intro (vs := [.slice A_l l.length c_l]) (w := w) Tryd.func13 rfl Tryd.ntmps13 rfl ?_
  refine TC.weak [(0, .slice A_l l.length c_l)] (by kernel_rfl) ?_
  refine TC.seq ?_
  refine TC.region ?_
  refine TL.run 1 [] [(0, .slice A_l l.length c_l)] rfl ⟨by kernel_rfl, by kernel_rfl⟩ ?_
  refine TL.next rfl ?_
  refine TC.seq ?_
  refine TC.seq ?_
  refine TC.region ?_
  refine TL.run 3 [] [(0, .slice A_l l.length c_l), (8, .bool (decide ((l.length : Int) > 4)))] rfl ⟨by kernel_rfl, by kernel_rfl⟩ ?_
  refine TL.next rfl ?_
  refine TC.cond (decide ((l.length : Int) > 4)) rfl (by kernel_rfl) (fun h1 => ?_) (fun h1 => ?_)
  · refine TC.seq ?_
    refine TC.region ?_
    refine TL.run 1 [] [(2, .int .i64 2)] rfl ⟨by kernel_rfl, by kernel_rfl⟩ ?_
    refine TL.next rfl ?_
    refine TC.ret ?_
    refine TE.ret_then ?_
    have e : mosaic_Check l = 2 := by unfold mosaic_Check; exact cond_t h1 (rfl)
    exact TE.ret [] (.int .i64 2) ⟨by kernel_rfl, by kernel_rfl⟩ (by rw [e]; first | done | kernel_rfl)
  · refine TC.skip ?_
    refine TE.next ?_
    refine TC.seq ?_
    refine TC.seq ?_
    refine TC.region ?_
    refine TL.run 3 [] [(0, .slice A_l l.length c_l), (9, .slice A_l l.length c_l), (10, .int .i64 (l.length : Int)), (11, .int .i64 0)] rfl ⟨by kernel_rfl, by kernel_rfl⟩ ?_
    refine TL.next rfl ?_
    refine TC.weak [(0, .slice A_l l.length c_l), (9, .slice A_l l.length c_l), (10, .int .i64 (l.length : Int)), (11, .int .i64 0)] (by kernel_rfl) ?_
    obtain ⟨R1, hR⟩ : ∃ R, R = mosaic_Check_L1 l l 0 := ⟨_, rfl⟩
    refine TC.cut (S := Unit) (fun (_ : Unit) => []) (fun (_ : Unit) => []) (fun (_ : Unit) => R1 = .inl ()) ?_ ?_
    · refine TC.block ?_
      refine TC.loop (X := Nat) (fun k => [(0, .slice A_l l.length c_l), (9, .slice A_l l.length c_l), (10, .int .i64 (l.length : Int)), (11, .int .i64 (k : Int))]) (fun k => []) (fun k => l.length - k) (fun k => k ≤ l.length ∧ R1 = mosaic_Check_L1 l (l.drop k) k) ?_ 0 ⟨Nat.zero_le _, hR⟩
      rintro k ⟨hk, hI⟩
      refine TC.seq ?_
      refine TC.region ?_
      refine TL.run 1 [] [(0, .slice A_l l.length c_l), (9, .slice A_l l.length c_l), (10, .int .i64 (l.length : Int)), (11, .int .i64 (k : Int)), (12, .bool (decide ((k : Int) < (l.length : Int))))] rfl ⟨by kernel_rfl, by kernel_rfl⟩ ?_
      refine TL.next rfl ?_
      refine TC.seq ?_
      refine TC.cond (decide ((k : Int) < (l.length : Int))) rfl (by kernel_rfl) (fun h2 => ?_) (fun h2 => ?_)
      · have hlt : k < l.length := by have := of_decide_eq_true h2; first | omega | (simp at this; omega)
        obtain ⟨x, hx⟩ : ∃ e_, l[k]? = some e_ := ⟨_, List.getElem?_eq_getElem hlt⟩
        have hd := drop_at hx
        refine TC.skip ?_
        refine TE.next ?_
        refine TC.seq ?_
        refine TC.block ?_
        refine TC.seq ?_
        refine TC.region ?_
        refine TL.run 1 [] [(0, .slice A_l l.length c_l), (9, .slice A_l l.length c_l), (10, .int .i64 (l.length : Int)), (11, .int .i64 (k : Int)), (13, .int .i64 (k : Int))] rfl ⟨by kernel_rfl, by kernel_rfl⟩ ?_
        refine TL.val (sV (Instr.indexAt 22 (.slice A_l l.length c_l) (.int .i64 (k : Int)))) (some 14) (.pointer (some ((A_l.getD noAddr).add (k * 6)))) [(0, .slice A_l l.length c_l), (9, .slice A_l l.length c_l), (10, .int .i64 (l.length : Int)), (11, .int .i64 (k : Int)), (13, .int .i64 (k : Int)), (14, .pointer (some ((A_l.getD noAddr).add (k * 6))))] (fun w hM => run_index (h_l.sat hM) (by simp) (by kernel_rfl) (by have q0_ := (dec_f h1); exact sd) (by have q0_ := (dec_f h1); exact sd)) (by kernel_rfl) (by kernel_rfl) ?_
        refine TL.val (sV (Instr.loadAt 32 (.pointer (some ((A_l.getD noAddr).add (k * 6)))))) (some 15) (RadarSite.v x) [(0, .slice A_l l.length c_l), (9, .slice A_l l.length c_l), (10, .int .i64 (l.length : Int)), (11, .int .i64 (k : Int)), (13, .int .i64 (k : Int)), (15, RadarSite.v x)] (fun w hM => run_load_agg (n := 6) (off := 0) (i := k) (RadarSite.v x) (h_l.sat hM) (map_at hx) (by kernel_rfl) (by kernel_rfl) (by kernel_rfl)) (by kernel_rfl) (by kernel_rfl) ?_
        refine TL.write 0 (fun b1 => [(0, .slice A_l l.length c_l), (4, .pointer (some ⟨b1, 0, none⟩)), (9, .slice A_l l.length c_l), (10, .int .i64 (l.length : Int)), (11, .int .i64 (k : Int)), (13, .int .i64 (k : Int)), (15, RadarSite.v x)]) (fun b1 => [.inl (b1, .cells (RadarSite.c RadarSite.zero) 32 (0, 0))]) (fun b1 => ⟨by kernel_rfl, by kernel_rfl⟩) (fun b1 => ?_)
        refine TL.run 5 [] [(0, .slice A_l l.length c_l), (3, .int .i64 (k : Int)), (4, .pointer (some ⟨b1, 0, none⟩)), (9, .slice A_l l.length c_l), (10, .int .i64 (l.length : Int)), (11, .int .i64 (k : Int)), (15, RadarSite.v x)] rfl ⟨by kernel_rfl, by kernel_rfl⟩ ?_
        refine TL.write 0 (fun _ => [(0, .slice A_l l.length c_l), (3, .int .i64 (k : Int)), (4, .pointer (some ⟨b1, 0, none⟩)), (9, .slice A_l l.length c_l), (10, .int .i64 (l.length : Int)), (11, .int .i64 (k : Int))]) (fun _ => [.inl (b1, .cells (RadarSite.c x) 32 (0, 0))]) (fun _ => ⟨by kernel_rfl, by kernel_rfl⟩) (fun _ => ?_)
        refine TL.next rfl ?_
        refine TC.seq ?_
        refine TC.seq ?_
        refine TC.region ?_
        refine TL.run 1 [0] [(0, .slice A_l l.length c_l), (3, .int .i64 (k : Int)), (4, .pointer (some ⟨b1, 0, none⟩)), (9, .slice A_l l.length c_l), (10, .int .i64 (l.length : Int)), (11, .int .i64 (k : Int)), (16, RadarSite.v x)] rfl ⟨by kernel_rfl, by kernel_rfl⟩ ?_
        refine TL.call (some 17) [(0, .slice A_l l.length c_l), (3, .int .i64 (k : Int)), (4, .pointer (some ⟨b1, 0, none⟩)), (9, .slice A_l l.length c_l), (10, .int .i64 (l.length : Int)), (11, .int .i64 (k : Int)), (17, .int .i64 (radar_Check x))] (fun w _ => radar_Check_w x w) (by kernel_rfl) (by kernel_rfl) ?_
        generalize hr1 : radar_Check x = r1
        refine TL.run 3 [] [(0, .slice A_l l.length c_l), (3, .int .i64 (k : Int)), (4, .pointer (some ⟨b1, 0, none⟩)), (5, .int .i64 r1), (9, .slice A_l l.length c_l), (10, .int .i64 (l.length : Int)), (11, .int .i64 (k : Int))] rfl ⟨by kernel_rfl, by kernel_rfl⟩ ?_
        refine TL.next rfl ?_
        refine TC.seq ?_
        refine TC.region ?_
        refine TL.run 2 [] [(0, .slice A_l l.length c_l), (3, .int .i64 (k : Int)), (4, .pointer (some ⟨b1, 0, none⟩)), (5, .int .i64 r1), (9, .slice A_l l.length c_l), (10, .int .i64 (l.length : Int)), (11, .int .i64 (k : Int)), (19, .bool (r1 != 0))] rfl ⟨by kernel_rfl, by kernel_rfl⟩ ?_
        refine TL.next rfl ?_
        refine TC.cond (r1 != 0) rfl (by kernel_rfl) (fun h3 => ?_) (fun h3 => ?_)
        · refine TC.seq ?_
          refine TC.region ?_
          refine TL.run 2 [] [(2, .int .i64 r1)] rfl ⟨by kernel_rfl, by kernel_rfl⟩ ?_
          refine TL.next rfl ?_
          refine TC.ret ?_
          refine TE.ret_then (TE.ret_block (TE.ret_then (TE.ret_then (TE.ret_block (TE.ret_then (TE.ret_then ?_))))))
          have e : mosaic_Check l = r1 := by subst hr1; unfold mosaic_Check; exact cond_f h1 (elim_r (hR.symm.trans (hI.trans (by rw [hd]; exact cond_t h3 (rfl)))) rfl)
          exact TE.ret [] (.int .i64 r1) ⟨by kernel_rfl, by kernel_rfl⟩ (by rw [e]; first | done | kernel_rfl)
        · refine TC.skip ?_
          refine TE.next ?_
          refine TC.seq ?_
          refine TC.region ?_
          refine TL.run 2 [] [(0, .slice A_l l.length c_l), (4, .pointer (some ⟨b1, 0, none⟩)), (9, .slice A_l l.length c_l), (10, .int .i64 (l.length : Int)), (11, .int .i64 (k : Int)), (21, .slice A_l l.length c_l), (22, .int .i64 (k : Int))] rfl ⟨by kernel_rfl, by kernel_rfl⟩ ?_
          obtain ⟨A1, hA1⟩ : ∃ A0_, A0_ = (if c_l = 0 then A_l else A_l.map (fun a => a.add (0 * 6))) := ⟨_, rfl⟩
          have hR1 : Rd w 6 A1 ((l.take k).map RadarSite.c) := by rw [hA1]; exact h_l.cutMap 0 _ hc_l
          have hC1 : (l.take k).length ≤ (c_l - 0) := by simp only [List.length_take]; omega
          have s_hR1 := hR1.short; rw [List.length_map] at s_hR1
          refine TL.val (sV (Instr.sliceAt 22 (.slice A_l l.length c_l) none (some (.int .i64 (k : Int))) none)) (some 23) (.slice A1 ((l.take k).length) (c_l - 0)) [(0, .slice A_l l.length c_l), (4, .pointer (some ⟨b1, 0, none⟩)), (9, .slice A_l l.length c_l), (10, .int .i64 (l.length : Int)), (11, .int .i64 (k : Int)), (23, .slice A1 ((l.take k).length) (c_l - 0))] (fun w hM => (run_slice 0 k (by kernel_rfl) (.inl ⟨rfl, rfl⟩) (.inr ⟨_, _, rfl, (by have q0_ := (dec_f h1); have q1_ := (bne_f h3); exact sd), rfl⟩) (by have q0_ := (dec_f h1); have q1_ := (bne_f h3); exact sd) (by have q0_ := (dec_f h1); have q1_ := (bne_f h3); exact sd)).trans (by rw [hA1]; have q0_ := (dec_f h1); have q1_ := (bne_f h3); congr 3; first | (simp only [List.length_take] <;> omega) | (simp only [List.length_take] at * <;> omega))) (by kernel_rfl) (by kernel_rfl) ?_
          refine TL.run 4 [] [(0, .slice A_l l.length c_l), (9, .slice A_l l.length c_l), (10, .int .i64 (l.length : Int)), (11, .int .i64 (k : Int)), (23, .slice A1 ((l.take k).length) (c_l - 0)), (24, .func (.func 28) #[] #[.pointer (some ⟨b1, 0, none⟩)])] rfl ⟨by kernel_rfl, by kernel_rfl⟩ ?_
          refine TL.call (some 25) [(0, .slice A_l l.length c_l), (9, .slice A_l l.length c_l), (10, .int .i64 (l.length : Int)), (11, .int .i64 (k : Int)), (25, .bool ((ContainsFunc_site (l.take k) x)))] (fun w hM => ContainsFunc_site_w A1 (c_l - 0) (l.take k) ⟨b1, 0, none⟩ x w (hR1.sat hM) hC1 (Rd.lit hM 0 _ rfl (by kernel_rfl) (by kernel_rfl) (by kernel_rfl))) (by kernel_rfl) (by kernel_rfl) ?_
          generalize hr2 : ContainsFunc_site (l.take k) x = r2
          refine TL.next rfl ?_
          refine TC.cond r2 rfl (by kernel_rfl) (fun h4 => ?_) (fun h4 => ?_)
          · refine TC.seq ?_
            refine TC.region ?_
            refine TL.run 1 [] [(2, .int .i64 7)] rfl ⟨by kernel_rfl, by kernel_rfl⟩ ?_
            refine TL.next rfl ?_
            refine TC.ret ?_
            refine TE.ret_block (TE.ret_then (TE.ret_then (TE.ret_block (TE.ret_then (TE.ret_then ?_)))))
            have e : mosaic_Check l = 7 := by subst hr1 hr2; unfold mosaic_Check; exact cond_f h1 (elim_r (hR.symm.trans (hI.trans (by rw [hd]; exact cond_f h3 (cond_t h4 (rfl))))) rfl)
            exact TE.ret [] (.int .i64 7) ⟨by kernel_rfl, by kernel_rfl⟩ (by rw [e]; first | done | kernel_rfl)
          · refine TC.skip ?_
            refine TE.normal_block ?_
            refine TE.next ?_
            refine TC.region ?_
            refine TL.run 2 [] [(0, .slice A_l l.length c_l), (9, .slice A_l l.length c_l), (10, .int .i64 (l.length : Int)), (11, .int .i64 (w64 ((k : Int) + 1)))] rfl ⟨by kernel_rfl, by kernel_rfl⟩ ?_
            refine TL.done rfl ?_
            refine TE.rw 11 (.int .i64 (w64 ((k : Int) + 1))) (.int .i64 ((k + 1 : Nat) : Int)) (by kernel_rfl) (w64_cast k (by omega)) ?_
            exact TE.again (x := k) (k + 1) ⟨by omega, hI.trans (by subst hr1 hr2; rw [hd]; exact cond_f h3 (cond_f h4 (rfl)))⟩ (by show l.length - (k + 1) < l.length - k; omega) (by kernel_rfl) (.cons _ (.slnil))
      · have hd : l.drop k = [] := List.drop_eq_nil_of_le (by have := of_decide_eq_false h2; first | omega | (simp at this; omega))
        refine TC.exit ?_
        refine TE.exit_then (TE.exit_then (TE.exit_same ?_))
        exact TE.cut () (hI.trans (by rw [hd]; exact rfl)) (by kernel_rfl) (.slnil)
    · intro _ hJ
      refine TE.next ?_
      refine TC.seq ?_
      refine TC.region ?_
      refine TL.run 1 [] [(2, .int .i64 0)] rfl ⟨by kernel_rfl, by kernel_rfl⟩ ?_
      refine TL.next rfl ?_
      refine TC.ret ?_
      have e : mosaic_Check l = 0 := by unfold mosaic_Check; exact cond_f h1 (elim_l (hR.symm.trans hJ) (rfl))
      exact TE.ret [] (.int .i64 0) ⟨by kernel_rfl, by kernel_rfl⟩ (by rw [e]; first | done | kernel_rfl)

def radar_Covers (s : RadarSite) (p : P) : Bool × Int :=
  let r1 := radar_Check s
  cond (r1 != 0) (
    (false, r1)) (
    let r2 := plane_Check p
    cond (r2 != 0) (
      (false, r2)) (
      let r3 := plane_Within s.At p s.Reach
      (r3, 0)))

set_option maxRecDepth 100000 in
theorem radar_Covers_w (s : RadarSite) (p : P) (w : World) : Calls Tryd.prog 14 #[RadarSite.v s, P.v p] w (Ret w (.tuple #[.bool ((radar_Covers s p).1), .int .i64 ((radar_Covers s p).2)])) := by
  refine calls_intro (vs := [RadarSite.v s, P.v p]) (w := w) Tryd.func14 rfl Tryd.ntmps14 rfl ?_
  refine TC.weak [(0, RadarSite.v s), (1, P.v p)] (by kernel_rfl) ?_
  refine TC.seq ?_
  refine TC.region ?_
  refine TL.write 0 (fun b1 => [(1, P.v p), (2, .pointer (some ⟨b1, 0, none⟩))]) (fun b1 => [.inl (b1, .cells (RadarSite.c s) 32 (0, 0))]) (fun b1 => ⟨by kernel_rfl, by kernel_rfl⟩) (fun b1 => ?_)
  refine TL.write 0 (fun b2 => [(2, .pointer (some ⟨b1, 0, none⟩)), (3, .pointer (some ⟨b2, 0, none⟩))]) (fun b2 => [.inl (b2, .cells (P.c p) 24 (0, 0)), .inl (b1, .cells (RadarSite.c s) 32 (0, 0))]) (fun b2 => ⟨by kernel_rfl, by kernel_rfl⟩) (fun b2 => ?_)
  refine TL.run 4 [] [(2, .pointer (some ⟨b1, 0, none⟩)), (3, .pointer (some ⟨b2, 0, none⟩))] rfl ⟨by kernel_rfl, by kernel_rfl⟩ ?_
  refine TL.next rfl ?_
  refine TC.seq ?_
  refine TC.seq ?_
  refine TC.region ?_
  refine TL.run 1 [1] [(2, .pointer (some ⟨b1, 0, none⟩)), (3, .pointer (some ⟨b2, 0, none⟩)), (8, RadarSite.v s)] rfl ⟨by kernel_rfl, by kernel_rfl⟩ ?_
  refine TL.call (some 9) [(2, .pointer (some ⟨b1, 0, none⟩)), (3, .pointer (some ⟨b2, 0, none⟩)), (9, .int .i64 (radar_Check s))] (fun w _ => radar_Check_w s w) (by kernel_rfl) (by kernel_rfl) ?_
  generalize hr1 : radar_Check s = r1
  refine TL.run 3 [] [(2, .pointer (some ⟨b1, 0, none⟩)), (3, .pointer (some ⟨b2, 0, none⟩)), (6, .int .i64 r1)] rfl ⟨by kernel_rfl, by kernel_rfl⟩ ?_
  refine TL.next rfl ?_
  refine TC.seq ?_
  refine TC.region ?_
  refine TL.run 2 [] [(2, .pointer (some ⟨b1, 0, none⟩)), (3, .pointer (some ⟨b2, 0, none⟩)), (6, .int .i64 r1), (11, .bool (r1 != 0))] rfl ⟨by kernel_rfl, by kernel_rfl⟩ ?_
  refine TL.next rfl ?_
  refine TC.cond (r1 != 0) rfl (by kernel_rfl) (fun h1 => ?_) (fun h1 => ?_)
  · refine TC.seq ?_
    refine TC.region ?_
    refine TL.run 3 [] [(4, .bool false), (5, .int .i64 r1)] rfl ⟨by kernel_rfl, by kernel_rfl⟩ ?_
    refine TL.next rfl ?_
    refine TC.ret ?_
    refine TE.ret_then ?_
    have e : radar_Covers s p = (false, r1) := by subst hr1; unfold radar_Covers; exact cond_t h1 (rfl)
    exact TE.ret [] (.tuple #[.bool false, .int .i64 r1]) ⟨by kernel_rfl, by kernel_rfl⟩ (by rw [e]; first | done | kernel_rfl)
  · refine TC.skip ?_
    refine TE.next ?_
    refine TC.seq ?_
    refine TC.seq ?_
    refine TC.region ?_
    refine TL.run 1 [0] [(2, .pointer (some ⟨b1, 0, none⟩)), (3, .pointer (some ⟨b2, 0, none⟩)), (13, P.v p)] rfl ⟨by kernel_rfl, by kernel_rfl⟩ ?_
    refine TL.call (some 14) [(2, .pointer (some ⟨b1, 0, none⟩)), (3, .pointer (some ⟨b2, 0, none⟩)), (14, .int .i64 (plane_Check p))] (fun w _ => plane_Check_w p w) (by kernel_rfl) (by kernel_rfl) ?_
    generalize hr2 : plane_Check p = r2
    refine TL.run 3 [] [(2, .pointer (some ⟨b1, 0, none⟩)), (3, .pointer (some ⟨b2, 0, none⟩)), (7, .int .i64 r2)] rfl ⟨by kernel_rfl, by kernel_rfl⟩ ?_
    refine TL.next rfl ?_
    refine TC.seq ?_
    refine TC.region ?_
    refine TL.run 2 [] [(2, .pointer (some ⟨b1, 0, none⟩)), (3, .pointer (some ⟨b2, 0, none⟩)), (7, .int .i64 r2), (16, .bool (r2 != 0))] rfl ⟨by kernel_rfl, by kernel_rfl⟩ ?_
    refine TL.next rfl ?_
    refine TC.cond (r2 != 0) rfl (by kernel_rfl) (fun h2 => ?_) (fun h2 => ?_)
    · refine TC.seq ?_
      refine TC.region ?_
      refine TL.run 3 [] [(4, .bool false), (5, .int .i64 r2)] rfl ⟨by kernel_rfl, by kernel_rfl⟩ ?_
      refine TL.next rfl ?_
      refine TC.ret ?_
      refine TE.ret_then ?_
      have e : radar_Covers s p = (false, r2) := by subst hr1 hr2; unfold radar_Covers; exact cond_f h1 (cond_t h2 (rfl))
      exact TE.ret [] (.tuple #[.bool false, .int .i64 r2]) ⟨by kernel_rfl, by kernel_rfl⟩ (by rw [e]; first | done | kernel_rfl)
    · refine TC.skip ?_
      refine TE.next ?_
      refine TC.seq ?_
      refine TC.region ?_
      refine TL.run 5 [1, 0, 1] [(19, P.v s.At), (20, P.v p), (22, .int .i64 s.Reach)] rfl ⟨by kernel_rfl, by kernel_rfl⟩ ?_
      refine TL.call (some 23) [(23, .bool ((plane_Within s.At p s.Reach)))] (fun w _ => plane_Within_w s.At p s.Reach w) (by kernel_rfl) (by kernel_rfl) ?_
      generalize hr3 : plane_Within s.At p s.Reach = r3
      refine TL.run 8 [] [(4, .bool r3), (5, .int .i64 0)] rfl ⟨by kernel_rfl, by kernel_rfl⟩ ?_
      refine TL.next rfl ?_
      refine TC.ret ?_
      have e : radar_Covers s p = (r3, 0) := by subst hr1 hr2 hr3; unfold radar_Covers; exact cond_f h1 (cond_f h2 (rfl))
      exact TE.ret [] (.tuple #[.bool r3, .int .i64 0]) ⟨by kernel_rfl, by kernel_rfl⟩ (by rw [e]; first | done | kernel_rfl)

def mosaic_Sees_L1 (p : P) : List RadarSite → Nat → (List Int) → ((List Int) ⊕ (List Int × Int))
  | [], _, out => .inl out
  | x :: xs, k, out => let r2 := radar_Covers x p
    cond (r2.2 != 0) (
      .inr ([], r2.2)) (
      cond r2.1 (
        mosaic_Sees_L1 p xs (k + 1) (out ++ ([x.ID]))) (
        mosaic_Sees_L1 p xs (k + 1) out))
def mosaic_Sees (l : List RadarSite) (p : P) : List Int × Int :=
  let r1 := mosaic_Check l
  cond (r1 != 0) (
    ([], r1)) (
    Sum.elim (fun out_2 =>
      let r3 := out_2.mergeSort (fun x y => decide (x ≤ y))
      (r3, 0)) (fun r => r) (mosaic_Sees_L1 p l 0 ([] : List Int)))

theorem chk_len {l : List RadarSite} {r : Int} (hr : mosaic_Check l = r) (h : (r != 0) = false) : l.length ≤ 4 := by
  have h : r = 0 := by simpa using h
  rw [h] at hr
  unfold mosaic_Check at hr
  cases h1 : decide ((l.length : Int) > 4) with
  | true => rw [h1] at hr; cases hr
  | false => have := of_decide_eq_false h1; omega

set_option maxHeartbeats 4000000 in
set_option maxRecDepth 100000 in
theorem mosaic_Sees_w (A_l : Option Addr) (c_l : Nat) (l : List RadarSite) (p : P) (w : World) (h_l : Rd w 6 A_l (l.map RadarSite.c)) (hc_l : l.length ≤ c_l) : Calls Tryd.prog 4 #[.slice A_l l.length c_l, P.v p] w (RetM (Γ := (Option Addr × Nat)) (cx w) (fun g => .tuple #[.slice g.1 ((mosaic_Sees l p).1.length) g.2, .int .i64 ((mosaic_Sees l p).2)]) (fun g => [.inr (Own g.1 g.2 3 1 (((mosaic_Sees l p).1).map ic))])) := by
  have s_l := h_l.short; rw [List.length_map] at s_l
  refine calls_intro (vs := [.slice A_l l.length c_l, P.v p]) (w := w) Tryd.func4 rfl Tryd.ntmps4 rfl ?_
  refine TC.weak [(0, .slice A_l l.length c_l), (1, P.v p)] (by kernel_rfl) ?_
  refine TC.seq ?_
  refine TC.region ?_
  refine TL.write 0 (fun b1 => [(0, .slice A_l l.length c_l), (3, .pointer (some ⟨b1, 0, none⟩))]) (fun b1 => [.inl (b1, .cells (P.c p) 24 (0, 0))]) (fun b1 => ⟨by kernel_rfl, by kernel_rfl⟩) (fun b1 => ?_)
  refine TL.run 3 [] [(0, .slice A_l l.length c_l), (3, .pointer (some ⟨b1, 0, none⟩))] rfl ⟨by kernel_rfl, by kernel_rfl⟩ ?_
  refine TL.next rfl ?_
  refine TC.seq ?_
  refine TC.seq ?_
  refine TC.region ?_
  refine TL.run 1 [] [(0, .slice A_l l.length c_l), (3, .pointer (some ⟨b1, 0, none⟩)), (12, .slice A_l l.length c_l)] rfl ⟨by kernel_rfl, by kernel_rfl⟩ ?_
  refine TL.call (some 13) [(0, .slice A_l l.length c_l), (3, .pointer (some ⟨b1, 0, none⟩)), (13, .int .i64 (mosaic_Check l))] (fun w hM => mosaic_Check_w A_l c_l l w (h_l.sat hM) hc_l) (by kernel_rfl) (by kernel_rfl) ?_
  generalize hr1 : mosaic_Check l = r1
  refine TL.run 3 [] [(0, .slice A_l l.length c_l), (3, .pointer (some ⟨b1, 0, none⟩)), (6, .int .i64 r1)] rfl ⟨by kernel_rfl, by kernel_rfl⟩ ?_
  refine TL.next rfl ?_
  refine TC.seq ?_
  refine TC.region ?_
  refine TL.run 2 [] [(0, .slice A_l l.length c_l), (3, .pointer (some ⟨b1, 0, none⟩)), (6, .int .i64 r1), (15, .bool (r1 != 0))] rfl ⟨by kernel_rfl, by kernel_rfl⟩ ?_
  refine TL.next rfl ?_
  refine TC.cond (r1 != 0) rfl (by kernel_rfl) (fun h1 => ?_) (fun h1 => ?_)
  · refine TC.seq ?_
    refine TC.region ?_
    refine TL.run 3 [] [(4, .slice none 0 0), (5, .int .i64 r1)] rfl ⟨by kernel_rfl, by kernel_rfl⟩ ?_
    refine TL.next rfl ?_
    refine TC.ret ?_
    refine TE.ret_then ?_
    have e : mosaic_Sees l p = ([], r1) := by subst hr1; unfold mosaic_Sees; exact cond_t h1 (rfl)
    refine TE.conv [.inr (Own none 0 3 1 (([] : List Int).map ic)), .inl (b1, .cells (P.c p) 24 (0, 0))] (fun _ hM => hM.emptyrow none 3 1) ?_
    rw [e]
    exact TE.retM (.inl rfl) (none, 0) [] (.tuple #[.slice none 0 0, .int .i64 r1]) ⟨by kernel_rfl, by kernel_rfl⟩ rfl (fun _ hM => hM.sub (.cons_cons _ (.cons _ (.slnil))))
  · refine TC.skip ?_
    refine TE.next ?_
    refine TC.seq ?_
    refine TC.region ?_
    refine TL.run 1 [] [(0, .slice A_l l.length c_l), (3, .pointer (some ⟨b1, 0, none⟩)), (7, .slice none 0 0)] rfl ⟨by kernel_rfl, by kernel_rfl⟩ ?_
    refine TL.next rfl ?_
    refine TC.seq ?_
    refine TC.seq ?_
    refine TC.region ?_
    refine TL.run 3 [] [(3, .pointer (some ⟨b1, 0, none⟩)), (7, .slice none 0 0), (17, .slice A_l l.length c_l), (18, .int .i64 (l.length : Int)), (19, .int .i64 0)] rfl ⟨by kernel_rfl, by kernel_rfl⟩ ?_
    refine TL.next rfl ?_
    refine TC.conv [.inr (Own none 0 3 1 (([] : List Int).map ic)), .inl (b1, .cells (P.c p) 24 (0, 0))] (fun _ hM => hM.emptyrow none 3 1) ?_
    refine TC.weak [(3, .pointer (some ⟨b1, 0, none⟩)), (7, .slice none (([] : List Int).length) 0), (17, .slice A_l l.length c_l), (18, .int .i64 (l.length : Int)), (19, .int .i64 0)] (by kernel_rfl) ?_
    obtain ⟨R3, hR⟩ : ∃ R, R = mosaic_Sees_L1 p l 0 ([] : List Int) := ⟨_, rfl⟩
    refine TC.cut (S := (List Int) × (Option Addr) × Nat) (fun (out_2, A_out_2, c_out_2) => [(7, .slice A_out_2 out_2.length c_out_2)]) (fun (out_2, A_out_2, c_out_2) => [.inr (Own A_out_2 c_out_2 3 1 (out_2.map ic))]) (fun (out_2, A_out_2, c_out_2) => R3 = .inl out_2 ∧ out_2.length ≤ l.length) ?_ ?_
    · refine TC.block ?_
      refine TC.loop (X := Nat × (List Int) × (Option Addr) × Nat) (fun (k, out, A_out, c_out) => [(3, .pointer (some ⟨b1, 0, none⟩)), (7, .slice A_out out.length c_out), (17, .slice A_l l.length c_l), (18, .int .i64 (l.length : Int)), (19, .int .i64 (k : Int))]) (fun (k, out, A_out, c_out) => [.inr (Own A_out c_out 3 1 (out.map ic)), .inl (b1, .cells (P.c p) 24 (0, 0))]) (fun (k, out, A_out, c_out) => l.length - k) (fun (k, out, A_out, c_out) => k ≤ l.length ∧ R3 = mosaic_Sees_L1 p (l.drop k) k out ∧ out.length ≤ k) ?_ (0, ([] : List Int), none, 0) ⟨Nat.zero_le _, hR, (by first | omega | (simp; omega) | simp)⟩
      rintro ⟨k, out, A_out, c_out⟩ ⟨hk, hI, hl_out⟩
      refine TC.seq ?_
      refine TC.region ?_
      refine TL.run 1 [] [(3, .pointer (some ⟨b1, 0, none⟩)), (7, .slice A_out out.length c_out), (17, .slice A_l l.length c_l), (18, .int .i64 (l.length : Int)), (19, .int .i64 (k : Int)), (20, .bool (decide ((k : Int) < (l.length : Int))))] rfl ⟨by kernel_rfl, by kernel_rfl⟩ ?_
      refine TL.next rfl ?_
      refine TC.seq ?_
      refine TC.cond (decide ((k : Int) < (l.length : Int))) rfl (by kernel_rfl) (fun h2 => ?_) (fun h2 => ?_)
      · have hlt : k < l.length := by have := of_decide_eq_true h2; first | omega | (simp at this; omega)
        obtain ⟨x, hx⟩ : ∃ e_, l[k]? = some e_ := ⟨_, List.getElem?_eq_getElem hlt⟩
        have hd := drop_at hx
        refine TC.skip ?_
        refine TE.next ?_
        refine TC.seq ?_
        refine TC.block ?_
        refine TC.seq ?_
        refine TC.region ?_
        refine TL.val (sV (Instr.indexAt 22 (.slice A_l l.length c_l) (.int .i64 (k : Int)))) (some 21) (.pointer (some ((A_l.getD noAddr).add (k * 6)))) [(3, .pointer (some ⟨b1, 0, none⟩)), (7, .slice A_out out.length c_out), (17, .slice A_l l.length c_l), (18, .int .i64 (l.length : Int)), (19, .int .i64 (k : Int)), (21, .pointer (some ((A_l.getD noAddr).add (k * 6))))] (fun w hM => run_index (h_l.sat hM) (by simp) (by kernel_rfl) (by have q0_ := (bne_f h1); (try have kl_ := chk_len hr1 h1); exact sd) (by have q0_ := (bne_f h1); (try have kl_ := chk_len hr1 h1); exact sd)) (by kernel_rfl) (by kernel_rfl) ?_
        refine TL.val (sV (Instr.loadAt 32 (.pointer (some ((A_l.getD noAddr).add (k * 6)))))) (some 22) (RadarSite.v x) [(3, .pointer (some ⟨b1, 0, none⟩)), (7, .slice A_out out.length c_out), (17, .slice A_l l.length c_l), (18, .int .i64 (l.length : Int)), (19, .int .i64 (k : Int)), (22, RadarSite.v x)] (fun w hM => run_load_agg (n := 6) (off := 0) (i := k) (RadarSite.v x) (h_l.sat hM) (map_at hx) (by kernel_rfl) (by kernel_rfl) (by kernel_rfl)) (by kernel_rfl) (by kernel_rfl) ?_
        refine TL.write 0 (fun b2 => [(3, .pointer (some ⟨b1, 0, none⟩)), (7, .slice A_out out.length c_out), (9, .pointer (some ⟨b2, 0, none⟩)), (17, .slice A_l l.length c_l), (18, .int .i64 (l.length : Int)), (19, .int .i64 (k : Int)), (22, RadarSite.v x)]) (fun b2 => [.inl (b2, .cells (RadarSite.c RadarSite.zero) 32 (0, 0)), .inr (Own A_out c_out 3 1 (out.map ic)), .inl (b1, .cells (P.c p) 24 (0, 0))]) (fun b2 => ⟨by kernel_rfl, by kernel_rfl⟩) (fun b2 => ?_)
        refine TL.write 0 (fun _ => [(3, .pointer (some ⟨b1, 0, none⟩)), (7, .slice A_out out.length c_out), (9, .pointer (some ⟨b2, 0, none⟩)), (17, .slice A_l l.length c_l), (18, .int .i64 (l.length : Int)), (19, .int .i64 (k : Int))]) (fun _ => [.inl (b2, .cells (RadarSite.c x) 32 (0, 0)), .inr (Own A_out c_out 3 1 (out.map ic)), .inl (b1, .cells (P.c p) 24 (0, 0))]) (fun _ => ⟨by kernel_rfl, by kernel_rfl⟩) (fun _ => ?_)
        refine TL.next rfl ?_
        refine TC.seq ?_
        refine TC.region ?_
        refine TL.run 2 [0, 2] [(3, .pointer (some ⟨b1, 0, none⟩)), (7, .slice A_out out.length c_out), (9, .pointer (some ⟨b2, 0, none⟩)), (17, .slice A_l l.length c_l), (18, .int .i64 (l.length : Int)), (19, .int .i64 (k : Int)), (24, RadarSite.v x), (25, P.v p)] rfl ⟨by kernel_rfl, by kernel_rfl⟩ ?_
        refine TL.call (some 26) [(3, .pointer (some ⟨b1, 0, none⟩)), (7, .slice A_out out.length c_out), (9, .pointer (some ⟨b2, 0, none⟩)), (17, .slice A_l l.length c_l), (18, .int .i64 (l.length : Int)), (19, .int .i64 (k : Int)), (26, .tuple #[.bool ((radar_Covers x p).1), .int .i64 ((radar_Covers x p).2)])] (fun w _ => radar_Covers_w x p w) (by kernel_rfl) (by kernel_rfl) ?_
        generalize hr2 : radar_Covers x p = r2
        refine TL.run 8 [] [(3, .pointer (some ⟨b1, 0, none⟩)), (7, .slice A_out out.length c_out), (9, .pointer (some ⟨b2, 0, none⟩)), (10, .bool r2.1), (11, .int .i64 r2.2), (17, .slice A_l l.length c_l), (18, .int .i64 (l.length : Int)), (19, .int .i64 (k : Int))] rfl ⟨by kernel_rfl, by kernel_rfl⟩ ?_
        refine TL.next rfl ?_
        refine TC.seq ?_
        refine TC.seq ?_
        refine TC.region ?_
        refine TL.run 2 [] [(3, .pointer (some ⟨b1, 0, none⟩)), (7, .slice A_out out.length c_out), (9, .pointer (some ⟨b2, 0, none⟩)), (10, .bool r2.1), (11, .int .i64 r2.2), (17, .slice A_l l.length c_l), (18, .int .i64 (l.length : Int)), (19, .int .i64 (k : Int)), (30, .bool (r2.2 != 0))] rfl ⟨by kernel_rfl, by kernel_rfl⟩ ?_
        refine TL.next rfl ?_
        refine TC.cond (r2.2 != 0) rfl (by kernel_rfl) (fun h3 => ?_) (fun h3 => ?_)
        · refine TC.seq ?_
          refine TC.region ?_
          refine TL.run 3 [] [(4, .slice none 0 0), (5, .int .i64 r2.2)] rfl ⟨by kernel_rfl, by kernel_rfl⟩ ?_
          refine TL.next rfl ?_
          refine TC.ret ?_
          refine TE.ret_then (TE.ret_block (TE.ret_then (TE.ret_then (TE.ret_block (TE.ret_then (TE.ret_then ?_))))))
          have e : mosaic_Sees l p = ([], r2.2) := by subst hr1 hr2; unfold mosaic_Sees; exact cond_f h1 (elim_r (hR.symm.trans (hI.trans (by rw [hd]; exact cond_t h3 (rfl)))) rfl)
          refine TE.conv [.inr (Own none 0 3 1 (([] : List Int).map ic)), .inl (b2, .cells (RadarSite.c x) 32 (0, 0)), .inr (Own A_out c_out 3 1 (out.map ic)), .inl (b1, .cells (P.c p) 24 (0, 0))] (fun _ hM => hM.emptyrow none 3 1) ?_
          rw [e]
          exact TE.retM (.inl rfl) (none, 0) [] (.tuple #[.slice none 0 0, .int .i64 r2.2]) ⟨by kernel_rfl, by kernel_rfl⟩ rfl (fun _ hM => hM.sub (.cons_cons _ (.cons _ (.cons _ (.cons _ (.slnil))))))
        · refine TC.skip ?_
          refine TE.next ?_
          refine TC.seq ?_
          refine TC.region ?_
          refine TL.run 1 [] [(3, .pointer (some ⟨b1, 0, none⟩)), (7, .slice A_out out.length c_out), (9, .pointer (some ⟨b2, 0, none⟩)), (17, .slice A_l l.length c_l), (18, .int .i64 (l.length : Int)), (19, .int .i64 (k : Int)), (32, .bool r2.1)] rfl ⟨by kernel_rfl, by kernel_rfl⟩ ?_
          refine TL.next rfl ?_
          refine TC.cond r2.1 rfl (by kernel_rfl) (fun h4 => ?_) (fun h4 => ?_)
          · refine TC.region ?_
            refine TL.run 3 [0] [(3, .pointer (some ⟨b1, 0, none⟩)), (17, .slice A_l l.length c_l), (18, .int .i64 (l.length : Int)), (19, .int .i64 (k : Int)), (33, .slice A_out out.length c_out), (35, .int .i64 x.ID)] rfl ⟨by kernel_rfl, by kernel_rfl⟩ ?_
            refine TL.write 0 (fun b3 => [(3, .pointer (some ⟨b1, 0, none⟩)), (17, .slice A_l l.length c_l), (18, .int .i64 (l.length : Int)), (19, .int .i64 (k : Int)), (33, .slice A_out out.length c_out), (36, .slice (some ⟨b3, 0, none⟩) 1 1)]) (fun b3 => [.inl (b3, .cells #[.int .i64 x.ID] 3 (0, 0)), .inl (b2, .cells (RadarSite.c x) 32 (0, 0)), .inr (Own A_out c_out 3 1 (out.map ic)), .inl (b1, .cells (P.c p) 24 (0, 0))]) (fun b3 => ⟨by kernel_rfl, by kernel_rfl⟩) (fun b3 => ?_)
            refine TL.opM (Γ := Option Addr × Nat) (sV (Builtin.append_ #[27, 27] 27 #[.slice A_out out.length c_out, .slice (some ⟨b3, 0, none⟩) 1 1])) (some 37) (fun g => .slice g.1 (out ++ ([x.ID])).length g.2) (fun g => [.inl (b3, .cells #[.int .i64 x.ID] 3 (0, 0)), .inl (b2, .cells (RadarSite.c x) 32 (0, 0)), .inr (Own g.1 g.2 3 1 ((out ++ ([x.ID])).map ic)), .inl (b1, .cells (P.c p) 24 (0, 0))]) (fun g => [(3, .pointer (some ⟨b1, 0, none⟩)), (17, .slice A_l l.length c_l), (18, .int .i64 (l.length : Int)), (19, .int .i64 (k : Int)), (37, .slice g.1 ((out ++ ([x.ID])).length) g.2)]) (app_at (bytes := 8) 27 2 ([x.ID]) (by kernel_rfl) rfl rfl ic_one rfl (fun w hM => (Rd.lit hM 0 _ rfl (by kernel_rfl) (by kernel_rfl) (by kernel_rfl))) rfl (by have q0_ := (bne_f h1); have q1_ := (bne_f h3); (try have kl_ := chk_len hr1 h1); first | omega | (simp <;> omega) | (simp at * <;> omega))) (by kernel_rfl) (fun g => by kernel_rfl) ?_
            rintro ⟨A, c⟩
            refine TL.run 6 [] [(3, .pointer (some ⟨b1, 0, none⟩)), (7, .slice A ((out ++ ([x.ID])).length) c), (17, .slice A_l l.length c_l), (18, .int .i64 (l.length : Int)), (19, .int .i64 (k : Int))] rfl ⟨by kernel_rfl, by kernel_rfl⟩ ?_
            refine TL.done rfl ?_
            refine TE.normal_block ?_
            refine TE.next ?_
            refine TC.region ?_
            refine TL.run 2 [] [(3, .pointer (some ⟨b1, 0, none⟩)), (7, .slice A ((out ++ ([x.ID])).length) c), (17, .slice A_l l.length c_l), (18, .int .i64 (l.length : Int)), (19, .int .i64 (w64 ((k : Int) + 1)))] rfl ⟨by kernel_rfl, by kernel_rfl⟩ ?_
            refine TL.done rfl ?_
            refine TE.rw 19 (.int .i64 (w64 ((k : Int) + 1))) (.int .i64 ((k + 1 : Nat) : Int)) (by kernel_rfl) (w64_cast k (by (try have kl_ := chk_len hr1 h1); omega)) ?_
            exact TE.again (x := (k, out, A_out, c_out)) (k + 1, (out ++ ([x.ID])), A, c) ⟨by omega, hI.trans (by subst hr1 hr2; rw [hd]; exact cond_f h3 (cond_t h4 (rfl))), (by have q0_ := (bne_f h1); have q1_ := (bne_f h3); (try have kl_ := chk_len hr1 h1); first | omega | (simp <;> omega) | (simp at * <;> omega) | (simp only [w64_eq] at *; omega) | (simp only [List.length_append, List.length_cons, List.length_nil]; omega))⟩ (by show l.length - (k + 1) < l.length - k; omega) (by kernel_rfl) (.cons _ (.cons _ (.cons_cons _ (.cons_cons _ (.slnil)))))
          · refine TC.skip ?_
            refine TE.normal_block ?_
            refine TE.next ?_
            refine TC.region ?_
            refine TL.run 2 [] [(3, .pointer (some ⟨b1, 0, none⟩)), (7, .slice A_out out.length c_out), (17, .slice A_l l.length c_l), (18, .int .i64 (l.length : Int)), (19, .int .i64 (w64 ((k : Int) + 1)))] rfl ⟨by kernel_rfl, by kernel_rfl⟩ ?_
            refine TL.done rfl ?_
            refine TE.rw 19 (.int .i64 (w64 ((k : Int) + 1))) (.int .i64 ((k + 1 : Nat) : Int)) (by kernel_rfl) (w64_cast k (by (try have kl_ := chk_len hr1 h1); omega)) ?_
            exact TE.again (x := (k, out, A_out, c_out)) (k + 1, out, A_out, c_out) ⟨by omega, hI.trans (by subst hr1 hr2; rw [hd]; exact cond_f h3 (cond_f h4 (rfl))), (by have q0_ := (bne_f h1); have q1_ := (bne_f h3); (try have kl_ := chk_len hr1 h1); first | omega | (simp <;> omega) | (simp at * <;> omega) | (simp only [w64_eq] at *; omega) | (simp only [List.length_append, List.length_cons, List.length_nil]; omega))⟩ (by show l.length - (k + 1) < l.length - k; omega) (by kernel_rfl) (.cons _ (.cons_cons _ (.cons_cons _ (.slnil))))
      · have hd : l.drop k = [] := List.drop_eq_nil_of_le (by have := of_decide_eq_false h2; first | omega | (simp at this; omega))
        refine TC.exit ?_
        refine TE.exit_then (TE.exit_then (TE.exit_same ?_))
        exact TE.cut (out, A_out, c_out) (⟨hI.trans (by subst hr1; rw [hd]; exact rfl), (by have q0_ := (bne_f h1); (try have kl_ := chk_len hr1 h1); first | omega | (simp <;> omega) | (simp at * <;> omega) | (simp only [w64_eq] at *; omega) | (simp only [List.length_append, List.length_cons, List.length_nil]; omega))⟩) (by kernel_rfl) (.cons_cons _ (.cons _ (.slnil)))
    · rintro ⟨out_2, A_out_2, c_out_2⟩ ⟨hJ, hl_out_2⟩
      refine TE.next ?_
      refine TC.seq ?_
      refine TC.region ?_
      refine TL.run 1 [] [(7, .slice A_out_2 out_2.length c_out_2), (39, .slice A_out_2 out_2.length c_out_2)] rfl ⟨by kernel_rfl, by kernel_rfl⟩ ?_
      refine TL.callM (Γ := (List Int)) (fun _ => .tuple #[]) (fun g => [.inr (Fact (g.length = out_2.length ∧ g = out_2.mergeSort (fun x y => decide (x ≤ y)))), .inr (Own A_out_2 c_out_2 3 1 (g.map ic))]) [.inr (Own A_out_2 c_out_2 3 1 (out_2.map ic))] [] (some 40) (fun _ => [(7, .slice A_out_2 out_2.length c_out_2)]) (fun w hM => sortI_w A_out_2 c_out_2 out_2 w hM.pass) (by kernel_rfl) (fun g => by kernel_rfl) ?_
      rintro r3
      refine TL.conv [.inr (Fact (r3.length = out_2.length ∧ r3 = out_2.mergeSort (fun x y => decide (x ≤ y)))), .inr (Own A_out_2 c_out_2 3 1 (r3.map ic))] (fun _ hM => hM) ?_
      refine TL.know (fun w hM => hM.fact_at 0 rfl) (fun hp_sortI => ?_)
      refine TL.forget [.inr (Own A_out_2 c_out_2 3 1 (r3.map ic))] (.cons _ (List.Sublist.refl _)) ?_
      have hl_r3 : r3.length = out_2.length := hp_sortI.1
      refine TL.rw 7 (.slice A_out_2 out_2.length c_out_2) (.slice A_out_2 r3.length c_out_2) (by kernel_rfl) (by rw [hl_r3]) ?_
      have hr3 : out_2.mergeSort (fun x y => decide (x ≤ y)) = r3 := (hp_sortI.2).symm
      refine TL.next rfl ?_
      refine TC.seq ?_
      refine TC.region ?_
      refine TL.run 3 [] [(4, .slice A_out_2 r3.length c_out_2), (5, .int .i64 0)] rfl ⟨by kernel_rfl, by kernel_rfl⟩ ?_
      refine TL.next rfl ?_
      refine TC.ret ?_
      have e : mosaic_Sees l p = (r3, 0) := by subst hr1 hr3; unfold mosaic_Sees; exact cond_f h1 (elim_l (hR.symm.trans hJ) (rfl))
      rw [e]
      exact TE.retM (.inl rfl) (A_out_2, c_out_2) [] (.tuple #[.slice A_out_2 r3.length c_out_2, .int .i64 0]) ⟨by kernel_rfl, by kernel_rfl⟩ rfl (fun _ hM => hM.sub (.cons_cons _ (.slnil)))

def mosaic_checkPlots_L1 : List Plot → Nat → ((Unit) ⊕ (Int))
  | [], _ => .inl ()
  | x :: xs, k => let r1 := radar_CheckPlot x
    cond (r1 != 0) (
      .inr r1) (
      mosaic_checkPlots_L1 xs (k + 1))
def mosaic_checkPlots (l : List Plot) : Int :=
  cond (decide ((l.length : Int) > 1024)) (
    2) (
    Sum.elim (fun _ =>
      0) (fun r => r) (mosaic_checkPlots_L1 l 0))

set_option maxRecDepth 100000 in
theorem mosaic_checkPlots_w (A_l : Option Addr) (c_l : Nat) (l : List Plot) (w : World) (h_l : Rd w 6 A_l (l.map Plot.c)) (_hc_l : l.length ≤ c_l) : Calls Tryd.prog 24 #[.slice A_l l.length c_l] w (Ret w (.int .i64 (mosaic_checkPlots l))) := by
  have s_l := h_l.short; rw [List.length_map] at s_l
  refine calls_intro (vs := [.slice A_l l.length c_l]) (w := w) Tryd.func24 rfl Tryd.ntmps24 rfl ?_
  refine TC.weak [(0, .slice A_l l.length c_l)] (by kernel_rfl) ?_
  refine TC.seq ?_
  refine TC.region ?_
  refine TL.run 1 [] [(0, .slice A_l l.length c_l)] rfl ⟨by kernel_rfl, by kernel_rfl⟩ ?_
  refine TL.next rfl ?_
  refine TC.seq ?_
  refine TC.seq ?_
  refine TC.region ?_
  refine TL.run 3 [] [(0, .slice A_l l.length c_l), (8, .bool (decide ((l.length : Int) > 1024)))] rfl ⟨by kernel_rfl, by kernel_rfl⟩ ?_
  refine TL.next rfl ?_
  refine TC.cond (decide ((l.length : Int) > 1024)) rfl (by kernel_rfl) (fun h1 => ?_) (fun h1 => ?_)
  · refine TC.seq ?_
    refine TC.region ?_
    refine TL.run 1 [] [(2, .int .i64 2)] rfl ⟨by kernel_rfl, by kernel_rfl⟩ ?_
    refine TL.next rfl ?_
    refine TC.ret ?_
    refine TE.ret_then ?_
    have e : mosaic_checkPlots l = 2 := by unfold mosaic_checkPlots; exact cond_t h1 (rfl)
    exact TE.ret [] (.int .i64 2) ⟨by kernel_rfl, by kernel_rfl⟩ (by rw [e]; first | done | kernel_rfl)
  · refine TC.skip ?_
    refine TE.next ?_
    refine TC.seq ?_
    refine TC.seq ?_
    refine TC.region ?_
    refine TL.run 3 [] [(9, .slice A_l l.length c_l), (10, .int .i64 (l.length : Int)), (11, .int .i64 0)] rfl ⟨by kernel_rfl, by kernel_rfl⟩ ?_
    refine TL.next rfl ?_
    refine TC.weak [(9, .slice A_l l.length c_l), (10, .int .i64 (l.length : Int)), (11, .int .i64 0)] (by kernel_rfl) ?_
    obtain ⟨R1, hR⟩ : ∃ R, R = mosaic_checkPlots_L1 l 0 := ⟨_, rfl⟩
    refine TC.cut (S := Unit) (fun (_ : Unit) => []) (fun (_ : Unit) => []) (fun (_ : Unit) => R1 = .inl ()) ?_ ?_
    · refine TC.block ?_
      refine TC.loop (X := Nat) (fun k => [(9, .slice A_l l.length c_l), (10, .int .i64 (l.length : Int)), (11, .int .i64 (k : Int))]) (fun k => []) (fun k => l.length - k) (fun k => k ≤ l.length ∧ R1 = mosaic_checkPlots_L1 (l.drop k) k) ?_ 0 ⟨Nat.zero_le _, hR⟩
      rintro k ⟨hk, hI⟩
      refine TC.seq ?_
      refine TC.region ?_
      refine TL.run 1 [] [(9, .slice A_l l.length c_l), (10, .int .i64 (l.length : Int)), (11, .int .i64 (k : Int)), (12, .bool (decide ((k : Int) < (l.length : Int))))] rfl ⟨by kernel_rfl, by kernel_rfl⟩ ?_
      refine TL.next rfl ?_
      refine TC.seq ?_
      refine TC.cond (decide ((k : Int) < (l.length : Int))) rfl (by kernel_rfl) (fun h2 => ?_) (fun h2 => ?_)
      · have hlt : k < l.length := by have := of_decide_eq_true h2; first | omega | (simp at this; omega)
        obtain ⟨x, hx⟩ : ∃ e_, l[k]? = some e_ := ⟨_, List.getElem?_eq_getElem hlt⟩
        have hd := drop_at hx
        refine TC.skip ?_
        refine TE.next ?_
        refine TC.seq ?_
        refine TC.block ?_
        refine TC.seq ?_
        refine TC.region ?_
        refine TL.val (sV (Instr.indexAt 34 (.slice A_l l.length c_l) (.int .i64 (k : Int)))) (some 13) (.pointer (some ((A_l.getD noAddr).add (k * 6)))) [(9, .slice A_l l.length c_l), (10, .int .i64 (l.length : Int)), (11, .int .i64 (k : Int)), (13, .pointer (some ((A_l.getD noAddr).add (k * 6))))] (fun w hM => run_index (h_l.sat hM) (by simp) (by kernel_rfl) (by have q0_ := (dec_f h1); exact sd) (by have q0_ := (dec_f h1); exact sd)) (by kernel_rfl) (by kernel_rfl) ?_
        refine TL.val (sV (Instr.loadAt 36 (.pointer (some ((A_l.getD noAddr).add (k * 6)))))) (some 14) (Plot.v x) [(9, .slice A_l l.length c_l), (10, .int .i64 (l.length : Int)), (11, .int .i64 (k : Int)), (14, Plot.v x)] (fun w hM => run_load_agg (n := 6) (off := 0) (i := k) (Plot.v x) (h_l.sat hM) (map_at hx) (by kernel_rfl) (by kernel_rfl) (by kernel_rfl)) (by kernel_rfl) (by kernel_rfl) ?_
        refine TL.write 0 (fun b1 => [(4, .pointer (some ⟨b1, 0, none⟩)), (9, .slice A_l l.length c_l), (10, .int .i64 (l.length : Int)), (11, .int .i64 (k : Int)), (14, Plot.v x)]) (fun b1 => [.inl (b1, .cells (Plot.c Plot.zero) 36 (0, 0))]) (fun b1 => ⟨by kernel_rfl, by kernel_rfl⟩) (fun b1 => ?_)
        refine TL.write 0 (fun _ => [(4, .pointer (some ⟨b1, 0, none⟩)), (9, .slice A_l l.length c_l), (10, .int .i64 (l.length : Int)), (11, .int .i64 (k : Int))]) (fun _ => [.inl (b1, .cells (Plot.c x) 36 (0, 0))]) (fun _ => ⟨by kernel_rfl, by kernel_rfl⟩) (fun _ => ?_)
        refine TL.next rfl ?_
        refine TC.seq ?_
        refine TC.region ?_
        refine TL.run 1 [0] [(9, .slice A_l l.length c_l), (10, .int .i64 (l.length : Int)), (11, .int .i64 (k : Int)), (15, Plot.v x)] rfl ⟨by kernel_rfl, by kernel_rfl⟩ ?_
        refine TL.call (some 16) [(9, .slice A_l l.length c_l), (10, .int .i64 (l.length : Int)), (11, .int .i64 (k : Int)), (16, .int .i64 (radar_CheckPlot x))] (fun w _ => radar_CheckPlot_w x w) (by kernel_rfl) (by kernel_rfl) ?_
        generalize hr1 : radar_CheckPlot x = r1
        refine TL.run 3 [] [(5, .int .i64 r1), (9, .slice A_l l.length c_l), (10, .int .i64 (l.length : Int)), (11, .int .i64 (k : Int))] rfl ⟨by kernel_rfl, by kernel_rfl⟩ ?_
        refine TL.next rfl ?_
        refine TC.seq ?_
        refine TC.region ?_
        refine TL.run 2 [] [(5, .int .i64 r1), (9, .slice A_l l.length c_l), (10, .int .i64 (l.length : Int)), (11, .int .i64 (k : Int)), (18, .bool (r1 != 0))] rfl ⟨by kernel_rfl, by kernel_rfl⟩ ?_
        refine TL.next rfl ?_
        refine TC.cond (r1 != 0) rfl (by kernel_rfl) (fun h3 => ?_) (fun h3 => ?_)
        · refine TC.seq ?_
          refine TC.region ?_
          refine TL.run 2 [] [(2, .int .i64 r1)] rfl ⟨by kernel_rfl, by kernel_rfl⟩ ?_
          refine TL.next rfl ?_
          refine TC.ret ?_
          refine TE.ret_block (TE.ret_then (TE.ret_then (TE.ret_block (TE.ret_then (TE.ret_then ?_)))))
          have e : mosaic_checkPlots l = r1 := by subst hr1; unfold mosaic_checkPlots; exact cond_f h1 (elim_r (hR.symm.trans (hI.trans (by rw [hd]; exact cond_t h3 (rfl)))) rfl)
          exact TE.ret [] (.int .i64 r1) ⟨by kernel_rfl, by kernel_rfl⟩ (by rw [e]; first | done | kernel_rfl)
        · refine TC.skip ?_
          refine TE.normal_block ?_
          refine TE.next ?_
          refine TC.region ?_
          refine TL.run 2 [] [(9, .slice A_l l.length c_l), (10, .int .i64 (l.length : Int)), (11, .int .i64 (w64 ((k : Int) + 1)))] rfl ⟨by kernel_rfl, by kernel_rfl⟩ ?_
          refine TL.done rfl ?_
          refine TE.rw 11 (.int .i64 (w64 ((k : Int) + 1))) (.int .i64 ((k + 1 : Nat) : Int)) (by kernel_rfl) (w64_cast k (by omega)) ?_
          exact TE.again (x := k) (k + 1) ⟨by omega, hI.trans (by subst hr1; rw [hd]; exact cond_f h3 (rfl))⟩ (by show l.length - (k + 1) < l.length - k; omega) (by kernel_rfl) (.cons _ (.slnil))
      · have hd : l.drop k = [] := List.drop_eq_nil_of_le (by have := of_decide_eq_false h2; first | omega | (simp at this; omega))
        refine TC.exit ?_
        refine TE.exit_then (TE.exit_then (TE.exit_same ?_))
        exact TE.cut () (hI.trans (by rw [hd]; exact rfl)) (by kernel_rfl) (.slnil)
    · intro _ hJ
      refine TE.next ?_
      refine TC.seq ?_
      refine TC.region ?_
      refine TL.run 1 [] [(2, .int .i64 0)] rfl ⟨by kernel_rfl, by kernel_rfl⟩ ?_
      refine TL.next rfl ?_
      refine TC.ret ?_
      have e : mosaic_checkPlots l = 0 := by unfold mosaic_checkPlots; exact cond_f h1 (elim_l (hR.symm.trans hJ) (rfl))
      exact TE.ret [] (.int .i64 0) ⟨by kernel_rfl, by kernel_rfl⟩ (by rw [e]; first | done | kernel_rfl)

def mosaic_Spots_L2 (x : Plot) : List RadarSite → Nat → (List Spot) → (List Spot)
  | [], _, out_3 => out_3
  | x_2 :: xs, k_2, out_3 => cond (x_2.ID != x.Radar) (
      mosaic_Spots_L2 x xs (k_2 + 1) out_3) (
      let r3 := radar_Spot x_2 x
      cond (r3.2 == 0) (
        mosaic_Spots_L2 x xs (k_2 + 1) (out_3 ++ ([r3.1]))) (
        mosaic_Spots_L2 x xs (k_2 + 1) out_3))
def mosaic_Spots_L1 (l : List RadarSite) : List Plot → Nat → (List Spot) → (List Spot)
  | [], _, out => out
  | x :: xs, k, out => bindv (mosaic_Spots_L2 x l 0 out) (fun out_4 =>
      mosaic_Spots_L1 l xs (k + 1) out_4)
def mosaic_Spots (l : List RadarSite) (plots : List Plot) : List Spot × Int :=
  let r1 := mosaic_Check l
  cond (r1 != 0) (
    ([], r1)) (
    let r2 := mosaic_checkPlots plots
    cond (r2 != 0) (
      ([], r2)) (
      bindv (mosaic_Spots_L1 l plots 0 ([] : List Spot)) (fun out_2 =>
        (out_2, 0))))

theorem chkp_len {l : List Plot} {r : Int} (hr : mosaic_checkPlots l = r) (h : (r != 0) = false) : l.length ≤ 1024 := by
  have h : r = 0 := by simpa using h
  rw [h] at hr
  unfold mosaic_checkPlots at hr
  cases h1 : decide ((l.length : Int) > 1024) with
  | true => rw [h1] at hr; cases hr
  | false => have := of_decide_eq_false h1; omega

set_option maxHeartbeats 4000000 in
set_option maxRecDepth 100000 in
theorem mosaic_Spots_w (A_l : Option Addr) (c_l : Nat) (l : List RadarSite) (A_plots : Option Addr) (c_plots : Nat) (plots : List Plot) (w : World) (h_l : Rd w 6 A_l (l.map RadarSite.c)) (hc_l : l.length ≤ c_l) (h_plots : Rd w 6 A_plots (plots.map Plot.c)) (hc_plots : plots.length ≤ c_plots) (hT : Tabs w) : Calls Tryd.prog 9 #[.slice A_l l.length c_l, .slice A_plots plots.length c_plots] w (RetM (Γ := (Option Addr × Nat)) (cx w) (fun g => .tuple #[.slice g.1 ((mosaic_Spots l plots).1.length) g.2, .int .i64 ((mosaic_Spots l plots).2)]) (fun g => [.inr (Own g.1 g.2 26 6 (((mosaic_Spots l plots).1).map Spot.c))])) := by
  have s_l := h_l.short; rw [List.length_map] at s_l
  have s_plots := h_plots.short; rw [List.length_map] at s_plots
  refine calls_intro (vs := [.slice A_l l.length c_l, .slice A_plots plots.length c_plots]) (w := w) Tryd.func9 rfl Tryd.ntmps9 rfl ?_
  refine TC.weak [(0, .slice A_l l.length c_l), (1, .slice A_plots plots.length c_plots)] (by kernel_rfl) ?_
  refine TC.seq ?_
  refine TC.region ?_
  refine TL.run 2 [] [(0, .slice A_l l.length c_l), (1, .slice A_plots plots.length c_plots)] rfl ⟨by kernel_rfl, by kernel_rfl⟩ ?_
  refine TL.next rfl ?_
  refine TC.seq ?_
  refine TC.seq ?_
  refine TC.region ?_
  refine TL.run 1 [] [(0, .slice A_l l.length c_l), (1, .slice A_plots plots.length c_plots), (15, .slice A_l l.length c_l)] rfl ⟨by kernel_rfl, by kernel_rfl⟩ ?_
  refine TL.call (some 16) [(0, .slice A_l l.length c_l), (1, .slice A_plots plots.length c_plots), (16, .int .i64 (mosaic_Check l))] (fun w hM => mosaic_Check_w A_l c_l l w (h_l.sat hM) hc_l) (by kernel_rfl) (by kernel_rfl) ?_
  generalize hr1 : mosaic_Check l = r1
  refine TL.run 3 [] [(0, .slice A_l l.length c_l), (1, .slice A_plots plots.length c_plots), (6, .int .i64 r1)] rfl ⟨by kernel_rfl, by kernel_rfl⟩ ?_
  refine TL.next rfl ?_
  refine TC.seq ?_
  refine TC.region ?_
  refine TL.run 2 [] [(0, .slice A_l l.length c_l), (1, .slice A_plots plots.length c_plots), (6, .int .i64 r1), (18, .bool (r1 != 0))] rfl ⟨by kernel_rfl, by kernel_rfl⟩ ?_
  refine TL.next rfl ?_
  refine TC.cond (r1 != 0) rfl (by kernel_rfl) (fun h1 => ?_) (fun h1 => ?_)
  · refine TC.seq ?_
    refine TC.region ?_
    refine TL.run 3 [] [(4, .slice none 0 0), (5, .int .i64 r1)] rfl ⟨by kernel_rfl, by kernel_rfl⟩ ?_
    refine TL.next rfl ?_
    refine TC.ret ?_
    refine TE.ret_then ?_
    have e : mosaic_Spots l plots = ([], r1) := by subst hr1; unfold mosaic_Spots; exact cond_t h1 (rfl)
    refine TE.conv [.inr (Own none 0 26 6 (([] : List Spot).map Spot.c))] (fun _ hM => hM.emptyrow none 26 6) ?_
    rw [e]
    exact TE.retM (.inl rfl) (none, 0) [] (.tuple #[.slice none 0 0, .int .i64 r1]) ⟨by kernel_rfl, by kernel_rfl⟩ rfl (fun _ hM => hM.sub (.cons_cons _ (.slnil)))
  · refine TC.skip ?_
    refine TE.next ?_
    refine TC.seq ?_
    refine TC.seq ?_
    refine TC.region ?_
    refine TL.run 1 [] [(0, .slice A_l l.length c_l), (1, .slice A_plots plots.length c_plots), (20, .slice A_plots plots.length c_plots)] rfl ⟨by kernel_rfl, by kernel_rfl⟩ ?_
    refine TL.call (some 21) [(0, .slice A_l l.length c_l), (1, .slice A_plots plots.length c_plots), (21, .int .i64 (mosaic_checkPlots plots))] (fun w hM => mosaic_checkPlots_w A_plots c_plots plots w (h_plots.sat hM) hc_plots) (by kernel_rfl) (by kernel_rfl) ?_
    generalize hr2 : mosaic_checkPlots plots = r2
    refine TL.run 3 [] [(0, .slice A_l l.length c_l), (1, .slice A_plots plots.length c_plots), (7, .int .i64 r2)] rfl ⟨by kernel_rfl, by kernel_rfl⟩ ?_
    refine TL.next rfl ?_
    refine TC.seq ?_
    refine TC.region ?_
    refine TL.run 2 [] [(0, .slice A_l l.length c_l), (1, .slice A_plots plots.length c_plots), (7, .int .i64 r2), (23, .bool (r2 != 0))] rfl ⟨by kernel_rfl, by kernel_rfl⟩ ?_
    refine TL.next rfl ?_
    refine TC.cond (r2 != 0) rfl (by kernel_rfl) (fun h2 => ?_) (fun h2 => ?_)
    · refine TC.seq ?_
      refine TC.region ?_
      refine TL.run 3 [] [(4, .slice none 0 0), (5, .int .i64 r2)] rfl ⟨by kernel_rfl, by kernel_rfl⟩ ?_
      refine TL.next rfl ?_
      refine TC.ret ?_
      refine TE.ret_then ?_
      have e : mosaic_Spots l plots = ([], r2) := by subst hr1 hr2; unfold mosaic_Spots; exact cond_f h1 (cond_t h2 (rfl))
      refine TE.conv [.inr (Own none 0 26 6 (([] : List Spot).map Spot.c))] (fun _ hM => hM.emptyrow none 26 6) ?_
      rw [e]
      exact TE.retM (.inl rfl) (none, 0) [] (.tuple #[.slice none 0 0, .int .i64 r2]) ⟨by kernel_rfl, by kernel_rfl⟩ rfl (fun _ hM => hM.sub (.cons_cons _ (.slnil)))
    · refine TC.skip ?_
      refine TE.next ?_
      refine TC.seq ?_
      refine TC.region ?_
      refine TL.run 1 [] [(0, .slice A_l l.length c_l), (1, .slice A_plots plots.length c_plots), (8, .slice none 0 0)] rfl ⟨by kernel_rfl, by kernel_rfl⟩ ?_
      refine TL.next rfl ?_
      refine TC.seq ?_
      refine TC.seq ?_
      refine TC.region ?_
      refine TL.run 3 [] [(0, .slice A_l l.length c_l), (8, .slice none 0 0), (25, .slice A_plots plots.length c_plots), (26, .int .i64 (plots.length : Int)), (27, .int .i64 0)] rfl ⟨by kernel_rfl, by kernel_rfl⟩ ?_
      refine TL.next rfl ?_
      refine TC.conv [.inr (Own none 0 26 6 (([] : List Spot).map Spot.c))] (fun _ hM => hM.emptyrow none 26 6) ?_
      refine TC.weak [(0, .slice A_l l.length c_l), (8, .slice none (([] : List Spot).length) 0), (25, .slice A_plots plots.length c_plots), (26, .int .i64 (plots.length : Int)), (27, .int .i64 0)] (by kernel_rfl) ?_
      obtain ⟨R4, hR⟩ : ∃ R, R = mosaic_Spots_L1 l plots 0 ([] : List Spot) := ⟨_, rfl⟩
      refine TC.cut (S := (List Spot) × (Option Addr) × Nat) (fun (out_2, A_out_2, c_out_2) => [(8, .slice A_out_2 out_2.length c_out_2)]) (fun (out_2, A_out_2, c_out_2) => [.inr (Own A_out_2 c_out_2 26 6 (out_2.map Spot.c))]) (fun (out_2, A_out_2, c_out_2) => R4 = out_2 ∧ out_2.length ≤ 4 * plots.length) ?_ ?_
      · refine TC.block ?_
        refine TC.loop (X := Nat × (List Spot) × (Option Addr) × Nat) (fun (k, out, A_out, c_out) => [(0, .slice A_l l.length c_l), (8, .slice A_out out.length c_out), (25, .slice A_plots plots.length c_plots), (26, .int .i64 (plots.length : Int)), (27, .int .i64 (k : Int))]) (fun (k, out, A_out, c_out) => [.inr (Own A_out c_out 26 6 (out.map Spot.c))]) (fun (k, out, A_out, c_out) => plots.length - k) (fun (k, out, A_out, c_out) => k ≤ plots.length ∧ R4 = mosaic_Spots_L1 l (plots.drop k) k out ∧ out.length ≤ 4 * k) ?_ (0, ([] : List Spot), none, 0) ⟨Nat.zero_le _, hR, (by first | omega | (simp; omega) | simp)⟩
        rintro ⟨k, out, A_out, c_out⟩ ⟨hk, hI, hl_out⟩
        refine TC.seq ?_
        refine TC.region ?_
        refine TL.run 1 [] [(0, .slice A_l l.length c_l), (8, .slice A_out out.length c_out), (25, .slice A_plots plots.length c_plots), (26, .int .i64 (plots.length : Int)), (27, .int .i64 (k : Int)), (28, .bool (decide ((k : Int) < (plots.length : Int))))] rfl ⟨by kernel_rfl, by kernel_rfl⟩ ?_
        refine TL.next rfl ?_
        refine TC.seq ?_
        refine TC.cond (decide ((k : Int) < (plots.length : Int))) rfl (by kernel_rfl) (fun h3 => ?_) (fun h3 => ?_)
        · have hlt : k < plots.length := by have := of_decide_eq_true h3; first | omega | (simp at this; omega)
          obtain ⟨x, hx⟩ : ∃ e_, plots[k]? = some e_ := ⟨_, List.getElem?_eq_getElem hlt⟩
          have hd := drop_at hx
          refine TC.skip ?_
          refine TE.next ?_
          refine TC.seq ?_
          refine TC.block ?_
          refine TC.seq ?_
          refine TC.region ?_
          refine TL.val (sV (Instr.indexAt 34 (.slice A_plots plots.length c_plots) (.int .i64 (k : Int)))) (some 29) (.pointer (some ((A_plots.getD noAddr).add (k * 6)))) [(0, .slice A_l l.length c_l), (8, .slice A_out out.length c_out), (25, .slice A_plots plots.length c_plots), (26, .int .i64 (plots.length : Int)), (27, .int .i64 (k : Int)), (29, .pointer (some ((A_plots.getD noAddr).add (k * 6))))] (fun w hM => run_index (h_plots.sat hM) (by simp) (by kernel_rfl) (by have q0_ := (bne_f h1); have q1_ := (bne_f h2); (try have kl_ := chk_len hr1 h1); (try have kp_ := chkp_len hr2 h2); exact sd) (by have q0_ := (bne_f h1); have q1_ := (bne_f h2); (try have kl_ := chk_len hr1 h1); (try have kp_ := chkp_len hr2 h2); exact sd)) (by kernel_rfl) (by kernel_rfl) ?_
          refine TL.val (sV (Instr.loadAt 36 (.pointer (some ((A_plots.getD noAddr).add (k * 6)))))) (some 30) (Plot.v x) [(0, .slice A_l l.length c_l), (8, .slice A_out out.length c_out), (25, .slice A_plots plots.length c_plots), (26, .int .i64 (plots.length : Int)), (27, .int .i64 (k : Int)), (30, Plot.v x)] (fun w hM => run_load_agg (n := 6) (off := 0) (i := k) (Plot.v x) (h_plots.sat hM) (map_at hx) (by kernel_rfl) (by kernel_rfl) (by kernel_rfl)) (by kernel_rfl) (by kernel_rfl) ?_
          refine TL.write 0 (fun b1 => [(0, .slice A_l l.length c_l), (8, .slice A_out out.length c_out), (10, .pointer (some ⟨b1, 0, none⟩)), (25, .slice A_plots plots.length c_plots), (26, .int .i64 (plots.length : Int)), (27, .int .i64 (k : Int)), (30, Plot.v x)]) (fun b1 => [.inl (b1, .cells (Plot.c Plot.zero) 36 (0, 0)), .inr (Own A_out c_out 26 6 (out.map Spot.c))]) (fun b1 => ⟨by kernel_rfl, by kernel_rfl⟩) (fun b1 => ?_)
          refine TL.write 0 (fun _ => [(0, .slice A_l l.length c_l), (8, .slice A_out out.length c_out), (10, .pointer (some ⟨b1, 0, none⟩)), (25, .slice A_plots plots.length c_plots), (26, .int .i64 (plots.length : Int)), (27, .int .i64 (k : Int))]) (fun _ => [.inl (b1, .cells (Plot.c x) 36 (0, 0)), .inr (Own A_out c_out 26 6 (out.map Spot.c))]) (fun _ => ⟨by kernel_rfl, by kernel_rfl⟩) (fun _ => ?_)
          refine TL.next rfl ?_
          refine TC.seq ?_
          refine TC.region ?_
          refine TL.run 3 [] [(0, .slice A_l l.length c_l), (8, .slice A_out out.length c_out), (10, .pointer (some ⟨b1, 0, none⟩)), (25, .slice A_plots plots.length c_plots), (26, .int .i64 (plots.length : Int)), (27, .int .i64 (k : Int)), (31, .slice A_l l.length c_l), (32, .int .i64 (l.length : Int)), (33, .int .i64 0)] rfl ⟨by kernel_rfl, by kernel_rfl⟩ ?_
          refine TL.next rfl ?_
          refine TC.weak [(0, .slice A_l l.length c_l), (8, .slice A_out out.length c_out), (10, .pointer (some ⟨b1, 0, none⟩)), (25, .slice A_plots plots.length c_plots), (26, .int .i64 (plots.length : Int)), (27, .int .i64 (k : Int)), (31, .slice A_l l.length c_l), (32, .int .i64 (l.length : Int)), (33, .int .i64 0)] (by kernel_rfl) ?_
          obtain ⟨R5, hR_2⟩ : ∃ R, R = mosaic_Spots_L2 x l 0 out := ⟨_, rfl⟩
          refine TC.cut (S := (List Spot) × (Option Addr) × Nat) (fun (out_4, A_out_4, c_out_4) => [(0, .slice A_l l.length c_l), (8, .slice A_out_4 out_4.length c_out_4), (25, .slice A_plots plots.length c_plots), (26, .int .i64 (plots.length : Int)), (27, .int .i64 (k : Int))]) (fun (out_4, A_out_4, c_out_4) => [.inr (Own A_out_4 c_out_4 26 6 (out_4.map Spot.c))]) (fun (out_4, A_out_4, c_out_4) => R5 = out_4 ∧ out_4.length ≤ out.length + l.length) ?_ ?_
          · refine TC.block ?_
            refine TC.loop (X := Nat × (List Spot) × (Option Addr) × Nat) (fun (k_2, out_3, A_out_3, c_out_3) => [(0, .slice A_l l.length c_l), (8, .slice A_out_3 out_3.length c_out_3), (10, .pointer (some ⟨b1, 0, none⟩)), (25, .slice A_plots plots.length c_plots), (26, .int .i64 (plots.length : Int)), (27, .int .i64 (k : Int)), (31, .slice A_l l.length c_l), (32, .int .i64 (l.length : Int)), (33, .int .i64 (k_2 : Int))]) (fun (k_2, out_3, A_out_3, c_out_3) => [.inl (b1, .cells (Plot.c x) 36 (0, 0)), .inr (Own A_out_3 c_out_3 26 6 (out_3.map Spot.c))]) (fun (k_2, out_3, A_out_3, c_out_3) => l.length - k_2) (fun (k_2, out_3, A_out_3, c_out_3) => k_2 ≤ l.length ∧ R5 = mosaic_Spots_L2 x (l.drop k_2) k_2 out_3 ∧ out_3.length ≤ out.length + k_2) ?_ (0, out, A_out, c_out) ⟨Nat.zero_le _, hR_2, (by first | omega | (simp; omega) | simp)⟩
            rintro ⟨k_2, out_3, A_out_3, c_out_3⟩ ⟨hk_2, hI_2, hl_out_3⟩
            refine TC.seq ?_
            refine TC.region ?_
            refine TL.run 1 [] [(0, .slice A_l l.length c_l), (8, .slice A_out_3 out_3.length c_out_3), (10, .pointer (some ⟨b1, 0, none⟩)), (25, .slice A_plots plots.length c_plots), (26, .int .i64 (plots.length : Int)), (27, .int .i64 (k : Int)), (31, .slice A_l l.length c_l), (32, .int .i64 (l.length : Int)), (33, .int .i64 (k_2 : Int)), (34, .bool (decide ((k_2 : Int) < (l.length : Int))))] rfl ⟨by kernel_rfl, by kernel_rfl⟩ ?_
            refine TL.next rfl ?_
            refine TC.seq ?_
            refine TC.cond (decide ((k_2 : Int) < (l.length : Int))) rfl (by kernel_rfl) (fun h4 => ?_) (fun h4 => ?_)
            · have hlt_2 : k_2 < l.length := by have := of_decide_eq_true h4; first | omega | (simp at this; omega)
              obtain ⟨x_2, hx_2⟩ : ∃ e_, l[k_2]? = some e_ := ⟨_, List.getElem?_eq_getElem hlt_2⟩
              have hd_2 := drop_at hx_2
              refine TC.skip ?_
              refine TE.next ?_
              refine TC.seq ?_
              refine TC.block ?_
              refine TC.seq ?_
              refine TC.region ?_
              refine TL.val (sV (Instr.indexAt 22 (.slice A_l l.length c_l) (.int .i64 (k_2 : Int)))) (some 35) (.pointer (some ((A_l.getD noAddr).add (k_2 * 6)))) [(0, .slice A_l l.length c_l), (8, .slice A_out_3 out_3.length c_out_3), (10, .pointer (some ⟨b1, 0, none⟩)), (25, .slice A_plots plots.length c_plots), (26, .int .i64 (plots.length : Int)), (27, .int .i64 (k : Int)), (31, .slice A_l l.length c_l), (32, .int .i64 (l.length : Int)), (33, .int .i64 (k_2 : Int)), (35, .pointer (some ((A_l.getD noAddr).add (k_2 * 6))))] (fun w hM => run_index (h_l.sat hM) (by simp) (by kernel_rfl) (by have q0_ := (bne_f h1); have q1_ := (bne_f h2); (try have kl_ := chk_len hr1 h1); (try have kp_ := chkp_len hr2 h2); exact sd) (by have q0_ := (bne_f h1); have q1_ := (bne_f h2); (try have kl_ := chk_len hr1 h1); (try have kp_ := chkp_len hr2 h2); exact sd)) (by kernel_rfl) (by kernel_rfl) ?_
              refine TL.val (sV (Instr.loadAt 32 (.pointer (some ((A_l.getD noAddr).add (k_2 * 6)))))) (some 36) (RadarSite.v x_2) [(0, .slice A_l l.length c_l), (8, .slice A_out_3 out_3.length c_out_3), (10, .pointer (some ⟨b1, 0, none⟩)), (25, .slice A_plots plots.length c_plots), (26, .int .i64 (plots.length : Int)), (27, .int .i64 (k : Int)), (31, .slice A_l l.length c_l), (32, .int .i64 (l.length : Int)), (33, .int .i64 (k_2 : Int)), (36, RadarSite.v x_2)] (fun w hM => run_load_agg (n := 6) (off := 0) (i := k_2) (RadarSite.v x_2) (h_l.sat hM) (map_at hx_2) (by kernel_rfl) (by kernel_rfl) (by kernel_rfl)) (by kernel_rfl) (by kernel_rfl) ?_
              refine TL.write 0 (fun b2 => [(0, .slice A_l l.length c_l), (8, .slice A_out_3 out_3.length c_out_3), (10, .pointer (some ⟨b1, 0, none⟩)), (12, .pointer (some ⟨b2, 0, none⟩)), (25, .slice A_plots plots.length c_plots), (26, .int .i64 (plots.length : Int)), (27, .int .i64 (k : Int)), (31, .slice A_l l.length c_l), (32, .int .i64 (l.length : Int)), (33, .int .i64 (k_2 : Int)), (36, RadarSite.v x_2)]) (fun b2 => [.inl (b2, .cells (RadarSite.c RadarSite.zero) 32 (0, 0)), .inl (b1, .cells (Plot.c x) 36 (0, 0)), .inr (Own A_out_3 c_out_3 26 6 (out_3.map Spot.c))]) (fun b2 => ⟨by kernel_rfl, by kernel_rfl⟩) (fun b2 => ?_)
              refine TL.write 0 (fun _ => [(0, .slice A_l l.length c_l), (8, .slice A_out_3 out_3.length c_out_3), (10, .pointer (some ⟨b1, 0, none⟩)), (12, .pointer (some ⟨b2, 0, none⟩)), (25, .slice A_plots plots.length c_plots), (26, .int .i64 (plots.length : Int)), (27, .int .i64 (k : Int)), (31, .slice A_l l.length c_l), (32, .int .i64 (l.length : Int)), (33, .int .i64 (k_2 : Int))]) (fun _ => [.inl (b2, .cells (RadarSite.c x_2) 32 (0, 0)), .inl (b1, .cells (Plot.c x) 36 (0, 0)), .inr (Own A_out_3 c_out_3 26 6 (out_3.map Spot.c))]) (fun _ => ⟨by kernel_rfl, by kernel_rfl⟩) (fun _ => ?_)
              refine TL.next rfl ?_
              refine TC.seq ?_
              refine TC.seq ?_
              refine TC.region ?_
              refine TL.run 5 [0, 1] [(0, .slice A_l l.length c_l), (8, .slice A_out_3 out_3.length c_out_3), (10, .pointer (some ⟨b1, 0, none⟩)), (12, .pointer (some ⟨b2, 0, none⟩)), (25, .slice A_plots plots.length c_plots), (26, .int .i64 (plots.length : Int)), (27, .int .i64 (k : Int)), (31, .slice A_l l.length c_l), (32, .int .i64 (l.length : Int)), (33, .int .i64 (k_2 : Int)), (41, .bool (x_2.ID != x.Radar))] rfl ⟨by kernel_rfl, by kernel_rfl⟩ ?_
              refine TL.next rfl ?_
              refine TC.cond (x_2.ID != x.Radar) rfl (by kernel_rfl) (fun h5 => ?_) (fun h5 => ?_)
              · refine TC.exit ?_
                refine TE.exit_then (TE.exit_same ?_)
                refine TE.next ?_
                refine TC.region ?_
                refine TL.run 2 [] [(0, .slice A_l l.length c_l), (8, .slice A_out_3 out_3.length c_out_3), (10, .pointer (some ⟨b1, 0, none⟩)), (25, .slice A_plots plots.length c_plots), (26, .int .i64 (plots.length : Int)), (27, .int .i64 (k : Int)), (31, .slice A_l l.length c_l), (32, .int .i64 (l.length : Int)), (33, .int .i64 (w64 ((k_2 : Int) + 1)))] rfl ⟨by kernel_rfl, by kernel_rfl⟩ ?_
                refine TL.done rfl ?_
                refine TE.rw 33 (.int .i64 (w64 ((k_2 : Int) + 1))) (.int .i64 ((k_2 + 1 : Nat) : Int)) (by kernel_rfl) (w64_cast k_2 (by (try have kl_ := chk_len hr1 h1); (try have kp_ := chkp_len hr2 h2); omega)) ?_
                exact TE.again (x := (k_2, out_3, A_out_3, c_out_3)) (k_2 + 1, out_3, A_out_3, c_out_3) ⟨by omega, hI_2.trans (by subst hr1 hr2; rw [hd_2]; exact cond_t h5 (rfl)), (by have q0_ := (bne_f h1); have q1_ := (bne_f h2); have q2_ := (bne_t h5); (try have kl_ := chk_len hr1 h1); (try have kp_ := chkp_len hr2 h2); first | omega | (simp <;> omega) | (simp at * <;> omega) | (simp only [w64_eq] at *; omega) | (simp only [List.length_append, List.length_cons, List.length_nil]; omega))⟩ (by show l.length - (k_2 + 1) < l.length - k_2; omega) (by kernel_rfl) (.cons _ (.cons_cons _ (.cons_cons _ (.slnil))))
              · refine TC.skip ?_
                refine TE.next ?_
                refine TC.seq ?_
                refine TC.region ?_
                refine TL.run 2 [0, 1] [(0, .slice A_l l.length c_l), (8, .slice A_out_3 out_3.length c_out_3), (10, .pointer (some ⟨b1, 0, none⟩)), (25, .slice A_plots plots.length c_plots), (26, .int .i64 (plots.length : Int)), (27, .int .i64 (k : Int)), (31, .slice A_l l.length c_l), (32, .int .i64 (l.length : Int)), (33, .int .i64 (k_2 : Int)), (43, RadarSite.v x_2), (44, Plot.v x)] rfl ⟨by kernel_rfl, by kernel_rfl⟩ ?_
                refine TL.call (some 45) [(0, .slice A_l l.length c_l), (8, .slice A_out_3 out_3.length c_out_3), (10, .pointer (some ⟨b1, 0, none⟩)), (25, .slice A_plots plots.length c_plots), (26, .int .i64 (plots.length : Int)), (27, .int .i64 (k : Int)), (31, .slice A_l l.length c_l), (32, .int .i64 (l.length : Int)), (33, .int .i64 (k_2 : Int)), (45, .tuple #[Spot.v ((radar_Spot x_2 x).1), .int .i64 ((radar_Spot x_2 x).2)])] (fun w hM => radar_Spot_w x_2 x w (hT.sat hM)) (by kernel_rfl) (by kernel_rfl) ?_
                generalize hr3 : radar_Spot x_2 x = r3
                refine TL.run 6 [] [(0, .slice A_l l.length c_l), (8, .slice A_out_3 out_3.length c_out_3), (10, .pointer (some ⟨b1, 0, none⟩)), (25, .slice A_plots plots.length c_plots), (26, .int .i64 (plots.length : Int)), (27, .int .i64 (k : Int)), (31, .slice A_l l.length c_l), (32, .int .i64 (l.length : Int)), (33, .int .i64 (k_2 : Int)), (46, Spot.v r3.1), (47, .int .i64 r3.2)] rfl ⟨by kernel_rfl, by kernel_rfl⟩ ?_
                refine TL.write 0 (fun b3 => [(0, .slice A_l l.length c_l), (8, .slice A_out_3 out_3.length c_out_3), (10, .pointer (some ⟨b1, 0, none⟩)), (13, .pointer (some ⟨b3, 0, none⟩)), (25, .slice A_plots plots.length c_plots), (26, .int .i64 (plots.length : Int)), (27, .int .i64 (k : Int)), (31, .slice A_l l.length c_l), (32, .int .i64 (l.length : Int)), (33, .int .i64 (k_2 : Int)), (46, Spot.v r3.1), (47, .int .i64 r3.2)]) (fun b3 => [.inl (b3, .cells (Spot.c Spot.zero) 26 (0, 0)), .inl (b2, .cells (RadarSite.c x_2) 32 (0, 0)), .inl (b1, .cells (Plot.c x) 36 (0, 0)), .inr (Own A_out_3 c_out_3 26 6 (out_3.map Spot.c))]) (fun b3 => ⟨by kernel_rfl, by kernel_rfl⟩) (fun b3 => ?_)
                refine TL.write 0 (fun _ => [(0, .slice A_l l.length c_l), (8, .slice A_out_3 out_3.length c_out_3), (10, .pointer (some ⟨b1, 0, none⟩)), (13, .pointer (some ⟨b3, 0, none⟩)), (25, .slice A_plots plots.length c_plots), (26, .int .i64 (plots.length : Int)), (27, .int .i64 (k : Int)), (31, .slice A_l l.length c_l), (32, .int .i64 (l.length : Int)), (33, .int .i64 (k_2 : Int)), (47, .int .i64 r3.2)]) (fun _ => [.inl (b3, .cells (Spot.c r3.1) 26 (0, 0)), .inl (b2, .cells (RadarSite.c x_2) 32 (0, 0)), .inl (b1, .cells (Plot.c x) 36 (0, 0)), .inr (Own A_out_3 c_out_3 26 6 (out_3.map Spot.c))]) (fun _ => ⟨by kernel_rfl, by kernel_rfl⟩) (fun _ => ?_)
                refine TL.run 9 [] [(0, .slice A_l l.length c_l), (8, .slice A_out_3 out_3.length c_out_3), (10, .pointer (some ⟨b1, 0, none⟩)), (13, .pointer (some ⟨b3, 0, none⟩)), (14, .int .i64 r3.2), (25, .slice A_plots plots.length c_plots), (26, .int .i64 (plots.length : Int)), (27, .int .i64 (k : Int)), (31, .slice A_l l.length c_l), (32, .int .i64 (l.length : Int)), (33, .int .i64 (k_2 : Int))] rfl ⟨by kernel_rfl, by kernel_rfl⟩ ?_
                refine TL.next rfl ?_
                refine TC.seq ?_
                refine TC.region ?_
                refine TL.run 2 [] [(0, .slice A_l l.length c_l), (8, .slice A_out_3 out_3.length c_out_3), (10, .pointer (some ⟨b1, 0, none⟩)), (13, .pointer (some ⟨b3, 0, none⟩)), (25, .slice A_plots plots.length c_plots), (26, .int .i64 (plots.length : Int)), (27, .int .i64 (k : Int)), (31, .slice A_l l.length c_l), (32, .int .i64 (l.length : Int)), (33, .int .i64 (k_2 : Int)), (49, .bool (r3.2 == 0))] rfl ⟨by kernel_rfl, by kernel_rfl⟩ ?_
                refine TL.next rfl ?_
                refine TC.cond (r3.2 == 0) rfl (by kernel_rfl) (fun h6 => ?_) (fun h6 => ?_)
                · refine TC.region ?_
                  refine TL.run 2 [0] [(0, .slice A_l l.length c_l), (10, .pointer (some ⟨b1, 0, none⟩)), (25, .slice A_plots plots.length c_plots), (26, .int .i64 (plots.length : Int)), (27, .int .i64 (k : Int)), (31, .slice A_l l.length c_l), (32, .int .i64 (l.length : Int)), (33, .int .i64 (k_2 : Int)), (50, .slice A_out_3 out_3.length c_out_3), (51, Spot.v r3.1)] rfl ⟨by kernel_rfl, by kernel_rfl⟩ ?_
                  refine TL.write 0 (fun b4 => [(0, .slice A_l l.length c_l), (10, .pointer (some ⟨b1, 0, none⟩)), (25, .slice A_plots plots.length c_plots), (26, .int .i64 (plots.length : Int)), (27, .int .i64 (k : Int)), (31, .slice A_l l.length c_l), (32, .int .i64 (l.length : Int)), (33, .int .i64 (k_2 : Int)), (50, .slice A_out_3 out_3.length c_out_3), (52, .slice (some ⟨b4, 0, none⟩) 1 1)]) (fun b4 => [.inl (b4, .cells (Spot.c r3.1) 26 (0, 0)), .inl (b3, .cells (Spot.c r3.1) 26 (0, 0)), .inl (b2, .cells (RadarSite.c x_2) 32 (0, 0)), .inl (b1, .cells (Plot.c x) 36 (0, 0)), .inr (Own A_out_3 c_out_3 26 6 (out_3.map Spot.c))]) (fun b4 => ⟨by kernel_rfl, by kernel_rfl⟩) (fun b4 => ?_)
                  refine TL.opM (Γ := Option Addr × Nat) (sV (Builtin.append_ #[41, 41] 41 #[.slice A_out_3 out_3.length c_out_3, .slice (some ⟨b4, 0, none⟩) 1 1])) (some 53) (fun g => .slice g.1 (out_3 ++ ([r3.1])).length g.2) (fun g => [.inl (b4, .cells (Spot.c r3.1) 26 (0, 0)), .inl (b3, .cells (Spot.c r3.1) 26 (0, 0)), .inl (b2, .cells (RadarSite.c x_2) 32 (0, 0)), .inl (b1, .cells (Plot.c x) 36 (0, 0)), .inr (Own g.1 g.2 26 6 ((out_3 ++ ([r3.1])).map Spot.c))]) (fun g => [(0, .slice A_l l.length c_l), (10, .pointer (some ⟨b1, 0, none⟩)), (25, .slice A_plots plots.length c_plots), (26, .int .i64 (plots.length : Int)), (27, .int .i64 (k : Int)), (31, .slice A_l l.length c_l), (32, .int .i64 (l.length : Int)), (33, .int .i64 (k_2 : Int)), (53, .slice g.1 ((out_3 ++ ([r3.1])).length) g.2)]) (app_at (bytes := 48) 41 4 ([r3.1]) (by kernel_rfl) rfl rfl Spot.one rfl (fun w hM => (Rd.lit hM 0 _ rfl (by kernel_rfl) (by kernel_rfl) (by kernel_rfl))) rfl (by have q0_ := (bne_f h1); have q1_ := (bne_f h2); have q2_ := (bne_f h5); have q3_ := (beq_t h6); (try have kl_ := chk_len hr1 h1); (try have kp_ := chkp_len hr2 h2); first | omega | (simp <;> omega) | (simp at * <;> omega))) (by kernel_rfl) (fun g => by kernel_rfl) ?_
                  rintro ⟨A, c⟩
                  refine TL.run 5 [] [(0, .slice A_l l.length c_l), (8, .slice A ((out_3 ++ ([r3.1])).length) c), (10, .pointer (some ⟨b1, 0, none⟩)), (25, .slice A_plots plots.length c_plots), (26, .int .i64 (plots.length : Int)), (27, .int .i64 (k : Int)), (31, .slice A_l l.length c_l), (32, .int .i64 (l.length : Int)), (33, .int .i64 (k_2 : Int))] rfl ⟨by kernel_rfl, by kernel_rfl⟩ ?_
                  refine TL.done rfl ?_
                  refine TE.normal_block ?_
                  refine TE.next ?_
                  refine TC.region ?_
                  refine TL.run 2 [] [(0, .slice A_l l.length c_l), (8, .slice A ((out_3 ++ ([r3.1])).length) c), (10, .pointer (some ⟨b1, 0, none⟩)), (25, .slice A_plots plots.length c_plots), (26, .int .i64 (plots.length : Int)), (27, .int .i64 (k : Int)), (31, .slice A_l l.length c_l), (32, .int .i64 (l.length : Int)), (33, .int .i64 (w64 ((k_2 : Int) + 1)))] rfl ⟨by kernel_rfl, by kernel_rfl⟩ ?_
                  refine TL.done rfl ?_
                  refine TE.rw 33 (.int .i64 (w64 ((k_2 : Int) + 1))) (.int .i64 ((k_2 + 1 : Nat) : Int)) (by kernel_rfl) (w64_cast k_2 (by (try have kl_ := chk_len hr1 h1); (try have kp_ := chkp_len hr2 h2); omega)) ?_
                  exact TE.again (x := (k_2, out_3, A_out_3, c_out_3)) (k_2 + 1, (out_3 ++ ([r3.1])), A, c) ⟨by omega, hI_2.trans (by subst hr1 hr2 hr3; rw [hd_2]; exact cond_f h5 (cond_t h6 (rfl))), (by have q0_ := (bne_f h1); have q1_ := (bne_f h2); have q2_ := (bne_f h5); have q3_ := (beq_t h6); (try have kl_ := chk_len hr1 h1); (try have kp_ := chkp_len hr2 h2); first | omega | (simp <;> omega) | (simp at * <;> omega) | (simp only [w64_eq] at *; omega) | (simp only [List.length_append, List.length_cons, List.length_nil]; omega))⟩ (by show l.length - (k_2 + 1) < l.length - k_2; omega) (by kernel_rfl) (.cons _ (.cons _ (.cons _ (.cons_cons _ (.cons_cons _ (.slnil))))))
                · refine TC.skip ?_
                  refine TE.normal_block ?_
                  refine TE.next ?_
                  refine TC.region ?_
                  refine TL.run 2 [] [(0, .slice A_l l.length c_l), (8, .slice A_out_3 out_3.length c_out_3), (10, .pointer (some ⟨b1, 0, none⟩)), (25, .slice A_plots plots.length c_plots), (26, .int .i64 (plots.length : Int)), (27, .int .i64 (k : Int)), (31, .slice A_l l.length c_l), (32, .int .i64 (l.length : Int)), (33, .int .i64 (w64 ((k_2 : Int) + 1)))] rfl ⟨by kernel_rfl, by kernel_rfl⟩ ?_
                  refine TL.done rfl ?_
                  refine TE.rw 33 (.int .i64 (w64 ((k_2 : Int) + 1))) (.int .i64 ((k_2 + 1 : Nat) : Int)) (by kernel_rfl) (w64_cast k_2 (by (try have kl_ := chk_len hr1 h1); (try have kp_ := chkp_len hr2 h2); omega)) ?_
                  exact TE.again (x := (k_2, out_3, A_out_3, c_out_3)) (k_2 + 1, out_3, A_out_3, c_out_3) ⟨by omega, hI_2.trans (by subst hr1 hr2 hr3; rw [hd_2]; exact cond_f h5 (cond_f h6 (rfl))), (by have q0_ := (bne_f h1); have q1_ := (bne_f h2); have q2_ := (bne_f h5); have q3_ := (beq_f h6); (try have kl_ := chk_len hr1 h1); (try have kp_ := chkp_len hr2 h2); first | omega | (simp <;> omega) | (simp at * <;> omega) | (simp only [w64_eq] at *; omega) | (simp only [List.length_append, List.length_cons, List.length_nil]; omega))⟩ (by show l.length - (k_2 + 1) < l.length - k_2; omega) (by kernel_rfl) (.cons _ (.cons _ (.cons_cons _ (.cons_cons _ (.slnil)))))
            · have hd_2 : l.drop k_2 = [] := List.drop_eq_nil_of_le (by have := of_decide_eq_false h4; first | omega | (simp at this; omega))
              refine TC.exit ?_
              refine TE.exit_then (TE.exit_then (TE.exit_same ?_))
              exact TE.cut (out_3, A_out_3, c_out_3) (⟨hI_2.trans (by subst hr1 hr2; rw [hd_2]; exact rfl), (by have q0_ := (bne_f h1); have q1_ := (bne_f h2); (try have kl_ := chk_len hr1 h1); (try have kp_ := chkp_len hr2 h2); first | omega | (simp <;> omega) | (simp at * <;> omega) | (simp only [w64_eq] at *; omega) | (simp only [List.length_append, List.length_cons, List.length_nil]; omega))⟩) (by kernel_rfl) (.cons _ (.cons_cons _ (.slnil)))
          · rintro ⟨out_4, A_out_4, c_out_4⟩ ⟨hJ_2, hl_out_4⟩
            refine TE.normal_block ?_
            refine TE.next ?_
            refine TC.region ?_
            refine TL.run 2 [] [(0, .slice A_l l.length c_l), (8, .slice A_out_4 out_4.length c_out_4), (25, .slice A_plots plots.length c_plots), (26, .int .i64 (plots.length : Int)), (27, .int .i64 (w64 ((k : Int) + 1)))] rfl ⟨by kernel_rfl, by kernel_rfl⟩ ?_
            refine TL.done rfl ?_
            refine TE.rw 27 (.int .i64 (w64 ((k : Int) + 1))) (.int .i64 ((k + 1 : Nat) : Int)) (by kernel_rfl) (w64_cast k (by (try have kl_ := chk_len hr1 h1); (try have kp_ := chkp_len hr2 h2); omega)) ?_
            exact TE.again (x := (k, out, A_out, c_out)) (k + 1, out_4, A_out_4, c_out_4) ⟨by omega, hI.trans (by subst hr1 hr2; rw [hd]; exact bindv_eq (hR_2.symm.trans hJ_2) (rfl)), (by have q0_ := (bne_f h1); have q1_ := (bne_f h2); (try have kl_ := chk_len hr1 h1); (try have kp_ := chkp_len hr2 h2); first | omega | (simp <;> omega) | (simp at * <;> omega) | (simp only [w64_eq] at *; omega) | (simp only [List.length_append, List.length_cons, List.length_nil]; omega))⟩ (by show plots.length - (k + 1) < plots.length - k; omega) (by kernel_rfl) (.cons_cons _ (.slnil))
        · have hd : plots.drop k = [] := List.drop_eq_nil_of_le (by have := of_decide_eq_false h3; first | omega | (simp at this; omega))
          refine TC.exit ?_
          refine TE.exit_then (TE.exit_then (TE.exit_same ?_))
          exact TE.cut (out, A_out, c_out) (⟨hI.trans (by subst hr1 hr2; rw [hd]; exact rfl), (by have q0_ := (bne_f h1); have q1_ := (bne_f h2); (try have kl_ := chk_len hr1 h1); (try have kp_ := chkp_len hr2 h2); first | omega | (simp <;> omega) | (simp at * <;> omega) | (simp only [w64_eq] at *; omega) | (simp only [List.length_append, List.length_cons, List.length_nil]; omega))⟩) (by kernel_rfl) (.cons_cons _ (.slnil))
      · rintro ⟨out_2, A_out_2, c_out_2⟩ ⟨hJ, hl_out_2⟩
        refine TE.next ?_
        refine TC.seq ?_
        refine TC.region ?_
        refine TL.run 3 [] [(4, .slice A_out_2 out_2.length c_out_2), (5, .int .i64 0)] rfl ⟨by kernel_rfl, by kernel_rfl⟩ ?_
        refine TL.next rfl ?_
        refine TC.ret ?_
        have e : mosaic_Spots l plots = (out_2, 0) := by subst hr1 hr2; unfold mosaic_Spots; exact cond_f h1 (cond_f h2 (bindv_eq (hR.symm.trans hJ) (rfl)))
        rw [e]
        exact TE.retM (.inl rfl) (A_out_2, c_out_2) [] (.tuple #[.slice A_out_2 out_2.length c_out_2, .int .i64 0]) ⟨by kernel_rfl, by kernel_rfl⟩ rfl (fun _ hM => hM.sub (.cons_cons _ (.slnil)))

def slices_Index_int_int_L1 (v : Int) : List Int → Nat → ((Unit) ⊕ (Int))
  | [], _ => .inl ()
  | x :: xs, k => cond (v == x) (
      .inr (k : Int)) (
      slices_Index_int_int_L1 v xs (k + 1))
def slices_Index_int_int (s : List Int) (v : Int) : Int :=
  Sum.elim (fun _ =>
    (-1)) (fun r => r) (slices_Index_int_int_L1 v s 0)

set_option maxRecDepth 100000 in
theorem slices_Index_int_int_w (A_s : Option Addr) (c_s : Nat) (s : List Int) (v : Int) (w : World) (h_s : Rd w 1 A_s (s.map ic)) (_hc_s : s.length ≤ c_s) : Calls Tryd.prog 21 #[.slice A_s s.length c_s, .int .i64 v] w (Ret w (.int .i64 (slices_Index_int_int s v))) := by
  have s_s := h_s.short; rw [List.length_map] at s_s
  refine calls_intro (vs := [.slice A_s s.length c_s, .int .i64 v]) (w := w) Tryd.func21 rfl Tryd.ntmps21 rfl ?_
  refine TC.weak [(0, .slice A_s s.length c_s), (1, .int .i64 v)] (by kernel_rfl) ?_
  refine TC.seq ?_
  refine TC.region ?_
  refine TL.run 1 [] [(0, .slice A_s s.length c_s), (1, .int .i64 v)] rfl ⟨by kernel_rfl, by kernel_rfl⟩ ?_
  refine TL.next rfl ?_
  refine TC.seq ?_
  refine TC.seq ?_
  refine TC.region ?_
  refine TL.run 3 [] [(0, .slice A_s s.length c_s), (1, .int .i64 v), (7, .int .i64 (s.length : Int)), (8, .int .i64 0)] rfl ⟨by kernel_rfl, by kernel_rfl⟩ ?_
  refine TL.next rfl ?_
  refine TC.weak [(0, .slice A_s s.length c_s), (1, .int .i64 v), (7, .int .i64 (s.length : Int)), (8, .int .i64 0)] (by kernel_rfl) ?_
  obtain ⟨R1, hR⟩ : ∃ R, R = slices_Index_int_int_L1 v s 0 := ⟨_, rfl⟩
  refine TC.cut (S := Unit) (fun (_ : Unit) => []) (fun (_ : Unit) => []) (fun (_ : Unit) => R1 = .inl ()) ?_ ?_
  · refine TC.block ?_
    refine TC.loop (X := Nat) (fun k => [(0, .slice A_s s.length c_s), (1, .int .i64 v), (7, .int .i64 (s.length : Int)), (8, .int .i64 (k : Int))]) (fun k => []) (fun k => s.length - k) (fun k => k ≤ s.length ∧ R1 = slices_Index_int_int_L1 v (s.drop k) k) ?_ 0 ⟨Nat.zero_le _, hR⟩
    rintro k ⟨hk, hI⟩
    refine TC.seq ?_
    refine TC.region ?_
    refine TL.run 1 [] [(0, .slice A_s s.length c_s), (1, .int .i64 v), (7, .int .i64 (s.length : Int)), (8, .int .i64 (k : Int)), (9, .bool (decide ((k : Int) < (s.length : Int))))] rfl ⟨by kernel_rfl, by kernel_rfl⟩ ?_
    refine TL.next rfl ?_
    refine TC.seq ?_
    refine TC.cond (decide ((k : Int) < (s.length : Int))) rfl (by kernel_rfl) (fun h1 => ?_) (fun h1 => ?_)
    · have hlt : k < s.length := by have := of_decide_eq_true h1; first | omega | (simp at this; omega)
      obtain ⟨x, hx⟩ : ∃ e_, s[k]? = some e_ := ⟨_, List.getElem?_eq_getElem hlt⟩
      have hd := drop_at hx
      refine TC.skip ?_
      refine TE.next ?_
      refine TC.seq ?_
      refine TC.block ?_
      refine TC.seq ?_
      refine TC.region ?_
      refine TL.run 2 [] [(0, .slice A_s s.length c_s), (1, .int .i64 v), (5, .int .i64 (k : Int)), (7, .int .i64 (s.length : Int)), (8, .int .i64 (k : Int))] rfl ⟨by kernel_rfl, by kernel_rfl⟩ ?_
      refine TL.next rfl ?_
      refine TC.seq ?_
      refine TC.region ?_
      refine TL.run 3 [] [(0, .slice A_s s.length c_s), (1, .int .i64 v), (5, .int .i64 (k : Int)), (7, .int .i64 (s.length : Int)), (8, .int .i64 (k : Int)), (11, .int .i64 v), (12, .slice A_s s.length c_s), (13, .int .i64 (k : Int))] rfl ⟨by kernel_rfl, by kernel_rfl⟩ ?_
      refine TL.val (sV (Instr.indexAt 27 (.slice A_s s.length c_s) (.int .i64 (k : Int)))) (some 14) (.pointer (some ((A_s.getD noAddr).add (k * 1)))) [(0, .slice A_s s.length c_s), (1, .int .i64 v), (5, .int .i64 (k : Int)), (7, .int .i64 (s.length : Int)), (8, .int .i64 (k : Int)), (11, .int .i64 v), (14, .pointer (some ((A_s.getD noAddr).add (k * 1))))] (fun w hM => run_index (h_s.sat hM) (by simp) (by kernel_rfl) (by exact sd) (by exact sd)) (by kernel_rfl) (by kernel_rfl) ?_
      refine TL.val (sV (Instr.loadAt 3 (.pointer (some ((A_s.getD noAddr).add (k * 1)))))) (some 15) (.int .i64 x) [(0, .slice A_s s.length c_s), (1, .int .i64 v), (5, .int .i64 (k : Int)), (7, .int .i64 (s.length : Int)), (8, .int .i64 (k : Int)), (11, .int .i64 v), (15, .int .i64 x)] (fun w hM => run_load_one (off := 0) (i := k) (.int .i64 x) (h_s.sat hM) (map_at hx) (by kernel_rfl) (by kernel_rfl)) (by kernel_rfl) (by kernel_rfl) ?_
      refine TL.run 6 [] [(0, .slice A_s s.length c_s), (1, .int .i64 v), (5, .int .i64 (k : Int)), (7, .int .i64 (s.length : Int)), (8, .int .i64 (k : Int)), (16, .bool (v == x))] rfl ⟨by kernel_rfl, by kernel_rfl⟩ ?_
      refine TL.next rfl ?_
      refine TC.cond (v == x) rfl (by kernel_rfl) (fun h2 => ?_) (fun h2 => ?_)
      · refine TC.seq ?_
        refine TC.region ?_
        refine TL.run 2 [] [(4, .int .i64 (k : Int))] rfl ⟨by kernel_rfl, by kernel_rfl⟩ ?_
        refine TL.next rfl ?_
        refine TC.ret ?_
        refine TE.ret_block (TE.ret_then (TE.ret_then (TE.ret_block (TE.ret_then (TE.ret_then ?_)))))
        have e : slices_Index_int_int s v = (k : Int) := by unfold slices_Index_int_int; exact elim_r (hR.symm.trans (hI.trans (by rw [hd]; exact cond_t h2 (rfl)))) rfl
        exact TE.ret [] (.int .i64 (k : Int)) ⟨by kernel_rfl, by kernel_rfl⟩ (by rw [e]; first | done | kernel_rfl)
      · refine TC.skip ?_
        refine TE.normal_block ?_
        refine TE.next ?_
        refine TC.region ?_
        refine TL.run 2 [] [(0, .slice A_s s.length c_s), (1, .int .i64 v), (7, .int .i64 (s.length : Int)), (8, .int .i64 (w64 ((k : Int) + 1)))] rfl ⟨by kernel_rfl, by kernel_rfl⟩ ?_
        refine TL.done rfl ?_
        refine TE.rw 8 (.int .i64 (w64 ((k : Int) + 1))) (.int .i64 ((k + 1 : Nat) : Int)) (by kernel_rfl) (w64_cast k (by omega)) ?_
        exact TE.again (x := k) (k + 1) ⟨by omega, hI.trans (by rw [hd]; exact cond_f h2 (rfl))⟩ (by show s.length - (k + 1) < s.length - k; omega) (by kernel_rfl) (.slnil)
    · have hd : s.drop k = [] := List.drop_eq_nil_of_le (by have := of_decide_eq_false h1; first | omega | (simp at this; omega))
      refine TC.exit ?_
      refine TE.exit_then (TE.exit_then (TE.exit_same ?_))
      exact TE.cut () (hI.trans (by rw [hd]; exact rfl)) (by kernel_rfl) (.slnil)
  · intro _ hJ
    refine TE.next ?_
    refine TC.seq ?_
    refine TC.region ?_
    refine TL.run 1 [] [(4, .int .i64 (-1))] rfl ⟨by kernel_rfl, by kernel_rfl⟩ ?_
    refine TL.next rfl ?_
    refine TC.ret ?_
    have e : slices_Index_int_int s v = (-1) := by unfold slices_Index_int_int; exact elim_l (hR.symm.trans hJ) (rfl)
    exact TE.ret [] (.int .i64 (-1)) ⟨by kernel_rfl, by kernel_rfl⟩ (by rw [e]; first | done | kernel_rfl)

def slices_Contains_int_int (s : List Int) (v : Int) : Bool :=
  let r1 := slices_Index_int_int s v
  decide (r1 ≥ 0)

set_option maxRecDepth 100000 in
theorem slices_Contains_int_int_w (A_s : Option Addr) (c_s : Nat) (s : List Int) (v : Int) (w : World) (h_s : Rd w 1 A_s (s.map ic)) (hc_s : s.length ≤ c_s) : Calls Tryd.prog 7 #[.slice A_s s.length c_s, .int .i64 v] w (Ret w (.bool (slices_Contains_int_int s v))) := by
  have s_s := h_s.short; rw [List.length_map] at s_s
  refine calls_intro (vs := [.slice A_s s.length c_s, .int .i64 v]) (w := w) Tryd.func7 rfl Tryd.ntmps7 rfl ?_
  refine TC.weak [(0, .slice A_s s.length c_s), (1, .int .i64 v)] (by kernel_rfl) ?_
  refine TC.seq ?_
  refine TC.region ?_
  refine TL.run 1 [] [(0, .slice A_s s.length c_s), (1, .int .i64 v)] rfl ⟨by kernel_rfl, by kernel_rfl⟩ ?_
  refine TL.next rfl ?_
  refine TC.seq ?_
  refine TC.region ?_
  refine TL.run 2 [] [(5, .slice A_s s.length c_s), (6, .int .i64 v)] rfl ⟨by kernel_rfl, by kernel_rfl⟩ ?_
  refine TL.call (some 7) [(7, .int .i64 (slices_Index_int_int s v))] (fun w hM => slices_Index_int_int_w A_s c_s s v w (h_s.sat hM) hc_s) (by kernel_rfl) (by kernel_rfl) ?_
  generalize hr1 : slices_Index_int_int s v = r1
  refine TL.run 5 [] [(4, .bool (decide (r1 ≥ 0)))] rfl ⟨by kernel_rfl, by kernel_rfl⟩ ?_
  refine TL.next rfl ?_
  refine TC.ret ?_
  have e : slices_Contains_int_int s v = (decide (r1 ≥ 0)) := by subst hr1; unfold slices_Contains_int_int; exact rfl
  exact TE.ret [] (.bool (decide (r1 ≥ 0))) ⟨by kernel_rfl, by kernel_rfl⟩ (by rw [e]; first | done | kernel_rfl)

end Go.Sky
