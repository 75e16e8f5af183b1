/- Functions of the program, each with the Lean function that it computes. Conditions: none. -/
import Derived.Test.YtakjcphknccdnaaDoorMm
namespace Go.Sky
open Go Go.Eng Go.Proofs
def skywaykeep2_MosaicContains_1 (s : Spot) (x : Spot) : Bool :=
  let r1 := skywaykeep2_square s.At x.At
  decide (r1 > (w64 (s.Error * s.Error)))

set_option maxRecDepth 100000 in
theorem skywaykeep2_MosaicContains_1_w (s : Spot) (a_x : Addr) (x : Spot) (w : World) (h_x : Rd w 6 (some a_x) [Spot.c x]) : Calls Tryd.prog 11 #[Spot.v s, .pointer (some a_x)] w (Ret w (.bool (skywaykeep2_MosaicContains_1 s x))) := by
  refine calls_intro (vs := [Spot.v s, .pointer (some a_x)]) (w := w) Tryd.func11 rfl Tryd.ntmps11 rfl ?_
  refine TC.weak [(0, Spot.v s), (1, .pointer (some a_x))] (by kernel_rfl) ?_
  refine TC.seq ?_
  refine TC.region ?_
  refine TL.write 0 (fun b1 => [(1, .pointer (some a_x)), (2, .pointer (some ⟨b1, 0, none⟩))]) (fun b1 => [.inl (b1, .cells (Spot.c s) 26 (0, 0))]) (fun b1 => ⟨by kernel_rfl, by kernel_rfl⟩) (fun b1 => ?_)
  refine TL.run 2 [] [(1, .pointer (some a_x)), (2, .pointer (some ⟨b1, 0, none⟩))] rfl ⟨by kernel_rfl, by kernel_rfl⟩ ?_
  refine TL.next rfl ?_
  refine TC.seq ?_
  refine TC.draw 12 (by kernel_rfl) (by kernel_rfl) (by kernel_rfl) ?_
  refine TQ.run 3 [0] [(2, .pointer (some ⟨b1, 0, none⟩)), (5, P.v s.At), (6, .pointer (some (a_x.add 1)))] rfl ⟨by kernel_rfl, by kernel_rfl⟩ ?_
  refine TQ.val (sV (Instr.loadAt 24 (.pointer (some (a_x.add 1))))) (some 7) (P.v x.At) [(2, .pointer (some ⟨b1, 0, none⟩)), (5, P.v s.At), (7, P.v x.At)] (fun w hM => run_load_agg (n := 2) (off := 1) (P.v x.At) (h_x.sat hM) (rows_one _) (by kernel_rfl) (by kernel_rfl) (by kernel_rfl)) rfl (by kernel_rfl) (by kernel_rfl) ?_
  refine TQ.call (some 8) [(2, .pointer (some ⟨b1, 0, none⟩)), (8, .int .i64 (skywaykeep2_square s.At x.At))] (fun w _ => skywaykeep2_square_w s.At x.At w) rfl (by kernel_rfl) (by kernel_rfl) ?_
  generalize hr1 : skywaykeep2_square s.At x.At = r1
  refine TQ.run 12 [0, 0] [(3, .bool (decide (r1 > (w64 (s.Error * s.Error)))))] rfl ⟨by kernel_rfl, by kernel_rfl⟩ ?_
  refine TQ.next rfl ?_
  refine TC.ret ?_
  have e : skywaykeep2_MosaicContains_1 s x = (decide (r1 > (w64 (s.Error * s.Error)))) := by subst hr1; unfold skywaykeep2_MosaicContains_1; exact rfl
  exact TE.ret [] (.bool (decide (r1 > (w64 (s.Error * s.Error))))) ⟨by kernel_rfl, by kernel_rfl⟩ (by rw [e]; first | done | kernel_rfl)

def IndexFunc_far_L1 (c0 : Spot) : List Spot → Nat → ((Unit) ⊕ (Int))
  | [], _ => .inl ()
  | x :: xs, k => let r1 := skywaykeep2_MosaicContains_1 x c0
    cond r1 (
      .inr (k : Int)) (
      IndexFunc_far_L1 c0 xs (k + 1))
def IndexFunc_far (s : List Spot) (c0 : Spot) : Int :=
  Sum.elim (fun _ =>
    (-1)) (fun r => r) (IndexFunc_far_L1 c0 s 0)

set_option maxRecDepth 100000 in
theorem IndexFunc_far_w (A_s : Option Addr) (c_s : Nat) (s : List Spot) (a_c0 : Addr) (c0 : Spot) (w : World) (h_s : Rd w 6 A_s (s.map Spot.c)) (_hc_s : s.length ≤ c_s) (h_c0 : Rd w 6 (some a_c0) [Spot.c c0]) : Calls Tryd.prog 26 #[.slice A_s s.length c_s, .func (.func 11) #[] #[.pointer (some a_c0)]] w (Ret w (.int .i64 (IndexFunc_far s c0))) := by
  have s_s := h_s.short; rw [List.length_map] at s_s
  refine calls_intro (vs := [.slice A_s s.length c_s, .func (.func 11) #[] #[.pointer (some a_c0)]]) (w := w) Tryd.func26 rfl Tryd.ntmps26 rfl ?_
  refine TC.weak [(0, .slice A_s s.length c_s), (1, .func (.func 11) #[] #[.pointer (some a_c0)])] (by kernel_rfl) ?_
  refine TC.seq ?_
  refine TC.region ?_
  refine TL.run 1 [] [(0, .slice A_s s.length c_s), (1, .func (.func 11) #[] #[.pointer (some a_c0)])] rfl ⟨by kernel_rfl, by kernel_rfl⟩ ?_
  refine TL.next rfl ?_
  refine TC.seq ?_
  refine TC.seq ?_
  refine TC.region ?_
  refine TL.run 3 [] [(0, .slice A_s s.length c_s), (1, .func (.func 11) #[] #[.pointer (some a_c0)]), (7, .int .i64 (s.length : Int)), (8, .int .i64 0)] rfl ⟨by kernel_rfl, by kernel_rfl⟩ ?_
  refine TL.next rfl ?_
  refine TC.weak [(0, .slice A_s s.length c_s), (1, .func (.func 11) #[] #[.pointer (some a_c0)]), (7, .int .i64 (s.length : Int)), (8, .int .i64 0)] (by kernel_rfl) ?_
  obtain ⟨R1, hR⟩ : ∃ R, R = IndexFunc_far_L1 c0 s 0 := ⟨_, rfl⟩
  refine TC.cut (S := Unit) (fun (_ : Unit) => []) (fun (_ : Unit) => []) (fun (_ : Unit) => R1 = .inl ()) ?_ ?_
  · refine TC.block ?_
    refine TC.loop (X := Nat) (fun k => [(0, .slice A_s s.length c_s), (1, .func (.func 11) #[] #[.pointer (some a_c0)]), (7, .int .i64 (s.length : Int)), (8, .int .i64 (k : Int))]) (fun k => []) (fun k => s.length - k) (fun k => k ≤ s.length ∧ R1 = IndexFunc_far_L1 c0 (s.drop k) k) ?_ 0 ⟨Nat.zero_le _, hR⟩
    rintro k ⟨hk, hI⟩
    refine TC.seq ?_
    refine TC.region ?_
    refine TL.run 1 [] [(0, .slice A_s s.length c_s), (1, .func (.func 11) #[] #[.pointer (some a_c0)]), (7, .int .i64 (s.length : Int)), (8, .int .i64 (k : Int)), (9, .bool (decide ((k : Int) < (s.length : Int))))] rfl ⟨by kernel_rfl, by kernel_rfl⟩ ?_
    refine TL.next rfl ?_
    refine TC.seq ?_
    refine TC.cond (decide ((k : Int) < (s.length : Int))) rfl (by kernel_rfl) (fun h1 => ?_) (fun h1 => ?_)
    · have hlt : k < s.length := by have := of_decide_eq_true h1; first | omega | (simp at this; omega)
      obtain ⟨x, hx⟩ : ∃ e_, s[k]? = some e_ := ⟨_, List.getElem?_eq_getElem hlt⟩
      have hd := drop_at hx
      refine TC.skip ?_
      refine TE.next ?_
      refine TC.seq ?_
      refine TC.block ?_
      refine TC.seq ?_
      refine TC.region ?_
      refine TL.run 2 [] [(0, .slice A_s s.length c_s), (1, .func (.func 11) #[] #[.pointer (some a_c0)]), (5, .int .i64 (k : Int)), (7, .int .i64 (s.length : Int)), (8, .int .i64 (k : Int))] rfl ⟨by kernel_rfl, by kernel_rfl⟩ ?_
      refine TL.next rfl ?_
      refine TC.seq ?_
      refine TC.region ?_
      refine TL.run 3 [] [(0, .slice A_s s.length c_s), (1, .func (.func 11) #[] #[.pointer (some a_c0)]), (5, .int .i64 (k : Int)), (7, .int .i64 (s.length : Int)), (8, .int .i64 (k : Int)), (11, .func (.func 11) #[] #[.pointer (some a_c0)]), (12, .slice A_s s.length c_s), (13, .int .i64 (k : Int))] rfl ⟨by kernel_rfl, by kernel_rfl⟩ ?_
      refine TL.val (sV (Instr.indexAt 41 (.slice A_s s.length c_s) (.int .i64 (k : Int)))) (some 14) (.pointer (some ((A_s.getD noAddr).add (k * 6)))) [(0, .slice A_s s.length c_s), (1, .func (.func 11) #[] #[.pointer (some a_c0)]), (5, .int .i64 (k : Int)), (7, .int .i64 (s.length : Int)), (8, .int .i64 (k : Int)), (11, .func (.func 11) #[] #[.pointer (some a_c0)]), (14, .pointer (some ((A_s.getD noAddr).add (k * 6))))] (fun w hM => run_index (h_s.sat hM) (by simp) (by kernel_rfl) (by exact sd) (by exact sd)) (by kernel_rfl) (by kernel_rfl) ?_
      refine TL.val (sV (Instr.loadAt 26 (.pointer (some ((A_s.getD noAddr).add (k * 6)))))) (some 15) (Spot.v x) [(0, .slice A_s s.length c_s), (1, .func (.func 11) #[] #[.pointer (some a_c0)]), (5, .int .i64 (k : Int)), (7, .int .i64 (s.length : Int)), (8, .int .i64 (k : Int)), (11, .func (.func 11) #[] #[.pointer (some a_c0)]), (15, Spot.v x)] (fun w hM => run_load_agg (n := 6) (off := 0) (i := k) (Spot.v x) (h_s.sat hM) (map_at hx) (by kernel_rfl) (by kernel_rfl) (by kernel_rfl)) (by kernel_rfl) (by kernel_rfl) ?_
      refine TL.call (some 16) [(0, .slice A_s s.length c_s), (1, .func (.func 11) #[] #[.pointer (some a_c0)]), (5, .int .i64 (k : Int)), (7, .int .i64 (s.length : Int)), (8, .int .i64 (k : Int)), (16, .bool ((skywaykeep2_MosaicContains_1 x c0)))] (fun w hM => skywaykeep2_MosaicContains_1_w x a_c0 c0 w (h_c0.sat hM)) (by kernel_rfl) (by kernel_rfl) ?_
      generalize hr1 : skywaykeep2_MosaicContains_1 x c0 = r1
      refine TL.next rfl ?_
      refine TC.cond r1 rfl (by kernel_rfl) (fun h2 => ?_) (fun h2 => ?_)
      · refine TC.seq ?_
        refine TC.region ?_
        refine TL.run 2 [] [(4, .int .i64 (k : Int))] rfl ⟨by kernel_rfl, by kernel_rfl⟩ ?_
        refine TL.next rfl ?_
        refine TC.ret ?_
        refine TE.ret_block (TE.ret_then (TE.ret_then (TE.ret_block (TE.ret_then (TE.ret_then ?_)))))
        have e : IndexFunc_far s c0 = (k : Int) := by subst hr1; unfold IndexFunc_far; exact elim_r (hR.symm.trans (hI.trans (by rw [hd]; exact cond_t h2 (rfl)))) rfl
        exact TE.ret [] (.int .i64 (k : Int)) ⟨by kernel_rfl, by kernel_rfl⟩ (by rw [e]; first | done | kernel_rfl)
      · refine TC.skip ?_
        refine TE.normal_block ?_
        refine TE.next ?_
        refine TC.region ?_
        refine TL.run 2 [] [(0, .slice A_s s.length c_s), (1, .func (.func 11) #[] #[.pointer (some a_c0)]), (7, .int .i64 (s.length : Int)), (8, .int .i64 (w64 ((k : Int) + 1)))] rfl ⟨by kernel_rfl, by kernel_rfl⟩ ?_
        refine TL.done rfl ?_
        refine TE.rw 8 (.int .i64 (w64 ((k : Int) + 1))) (.int .i64 ((k + 1 : Nat) : Int)) (by kernel_rfl) (w64_cast k (by omega)) ?_
        exact TE.again (x := k) (k + 1) ⟨by omega, hI.trans (by subst hr1; rw [hd]; exact cond_f h2 (rfl))⟩ (by show s.length - (k + 1) < s.length - k; omega) (by kernel_rfl) (.slnil)
    · have hd : s.drop k = [] := List.drop_eq_nil_of_le (by have := of_decide_eq_false h1; first | omega | (simp at this; omega))
      refine TC.exit ?_
      refine TE.exit_then (TE.exit_then (TE.exit_same ?_))
      exact TE.cut () (hI.trans (by rw [hd]; exact rfl)) (by kernel_rfl) (.slnil)
  · intro _ hJ
    refine TE.next ?_
    refine TC.seq ?_
    refine TC.region ?_
    refine TL.run 1 [] [(4, .int .i64 (-1))] rfl ⟨by kernel_rfl, by kernel_rfl⟩ ?_
    refine TL.next rfl ?_
    refine TC.ret ?_
    have e : IndexFunc_far s c0 = (-1) := by unfold IndexFunc_far; exact elim_l (hR.symm.trans hJ) (rfl)
    exact TE.ret [] (.int .i64 (-1)) ⟨by kernel_rfl, by kernel_rfl⟩ (by rw [e]; first | done | kernel_rfl)

def ContainsFunc_far (s : List Spot) (c0 : Spot) : Bool :=
  let r1 := IndexFunc_far s c0
  decide (r1 ≥ 0)

set_option maxRecDepth 100000 in
theorem ContainsFunc_far_w (A_s : Option Addr) (c_s : Nat) (s : List Spot) (a_c0 : Addr) (c0 : Spot) (w : World) (h_s : Rd w 6 A_s (s.map Spot.c)) (hc_s : s.length ≤ c_s) (h_c0 : Rd w 6 (some a_c0) [Spot.c c0]) : Calls Tryd.prog 10 #[.slice A_s s.length c_s, .func (.func 11) #[] #[.pointer (some a_c0)]] w (Ret w (.bool (ContainsFunc_far s c0))) := by
  have s_s := h_s.short; rw [List.length_map] at s_s
  refine calls_intro (vs := [.slice A_s s.length c_s, .func (.func 11) #[] #[.pointer (some a_c0)]]) (w := w) Tryd.func10 rfl Tryd.ntmps10 rfl ?_
  refine TC.weak [(0, .slice A_s s.length c_s), (1, .func (.func 11) #[] #[.pointer (some a_c0)])] (by kernel_rfl) ?_
  refine TC.seq ?_
  refine TC.region ?_
  refine TL.run 1 [] [(0, .slice A_s s.length c_s), (1, .func (.func 11) #[] #[.pointer (some a_c0)])] rfl ⟨by kernel_rfl, by kernel_rfl⟩ ?_
  refine TL.next rfl ?_
  refine TC.seq ?_
  refine TC.region ?_
  refine TL.run 2 [] [(5, .slice A_s s.length c_s), (6, .func (.func 11) #[] #[.pointer (some a_c0)])] rfl ⟨by kernel_rfl, by kernel_rfl⟩ ?_
  refine TL.call (some 7) [(7, .int .i64 (IndexFunc_far s c0))] (fun w hM => IndexFunc_far_w A_s c_s s a_c0 c0 w (h_s.sat hM) hc_s (h_c0.sat hM)) (by kernel_rfl) (by kernel_rfl) ?_
  generalize hr1 : IndexFunc_far s c0 = r1
  refine TL.run 5 [] [(4, .bool (decide (r1 ≥ 0)))] rfl ⟨by kernel_rfl, by kernel_rfl⟩ ?_
  refine TL.next rfl ?_
  refine TC.ret ?_
  have e : ContainsFunc_far s c0 = (decide (r1 ≥ 0)) := by subst hr1; unfold ContainsFunc_far; exact rfl
  exact TE.ret [] (.bool (decide (r1 ≥ 0))) ⟨by kernel_rfl, by kernel_rfl⟩ (by rw [e]; first | done | kernel_rfl)

def skywaykeep2_MosaicContains_L1 (t : Spot) (r3 : List Int × Int) : List RadarSite → Nat → (List Plot) → ((List Plot) ⊕ (Bool))
  | [], _, plots => .inl plots
  | x :: xs, k, plots => let r4 := radar_Plot x t
    cond (r4.2 == 0) (
      let r5 := slices_Contains_int_int r3.1 x.ID
      cond (!r5) (
        .inr false) (
        skywaykeep2_MosaicContains_L1 t r3 xs (k + 1) (plots ++ ([r4.1])))) (
      skywaykeep2_MosaicContains_L1 t r3 xs (k + 1) plots)
def skywaykeep2_MosaicContains (l : List RadarSite) (t : Spot) : Bool :=
  let r1 := skywaykeep2_east
  let r2 := mosaic_Sees ([r1]) (⟨5, 0⟩ : P)
  cond ((r2.2 != 0) || ((r2.1.length : Int) != 1)) (
    false) (
    let r3 := mosaic_Sees l t.At
    cond (r3.2 != 0) (
      (r3.1.length : Int) == 0) (
      Sum.elim (fun plots_2 =>
        let r6 := radar_CheckSpot t
        cond ((r6 == 0) && ((plots_2.length : Int) != (r3.1.length : Int))) (
          false) (
          let r7 := mosaic_Spots l plots_2
          cond ((r7.2 == 0) && (decide ((r7.1.length : Int) ≤ (plots_2.length : Int)))) (
            let r8 := ContainsFunc_far r7.1 t
            !r8) (
            false))) (fun r => r) (skywaykeep2_MosaicContains_L1 t r3 l 0 ([] : List Plot))))

theorem sees_len {l : List RadarSite} {p : P} {r : List Int × Int} (hr : mosaic_Sees l p = r) (h : (r.2 != 0) = false) : l.length ≤ 4 := by
  cases h1 : (mosaic_Check l != 0) with
  | false => exact chk_len rfl h1
  | true =>
    exfalso
    unfold mosaic_Sees at hr
    simp only at hr
    rw [h1, cond_true] at hr
    rw [← hr] at h
    rw [h1] at h
    cases h

set_option maxHeartbeats 4000000 in
set_option maxRecDepth 100000 in
theorem skywaykeep2_MosaicContains_w (A_l : Option Addr) (c_l : Nat) (l : List RadarSite) (t : Spot) (w : World) (h_l : Rd w 6 A_l (l.map RadarSite.c)) (hc_l : l.length ≤ c_l) (hT : Tabs w) : Calls Tryd.prog 3 #[.slice A_l l.length c_l, Spot.v t] w (Ret w (.bool (skywaykeep2_MosaicContains l t))) := by
  have s_l := h_l.short; rw [List.length_map] at s_l
  refine calls_intro (vs := [.slice A_l l.length c_l, Spot.v t]) (w := w) Tryd.func3 rfl Tryd.ntmps3 rfl ?_
  refine TC.weak [(0, .slice A_l l.length c_l), (1, Spot.v t)] (by kernel_rfl) ?_
  refine TC.seq ?_
  refine TC.region ?_
  refine TL.write 0 (fun b1 => [(0, .slice A_l l.length c_l), (3, .pointer (some ⟨b1, 0, none⟩))]) (fun b1 => [.inl (b1, .cells (Spot.c t) 26 (0, 0))]) (fun b1 => ⟨by kernel_rfl, by kernel_rfl⟩) (fun b1 => ?_)
  refine TL.run 2 [] [(0, .slice A_l l.length c_l), (3, .pointer (some ⟨b1, 0, none⟩))] rfl ⟨by kernel_rfl, by kernel_rfl⟩ ?_
  refine TL.next rfl ?_
  refine TC.seq ?_
  refine TC.seq ?_
  refine TC.region ?_
  refine TL.call (some 17) [(0, .slice A_l l.length c_l), (3, .pointer (some ⟨b1, 0, none⟩)), (17, RadarSite.v (skywaykeep2_east))] (fun w _ => skywaykeep2_east_w w) (by kernel_rfl) (by kernel_rfl) ?_
  generalize hr1 : skywaykeep2_east = r1
  refine TL.write 0 (fun b2 => [(0, .slice A_l l.length c_l), (3, .pointer (some ⟨b1, 0, none⟩)), (18, .slice (some ⟨b2, 0, none⟩) 1 1)]) (fun b2 => [.inl (b2, .cells (RadarSite.c r1) 32 (0, 0)), .inl (b1, .cells (Spot.c t) 26 (0, 0))]) (fun b2 => ⟨by kernel_rfl, by kernel_rfl⟩) (fun b2 => ?_)
  refine TL.run 3 [] [(0, .slice A_l l.length c_l), (3, .pointer (some ⟨b1, 0, none⟩)), (18, .slice (some ⟨b2, 0, none⟩) 1 1), (19, .agg #[.int .i64 5, .int .i64 0])] rfl ⟨by kernel_rfl, by kernel_rfl⟩ ?_
  refine TL.callN (Γ := (Option Addr × Nat)) (fun g => .tuple #[.slice g.1 (((mosaic_Sees ([r1]) (⟨5, 0⟩ : P)).1).length) g.2, .int .i64 ((mosaic_Sees ([r1]) (⟨5, 0⟩ : P)).2)]) (fun g => [.inr (Own g.1 g.2 3 1 (((mosaic_Sees ([r1]) (⟨5, 0⟩ : P)).1).map ic))]) (fun g => [.inr (Own g.1 g.2 3 1 (((mosaic_Sees ([r1]) (⟨5, 0⟩ : P)).1).map ic)), .inl (b2, .cells (RadarSite.c r1) 32 (0, 0)), .inl (b1, .cells (Spot.c t) 26 (0, 0))]) (fun g => rfl) (some 20) (fun g => [(0, .slice A_l l.length c_l), (3, .pointer (some ⟨b1, 0, none⟩)), (20, .tuple #[.slice g.1 (((mosaic_Sees ([r1]) (⟨5, 0⟩ : P)).1).length) g.2, .int .i64 ((mosaic_Sees ([r1]) (⟨5, 0⟩ : P)).2)])]) (fun w hM => mosaic_Sees_w (some ⟨b2, 0, none⟩) 1 ([r1]) (⟨5, 0⟩ : P) w (Rd.lit hM 0 _ rfl (by kernel_rfl) (by kernel_rfl) (by kernel_rfl)) (Nat.le_refl _)) (by kernel_rfl) (fun g => by kernel_rfl) ?_
  rintro ⟨A, c⟩
  generalize hr2 : mosaic_Sees ([r1]) (⟨5, 0⟩ : P) = r2
  refine TL.know (fun w hM => hM.short_at 0 rfl) (fun s_r2_0 => ?_)
  refine TL.run 9 [] [(0, .slice A_l l.length c_l), (3, .pointer (some ⟨b1, 0, none⟩)), (5, .slice A r2.1.length c), (6, .int .i64 r2.2)] rfl ⟨by kernel_rfl, by kernel_rfl⟩ ?_
  refine TL.next rfl ?_
  refine TC.seq ?_
  refine TC.region ?_
  refine TL.run 3 [] [(0, .slice A_l l.length c_l), (3, .pointer (some ⟨b1, 0, none⟩)), (5, .slice A r2.1.length c), (25, .bool (r2.2 != 0))] rfl ⟨by kernel_rfl, by kernel_rfl⟩ ?_
  refine TL.join 25 (r2.2 != 0) 7 [] [] (fun β => [(0, .slice A_l l.length c_l), (3, .pointer (some ⟨b1, 0, none⟩)), (29, .bool (β || ((r2.1.length : Int) != 1)))]) (by kernel_rfl) rfl ⟨by kernel_rfl, by kernel_rfl⟩ ⟨by kernel_rfl, by kernel_rfl⟩ ?_
  refine TL.next rfl ?_
  refine TC.cond ((r2.2 != 0) || ((r2.1.length : Int) != 1)) rfl (by kernel_rfl) (fun h1 => ?_) (fun h1 => ?_)
  · refine TC.seq ?_
    refine TC.region ?_
    refine TL.run 1 [] [(4, .bool false)] rfl ⟨by kernel_rfl, by kernel_rfl⟩ ?_
    refine TL.next rfl ?_
    refine TC.ret ?_
    refine TE.ret_then ?_
    have e : skywaykeep2_MosaicContains l t = false := by subst hr1 hr2; unfold skywaykeep2_MosaicContains; exact cond_t h1 (rfl)
    exact TE.ret [] (.bool false) ⟨by kernel_rfl, by kernel_rfl⟩ (by rw [e]; first | done | kernel_rfl)
  · refine TC.skip ?_
    refine TE.next ?_
    refine TC.seq ?_
    refine TC.region ?_
    refine TL.run 3 [2] [(0, .slice A_l l.length c_l), (3, .pointer (some ⟨b1, 0, none⟩)), (31, .slice A_l l.length c_l), (33, P.v t.At)] rfl ⟨by kernel_rfl, by kernel_rfl⟩ ?_
    refine TL.callN (Γ := (Option Addr × Nat)) (fun g => .tuple #[.slice g.1 (((mosaic_Sees l t.At).1).length) g.2, .int .i64 ((mosaic_Sees l t.At).2)]) (fun g => [.inr (Own g.1 g.2 3 1 (((mosaic_Sees l t.At).1).map ic))]) (fun g => [.inr (Own g.1 g.2 3 1 (((mosaic_Sees l t.At).1).map ic)), .inr (Own A c 3 1 (r2.1.map ic)), .inl (b2, .cells (RadarSite.c r1) 32 (0, 0)), .inl (b1, .cells (Spot.c t) 26 (0, 0))]) (fun g => rfl) (some 34) (fun g => [(0, .slice A_l l.length c_l), (3, .pointer (some ⟨b1, 0, none⟩)), (34, .tuple #[.slice g.1 (((mosaic_Sees l t.At).1).length) g.2, .int .i64 ((mosaic_Sees l t.At).2)])]) (fun w hM => mosaic_Sees_w A_l c_l l t.At w (h_l.sat hM) hc_l) (by kernel_rfl) (fun g => by kernel_rfl) ?_
    rintro ⟨A_2, c_2⟩
    generalize hr3 : mosaic_Sees l t.At = r3
    refine TL.know (fun w hM => hM.short_at 0 rfl) (fun s_r3_0 => ?_)
    refine TL.run 9 [] [(0, .slice A_l l.length c_l), (3, .pointer (some ⟨b1, 0, none⟩)), (7, .slice A_2 r3.1.length c_2), (8, .int .i64 r3.2)] rfl ⟨by kernel_rfl, by kernel_rfl⟩ ?_
    refine TL.next rfl ?_
    refine TC.seq ?_
    refine TC.seq ?_
    refine TC.region ?_
    refine TL.run 2 [] [(0, .slice A_l l.length c_l), (3, .pointer (some ⟨b1, 0, none⟩)), (7, .slice A_2 r3.1.length c_2), (38, .bool (r3.2 != 0))] rfl ⟨by kernel_rfl, by kernel_rfl⟩ ?_
    refine TL.next rfl ?_
    refine TC.cond (r3.2 != 0) rfl (by kernel_rfl) (fun h2 => ?_) (fun h2 => ?_)
    · refine TC.seq ?_
      refine TC.region ?_
      refine TL.run 4 [] [(4, .bool ((r3.1.length : Int) == 0))] rfl ⟨by kernel_rfl, by kernel_rfl⟩ ?_
      refine TL.next rfl ?_
      refine TC.ret ?_
      refine TE.ret_then ?_
      have e : skywaykeep2_MosaicContains l t = ((r3.1.length : Int) == 0) := by subst hr1 hr2 hr3; unfold skywaykeep2_MosaicContains; exact cond_f h1 (cond_t h2 (rfl))
      exact TE.ret [] (.bool ((r3.1.length : Int) == 0)) ⟨by kernel_rfl, by kernel_rfl⟩ (by rw [e]; first | done | kernel_rfl)
    · refine TC.skip ?_
      refine TE.next ?_
      refine TC.seq ?_
      refine TC.region ?_
      refine TL.run 1 [] [(0, .slice A_l l.length c_l), (3, .pointer (some ⟨b1, 0, none⟩)), (7, .slice A_2 r3.1.length c_2), (9, .slice none 0 0)] rfl ⟨by kernel_rfl, by kernel_rfl⟩ ?_
      refine TL.next rfl ?_
      refine TC.seq ?_
      refine TC.seq ?_
      refine TC.region ?_
      refine TL.run 3 [] [(0, .slice A_l l.length c_l), (3, .pointer (some ⟨b1, 0, none⟩)), (7, .slice A_2 r3.1.length c_2), (9, .slice none 0 0), (42, .slice A_l l.length c_l), (43, .int .i64 (l.length : Int)), (44, .int .i64 0)] rfl ⟨by kernel_rfl, by kernel_rfl⟩ ?_
      refine TL.next rfl ?_
      refine TC.conv [.inr (Own none 0 36 6 (([] : List Plot).map Plot.c)), .inr (Own A_2 c_2 3 1 (r3.1.map ic)), .inr (Own A c 3 1 (r2.1.map ic)), .inl (b2, .cells (RadarSite.c r1) 32 (0, 0)), .inl (b1, .cells (Spot.c t) 26 (0, 0))] (fun _ hM => hM.emptyrow none 36 6) ?_
      refine TC.weak [(0, .slice A_l l.length c_l), (3, .pointer (some ⟨b1, 0, none⟩)), (7, .slice A_2 r3.1.length c_2), (9, .slice none (([] : List Plot).length) 0), (42, .slice A_l l.length c_l), (43, .int .i64 (l.length : Int)), (44, .int .i64 0)] (by kernel_rfl) ?_
      refine TC.forget [.inr (Own none 0 36 6 (([] : List Plot).map Plot.c)), .inr (Own A_2 c_2 3 1 (r3.1.map ic)), .inl (b1, .cells (Spot.c t) 26 (0, 0))] (.cons_cons _ (.cons_cons _ (.cons _ (.cons _ (.cons_cons _ (.slnil)))))) ?_
      obtain ⟨R2, hR⟩ : ∃ R, R = skywaykeep2_MosaicContains_L1 t r3 l 0 ([] : List Plot) := ⟨_, rfl⟩
      refine TC.cut (S := (List Plot) × (Option Addr) × Nat) (fun (plots_2, A_plots_2, c_plots_2) => [(0, .slice A_l l.length c_l), (3, .pointer (some ⟨b1, 0, none⟩)), (7, .slice A_2 r3.1.length c_2), (9, .slice A_plots_2 plots_2.length c_plots_2)]) (fun (plots_2, A_plots_2, c_plots_2) => [.inr (Own A_plots_2 c_plots_2 36 6 (plots_2.map Plot.c)), .inr (Own A_2 c_2 3 1 (r3.1.map ic)), .inl (b1, .cells (Spot.c t) 26 (0, 0))]) (fun (plots_2, A_plots_2, c_plots_2) => R2 = .inl plots_2 ∧ plots_2.length ≤ l.length) ?_ ?_
      · refine TC.block ?_
        refine TC.loop (X := Nat × (List Plot) × (Option Addr) × Nat) (fun (k, plots, A_plots, c_plots) => [(0, .slice A_l l.length c_l), (3, .pointer (some ⟨b1, 0, none⟩)), (7, .slice A_2 r3.1.length c_2), (9, .slice A_plots plots.length c_plots), (42, .slice A_l l.length c_l), (43, .int .i64 (l.length : Int)), (44, .int .i64 (k : Int))]) (fun (k, plots, A_plots, c_plots) => [.inr (Own A_plots c_plots 36 6 (plots.map Plot.c)), .inr (Own A_2 c_2 3 1 (r3.1.map ic)), .inl (b1, .cells (Spot.c t) 26 (0, 0))]) (fun (k, plots, A_plots, c_plots) => l.length - k) (fun (k, plots, A_plots, c_plots) => k ≤ l.length ∧ R2 = skywaykeep2_MosaicContains_L1 t r3 (l.drop k) k plots ∧ plots.length ≤ k) ?_ (0, ([] : List Plot), none, 0) ⟨Nat.zero_le _, hR, (by first | omega | (simp; omega) | simp)⟩
        rintro ⟨k, plots, A_plots, c_plots⟩ ⟨hk, hI, hl_plots⟩
        refine TC.seq ?_
        refine TC.region ?_
        refine TL.run 1 [] [(0, .slice A_l l.length c_l), (3, .pointer (some ⟨b1, 0, none⟩)), (7, .slice A_2 r3.1.length c_2), (9, .slice A_plots plots.length c_plots), (42, .slice A_l l.length c_l), (43, .int .i64 (l.length : Int)), (44, .int .i64 (k : Int)), (45, .bool (decide ((k : Int) < (l.length : Int))))] rfl ⟨by kernel_rfl, by kernel_rfl⟩ ?_
        refine TL.next rfl ?_
        refine TC.seq ?_
        refine TC.cond (decide ((k : Int) < (l.length : Int))) rfl (by kernel_rfl) (fun h3 => ?_) (fun h3 => ?_)
        · have hlt : k < l.length := by have := of_decide_eq_true h3; first | omega | (simp at this; omega)
          obtain ⟨x, hx⟩ : ∃ e_, l[k]? = some e_ := ⟨_, List.getElem?_eq_getElem hlt⟩
          have hd := drop_at hx
          refine TC.skip ?_
          refine TE.next ?_
          refine TC.seq ?_
          refine TC.block ?_
          refine TC.seq ?_
          refine TC.region ?_
          refine TL.val (sV (Instr.indexAt 22 (.slice A_l l.length c_l) (.int .i64 (k : Int)))) (some 46) (.pointer (some ((A_l.getD noAddr).add (k * 6)))) [(0, .slice A_l l.length c_l), (3, .pointer (some ⟨b1, 0, none⟩)), (7, .slice A_2 r3.1.length c_2), (9, .slice A_plots plots.length c_plots), (42, .slice A_l l.length c_l), (43, .int .i64 (l.length : Int)), (44, .int .i64 (k : Int)), (46, .pointer (some ((A_l.getD noAddr).add (k * 6))))] (fun w hM => run_index (h_l.sat hM) (by simp) (by kernel_rfl) (by have q0_ := (bne_f (or_f1 h1)); have q1_ := (bne_f (or_f2 h1)); have q2_ := (bne_f h2); (try have kl_ := sees_len hr3 h2); (try have kl_ := sees_len hr3 h3); exact sd) (by have q0_ := (bne_f (or_f1 h1)); have q1_ := (bne_f (or_f2 h1)); have q2_ := (bne_f h2); (try have kl_ := sees_len hr3 h2); (try have kl_ := sees_len hr3 h3); exact sd)) (by kernel_rfl) (by kernel_rfl) ?_
          refine TL.val (sV (Instr.loadAt 32 (.pointer (some ((A_l.getD noAddr).add (k * 6)))))) (some 47) (RadarSite.v x) [(0, .slice A_l l.length c_l), (3, .pointer (some ⟨b1, 0, none⟩)), (7, .slice A_2 r3.1.length c_2), (9, .slice A_plots plots.length c_plots), (42, .slice A_l l.length c_l), (43, .int .i64 (l.length : Int)), (44, .int .i64 (k : Int)), (47, RadarSite.v x)] (fun w hM => run_load_agg (n := 6) (off := 0) (i := k) (RadarSite.v x) (h_l.sat hM) (map_at hx) (by kernel_rfl) (by kernel_rfl) (by kernel_rfl)) (by kernel_rfl) (by kernel_rfl) ?_
          refine TL.write 0 (fun b3 => [(0, .slice A_l l.length c_l), (3, .pointer (some ⟨b1, 0, none⟩)), (7, .slice A_2 r3.1.length c_2), (9, .slice A_plots plots.length c_plots), (11, .pointer (some ⟨b3, 0, none⟩)), (42, .slice A_l l.length c_l), (43, .int .i64 (l.length : Int)), (44, .int .i64 (k : Int)), (47, RadarSite.v x)]) (fun b3 => [.inl (b3, .cells (RadarSite.c RadarSite.zero) 32 (0, 0)), .inr (Own A_plots c_plots 36 6 (plots.map Plot.c)), .inr (Own A_2 c_2 3 1 (r3.1.map ic)), .inl (b1, .cells (Spot.c t) 26 (0, 0))]) (fun b3 => ⟨by kernel_rfl, by kernel_rfl⟩) (fun b3 => ?_)
          refine TL.write 0 (fun _ => [(0, .slice A_l l.length c_l), (3, .pointer (some ⟨b1, 0, none⟩)), (7, .slice A_2 r3.1.length c_2), (9, .slice A_plots plots.length c_plots), (11, .pointer (some ⟨b3, 0, none⟩)), (42, .slice A_l l.length c_l), (43, .int .i64 (l.length : Int)), (44, .int .i64 (k : Int))]) (fun _ => [.inl (b3, .cells (RadarSite.c x) 32 (0, 0)), .inr (Own A_plots c_plots 36 6 (plots.map Plot.c)), .inr (Own A_2 c_2 3 1 (r3.1.map ic)), .inl (b1, .cells (Spot.c t) 26 (0, 0))]) (fun _ => ⟨by kernel_rfl, by kernel_rfl⟩) (fun _ => ?_)
          refine TL.next rfl ?_
          refine TC.seq ?_
          refine TC.region ?_
          refine TL.run 2 [0, 3] [(0, .slice A_l l.length c_l), (3, .pointer (some ⟨b1, 0, none⟩)), (7, .slice A_2 r3.1.length c_2), (9, .slice A_plots plots.length c_plots), (11, .pointer (some ⟨b3, 0, none⟩)), (42, .slice A_l l.length c_l), (43, .int .i64 (l.length : Int)), (44, .int .i64 (k : Int)), (49, RadarSite.v x), (50, Spot.v t)] rfl ⟨by kernel_rfl, by kernel_rfl⟩ ?_
          refine TL.call (some 51) [(0, .slice A_l l.length c_l), (3, .pointer (some ⟨b1, 0, none⟩)), (7, .slice A_2 r3.1.length c_2), (9, .slice A_plots plots.length c_plots), (11, .pointer (some ⟨b3, 0, none⟩)), (42, .slice A_l l.length c_l), (43, .int .i64 (l.length : Int)), (44, .int .i64 (k : Int)), (51, .tuple #[Plot.v ((radar_Plot x t).1), .int .i64 ((radar_Plot x t).2)])] (fun w hM => radar_Plot_w x t w (hT.sat hM)) (by kernel_rfl) (by kernel_rfl) ?_
          generalize hr4 : radar_Plot x t = r4
          refine TL.run 6 [] [(0, .slice A_l l.length c_l), (3, .pointer (some ⟨b1, 0, none⟩)), (7, .slice A_2 r3.1.length c_2), (9, .slice A_plots plots.length c_plots), (11, .pointer (some ⟨b3, 0, none⟩)), (42, .slice A_l l.length c_l), (43, .int .i64 (l.length : Int)), (44, .int .i64 (k : Int)), (52, Plot.v r4.1), (53, .int .i64 r4.2)] rfl ⟨by kernel_rfl, by kernel_rfl⟩ ?_
          refine TL.write 0 (fun b4 => [(0, .slice A_l l.length c_l), (3, .pointer (some ⟨b1, 0, none⟩)), (7, .slice A_2 r3.1.length c_2), (9, .slice A_plots plots.length c_plots), (11, .pointer (some ⟨b3, 0, none⟩)), (12, .pointer (some ⟨b4, 0, none⟩)), (42, .slice A_l l.length c_l), (43, .int .i64 (l.length : Int)), (44, .int .i64 (k : Int)), (52, Plot.v r4.1), (53, .int .i64 r4.2)]) (fun b4 => [.inl (b4, .cells (Plot.c Plot.zero) 36 (0, 0)), .inl (b3, .cells (RadarSite.c x) 32 (0, 0)), .inr (Own A_plots c_plots 36 6 (plots.map Plot.c)), .inr (Own A_2 c_2 3 1 (r3.1.map ic)), .inl (b1, .cells (Spot.c t) 26 (0, 0))]) (fun b4 => ⟨by kernel_rfl, by kernel_rfl⟩) (fun b4 => ?_)
          refine TL.write 0 (fun _ => [(0, .slice A_l l.length c_l), (3, .pointer (some ⟨b1, 0, none⟩)), (7, .slice A_2 r3.1.length c_2), (9, .slice A_plots plots.length c_plots), (11, .pointer (some ⟨b3, 0, none⟩)), (12, .pointer (some ⟨b4, 0, none⟩)), (42, .slice A_l l.length c_l), (43, .int .i64 (l.length : Int)), (44, .int .i64 (k : Int)), (53, .int .i64 r4.2)]) (fun _ => [.inl (b4, .cells (Plot.c r4.1) 36 (0, 0)), .inl (b3, .cells (RadarSite.c x) 32 (0, 0)), .inr (Own A_plots c_plots 36 6 (plots.map Plot.c)), .inr (Own A_2 c_2 3 1 (r3.1.map ic)), .inl (b1, .cells (Spot.c t) 26 (0, 0))]) (fun _ => ⟨by kernel_rfl, by kernel_rfl⟩) (fun _ => ?_)
          refine TL.run 9 [] [(0, .slice A_l l.length c_l), (3, .pointer (some ⟨b1, 0, none⟩)), (7, .slice A_2 r3.1.length c_2), (9, .slice A_plots plots.length c_plots), (11, .pointer (some ⟨b3, 0, none⟩)), (12, .pointer (some ⟨b4, 0, none⟩)), (13, .int .i64 r4.2), (42, .slice A_l l.length c_l), (43, .int .i64 (l.length : Int)), (44, .int .i64 (k : Int))] rfl ⟨by kernel_rfl, by kernel_rfl⟩ ?_
          refine TL.next rfl ?_
          refine TC.seq ?_
          refine TC.region ?_
          refine TL.run 2 [] [(0, .slice A_l l.length c_l), (3, .pointer (some ⟨b1, 0, none⟩)), (7, .slice A_2 r3.1.length c_2), (9, .slice A_plots plots.length c_plots), (11, .pointer (some ⟨b3, 0, none⟩)), (12, .pointer (some ⟨b4, 0, none⟩)), (42, .slice A_l l.length c_l), (43, .int .i64 (l.length : Int)), (44, .int .i64 (k : Int)), (55, .bool (r4.2 == 0))] rfl ⟨by kernel_rfl, by kernel_rfl⟩ ?_
          refine TL.next rfl ?_
          refine TC.cond (r4.2 == 0) rfl (by kernel_rfl) (fun h4 => ?_) (fun h4 => ?_)
          · refine TC.seq ?_
            refine TC.seq ?_
            refine TC.region ?_
            refine TL.run 3 [1] [(0, .slice A_l l.length c_l), (3, .pointer (some ⟨b1, 0, none⟩)), (7, .slice A_2 r3.1.length c_2), (9, .slice A_plots plots.length c_plots), (12, .pointer (some ⟨b4, 0, none⟩)), (42, .slice A_l l.length c_l), (43, .int .i64 (l.length : Int)), (44, .int .i64 (k : Int)), (56, .slice A_2 r3.1.length c_2), (58, .int .i64 x.ID)] rfl ⟨by kernel_rfl, by kernel_rfl⟩ ?_
            refine TL.call (some 59) [(0, .slice A_l l.length c_l), (3, .pointer (some ⟨b1, 0, none⟩)), (7, .slice A_2 r3.1.length c_2), (9, .slice A_plots plots.length c_plots), (12, .pointer (some ⟨b4, 0, none⟩)), (42, .slice A_l l.length c_l), (43, .int .i64 (l.length : Int)), (44, .int .i64 (k : Int)), (59, .bool ((slices_Contains_int_int r3.1 x.ID)))] (fun w hM => slices_Contains_int_int_w A_2 c_2 r3.1 x.ID w (hM.rd_at 3 rfl) (hM.le_at 3 rfl)) (by kernel_rfl) (by kernel_rfl) ?_
            generalize hr5 : slices_Contains_int_int r3.1 x.ID = r5
            refine TL.run 5 [] [(0, .slice A_l l.length c_l), (3, .pointer (some ⟨b1, 0, none⟩)), (7, .slice A_2 r3.1.length c_2), (9, .slice A_plots plots.length c_plots), (12, .pointer (some ⟨b4, 0, none⟩)), (42, .slice A_l l.length c_l), (43, .int .i64 (l.length : Int)), (44, .int .i64 (k : Int)), (60, .bool (!r5))] rfl ⟨by kernel_rfl, by kernel_rfl⟩ ?_
            refine TL.next rfl ?_
            refine TC.cond (!r5) rfl (by kernel_rfl) (fun h5 => ?_) (fun h5 => ?_)
            · refine TC.seq ?_
              refine TC.region ?_
              refine TL.run 1 [] [(4, .bool false)] rfl ⟨by kernel_rfl, by kernel_rfl⟩ ?_
              refine TL.next rfl ?_
              refine TC.ret ?_
              refine TE.ret_then (TE.ret_block (TE.ret_then (TE.ret_then (TE.ret_block (TE.ret_then (TE.ret_then ?_))))))
              have e : skywaykeep2_MosaicContains l t = false := by subst hr1 hr2 hr3 hr4 hr5; unfold skywaykeep2_MosaicContains; exact cond_f h1 (cond_f h2 (elim_r (hR.symm.trans (hI.trans (by rw [hd]; exact cond_t h4 (cond_t h5 (rfl))))) rfl))
              exact TE.ret [] (.bool false) ⟨by kernel_rfl, by kernel_rfl⟩ (by rw [e]; first | done | kernel_rfl)
            · refine TC.skip ?_
              refine TE.next ?_
              refine TC.region ?_
              refine TL.run 2 [0] [(0, .slice A_l l.length c_l), (3, .pointer (some ⟨b1, 0, none⟩)), (7, .slice A_2 r3.1.length c_2), (42, .slice A_l l.length c_l), (43, .int .i64 (l.length : Int)), (44, .int .i64 (k : Int)), (61, .slice A_plots plots.length c_plots), (62, Plot.v r4.1)] rfl ⟨by kernel_rfl, by kernel_rfl⟩ ?_
              refine TL.write 0 (fun b5 => [(0, .slice A_l l.length c_l), (3, .pointer (some ⟨b1, 0, none⟩)), (7, .slice A_2 r3.1.length c_2), (42, .slice A_l l.length c_l), (43, .int .i64 (l.length : Int)), (44, .int .i64 (k : Int)), (61, .slice A_plots plots.length c_plots), (63, .slice (some ⟨b5, 0, none⟩) 1 1)]) (fun b5 => [.inl (b5, .cells (Plot.c r4.1) 36 (0, 0)), .inl (b4, .cells (Plot.c r4.1) 36 (0, 0)), .inl (b3, .cells (RadarSite.c x) 32 (0, 0)), .inr (Own A_plots c_plots 36 6 (plots.map Plot.c)), .inr (Own A_2 c_2 3 1 (r3.1.map ic)), .inl (b1, .cells (Spot.c t) 26 (0, 0))]) (fun b5 => ⟨by kernel_rfl, by kernel_rfl⟩) (fun b5 => ?_)
              refine TL.opM (Γ := Option Addr × Nat) (sV (Builtin.append_ #[34, 34] 34 #[.slice A_plots plots.length c_plots, .slice (some ⟨b5, 0, none⟩) 1 1])) (some 64) (fun g => .slice g.1 (plots ++ ([r4.1])).length g.2) (fun g => [.inl (b5, .cells (Plot.c r4.1) 36 (0, 0)), .inl (b4, .cells (Plot.c r4.1) 36 (0, 0)), .inl (b3, .cells (RadarSite.c x) 32 (0, 0)), .inr (Own g.1 g.2 36 6 ((plots ++ ([r4.1])).map Plot.c)), .inr (Own A_2 c_2 3 1 (r3.1.map ic)), .inl (b1, .cells (Spot.c t) 26 (0, 0))]) (fun g => [(0, .slice A_l l.length c_l), (3, .pointer (some ⟨b1, 0, none⟩)), (7, .slice A_2 r3.1.length c_2), (42, .slice A_l l.length c_l), (43, .int .i64 (l.length : Int)), (44, .int .i64 (k : Int)), (64, .slice g.1 ((plots ++ ([r4.1])).length) g.2)]) (app_at (bytes := 48) 34 3 ([r4.1]) (by kernel_rfl) rfl rfl Plot.one rfl (fun w hM => (Rd.lit hM 0 _ rfl (by kernel_rfl) (by kernel_rfl) (by kernel_rfl))) rfl (by have q0_ := (bne_f (or_f1 h1)); have q1_ := (bne_f (or_f2 h1)); have q2_ := (bne_f h2); have q3_ := (beq_t h4); (try have kl_ := sees_len hr3 h2); (try have kl_ := sees_len hr3 h3); first | omega | (simp <;> omega) | (simp at * <;> omega))) (by kernel_rfl) (fun g => by kernel_rfl) ?_
              rintro ⟨A_3, c_3⟩
              refine TL.run 5 [] [(0, .slice A_l l.length c_l), (3, .pointer (some ⟨b1, 0, none⟩)), (7, .slice A_2 r3.1.length c_2), (9, .slice A_3 ((plots ++ ([r4.1])).length) c_3), (42, .slice A_l l.length c_l), (43, .int .i64 (l.length : Int)), (44, .int .i64 (k : Int))] rfl ⟨by kernel_rfl, by kernel_rfl⟩ ?_
              refine TL.done rfl ?_
              refine TE.normal_block ?_
              refine TE.next ?_
              refine TC.region ?_
              refine TL.run 2 [] [(0, .slice A_l l.length c_l), (3, .pointer (some ⟨b1, 0, none⟩)), (7, .slice A_2 r3.1.length c_2), (9, .slice A_3 ((plots ++ ([r4.1])).length) c_3), (42, .slice A_l l.length c_l), (43, .int .i64 (l.length : Int)), (44, .int .i64 (w64 ((k : Int) + 1)))] rfl ⟨by kernel_rfl, by kernel_rfl⟩ ?_
              refine TL.done rfl ?_
              refine TE.rw 44 (.int .i64 (w64 ((k : Int) + 1))) (.int .i64 ((k + 1 : Nat) : Int)) (by kernel_rfl) (w64_cast k (by (try have kl_ := sees_len hr3 h2); (try have kl_ := sees_len hr3 h3); omega)) ?_
              exact TE.again (x := (k, plots, A_plots, c_plots)) (k + 1, (plots ++ ([r4.1])), A_3, c_3) ⟨by omega, hI.trans (by subst hr1 hr2 hr3 hr4 hr5; rw [hd]; exact cond_t h4 (cond_f h5 (rfl))), (by have q0_ := (bne_f (or_f1 h1)); have q1_ := (bne_f (or_f2 h1)); have q2_ := (bne_f h2); have q3_ := (beq_t h4); (try have kl_ := sees_len hr3 h2); (try have kl_ := sees_len hr3 h3); first | omega | (simp <;> omega) | (simp at * <;> omega) | (simp only [w64_eq] at *; omega) | (simp only [List.length_append, List.length_cons, List.length_nil]; omega))⟩ (by show l.length - (k + 1) < l.length - k; omega) (by kernel_rfl) (.cons _ (.cons _ (.cons _ (.cons_cons _ (.cons_cons _ (.cons_cons _ (.slnil)))))))
          · refine TC.skip ?_
            refine TE.normal_block ?_
            refine TE.next ?_
            refine TC.region ?_
            refine TL.run 2 [] [(0, .slice A_l l.length c_l), (3, .pointer (some ⟨b1, 0, none⟩)), (7, .slice A_2 r3.1.length c_2), (9, .slice A_plots plots.length c_plots), (42, .slice A_l l.length c_l), (43, .int .i64 (l.length : Int)), (44, .int .i64 (w64 ((k : Int) + 1)))] rfl ⟨by kernel_rfl, by kernel_rfl⟩ ?_
            refine TL.done rfl ?_
            refine TE.rw 44 (.int .i64 (w64 ((k : Int) + 1))) (.int .i64 ((k + 1 : Nat) : Int)) (by kernel_rfl) (w64_cast k (by (try have kl_ := sees_len hr3 h2); (try have kl_ := sees_len hr3 h3); omega)) ?_
            exact TE.again (x := (k, plots, A_plots, c_plots)) (k + 1, plots, A_plots, c_plots) ⟨by omega, hI.trans (by subst hr1 hr2 hr3 hr4; rw [hd]; exact cond_f h4 (rfl)), (by have q0_ := (bne_f (or_f1 h1)); have q1_ := (bne_f (or_f2 h1)); have q2_ := (bne_f h2); have q3_ := (beq_f h4); (try have kl_ := sees_len hr3 h2); (try have kl_ := sees_len hr3 h3); first | omega | (simp <;> omega) | (simp at * <;> omega) | (simp only [w64_eq] at *; omega) | (simp only [List.length_append, List.length_cons, List.length_nil]; omega))⟩ (by show l.length - (k + 1) < l.length - k; omega) (by kernel_rfl) (.cons _ (.cons _ (.cons_cons _ (.cons_cons _ (.cons_cons _ (.slnil))))))
        · have hd : l.drop k = [] := List.drop_eq_nil_of_le (by have := of_decide_eq_false h3; first | omega | (simp at this; omega))
          refine TC.exit ?_
          refine TE.exit_then (TE.exit_then (TE.exit_same ?_))
          exact TE.cut (plots, A_plots, c_plots) (⟨hI.trans (by subst hr1 hr2 hr3; rw [hd]; exact rfl), (by have q0_ := (bne_f (or_f1 h1)); have q1_ := (bne_f (or_f2 h1)); have q2_ := (bne_f h2); (try have kl_ := sees_len hr3 h2); (try have kl_ := sees_len hr3 h3); first | omega | (simp <;> omega) | (simp at * <;> omega) | (simp only [w64_eq] at *; omega) | (simp only [List.length_append, List.length_cons, List.length_nil]; omega))⟩) (by kernel_rfl) (.cons_cons _ (.cons_cons _ (.cons_cons _ (.slnil))))
      · rintro ⟨plots_2, A_plots_2, c_plots_2⟩ ⟨hJ, hl_plots_2⟩
        refine TE.next ?_
        refine TC.seq ?_
        refine TC.seq ?_
        refine TC.region ?_
        refine TL.run 1 [2] [(0, .slice A_l l.length c_l), (3, .pointer (some ⟨b1, 0, none⟩)), (7, .slice A_2 r3.1.length c_2), (9, .slice A_plots_2 plots_2.length c_plots_2), (66, Spot.v t)] rfl ⟨by kernel_rfl, by kernel_rfl⟩ ?_
        refine TL.call (some 67) [(0, .slice A_l l.length c_l), (3, .pointer (some ⟨b1, 0, none⟩)), (7, .slice A_2 r3.1.length c_2), (9, .slice A_plots_2 plots_2.length c_plots_2), (67, .int .i64 (radar_CheckSpot t))] (fun w _ => radar_CheckSpot_w t w) (by kernel_rfl) (by kernel_rfl) ?_
        generalize hr6 : radar_CheckSpot t = r6
        refine TL.run 4 [] [(0, .slice A_l l.length c_l), (3, .pointer (some ⟨b1, 0, none⟩)), (7, .slice A_2 r3.1.length c_2), (9, .slice A_plots_2 plots_2.length c_plots_2), (69, .bool (r6 == 0))] rfl ⟨by kernel_rfl, by kernel_rfl⟩ ?_
        refine TL.join 69 (r6 == 0) 10 [] [] (fun β => [(0, .slice A_l l.length c_l), (3, .pointer (some ⟨b1, 0, none⟩)), (9, .slice A_plots_2 plots_2.length c_plots_2), (75, .bool (β && ((plots_2.length : Int) != (r3.1.length : Int))))]) (by kernel_rfl) rfl ⟨by kernel_rfl, by kernel_rfl⟩ ⟨by kernel_rfl, by kernel_rfl⟩ ?_
        refine TL.next rfl ?_
        refine TC.cond ((r6 == 0) && ((plots_2.length : Int) != (r3.1.length : Int))) rfl (by kernel_rfl) (fun h6 => ?_) (fun h6 => ?_)
        · refine TC.seq ?_
          refine TC.region ?_
          refine TL.run 1 [] [(4, .bool false)] rfl ⟨by kernel_rfl, by kernel_rfl⟩ ?_
          refine TL.next rfl ?_
          refine TC.ret ?_
          refine TE.ret_then ?_
          have e : skywaykeep2_MosaicContains l t = false := by subst hr1 hr2 hr3 hr6; unfold skywaykeep2_MosaicContains; exact cond_f h1 (cond_f h2 (elim_l (hR.symm.trans hJ) (cond_t h6 (rfl))))
          exact TE.ret [] (.bool false) ⟨by kernel_rfl, by kernel_rfl⟩ (by rw [e]; first | done | kernel_rfl)
        · refine TC.skip ?_
          refine TE.next ?_
          refine TC.seq ?_
          refine TC.region ?_
          refine TL.run 2 [] [(3, .pointer (some ⟨b1, 0, none⟩)), (9, .slice A_plots_2 plots_2.length c_plots_2), (77, .slice A_l l.length c_l), (78, .slice A_plots_2 plots_2.length c_plots_2)] rfl ⟨by kernel_rfl, by kernel_rfl⟩ ?_
          refine TL.callN (Γ := (Option Addr × Nat)) (fun g => .tuple #[.slice g.1 (((mosaic_Spots l plots_2).1).length) g.2, .int .i64 ((mosaic_Spots l plots_2).2)]) (fun g => [.inr (Own g.1 g.2 26 6 (((mosaic_Spots l plots_2).1).map Spot.c))]) (fun g => [.inr (Own g.1 g.2 26 6 (((mosaic_Spots l plots_2).1).map Spot.c)), .inr (Own A_plots_2 c_plots_2 36 6 (plots_2.map Plot.c)), .inr (Own A_2 c_2 3 1 (r3.1.map ic)), .inl (b1, .cells (Spot.c t) 26 (0, 0))]) (fun g => rfl) (some 79) (fun g => [(3, .pointer (some ⟨b1, 0, none⟩)), (9, .slice A_plots_2 plots_2.length c_plots_2), (79, .tuple #[.slice g.1 (((mosaic_Spots l plots_2).1).length) g.2, .int .i64 ((mosaic_Spots l plots_2).2)])]) (fun w hM => mosaic_Spots_w A_l c_l l A_plots_2 c_plots_2 plots_2 w (h_l.sat hM) hc_l (hM.rd_at 0 rfl) (hM.le_at 0 rfl) (hT.sat hM)) (by kernel_rfl) (fun g => by kernel_rfl) ?_
          rintro ⟨A_4, c_4⟩
          generalize hr7 : mosaic_Spots l plots_2 = r7
          refine TL.know (fun w hM => hM.short_at 0 rfl) (fun s_r7_0 => ?_)
          refine TL.run 8 [] [(3, .pointer (some ⟨b1, 0, none⟩)), (9, .slice A_plots_2 plots_2.length c_plots_2), (14, .slice A_4 r7.1.length c_4), (15, .int .i64 r7.2)] rfl ⟨by kernel_rfl, by kernel_rfl⟩ ?_
          refine TL.next rfl ?_
          refine TC.seq ?_
          refine TC.region ?_
          refine TL.run 3 [] [(3, .pointer (some ⟨b1, 0, none⟩)), (9, .slice A_plots_2 plots_2.length c_plots_2), (14, .slice A_4 r7.1.length c_4), (84, .bool (r7.2 == 0))] rfl ⟨by kernel_rfl, by kernel_rfl⟩ ?_
          refine TL.join 84 (r7.2 == 0) 9 [] [] (fun β => [(3, .pointer (some ⟨b1, 0, none⟩)), (14, .slice A_4 r7.1.length c_4), (90, .bool (β && (decide ((r7.1.length : Int) ≤ (plots_2.length : Int)))))]) (by kernel_rfl) rfl ⟨by kernel_rfl, by kernel_rfl⟩ ⟨by kernel_rfl, by kernel_rfl⟩ ?_
          refine TL.run 10 [] [(3, .pointer (some ⟨b1, 0, none⟩)), (14, .slice A_4 r7.1.length c_4), (91, .bool ((r7.2 == 0) && (decide ((r7.1.length : Int) ≤ (plots_2.length : Int)))))] rfl ⟨by kernel_rfl, by kernel_rfl⟩ ?_
          refine TL.split 91 ((r7.2 == 0) && (decide ((r7.1.length : Int) ≤ (plots_2.length : Int)))) (by kernel_rfl) (fun h7 => ?_) (fun h7 => ?_)
          · refine TL.run 12 [] [(91, .bool true), (92, .slice A_4 r7.1.length c_4), (93, .func (.func 11) #[] #[.pointer (some ⟨b1, 0, none⟩)])] rfl ⟨by kernel_rfl, by kernel_rfl⟩ ?_
            refine TL.call (some 94) [(91, .bool true), (94, .bool ((ContainsFunc_far r7.1 t)))] (fun w hM => ContainsFunc_far_w A_4 c_4 r7.1 ⟨b1, 0, none⟩ t w (hM.rd_at 0 rfl) (hM.le_at 0 rfl) (Rd.lit hM 3 _ rfl (by kernel_rfl) (by kernel_rfl) (by kernel_rfl))) (by kernel_rfl) (by kernel_rfl) ?_
            generalize hr8 : ContainsFunc_far r7.1 t = r8
            refine TL.run 16 [] [(4, .bool (!r8))] rfl ⟨by kernel_rfl, by kernel_rfl⟩ ?_
            refine TL.next rfl ?_
            refine TC.ret ?_
            have e : skywaykeep2_MosaicContains l t = (!r8) := by subst hr1 hr2 hr3 hr6 hr7 hr8; unfold skywaykeep2_MosaicContains; exact cond_f h1 (cond_f h2 (elim_l (hR.symm.trans hJ) (cond_f h6 (cond_t h7 (rfl)))))
            exact TE.ret [] (.bool (!r8)) ⟨by kernel_rfl, by kernel_rfl⟩ (by rw [e]; first | done | kernel_rfl)
          · refine TL.run 16 [] [(4, .bool false)] rfl ⟨by kernel_rfl, by kernel_rfl⟩ ?_
            refine TL.next rfl ?_
            refine TC.ret ?_
            have e : skywaykeep2_MosaicContains l t = false := by subst hr1 hr2 hr3 hr6 hr7; unfold skywaykeep2_MosaicContains; exact cond_f h1 (cond_f h2 (elim_l (hR.symm.trans hJ) (cond_f h6 (cond_f h7 (rfl)))))
            exact TE.ret [] (.bool false) ⟨by kernel_rfl, by kernel_rfl⟩ (by rw [e]; first | done | kernel_rfl)

end Go.Sky
