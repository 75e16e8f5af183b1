/- Functions of the program, each with the Lean function that it computes. Conditions: none. -/
import Derived.Test.YtfjchccilkgcnaaMb
namespace Go.Sky
open Go Go.Eng Go.Proofs
open Go.Srt
def slices_Grow_api_Plot_api_Plot (n : Int) : List Plot :=
  cond (decide (n < 0)) (
    []) (
    cond (decide ((w64 (n - (w64 (0 - 0)))) > 0)) (
      ([] : List Plot)) (
      []))

set_option maxRecDepth 100000 in
theorem slices_Grow_api_Plot_api_Plot_w (n : Int) (w : World) (hn : 0 ≤ n ∧ n ≤ 1000000) : Calls Try.prog 71 #[.slice none 0 0, .int .i64 n] w (RetM (Γ := (Option Addr × Nat)) (cx w) (fun g => .slice g.1 ((slices_Grow_api_Plot_api_Plot n).length) g.2) (fun g => [.inr (Own g.1 g.2 58 6 ((slices_Grow_api_Plot_api_Plot n).map Plot.c))])) := by
  refine calls_intro (vs := [.slice none 0 0, .int .i64 n]) (w := w) Try.func71 rfl Try.ntmps71 rfl ?_
  refine TC.weak [(0, .slice none 0 0), (1, .int .i64 n)] (by kernel_rfl) ?_
  refine TC.seq ?_
  refine TC.region ?_
  refine TL.run 1 [] [(0, .slice none 0 0), (1, .int .i64 n)] rfl ⟨by kernel_rfl, by kernel_rfl⟩ ?_
  refine TL.next rfl ?_
  refine TC.seq ?_
  refine TC.seq ?_
  refine TC.region ?_
  refine TL.run 2 [] [(0, .slice none 0 0), (1, .int .i64 n), (6, .bool (decide (n < 0)))] rfl ⟨by kernel_rfl, by kernel_rfl⟩ ?_
  refine TL.next rfl ?_
  refine TC.cond (decide (n < 0)) rfl (by kernel_rfl) (fun h1 => ?_) (fun h1 => ?_)
  · exact ((by have := dec_t h1; omega) : False).elim
  · refine TC.skip ?_
    refine TE.next ?_
    refine TC.seq ?_
    refine TC.seq ?_
    refine TC.region ?_
    refine TL.run 8 [] [(0, .slice none 0 0), (1, .int .i64 (w64 (n - (w64 (0 - 0)))))] rfl ⟨by kernel_rfl, by kernel_rfl⟩ ?_
    refine TL.next rfl ?_
    refine TC.seq ?_
    refine TC.region ?_
    refine TL.run 2 [] [(0, .slice none 0 0), (1, .int .i64 (w64 (n - (w64 (0 - 0))))), (16, .bool (decide ((w64 (n - (w64 (0 - 0)))) > 0)))] rfl ⟨by kernel_rfl, by kernel_rfl⟩ ?_
    refine TL.next rfl ?_
    refine TC.cond (decide ((w64 (n - (w64 (0 - 0)))) > 0)) rfl (by kernel_rfl) (fun h2 => ?_) (fun h2 => ?_)
    · refine TC.region ?_
      refine TL.run 3 [] [(0, .slice none 0 0), (1, .int .i64 (w64 (n - (w64 (0 - 0))))), (17, .slice none 0 0), (19, .int .i64 0)] rfl ⟨by kernel_rfl, by kernel_rfl⟩ ?_
      refine TL.val (sV (Instr.sliceAt 41 (.slice none 0 0) none (some (.int .i64 0)) none)) (some 20) (.slice none 0 0) [(0, .slice none 0 0), (1, .int .i64 (w64 (n - (w64 (0 - 0))))), (20, .slice none 0 0)] (fun w hM => (run_slice (sz := 6) 0 0 (by kernel_rfl) (.inl ⟨rfl, rfl⟩) (.inr ⟨_, _, rfl, (by decide), rfl⟩) (Nat.le_refl _) (Nat.zero_le _)).trans (by rfl)) (by kernel_rfl) (by kernel_rfl) ?_
      refine TL.run 5 [] [(0, .slice none 0 0), (20, .slice none 0 0), (21, .int .i64 (w64 (n - (w64 (0 - 0)))))] rfl ⟨by kernel_rfl, by kernel_rfl⟩ ?_
      refine TL.rw 21 (.int .i64 (w64 (n - (w64 (0 - 0))))) (.int .i64 (((w64 (n - (w64 (0 - 0)))).toNat : Nat) : Int)) (by kernel_rfl) (int_eq (Int.toNat_of_nonneg (by have q0_ := (dec_f h1); have q1_ := (dec_t h2); first | omega | (rw [List.length_set]; omega) | (rw [w64_id (by omega)]; omega) | (dsimp only; omega) | (rw [List.length_drop]; omega) | (simp only [w64_eq]; omega) | (simp only [List.length_take] at *; omega) | (simp <;> omega))).symm) ?_
      refine TL.opM (Γ := Option Addr × Nat) (sV (Builtin.append_ #[41, 3] 41 #[.slice none 0 0, .int .i64 (((w64 (n - (w64 (0 - 0)))).toNat : Nat) : Int)])) (some 22) (fun g => .slice g.1 ((w64 (n - (w64 (0 - 0)))).toNat) g.2) (fun g => [.inr (Own g.1 g.2 58 6 (([] : List Plot).map Plot.c))]) (fun g => [(0, .slice none 0 0), (22, .slice g.1 ((w64 (n - (w64 (0 - 0)))).toNat) g.2)]) (appnum_nil (c := Plot.c) (bytes := 48) 41 ((w64 (n - (w64 (0 - 0)))).toNat) (by kernel_rfl) rfl (by kernel_rfl) (by have q0_ := (dec_f h1); have q1_ := (dec_t h2); first | omega | (rw [List.length_set]; omega) | (rw [w64_id (by omega)]; omega) | (dsimp only; omega) | (rw [List.length_drop]; omega) | (simp only [w64_eq]; omega) | (simp only [List.length_take] at *; omega) | (simp <;> omega)) (by have q0_ := (dec_f h1); have q1_ := (dec_t h2); first | omega | (rw [List.length_set]; omega) | (rw [w64_id (by omega)]; omega) | (dsimp only; omega) | (rw [List.length_drop]; omega) | (simp only [w64_eq]; omega) | (simp only [List.length_take] at *; omega) | (simp <;> omega))) (by kernel_rfl) (fun g => by kernel_rfl) ?_
      rintro ⟨A, c⟩
      refine TL.run 8 [] [(22, .slice A ((w64 (n - (w64 (0 - 0)))).toNat) c), (24, .int .i64 0)] rfl ⟨by kernel_rfl, by kernel_rfl⟩ ?_
      refine TL.val (sV (Instr.sliceAt 41 (.slice A ((w64 (n - (w64 (0 - 0)))).toNat) c) none (some (.int .i64 0)) none)) (some 25) (.slice A 0 c) [(25, .slice A 0 c)] (fun w hM => (run_slice (sz := 6) 0 0 (by kernel_rfl) (.inl ⟨rfl, rfl⟩) (.inr ⟨_, _, rfl, (by decide), rfl⟩) (Nat.le_refl _) (Nat.zero_le _)).trans (by rw [cut0]; rfl)) (by kernel_rfl) (by kernel_rfl) ?_
      refine TL.run 10 [] [(0, .slice A 0 c)] rfl ⟨by kernel_rfl, by kernel_rfl⟩ ?_
      refine TL.next rfl ?_
      refine TC.seq ?_
      refine TC.region ?_
      refine TL.run 2 [] [(4, .slice A 0 c)] rfl ⟨by kernel_rfl, by kernel_rfl⟩ ?_
      refine TL.next rfl ?_
      refine TC.ret ?_
      have e : slices_Grow_api_Plot_api_Plot n = ([] : List Plot) := by unfold slices_Grow_api_Plot_api_Plot; exact cond_f h1 (cond_t h2 (rfl))
      rw [e]
      exact TE.retM (.inl rfl) (A, c) [] (.slice A 0 c) ⟨by kernel_rfl, by kernel_rfl⟩ rfl (fun _ hM => hM.sub (.cons_cons _ (.slnil)))
    · refine TC.skip ?_
      refine TE.next ?_
      refine TC.seq ?_
      refine TC.region ?_
      refine TL.run 2 [] [(4, .slice none 0 0)] rfl ⟨by kernel_rfl, by kernel_rfl⟩ ?_
      refine TL.next rfl ?_
      refine TC.ret ?_
      have e : slices_Grow_api_Plot_api_Plot n = ([]) := by unfold slices_Grow_api_Plot_api_Plot; exact cond_f h1 (cond_f h2 (rfl))
      refine TE.conv [.inr (Own none 0 58 6 (([] : List Plot).map Plot.c))] (fun _ hM => hM.emptyrow none 58 6) ?_
      rw [e]
      exact TE.retM (.inl rfl) (none, 0) [] (.slice none 0 0) ⟨by kernel_rfl, by kernel_rfl⟩ rfl (fun _ hM => hM.sub (.cons_cons _ (.slnil)))

def slices_Concat_api_Plot_api_Plot_L1 : List (List Plot) → Nat → Int → Int
  | [], _, size => size
  | x :: xs, k, size => cond (decide ((w64 (size + (x.length : Int))) < 0)) (
      default) (
      slices_Concat_api_Plot_api_Plot_L1 xs (k + 1) (w64 (size + (x.length : Int))))
def slices_Concat_api_Plot_api_Plot_L2 : List (List Plot) → Nat → (List Plot) → (List Plot)
  | [], _, newslice => newslice
  | x_2 :: xs, k_2, newslice => slices_Concat_api_Plot_api_Plot_L2 xs (k_2 + 1) (newslice ++ x_2)
def slices_Concat_api_Plot_api_Plot (slices : List (List Plot)) : List Plot :=
  bindv (slices_Concat_api_Plot_api_Plot_L1 slices 0 0) (fun size_2 =>
    let r1 := slices_Grow_api_Plot_api_Plot size_2
    bindv (slices_Concat_api_Plot_api_Plot_L2 slices 0 r1) (fun newslice_2 =>
      newslice_2))

theorem grow_len {n : Int} {r : List Plot} (h : slices_Grow_api_Plot_api_Plot n = r) : r.length = 0 := by
  subst h
  unfold slices_Grow_api_Plot_api_Plot
  cases decide (n < 0) <;> cases decide (w64 (n - (w64 (0 - 0))) > 0) <;> rfl

set_option maxRecDepth 100000 in
theorem slices_Concat_api_Plot_api_Plot_w (A_slices : Option Addr) (c_slices : Nat) (slices : List (List Plot)) (o_slices : List (Sl Plot)) (w : World) (h_slices : Rd w 1 A_slices (o_slices.map Sl.c)) (_hc_slices : slices.length ≤ c_slices) (hd_slices : ∀ s ∈ o_slices, s.rd w 6 Plot.c) (he_slices : slices = o_slices.map Sl.l) (hp : slices.length ≤ 2 ∧ ∀ s ∈ slices, s.length ≤ 100000) : Calls Try.prog 36 #[.slice A_slices slices.length c_slices] w (RetM (Γ := (Option Addr × Nat)) (cx w) (fun g => .slice g.1 ((slices_Concat_api_Plot_api_Plot slices).length) g.2) (fun g => [.inr (Own g.1 g.2 58 6 ((slices_Concat_api_Plot_api_Plot slices).map Plot.c))])) := by
  have s_slices := h_slices.short; rw [← sl_len he_slices] at s_slices
  refine calls_intro (vs := [.slice A_slices slices.length c_slices]) (w := w) Try.func36 rfl Try.ntmps36 rfl ?_
  refine TC.weak [(0, .slice A_slices slices.length c_slices)] (by kernel_rfl) ?_
  refine TC.seq ?_
  refine TC.region ?_
  refine TL.run 1 [] [(0, .slice A_slices slices.length c_slices)] rfl ⟨by kernel_rfl, by kernel_rfl⟩ ?_
  refine TL.next rfl ?_
  refine TC.seq ?_
  refine TC.region ?_
  refine TL.run 1 [] [(0, .slice A_slices slices.length c_slices), (3, .int .i64 0)] rfl ⟨by kernel_rfl, by kernel_rfl⟩ ?_
  refine TL.next rfl ?_
  refine TC.seq ?_
  refine TC.seq ?_
  refine TC.region ?_
  refine TL.run 3 [] [(0, .slice A_slices slices.length c_slices), (3, .int .i64 0), (9, .slice A_slices slices.length c_slices), (10, .int .i64 (slices.length : Int)), (11, .int .i64 0)] rfl ⟨by kernel_rfl, by kernel_rfl⟩ ?_
  refine TL.next rfl ?_
  refine TC.weak [(0, .slice A_slices slices.length c_slices), (3, .int .i64 0), (9, .slice A_slices slices.length c_slices), (10, .int .i64 (slices.length : Int)), (11, .int .i64 0)] (by kernel_rfl) ?_
  obtain ⟨R1, hR⟩ : ∃ R, R = slices_Concat_api_Plot_api_Plot_L1 slices 0 0 := ⟨_, rfl⟩
  refine TC.cut (S := Int) (fun size_2 => [(0, .slice A_slices slices.length c_slices), (3, .int .i64 size_2)]) (fun size_2 => []) (fun size_2 => R1 = size_2 ∧ (0 ≤ size_2 ∧ size_2 ≤ 200000)) ?_ ?_
  · refine TC.block ?_
    refine TC.loop (X := Nat × Int) (fun (k, size) => [(0, .slice A_slices slices.length c_slices), (3, .int .i64 size), (9, .slice A_slices slices.length c_slices), (10, .int .i64 (slices.length : Int)), (11, .int .i64 (k : Int))]) (fun (k, size) => []) (fun (k, size) => slices.length - k) (fun (k, size) => k ≤ slices.length ∧ R1 = slices_Concat_api_Plot_api_Plot_L1 (slices.drop k) k size ∧ (0 ≤ size ∧ size ≤ 100000 * (k : Int))) ?_ (0, 0) ⟨Nat.zero_le _, hR, (by first | omega | (simp; omega) | simp)⟩
    rintro ⟨k, size⟩ ⟨hk, hI, hl_iv0⟩
    refine TC.seq ?_
    refine TC.region ?_
    refine TL.run 1 [] [(0, .slice A_slices slices.length c_slices), (3, .int .i64 size), (9, .slice A_slices slices.length c_slices), (10, .int .i64 (slices.length : Int)), (11, .int .i64 (k : Int)), (12, .bool (decide ((k : Int) < (slices.length : Int))))] rfl ⟨by kernel_rfl, by kernel_rfl⟩ ?_
    refine TL.next rfl ?_
    refine TC.seq ?_
    refine TC.cond (decide ((k : Int) < (slices.length : Int))) rfl (by kernel_rfl) (fun h1 => ?_) (fun h1 => ?_)
    · have hlt : k < slices.length := by have := of_decide_eq_true h1; first | omega | (simp at this; omega)
      obtain ⟨x, hx⟩ : ∃ e_, slices[k]? = some e_ := ⟨_, List.getElem?_eq_getElem hlt⟩
      have hd := drop_at hx
      refine TC.skip ?_
      refine TE.next ?_
      refine TC.seq ?_
      refine TC.block ?_
      refine TC.seq ?_
      refine TC.region ?_
      refine TL.val (sV (Instr.indexAt 65 (.slice A_slices slices.length c_slices) (.int .i64 (k : Int)))) (some 13) (.pointer (some ((A_slices.getD noAddr).add (k * 1)))) [(0, .slice A_slices slices.length c_slices), (3, .int .i64 size), (9, .slice A_slices slices.length c_slices), (10, .int .i64 (slices.length : Int)), (11, .int .i64 (k : Int)), (13, .pointer (some ((A_slices.getD noAddr).add (k * 1))))] (fun w hM => run_index (h_slices.sat hM) (sl_len he_slices) (by kernel_rfl) (by have kp_ := hp.1; (try have kg_ := grow_len hr1); (try have kx_ := hp.2 _ (List.mem_of_getElem? hx)); (try have kx_ := hp.2 _ (List.mem_of_getElem? hx_2)); first | omega | (rw [List.length_set]; omega) | (rw [w64_id (by omega)]; omega) | (dsimp only; omega) | (rw [List.length_drop]; omega) | (simp only [w64_eq]; omega) | (simp only [List.length_take] at *; omega) | (simp <;> omega)) (by have kp_ := hp.1; (try have kg_ := grow_len hr1); (try have kx_ := hp.2 _ (List.mem_of_getElem? hx)); (try have kx_ := hp.2 _ (List.mem_of_getElem? hx_2)); first | omega | (rw [List.length_set]; omega) | (rw [w64_id (by omega)]; omega) | (dsimp only; omega) | (rw [List.length_drop]; omega) | (simp only [w64_eq]; omega) | (simp only [List.length_take] at *; omega) | (simp <;> omega))) (by kernel_rfl) (by kernel_rfl) ?_
      have s_s1 := (el_rd (sl_all hd_slices k) (sl_at he_slices hx)).short; rw [List.length_map] at s_s1
      refine TL.val (sV (Instr.loadAt 41 (.pointer (some ((A_slices.getD noAddr).add (k * 1)))))) (some 14) (.slice ((o_slices[k]?.getD Sl.zero).A) x.length ((o_slices[k]?.getD Sl.zero).cap)) [(0, .slice A_slices slices.length c_slices), (3, .int .i64 size), (9, .slice A_slices slices.length c_slices), (10, .int .i64 (slices.length : Int)), (11, .int .i64 (k : Int)), (14, .slice ((o_slices[k]?.getD Sl.zero).A) x.length ((o_slices[k]?.getD Sl.zero).cap))] (fun w hM => (by have h := run_load_one (P := Try.prog) (T := 41) (off := 0) (i := k) (.slice (o_slices[k]?.getD Sl.zero).A (o_slices[k]?.getD Sl.zero).l.length (o_slices[k]?.getD Sl.zero).cap) (h_slices.sat hM) (map_at (getD_at _ _ Sl.zero (sl_lt he_slices (List.getElem?_eq_some_iff.1 hx).1))) (by kernel_rfl) (by kernel_rfl); rw [(sl_at he_slices hx)] at h; exact h)) (by kernel_rfl) (by kernel_rfl) ?_
      refine TL.run 3 [] [(0, .slice A_slices slices.length c_slices), (3, .int .i64 size), (5, .slice ((o_slices[k]?.getD Sl.zero).A) x.length ((o_slices[k]?.getD Sl.zero).cap)), (9, .slice A_slices slices.length c_slices), (10, .int .i64 (slices.length : Int)), (11, .int .i64 (k : Int))] rfl ⟨by kernel_rfl, by kernel_rfl⟩ ?_
      refine TL.next rfl ?_
      refine TC.seq ?_
      refine TC.region ?_
      refine TL.run 5 [] [(0, .slice A_slices slices.length c_slices), (3, .int .i64 (w64 (size + (x.length : Int)))), (9, .slice A_slices slices.length c_slices), (10, .int .i64 (slices.length : Int)), (11, .int .i64 (k : Int))] rfl ⟨by kernel_rfl, by kernel_rfl⟩ ?_
      refine TL.next rfl ?_
      refine TC.seq ?_
      refine TC.region ?_
      refine TL.run 2 [] [(0, .slice A_slices slices.length c_slices), (3, .int .i64 (w64 (size + (x.length : Int)))), (9, .slice A_slices slices.length c_slices), (10, .int .i64 (slices.length : Int)), (11, .int .i64 (k : Int)), (20, .bool (decide ((w64 (size + (x.length : Int))) < 0)))] rfl ⟨by kernel_rfl, by kernel_rfl⟩ ?_
      refine TL.next rfl ?_
      refine TC.cond (decide ((w64 (size + (x.length : Int))) < 0)) rfl (by kernel_rfl) (fun h2 => ?_) (fun h2 => ?_)
      · exact ((by have kx_ := hp.2 _ (List.mem_of_getElem? hx); have h_ := dec_t h2; have := hp.1; rw [w64_id (by omega)] at h_; omega) : False).elim
      · refine TC.skip ?_
        refine TE.normal_block ?_
        refine TE.next ?_
        refine TC.region ?_
        refine TL.run 2 [] [(0, .slice A_slices slices.length c_slices), (3, .int .i64 (w64 (size + (x.length : Int)))), (9, .slice A_slices slices.length c_slices), (10, .int .i64 (slices.length : Int)), (11, .int .i64 (w64 ((k : Int) + 1)))] rfl ⟨by kernel_rfl, by kernel_rfl⟩ ?_
        refine TL.done rfl ?_
        refine TE.rw 11 (.int .i64 (w64 ((k : Int) + 1))) (.int .i64 ((k + 1 : Nat) : Int)) (by kernel_rfl) (w64_cast k (by have kp_ := hp.1; (try have kg_ := grow_len hr1); (try have kx_ := hp.2 _ (List.mem_of_getElem? hx)); (try have kx_ := hp.2 _ (List.mem_of_getElem? hx_2)); omega)) ?_
        exact TE.again (x := (k, size)) (k + 1, w64 (size + (x.length : Int))) ⟨by omega, hI.trans (by rw [hd]; exact cond_f h2 (rfl)), (by have q0_ := (dec_f h2); have kp_ := hp.1; (try have kg_ := grow_len hr1); (try have kx_ := hp.2 _ (List.mem_of_getElem? hx)); (try have kx_ := hp.2 _ (List.mem_of_getElem? hx_2)); first | omega | (simp <;> omega) | (simp at * <;> omega) | (simp only [w64_eq] at *; omega) | (simp only [List.length_append, List.length_cons, List.length_nil]; omega))⟩ (by show slices.length - (k + 1) < slices.length - k; omega) (by kernel_rfl) (.slnil)
    · have hd : slices.drop k = [] := List.drop_eq_nil_of_le (by have := of_decide_eq_false h1; first | omega | (simp at this; omega))
      refine TC.exit ?_
      refine TE.exit_then (TE.exit_then (TE.exit_same ?_))
      exact TE.cut size (⟨hI.trans (by rw [hd]; exact rfl), (by have kp_ := hp.1; (try have kg_ := grow_len hr1); (try have kx_ := hp.2 _ (List.mem_of_getElem? hx)); (try have kx_ := hp.2 _ (List.mem_of_getElem? hx_2)); first | omega | (simp <;> omega) | (simp at * <;> omega) | (simp only [w64_eq] at *; omega) | (simp only [List.length_append, List.length_cons, List.length_nil]; omega))⟩) (by kernel_rfl) (.slnil)
  · rintro size_2 ⟨hJ, hl_ov0_0⟩
    refine TE.next ?_
    refine TC.seq ?_
    refine TC.region ?_
    refine TL.run 1 [] [(0, .slice A_slices slices.length c_slices), (23, .int .i64 size_2)] rfl ⟨by kernel_rfl, by kernel_rfl⟩ ?_
    refine TL.callN (Γ := (Option Addr × Nat)) (fun g => .slice g.1 ((slices_Grow_api_Plot_api_Plot size_2).length) g.2) (fun g => [.inr (Own g.1 g.2 58 6 ((slices_Grow_api_Plot_api_Plot size_2).map Plot.c))]) (fun g => [.inr (Own g.1 g.2 58 6 ((slices_Grow_api_Plot_api_Plot size_2).map Plot.c))]) (fun g => rfl) (some 24) (fun g => [(0, .slice A_slices slices.length c_slices), (24, .slice g.1 ((slices_Grow_api_Plot_api_Plot size_2).length) g.2)]) (fun w _ => slices_Grow_api_Plot_api_Plot_w size_2 w (by have kp_ := hp.1; (try have kg_ := grow_len hr1); (try have kx_ := hp.2 _ (List.mem_of_getElem? hx)); (try have kx_ := hp.2 _ (List.mem_of_getElem? hx_2)); first | omega | (simp only [w64_eq]; omega) | (simp <;> omega))) (by kernel_rfl) (fun g => by kernel_rfl) ?_
    rintro ⟨A, c⟩
    generalize hr1 : slices_Grow_api_Plot_api_Plot size_2 = r1
    refine TL.know (fun w hM => hM.short_at 0 rfl) (fun s_r1_0 => ?_)
    refine TL.run 3 [] [(0, .slice A_slices slices.length c_slices), (6, .slice A r1.length c)] rfl ⟨by kernel_rfl, by kernel_rfl⟩ ?_
    refine TL.next rfl ?_
    refine TC.seq ?_
    refine TC.seq ?_
    refine TC.region ?_
    refine TL.run 3 [] [(6, .slice A r1.length c), (25, .slice A_slices slices.length c_slices), (26, .int .i64 (slices.length : Int)), (27, .int .i64 0)] rfl ⟨by kernel_rfl, by kernel_rfl⟩ ?_
    refine TL.next rfl ?_
    refine TC.weak [(6, .slice A r1.length c), (25, .slice A_slices slices.length c_slices), (26, .int .i64 (slices.length : Int)), (27, .int .i64 0)] (by kernel_rfl) ?_
    obtain ⟨R2, hR_2⟩ : ∃ R, R = slices_Concat_api_Plot_api_Plot_L2 slices 0 r1 := ⟨_, rfl⟩
    refine TC.cut (S := (List Plot) × (Option Addr) × Nat) (fun (newslice_2, A_newslice_2, c_newslice_2) => [(6, .slice A_newslice_2 newslice_2.length c_newslice_2)]) (fun (newslice_2, A_newslice_2, c_newslice_2) => [.inr (Own A_newslice_2 c_newslice_2 58 6 (newslice_2.map Plot.c))]) (fun (newslice_2, A_newslice_2, c_newslice_2) => R2 = newslice_2 ∧ newslice_2.length ≤ r1.length + 100000 * slices.length) ?_ ?_
    · refine TC.block ?_
      refine TC.loop (X := Nat × (List Plot) × (Option Addr) × Nat) (fun (k_2, newslice, A_newslice, c_newslice) => [(6, .slice A_newslice newslice.length c_newslice), (25, .slice A_slices slices.length c_slices), (26, .int .i64 (slices.length : Int)), (27, .int .i64 (k_2 : Int))]) (fun (k_2, newslice, A_newslice, c_newslice) => [.inr (Own A_newslice c_newslice 58 6 (newslice.map Plot.c))]) (fun (k_2, newslice, A_newslice, c_newslice) => slices.length - k_2) (fun (k_2, newslice, A_newslice, c_newslice) => k_2 ≤ slices.length ∧ R2 = slices_Concat_api_Plot_api_Plot_L2 (slices.drop k_2) k_2 newslice ∧ newslice.length ≤ r1.length + 100000 * k_2) ?_ (0, r1, A, c) ⟨Nat.zero_le _, hR_2, (by first | omega | (simp; omega) | simp)⟩
      rintro ⟨k_2, newslice, A_newslice, c_newslice⟩ ⟨hk_2, hI_2, hl_newslice⟩
      refine TC.seq ?_
      refine TC.region ?_
      refine TL.run 1 [] [(6, .slice A_newslice newslice.length c_newslice), (25, .slice A_slices slices.length c_slices), (26, .int .i64 (slices.length : Int)), (27, .int .i64 (k_2 : Int)), (28, .bool (decide ((k_2 : Int) < (slices.length : Int))))] rfl ⟨by kernel_rfl, by kernel_rfl⟩ ?_
      refine TL.next rfl ?_
      refine TC.seq ?_
      refine TC.cond (decide ((k_2 : Int) < (slices.length : Int))) rfl (by kernel_rfl) (fun h3 => ?_) (fun h3 => ?_)
      · have hlt_2 : k_2 < slices.length := by have := of_decide_eq_true h3; first | omega | (simp at this; omega)
        obtain ⟨x_2, hx_2⟩ : ∃ e_, slices[k_2]? = some e_ := ⟨_, List.getElem?_eq_getElem hlt_2⟩
        have hd_2 := drop_at hx_2
        refine TC.skip ?_
        refine TE.next ?_
        refine TC.seq ?_
        refine TC.block ?_
        refine TC.seq ?_
        refine TC.region ?_
        refine TL.val (sV (Instr.indexAt 65 (.slice A_slices slices.length c_slices) (.int .i64 (k_2 : Int)))) (some 29) (.pointer (some ((A_slices.getD noAddr).add (k_2 * 1)))) [(6, .slice A_newslice newslice.length c_newslice), (25, .slice A_slices slices.length c_slices), (26, .int .i64 (slices.length : Int)), (27, .int .i64 (k_2 : Int)), (29, .pointer (some ((A_slices.getD noAddr).add (k_2 * 1))))] (fun w hM => run_index (h_slices.sat hM) (sl_len he_slices) (by kernel_rfl) (by have kp_ := hp.1; (try have kg_ := grow_len hr1); (try have kx_ := hp.2 _ (List.mem_of_getElem? hx)); (try have kx_ := hp.2 _ (List.mem_of_getElem? hx_2)); first | omega | (rw [List.length_set]; omega) | (rw [w64_id (by omega)]; omega) | (dsimp only; omega) | (rw [List.length_drop]; omega) | (simp only [w64_eq]; omega) | (simp only [List.length_take] at *; omega) | (simp <;> omega)) (by have kp_ := hp.1; (try have kg_ := grow_len hr1); (try have kx_ := hp.2 _ (List.mem_of_getElem? hx)); (try have kx_ := hp.2 _ (List.mem_of_getElem? hx_2)); first | omega | (rw [List.length_set]; omega) | (rw [w64_id (by omega)]; omega) | (dsimp only; omega) | (rw [List.length_drop]; omega) | (simp only [w64_eq]; omega) | (simp only [List.length_take] at *; omega) | (simp <;> omega))) (by kernel_rfl) (by kernel_rfl) ?_
        have s_s2 := (el_rd (sl_all hd_slices k_2) (sl_at he_slices hx_2)).short; rw [List.length_map] at s_s2
        refine TL.val (sV (Instr.loadAt 41 (.pointer (some ((A_slices.getD noAddr).add (k_2 * 1)))))) (some 30) (.slice ((o_slices[k_2]?.getD Sl.zero).A) x_2.length ((o_slices[k_2]?.getD Sl.zero).cap)) [(6, .slice A_newslice newslice.length c_newslice), (25, .slice A_slices slices.length c_slices), (26, .int .i64 (slices.length : Int)), (27, .int .i64 (k_2 : Int)), (30, .slice ((o_slices[k_2]?.getD Sl.zero).A) x_2.length ((o_slices[k_2]?.getD Sl.zero).cap))] (fun w hM => (by have h := run_load_one (P := Try.prog) (T := 41) (off := 0) (i := k_2) (.slice (o_slices[k_2]?.getD Sl.zero).A (o_slices[k_2]?.getD Sl.zero).l.length (o_slices[k_2]?.getD Sl.zero).cap) (h_slices.sat hM) (map_at (getD_at _ _ Sl.zero (sl_lt he_slices (List.getElem?_eq_some_iff.1 hx_2).1))) (by kernel_rfl) (by kernel_rfl); rw [(sl_at he_slices hx_2)] at h; exact h)) (by kernel_rfl) (by kernel_rfl) ?_
        refine TL.run 3 [] [(6, .slice A_newslice newslice.length c_newslice), (8, .slice ((o_slices[k_2]?.getD Sl.zero).A) x_2.length ((o_slices[k_2]?.getD Sl.zero).cap)), (25, .slice A_slices slices.length c_slices), (26, .int .i64 (slices.length : Int)), (27, .int .i64 (k_2 : Int))] rfl ⟨by kernel_rfl, by kernel_rfl⟩ ?_
        refine TL.next rfl ?_
        refine TC.region ?_
        refine TL.run 2 [] [(25, .slice A_slices slices.length c_slices), (26, .int .i64 (slices.length : Int)), (27, .int .i64 (k_2 : Int)), (31, .slice A_newslice newslice.length c_newslice), (32, .slice ((o_slices[k_2]?.getD Sl.zero).A) x_2.length ((o_slices[k_2]?.getD Sl.zero).cap))] rfl ⟨by kernel_rfl, by kernel_rfl⟩ ?_
        refine TL.opM (Γ := Option Addr × Nat) (sV (Builtin.append_ #[41, 41] 41 #[.slice A_newslice newslice.length c_newslice, .slice ((o_slices[k_2]?.getD Sl.zero).A) x_2.length ((o_slices[k_2]?.getD Sl.zero).cap)])) (some 33) (fun g => .slice g.1 (newslice ++ x_2).length g.2) (fun g => [.inr (Own g.1 g.2 58 6 ((newslice ++ x_2).map Plot.c))]) (fun g => [(25, .slice A_slices slices.length c_slices), (26, .int .i64 (slices.length : Int)), (27, .int .i64 (k_2 : Int)), (33, .slice g.1 ((newslice ++ x_2).length) g.2)]) (app_at (bytes := 48) 41 0 x_2 (by kernel_rfl) rfl rfl Plot.one rfl (fun w hM => (el_rd ((sl_all hd_slices k_2).sat hM) (sl_at he_slices hx_2))) rfl (by have kp_ := hp.1; (try have kg_ := grow_len hr1); (try have kx_ := hp.2 _ (List.mem_of_getElem? hx)); (try have kx_ := hp.2 _ (List.mem_of_getElem? hx_2)); first | omega | (simp <;> omega) | (simp at * <;> omega))) (by kernel_rfl) (fun g => by kernel_rfl) ?_
        rintro ⟨A_2, c_2⟩
        refine TL.run 4 [] [(6, .slice A_2 ((newslice ++ x_2).length) c_2), (25, .slice A_slices slices.length c_slices), (26, .int .i64 (slices.length : Int)), (27, .int .i64 (k_2 : Int))] rfl ⟨by kernel_rfl, by kernel_rfl⟩ ?_
        refine TL.done rfl ?_
        refine TE.normal_block ?_
        refine TE.next ?_
        refine TC.region ?_
        refine TL.run 2 [] [(6, .slice A_2 ((newslice ++ x_2).length) c_2), (25, .slice A_slices slices.length c_slices), (26, .int .i64 (slices.length : Int)), (27, .int .i64 (w64 ((k_2 : Int) + 1)))] rfl ⟨by kernel_rfl, by kernel_rfl⟩ ?_
        refine TL.done rfl ?_
        refine TE.rw 27 (.int .i64 (w64 ((k_2 : Int) + 1))) (.int .i64 ((k_2 + 1 : Nat) : Int)) (by kernel_rfl) (w64_cast k_2 (by have kp_ := hp.1; (try have kg_ := grow_len hr1); (try have kx_ := hp.2 _ (List.mem_of_getElem? hx)); (try have kx_ := hp.2 _ (List.mem_of_getElem? hx_2)); omega)) ?_
        exact TE.again (x := (k_2, newslice, A_newslice, c_newslice)) (k_2 + 1, (newslice ++ x_2), A_2, c_2) ⟨by omega, hI_2.trans (by subst hr1; rw [hd_2]; exact rfl), (by have kp_ := hp.1; (try have kg_ := grow_len hr1); (try have kx_ := hp.2 _ (List.mem_of_getElem? hx)); (try have kx_ := hp.2 _ (List.mem_of_getElem? hx_2)); first | omega | (simp <;> omega) | (simp at * <;> omega) | (simp only [w64_eq] at *; omega) | (simp only [List.length_append, List.length_cons, List.length_nil]; omega))⟩ (by show slices.length - (k_2 + 1) < slices.length - k_2; omega) (by kernel_rfl) (.cons_cons _ (.slnil))
      · have hd_2 : slices.drop k_2 = [] := List.drop_eq_nil_of_le (by have := of_decide_eq_false h3; first | omega | (simp at this; omega))
        refine TC.exit ?_
        refine TE.exit_then (TE.exit_then (TE.exit_same ?_))
        exact TE.cut (newslice, A_newslice, c_newslice) (⟨hI_2.trans (by subst hr1; rw [hd_2]; exact rfl), (by have kp_ := hp.1; (try have kg_ := grow_len hr1); (try have kx_ := hp.2 _ (List.mem_of_getElem? hx)); (try have kx_ := hp.2 _ (List.mem_of_getElem? hx_2)); first | omega | (simp <;> omega) | (simp at * <;> omega) | (simp only [w64_eq] at *; omega) | (simp only [List.length_append, List.length_cons, List.length_nil]; omega))⟩) (by kernel_rfl) (.cons_cons _ (.slnil))
    · rintro ⟨newslice_2, A_newslice_2, c_newslice_2⟩ ⟨hJ_2, hl_newslice_2⟩
      refine TE.next ?_
      refine TC.seq ?_
      refine TC.region ?_
      refine TL.run 2 [] [(2, .slice A_newslice_2 newslice_2.length c_newslice_2)] rfl ⟨by kernel_rfl, by kernel_rfl⟩ ?_
      refine TL.next rfl ?_
      refine TC.ret ?_
      have e : slices_Concat_api_Plot_api_Plot slices = newslice_2 := by subst hr1; unfold slices_Concat_api_Plot_api_Plot; exact bindv_eq (hR.symm.trans hJ) (bindv_eq (hR_2.symm.trans hJ_2) (rfl))
      rw [e]
      exact TE.retM (.inl rfl) (A_newslice_2, c_newslice_2) [] (.slice A_newslice_2 newslice_2.length c_newslice_2) ⟨by kernel_rfl, by kernel_rfl⟩ rfl (fun _ hM => hM.sub (.cons_cons _ (.slnil)))

def skywaykeep2_MosaicOrder_L1 (r2 : List Plot × Int) : Nat → Nat → ((Unit) ⊕ (Bool))
  | 0, _ => .inl ()
  | m + 1, k => let r5 := mosaic_Compare (r2.1[(w64 ((1 + (k : Int)) - 1)).toNat]?.getD Plot.zero) (r2.1[(1 + (k : Int)).toNat]?.getD Plot.zero)
    cond (decide (r5 ≥ 0)) (
      .inr false) (
      skywaykeep2_MosaicOrder_L1 r2 m (k + 1))
def skywaykeep2_MosaicOrder (a : List Plot) (b_ : List Plot) (time : Int) : Bool :=
  let r1 := mosaic_Merge ([[(⟨0, 2, 0, 0, 0, 0⟩ : Plot)], [(⟨0, 1, 0, 0, 0, 0⟩ : Plot)]])
  cond ((r1.2 != 0) || ((r1.1.length : Int) != 2)) (
    false) (
    cond (((r1.1[0]?.getD Plot.zero).Time) != 1) (
      false) (
      let r2 := mosaic_Merge ([a, b_])
      let r3 := mosaic_Merge ([b_, a])
      let r4 := skywaykeep2_fine ([r2.2, r3.2])
      cond (!r4) (
        ((((r2.1.length : Int) == 0) && ((r3.1.length : Int) == 0)) || (r2.2 == 0)) || (r3.2 == 0)) (
        Sum.elim (fun _ =>
          let r6 := mosaic_Window r2.1 0 time
          let r7 := mosaic_Window r2.1 time 200001
          let r8 := slices_Equal_api_Plot_api_Plot r2.1 r3.1
          cond r8 (
            let r9 := skywaykeep2_fine ([r6.2, r7.2])
            cond r9 (
              cond (decide (time < 0)) (
                true) (
                cond (decide (time > 200000)) (
                  true) (
                  let r10 := slices_Concat_api_Plot_api_Plot ([r6.1, r7.1])
                  let r11 := slices_Equal_api_Plot_api_Plot r10 r2.1
                  r11))) (
              false)) (
            false)) (fun r => r) (skywaykeep2_MosaicOrder_L1 r2 (r2.1.length - 1) 0))))

theorem win_len_L (f t : Int) : ∀ (l : List Plot) (k : Nat) (o : List Plot), (mosaic_Window_L1 f t l k o).length ≤ o.length + l.length
  | [], _, o => Nat.le_refl _
  | x :: xs, k, o => by
    unfold mosaic_Window_L1
    cases ((decide (x.Time ≥ f)) && (decide (x.Time < t)))
    · have := win_len_L f t xs (k + 1) o; rw [List.length_cons]; simp only [cond_false]; omega
    · have := win_len_L f t xs (k + 1) (o ++ [x]); rw [List.length_append] at this; rw [List.length_cons]; simp only [cond_true, List.length_cons, List.length_nil] at *; omega
theorem win_len {l : List Plot} {f t : Int} {r : List Plot × Int} (h : mosaic_Window l f t = r) : r.1.length ≤ 100000 := by
  subst h
  unfold mosaic_Window
  cases h2 : (mosaic_checkPlots l != 0)
  · have h3 := chk_len rfl h2
    have h4 := win_len_L f t l 0 []
    show (cond (mosaic_checkPlots l != 0) _ _ : List Plot × Int).1.length ≤ _
    rw [h2]
    show (mosaic_Window_L1 f t l 0 []).length ≤ _
    rw [List.length_nil] at h4; omega
  · show (cond (mosaic_checkPlots l != 0) _ _ : List Plot × Int).1.length ≤ _
    rw [h2]; exact Nat.zero_le _

set_option maxHeartbeats 4000000 in
set_option maxRecDepth 100000 in
theorem skywaykeep2_MosaicOrder_w (A_a : Option Addr) (c_a : Nat) (a : List Plot) (A_b_ : Option Addr) (c_b_ : Nat) (b_ : List Plot) (time : Int) (w : World) (h_a : Rd w 6 A_a (a.map Plot.c)) (hc_a : a.length ≤ c_a) (h_b_ : Rd w 6 A_b_ (b_.map Plot.c)) (hc_b_ : b_.length ≤ c_b_) : Calls Try.prog 10 #[.slice A_a a.length c_a, .slice A_b_ b_.length c_b_, .int .i64 time] w (Ret w (.bool (skywaykeep2_MosaicOrder a b_ time))) := by
  have s_a := h_a.short; rw [List.length_map] at s_a
  have s_b_ := h_b_.short; rw [List.length_map] at s_b_
  refine calls_intro (vs := [.slice A_a a.length c_a, .slice A_b_ b_.length c_b_, .int .i64 time]) (w := w) Try.func10 rfl Try.ntmps10 rfl ?_
  refine TC.weak [(0, .slice A_a a.length c_a), (1, .slice A_b_ b_.length c_b_), (2, .int .i64 time)] (by kernel_rfl) ?_
  refine TC.seq ?_
  refine TC.region ?_
  refine TL.run 1 [] [(0, .slice A_a a.length c_a), (1, .slice A_b_ b_.length c_b_), (2, .int .i64 time)] rfl ⟨by kernel_rfl, by kernel_rfl⟩ ?_
  refine TL.next rfl ?_
  refine TC.seq ?_
  refine TC.seq ?_
  refine TC.region ?_
  refine TL.run 1 [] [(0, .slice A_a a.length c_a), (1, .slice A_b_ b_.length c_b_), (2, .int .i64 time), (19, .agg #[.int .i64 0, .int .i64 2, .int .i64 0, .int .i64 0, .int .i64 0, .int .i64 0])] rfl ⟨by kernel_rfl, by kernel_rfl⟩ ?_
  refine TL.write 0 (fun b1 => [(0, .slice A_a a.length c_a), (1, .slice A_b_ b_.length c_b_), (2, .int .i64 time), (20, .slice (some ⟨b1, 0, none⟩) 1 1)]) (fun b1 => [.inl (b1, .cells #[.int .i64 0, .int .i64 2, .int .i64 0, .int .i64 0, .int .i64 0, .int .i64 0] 58 (0, 0))]) (fun b1 => ⟨by kernel_rfl, by kernel_rfl⟩) (fun b1 => ?_)
  refine TL.run 3 [] [(0, .slice A_a a.length c_a), (1, .slice A_b_ b_.length c_b_), (2, .int .i64 time), (20, .slice (some ⟨b1, 0, none⟩) 1 1), (21, .agg #[.int .i64 0, .int .i64 1, .int .i64 0, .int .i64 0, .int .i64 0, .int .i64 0])] rfl ⟨by kernel_rfl, by kernel_rfl⟩ ?_
  refine TL.write 0 (fun b2 => [(0, .slice A_a a.length c_a), (1, .slice A_b_ b_.length c_b_), (2, .int .i64 time), (20, .slice (some ⟨b1, 0, none⟩) 1 1), (22, .slice (some ⟨b2, 0, none⟩) 1 1)]) (fun b2 => [.inl (b2, .cells #[.int .i64 0, .int .i64 1, .int .i64 0, .int .i64 0, .int .i64 0, .int .i64 0] 58 (0, 0)), .inl (b1, .cells #[.int .i64 0, .int .i64 2, .int .i64 0, .int .i64 0, .int .i64 0, .int .i64 0] 58 (0, 0))]) (fun b2 => ⟨by kernel_rfl, by kernel_rfl⟩) (fun b2 => ?_)
  refine TL.write 0 (fun b3 => [(0, .slice A_a a.length c_a), (1, .slice A_b_ b_.length c_b_), (2, .int .i64 time), (23, .slice (some ⟨b3, 0, none⟩) 2 2)]) (fun b3 => [.inl (b3, .cells #[.slice (some ⟨b1, 0, none⟩) 1 1, .slice (some ⟨b2, 0, none⟩) 1 1] 41 (0, 0)), .inl (b2, .cells #[.int .i64 0, .int .i64 1, .int .i64 0, .int .i64 0, .int .i64 0, .int .i64 0] 58 (0, 0)), .inl (b1, .cells #[.int .i64 0, .int .i64 2, .int .i64 0, .int .i64 0, .int .i64 0, .int .i64 0] 58 (0, 0))]) (fun b3 => ⟨by kernel_rfl, by kernel_rfl⟩) (fun b3 => ?_)
  refine TL.callN (Γ := (Option Addr × Nat)) (fun g => .tuple #[.slice g.1 (((mosaic_Merge ([[(⟨0, 2, 0, 0, 0, 0⟩ : Plot)], [(⟨0, 1, 0, 0, 0, 0⟩ : Plot)]])).1).length) g.2, .int .i64 ((mosaic_Merge ([[(⟨0, 2, 0, 0, 0, 0⟩ : Plot)], [(⟨0, 1, 0, 0, 0, 0⟩ : Plot)]])).2)]) (fun g => [.inr (Own g.1 g.2 58 6 (((mosaic_Merge ([[(⟨0, 2, 0, 0, 0, 0⟩ : Plot)], [(⟨0, 1, 0, 0, 0, 0⟩ : Plot)]])).1).map Plot.c))]) (fun g => [.inr (Own g.1 g.2 58 6 (((mosaic_Merge ([[(⟨0, 2, 0, 0, 0, 0⟩ : Plot)], [(⟨0, 1, 0, 0, 0, 0⟩ : Plot)]])).1).map Plot.c)), .inl (b3, .cells #[.slice (some ⟨b1, 0, none⟩) 1 1, .slice (some ⟨b2, 0, none⟩) 1 1] 41 (0, 0)), .inl (b2, .cells #[.int .i64 0, .int .i64 1, .int .i64 0, .int .i64 0, .int .i64 0, .int .i64 0] 58 (0, 0)), .inl (b1, .cells #[.int .i64 0, .int .i64 2, .int .i64 0, .int .i64 0, .int .i64 0, .int .i64 0] 58 (0, 0))]) (fun g => rfl) (some 24) (fun g => [(0, .slice A_a a.length c_a), (1, .slice A_b_ b_.length c_b_), (2, .int .i64 time), (24, .tuple #[.slice g.1 (((mosaic_Merge ([[(⟨0, 2, 0, 0, 0, 0⟩ : Plot)], [(⟨0, 1, 0, 0, 0, 0⟩ : Plot)]])).1).length) g.2, .int .i64 ((mosaic_Merge ([[(⟨0, 2, 0, 0, 0, 0⟩ : Plot)], [(⟨0, 1, 0, 0, 0, 0⟩ : Plot)]])).2)])]) (fun w hM => mosaic_Merge_w (some ⟨b3, 0, none⟩) 2 ([[(⟨0, 2, 0, 0, 0, 0⟩ : Plot)], [(⟨0, 1, 0, 0, 0, 0⟩ : Plot)]]) ([(⟨(some ⟨b1, 0, none⟩), 1, [(⟨0, 2, 0, 0, 0, 0⟩ : Plot)]⟩ : Sl Plot), (⟨(some ⟨b2, 0, none⟩), 1, [(⟨0, 1, 0, 0, 0, 0⟩ : Plot)]⟩ : Sl Plot)]) w (Rd.lit hM 0 _ rfl (by kernel_rfl) (by kernel_rfl) (by kernel_rfl)) (Nat.le_refl _) (all_cons ⟨(Rd.lit hM 2 _ rfl (by kernel_rfl) (by kernel_rfl) (by kernel_rfl)), (Nat.le_refl _)⟩ (all_cons ⟨(Rd.lit hM 1 _ rfl (by kernel_rfl) (by kernel_rfl) (by kernel_rfl)), (Nat.le_refl _)⟩ all_nil)) (sl_cons rfl (sl_cons rfl rfl))) (by kernel_rfl) (fun g => by kernel_rfl) ?_
  rintro ⟨A, c⟩
  generalize hr1 : mosaic_Merge ([[(⟨0, 2, 0, 0, 0, 0⟩ : Plot)], [(⟨0, 1, 0, 0, 0, 0⟩ : Plot)]]) = r1
  refine TL.know (fun w hM => hM.short_at 0 rfl) (fun s_r1_0 => ?_)
  refine TL.run 11 [] [(0, .slice A_a a.length c_a), (1, .slice A_b_ b_.length c_b_), (2, .int .i64 time), (7, .slice A r1.1.length c), (8, .int .i64 r1.2)] rfl ⟨by kernel_rfl, by kernel_rfl⟩ ?_
  refine TL.next rfl ?_
  refine TC.seq ?_
  refine TC.region ?_
  refine TL.run 3 [] [(0, .slice A_a a.length c_a), (1, .slice A_b_ b_.length c_b_), (2, .int .i64 time), (7, .slice A r1.1.length c), (29, .bool (r1.2 != 0))] rfl ⟨by kernel_rfl, by kernel_rfl⟩ ?_
  refine TL.join 29 (r1.2 != 0) 7 [] [] (fun β => [(0, .slice A_a a.length c_a), (1, .slice A_b_ b_.length c_b_), (2, .int .i64 time), (7, .slice A r1.1.length c), (33, .bool (β || ((r1.1.length : Int) != 2)))]) (by kernel_rfl) rfl ⟨by kernel_rfl, by kernel_rfl⟩ ⟨by kernel_rfl, by kernel_rfl⟩ ?_
  refine TL.run 8 [] [(0, .slice A_a a.length c_a), (1, .slice A_b_ b_.length c_b_), (2, .int .i64 time), (7, .slice A r1.1.length c), (34, .bool ((r1.2 != 0) || ((r1.1.length : Int) != 2)))] rfl ⟨by kernel_rfl, by kernel_rfl⟩ ?_
  refine TL.split 34 ((r1.2 != 0) || ((r1.1.length : Int) != 2)) (by kernel_rfl) (fun h1 => ?_) (fun h1 => ?_)
  · refine TL.run 14 [] [(0, .slice A_a a.length c_a), (1, .slice A_b_ b_.length c_b_), (2, .int .i64 time), (40, .bool true)] rfl ⟨by kernel_rfl, by kernel_rfl⟩ ?_
    refine TL.next rfl ?_
    refine TC.condT rfl (by kernel_rfl) ?_
    refine TC.seq ?_
    refine TC.region ?_
    refine TL.run 1 [] [(6, .bool false)] rfl ⟨by kernel_rfl, by kernel_rfl⟩ ?_
    refine TL.next rfl ?_
    refine TC.ret ?_
    refine TE.ret_then ?_
    have e : skywaykeep2_MosaicOrder a b_ time = false := by subst hr1; unfold skywaykeep2_MosaicOrder; exact cond_t h1 (rfl)
    exact TE.ret [] (.bool false) ⟨by kernel_rfl, by kernel_rfl⟩ (by rw [e]; first | done | kernel_rfl)
  · refine TL.run 9 [] [(0, .slice A_a a.length c_a), (1, .slice A_b_ b_.length c_b_), (2, .int .i64 time), (34, .bool false), (35, .slice A r1.1.length c)] rfl ⟨by kernel_rfl, by kernel_rfl⟩ ?_
    refine TL.val (sV (Instr.indexAt 41 (.slice A r1.1.length c) (.int .i64 0))) (some 36) (.pointer (some ((A.getD noAddr).add (0 * 6)))) [(0, .slice A_a a.length c_a), (1, .slice A_b_ b_.length c_b_), (2, .int .i64 time), (34, .bool false), (36, .pointer (some ((A.getD noAddr).add (0 * 6))))] (fun w hM => run_index (hM.rd_at 0 rfl) (by simp) (by kernel_rfl) (by have q0_ := (bne_f (or_f1 h1)); have q1_ := (bne_f (or_f2 h1)); first | omega | (rw [List.length_set]; omega) | (rw [w64_id (by omega)]; omega) | (dsimp only; omega) | (rw [List.length_drop]; omega) | (simp only [w64_eq]; omega) | (simp only [List.length_take] at *; omega) | (simp <;> omega)) (by have q0_ := (bne_f (or_f1 h1)); have q1_ := (bne_f (or_f2 h1)); first | omega | (rw [List.length_set]; omega) | (rw [w64_id (by omega)]; omega) | (dsimp only; omega) | (rw [List.length_drop]; omega) | (simp only [w64_eq]; omega) | (simp only [List.length_take] at *; omega) | (simp <;> omega))) (by kernel_rfl) (by kernel_rfl) ?_
    refine TL.run 11 [] [(0, .slice A_a a.length c_a), (1, .slice A_b_ b_.length c_b_), (2, .int .i64 time), (34, .bool false), (37, .pointer (some (((A.getD noAddr).add (0 * 6)).add 1)))] rfl ⟨by kernel_rfl, by kernel_rfl⟩ ?_
    refine TL.val (sV (Instr.loadAt 3 (.pointer (some (((A.getD noAddr).add (0 * 6)).add 1))))) (some 38) (.int .i64 ((r1.1[0]?.getD Plot.zero).Time)) [(0, .slice A_a a.length c_a), (1, .slice A_b_ b_.length c_b_), (2, .int .i64 time), (34, .bool false), (38, .int .i64 ((r1.1[0]?.getD Plot.zero).Time))] (fun w hM => run_load_one (off := 1) (i := 0) (.int .i64 ((r1.1[0]?.getD Plot.zero).Time)) (hM.rd_at 0 rfl) (map_at (getD_at _ _ Plot.zero (by have q0_ := (bne_f (or_f1 h1)); have q1_ := (bne_f (or_f2 h1)); first | omega | (rw [List.length_set]; omega) | (rw [w64_id (by omega)]; omega) | (dsimp only; omega) | (rw [List.length_drop]; omega) | (simp only [w64_eq]; omega) | (simp only [List.length_take] at *; omega) | (simp <;> omega)))) (by kernel_rfl) (by kernel_rfl)) (by kernel_rfl) (by kernel_rfl) ?_
    refine TL.run 14 [] [(0, .slice A_a a.length c_a), (1, .slice A_b_ b_.length c_b_), (2, .int .i64 time), (40, .bool (((r1.1[0]?.getD Plot.zero).Time) != 1))] rfl ⟨by kernel_rfl, by kernel_rfl⟩ ?_
    refine TL.next rfl ?_
    refine TC.cond (((r1.1[0]?.getD Plot.zero).Time) != 1) rfl (by kernel_rfl) (fun h2 => ?_) (fun h2 => ?_)
    · refine TC.seq ?_
      refine TC.region ?_
      refine TL.run 1 [] [(6, .bool false)] rfl ⟨by kernel_rfl, by kernel_rfl⟩ ?_
      refine TL.next rfl ?_
      refine TC.ret ?_
      refine TE.ret_then ?_
      have e : skywaykeep2_MosaicOrder a b_ time = false := by subst hr1; unfold skywaykeep2_MosaicOrder; exact cond_f h1 (cond_t h2 (rfl))
      exact TE.ret [] (.bool false) ⟨by kernel_rfl, by kernel_rfl⟩ (by rw [e]; first | done | kernel_rfl)
    · refine TC.skip ?_
      refine TE.next ?_
      refine TC.seq ?_
      refine TC.region ?_
      refine TL.run 2 [] [(0, .slice A_a a.length c_a), (1, .slice A_b_ b_.length c_b_), (2, .int .i64 time), (42, .slice A_a a.length c_a), (43, .slice A_b_ b_.length c_b_)] rfl ⟨by kernel_rfl, by kernel_rfl⟩ ?_
      refine TL.write 0 (fun b4 => [(0, .slice A_a a.length c_a), (1, .slice A_b_ b_.length c_b_), (2, .int .i64 time), (44, .slice (some ⟨b4, 0, none⟩) 2 2)]) (fun b4 => [.inl (b4, .cells #[.slice A_a a.length c_a, .slice A_b_ b_.length c_b_] 41 (0, 0)), .inr (Own A c 58 6 (r1.1.map Plot.c)), .inl (b3, .cells #[.slice (some ⟨b1, 0, none⟩) 1 1, .slice (some ⟨b2, 0, none⟩) 1 1] 41 (0, 0)), .inl (b2, .cells #[.int .i64 0, .int .i64 1, .int .i64 0, .int .i64 0, .int .i64 0, .int .i64 0] 58 (0, 0)), .inl (b1, .cells #[.int .i64 0, .int .i64 2, .int .i64 0, .int .i64 0, .int .i64 0, .int .i64 0] 58 (0, 0))]) (fun b4 => ⟨by kernel_rfl, by kernel_rfl⟩) (fun b4 => ?_)
      refine TL.callN (Γ := (Option Addr × Nat)) (fun g => .tuple #[.slice g.1 (((mosaic_Merge ([a, b_])).1).length) g.2, .int .i64 ((mosaic_Merge ([a, b_])).2)]) (fun g => [.inr (Own g.1 g.2 58 6 (((mosaic_Merge ([a, b_])).1).map Plot.c))]) (fun g => [.inr (Own g.1 g.2 58 6 (((mosaic_Merge ([a, b_])).1).map Plot.c)), .inl (b4, .cells #[.slice A_a a.length c_a, .slice A_b_ b_.length c_b_] 41 (0, 0)), .inr (Own A c 58 6 (r1.1.map Plot.c)), .inl (b3, .cells #[.slice (some ⟨b1, 0, none⟩) 1 1, .slice (some ⟨b2, 0, none⟩) 1 1] 41 (0, 0)), .inl (b2, .cells #[.int .i64 0, .int .i64 1, .int .i64 0, .int .i64 0, .int .i64 0, .int .i64 0] 58 (0, 0)), .inl (b1, .cells #[.int .i64 0, .int .i64 2, .int .i64 0, .int .i64 0, .int .i64 0, .int .i64 0] 58 (0, 0))]) (fun g => rfl) (some 45) (fun g => [(0, .slice A_a a.length c_a), (1, .slice A_b_ b_.length c_b_), (2, .int .i64 time), (45, .tuple #[.slice g.1 (((mosaic_Merge ([a, b_])).1).length) g.2, .int .i64 ((mosaic_Merge ([a, b_])).2)])]) (fun w hM => mosaic_Merge_w (some ⟨b4, 0, none⟩) 2 ([a, b_]) ([(⟨A_a, c_a, a⟩ : Sl Plot), (⟨A_b_, c_b_, b_⟩ : Sl Plot)]) w (Rd.lit hM 0 _ rfl (by kernel_rfl) (by kernel_rfl) (by kernel_rfl)) (Nat.le_refl _) (all_cons ⟨(h_a.sat hM), hc_a⟩ (all_cons ⟨(h_b_.sat hM), hc_b_⟩ all_nil)) (sl_cons rfl (sl_cons rfl rfl))) (by kernel_rfl) (fun g => by kernel_rfl) ?_
      rintro ⟨A_2, c_2⟩
      generalize hr2 : mosaic_Merge ([a, b_]) = r2
      refine TL.know (fun w hM => hM.short_at 0 rfl) (fun s_r2_0 => ?_)
      refine TL.run 9 [] [(0, .slice A_a a.length c_a), (1, .slice A_b_ b_.length c_b_), (2, .int .i64 time), (9, .slice A_2 r2.1.length c_2), (10, .int .i64 r2.2)] rfl ⟨by kernel_rfl, by kernel_rfl⟩ ?_
      refine TL.next rfl ?_
      refine TC.seq ?_
      refine TC.region ?_
      refine TL.run 2 [] [(2, .int .i64 time), (9, .slice A_2 r2.1.length c_2), (10, .int .i64 r2.2), (49, .slice A_b_ b_.length c_b_), (50, .slice A_a a.length c_a)] rfl ⟨by kernel_rfl, by kernel_rfl⟩ ?_
      refine TL.write 0 (fun b5 => [(2, .int .i64 time), (9, .slice A_2 r2.1.length c_2), (10, .int .i64 r2.2), (51, .slice (some ⟨b5, 0, none⟩) 2 2)]) (fun b5 => [.inl (b5, .cells #[.slice A_b_ b_.length c_b_, .slice A_a a.length c_a] 41 (0, 0)), .inr (Own A_2 c_2 58 6 (r2.1.map Plot.c)), .inl (b4, .cells #[.slice A_a a.length c_a, .slice A_b_ b_.length c_b_] 41 (0, 0)), .inr (Own A c 58 6 (r1.1.map Plot.c)), .inl (b3, .cells #[.slice (some ⟨b1, 0, none⟩) 1 1, .slice (some ⟨b2, 0, none⟩) 1 1] 41 (0, 0)), .inl (b2, .cells #[.int .i64 0, .int .i64 1, .int .i64 0, .int .i64 0, .int .i64 0, .int .i64 0] 58 (0, 0)), .inl (b1, .cells #[.int .i64 0, .int .i64 2, .int .i64 0, .int .i64 0, .int .i64 0, .int .i64 0] 58 (0, 0))]) (fun b5 => ⟨by kernel_rfl, by kernel_rfl⟩) (fun b5 => ?_)
      refine TL.callN (Γ := (Option Addr × Nat)) (fun g => .tuple #[.slice g.1 (((mosaic_Merge ([b_, a])).1).length) g.2, .int .i64 ((mosaic_Merge ([b_, a])).2)]) (fun g => [.inr (Own g.1 g.2 58 6 (((mosaic_Merge ([b_, a])).1).map Plot.c))]) (fun g => [.inr (Own g.1 g.2 58 6 (((mosaic_Merge ([b_, a])).1).map Plot.c)), .inl (b5, .cells #[.slice A_b_ b_.length c_b_, .slice A_a a.length c_a] 41 (0, 0)), .inr (Own A_2 c_2 58 6 (r2.1.map Plot.c)), .inl (b4, .cells #[.slice A_a a.length c_a, .slice A_b_ b_.length c_b_] 41 (0, 0)), .inr (Own A c 58 6 (r1.1.map Plot.c)), .inl (b3, .cells #[.slice (some ⟨b1, 0, none⟩) 1 1, .slice (some ⟨b2, 0, none⟩) 1 1] 41 (0, 0)), .inl (b2, .cells #[.int .i64 0, .int .i64 1, .int .i64 0, .int .i64 0, .int .i64 0, .int .i64 0] 58 (0, 0)), .inl (b1, .cells #[.int .i64 0, .int .i64 2, .int .i64 0, .int .i64 0, .int .i64 0, .int .i64 0] 58 (0, 0))]) (fun g => rfl) (some 52) (fun g => [(2, .int .i64 time), (9, .slice A_2 r2.1.length c_2), (10, .int .i64 r2.2), (52, .tuple #[.slice g.1 (((mosaic_Merge ([b_, a])).1).length) g.2, .int .i64 ((mosaic_Merge ([b_, a])).2)])]) (fun w hM => mosaic_Merge_w (some ⟨b5, 0, none⟩) 2 ([b_, a]) ([(⟨A_b_, c_b_, b_⟩ : Sl Plot), (⟨A_a, c_a, a⟩ : Sl Plot)]) w (Rd.lit hM 0 _ rfl (by kernel_rfl) (by kernel_rfl) (by kernel_rfl)) (Nat.le_refl _) (all_cons ⟨(h_b_.sat hM), hc_b_⟩ (all_cons ⟨(h_a.sat hM), hc_a⟩ all_nil)) (sl_cons rfl (sl_cons rfl rfl))) (by kernel_rfl) (fun g => by kernel_rfl) ?_
      rintro ⟨A_3, c_3⟩
      generalize hr3 : mosaic_Merge ([b_, a]) = r3
      refine TL.know (fun w hM => hM.short_at 0 rfl) (fun s_r3_0 => ?_)
      refine TL.run 9 [] [(2, .int .i64 time), (9, .slice A_2 r2.1.length c_2), (10, .int .i64 r2.2), (11, .slice A_3 r3.1.length c_3), (12, .int .i64 r3.2)] rfl ⟨by kernel_rfl, by kernel_rfl⟩ ?_
      refine TL.next rfl ?_
      refine TC.seq ?_
      refine TC.seq ?_
      refine TC.region ?_
      refine TL.run 2 [] [(2, .int .i64 time), (9, .slice A_2 r2.1.length c_2), (10, .int .i64 r2.2), (11, .slice A_3 r3.1.length c_3), (12, .int .i64 r3.2), (55, .int .i64 r2.2), (56, .int .i64 r3.2)] rfl ⟨by kernel_rfl, by kernel_rfl⟩ ?_
      refine TL.write 0 (fun b6 => [(2, .int .i64 time), (9, .slice A_2 r2.1.length c_2), (10, .int .i64 r2.2), (11, .slice A_3 r3.1.length c_3), (12, .int .i64 r3.2), (57, .slice (some ⟨b6, 0, none⟩) 2 2)]) (fun b6 => [.inl (b6, .cells #[.int .i64 r2.2, .int .i64 r3.2] 25 (0, 0)), .inr (Own A_3 c_3 58 6 (r3.1.map Plot.c)), .inl (b5, .cells #[.slice A_b_ b_.length c_b_, .slice A_a a.length c_a] 41 (0, 0)), .inr (Own A_2 c_2 58 6 (r2.1.map Plot.c)), .inl (b4, .cells #[.slice A_a a.length c_a, .slice A_b_ b_.length c_b_] 41 (0, 0)), .inr (Own A c 58 6 (r1.1.map Plot.c)), .inl (b3, .cells #[.slice (some ⟨b1, 0, none⟩) 1 1, .slice (some ⟨b2, 0, none⟩) 1 1] 41 (0, 0)), .inl (b2, .cells #[.int .i64 0, .int .i64 1, .int .i64 0, .int .i64 0, .int .i64 0, .int .i64 0] 58 (0, 0)), .inl (b1, .cells #[.int .i64 0, .int .i64 2, .int .i64 0, .int .i64 0, .int .i64 0, .int .i64 0] 58 (0, 0))]) (fun b6 => ⟨by kernel_rfl, by kernel_rfl⟩) (fun b6 => ?_)
      refine TL.call (some 58) [(2, .int .i64 time), (9, .slice A_2 r2.1.length c_2), (10, .int .i64 r2.2), (11, .slice A_3 r3.1.length c_3), (12, .int .i64 r3.2), (58, .bool ((skywaykeep2_fine ([r2.2, r3.2]))))] (fun w hM => skywaykeep2_fine_w (some ⟨b6, 0, none⟩) 2 ([r2.2, r3.2]) w (Rd.lit hM 0 _ rfl (by kernel_rfl) (by kernel_rfl) (by kernel_rfl)) (Nat.le_refl _)) (by kernel_rfl) (by kernel_rfl) ?_
      generalize hr4 : skywaykeep2_fine ([r2.2, r3.2]) = r4
      refine TL.run 5 [] [(2, .int .i64 time), (9, .slice A_2 r2.1.length c_2), (10, .int .i64 r2.2), (11, .slice A_3 r3.1.length c_3), (12, .int .i64 r3.2), (59, .bool (!r4))] rfl ⟨by kernel_rfl, by kernel_rfl⟩ ?_
      refine TL.next rfl ?_
      refine TC.cond (!r4) rfl (by kernel_rfl) (fun h3 => ?_) (fun h3 => ?_)
      · refine TC.seq ?_
        refine TC.region ?_
        refine TL.run 4 [] [(10, .int .i64 r2.2), (11, .slice A_3 r3.1.length c_3), (12, .int .i64 r3.2), (63, .bool ((r2.1.length : Int) == 0))] rfl ⟨by kernel_rfl, by kernel_rfl⟩ ?_
        refine TL.join 63 ((r2.1.length : Int) == 0) 8 [] [] (fun β => [(10, .int .i64 r2.2), (12, .int .i64 r3.2), (67, .bool (β && ((r3.1.length : Int) == 0)))]) (by kernel_rfl) rfl ⟨by kernel_rfl, by kernel_rfl⟩ ⟨by kernel_rfl, by kernel_rfl⟩ ?_
        refine TL.run 9 [] [(10, .int .i64 r2.2), (12, .int .i64 r3.2), (68, .bool (((r2.1.length : Int) == 0) && ((r3.1.length : Int) == 0)))] rfl ⟨by kernel_rfl, by kernel_rfl⟩ ?_
        refine TL.join 68 (((r2.1.length : Int) == 0) && ((r3.1.length : Int) == 0)) 12 [] [] (fun β => [(12, .int .i64 r3.2), (71, .bool (β || (r2.2 == 0)))]) (by kernel_rfl) rfl ⟨by kernel_rfl, by kernel_rfl⟩ ⟨by kernel_rfl, by kernel_rfl⟩ ?_
        refine TL.run 13 [] [(12, .int .i64 r3.2), (72, .bool ((((r2.1.length : Int) == 0) && ((r3.1.length : Int) == 0)) || (r2.2 == 0)))] rfl ⟨by kernel_rfl, by kernel_rfl⟩ ?_
        refine TL.join 72 ((((r2.1.length : Int) == 0) && ((r3.1.length : Int) == 0)) || (r2.2 == 0)) 16 [] [] (fun β => [(75, .bool (β || (r3.2 == 0)))]) (by kernel_rfl) rfl ⟨by kernel_rfl, by kernel_rfl⟩ ⟨by kernel_rfl, by kernel_rfl⟩ ?_
        refine TL.run 17 [] [(6, .bool (((((r2.1.length : Int) == 0) && ((r3.1.length : Int) == 0)) || (r2.2 == 0)) || (r3.2 == 0)))] rfl ⟨by kernel_rfl, by kernel_rfl⟩ ?_
        refine TL.next rfl ?_
        refine TC.ret ?_
        refine TE.ret_then ?_
        have e : skywaykeep2_MosaicOrder a b_ time = (((((r2.1.length : Int) == 0) && ((r3.1.length : Int) == 0)) || (r2.2 == 0)) || (r3.2 == 0)) := by subst hr1 hr2 hr3 hr4; unfold skywaykeep2_MosaicOrder; exact cond_f h1 (cond_f h2 (cond_t h3 (rfl)))
        exact TE.ret [] (.bool (((((r2.1.length : Int) == 0) && ((r3.1.length : Int) == 0)) || (r2.2 == 0)) || (r3.2 == 0))) ⟨by kernel_rfl, by kernel_rfl⟩ (by rw [e]; first | done | kernel_rfl)
      · refine TC.skip ?_
        refine TE.next ?_
        refine TC.seq ?_
        refine TC.seq ?_
        refine TC.region ?_
        refine TL.run 1 [] [(2, .int .i64 time), (9, .slice A_2 r2.1.length c_2), (11, .slice A_3 r3.1.length c_3), (13, .int .i64 1)] rfl ⟨by kernel_rfl, by kernel_rfl⟩ ?_
        refine TL.next rfl ?_
        refine TC.weak [(2, .int .i64 time), (9, .slice A_2 r2.1.length c_2), (11, .slice A_3 r3.1.length c_3), (13, .int .i64 1)] (by kernel_rfl) ?_
        refine TC.forget [.inr (Own A_3 c_3 58 6 (r3.1.map Plot.c)), .inr (Own A_2 c_2 58 6 (r2.1.map Plot.c))] (.cons _ (.cons_cons _ (.cons _ (.cons_cons _ (.cons _ (.cons _ (.cons _ (.cons _ (.cons _ (.slnil)))))))))) ?_
        obtain ⟨R1, hR⟩ : ∃ R, R = skywaykeep2_MosaicOrder_L1 r2 (r2.1.length - 1) 0 := ⟨_, rfl⟩
        refine TC.cut (S := Unit) (fun (_ : Unit) => [(2, .int .i64 time), (9, .slice A_2 r2.1.length c_2), (11, .slice A_3 r3.1.length c_3)]) (fun (_ : Unit) => [.inr (Own A_3 c_3 58 6 (r3.1.map Plot.c)), .inr (Own A_2 c_2 58 6 (r2.1.map Plot.c))]) (fun (_ : Unit) => R1 = .inl ()) ?_ ?_
        · refine TC.block ?_
          refine TC.rw 13 (.int .i64 1) (.int .i64 (1 + ((0 : Nat) : Int))) (by kernel_rfl) (int_eq (by have q0_ := (bne_f (or_f1 h1)); have q1_ := (bne_f (or_f2 h1)); have q2_ := (bne_f h2); first | omega | (rw [w64_id (by omega)]; omega) | (simp only [w64_eq]; omega))) ?_
          refine TC.weak [(2, .int .i64 time), (9, .slice A_2 r2.1.length c_2), (11, .slice A_3 r3.1.length c_3), (13, .int .i64 (1 + ((0 : Nat) : Int)))] (by kernel_rfl) ?_
          refine TC.loop (X := Nat) (fun k => [(2, .int .i64 time), (9, .slice A_2 r2.1.length c_2), (11, .slice A_3 r3.1.length c_3), (13, .int .i64 (1 + (k : Int)))]) (fun k => [.inr (Own A_3 c_3 58 6 (r3.1.map Plot.c)), .inr (Own A_2 c_2 58 6 (r2.1.map Plot.c))]) (fun k => (r2.1.length - 1) - k) (fun k => k ≤ (r2.1.length - 1) ∧ R1 = skywaykeep2_MosaicOrder_L1 r2 ((r2.1.length - 1) - k) k) ?_ 0 ⟨Nat.zero_le _, hR⟩
          rintro k ⟨hk, hI⟩
          refine TC.seq ?_
          refine TC.seq ?_
          refine TC.region ?_
          refine TL.run 4 [] [(2, .int .i64 time), (9, .slice A_2 r2.1.length c_2), (11, .slice A_3 r3.1.length c_3), (13, .int .i64 (1 + (k : Int))), (79, .bool (decide ((1 + (k : Int)) < (r2.1.length : Int))))] rfl ⟨by kernel_rfl, by kernel_rfl⟩ ?_
          refine TL.next rfl ?_
          refine TC.cond (decide ((1 + (k : Int)) < (r2.1.length : Int))) rfl (by kernel_rfl) (fun h4 => ?_) (fun h4 => ?_)
          · have hlt : k < (r2.1.length - 1) := by have q0_ := (bne_f (or_f1 h1)); have q1_ := (bne_f (or_f2 h1)); have q2_ := (bne_f h2); have p0_ := (dec_t h4); first | omega | (simp only [w64_eq] at *; omega)
            have hd : (r2.1.length - 1) - k = ((r2.1.length - 1) - (k + 1)) + 1 := by omega
            refine TC.skip ?_
            refine TE.next ?_
            refine TC.seq ?_
            refine TC.block ?_
            refine TC.seq ?_
            refine TC.draw 11 (by kernel_rfl) (by kernel_rfl) (by kernel_rfl) ?_
            refine TQ.run 3 [] [(2, .int .i64 time), (9, .slice A_2 r2.1.length c_2), (11, .slice A_3 r3.1.length c_3), (13, .int .i64 (1 + (k : Int))), (82, .slice A_2 r2.1.length c_2), (84, .int .i64 (w64 ((1 + (k : Int)) - 1)))] rfl ⟨by kernel_rfl, by kernel_rfl⟩ ?_
            refine TQ.val (sV (Instr.indexAt 41 (.slice A_2 r2.1.length c_2) (.int .i64 (w64 ((1 + (k : Int)) - 1))))) (some 85) (.pointer (some ((A_2.getD noAddr).add ((w64 ((1 + (k : Int)) - 1)).toNat * 6)))) [(2, .int .i64 time), (9, .slice A_2 r2.1.length c_2), (11, .slice A_3 r3.1.length c_3), (13, .int .i64 (1 + (k : Int))), (85, .pointer (some ((A_2.getD noAddr).add ((w64 ((1 + (k : Int)) - 1)).toNat * 6))))] (fun w hM => run_index (hM.rd_at 1 rfl) (by simp) (by kernel_rfl) (by have q0_ := (bne_f (or_f1 h1)); have q1_ := (bne_f (or_f2 h1)); have q2_ := (bne_f h2); have q3_ := (dec_t h4); first | omega | (rw [List.length_set]; omega) | (rw [w64_id (by omega)]; omega) | (dsimp only; omega) | (rw [List.length_drop]; omega) | (simp only [w64_eq]; omega) | (simp only [List.length_take] at *; omega) | (simp <;> omega)) (by have q0_ := (bne_f (or_f1 h1)); have q1_ := (bne_f (or_f2 h1)); have q2_ := (bne_f h2); have q3_ := (dec_t h4); first | omega | (rw [List.length_set]; omega) | (rw [w64_id (by omega)]; omega) | (dsimp only; omega) | (rw [List.length_drop]; omega) | (simp only [w64_eq]; omega) | (simp only [List.length_take] at *; omega) | (simp <;> omega))) rfl (by kernel_rfl) (by kernel_rfl) ?_
            refine TQ.val (sV (Instr.loadAt 58 (.pointer (some ((A_2.getD noAddr).add ((w64 ((1 + (k : Int)) - 1)).toNat * 6)))))) (some 86) (Plot.v (r2.1[(w64 ((1 + (k : Int)) - 1)).toNat]?.getD Plot.zero)) [(2, .int .i64 time), (9, .slice A_2 r2.1.length c_2), (11, .slice A_3 r3.1.length c_3), (13, .int .i64 (1 + (k : Int))), (86, Plot.v (r2.1[(w64 ((1 + (k : Int)) - 1)).toNat]?.getD Plot.zero))] (fun w hM => run_load_agg (n := 6) (off := 0) (i := (w64 ((1 + (k : Int)) - 1)).toNat) (Plot.v (r2.1[(w64 ((1 + (k : Int)) - 1)).toNat]?.getD Plot.zero)) (hM.rd_at 1 rfl) (map_at (getD_at _ _ Plot.zero (by have q0_ := (bne_f (or_f1 h1)); have q1_ := (bne_f (or_f2 h1)); have q2_ := (bne_f h2); have q3_ := (dec_t h4); first | omega | (rw [List.length_set]; omega) | (rw [w64_id (by omega)]; omega) | (dsimp only; omega) | (rw [List.length_drop]; omega) | (simp only [w64_eq]; omega) | (simp only [List.length_take] at *; omega) | (simp <;> omega)))) (by kernel_rfl) (by kernel_rfl) (by kernel_rfl)) rfl (by kernel_rfl) (by kernel_rfl) ?_
            refine TQ.run 7 [] [(2, .int .i64 time), (9, .slice A_2 r2.1.length c_2), (11, .slice A_3 r3.1.length c_3), (13, .int .i64 (1 + (k : Int))), (86, Plot.v (r2.1[(w64 ((1 + (k : Int)) - 1)).toNat]?.getD Plot.zero)), (87, .slice A_2 r2.1.length c_2), (88, .int .i64 (1 + (k : Int)))] rfl ⟨by kernel_rfl, by kernel_rfl⟩ ?_
            refine TQ.val (sV (Instr.indexAt 41 (.slice A_2 r2.1.length c_2) (.int .i64 (1 + (k : Int))))) (some 89) (.pointer (some ((A_2.getD noAddr).add ((1 + (k : Int)).toNat * 6)))) [(2, .int .i64 time), (9, .slice A_2 r2.1.length c_2), (11, .slice A_3 r3.1.length c_3), (13, .int .i64 (1 + (k : Int))), (86, Plot.v (r2.1[(w64 ((1 + (k : Int)) - 1)).toNat]?.getD Plot.zero)), (89, .pointer (some ((A_2.getD noAddr).add ((1 + (k : Int)).toNat * 6))))] (fun w hM => run_index (hM.rd_at 1 rfl) (by simp) (by kernel_rfl) (by have q0_ := (bne_f (or_f1 h1)); have q1_ := (bne_f (or_f2 h1)); have q2_ := (bne_f h2); have q3_ := (dec_t h4); first | omega | (rw [List.length_set]; omega) | (rw [w64_id (by omega)]; omega) | (dsimp only; omega) | (rw [List.length_drop]; omega) | (simp only [w64_eq]; omega) | (simp only [List.length_take] at *; omega) | (simp <;> omega)) (by have q0_ := (bne_f (or_f1 h1)); have q1_ := (bne_f (or_f2 h1)); have q2_ := (bne_f h2); have q3_ := (dec_t h4); first | omega | (rw [List.length_set]; omega) | (rw [w64_id (by omega)]; omega) | (dsimp only; omega) | (rw [List.length_drop]; omega) | (simp only [w64_eq]; omega) | (simp only [List.length_take] at *; omega) | (simp <;> omega))) rfl (by kernel_rfl) (by kernel_rfl) ?_
            refine TQ.val (sV (Instr.loadAt 58 (.pointer (some ((A_2.getD noAddr).add ((1 + (k : Int)).toNat * 6)))))) (some 90) (Plot.v (r2.1[(1 + (k : Int)).toNat]?.getD Plot.zero)) [(2, .int .i64 time), (9, .slice A_2 r2.1.length c_2), (11, .slice A_3 r3.1.length c_3), (13, .int .i64 (1 + (k : Int))), (86, Plot.v (r2.1[(w64 ((1 + (k : Int)) - 1)).toNat]?.getD Plot.zero)), (90, Plot.v (r2.1[(1 + (k : Int)).toNat]?.getD Plot.zero))] (fun w hM => run_load_agg (n := 6) (off := 0) (i := (1 + (k : Int)).toNat) (Plot.v (r2.1[(1 + (k : Int)).toNat]?.getD Plot.zero)) (hM.rd_at 1 rfl) (map_at (getD_at _ _ Plot.zero (by have q0_ := (bne_f (or_f1 h1)); have q1_ := (bne_f (or_f2 h1)); have q2_ := (bne_f h2); have q3_ := (dec_t h4); first | omega | (rw [List.length_set]; omega) | (rw [w64_id (by omega)]; omega) | (dsimp only; omega) | (rw [List.length_drop]; omega) | (simp only [w64_eq]; omega) | (simp only [List.length_take] at *; omega) | (simp <;> omega)))) (by kernel_rfl) (by kernel_rfl) (by kernel_rfl)) rfl (by kernel_rfl) (by kernel_rfl) ?_
            refine TQ.call (some 91) [(2, .int .i64 time), (9, .slice A_2 r2.1.length c_2), (11, .slice A_3 r3.1.length c_3), (13, .int .i64 (1 + (k : Int))), (91, .int .i64 (mosaic_Compare (r2.1[(w64 ((1 + (k : Int)) - 1)).toNat]?.getD Plot.zero) (r2.1[(1 + (k : Int)).toNat]?.getD Plot.zero)))] (fun w _ => mosaic_Compare_w (r2.1[(w64 ((1 + (k : Int)) - 1)).toNat]?.getD Plot.zero) (r2.1[(1 + (k : Int)).toNat]?.getD Plot.zero) w) rfl (by kernel_rfl) (by kernel_rfl) ?_
            generalize hr5 : mosaic_Compare (r2.1[(w64 ((1 + (k : Int)) - 1)).toNat]?.getD Plot.zero) (r2.1[(1 + (k : Int)).toNat]?.getD Plot.zero) = r5
            refine TQ.run 11 [] [(2, .int .i64 time), (9, .slice A_2 r2.1.length c_2), (11, .slice A_3 r3.1.length c_3), (13, .int .i64 (1 + (k : Int))), (92, .bool (decide (r5 ≥ 0)))] rfl ⟨by kernel_rfl, by kernel_rfl⟩ ?_
            refine TQ.next rfl ?_
            refine TC.cond (decide (r5 ≥ 0)) rfl (by kernel_rfl) (fun h5 => ?_) (fun h5 => ?_)
            · refine TC.seq ?_
              refine TC.region ?_
              refine TL.run 1 [] [(6, .bool false)] rfl ⟨by kernel_rfl, by kernel_rfl⟩ ?_
              refine TL.next rfl ?_
              refine TC.ret ?_
              refine TE.ret_block (TE.ret_then (TE.ret_then (TE.ret_block (TE.ret_then (TE.ret_then ?_)))))
              have e : skywaykeep2_MosaicOrder a b_ time = false := by subst hr1 hr2 hr3 hr4 hr5; unfold skywaykeep2_MosaicOrder; exact cond_f h1 (cond_f h2 (cond_f h3 (elim_r (hR.symm.trans (hI.trans (by rw [hd]; exact cond_t h5 (rfl)))) rfl)))
              exact TE.ret [] (.bool false) ⟨by kernel_rfl, by kernel_rfl⟩ (by rw [e]; first | done | kernel_rfl)
            · refine TC.skip ?_
              refine TE.normal_block ?_
              refine TE.next ?_
              refine TC.region ?_
              refine TL.run 3 [] [(2, .int .i64 time), (9, .slice A_2 r2.1.length c_2), (11, .slice A_3 r3.1.length c_3), (13, .int .i64 (w64 ((1 + (k : Int)) + 1)))] rfl ⟨by kernel_rfl, by kernel_rfl⟩ ?_
              refine TL.done rfl ?_
              refine TE.rw 13 (.int .i64 (w64 ((1 + (k : Int)) + 1))) (.int .i64 (1 + ((k + 1 : Nat) : Int))) (by kernel_rfl) (int_eq (by have q0_ := (bne_f (or_f1 h1)); have q1_ := (bne_f (or_f2 h1)); have q2_ := (bne_f h2); have q3_ := (dec_t h4); have q4_ := (dec_f h5); first | omega | (rw [w64_id (by omega)]; omega) | (simp only [w64_eq] at *; omega))) ?_
              exact TE.again (x := k) (k + 1) ⟨by omega, hI.trans (by subst hr1 hr2 hr3 hr4 hr5; rw [hd]; exact cond_f h5 (rfl))⟩ (by show (r2.1.length - 1) - (k + 1) < (r2.1.length - 1) - k; omega) (by kernel_rfl) (.cons_cons _ (.cons_cons _ (.slnil)))
          · have hd : (r2.1.length - 1) - k = 0 := by have q0_ := (bne_f (or_f1 h1)); have q1_ := (bne_f (or_f2 h1)); have q2_ := (bne_f h2); have p0_ := (dec_f h4); first | omega | (simp only [w64_eq] at *; omega)
            refine TC.exit ?_
            refine TE.exit_then (TE.exit_then (TE.exit_same ?_))
            exact TE.cut () (hI.trans (by subst hr1 hr2 hr3 hr4; rw [hd]; exact rfl)) (by kernel_rfl) (.cons_cons _ (.cons_cons _ (.slnil)))
        · intro _ hJ
          refine TE.next ?_
          refine TC.seq ?_
          refine TC.region ?_
          refine TL.run 2 [] [(2, .int .i64 time), (9, .slice A_2 r2.1.length c_2), (11, .slice A_3 r3.1.length c_3), (94, .slice A_2 r2.1.length c_2), (95, .int .i64 time)] rfl ⟨by kernel_rfl, by kernel_rfl⟩ ?_
          refine TL.callN (Γ := (Option Addr × Nat)) (fun g => .tuple #[.slice g.1 (((mosaic_Window r2.1 0 time).1).length) g.2, .int .i64 ((mosaic_Window r2.1 0 time).2)]) (fun g => [.inr (Own g.1 g.2 58 6 (((mosaic_Window r2.1 0 time).1).map Plot.c))]) (fun g => [.inr (Own g.1 g.2 58 6 (((mosaic_Window r2.1 0 time).1).map Plot.c)), .inr (Own A_3 c_3 58 6 (r3.1.map Plot.c)), .inr (Own A_2 c_2 58 6 (r2.1.map Plot.c))]) (fun g => rfl) (some 96) (fun g => [(2, .int .i64 time), (9, .slice A_2 r2.1.length c_2), (11, .slice A_3 r3.1.length c_3), (96, .tuple #[.slice g.1 (((mosaic_Window r2.1 0 time).1).length) g.2, .int .i64 ((mosaic_Window r2.1 0 time).2)])]) (fun w hM => mosaic_Window_w A_2 c_2 r2.1 0 time w (hM.rd_at 1 rfl) (hM.le_at 1 rfl)) (by kernel_rfl) (fun g => by kernel_rfl) ?_
          rintro ⟨A_4, c_4⟩
          generalize hr6 : mosaic_Window r2.1 0 time = r6
          refine TL.know (fun w hM => hM.short_at 0 rfl) (fun s_r6_0 => ?_)
          refine TL.run 8 [] [(2, .int .i64 time), (9, .slice A_2 r2.1.length c_2), (11, .slice A_3 r3.1.length c_3), (14, .slice A_4 r6.1.length c_4), (15, .int .i64 r6.2)] rfl ⟨by kernel_rfl, by kernel_rfl⟩ ?_
          refine TL.next rfl ?_
          refine TC.seq ?_
          refine TC.region ?_
          refine TL.run 2 [] [(2, .int .i64 time), (9, .slice A_2 r2.1.length c_2), (11, .slice A_3 r3.1.length c_3), (14, .slice A_4 r6.1.length c_4), (15, .int .i64 r6.2), (100, .slice A_2 r2.1.length c_2), (101, .int .i64 time)] rfl ⟨by kernel_rfl, by kernel_rfl⟩ ?_
          refine TL.callN (Γ := (Option Addr × Nat)) (fun g => .tuple #[.slice g.1 (((mosaic_Window r2.1 time 200001).1).length) g.2, .int .i64 ((mosaic_Window r2.1 time 200001).2)]) (fun g => [.inr (Own g.1 g.2 58 6 (((mosaic_Window r2.1 time 200001).1).map Plot.c))]) (fun g => [.inr (Own g.1 g.2 58 6 (((mosaic_Window r2.1 time 200001).1).map Plot.c)), .inr (Own A_4 c_4 58 6 (r6.1.map Plot.c)), .inr (Own A_3 c_3 58 6 (r3.1.map Plot.c)), .inr (Own A_2 c_2 58 6 (r2.1.map Plot.c))]) (fun g => rfl) (some 102) (fun g => [(2, .int .i64 time), (9, .slice A_2 r2.1.length c_2), (11, .slice A_3 r3.1.length c_3), (14, .slice A_4 r6.1.length c_4), (15, .int .i64 r6.2), (102, .tuple #[.slice g.1 (((mosaic_Window r2.1 time 200001).1).length) g.2, .int .i64 ((mosaic_Window r2.1 time 200001).2)])]) (fun w hM => mosaic_Window_w A_2 c_2 r2.1 time 200001 w (hM.rd_at 2 rfl) (hM.le_at 2 rfl)) (by kernel_rfl) (fun g => by kernel_rfl) ?_
          rintro ⟨A_5, c_5⟩
          generalize hr7 : mosaic_Window r2.1 time 200001 = r7
          refine TL.know (fun w hM => hM.short_at 0 rfl) (fun s_r7_0 => ?_)
          refine TL.run 8 [] [(2, .int .i64 time), (9, .slice A_2 r2.1.length c_2), (11, .slice A_3 r3.1.length c_3), (14, .slice A_4 r6.1.length c_4), (15, .int .i64 r6.2), (16, .slice A_5 r7.1.length c_5), (17, .int .i64 r7.2)] rfl ⟨by kernel_rfl, by kernel_rfl⟩ ?_
          refine TL.next rfl ?_
          refine TC.seq ?_
          refine TC.region ?_
          refine TL.run 2 [] [(2, .int .i64 time), (9, .slice A_2 r2.1.length c_2), (14, .slice A_4 r6.1.length c_4), (15, .int .i64 r6.2), (16, .slice A_5 r7.1.length c_5), (17, .int .i64 r7.2), (105, .slice A_2 r2.1.length c_2), (106, .slice A_3 r3.1.length c_3)] rfl ⟨by kernel_rfl, by kernel_rfl⟩ ?_
          refine TL.call (some 107) [(2, .int .i64 time), (9, .slice A_2 r2.1.length c_2), (14, .slice A_4 r6.1.length c_4), (15, .int .i64 r6.2), (16, .slice A_5 r7.1.length c_5), (17, .int .i64 r7.2), (107, .bool ((slices_Equal_api_Plot_api_Plot r2.1 r3.1)))] (fun w hM => slices_Equal_api_Plot_api_Plot_w A_2 c_2 r2.1 A_3 c_3 r3.1 w (hM.rd_at 3 rfl) (hM.le_at 3 rfl) (hM.rd_at 2 rfl) (hM.le_at 2 rfl)) (by kernel_rfl) (by kernel_rfl) ?_
          generalize hr8 : slices_Equal_api_Plot_api_Plot r2.1 r3.1 = r8
          refine TL.run 4 [] [(2, .int .i64 time), (9, .slice A_2 r2.1.length c_2), (14, .slice A_4 r6.1.length c_4), (15, .int .i64 r6.2), (16, .slice A_5 r7.1.length c_5), (17, .int .i64 r7.2), (108, .bool r8)] rfl ⟨by kernel_rfl, by kernel_rfl⟩ ?_
          refine TL.split 108 r8 (by kernel_rfl) (fun h6 => ?_) (fun h6 => ?_)
          · refine TL.run 6 [] [(2, .int .i64 time), (9, .slice A_2 r2.1.length c_2), (14, .slice A_4 r6.1.length c_4), (16, .slice A_5 r7.1.length c_5), (108, .bool true), (109, .int .i64 r6.2), (110, .int .i64 r7.2)] rfl ⟨by kernel_rfl, by kernel_rfl⟩ ?_
            refine TL.write 0 (fun b7 => [(2, .int .i64 time), (9, .slice A_2 r2.1.length c_2), (14, .slice A_4 r6.1.length c_4), (16, .slice A_5 r7.1.length c_5), (108, .bool true), (111, .slice (some ⟨b7, 0, none⟩) 2 2)]) (fun b7 => [.inl (b7, .cells #[.int .i64 r6.2, .int .i64 r7.2] 25 (0, 0)), .inr (Own A_5 c_5 58 6 (r7.1.map Plot.c)), .inr (Own A_4 c_4 58 6 (r6.1.map Plot.c)), .inr (Own A_3 c_3 58 6 (r3.1.map Plot.c)), .inr (Own A_2 c_2 58 6 (r2.1.map Plot.c))]) (fun b7 => ⟨by kernel_rfl, by kernel_rfl⟩) (fun b7 => ?_)
            refine TL.call (some 112) [(2, .int .i64 time), (9, .slice A_2 r2.1.length c_2), (14, .slice A_4 r6.1.length c_4), (16, .slice A_5 r7.1.length c_5), (108, .bool true), (112, .bool ((skywaykeep2_fine ([r6.2, r7.2]))))] (fun w hM => skywaykeep2_fine_w (some ⟨b7, 0, none⟩) 2 ([r6.2, r7.2]) w (Rd.lit hM 0 _ rfl (by kernel_rfl) (by kernel_rfl) (by kernel_rfl)) (Nat.le_refl _)) (by kernel_rfl) (by kernel_rfl) ?_
            generalize hr9 : skywaykeep2_fine ([r6.2, r7.2]) = r9
            refine TL.run 10 [] [(2, .int .i64 time), (9, .slice A_2 r2.1.length c_2), (14, .slice A_4 r6.1.length c_4), (16, .slice A_5 r7.1.length c_5), (114, .bool r9)] rfl ⟨by kernel_rfl, by kernel_rfl⟩ ?_
            refine TL.split 114 r9 (by kernel_rfl) (fun h7 => ?_) (fun h7 => ?_)
            · refine TL.run 13 [] [(2, .int .i64 time), (9, .slice A_2 r2.1.length c_2), (14, .slice A_4 r6.1.length c_4), (16, .slice A_5 r7.1.length c_5), (114, .bool true), (117, .bool (decide (time < 0)))] rfl ⟨by kernel_rfl, by kernel_rfl⟩ ?_
              refine TL.split 117 (decide (time < 0)) (by kernel_rfl) (fun h8 => ?_) (fun h8 => ?_)
              · refine TL.run 26 [] [(6, .bool true)] rfl ⟨by kernel_rfl, by kernel_rfl⟩ ?_
                refine TL.next rfl ?_
                refine TC.ret ?_
                have e : skywaykeep2_MosaicOrder a b_ time = true := by subst hr1 hr2 hr3 hr4 hr6 hr7 hr8 hr9; unfold skywaykeep2_MosaicOrder; exact cond_f h1 (cond_f h2 (cond_f h3 (elim_l (hR.symm.trans hJ) (cond_t h6 (cond_t h7 (cond_t h8 (rfl)))))))
                exact TE.ret [] (.bool true) ⟨by kernel_rfl, by kernel_rfl⟩ (by rw [e]; first | done | kernel_rfl)
              · refine TL.run 17 [] [(9, .slice A_2 r2.1.length c_2), (14, .slice A_4 r6.1.length c_4), (16, .slice A_5 r7.1.length c_5), (114, .bool true), (121, .bool (decide (time > 200000)))] rfl ⟨by kernel_rfl, by kernel_rfl⟩ ?_
                refine TL.split 121 (decide (time > 200000)) (by kernel_rfl) (fun h9 => ?_) (fun h9 => ?_)
                · refine TL.run 26 [] [(6, .bool true)] rfl ⟨by kernel_rfl, by kernel_rfl⟩ ?_
                  refine TL.next rfl ?_
                  refine TC.ret ?_
                  have e : skywaykeep2_MosaicOrder a b_ time = true := by subst hr1 hr2 hr3 hr4 hr6 hr7 hr8 hr9; unfold skywaykeep2_MosaicOrder; exact cond_f h1 (cond_f h2 (cond_f h3 (elim_l (hR.symm.trans hJ) (cond_t h6 (cond_t h7 (cond_f h8 (cond_t h9 (rfl))))))))
                  exact TE.ret [] (.bool true) ⟨by kernel_rfl, by kernel_rfl⟩ (by rw [e]; first | done | kernel_rfl)
                · refine TL.run 19 [] [(9, .slice A_2 r2.1.length c_2), (114, .bool true), (121, .bool false), (122, .slice A_4 r6.1.length c_4), (123, .slice A_5 r7.1.length c_5)] rfl ⟨by kernel_rfl, by kernel_rfl⟩ ?_
                  refine TL.write 0 (fun b8 => [(9, .slice A_2 r2.1.length c_2), (114, .bool true), (121, .bool false), (124, .slice (some ⟨b8, 0, none⟩) 2 2)]) (fun b8 => [.inl (b8, .cells #[.slice A_4 r6.1.length c_4, .slice A_5 r7.1.length c_5] 41 (0, 0)), .inl (b7, .cells #[.int .i64 r6.2, .int .i64 r7.2] 25 (0, 0)), .inr (Own A_5 c_5 58 6 (r7.1.map Plot.c)), .inr (Own A_4 c_4 58 6 (r6.1.map Plot.c)), .inr (Own A_3 c_3 58 6 (r3.1.map Plot.c)), .inr (Own A_2 c_2 58 6 (r2.1.map Plot.c))]) (fun b8 => ⟨by kernel_rfl, by kernel_rfl⟩) (fun b8 => ?_)
                  refine TL.callN (Γ := (Option Addr × Nat)) (fun g => .slice g.1 ((slices_Concat_api_Plot_api_Plot ([r6.1, r7.1])).length) g.2) (fun g => [.inr (Own g.1 g.2 58 6 ((slices_Concat_api_Plot_api_Plot ([r6.1, r7.1])).map Plot.c))]) (fun g => [.inr (Own g.1 g.2 58 6 ((slices_Concat_api_Plot_api_Plot ([r6.1, r7.1])).map Plot.c)), .inl (b8, .cells #[.slice A_4 r6.1.length c_4, .slice A_5 r7.1.length c_5] 41 (0, 0)), .inl (b7, .cells #[.int .i64 r6.2, .int .i64 r7.2] 25 (0, 0)), .inr (Own A_5 c_5 58 6 (r7.1.map Plot.c)), .inr (Own A_4 c_4 58 6 (r6.1.map Plot.c)), .inr (Own A_3 c_3 58 6 (r3.1.map Plot.c)), .inr (Own A_2 c_2 58 6 (r2.1.map Plot.c))]) (fun g => rfl) (some 125) (fun g => [(9, .slice A_2 r2.1.length c_2), (114, .bool true), (121, .bool false), (125, .slice g.1 ((slices_Concat_api_Plot_api_Plot ([r6.1, r7.1])).length) g.2)]) (fun w hM => slices_Concat_api_Plot_api_Plot_w (some ⟨b8, 0, none⟩) 2 ([r6.1, r7.1]) ([(⟨A_4, c_4, r6.1⟩ : Sl Plot), (⟨A_5, c_5, r7.1⟩ : Sl Plot)]) w (Rd.lit hM 0 _ rfl (by kernel_rfl) (by kernel_rfl) (by kernel_rfl)) (Nat.le_refl _) (all_cons ⟨(hM.rd_at 3 rfl), (hM.le_at 3 rfl)⟩ (all_cons ⟨(hM.rd_at 2 rfl), (hM.le_at 2 rfl)⟩ all_nil)) (sl_cons rfl (sl_cons rfl rfl)) (by refine ⟨Nat.le_refl _, ?_⟩; intro s hs; rcases List.mem_cons.1 hs with rfl | hs; exact win_len hr6; rw [List.mem_singleton.1 hs]; exact win_len hr7)) (by kernel_rfl) (fun g => by kernel_rfl) ?_
                  rintro ⟨A_6, c_6⟩
                  generalize hr10 : slices_Concat_api_Plot_api_Plot ([r6.1, r7.1]) = r10
                  refine TL.know (fun w hM => hM.short_at 0 rfl) (fun s_r10_0 => ?_)
                  refine TL.run 22 [] [(114, .bool true), (121, .bool false), (125, .slice A_6 r10.length c_6), (126, .slice A_2 r2.1.length c_2)] rfl ⟨by kernel_rfl, by kernel_rfl⟩ ?_
                  refine TL.call (some 127) [(114, .bool true), (121, .bool false), (127, .bool ((slices_Equal_api_Plot_api_Plot r10 r2.1)))] (fun w hM => slices_Equal_api_Plot_api_Plot_w A_6 c_6 r10 A_2 c_2 r2.1 w (hM.rd_at 0 rfl) (hM.le_at 0 rfl) (hM.rd_at 6 rfl) (hM.le_at 6 rfl)) (by kernel_rfl) (by kernel_rfl) ?_
                  generalize hr11 : slices_Equal_api_Plot_api_Plot r10 r2.1 = r11
                  refine TL.run 26 [] [(6, .bool r11)] rfl ⟨by kernel_rfl, by kernel_rfl⟩ ?_
                  refine TL.next rfl ?_
                  refine TC.ret ?_
                  have e : skywaykeep2_MosaicOrder a b_ time = r11 := by subst hr1 hr2 hr3 hr4 hr6 hr7 hr8 hr9 hr10 hr11; unfold skywaykeep2_MosaicOrder; exact cond_f h1 (cond_f h2 (cond_f h3 (elim_l (hR.symm.trans hJ) (cond_t h6 (cond_t h7 (cond_f h8 (cond_f h9 (rfl))))))))
                  exact TE.ret [] (.bool r11) ⟨by kernel_rfl, by kernel_rfl⟩ (by rw [e]; first | done | kernel_rfl)
            · refine TL.run 26 [] [(6, .bool false)] rfl ⟨by kernel_rfl, by kernel_rfl⟩ ?_
              refine TL.next rfl ?_
              refine TC.ret ?_
              have e : skywaykeep2_MosaicOrder a b_ time = false := by subst hr1 hr2 hr3 hr4 hr6 hr7 hr8 hr9; unfold skywaykeep2_MosaicOrder; exact cond_f h1 (cond_f h2 (cond_f h3 (elim_l (hR.symm.trans hJ) (cond_t h6 (cond_f h7 (rfl))))))
              exact TE.ret [] (.bool false) ⟨by kernel_rfl, by kernel_rfl⟩ (by rw [e]; first | done | kernel_rfl)
          · refine TL.run 26 [] [(6, .bool false)] rfl ⟨by kernel_rfl, by kernel_rfl⟩ ?_
            refine TL.next rfl ?_
            refine TC.ret ?_
            have e : skywaykeep2_MosaicOrder a b_ time = false := by subst hr1 hr2 hr3 hr4 hr6 hr7 hr8; unfold skywaykeep2_MosaicOrder; exact cond_f h1 (cond_f h2 (cond_f h3 (elim_l (hR.symm.trans hJ) (cond_f h6 (rfl)))))
            exact TE.ret [] (.bool false) ⟨by kernel_rfl, by kernel_rfl⟩ (by rw [e]; first | done | kernel_rfl)

end Go.Sky
