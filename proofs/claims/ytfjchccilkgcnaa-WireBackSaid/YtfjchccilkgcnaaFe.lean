/- Functions of the program, each with the Lean function that it computes. Conditions: none. -/
import Derived.Test.YtfjchccilkgcnaaDecEq
namespace Go.Sky
open Go Go.Eng Go.Proofs
def skywaykeep2_fine_1 (e_ : Int) : Bool :=
  e_ != 0

set_option maxRecDepth 100000 in
theorem skywaykeep2_fine_1_w (e_ : Int) (w : World) : Calls Try.prog 67 #[.int .i64 e_] w (Ret w (.bool (skywaykeep2_fine_1 e_))) := by
  refine calls_intro (vs := [.int .i64 e_]) (w := w) Try.func67 rfl Try.ntmps67 rfl ?_
  refine TC.weak [(0, .int .i64 e_)] (by kernel_rfl) ?_
  refine TC.seq ?_
  refine TC.region ?_
  refine TL.run 1 [] [(0, .int .i64 e_)] rfl ⟨by kernel_rfl, by kernel_rfl⟩ ?_
  refine TL.next rfl ?_
  refine TC.seq ?_
  refine TC.region ?_
  refine TL.run 3 [] [(2, .bool (e_ != 0))] rfl ⟨by kernel_rfl, by kernel_rfl⟩ ?_
  refine TL.next rfl ?_
  refine TC.ret ?_
  have e : skywaykeep2_fine_1 e_ = (e_ != 0) := by unfold skywaykeep2_fine_1; exact rfl
  exact TE.ret [] (.bool (e_ != 0)) ⟨by kernel_rfl, by kernel_rfl⟩ (by rw [e]; first | done | kernel_rfl)

def IndexFunc_fine_L1 : List Int → Nat → ((Unit) ⊕ (Int))
  | [], _ => .inl ()
  | x :: xs, k => let r1 := skywaykeep2_fine_1 x
    cond r1 (
      .inr (k : Int)) (
      IndexFunc_fine_L1 xs (k + 1))
def IndexFunc_fine (s : List Int) : Int :=
  Sum.elim (fun _ =>
    (-1)) (fun r => r) (IndexFunc_fine_L1 s 0)

set_option maxRecDepth 100000 in
theorem IndexFunc_fine_w (A_s : Option Addr) (c_s : Nat) (s : List Int) (w : World) (h_s : Rd w 1 A_s (s.map ic)) (_hc_s : s.length ≤ c_s) : Calls Try.prog 103 #[.slice A_s s.length c_s, .func (.func 67) #[] #[]] w (Ret w (.int .i64 (IndexFunc_fine s))) := by
  have s_s := h_s.short; rw [List.length_map] at s_s
  refine calls_intro (vs := [.slice A_s s.length c_s, .func (.func 67) #[] #[]]) (w := w) Try.func103 rfl Try.ntmps103 rfl ?_
  refine TC.weak [(0, .slice A_s s.length c_s), (1, .func (.func 67) #[] #[])] (by kernel_rfl) ?_
  refine TC.seq ?_
  refine TC.region ?_
  refine TL.run 1 [] [(0, .slice A_s s.length c_s), (1, .func (.func 67) #[] #[])] rfl ⟨by kernel_rfl, by kernel_rfl⟩ ?_
  refine TL.next rfl ?_
  refine TC.seq ?_
  refine TC.seq ?_
  refine TC.region ?_
  refine TL.run 3 [] [(0, .slice A_s s.length c_s), (1, .func (.func 67) #[] #[]), (7, .int .i64 (s.length : Int)), (8, .int .i64 0)] rfl ⟨by kernel_rfl, by kernel_rfl⟩ ?_
  refine TL.next rfl ?_
  refine TC.weak [(0, .slice A_s s.length c_s), (1, .func (.func 67) #[] #[]), (7, .int .i64 (s.length : Int)), (8, .int .i64 0)] (by kernel_rfl) ?_
  obtain ⟨R1, hR⟩ : ∃ R, R = IndexFunc_fine_L1 s 0 := ⟨_, rfl⟩
  refine TC.cut (S := Unit) (fun (_ : Unit) => []) (fun (_ : Unit) => []) (fun (_ : Unit) => R1 = .inl ()) ?_ ?_
  · refine TC.block ?_
    refine TC.loop (X := Nat) (fun k => [(0, .slice A_s s.length c_s), (1, .func (.func 67) #[] #[]), (7, .int .i64 (s.length : Int)), (8, .int .i64 (k : Int))]) (fun k => []) (fun k => s.length - k) (fun k => k ≤ s.length ∧ R1 = IndexFunc_fine_L1 (s.drop k) k) ?_ 0 ⟨Nat.zero_le _, hR⟩
    rintro k ⟨hk, hI⟩
    refine TC.seq ?_
    refine TC.region ?_
    refine TL.run 1 [] [(0, .slice A_s s.length c_s), (1, .func (.func 67) #[] #[]), (7, .int .i64 (s.length : Int)), (8, .int .i64 (k : Int)), (9, .bool (decide ((k : Int) < (s.length : Int))))] rfl ⟨by kernel_rfl, by kernel_rfl⟩ ?_
    refine TL.next rfl ?_
    refine TC.seq ?_
    refine TC.cond (decide ((k : Int) < (s.length : Int))) rfl (by kernel_rfl) (fun h1 => ?_) (fun h1 => ?_)
    · have hlt : k < s.length := by have := of_decide_eq_true h1; first | omega | (simp at this; omega)
      obtain ⟨x, hx⟩ : ∃ e_, s[k]? = some e_ := ⟨_, List.getElem?_eq_getElem hlt⟩
      have hd := drop_at hx
      refine TC.skip ?_
      refine TE.next ?_
      refine TC.seq ?_
      refine TC.block ?_
      refine TC.seq ?_
      refine TC.region ?_
      refine TL.run 2 [] [(0, .slice A_s s.length c_s), (1, .func (.func 67) #[] #[]), (5, .int .i64 (k : Int)), (7, .int .i64 (s.length : Int)), (8, .int .i64 (k : Int))] rfl ⟨by kernel_rfl, by kernel_rfl⟩ ?_
      refine TL.next rfl ?_
      refine TC.seq ?_
      refine TC.region ?_
      refine TL.run 3 [] [(0, .slice A_s s.length c_s), (1, .func (.func 67) #[] #[]), (5, .int .i64 (k : Int)), (7, .int .i64 (s.length : Int)), (8, .int .i64 (k : Int)), (11, .func (.func 67) #[] #[]), (12, .slice A_s s.length c_s), (13, .int .i64 (k : Int))] rfl ⟨by kernel_rfl, by kernel_rfl⟩ ?_
      refine TL.val (sV (Instr.indexAt 123 (.slice A_s s.length c_s) (.int .i64 (k : Int)))) (some 14) (.pointer (some ((A_s.getD noAddr).add (k * 1)))) [(0, .slice A_s s.length c_s), (1, .func (.func 67) #[] #[]), (5, .int .i64 (k : Int)), (7, .int .i64 (s.length : Int)), (8, .int .i64 (k : Int)), (11, .func (.func 67) #[] #[]), (14, .pointer (some ((A_s.getD noAddr).add (k * 1))))] (fun w hM => run_index (h_s.sat hM) (by simp) (by kernel_rfl) (by first | omega | (rw [List.length_set]; omega) | (rw [w64_id (by omega)]; omega) | (dsimp only; omega) | (rw [List.length_drop]; omega) | (simp only [w64_eq]; omega) | (simp only [List.length_take] at *; omega) | (simp <;> omega)) (by first | omega | (rw [List.length_set]; omega) | (rw [w64_id (by omega)]; omega) | (dsimp only; omega) | (rw [List.length_drop]; omega) | (simp only [w64_eq]; omega) | (simp only [List.length_take] at *; omega) | (simp <;> omega))) (by kernel_rfl) (by kernel_rfl) ?_
      refine TL.val (sV (Instr.loadAt 25 (.pointer (some ((A_s.getD noAddr).add (k * 1)))))) (some 15) (.int .i64 x) [(0, .slice A_s s.length c_s), (1, .func (.func 67) #[] #[]), (5, .int .i64 (k : Int)), (7, .int .i64 (s.length : Int)), (8, .int .i64 (k : Int)), (11, .func (.func 67) #[] #[]), (15, .int .i64 x)] (fun w hM => run_load_one (off := 0) (i := k) (.int .i64 x) (h_s.sat hM) (map_at hx) (by kernel_rfl) (by kernel_rfl)) (by kernel_rfl) (by kernel_rfl) ?_
      refine TL.call (some 16) [(0, .slice A_s s.length c_s), (1, .func (.func 67) #[] #[]), (5, .int .i64 (k : Int)), (7, .int .i64 (s.length : Int)), (8, .int .i64 (k : Int)), (16, .bool ((skywaykeep2_fine_1 x)))] (fun w _ => skywaykeep2_fine_1_w x w) (by kernel_rfl) (by kernel_rfl) ?_
      generalize hr1 : skywaykeep2_fine_1 x = r1
      refine TL.next rfl ?_
      refine TC.cond r1 rfl (by kernel_rfl) (fun h2 => ?_) (fun h2 => ?_)
      · refine TC.seq ?_
        refine TC.region ?_
        refine TL.run 2 [] [(4, .int .i64 (k : Int))] rfl ⟨by kernel_rfl, by kernel_rfl⟩ ?_
        refine TL.next rfl ?_
        refine TC.ret ?_
        refine TE.ret_block (TE.ret_then (TE.ret_then (TE.ret_block (TE.ret_then (TE.ret_then ?_)))))
        have e : IndexFunc_fine s = (k : Int) := by subst hr1; unfold IndexFunc_fine; exact elim_r (hR.symm.trans (hI.trans (by rw [hd]; exact cond_t h2 (rfl)))) rfl
        exact TE.ret [] (.int .i64 (k : Int)) ⟨by kernel_rfl, by kernel_rfl⟩ (by rw [e]; first | done | kernel_rfl)
      · refine TC.skip ?_
        refine TE.normal_block ?_
        refine TE.next ?_
        refine TC.region ?_
        refine TL.run 2 [] [(0, .slice A_s s.length c_s), (1, .func (.func 67) #[] #[]), (7, .int .i64 (s.length : Int)), (8, .int .i64 (w64 ((k : Int) + 1)))] rfl ⟨by kernel_rfl, by kernel_rfl⟩ ?_
        refine TL.done rfl ?_
        refine TE.rw 8 (.int .i64 (w64 ((k : Int) + 1))) (.int .i64 ((k + 1 : Nat) : Int)) (by kernel_rfl) (w64_cast k (by omega)) ?_
        exact TE.again (x := k) (k + 1) ⟨by omega, hI.trans (by subst hr1; rw [hd]; exact cond_f h2 (rfl))⟩ (by show s.length - (k + 1) < s.length - k; omega) (by kernel_rfl) (.slnil)
    · have hd : s.drop k = [] := List.drop_eq_nil_of_le (by have := of_decide_eq_false h1; first | omega | (simp at this; omega))
      refine TC.exit ?_
      refine TE.exit_then (TE.exit_then (TE.exit_same ?_))
      exact TE.cut () (hI.trans (by rw [hd]; exact rfl)) (by kernel_rfl) (.slnil)
  · intro _ hJ
    refine TE.next ?_
    refine TC.seq ?_
    refine TC.region ?_
    refine TL.run 1 [] [(4, .int .i64 (-1))] rfl ⟨by kernel_rfl, by kernel_rfl⟩ ?_
    refine TL.next rfl ?_
    refine TC.ret ?_
    have e : IndexFunc_fine s = (-1) := by unfold IndexFunc_fine; exact elim_l (hR.symm.trans hJ) (rfl)
    exact TE.ret [] (.int .i64 (-1)) ⟨by kernel_rfl, by kernel_rfl⟩ (by rw [e]; first | done | kernel_rfl)

def ContainsFunc_fine (s : List Int) : Bool :=
  let r1 := IndexFunc_fine s
  decide (r1 ≥ 0)

set_option maxRecDepth 100000 in
theorem ContainsFunc_fine_w (A_s : Option Addr) (c_s : Nat) (s : List Int) (w : World) (h_s : Rd w 1 A_s (s.map ic)) (hc_s : s.length ≤ c_s) : Calls Try.prog 66 #[.slice A_s s.length c_s, .func (.func 67) #[] #[]] w (Ret w (.bool (ContainsFunc_fine s))) := by
  have s_s := h_s.short; rw [List.length_map] at s_s
  refine calls_intro (vs := [.slice A_s s.length c_s, .func (.func 67) #[] #[]]) (w := w) Try.func66 rfl Try.ntmps66 rfl ?_
  refine TC.weak [(0, .slice A_s s.length c_s), (1, .func (.func 67) #[] #[])] (by kernel_rfl) ?_
  refine TC.seq ?_
  refine TC.region ?_
  refine TL.run 1 [] [(0, .slice A_s s.length c_s), (1, .func (.func 67) #[] #[])] rfl ⟨by kernel_rfl, by kernel_rfl⟩ ?_
  refine TL.next rfl ?_
  refine TC.seq ?_
  refine TC.region ?_
  refine TL.run 2 [] [(5, .slice A_s s.length c_s), (6, .func (.func 67) #[] #[])] rfl ⟨by kernel_rfl, by kernel_rfl⟩ ?_
  refine TL.call (some 7) [(7, .int .i64 (IndexFunc_fine s))] (fun w hM => IndexFunc_fine_w A_s c_s s w (h_s.sat hM) hc_s) (by kernel_rfl) (by kernel_rfl) ?_
  generalize hr1 : IndexFunc_fine s = r1
  refine TL.run 5 [] [(4, .bool (decide (r1 ≥ 0)))] rfl ⟨by kernel_rfl, by kernel_rfl⟩ ?_
  refine TL.next rfl ?_
  refine TC.ret ?_
  have e : ContainsFunc_fine s = (decide (r1 ≥ 0)) := by subst hr1; unfold ContainsFunc_fine; exact rfl
  exact TE.ret [] (.bool (decide (r1 ≥ 0))) ⟨by kernel_rfl, by kernel_rfl⟩ (by rw [e]; first | done | kernel_rfl)

def skywaykeep2_fine (l : List Int) : Bool :=
  let r1 := ContainsFunc_fine l
  !r1

set_option maxRecDepth 100000 in
theorem skywaykeep2_fine_w (A_l : Option Addr) (c_l : Nat) (l : List Int) (w : World) (h_l : Rd w 1 A_l (l.map ic)) (hc_l : l.length ≤ c_l) : Calls Try.prog 32 #[.slice A_l l.length c_l] w (Ret w (.bool (skywaykeep2_fine l))) := by
  have s_l := h_l.short; rw [List.length_map] at s_l
  refine calls_intro (vs := [.slice A_l l.length c_l]) (w := w) Try.func32 rfl Try.ntmps32 rfl ?_
  refine TC.weak [(0, .slice A_l l.length c_l)] (by kernel_rfl) ?_
  refine TC.seq ?_
  refine TC.region ?_
  refine TL.run 1 [] [(0, .slice A_l l.length c_l)] rfl ⟨by kernel_rfl, by kernel_rfl⟩ ?_
  refine TL.next rfl ?_
  refine TC.seq ?_
  refine TC.region ?_
  refine TL.run 1 [] [(3, .slice A_l l.length c_l)] rfl ⟨by kernel_rfl, by kernel_rfl⟩ ?_
  refine TL.call (some 4) [(4, .bool ((ContainsFunc_fine l)))] (fun w hM => ContainsFunc_fine_w A_l c_l l w (h_l.sat hM) hc_l) (by kernel_rfl) (by kernel_rfl) ?_
  generalize hr1 : ContainsFunc_fine l = r1
  refine TL.run 4 [] [(2, .bool (!r1))] rfl ⟨by kernel_rfl, by kernel_rfl⟩ ?_
  refine TL.next rfl ?_
  refine TC.ret ?_
  have e : skywaykeep2_fine l = (!r1) := by subst hr1; unfold skywaykeep2_fine; exact rfl
  exact TE.ret [] (.bool (!r1)) ⟨by kernel_rfl, by kernel_rfl⟩ (by rw [e]; first | done | kernel_rfl)

def skywaykeep2_frames : Bool :=
  let r1 := wire_Encode (⟨3, 0, []⟩ : WireFrame)
  let r2 := wire_Decode r1.1
  let r3 := skywaykeep2_fine ([r1.2, r2.2.2])
  (r3 && (r2.2.1 == 11)) && (r2.1.Radar == 3)

set_option maxRecDepth 100000 in
theorem skywaykeep2_frames_w (w : World) : Calls Try.prog 24 #[] w (Ret w (.bool (skywaykeep2_frames))) := by
  refine calls_intro (vs := []) (w := w) Try.func24 rfl Try.ntmps24 rfl ?_
  refine TC.weak [] (by kernel_rfl) ?_
  refine TC.seq ?_
  refine TC.region ?_
  refine TL.run 1 [] [] rfl ⟨by kernel_rfl, by kernel_rfl⟩ ?_
  refine TL.next rfl ?_
  refine TC.seq ?_
  refine TC.region ?_
  refine TL.run 1 [] [(7, .agg #[.int .i64 3, .int .i64 0, .slice none 0 0])] rfl ⟨by kernel_rfl, by kernel_rfl⟩ ?_
  refine TL.call (some 8) [(8, .tuple #[.string ((wire_Encode (⟨3, 0, []⟩ : WireFrame)).1), .int .i64 ((wire_Encode (⟨3, 0, []⟩ : WireFrame)).2)])] (fun w hM => wire_Encode_w (⟨3, 0, []⟩ : WireFrame) none 0 w (Rd.nil _ _) (Nat.le_refl _)) (by kernel_rfl) (by kernel_rfl) ?_
  generalize hr1 : wire_Encode (⟨3, 0, []⟩ : WireFrame) = r1
  refine TL.run 7 [] [(1, .string r1.1), (2, .int .i64 r1.2)] rfl ⟨by kernel_rfl, by kernel_rfl⟩ ?_
  refine TL.next rfl ?_
  refine TC.seq ?_
  refine TC.region ?_
  refine TL.run 1 [] [(2, .int .i64 r1.2), (12, .string r1.1)] rfl ⟨by kernel_rfl, by kernel_rfl⟩ ?_
  refine TL.callN (Γ := (Option Addr × Nat)) (fun g => .tuple #[.agg #[.int .i64 (((wire_Decode r1.1).1).Radar), .int .i64 (((wire_Decode r1.1).1).Time), .slice g.1 ((((wire_Decode r1.1).1).Plots).length) g.2], .int .i64 ((wire_Decode r1.1).2.1), .int .i64 ((wire_Decode r1.1).2.2)]) (fun g => [.inr (Own g.1 g.2 58 6 ((((wire_Decode r1.1).1).Plots).map Plot.c))]) (fun g => [.inr (Own g.1 g.2 58 6 ((((wire_Decode r1.1).1).Plots).map Plot.c))]) (fun g => rfl) (some 13) (fun g => [(2, .int .i64 r1.2), (13, .tuple #[.agg #[.int .i64 (((wire_Decode r1.1).1).Radar), .int .i64 (((wire_Decode r1.1).1).Time), .slice g.1 ((((wire_Decode r1.1).1).Plots).length) g.2], .int .i64 ((wire_Decode r1.1).2.1), .int .i64 ((wire_Decode r1.1).2.2)])]) (fun w _ => wire_Decode_w r1.1 w (enc_size hr1)) (by kernel_rfl) (fun g => by kernel_rfl) ?_
  rintro ⟨A, c⟩
  generalize hr2 : wire_Decode r1.1 = r2
  refine TL.know (fun w hM => hM.short_at 0 rfl) (fun s_r2_0 => ?_)
  refine TL.run 6 [] [(2, .int .i64 r1.2), (14, .agg #[.int .i64 r2.1.Radar, .int .i64 r2.1.Time, .slice A r2.1.Plots.length c]), (15, .int .i64 r2.2.1), (16, .int .i64 r2.2.2)] rfl ⟨by kernel_rfl, by kernel_rfl⟩ ?_
  refine TL.write 0 (fun b1 => [(2, .int .i64 r1.2), (3, .pointer (some ⟨b1, 0, none⟩)), (14, .agg #[.int .i64 r2.1.Radar, .int .i64 r2.1.Time, .slice A r2.1.Plots.length c]), (15, .int .i64 r2.2.1), (16, .int .i64 r2.2.2)]) (fun b1 => [.inl (b1, .cells #[.int .i64 0, .int .i64 0, .slice none 0 0] 43 (0, 0)), .inr (Own A c 58 6 (r2.1.Plots.map Plot.c))]) (fun b1 => ⟨by kernel_rfl, by kernel_rfl⟩) (fun b1 => ?_)
  refine TL.write 0 (fun _ => [(2, .int .i64 r1.2), (3, .pointer (some ⟨b1, 0, none⟩)), (15, .int .i64 r2.2.1), (16, .int .i64 r2.2.2)]) (fun _ => [.inl (b1, .cells #[.int .i64 r2.1.Radar, .int .i64 r2.1.Time, .slice A r2.1.Plots.length c] 43 (0, 0)), .inr (Own A c 58 6 (r2.1.Plots.map Plot.c))]) (fun _ => ⟨by kernel_rfl, by kernel_rfl⟩) (fun _ => ?_)
  refine TL.run 10 [] [(2, .int .i64 r1.2), (3, .pointer (some ⟨b1, 0, none⟩)), (4, .int .i64 r2.2.1), (5, .int .i64 r2.2.2)] rfl ⟨by kernel_rfl, by kernel_rfl⟩ ?_
  refine TL.next rfl ?_
  refine TC.seq ?_
  refine TC.region ?_
  refine TL.run 2 [] [(3, .pointer (some ⟨b1, 0, none⟩)), (4, .int .i64 r2.2.1), (17, .int .i64 r1.2), (18, .int .i64 r2.2.2)] rfl ⟨by kernel_rfl, by kernel_rfl⟩ ?_
  refine TL.write 0 (fun b2 => [(3, .pointer (some ⟨b1, 0, none⟩)), (4, .int .i64 r2.2.1), (19, .slice (some ⟨b2, 0, none⟩) 2 2)]) (fun b2 => [.inl (b2, .cells #[.int .i64 r1.2, .int .i64 r2.2.2] 25 (0, 0)), .inl (b1, .cells #[.int .i64 r2.1.Radar, .int .i64 r2.1.Time, .slice A r2.1.Plots.length c] 43 (0, 0)), .inr (Own A c 58 6 (r2.1.Plots.map Plot.c))]) (fun b2 => ⟨by kernel_rfl, by kernel_rfl⟩) (fun b2 => ?_)
  refine TL.call (some 20) [(3, .pointer (some ⟨b1, 0, none⟩)), (4, .int .i64 r2.2.1), (20, .bool ((skywaykeep2_fine ([r1.2, r2.2.2]))))] (fun w hM => skywaykeep2_fine_w (some ⟨b2, 0, none⟩) 2 ([r1.2, r2.2.2]) w (Rd.lit hM 0 _ rfl (by kernel_rfl) (by kernel_rfl) (by kernel_rfl)) (Nat.le_refl _)) (by kernel_rfl) (by kernel_rfl) ?_
  generalize hr3 : skywaykeep2_fine ([r1.2, r2.2.2]) = r3
  refine TL.run 5 [] [(3, .pointer (some ⟨b1, 0, none⟩)), (4, .int .i64 r2.2.1), (21, .bool r3)] rfl ⟨by kernel_rfl, by kernel_rfl⟩ ?_
  refine TL.join 21 r3 8 [] [] (fun β => [(3, .pointer (some ⟨b1, 0, none⟩)), (24, .bool (β && (r2.2.1 == 11)))]) (by kernel_rfl) rfl ⟨by kernel_rfl, by kernel_rfl⟩ ⟨by kernel_rfl, by kernel_rfl⟩ ?_
  refine TL.run 9 [] [(3, .pointer (some ⟨b1, 0, none⟩)), (25, .bool (r3 && (r2.2.1 == 11)))] rfl ⟨by kernel_rfl, by kernel_rfl⟩ ?_
  refine TL.join 25 (r3 && (r2.2.1 == 11)) 13 [1] [] (fun β => [(29, .bool (β && (r2.1.Radar == 3)))]) (by kernel_rfl) rfl ⟨by kernel_rfl, by kernel_rfl⟩ ⟨by kernel_rfl, by kernel_rfl⟩ ?_
  refine TL.run 14 [] [(0, .bool ((r3 && (r2.2.1 == 11)) && (r2.1.Radar == 3)))] rfl ⟨by kernel_rfl, by kernel_rfl⟩ ?_
  refine TL.next rfl ?_
  refine TC.ret ?_
  have e : skywaykeep2_frames = ((r3 && (r2.2.1 == 11)) && (r2.1.Radar == 3)) := by subst hr1 hr2 hr3; unfold skywaykeep2_frames; exact rfl
  exact TE.ret [] (.bool ((r3 && (r2.2.1 == 11)) && (r2.1.Radar == 3))) ⟨by kernel_rfl, by kernel_rfl⟩ (by rw [e]; first | done | kernel_rfl)

def skywaykeep2_WireUnique (s : ByteArray) : Bool :=
  let r1 := skywaykeep2_frames
  cond (!r1) (
    false) (
    let r2 := wire_Decode s
    cond (r2.2.2 != 0) (
      (r2.2.1 == 0) && ((r2.1.Plots.length : Int) == 0)) (
      let r3 := wire_Encode r2.1
      cond ((r3.2 == 0) && (decide (r2.2.1 ≤ (s.size : Int)))) (
        seq r3.1 ((s).extract 0 r2.2.1.toNat)) (
        false)))

set_option maxRecDepth 100000 in
theorem skywaykeep2_WireUnique_w (s : ByteArray) (w : World) (hs : s.size ≤ 140737488355328) : Calls Try.prog 6 #[.string s] w (Ret w (.bool (skywaykeep2_WireUnique s))) := by
  refine calls_intro (vs := [.string s]) (w := w) Try.func6 rfl Try.ntmps6 rfl ?_
  refine TC.weak [(0, .string s)] (by kernel_rfl) ?_
  refine TC.seq ?_
  refine TC.region ?_
  refine TL.run 1 [] [(0, .string s)] rfl ⟨by kernel_rfl, by kernel_rfl⟩ ?_
  refine TL.next rfl ?_
  refine TC.seq ?_
  refine TC.seq ?_
  refine TC.region ?_
  refine TL.call (some 8) [(0, .string s), (8, .bool ((skywaykeep2_frames)))] (fun w _ => skywaykeep2_frames_w w) (by kernel_rfl) (by kernel_rfl) ?_
  generalize hr1 : skywaykeep2_frames = r1
  refine TL.run 2 [] [(0, .string s), (9, .bool (!r1))] rfl ⟨by kernel_rfl, by kernel_rfl⟩ ?_
  refine TL.next rfl ?_
  refine TC.cond (!r1) rfl (by kernel_rfl) (fun h1 => ?_) (fun h1 => ?_)
  · refine TC.seq ?_
    refine TC.region ?_
    refine TL.run 1 [] [(2, .bool false)] rfl ⟨by kernel_rfl, by kernel_rfl⟩ ?_
    refine TL.next rfl ?_
    refine TC.ret ?_
    refine TE.ret_then ?_
    have e : skywaykeep2_WireUnique s = false := by subst hr1; unfold skywaykeep2_WireUnique; exact cond_t h1 (rfl)
    exact TE.ret [] (.bool false) ⟨by kernel_rfl, by kernel_rfl⟩ (by rw [e]; first | done | kernel_rfl)
  · refine TC.skip ?_
    refine TE.next ?_
    refine TC.seq ?_
    refine TC.region ?_
    refine TL.run 1 [] [(0, .string s), (11, .string s)] rfl ⟨by kernel_rfl, by kernel_rfl⟩ ?_
    refine TL.callN (Γ := (Option Addr × Nat)) (fun g => .tuple #[.agg #[.int .i64 (((wire_Decode s).1).Radar), .int .i64 (((wire_Decode s).1).Time), .slice g.1 ((((wire_Decode s).1).Plots).length) g.2], .int .i64 ((wire_Decode s).2.1), .int .i64 ((wire_Decode s).2.2)]) (fun g => [.inr (Own g.1 g.2 58 6 ((((wire_Decode s).1).Plots).map Plot.c))]) (fun g => [.inr (Own g.1 g.2 58 6 ((((wire_Decode s).1).Plots).map Plot.c))]) (fun g => rfl) (some 12) (fun g => [(0, .string s), (12, .tuple #[.agg #[.int .i64 (((wire_Decode s).1).Radar), .int .i64 (((wire_Decode s).1).Time), .slice g.1 ((((wire_Decode s).1).Plots).length) g.2], .int .i64 ((wire_Decode s).2.1), .int .i64 ((wire_Decode s).2.2)])]) (fun w _ => wire_Decode_w s w hs) (by kernel_rfl) (fun g => by kernel_rfl) ?_
    rintro ⟨A, c⟩
    generalize hr2 : wire_Decode s = r2
    refine TL.know (fun w hM => hM.short_at 0 rfl) (fun s_r2_0 => ?_)
    refine TL.run 6 [] [(0, .string s), (13, .agg #[.int .i64 r2.1.Radar, .int .i64 r2.1.Time, .slice A r2.1.Plots.length c]), (14, .int .i64 r2.2.1), (15, .int .i64 r2.2.2)] rfl ⟨by kernel_rfl, by kernel_rfl⟩ ?_
    refine TL.write 0 (fun b1 => [(0, .string s), (3, .pointer (some ⟨b1, 0, none⟩)), (13, .agg #[.int .i64 r2.1.Radar, .int .i64 r2.1.Time, .slice A r2.1.Plots.length c]), (14, .int .i64 r2.2.1), (15, .int .i64 r2.2.2)]) (fun b1 => [.inl (b1, .cells #[.int .i64 0, .int .i64 0, .slice none 0 0] 43 (0, 0)), .inr (Own A c 58 6 (r2.1.Plots.map Plot.c))]) (fun b1 => ⟨by kernel_rfl, by kernel_rfl⟩) (fun b1 => ?_)
    refine TL.write 0 (fun _ => [(0, .string s), (3, .pointer (some ⟨b1, 0, none⟩)), (14, .int .i64 r2.2.1), (15, .int .i64 r2.2.2)]) (fun _ => [.inl (b1, .cells #[.int .i64 r2.1.Radar, .int .i64 r2.1.Time, .slice A r2.1.Plots.length c] 43 (0, 0)), .inr (Own A c 58 6 (r2.1.Plots.map Plot.c))]) (fun _ => ⟨by kernel_rfl, by kernel_rfl⟩) (fun _ => ?_)
    refine TL.run 10 [] [(0, .string s), (3, .pointer (some ⟨b1, 0, none⟩)), (4, .int .i64 r2.2.1), (5, .int .i64 r2.2.2)] rfl ⟨by kernel_rfl, by kernel_rfl⟩ ?_
    refine TL.next rfl ?_
    refine TC.seq ?_
    refine TC.seq ?_
    refine TC.region ?_
    refine TL.run 2 [] [(0, .string s), (3, .pointer (some ⟨b1, 0, none⟩)), (4, .int .i64 r2.2.1), (17, .bool (r2.2.2 != 0))] rfl ⟨by kernel_rfl, by kernel_rfl⟩ ?_
    refine TL.next rfl ?_
    refine TC.cond (r2.2.2 != 0) rfl (by kernel_rfl) (fun h2 => ?_) (fun h2 => ?_)
    · refine TC.seq ?_
      refine TC.region ?_
      refine TL.run 3 [] [(3, .pointer (some ⟨b1, 0, none⟩)), (20, .bool (r2.2.1 == 0))] rfl ⟨by kernel_rfl, by kernel_rfl⟩ ?_
      refine TL.join 20 (r2.2.1 == 0) 8 [0] [] (fun β => [(25, .bool (β && ((r2.1.Plots.length : Int) == 0)))]) (by kernel_rfl) rfl ⟨by kernel_rfl, by kernel_rfl⟩ ⟨by kernel_rfl, by kernel_rfl⟩ ?_
      refine TL.run 9 [] [(2, .bool ((r2.2.1 == 0) && ((r2.1.Plots.length : Int) == 0)))] rfl ⟨by kernel_rfl, by kernel_rfl⟩ ?_
      refine TL.next rfl ?_
      refine TC.ret ?_
      refine TE.ret_then ?_
      have e : skywaykeep2_WireUnique s = ((r2.2.1 == 0) && ((r2.1.Plots.length : Int) == 0)) := by subst hr1 hr2; unfold skywaykeep2_WireUnique; exact cond_f h1 (cond_t h2 (rfl))
      exact TE.ret [] (.bool ((r2.2.1 == 0) && ((r2.1.Plots.length : Int) == 0))) ⟨by kernel_rfl, by kernel_rfl⟩ (by rw [e]; first | done | kernel_rfl)
    · refine TC.skip ?_
      refine TE.next ?_
      refine TC.seq ?_
      refine TC.region ?_
      refine TL.run 1 [0] [(0, .string s), (4, .int .i64 r2.2.1), (27, .agg #[.int .i64 r2.1.Radar, .int .i64 r2.1.Time, .slice A r2.1.Plots.length c])] rfl ⟨by kernel_rfl, by kernel_rfl⟩ ?_
      refine TL.call (some 28) [(0, .string s), (4, .int .i64 r2.2.1), (28, .tuple #[.string ((wire_Encode r2.1).1), .int .i64 ((wire_Encode r2.1).2)])] (fun w hM => wire_Encode_w r2.1 A c w (hM.rd_at 1 rfl) (hM.le_at 1 rfl)) (by kernel_rfl) (by kernel_rfl) ?_
      generalize hr3 : wire_Encode r2.1 = r3
      refine TL.run 7 [] [(0, .string s), (4, .int .i64 r2.2.1), (6, .string r3.1), (7, .int .i64 r3.2)] rfl ⟨by kernel_rfl, by kernel_rfl⟩ ?_
      refine TL.next rfl ?_
      refine TC.seq ?_
      refine TC.region ?_
      refine TL.run 3 [] [(0, .string s), (4, .int .i64 r2.2.1), (6, .string r3.1), (33, .bool (r3.2 == 0))] rfl ⟨by kernel_rfl, by kernel_rfl⟩ ?_
      refine TL.join 33 (r3.2 == 0) 8 [] [] (fun β => [(0, .string s), (4, .int .i64 r2.2.1), (6, .string r3.1), (38, .bool (β && (decide (r2.2.1 ≤ (s.size : Int)))))]) (by kernel_rfl) rfl ⟨by kernel_rfl, by kernel_rfl⟩ ⟨by kernel_rfl, by kernel_rfl⟩ ?_
      refine TL.run 9 [] [(0, .string s), (4, .int .i64 r2.2.1), (6, .string r3.1), (39, .bool ((r3.2 == 0) && (decide (r2.2.1 ≤ (s.size : Int)))))] rfl ⟨by kernel_rfl, by kernel_rfl⟩ ?_
      refine TL.split 39 ((r3.2 == 0) && (decide (r2.2.1 ≤ (s.size : Int)))) (by kernel_rfl) (fun h3 => ?_) (fun h3 => ?_)
      · refine TL.run 12 [] [(39, .bool true), (40, .string r3.1), (41, .string s), (42, .int .i64 r2.2.1)] rfl ⟨by kernel_rfl, by kernel_rfl⟩ ?_
        refine TL.val (sV (Instr.sliceAt 9 (.string s) none (some (.int .i64 r2.2.1)) none)) (some 43) (.string ((s).extract 0 r2.2.1.toNat)) [(39, .bool true), (40, .string r3.1), (43, .string ((s).extract 0 r2.2.1.toNat))] (fun w hM => run_str_slice 0 r2.2.1.toNat (by kernel_rfl) (.inl ⟨rfl, rfl⟩) (.inr ⟨_, _, rfl, (by have q0_ := (bne_f h2); have q1_ := (beq_t (and_t1 h3)); have q2_ := (dec_t (and_t2 h3)); (try have kn_ := dec_nn hr2); first | omega | (simp only [ByteArray.size_extract, size_strOf]; omega) | (simp only [w64_eq]; omega)), rfl⟩) (by have q0_ := (bne_f h2); have q1_ := (beq_t (and_t1 h3)); have q2_ := (dec_t (and_t2 h3)); (try have kn_ := dec_nn hr2); first | omega | (simp only [ByteArray.size_extract, size_strOf]; omega) | (simp only [w64_eq]; omega)) (by have q0_ := (bne_f h2); have q1_ := (beq_t (and_t1 h3)); have q2_ := (dec_t (and_t2 h3)); (try have kn_ := dec_nn hr2); first | omega | (simp only [ByteArray.size_extract, size_strOf]; omega) | (simp only [w64_eq]; omega))) (by kernel_rfl) (by kernel_rfl) ?_
        refine TL.run 16 [] [(2, .bool (seq r3.1 ((s).extract 0 r2.2.1.toNat)))] rfl ⟨by kernel_rfl, by kernel_rfl⟩ ?_
        refine TL.next rfl ?_
        refine TC.ret ?_
        have e : skywaykeep2_WireUnique s = (seq r3.1 ((s).extract 0 r2.2.1.toNat)) := by subst hr1 hr2 hr3; unfold skywaykeep2_WireUnique; exact cond_f h1 (cond_f h2 (cond_t h3 (rfl)))
        exact TE.ret [] (.bool (seq r3.1 ((s).extract 0 r2.2.1.toNat))) ⟨by kernel_rfl, by kernel_rfl⟩ (by rw [e]; first | done | kernel_rfl)
      · refine TL.run 16 [] [(2, .bool false)] rfl ⟨by kernel_rfl, by kernel_rfl⟩ ?_
        refine TL.next rfl ?_
        refine TC.ret ?_
        have e : skywaykeep2_WireUnique s = false := by subst hr1 hr2 hr3; unfold skywaykeep2_WireUnique; exact cond_f h1 (cond_f h2 (cond_f h3 (rfl)))
        exact TE.ret [] (.bool false) ⟨by kernel_rfl, by kernel_rfl⟩ (by rw [e]; first | done | kernel_rfl)

end Go.Sky
