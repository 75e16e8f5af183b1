/- Functions of the program, each with the Lean function that it computes. Conditions: none. -/
import Derived.Test.YtkjdmkgacmkpjaaWb
import Derived.Test.YtkjdmkgacmkpjaaPred
import Derived.Test.YtkjdmkgacmkpjaaThick
namespace Go.Sky
open Go Go.Eng Go.Proofs
def terrain_out (n : Int) (low : Int) (high : Int) : Bool :=
  (decide (n < low)) || (decide (n > high))

set_option maxRecDepth 100000 in
theorem terrain_out_w (n : Int) (low : Int) (high : Int) (w : World) : Calls Try.prog 74 #[.int .i64 n, .int .i64 low, .int .i64 high] w (Ret w (.bool (terrain_out n low high))) := by
  refine calls_intro (vs := [.int .i64 n, .int .i64 low, .int .i64 high]) (w := w) Try.func74 rfl Try.ntmps74 rfl ?_
  refine TC.weak [(0, .int .i64 n), (1, .int .i64 low), (2, .int .i64 high)] (by kernel_rfl) ?_
  refine TC.seq ?_
  refine TC.region ?_
  refine TL.run 1 [] [(0, .int .i64 n), (1, .int .i64 low), (2, .int .i64 high)] rfl ⟨by kernel_rfl, by kernel_rfl⟩ ?_
  refine TL.next rfl ?_
  refine TC.seq ?_
  refine TC.region ?_
  refine TL.run 4 [] [(0, .int .i64 n), (2, .int .i64 high), (10, .bool (decide (n < low)))] rfl ⟨by kernel_rfl, by kernel_rfl⟩ ?_
  refine TL.join 10 (decide (n < low)) 8 [] [] (fun β => [(14, .bool (β || (decide (n > high))))]) (by kernel_rfl) rfl ⟨by kernel_rfl, by kernel_rfl⟩ ⟨by kernel_rfl, by kernel_rfl⟩ ?_
  refine TL.run 9 [] [(6, .bool ((decide (n < low)) || (decide (n > high))))] rfl ⟨by kernel_rfl, by kernel_rfl⟩ ?_
  refine TL.next rfl ?_
  refine TC.ret ?_
  have e : terrain_out n low high = ((decide (n < low)) || (decide (n > high))) := by unfold terrain_out; exact rfl
  exact TE.ret [] (.bool ((decide (n < low)) || (decide (n > high)))) ⟨by kernel_rfl, by kernel_rfl⟩ (by rw [e]; first | done | kernel_rfl)

def terrain_Check_L1 : List Int → Nat → ((Unit) ⊕ (Int))
  | [], _ => .inl ()
  | x :: xs, k => let r5 := terrain_out x 0 60000
    cond r5 (
      .inr 4) (
      terrain_Check_L1 xs (k + 1))
def terrain_Check (g_ : TerrainGrid) : Int :=
  let r1 := terrain_out g_.NX 1 32
  cond r1 (
    4) (
    let r2 := terrain_out g_.NY 1 32
    cond r2 (
      4) (
      let r3 := terrain_out g_.Size 1 1000000
      cond r3 (
        4) (
        let r4 := plane_Check g_.At
        cond (r4 != 0) (
          4) (
          cond ((g_.Heights.length : Int) != (w64 (g_.NX * g_.NY))) (
            3) (
            Sum.elim (fun _ =>
              0) (fun r => r) (terrain_Check_L1 g_.Heights 0))))))

set_option maxRecDepth 100000 in
theorem terrain_Check_w (g_ : TerrainGrid) (A_g__Heights : Option Addr) (c_g__Heights : Nat) (w : World) (h_g__Heights : Rd w 1 A_g__Heights (g_.Heights.map ic)) (_hc_g__Heights : g_.Heights.length ≤ c_g__Heights) : Calls Try.prog 41 #[.agg #[.int .i64 g_.At.X, .int .i64 g_.At.Y, .int .i64 g_.Size, .int .i64 g_.NX, .int .i64 g_.NY, .slice A_g__Heights g_.Heights.length c_g__Heights]] w (Ret w (.int .i64 (terrain_Check g_))) := by
  have s_g__Heights := h_g__Heights.short; rw [List.length_map] at s_g__Heights
  refine calls_intro (vs := [.agg #[.int .i64 g_.At.X, .int .i64 g_.At.Y, .int .i64 g_.Size, .int .i64 g_.NX, .int .i64 g_.NY, .slice A_g__Heights g_.Heights.length c_g__Heights]]) (w := w) Try.func41 rfl Try.ntmps41 rfl ?_
  refine TC.weak [(0, .agg #[.int .i64 g_.At.X, .int .i64 g_.At.Y, .int .i64 g_.Size, .int .i64 g_.NX, .int .i64 g_.NY, .slice A_g__Heights g_.Heights.length c_g__Heights])] (by kernel_rfl) ?_
  refine TC.seq ?_
  refine TC.region ?_
  refine TL.write 0 (fun b1 => [(1, .pointer (some ⟨b1, 0, none⟩))]) (fun b1 => [.inl (b1, .cells #[.int .i64 g_.At.X, .int .i64 g_.At.Y, .int .i64 g_.Size, .int .i64 g_.NX, .int .i64 g_.NY, .slice A_g__Heights g_.Heights.length c_g__Heights] 73 (0, 0))]) (fun b1 => ⟨by kernel_rfl, by kernel_rfl⟩) (fun b1 => ?_)
  refine TL.run 2 [] [(1, .pointer (some ⟨b1, 0, none⟩))] rfl ⟨by kernel_rfl, by kernel_rfl⟩ ?_
  refine TL.next rfl ?_
  refine TC.seq ?_
  refine TC.block ?_
  refine TC.seq ?_
  refine TC.region ?_
  refine TL.run 2 [0] [(1, .pointer (some ⟨b1, 0, none⟩)), (7, .int .i64 g_.NX)] rfl ⟨by kernel_rfl, by kernel_rfl⟩ ?_
  refine TL.call (some 8) [(1, .pointer (some ⟨b1, 0, none⟩)), (8, .bool ((terrain_out g_.NX 1 32)))] (fun w _ => terrain_out_w g_.NX 1 32 w) (by kernel_rfl) (by kernel_rfl) ?_
  generalize hr1 : terrain_out g_.NX 1 32 = r1
  refine TL.run 4 [] [(1, .pointer (some ⟨b1, 0, none⟩)), (9, .bool r1)] rfl ⟨by kernel_rfl, by kernel_rfl⟩ ?_
  refine TL.split 9 r1 (by kernel_rfl) (fun h1 => ?_) (fun h1 => ?_)
  · refine TL.run 20 [] [(1, .pointer (some ⟨b1, 0, none⟩)), (5, .bool true)] rfl ⟨by kernel_rfl, by kernel_rfl⟩ ?_
    refine TL.next rfl ?_
    refine TC.condT rfl (by kernel_rfl) ?_
    refine TC.seq ?_
    refine TC.region ?_
    refine TL.run 1 [] [(2, .int .i64 4)] rfl ⟨by kernel_rfl, by kernel_rfl⟩ ?_
    refine TL.next rfl ?_
    refine TC.ret ?_
    refine TE.ret_block (TE.ret_then ?_)
    have e : terrain_Check g_ = 4 := by subst hr1; unfold terrain_Check; exact cond_t h1 (rfl)
    exact TE.ret [] (.int .i64 4) ⟨by kernel_rfl, by kernel_rfl⟩ (by rw [e]; first | done | kernel_rfl)
  · refine TL.run 6 [0] [(1, .pointer (some ⟨b1, 0, none⟩)), (9, .bool false), (11, .int .i64 g_.NY)] rfl ⟨by kernel_rfl, by kernel_rfl⟩ ?_
    refine TL.call (some 12) [(1, .pointer (some ⟨b1, 0, none⟩)), (9, .bool false), (12, .bool ((terrain_out g_.NY 1 32)))] (fun w _ => terrain_out_w g_.NY 1 32 w) (by kernel_rfl) (by kernel_rfl) ?_
    generalize hr2 : terrain_out g_.NY 1 32 = r2
    refine TL.run 9 [] [(1, .pointer (some ⟨b1, 0, none⟩)), (14, .bool r2)] rfl ⟨by kernel_rfl, by kernel_rfl⟩ ?_
    refine TL.split 14 r2 (by kernel_rfl) (fun h2 => ?_) (fun h2 => ?_)
    · refine TL.run 20 [] [(1, .pointer (some ⟨b1, 0, none⟩)), (5, .bool true)] rfl ⟨by kernel_rfl, by kernel_rfl⟩ ?_
      refine TL.next rfl ?_
      refine TC.condT rfl (by kernel_rfl) ?_
      refine TC.seq ?_
      refine TC.region ?_
      refine TL.run 1 [] [(2, .int .i64 4)] rfl ⟨by kernel_rfl, by kernel_rfl⟩ ?_
      refine TL.next rfl ?_
      refine TC.ret ?_
      refine TE.ret_block (TE.ret_then ?_)
      have e : terrain_Check g_ = 4 := by subst hr1 hr2; unfold terrain_Check; exact cond_f h1 (cond_t h2 (rfl))
      exact TE.ret [] (.int .i64 4) ⟨by kernel_rfl, by kernel_rfl⟩ (by rw [e]; first | done | kernel_rfl)
    · refine TL.run 11 [0] [(1, .pointer (some ⟨b1, 0, none⟩)), (14, .bool false), (16, .int .i64 g_.Size)] rfl ⟨by kernel_rfl, by kernel_rfl⟩ ?_
      refine TL.call (some 17) [(1, .pointer (some ⟨b1, 0, none⟩)), (14, .bool false), (17, .bool ((terrain_out g_.Size 1 1000000)))] (fun w _ => terrain_out_w g_.Size 1 1000000 w) (by kernel_rfl) (by kernel_rfl) ?_
      generalize hr3 : terrain_out g_.Size 1 1000000 = r3
      refine TL.run 14 [] [(1, .pointer (some ⟨b1, 0, none⟩)), (19, .bool r3)] rfl ⟨by kernel_rfl, by kernel_rfl⟩ ?_
      refine TL.split 19 r3 (by kernel_rfl) (fun h3 => ?_) (fun h3 => ?_)
      · refine TL.run 20 [] [(1, .pointer (some ⟨b1, 0, none⟩)), (5, .bool true)] rfl ⟨by kernel_rfl, by kernel_rfl⟩ ?_
        refine TL.next rfl ?_
        refine TC.condT rfl (by kernel_rfl) ?_
        refine TC.seq ?_
        refine TC.region ?_
        refine TL.run 1 [] [(2, .int .i64 4)] rfl ⟨by kernel_rfl, by kernel_rfl⟩ ?_
        refine TL.next rfl ?_
        refine TC.ret ?_
        refine TE.ret_block (TE.ret_then ?_)
        have e : terrain_Check g_ = 4 := by subst hr1 hr2 hr3; unfold terrain_Check; exact cond_f h1 (cond_f h2 (cond_t h3 (rfl)))
        exact TE.ret [] (.int .i64 4) ⟨by kernel_rfl, by kernel_rfl⟩ (by rw [e]; first | done | kernel_rfl)
      · refine TL.run 16 [0] [(1, .pointer (some ⟨b1, 0, none⟩)), (19, .bool false), (21, P.v g_.At)] rfl ⟨by kernel_rfl, by kernel_rfl⟩ ?_
        refine TL.call (some 22) [(1, .pointer (some ⟨b1, 0, none⟩)), (19, .bool false), (22, .int .i64 (plane_Check g_.At))] (fun w _ => plane_Check_w g_.At w) (by kernel_rfl) (by kernel_rfl) ?_
        generalize hr4 : plane_Check g_.At = r4
        refine TL.run 20 [] [(1, .pointer (some ⟨b1, 0, none⟩)), (5, .bool (r4 != 0))] rfl ⟨by kernel_rfl, by kernel_rfl⟩ ?_
        refine TL.next rfl ?_
        refine TC.cond (r4 != 0) rfl (by kernel_rfl) (fun h4 => ?_) (fun h4 => ?_)
        · refine TC.seq ?_
          refine TC.region ?_
          refine TL.run 1 [] [(2, .int .i64 4)] rfl ⟨by kernel_rfl, by kernel_rfl⟩ ?_
          refine TL.next rfl ?_
          refine TC.ret ?_
          refine TE.ret_block (TE.ret_then ?_)
          have e : terrain_Check g_ = 4 := by subst hr1 hr2 hr3 hr4; unfold terrain_Check; exact cond_f h1 (cond_f h2 (cond_f h3 (cond_t h4 (rfl))))
          exact TE.ret [] (.int .i64 4) ⟨by kernel_rfl, by kernel_rfl⟩ (by rw [e]; first | done | kernel_rfl)
        · refine TC.seq ?_
          refine TC.region ?_
          refine TL.run 10 [0, 0, 0] [(1, .pointer (some ⟨b1, 0, none⟩)), (25, .bool ((g_.Heights.length : Int) != (w64 (g_.NX * g_.NY))))] rfl ⟨by kernel_rfl, by kernel_rfl⟩ ?_
          refine TL.next rfl ?_
          refine TC.cond ((g_.Heights.length : Int) != (w64 (g_.NX * g_.NY))) rfl (by kernel_rfl) (fun h5 => ?_) (fun h5 => ?_)
          · refine TC.seq ?_
            refine TC.region ?_
            refine TL.run 1 [] [(2, .int .i64 3)] rfl ⟨by kernel_rfl, by kernel_rfl⟩ ?_
            refine TL.next rfl ?_
            refine TC.ret ?_
            refine TE.ret_block (TE.ret_then ?_)
            have e : terrain_Check g_ = 3 := by subst hr1 hr2 hr3 hr4; unfold terrain_Check; exact cond_f h1 (cond_f h2 (cond_f h3 (cond_f h4 (cond_t h5 (rfl)))))
            exact TE.ret [] (.int .i64 3) ⟨by kernel_rfl, by kernel_rfl⟩ (by rw [e]; first | done | kernel_rfl)
          · refine TC.skip ?_
            refine TE.normal_block ?_
            refine TE.next ?_
            refine TC.seq ?_
            refine TC.seq ?_
            refine TC.region ?_
            refine TL.run 4 [0] [(36, .slice A_g__Heights g_.Heights.length c_g__Heights), (37, .int .i64 (g_.Heights.length : Int)), (38, .int .i64 0)] rfl ⟨by kernel_rfl, by kernel_rfl⟩ ?_
            refine TL.next rfl ?_
            refine TC.weak [(36, .slice A_g__Heights g_.Heights.length c_g__Heights), (37, .int .i64 (g_.Heights.length : Int)), (38, .int .i64 0)] (by kernel_rfl) ?_
            refine TC.forget [] (.cons _ (.slnil)) ?_
            obtain ⟨R1, hR⟩ : ∃ R, R = terrain_Check_L1 g_.Heights 0 := ⟨_, rfl⟩
            refine TC.cut (S := Unit) (fun (_ : Unit) => []) (fun (_ : Unit) => []) (fun (_ : Unit) => R1 = .inl ()) ?_ ?_
            · refine TC.block ?_
              refine TC.loop (X := Nat) (fun k => [(36, .slice A_g__Heights g_.Heights.length c_g__Heights), (37, .int .i64 (g_.Heights.length : Int)), (38, .int .i64 (k : Int))]) (fun k => []) (fun k => g_.Heights.length - k) (fun k => k ≤ g_.Heights.length ∧ R1 = terrain_Check_L1 (g_.Heights.drop k) k) ?_ 0 ⟨Nat.zero_le _, hR⟩
              rintro k ⟨hk, hI⟩
              refine TC.seq ?_
              refine TC.region ?_
              refine TL.run 1 [] [(36, .slice A_g__Heights g_.Heights.length c_g__Heights), (37, .int .i64 (g_.Heights.length : Int)), (38, .int .i64 (k : Int)), (39, .bool (decide ((k : Int) < (g_.Heights.length : Int))))] rfl ⟨by kernel_rfl, by kernel_rfl⟩ ?_
              refine TL.next rfl ?_
              refine TC.seq ?_
              refine TC.cond (decide ((k : Int) < (g_.Heights.length : Int))) rfl (by kernel_rfl) (fun h6 => ?_) (fun h6 => ?_)
              · have hlt : k < g_.Heights.length := by have := of_decide_eq_true h6; first | omega | (simp at this; omega)
                obtain ⟨x, hx⟩ : ∃ x, g_.Heights[k]? = some x := ⟨_, List.getElem?_eq_getElem hlt⟩
                have hd := drop_at hx
                refine TC.skip ?_
                refine TE.next ?_
                refine TC.seq ?_
                refine TC.block ?_
                refine TC.seq ?_
                refine TC.region ?_
                refine TL.val (sV (Instr.indexAt 62 (.slice A_g__Heights g_.Heights.length c_g__Heights) (.int .i64 (k : Int)))) (some 40) (.pointer (some ((A_g__Heights.getD noAddr).add (k * 1)))) [(36, .slice A_g__Heights g_.Heights.length c_g__Heights), (37, .int .i64 (g_.Heights.length : Int)), (38, .int .i64 (k : Int)), (40, .pointer (some ((A_g__Heights.getD noAddr).add (k * 1))))] (fun w hM => run_index (h_g__Heights.sat hM) (by simp) (by kernel_rfl) (by have q0_ := (bne_f h4); have q1_ := (bne_f h5); first | omega | (simp only [List.length_drop]; omega) | (simp only [w64_eq]; omega) | exact (tm_in (by (first | (rw [w64_id (by omega)]; omega) | (simp only [w64_eq]; omega))) (by omega)).1 | exact (tm_in (by (first | (rw [w64_id (by omega)]; omega) | (simp only [w64_eq]; omega))) (by omega)).2.1 | exact (tm_in (by (first | (rw [w64_id (by omega)]; omega) | (simp only [w64_eq]; omega))) (by omega)).2.2 | (simp <;> omega)) (by have q0_ := (bne_f h4); have q1_ := (bne_f h5); first | omega | (simp only [List.length_drop]; omega) | (simp only [w64_eq]; omega) | exact (tm_in (by (first | (rw [w64_id (by omega)]; omega) | (simp only [w64_eq]; omega))) (by omega)).1 | exact (tm_in (by (first | (rw [w64_id (by omega)]; omega) | (simp only [w64_eq]; omega))) (by omega)).2.1 | exact (tm_in (by (first | (rw [w64_id (by omega)]; omega) | (simp only [w64_eq]; omega))) (by omega)).2.2 | (simp <;> omega))) (by kernel_rfl) (by kernel_rfl) ?_
                refine TL.val (sV (Instr.loadAt 3 (.pointer (some ((A_g__Heights.getD noAddr).add (k * 1)))))) (some 41) (.int .i64 x) [(36, .slice A_g__Heights g_.Heights.length c_g__Heights), (37, .int .i64 (g_.Heights.length : Int)), (38, .int .i64 (k : Int)), (41, .int .i64 x)] (fun w hM => run_load_one (off := 0) (i := k) (.int .i64 x) (h_g__Heights.sat hM) (map_at hx) (by kernel_rfl) (by kernel_rfl)) (by kernel_rfl) (by kernel_rfl) ?_
                refine TL.run 3 [] [(4, .int .i64 x), (36, .slice A_g__Heights g_.Heights.length c_g__Heights), (37, .int .i64 (g_.Heights.length : Int)), (38, .int .i64 (k : Int))] rfl ⟨by kernel_rfl, by kernel_rfl⟩ ?_
                refine TL.next rfl ?_
                refine TC.seq ?_
                refine TC.region ?_
                refine TL.run 1 [] [(36, .slice A_g__Heights g_.Heights.length c_g__Heights), (37, .int .i64 (g_.Heights.length : Int)), (38, .int .i64 (k : Int)), (42, .int .i64 x)] rfl ⟨by kernel_rfl, by kernel_rfl⟩ ?_
                refine TL.call (some 43) [(36, .slice A_g__Heights g_.Heights.length c_g__Heights), (37, .int .i64 (g_.Heights.length : Int)), (38, .int .i64 (k : Int)), (43, .bool ((terrain_out x 0 60000)))] (fun w _ => terrain_out_w x 0 60000 w) (by kernel_rfl) (by kernel_rfl) ?_
                generalize hr5 : terrain_out x 0 60000 = r5
                refine TL.next rfl ?_
                refine TC.cond r5 rfl (by kernel_rfl) (fun h7 => ?_) (fun h7 => ?_)
                · refine TC.seq ?_
                  refine TC.region ?_
                  refine TL.run 1 [] [(2, .int .i64 4)] rfl ⟨by kernel_rfl, by kernel_rfl⟩ ?_
                  refine TL.next rfl ?_
                  refine TC.ret ?_
                  refine TE.ret_block (TE.ret_then (TE.ret_then (TE.ret_block (TE.ret_then (TE.ret_then ?_)))))
                  have e : terrain_Check g_ = 4 := by subst hr1 hr2 hr3 hr4 hr5; unfold terrain_Check; exact cond_f h1 (cond_f h2 (cond_f h3 (cond_f h4 (cond_f h5 (elim_r (hR.symm.trans (hI.trans (by rw [hd]; exact cond_t h7 (rfl)))) rfl)))))
                  exact TE.ret [] (.int .i64 4) ⟨by kernel_rfl, by kernel_rfl⟩ (by rw [e]; first | done | kernel_rfl)
                · refine TC.skip ?_
                  refine TE.normal_block ?_
                  refine TE.next ?_
                  refine TC.region ?_
                  refine TL.run 2 [] [(36, .slice A_g__Heights g_.Heights.length c_g__Heights), (37, .int .i64 (g_.Heights.length : Int)), (38, .int .i64 (w64 ((k : Int) + 1)))] rfl ⟨by kernel_rfl, by kernel_rfl⟩ ?_
                  refine TL.done rfl ?_
                  refine TE.rw 38 (.int .i64 (w64 ((k : Int) + 1))) (.int .i64 ((k + 1 : Nat) : Int)) (by kernel_rfl) (w64_cast k (by omega)) ?_
                  exact TE.again (x := k) (k + 1) ⟨by omega, hI.trans (by subst hr1 hr2 hr3 hr4 hr5; rw [hd]; exact cond_f h7 (rfl))⟩ (by show g_.Heights.length - (k + 1) < g_.Heights.length - k; omega) (by kernel_rfl) (.slnil)
              · have hd : g_.Heights.drop k = [] := List.drop_eq_nil_of_le (by have := of_decide_eq_false h6; first | omega | (simp at this; omega))
                refine TC.exit ?_
                refine TE.exit_then (TE.exit_then (TE.exit_same ?_))
                exact TE.cut () (hI.trans (by subst hr1 hr2 hr3 hr4; rw [hd]; exact rfl)) (by kernel_rfl) (.slnil)
            · intro _ hJ
              refine TE.next ?_
              refine TC.seq ?_
              refine TC.region ?_
              refine TL.run 1 [] [(2, .int .i64 0)] rfl ⟨by kernel_rfl, by kernel_rfl⟩ ?_
              refine TL.next rfl ?_
              refine TC.ret ?_
              have e : terrain_Check g_ = 0 := by subst hr1 hr2 hr3 hr4; unfold terrain_Check; exact cond_f h1 (cond_f h2 (cond_f h3 (cond_f h4 (cond_f h5 (elim_l (hR.symm.trans hJ) (rfl))))))
              exact TE.ret [] (.int .i64 0) ⟨by kernel_rfl, by kernel_rfl⟩ (by rw [e]; first | done | kernel_rfl)

def terrain_Height (g_ : TerrainGrid) (p : P) : Int × Int :=
  let r1 := terrain_Check g_
  cond (r1 != 0) (
    (0, r1)) (
    let r2 := plane_Check p
    cond (r2 != 0) (
      (0, r2)) (
      let r3 := num_DivDown (w64 (p.X - g_.At.X)) g_.Size
      let r4 := num_DivDown (w64 (p.Y - g_.At.Y)) g_.Size
      let r5 := terrain_out r3.1 0 (w64 (g_.NX - 1))
      cond r5 (
        (0, 0)) (
        let r6 := terrain_out r4.1 0 (w64 (g_.NY - 1))
        cond r6 (
          (0, 0)) (
          ((g_.Heights[(w64 ((w64 (r4.1 * g_.NX)) + r3.1)).toNat]?.getD 0), 0)))))

theorem out_terrain {n a b : Int} : terrain_out n a b = decide (¬ (a ≤ n ∧ n ≤ b)) := by
  unfold terrain_out; rw [Bool.eq_iff_iff]; simp
def TerrainGrid.In (g : TerrainGrid) : Prop := (1 ≤ g.NX ∧ g.NX ≤ 32) ∧ (1 ≤ g.NY ∧ g.NY ≤ 32) ∧ (1 ≤ g.Size ∧ g.Size ≤ 1000000) ∧ g.At.In ∧ (g.Heights.length : Int) = g.NX * g.NY ∧ ∀ h ∈ g.Heights, 0 ≤ h ∧ h ≤ 60000
theorem terrain_heights : ∀ (l : List Int) (k : Nat), terrain_Check_L1 l k = .inl () ∧ (∀ h ∈ l, 0 ≤ h ∧ h ≤ 60000) ∨ terrain_Check_L1 l k = .inr 4 ∧ ¬ ∀ h ∈ l, 0 ≤ h ∧ h ≤ 60000
  | [], _ => .inl ⟨rfl, by simp⟩
  | x :: l, k => by
    unfold terrain_Check_L1
    simp only [out_terrain]
    by_cases hx : 0 ≤ x ∧ x ≤ 60000
    · rw [decide_eq_false (not_not_intro hx), cond_false]
      rcases terrain_heights l (k + 1) with ⟨h1, h2⟩ | ⟨h1, h2⟩
      · exact .inl ⟨h1, fun h hm => by rcases List.mem_cons.1 hm with rfl | hm; exact hx; exact h2 h hm⟩
      · exact .inr ⟨h1, fun hh => h2 fun h hm => hh h (List.mem_cons_of_mem _ hm)⟩
    · rw [decide_eq_true hx, cond_true]
      exact .inr ⟨rfl, fun hh => hx (hh x (List.mem_cons_self ..))⟩
theorem grid_mul {g : TerrainGrid} (h1 : 1 ≤ g.NX ∧ g.NX ≤ 32) (h2 : 1 ≤ g.NY ∧ g.NY ≤ 32) : w64 (g.NX * g.NY) = g.NX * g.NY := by
  have := mul_in0 (a := g.NX) (b := g.NY) (A := 32) (B := 32) (by omega) (by omega)
  exact w64_id (by omega)
theorem checkGrid_eq (g : TerrainGrid) : terrain_Check g = 0 ∧ g.In ∨ (terrain_Check g = 3 ∨ terrain_Check g = 4) ∧ ¬ g.In := by
  unfold terrain_Check TerrainGrid.In
  simp only [ite_of_cond, out_terrain, decide_eq_true_eq]
  split
  · exact .inr ⟨.inr rfl, fun h => by omega⟩
  · split
    · exact .inr ⟨.inr rfl, fun h => by omega⟩
    · split
      · exact .inr ⟨.inr rfl, fun h => by omega⟩
      · rcases checkP_eq g.At with ⟨p1, p2⟩ | ⟨p1, p2⟩
        · rw [p1, if_neg (by simp), grid_mul (by omega) (by omega)]
          by_cases hl : (g.Heights.length : Int) = g.NX * g.NY
          · rw [if_neg (by simp [hl])]
            rcases terrain_heights g.Heights 0 with ⟨k1, k2⟩ | ⟨k1, k2⟩
            · rw [k1]; exact .inl ⟨rfl, by omega, by omega, by omega, p2, hl, k2⟩
            · rw [k1]; exact .inr ⟨.inr rfl, fun h => k2 h.2.2.2.2.2⟩
          · rw [if_pos (by simpa using hl)]
            exact .inr ⟨.inl rfl, fun h => hl h.2.2.2.2.1⟩
        · rw [p1, if_pos (by simp)]
          exact .inr ⟨.inr rfl, fun h => p2 h.2.2.2.1⟩
theorem checkGrid_iff {g : TerrainGrid} : terrain_Check g = 0 ↔ g.In := by
  rcases checkGrid_eq g with ⟨h1, h2⟩ | ⟨h1, h2⟩
  · exact ⟨fun _ => h2, fun _ => h1⟩
  · exact ⟨fun h => by omega, fun h => absurd h h2⟩
theorem grid_in {g : TerrainGrid} {r : Int} (hr : terrain_Check g = r) (h : (r != 0) = false) : g.In := checkGrid_iff.1 (by rw [hr]; simpa using h)
theorem grid_at {g : TerrainGrid} (hg : g.In) {x y : Int} (hx : 0 ≤ x ∧ x < g.NX) (hy : 0 ≤ y ∧ y < g.NY) : 0 ≤ w64 (w64 (y * g.NX) + x) ∧ w64 (w64 (y * g.NX) + x) < (g.Heights.length : Int) ∧ (w64 (w64 (y * g.NX) + x)).toNat < g.Heights.length := by
  obtain ⟨h1, h2, _, _, h5, _⟩ := hg
  have m := mul_in0 (a := y) (b := g.NX) (A := 31) (B := 32) (by omega) (by omega)
  have m2 : (y + 1) * g.NX ≤ g.NY * g.NX := Int.mul_le_mul_of_nonneg_right (by omega) (by omega)
  rw [Int.add_mul, Int.one_mul, Int.mul_comm g.NY] at m2
  rw [w64_id (x := y * g.NX) (by omega), w64_id (by omega)]
  omega
theorem height_at {g : TerrainGrid} {r1 x y : Int} {r5 r6 : Bool} (hr1 : terrain_Check g = r1) (h1 : (r1 != 0) = false) (hr5 : terrain_out x 0 (w64 (g.NX - 1)) = r5) (h3 : r5 = false) (hr6 : terrain_out y 0 (w64 (g.NY - 1)) = r6) (h4 : r6 = false) :
    0 ≤ w64 (w64 (y * g.NX) + x) ∧ w64 (w64 (y * g.NX) + x) < (g.Heights.length : Int) ∧ (w64 (w64 (y * g.NX) + x)).toNat < g.Heights.length := by
  have hg := grid_in hr1 h1
  have g1 := hg.1
  have g2 := hg.2.1
  rw [h3, out_terrain, w64_id (by omega)] at hr5
  rw [h4, out_terrain, w64_id (by omega)] at hr6
  have a := of_decide_eq_false hr5
  have b := of_decide_eq_false hr6
  exact grid_at hg (by omega) (by omega)

set_option maxRecDepth 100000 in
theorem terrain_Height_w (g_ : TerrainGrid) (A_g__Heights : Option Addr) (c_g__Heights : Nat) (p : P) (w : World) (h_g__Heights : Rd w 1 A_g__Heights (g_.Heights.map ic)) (hc_g__Heights : g_.Heights.length ≤ c_g__Heights) : Calls Try.prog 39 #[.agg #[.int .i64 g_.At.X, .int .i64 g_.At.Y, .int .i64 g_.Size, .int .i64 g_.NX, .int .i64 g_.NY, .slice A_g__Heights g_.Heights.length c_g__Heights], P.v p] w (Ret w (.tuple #[.int .i64 ((terrain_Height g_ p).1), .int .i64 ((terrain_Height g_ p).2)])) := by
  have s_g__Heights := h_g__Heights.short; rw [List.length_map] at s_g__Heights
  refine calls_intro (vs := [.agg #[.int .i64 g_.At.X, .int .i64 g_.At.Y, .int .i64 g_.Size, .int .i64 g_.NX, .int .i64 g_.NY, .slice A_g__Heights g_.Heights.length c_g__Heights], P.v p]) (w := w) Try.func39 rfl Try.ntmps39 rfl ?_
  refine TC.weak [(0, .agg #[.int .i64 g_.At.X, .int .i64 g_.At.Y, .int .i64 g_.Size, .int .i64 g_.NX, .int .i64 g_.NY, .slice A_g__Heights g_.Heights.length c_g__Heights]), (1, P.v p)] (by kernel_rfl) ?_
  refine TC.seq ?_
  refine TC.region ?_
  refine TL.write 0 (fun b1 => [(1, P.v p), (2, .pointer (some ⟨b1, 0, none⟩))]) (fun b1 => [.inl (b1, .cells #[.int .i64 g_.At.X, .int .i64 g_.At.Y, .int .i64 g_.Size, .int .i64 g_.NX, .int .i64 g_.NY, .slice A_g__Heights g_.Heights.length c_g__Heights] 73 (0, 0))]) (fun b1 => ⟨by kernel_rfl, by kernel_rfl⟩) (fun b1 => ?_)
  refine TL.write 0 (fun b2 => [(2, .pointer (some ⟨b1, 0, none⟩)), (3, .pointer (some ⟨b2, 0, none⟩))]) (fun b2 => [.inl (b2, .cells (P.c p) 23 (0, 0)), .inl (b1, .cells #[.int .i64 g_.At.X, .int .i64 g_.At.Y, .int .i64 g_.Size, .int .i64 g_.NX, .int .i64 g_.NY, .slice A_g__Heights g_.Heights.length c_g__Heights] 73 (0, 0))]) (fun b2 => ⟨by kernel_rfl, by kernel_rfl⟩) (fun b2 => ?_)
  refine TL.run 4 [] [(2, .pointer (some ⟨b1, 0, none⟩)), (3, .pointer (some ⟨b2, 0, none⟩))] rfl ⟨by kernel_rfl, by kernel_rfl⟩ ?_
  refine TL.next rfl ?_
  refine TC.seq ?_
  refine TC.seq ?_
  refine TC.region ?_
  refine TL.run 1 [1] [(2, .pointer (some ⟨b1, 0, none⟩)), (3, .pointer (some ⟨b2, 0, none⟩)), (12, .agg #[.int .i64 g_.At.X, .int .i64 g_.At.Y, .int .i64 g_.Size, .int .i64 g_.NX, .int .i64 g_.NY, .slice A_g__Heights g_.Heights.length c_g__Heights])] rfl ⟨by kernel_rfl, by kernel_rfl⟩ ?_
  refine TL.call (some 13) [(2, .pointer (some ⟨b1, 0, none⟩)), (3, .pointer (some ⟨b2, 0, none⟩)), (13, .int .i64 (terrain_Check g_))] (fun w hM => terrain_Check_w g_ A_g__Heights c_g__Heights w (h_g__Heights.sat hM) hc_g__Heights) (by kernel_rfl) (by kernel_rfl) ?_
  generalize hr1 : terrain_Check g_ = r1
  refine TL.run 3 [] [(2, .pointer (some ⟨b1, 0, none⟩)), (3, .pointer (some ⟨b2, 0, none⟩)), (6, .int .i64 r1)] rfl ⟨by kernel_rfl, by kernel_rfl⟩ ?_
  refine TL.next rfl ?_
  refine TC.seq ?_
  refine TC.region ?_
  refine TL.run 2 [] [(2, .pointer (some ⟨b1, 0, none⟩)), (3, .pointer (some ⟨b2, 0, none⟩)), (6, .int .i64 r1), (15, .bool (r1 != 0))] rfl ⟨by kernel_rfl, by kernel_rfl⟩ ?_
  refine TL.next rfl ?_
  refine TC.cond (r1 != 0) rfl (by kernel_rfl) (fun h1 => ?_) (fun h1 => ?_)
  · refine TC.seq ?_
    refine TC.region ?_
    refine TL.run 3 [] [(4, .int .i64 0), (5, .int .i64 r1)] rfl ⟨by kernel_rfl, by kernel_rfl⟩ ?_
    refine TL.next rfl ?_
    refine TC.ret ?_
    refine TE.ret_then ?_
    have e : terrain_Height g_ p = (0, r1) := by subst hr1; unfold terrain_Height; exact cond_t h1 (rfl)
    exact TE.ret [] (.tuple #[.int .i64 0, .int .i64 r1]) ⟨by kernel_rfl, by kernel_rfl⟩ (by rw [e]; first | done | kernel_rfl)
  · refine TC.skip ?_
    refine TE.next ?_
    refine TC.seq ?_
    refine TC.seq ?_
    refine TC.region ?_
    refine TL.run 1 [0] [(2, .pointer (some ⟨b1, 0, none⟩)), (3, .pointer (some ⟨b2, 0, none⟩)), (17, P.v p)] rfl ⟨by kernel_rfl, by kernel_rfl⟩ ?_
    refine TL.call (some 18) [(2, .pointer (some ⟨b1, 0, none⟩)), (3, .pointer (some ⟨b2, 0, none⟩)), (18, .int .i64 (plane_Check p))] (fun w _ => plane_Check_w p w) (by kernel_rfl) (by kernel_rfl) ?_
    generalize hr2 : plane_Check p = r2
    refine TL.run 3 [] [(2, .pointer (some ⟨b1, 0, none⟩)), (3, .pointer (some ⟨b2, 0, none⟩)), (7, .int .i64 r2)] rfl ⟨by kernel_rfl, by kernel_rfl⟩ ?_
    refine TL.next rfl ?_
    refine TC.seq ?_
    refine TC.region ?_
    refine TL.run 2 [] [(2, .pointer (some ⟨b1, 0, none⟩)), (3, .pointer (some ⟨b2, 0, none⟩)), (7, .int .i64 r2), (20, .bool (r2 != 0))] rfl ⟨by kernel_rfl, by kernel_rfl⟩ ?_
    refine TL.next rfl ?_
    refine TC.cond (r2 != 0) rfl (by kernel_rfl) (fun h2 => ?_) (fun h2 => ?_)
    · refine TC.seq ?_
      refine TC.region ?_
      refine TL.run 3 [] [(4, .int .i64 0), (5, .int .i64 r2)] rfl ⟨by kernel_rfl, by kernel_rfl⟩ ?_
      refine TL.next rfl ?_
      refine TC.ret ?_
      refine TE.ret_then ?_
      have e : terrain_Height g_ p = (0, r2) := by subst hr1 hr2; unfold terrain_Height; exact cond_f h1 (cond_t h2 (rfl))
      exact TE.ret [] (.tuple #[.int .i64 0, .int .i64 r2]) ⟨by kernel_rfl, by kernel_rfl⟩ (by rw [e]; first | done | kernel_rfl)
    · refine TC.skip ?_
      refine TE.next ?_
      refine TC.seq ?_
      refine TC.region ?_
      refine TL.run 8 [0, 1, 1] [(2, .pointer (some ⟨b1, 0, none⟩)), (3, .pointer (some ⟨b2, 0, none⟩)), (28, .int .i64 (w64 (p.X - g_.At.X))), (30, .int .i64 g_.Size)] rfl ⟨by kernel_rfl, by kernel_rfl⟩ ?_
      refine TL.call (some 31) [(2, .pointer (some ⟨b1, 0, none⟩)), (3, .pointer (some ⟨b2, 0, none⟩)), (31, .tuple #[.int .i64 ((num_DivDown (w64 (p.X - g_.At.X)) g_.Size).1), .int .i64 ((num_DivDown (w64 (p.X - g_.At.X)) g_.Size).2)])] (fun w _ => num_DivDown_w (w64 (p.X - g_.At.X)) g_.Size w) (by kernel_rfl) (by kernel_rfl) ?_
      generalize hr3 : num_DivDown (w64 (p.X - g_.At.X)) g_.Size = r3
      refine TL.run 14 [] [(2, .pointer (some ⟨b1, 0, none⟩)), (3, .pointer (some ⟨b2, 0, none⟩)), (8, .int .i64 r3.1)] rfl ⟨by kernel_rfl, by kernel_rfl⟩ ?_
      refine TL.next rfl ?_
      refine TC.seq ?_
      refine TC.region ?_
      refine TL.run 8 [0, 1, 1] [(2, .pointer (some ⟨b1, 0, none⟩)), (8, .int .i64 r3.1), (40, .int .i64 (w64 (p.Y - g_.At.Y))), (42, .int .i64 g_.Size)] rfl ⟨by kernel_rfl, by kernel_rfl⟩ ?_
      refine TL.call (some 43) [(2, .pointer (some ⟨b1, 0, none⟩)), (8, .int .i64 r3.1), (43, .tuple #[.int .i64 ((num_DivDown (w64 (p.Y - g_.At.Y)) g_.Size).1), .int .i64 ((num_DivDown (w64 (p.Y - g_.At.Y)) g_.Size).2)])] (fun w _ => num_DivDown_w (w64 (p.Y - g_.At.Y)) g_.Size w) (by kernel_rfl) (by kernel_rfl) ?_
      generalize hr4 : num_DivDown (w64 (p.Y - g_.At.Y)) g_.Size = r4
      refine TL.run 14 [] [(2, .pointer (some ⟨b1, 0, none⟩)), (8, .int .i64 r3.1), (10, .int .i64 r4.1)] rfl ⟨by kernel_rfl, by kernel_rfl⟩ ?_
      refine TL.next rfl ?_
      refine TC.seq ?_
      refine TC.seq ?_
      refine TC.region ?_
      refine TL.run 4 [1] [(2, .pointer (some ⟨b1, 0, none⟩)), (8, .int .i64 r3.1), (10, .int .i64 r4.1), (46, .int .i64 r3.1), (49, .int .i64 (w64 (g_.NX - 1)))] rfl ⟨by kernel_rfl, by kernel_rfl⟩ ?_
      refine TL.call (some 50) [(2, .pointer (some ⟨b1, 0, none⟩)), (8, .int .i64 r3.1), (10, .int .i64 r4.1), (50, .bool ((terrain_out r3.1 0 (w64 (g_.NX - 1)))))] (fun w _ => terrain_out_w r3.1 0 (w64 (g_.NX - 1)) w) (by kernel_rfl) (by kernel_rfl) ?_
      generalize hr5 : terrain_out r3.1 0 (w64 (g_.NX - 1)) = r5
      refine TL.run 6 [] [(2, .pointer (some ⟨b1, 0, none⟩)), (8, .int .i64 r3.1), (10, .int .i64 r4.1), (51, .bool r5)] rfl ⟨by kernel_rfl, by kernel_rfl⟩ ?_
      refine TL.split 51 r5 (by kernel_rfl) (fun h3 => ?_) (fun h3 => ?_)
      · refine TL.run 12 [] [(2, .pointer (some ⟨b1, 0, none⟩)), (8, .int .i64 r3.1), (10, .int .i64 r4.1), (57, .bool true)] rfl ⟨by kernel_rfl, by kernel_rfl⟩ ?_
        refine TL.next rfl ?_
        refine TC.condT rfl (by kernel_rfl) ?_
        refine TC.seq ?_
        refine TC.region ?_
        refine TL.run 2 [] [(4, .int .i64 0), (5, .int .i64 0)] rfl ⟨by kernel_rfl, by kernel_rfl⟩ ?_
        refine TL.next rfl ?_
        refine TC.ret ?_
        refine TE.ret_then ?_
        have e : terrain_Height g_ p = (0, 0) := by subst hr1 hr2 hr3 hr4 hr5; unfold terrain_Height; exact cond_f h1 (cond_f h2 (cond_t h3 (rfl)))
        exact TE.ret [] (.tuple #[.int .i64 0, .int .i64 0]) ⟨by kernel_rfl, by kernel_rfl⟩ (by rw [e]; first | done | kernel_rfl)
      · refine TL.run 10 [1] [(2, .pointer (some ⟨b1, 0, none⟩)), (8, .int .i64 r3.1), (10, .int .i64 r4.1), (51, .bool false), (52, .int .i64 r4.1), (55, .int .i64 (w64 (g_.NY - 1)))] rfl ⟨by kernel_rfl, by kernel_rfl⟩ ?_
        refine TL.call (some 56) [(2, .pointer (some ⟨b1, 0, none⟩)), (8, .int .i64 r3.1), (10, .int .i64 r4.1), (51, .bool false), (56, .bool ((terrain_out r4.1 0 (w64 (g_.NY - 1)))))] (fun w _ => terrain_out_w r4.1 0 (w64 (g_.NY - 1)) w) (by kernel_rfl) (by kernel_rfl) ?_
        generalize hr6 : terrain_out r4.1 0 (w64 (g_.NY - 1)) = r6
        refine TL.run 12 [] [(2, .pointer (some ⟨b1, 0, none⟩)), (8, .int .i64 r3.1), (10, .int .i64 r4.1), (57, .bool r6)] rfl ⟨by kernel_rfl, by kernel_rfl⟩ ?_
        refine TL.next rfl ?_
        refine TC.cond r6 rfl (by kernel_rfl) (fun h4 => ?_) (fun h4 => ?_)
        · refine TC.seq ?_
          refine TC.region ?_
          refine TL.run 2 [] [(4, .int .i64 0), (5, .int .i64 0)] rfl ⟨by kernel_rfl, by kernel_rfl⟩ ?_
          refine TL.next rfl ?_
          refine TC.ret ?_
          refine TE.ret_then ?_
          have e : terrain_Height g_ p = (0, 0) := by subst hr1 hr2 hr3 hr4 hr5 hr6; unfold terrain_Height; exact cond_f h1 (cond_f h2 (cond_f h3 (cond_t h4 (rfl))))
          exact TE.ret [] (.tuple #[.int .i64 0, .int .i64 0]) ⟨by kernel_rfl, by kernel_rfl⟩ (by rw [e]; first | done | kernel_rfl)
        · refine TC.skip ?_
          refine TE.next ?_
          refine TC.seq ?_
          refine TC.region ?_
          refine TL.run 8 [1, 1] [(59, .slice A_g__Heights g_.Heights.length c_g__Heights), (65, .int .i64 (w64 ((w64 (r4.1 * g_.NX)) + r3.1)))] rfl ⟨by kernel_rfl, by kernel_rfl⟩ ?_
          refine TL.val (sV (Instr.indexAt 62 (.slice A_g__Heights g_.Heights.length c_g__Heights) (.int .i64 (w64 ((w64 (r4.1 * g_.NX)) + r3.1))))) (some 66) (.pointer (some ((A_g__Heights.getD noAddr).add ((w64 ((w64 (r4.1 * g_.NX)) + r3.1)).toNat * 1)))) [(66, .pointer (some ((A_g__Heights.getD noAddr).add ((w64 ((w64 (r4.1 * g_.NX)) + r3.1)).toNat * 1))))] (fun w hM => run_index (h_g__Heights.sat hM) (by simp) (by kernel_rfl) (by have a_ := height_at hr1 h1 hr5 h3 hr6 h4; first | exact a_.1 | exact a_.2.1 | exact a_.2.2) (by have a_ := height_at hr1 h1 hr5 h3 hr6 h4; first | exact a_.1 | exact a_.2.1 | exact a_.2.2)) (by kernel_rfl) (by kernel_rfl) ?_
          refine TL.val (sV (Instr.loadAt 3 (.pointer (some ((A_g__Heights.getD noAddr).add ((w64 ((w64 (r4.1 * g_.NX)) + r3.1)).toNat * 1)))))) (some 67) (.int .i64 (g_.Heights[(w64 ((w64 (r4.1 * g_.NX)) + r3.1)).toNat]?.getD 0)) [(67, .int .i64 (g_.Heights[(w64 ((w64 (r4.1 * g_.NX)) + r3.1)).toNat]?.getD 0))] (fun w hM => run_load_one (off := 0) (i := (w64 ((w64 (r4.1 * g_.NX)) + r3.1)).toNat) (.int .i64 (g_.Heights[(w64 ((w64 (r4.1 * g_.NX)) + r3.1)).toNat]?.getD 0)) (h_g__Heights.sat hM) (map_at (getD_at _ _ 0 (by have a_ := height_at hr1 h1 hr5 h3 hr6 h4; first | exact a_.1 | exact a_.2.1 | exact a_.2.2))) (by kernel_rfl) (by kernel_rfl)) (by kernel_rfl) (by kernel_rfl) ?_
          refine TL.run 12 [] [(4, .int .i64 (g_.Heights[(w64 ((w64 (r4.1 * g_.NX)) + r3.1)).toNat]?.getD 0)), (5, .int .i64 0)] rfl ⟨by kernel_rfl, by kernel_rfl⟩ ?_
          refine TL.next rfl ?_
          refine TC.ret ?_
          have e : terrain_Height g_ p = ((g_.Heights[(w64 ((w64 (r4.1 * g_.NX)) + r3.1)).toNat]?.getD 0), 0) := by subst hr1 hr2 hr3 hr4 hr5 hr6; unfold terrain_Height; exact cond_f h1 (cond_f h2 (cond_f h3 (cond_f h4 (rfl))))
          exact TE.ret [] (.tuple #[.int .i64 (g_.Heights[(w64 ((w64 (r4.1 * g_.NX)) + r3.1)).toNat]?.getD 0), .int .i64 0]) ⟨by kernel_rfl, by kernel_rfl⟩ (by rw [e]; first | done | kernel_rfl)

def terrain_highest_L2 (g_ : TerrainGrid) (p : P) (radius : Int) (k : Nat) : Nat → Nat → Int → Int
  | 0, _, best_3 => best_3
  | m + 1, k_2, best_3 => let r1 := num_Between p.X (w64 (g_.At.X + (w64 ((k_2 : Int) * g_.Size)))) (w64 ((w64 ((w64 (g_.At.X + (w64 ((k_2 : Int) * g_.Size)))) + g_.Size)) - 1))
    let r2 := num_Between p.Y (w64 (g_.At.Y + (w64 ((k : Int) * g_.Size)))) (w64 ((w64 ((w64 (g_.At.Y + (w64 ((k : Int) * g_.Size)))) + g_.Size)) - 1))
    let r3 := plane_Square (⟨r1, r2⟩ : P) p
    cond (decide (r3 ≤ (w64 (radius * radius)))) (
      terrain_highest_L2 g_ p radius k m (k_2 + 1) (imax best_3 (g_.Heights[(w64 ((w64 ((k : Int) * g_.NX)) + (k_2 : Int))).toNat]?.getD 0))) (
      terrain_highest_L2 g_ p radius k m (k_2 + 1) best_3)
def terrain_highest_L1 (g_ : TerrainGrid) (p : P) (radius : Int) : Nat → Nat → Int → Int
  | 0, _, best => best
  | m + 1, k, best => bindv (terrain_highest_L2 g_ p radius k ((g_.NX : Int).toNat) 0 best) (fun best_4 =>
      terrain_highest_L1 g_ p radius m (k + 1) best_4)
def terrain_highest (g_ : TerrainGrid) (p : P) (radius : Int) : Int :=
  bindv (terrain_highest_L1 g_ p radius ((g_.NY : Int).toNat) 0 0) (fun best_2 =>
    best_2)

set_option maxRecDepth 100000 in
theorem terrain_highest_w (g_ : TerrainGrid) (A_g__Heights : Option Addr) (c_g__Heights : Nat) (p : P) (radius : Int) (w : World) (h_g__Heights : Rd w 1 A_g__Heights (g_.Heights.map ic)) (_hc_g__Heights : g_.Heights.length ≤ c_g__Heights) (hg : g_.In) : Calls Try.prog 75 #[.agg #[.int .i64 g_.At.X, .int .i64 g_.At.Y, .int .i64 g_.Size, .int .i64 g_.NX, .int .i64 g_.NY, .slice A_g__Heights g_.Heights.length c_g__Heights], P.v p, .int .i64 radius] w (Ret w (.int .i64 (terrain_highest g_ p radius))) := by
  have s_g__Heights := h_g__Heights.short; rw [List.length_map] at s_g__Heights
  refine calls_intro (vs := [.agg #[.int .i64 g_.At.X, .int .i64 g_.At.Y, .int .i64 g_.Size, .int .i64 g_.NX, .int .i64 g_.NY, .slice A_g__Heights g_.Heights.length c_g__Heights], P.v p, .int .i64 radius]) (w := w) Try.func75 rfl Try.ntmps75 rfl ?_
  refine TC.weak [(0, .agg #[.int .i64 g_.At.X, .int .i64 g_.At.Y, .int .i64 g_.Size, .int .i64 g_.NX, .int .i64 g_.NY, .slice A_g__Heights g_.Heights.length c_g__Heights]), (1, P.v p), (2, .int .i64 radius)] (by kernel_rfl) ?_
  refine TC.seq ?_
  refine TC.region ?_
  refine TL.write 0 (fun b1 => [(1, P.v p), (2, .int .i64 radius), (3, .pointer (some ⟨b1, 0, none⟩))]) (fun b1 => [.inl (b1, .cells #[.int .i64 g_.At.X, .int .i64 g_.At.Y, .int .i64 g_.Size, .int .i64 g_.NX, .int .i64 g_.NY, .slice A_g__Heights g_.Heights.length c_g__Heights] 73 (0, 0))]) (fun b1 => ⟨by kernel_rfl, by kernel_rfl⟩) (fun b1 => ?_)
  refine TL.write 0 (fun b2 => [(2, .int .i64 radius), (3, .pointer (some ⟨b1, 0, none⟩)), (4, .pointer (some ⟨b2, 0, none⟩))]) (fun b2 => [.inl (b2, .cells (P.c p) 23 (0, 0)), .inl (b1, .cells #[.int .i64 g_.At.X, .int .i64 g_.At.Y, .int .i64 g_.Size, .int .i64 g_.NX, .int .i64 g_.NY, .slice A_g__Heights g_.Heights.length c_g__Heights] 73 (0, 0))]) (fun b2 => ⟨by kernel_rfl, by kernel_rfl⟩) (fun b2 => ?_)
  refine TL.run 3 [] [(2, .int .i64 radius), (3, .pointer (some ⟨b1, 0, none⟩)), (4, .pointer (some ⟨b2, 0, none⟩))] rfl ⟨by kernel_rfl, by kernel_rfl⟩ ?_
  refine TL.next rfl ?_
  refine TC.seq ?_
  refine TC.region ?_
  refine TL.run 1 [] [(2, .int .i64 radius), (3, .pointer (some ⟨b1, 0, none⟩)), (4, .pointer (some ⟨b2, 0, none⟩)), (7, .int .i64 0)] rfl ⟨by kernel_rfl, by kernel_rfl⟩ ?_
  refine TL.next rfl ?_
  refine TC.seq ?_
  refine TC.seq ?_
  refine TC.region ?_
  refine TL.run 3 [1] [(2, .int .i64 radius), (3, .pointer (some ⟨b1, 0, none⟩)), (4, .pointer (some ⟨b2, 0, none⟩)), (7, .int .i64 0), (13, .int .i64 g_.NY), (14, .int .i64 0)] rfl ⟨by kernel_rfl, by kernel_rfl⟩ ?_
  refine TL.next rfl ?_
  refine TC.weak [(2, .int .i64 radius), (3, .pointer (some ⟨b1, 0, none⟩)), (4, .pointer (some ⟨b2, 0, none⟩)), (7, .int .i64 0), (13, .int .i64 g_.NY), (14, .int .i64 0)] (by kernel_rfl) ?_
  obtain ⟨R1, hR⟩ : ∃ R, R = terrain_highest_L1 g_ p radius ((g_.NY : Int).toNat) 0 0 := ⟨_, rfl⟩
  refine TC.cut (S := Int) (fun best_2 => [(7, .int .i64 best_2)]) (fun best_2 => []) (fun best_2 => R1 = best_2) ?_ ?_
  · refine TC.block ?_
    refine TC.loop (X := Nat × Int) (fun (k, best) => [(2, .int .i64 radius), (3, .pointer (some ⟨b1, 0, none⟩)), (4, .pointer (some ⟨b2, 0, none⟩)), (7, .int .i64 best), (13, .int .i64 g_.NY), (14, .int .i64 (k : Int))]) (fun (k, best) => [.inl (b2, .cells (P.c p) 23 (0, 0)), .inl (b1, .cells #[.int .i64 g_.At.X, .int .i64 g_.At.Y, .int .i64 g_.Size, .int .i64 g_.NX, .int .i64 g_.NY, .slice A_g__Heights g_.Heights.length c_g__Heights] 73 (0, 0))]) (fun (k, best) => (g_.NY : Int).toNat - k) (fun (k, best) => k ≤ (g_.NY : Int).toNat ∧ R1 = terrain_highest_L1 g_ p radius ((g_.NY : Int).toNat - k) k best) ?_ (0, 0) ⟨Nat.zero_le _, hR⟩
    rintro ⟨k, best⟩ ⟨hk, hI⟩
    refine TC.seq ?_
    refine TC.region ?_
    refine TL.run 1 [] [(2, .int .i64 radius), (3, .pointer (some ⟨b1, 0, none⟩)), (4, .pointer (some ⟨b2, 0, none⟩)), (7, .int .i64 best), (13, .int .i64 g_.NY), (14, .int .i64 (k : Int)), (15, .bool (decide ((k : Int) < g_.NY)))] rfl ⟨by kernel_rfl, by kernel_rfl⟩ ?_
    refine TL.next rfl ?_
    refine TC.seq ?_
    refine TC.cond (decide ((k : Int) < g_.NY)) rfl (by kernel_rfl) (fun h1 => ?_) (fun h1 => ?_)
    · have hlt : k < (g_.NY : Int).toNat := by have := of_decide_eq_true h1; first | omega | (simp at this; omega)
      have hd : (g_.NY : Int).toNat - k = ((g_.NY : Int).toNat - (k + 1)) + 1 := by omega
      refine TC.skip ?_
      refine TE.next ?_
      refine TC.seq ?_
      refine TC.block ?_
      refine TC.seq ?_
      refine TC.region ?_
      refine TL.run 2 [] [(2, .int .i64 radius), (3, .pointer (some ⟨b1, 0, none⟩)), (4, .pointer (some ⟨b2, 0, none⟩)), (7, .int .i64 best), (8, .int .i64 (k : Int)), (13, .int .i64 g_.NY), (14, .int .i64 (k : Int))] rfl ⟨by kernel_rfl, by kernel_rfl⟩ ?_
      refine TL.next rfl ?_
      refine TC.seq ?_
      refine TC.region ?_
      refine TL.run 3 [1] [(2, .int .i64 radius), (3, .pointer (some ⟨b1, 0, none⟩)), (4, .pointer (some ⟨b2, 0, none⟩)), (7, .int .i64 best), (8, .int .i64 (k : Int)), (13, .int .i64 g_.NY), (14, .int .i64 (k : Int)), (18, .int .i64 g_.NX), (19, .int .i64 0)] rfl ⟨by kernel_rfl, by kernel_rfl⟩ ?_
      refine TL.next rfl ?_
      refine TC.weak [(2, .int .i64 radius), (3, .pointer (some ⟨b1, 0, none⟩)), (4, .pointer (some ⟨b2, 0, none⟩)), (7, .int .i64 best), (8, .int .i64 (k : Int)), (13, .int .i64 g_.NY), (14, .int .i64 (k : Int)), (18, .int .i64 g_.NX), (19, .int .i64 0)] (by kernel_rfl) ?_
      obtain ⟨R2, hR_2⟩ : ∃ R, R = terrain_highest_L2 g_ p radius k ((g_.NX : Int).toNat) 0 best := ⟨_, rfl⟩
      refine TC.cut (S := Int) (fun best_4 => [(2, .int .i64 radius), (3, .pointer (some ⟨b1, 0, none⟩)), (4, .pointer (some ⟨b2, 0, none⟩)), (7, .int .i64 best_4), (13, .int .i64 g_.NY), (14, .int .i64 (k : Int))]) (fun best_4 => [.inl (b2, .cells (P.c p) 23 (0, 0)), .inl (b1, .cells #[.int .i64 g_.At.X, .int .i64 g_.At.Y, .int .i64 g_.Size, .int .i64 g_.NX, .int .i64 g_.NY, .slice A_g__Heights g_.Heights.length c_g__Heights] 73 (0, 0))]) (fun best_4 => R2 = best_4) ?_ ?_
      · refine TC.block ?_
        refine TC.loop (X := Nat × Int) (fun (k_2, best_3) => [(2, .int .i64 radius), (3, .pointer (some ⟨b1, 0, none⟩)), (4, .pointer (some ⟨b2, 0, none⟩)), (7, .int .i64 best_3), (8, .int .i64 (k : Int)), (13, .int .i64 g_.NY), (14, .int .i64 (k : Int)), (18, .int .i64 g_.NX), (19, .int .i64 (k_2 : Int))]) (fun (k_2, best_3) => [.inl (b2, .cells (P.c p) 23 (0, 0)), .inl (b1, .cells #[.int .i64 g_.At.X, .int .i64 g_.At.Y, .int .i64 g_.Size, .int .i64 g_.NX, .int .i64 g_.NY, .slice A_g__Heights g_.Heights.length c_g__Heights] 73 (0, 0))]) (fun (k_2, best_3) => (g_.NX : Int).toNat - k_2) (fun (k_2, best_3) => k_2 ≤ (g_.NX : Int).toNat ∧ R2 = terrain_highest_L2 g_ p radius k ((g_.NX : Int).toNat - k_2) k_2 best_3) ?_ (0, best) ⟨Nat.zero_le _, hR_2⟩
        rintro ⟨k_2, best_3⟩ ⟨hk_2, hI_2⟩
        refine TC.seq ?_
        refine TC.region ?_
        refine TL.run 1 [] [(2, .int .i64 radius), (3, .pointer (some ⟨b1, 0, none⟩)), (4, .pointer (some ⟨b2, 0, none⟩)), (7, .int .i64 best_3), (8, .int .i64 (k : Int)), (13, .int .i64 g_.NY), (14, .int .i64 (k : Int)), (18, .int .i64 g_.NX), (19, .int .i64 (k_2 : Int)), (20, .bool (decide ((k_2 : Int) < g_.NX)))] rfl ⟨by kernel_rfl, by kernel_rfl⟩ ?_
        refine TL.next rfl ?_
        refine TC.seq ?_
        refine TC.cond (decide ((k_2 : Int) < g_.NX)) rfl (by kernel_rfl) (fun h2 => ?_) (fun h2 => ?_)
        · have hlt_2 : k_2 < (g_.NX : Int).toNat := by have := of_decide_eq_true h2; first | omega | (simp at this; omega)
          have hd_2 : (g_.NX : Int).toNat - k_2 = ((g_.NX : Int).toNat - (k_2 + 1)) + 1 := by omega
          refine TC.skip ?_
          refine TE.next ?_
          refine TC.seq ?_
          refine TC.block ?_
          refine TC.seq ?_
          refine TC.region ?_
          refine TL.run 2 [] [(2, .int .i64 radius), (3, .pointer (some ⟨b1, 0, none⟩)), (4, .pointer (some ⟨b2, 0, none⟩)), (7, .int .i64 best_3), (8, .int .i64 (k : Int)), (9, .int .i64 (k_2 : Int)), (13, .int .i64 g_.NY), (14, .int .i64 (k : Int)), (18, .int .i64 g_.NX), (19, .int .i64 (k_2 : Int))] rfl ⟨by kernel_rfl, by kernel_rfl⟩ ?_
          refine TL.next rfl ?_
          refine TC.seq ?_
          refine TC.region ?_
          refine TL.run 17 [1, 1, 1, 1] [(2, .int .i64 radius), (3, .pointer (some ⟨b1, 0, none⟩)), (4, .pointer (some ⟨b2, 0, none⟩)), (7, .int .i64 best_3), (8, .int .i64 (k : Int)), (9, .int .i64 (k_2 : Int)), (13, .int .i64 g_.NY), (14, .int .i64 (k : Int)), (18, .int .i64 g_.NX), (19, .int .i64 (k_2 : Int)), (38, .agg #[.int .i64 (w64 (g_.At.X + (w64 ((k_2 : Int) * g_.Size)))), .int .i64 (w64 (g_.At.Y + (w64 ((k : Int) * g_.Size))))])] rfl ⟨by kernel_rfl, by kernel_rfl⟩ ?_
          refine TL.write 0 (fun b3 => [(2, .int .i64 radius), (3, .pointer (some ⟨b1, 0, none⟩)), (4, .pointer (some ⟨b2, 0, none⟩)), (7, .int .i64 best_3), (8, .int .i64 (k : Int)), (9, .int .i64 (k_2 : Int)), (10, .pointer (some ⟨b3, 0, none⟩)), (13, .int .i64 g_.NY), (14, .int .i64 (k : Int)), (18, .int .i64 g_.NX), (19, .int .i64 (k_2 : Int)), (38, .agg #[.int .i64 (w64 (g_.At.X + (w64 ((k_2 : Int) * g_.Size)))), .int .i64 (w64 (g_.At.Y + (w64 ((k : Int) * g_.Size))))])]) (fun b3 => [.inl (b3, .cells (P.c P.zero) 23 (0, 0)), .inl (b2, .cells (P.c p) 23 (0, 0)), .inl (b1, .cells #[.int .i64 g_.At.X, .int .i64 g_.At.Y, .int .i64 g_.Size, .int .i64 g_.NX, .int .i64 g_.NY, .slice A_g__Heights g_.Heights.length c_g__Heights] 73 (0, 0))]) (fun b3 => ⟨by kernel_rfl, by kernel_rfl⟩) (fun b3 => ?_)
          refine TL.write 0 (fun _ => [(2, .int .i64 radius), (3, .pointer (some ⟨b1, 0, none⟩)), (4, .pointer (some ⟨b2, 0, none⟩)), (7, .int .i64 best_3), (8, .int .i64 (k : Int)), (9, .int .i64 (k_2 : Int)), (10, .pointer (some ⟨b3, 0, none⟩)), (13, .int .i64 g_.NY), (14, .int .i64 (k : Int)), (18, .int .i64 g_.NX), (19, .int .i64 (k_2 : Int))]) (fun _ => [.inl (b3, .cells #[.int .i64 (w64 (g_.At.X + (w64 ((k_2 : Int) * g_.Size)))), .int .i64 (w64 (g_.At.Y + (w64 ((k : Int) * g_.Size))))] 23 (0, 0)), .inl (b2, .cells (P.c p) 23 (0, 0)), .inl (b1, .cells #[.int .i64 g_.At.X, .int .i64 g_.At.Y, .int .i64 g_.Size, .int .i64 g_.NX, .int .i64 g_.NY, .slice A_g__Heights g_.Heights.length c_g__Heights] 73 (0, 0))]) (fun _ => ⟨by kernel_rfl, by kernel_rfl⟩) (fun _ => ?_)
          refine TL.next rfl ?_
          refine TC.seq ?_
          obtain ⟨r1, hr1⟩ : ∃ r, num_Between p.X (w64 (g_.At.X + (w64 ((k_2 : Int) * g_.Size)))) (w64 ((w64 ((w64 (g_.At.X + (w64 ((k_2 : Int) * g_.Size)))) + g_.Size)) - 1)) = r := ⟨_, rfl⟩
          obtain ⟨r2, hr2⟩ : ∃ r, num_Between p.Y (w64 (g_.At.Y + (w64 ((k : Int) * g_.Size)))) (w64 ((w64 ((w64 (g_.At.Y + (w64 ((k : Int) * g_.Size)))) + g_.Size)) - 1)) = r := ⟨_, rfl⟩
          refine TC.plan (G := Nat) (base := [(2, .int .i64 radius), (3, .pointer (some ⟨b1, 0, none⟩)), (4, .pointer (some ⟨b2, 0, none⟩)), (7, .int .i64 best_3), (8, .int .i64 (k : Int)), (9, .int .i64 (k_2 : Int)), (10, .pointer (some ⟨b3, 0, none⟩)), (13, .int .i64 g_.NY), (14, .int .i64 (k : Int)), (18, .int .i64 g_.NX), (19, .int .i64 (k_2 : Int))]) (vals := fun γ => [.pointer (some ⟨b2, 0, none⟩), .int .i64 p.X, .pointer (some ⟨b3, 0, none⟩), .int .i64 (w64 (g_.At.X + (w64 ((k_2 : Int) * g_.Size)))), .pointer (some ⟨b3, 0, none⟩), .int .i64 (w64 (g_.At.X + (w64 ((k_2 : Int) * g_.Size)))), .pointer (some ⟨b1, 2, none⟩), .int .i64 g_.Size, .int .i64 (w64 ((w64 (g_.At.X + (w64 ((k_2 : Int) * g_.Size)))) + g_.Size)), .int .i64 (w64 ((w64 ((w64 (g_.At.X + (w64 ((k_2 : Int) * g_.Size)))) + g_.Size)) - 1)), .int .i64 r1, .pointer (some ⟨b2, 1, none⟩), .int .i64 p.Y, .pointer (some ⟨b3, 1, none⟩), .int .i64 (w64 (g_.At.Y + (w64 ((k : Int) * g_.Size)))), .pointer (some ⟨b3, 1, none⟩), .int .i64 (w64 (g_.At.Y + (w64 ((k : Int) * g_.Size)))), .pointer (some ⟨b1, 2, none⟩), .int .i64 g_.Size, .int .i64 (w64 ((w64 (g_.At.Y + (w64 ((k : Int) * g_.Size)))) + g_.Size)), .int .i64 (w64 ((w64 ((w64 (g_.At.Y + (w64 ((k : Int) * g_.Size)))) + g_.Size)) - 1)), .int .i64 r2, .agg #[.int .i64 r1, .int .i64 r2], .pointer (some ⟨γ, 0, none⟩), undef]) (writes := [23, 24]) (mem := fun bs γ => match bs with | [x23_, x24_] => (bif x24_ then [.inl (γ, .cells #[.int .i64 r1, .int .i64 r2] 23 (0, 0))] else bif x23_ then [.inl (γ, .cells (P.c P.zero) 23 (0, 0))] else []) ++ ([.inl (b3, .cells #[.int .i64 (w64 (g_.At.X + (w64 ((k_2 : Int) * g_.Size)))), .int .i64 (w64 (g_.At.Y + (w64 ((k : Int) * g_.Size))))] 23 (0, 0)), .inl (b2, .cells (P.c p) 23 (0, 0)), .inl (b1, .cells #[.int .i64 g_.At.X, .int .i64 g_.At.Y, .int .i64 g_.Size, .int .i64 g_.NX, .int .i64 g_.NY, .slice A_g__Heights g_.Heights.length c_g__Heights] 73 (0, 0))]) | _ => []) (0) (fun γ => [(2, .int .i64 radius), (3, .pointer (some ⟨b1, 0, none⟩)), (4, .pointer (some ⟨b2, 0, none⟩)), (7, .int .i64 best_3), (8, .int .i64 (k : Int)), (9, .int .i64 (k_2 : Int)), (11, .pointer (some ⟨γ, 0, none⟩)), (13, .int .i64 g_.NY), (14, .int .i64 (k : Int)), (18, .int .i64 g_.NX), (19, .int .i64 (k_2 : Int))]) (by kernel_rfl) (by kernel_rfl) (by kernel_rfl) (by kernel_rfl) (by kernel_rfl) (fun γ => by kernel_rfl) (fun _ hM => hM) (fun γ => by kernel_rfl) ?_ ?_
          · skip
            refine Steps.run (i := 0) 10 [0, 1, 0, 0, 0, 0, 0, 2, 0, 0] [.inl (b3, .cells #[.int .i64 (w64 (g_.At.X + (w64 ((k_2 : Int) * g_.Size)))), .int .i64 (w64 (g_.At.Y + (w64 ((k : Int) * g_.Size))))] 23 (0, 0)), .inl (b2, .cells (P.c p) 23 (0, 0)), .inl (b1, .cells #[.int .i64 g_.At.X, .int .i64 g_.At.Y, .int .i64 g_.Size, .int .i64 g_.NX, .int .i64 g_.NY, .slice A_g__Heights g_.Heights.length c_g__Heights] 73 (0, 0))] (by kernel_rfl) (by kernel_rfl) (fun S (γ : Nat) w hM => by change Sat _ ((bif S 24 then [.inl (γ, .cells #[.int .i64 r1, .int .i64 r2] 23 (0, 0))] else bif S 23 then [.inl (γ, .cells (P.c P.zero) 23 (0, 0))] else []) ++ ([.inl (b3, .cells #[.int .i64 (w64 (g_.At.X + (w64 ((k_2 : Int) * g_.Size)))), .int .i64 (w64 (g_.At.Y + (w64 ((k : Int) * g_.Size))))] 23 (0, 0)), .inl (b2, .cells (P.c p) 23 (0, 0)), .inl (b1, .cells #[.int .i64 g_.At.X, .int .i64 g_.At.Y, .int .i64 g_.Size, .int .i64 g_.NX, .int .i64 g_.NY, .slice A_g__Heights g_.Heights.length c_g__Heights] 73 (0, 0))])) w at hM; exact hM.sub (sub_skip (List.Sublist.refl _))) (by kernel_rfl) (fun (γ : Nat) => ⟨by kernel_rfl, by kernel_rfl⟩) ?_
            refine Steps.call (i := 10) 54 (fun (γ : Nat) => #[.int .i64 p.X, .int .i64 (w64 (g_.At.X + (w64 ((k_2 : Int) * g_.Size)))), .int .i64 (w64 ((w64 ((w64 (g_.At.X + (w64 ((k_2 : Int) * g_.Size)))) + g_.Size)) - 1))]) (some 49) (fun (γ : Nat) => .int .i64 r1) (fun (γ : Nat) => [.inl (b3, .cells #[.int .i64 (w64 (g_.At.X + (w64 ((k_2 : Int) * g_.Size)))), .int .i64 (w64 (g_.At.Y + (w64 ((k : Int) * g_.Size))))] 23 (0, 0)), .inl (b2, .cells (P.c p) 23 (0, 0)), .inl (b1, .cells #[.int .i64 g_.At.X, .int .i64 g_.At.Y, .int .i64 g_.Size, .int .i64 g_.NX, .int .i64 g_.NY, .slice A_g__Heights g_.Heights.length c_g__Heights] 73 (0, 0))]) (by kernel_rfl) (fun S (γ : Nat) w _ hM => by change Sat _ ((bif S 24 then [.inl (γ, .cells #[.int .i64 r1, .int .i64 r2] 23 (0, 0))] else bif S 23 then [.inl (γ, .cells (P.c P.zero) 23 (0, 0))] else []) ++ ([.inl (b3, .cells #[.int .i64 (w64 (g_.At.X + (w64 ((k_2 : Int) * g_.Size)))), .int .i64 (w64 (g_.At.Y + (w64 ((k : Int) * g_.Size))))] 23 (0, 0)), .inl (b2, .cells (P.c p) 23 (0, 0)), .inl (b1, .cells #[.int .i64 g_.At.X, .int .i64 g_.At.Y, .int .i64 g_.Size, .int .i64 g_.NX, .int .i64 g_.NY, .slice A_g__Heights g_.Heights.length c_g__Heights] 73 (0, 0))])) w at hM; exact hM.sub (sub_skip (List.Sublist.refl _))) (fun (γ : Nat) w _ => by have h := num_Between_w p.X (w64 (g_.At.X + (w64 ((k_2 : Int) * g_.Size)))) (w64 ((w64 ((w64 (g_.At.X + (w64 ((k_2 : Int) * g_.Size)))) + g_.Size)) - 1)) w; rw [hr1] at h; exact h) (fun (γ : Nat) => by kernel_rfl) (fun (γ : Nat) => by kernel_rfl) ?_
            refine Steps.run (i := 11) 21 [0, 1, 0, 0, 0, 0, 0, 2, 0, 0] [.inl (b3, .cells #[.int .i64 (w64 (g_.At.X + (w64 ((k_2 : Int) * g_.Size)))), .int .i64 (w64 (g_.At.Y + (w64 ((k : Int) * g_.Size))))] 23 (0, 0)), .inl (b2, .cells (P.c p) 23 (0, 0)), .inl (b1, .cells #[.int .i64 g_.At.X, .int .i64 g_.At.Y, .int .i64 g_.Size, .int .i64 g_.NX, .int .i64 g_.NY, .slice A_g__Heights g_.Heights.length c_g__Heights] 73 (0, 0))] (by kernel_rfl) (by kernel_rfl) (fun S (γ : Nat) w hM => by change Sat _ ((bif S 24 then [.inl (γ, .cells #[.int .i64 r1, .int .i64 r2] 23 (0, 0))] else bif S 23 then [.inl (γ, .cells (P.c P.zero) 23 (0, 0))] else []) ++ ([.inl (b3, .cells #[.int .i64 (w64 (g_.At.X + (w64 ((k_2 : Int) * g_.Size)))), .int .i64 (w64 (g_.At.Y + (w64 ((k : Int) * g_.Size))))] 23 (0, 0)), .inl (b2, .cells (P.c p) 23 (0, 0)), .inl (b1, .cells #[.int .i64 g_.At.X, .int .i64 g_.At.Y, .int .i64 g_.Size, .int .i64 g_.NX, .int .i64 g_.NY, .slice A_g__Heights g_.Heights.length c_g__Heights] 73 (0, 0))])) w at hM; exact hM.sub (sub_skip (List.Sublist.refl _))) (by kernel_rfl) (fun (γ : Nat) => ⟨by kernel_rfl, by kernel_rfl⟩) ?_
            refine Steps.call (i := 21) 54 (fun (γ : Nat) => #[.int .i64 p.Y, .int .i64 (w64 (g_.At.Y + (w64 ((k : Int) * g_.Size)))), .int .i64 (w64 ((w64 ((w64 (g_.At.Y + (w64 ((k : Int) * g_.Size)))) + g_.Size)) - 1))]) (some 60) (fun (γ : Nat) => .int .i64 r2) (fun (γ : Nat) => [.inl (b3, .cells #[.int .i64 (w64 (g_.At.X + (w64 ((k_2 : Int) * g_.Size)))), .int .i64 (w64 (g_.At.Y + (w64 ((k : Int) * g_.Size))))] 23 (0, 0)), .inl (b2, .cells (P.c p) 23 (0, 0)), .inl (b1, .cells #[.int .i64 g_.At.X, .int .i64 g_.At.Y, .int .i64 g_.Size, .int .i64 g_.NX, .int .i64 g_.NY, .slice A_g__Heights g_.Heights.length c_g__Heights] 73 (0, 0))]) (by kernel_rfl) (fun S (γ : Nat) w _ hM => by change Sat _ ((bif S 24 then [.inl (γ, .cells #[.int .i64 r1, .int .i64 r2] 23 (0, 0))] else bif S 23 then [.inl (γ, .cells (P.c P.zero) 23 (0, 0))] else []) ++ ([.inl (b3, .cells #[.int .i64 (w64 (g_.At.X + (w64 ((k_2 : Int) * g_.Size)))), .int .i64 (w64 (g_.At.Y + (w64 ((k : Int) * g_.Size))))] 23 (0, 0)), .inl (b2, .cells (P.c p) 23 (0, 0)), .inl (b1, .cells #[.int .i64 g_.At.X, .int .i64 g_.At.Y, .int .i64 g_.Size, .int .i64 g_.NX, .int .i64 g_.NY, .slice A_g__Heights g_.Heights.length c_g__Heights] 73 (0, 0))])) w at hM; exact hM.sub (sub_skip (List.Sublist.refl _))) (fun (γ : Nat) w _ => by have h := num_Between_w p.Y (w64 (g_.At.Y + (w64 ((k : Int) * g_.Size)))) (w64 ((w64 ((w64 (g_.At.Y + (w64 ((k : Int) * g_.Size)))) + g_.Size)) - 1)) w; rw [hr2] at h; exact h) (fun (γ : Nat) => by kernel_rfl) (fun (γ : Nat) => by kernel_rfl) ?_
            refine Steps.run (i := 22) 23 [0] [.inl (b3, .cells #[.int .i64 (w64 (g_.At.X + (w64 ((k_2 : Int) * g_.Size)))), .int .i64 (w64 (g_.At.Y + (w64 ((k : Int) * g_.Size))))] 23 (0, 0)), .inl (b2, .cells (P.c p) 23 (0, 0)), .inl (b1, .cells #[.int .i64 g_.At.X, .int .i64 g_.At.Y, .int .i64 g_.Size, .int .i64 g_.NX, .int .i64 g_.NY, .slice A_g__Heights g_.Heights.length c_g__Heights] 73 (0, 0))] (by kernel_rfl) (by kernel_rfl) (fun S (γ : Nat) w hM => by change Sat _ ((bif S 24 then [.inl (γ, .cells #[.int .i64 r1, .int .i64 r2] 23 (0, 0))] else bif S 23 then [.inl (γ, .cells (P.c P.zero) 23 (0, 0))] else []) ++ ([.inl (b3, .cells #[.int .i64 (w64 (g_.At.X + (w64 ((k_2 : Int) * g_.Size)))), .int .i64 (w64 (g_.At.Y + (w64 ((k : Int) * g_.Size))))] 23 (0, 0)), .inl (b2, .cells (P.c p) 23 (0, 0)), .inl (b1, .cells #[.int .i64 g_.At.X, .int .i64 g_.At.Y, .int .i64 g_.Size, .int .i64 g_.NX, .int .i64 g_.NY, .slice A_g__Heights g_.Heights.length c_g__Heights] 73 (0, 0))])) w at hM; exact hM.sub (sub_skip (List.Sublist.refl _))) (by kernel_rfl) (fun (γ : Nat) => ⟨by kernel_rfl, by kernel_rfl⟩) ?_
            refine Steps.op (i := 23) (Γ := Nat) (fun g (γ : Nat) => g) (fun _ => []) (fun b (γ : Nat) => [.inl (b, .cells (P.c P.zero) 23 (0, 0))]) (fun S (γ : Nat) => [.inl (b3, .cells #[.int .i64 (w64 (g_.At.X + (w64 ((k_2 : Int) * g_.Size)))), .int .i64 (w64 (g_.At.Y + (w64 ((k : Int) * g_.Size))))] 23 (0, 0)), .inl (b2, .cells (P.c p) 23 (0, 0)), .inl (b1, .cells #[.int .i64 g_.At.X, .int .i64 g_.At.Y, .int .i64 g_.Size, .int .i64 g_.NX, .int .i64 g_.NY, .slice A_g__Heights g_.Heights.length c_g__Heights] 73 (0, 0))]) [23, 24] (fun (γ : Nat) => sV (Instr.alloc 23 true (.tuple #[]))) (some 11) (fun b (γ : Nat) => .pointer (some ⟨b, 0, none⟩)) (fun S (γ : Nat) hj hd hl => by change List.Perm (((bif S 24 then [.inl (γ, .cells #[.int .i64 r1, .int .i64 r2] 23 (0, 0))] else bif S 23 then [.inl (γ, .cells (P.c P.zero) 23 (0, 0))] else []) ++ ([.inl (b3, .cells #[.int .i64 (w64 (g_.At.X + (w64 ((k_2 : Int) * g_.Size)))), .int .i64 (w64 (g_.At.Y + (w64 ((k : Int) * g_.Size))))] 23 (0, 0)), .inl (b2, .cells (P.c p) 23 (0, 0)), .inl (b1, .cells #[.int .i64 g_.At.X, .int .i64 g_.At.Y, .int .i64 g_.Size, .int .i64 g_.NX, .int .i64 g_.NY, .slice A_g__Heights g_.Heights.length c_g__Heights] 73 (0, 0))])) : Mem) _; rw [hj, hl 24 (by kernel_rfl)]; exact List.Perm.refl _) (fun S (γ : Nat) g hl => by change List.Perm _ (((bif S 24 then [.inl (g, .cells #[.int .i64 r1, .int .i64 r2] 23 (0, 0))] else bif true then [.inl (g, .cells (P.c P.zero) 23 (0, 0))] else []) ++ ([.inl (b3, .cells #[.int .i64 (w64 (g_.At.X + (w64 ((k_2 : Int) * g_.Size)))), .int .i64 (w64 (g_.At.Y + (w64 ((k : Int) * g_.Size))))] 23 (0, 0)), .inl (b2, .cells (P.c p) 23 (0, 0)), .inl (b1, .cells #[.int .i64 g_.At.X, .int .i64 g_.At.Y, .int .i64 g_.Size, .int .i64 g_.NX, .int .i64 g_.NY, .slice A_g__Heights g_.Heights.length c_g__Heights] 73 (0, 0))])) : Mem); rw [hl 24 (by kernel_rfl)]; exact (List.Perm.refl _).symm) (fun (γ : Nat) M' w hM => run_new (v := fun b => .pointer (some ⟨b, 0, none⟩)) (fun b M => by kernel_rfl) M' w hM) (fun (γ : Nat) => by kernel_rfl) (fun (γ : Nat) g => by kernel_rfl) (by kernel_rfl) (fun (γ : Nat) g => by kernel_rfl) ?_
            refine Steps.put (i := 24) (fun (γ : Nat) => [.inl (γ, .cells (P.c P.zero) 23 (0, 0))]) (fun (γ : Nat) => [.inl (γ, .cells #[.int .i64 r1, .int .i64 r2] 23 (0, 0))]) (fun S (γ : Nat) => [.inl (b3, .cells #[.int .i64 (w64 (g_.At.X + (w64 ((k_2 : Int) * g_.Size)))), .int .i64 (w64 (g_.At.Y + (w64 ((k : Int) * g_.Size))))] 23 (0, 0)), .inl (b2, .cells (P.c p) 23 (0, 0)), .inl (b1, .cells #[.int .i64 g_.At.X, .int .i64 g_.At.Y, .int .i64 g_.Size, .int .i64 g_.NX, .int .i64 g_.NY, .slice A_g__Heights g_.Heights.length c_g__Heights] 73 (0, 0))]) (fun (γ : Nat) => sU (Instr.storeAt 23 (.pointer (some ⟨γ, 0, none⟩)) (.agg #[.int .i64 r1, .int .i64 r2]))) none (fun S (γ : Nat) hj hd hl => by change List.Perm (((bif S 24 then [.inl (γ, .cells #[.int .i64 r1, .int .i64 r2] 23 (0, 0))] else bif S 23 then [.inl (γ, .cells (P.c P.zero) 23 (0, 0))] else []) ++ ([.inl (b3, .cells #[.int .i64 (w64 (g_.At.X + (w64 ((k_2 : Int) * g_.Size)))), .int .i64 (w64 (g_.At.Y + (w64 ((k : Int) * g_.Size))))] 23 (0, 0)), .inl (b2, .cells (P.c p) 23 (0, 0)), .inl (b1, .cells #[.int .i64 g_.At.X, .int .i64 g_.At.Y, .int .i64 g_.Size, .int .i64 g_.NX, .int .i64 g_.NY, .slice A_g__Heights g_.Heights.length c_g__Heights] 73 (0, 0))])) : Mem) _; rw [hj, hd 23 (by kernel_rfl)]; exact List.Perm.refl _) (fun S (γ : Nat) _ => (List.Perm.refl _).symm) (fun (γ : Nat) M' w hM => run_put (fun b M => by kernel_rfl) (fun b M => by kernel_rfl) M' w hM) (fun (γ : Nat) => by kernel_rfl) (fun (γ : Nat) => by kernel_rfl) ?_
            exact Steps.done (by kernel_rfl)
          · rintro b4
            refine TE.conv [.inl (b4, .cells #[.int .i64 r1, .int .i64 r2] 23 (0, 0)), .inl (b3, .cells #[.int .i64 (w64 (g_.At.X + (w64 ((k_2 : Int) * g_.Size)))), .int .i64 (w64 (g_.At.Y + (w64 ((k : Int) * g_.Size))))] 23 (0, 0)), .inl (b2, .cells (P.c p) 23 (0, 0)), .inl (b1, .cells #[.int .i64 g_.At.X, .int .i64 g_.At.Y, .int .i64 g_.Size, .int .i64 g_.NX, .int .i64 g_.NY, .slice A_g__Heights g_.Heights.length c_g__Heights] 73 (0, 0))] (fun _ hM => hM) ?_
            refine TE.next ?_
            refine TC.seq ?_
            refine TC.region ?_
            refine TL.run 2 [0, 2] [(2, .int .i64 radius), (3, .pointer (some ⟨b1, 0, none⟩)), (4, .pointer (some ⟨b2, 0, none⟩)), (7, .int .i64 best_3), (8, .int .i64 (k : Int)), (9, .int .i64 (k_2 : Int)), (13, .int .i64 g_.NY), (14, .int .i64 (k : Int)), (18, .int .i64 g_.NX), (19, .int .i64 (k_2 : Int)), (62, .agg #[.int .i64 r1, .int .i64 r2]), (63, P.v p)] rfl ⟨by kernel_rfl, by kernel_rfl⟩ ?_
            refine TL.call (some 64) [(2, .int .i64 radius), (3, .pointer (some ⟨b1, 0, none⟩)), (4, .pointer (some ⟨b2, 0, none⟩)), (7, .int .i64 best_3), (8, .int .i64 (k : Int)), (9, .int .i64 (k_2 : Int)), (13, .int .i64 g_.NY), (14, .int .i64 (k : Int)), (18, .int .i64 g_.NX), (19, .int .i64 (k_2 : Int)), (64, .int .i64 (plane_Square (⟨r1, r2⟩ : P) p))] (fun w _ => plane_Square_w (⟨r1, r2⟩ : P) p w) (by kernel_rfl) (by kernel_rfl) ?_
            generalize hr3 : plane_Square (⟨r1, r2⟩ : P) p = r3
            refine TL.run 7 [] [(2, .int .i64 radius), (3, .pointer (some ⟨b1, 0, none⟩)), (4, .pointer (some ⟨b2, 0, none⟩)), (7, .int .i64 best_3), (8, .int .i64 (k : Int)), (9, .int .i64 (k_2 : Int)), (13, .int .i64 g_.NY), (14, .int .i64 (k : Int)), (18, .int .i64 g_.NX), (19, .int .i64 (k_2 : Int)), (68, .bool (decide (r3 ≤ (w64 (radius * radius)))))] rfl ⟨by kernel_rfl, by kernel_rfl⟩ ?_
            refine TL.next rfl ?_
            refine TC.cond (decide (r3 ≤ (w64 (radius * radius)))) rfl (by kernel_rfl) (fun h3 => ?_) (fun h3 => ?_)
            · refine TC.region ?_
              refine TL.run 9 [3, 3] [(2, .int .i64 radius), (3, .pointer (some ⟨b1, 0, none⟩)), (4, .pointer (some ⟨b2, 0, none⟩)), (8, .int .i64 (k : Int)), (13, .int .i64 g_.NY), (14, .int .i64 (k : Int)), (18, .int .i64 g_.NX), (19, .int .i64 (k_2 : Int)), (69, .int .i64 best_3), (71, .slice A_g__Heights g_.Heights.length c_g__Heights), (77, .int .i64 (w64 ((w64 ((k : Int) * g_.NX)) + (k_2 : Int))))] rfl ⟨by kernel_rfl, by kernel_rfl⟩ ?_
              refine TL.val (sV (Instr.indexAt 62 (.slice A_g__Heights g_.Heights.length c_g__Heights) (.int .i64 (w64 ((w64 ((k : Int) * g_.NX)) + (k_2 : Int)))))) (some 78) (.pointer (some ((A_g__Heights.getD noAddr).add ((w64 ((w64 ((k : Int) * g_.NX)) + (k_2 : Int))).toNat * 1)))) [(2, .int .i64 radius), (3, .pointer (some ⟨b1, 0, none⟩)), (4, .pointer (some ⟨b2, 0, none⟩)), (8, .int .i64 (k : Int)), (13, .int .i64 g_.NY), (14, .int .i64 (k : Int)), (18, .int .i64 g_.NX), (19, .int .i64 (k_2 : Int)), (69, .int .i64 best_3), (78, .pointer (some ((A_g__Heights.getD noAddr).add ((w64 ((w64 ((k : Int) * g_.NX)) + (k_2 : Int))).toNat * 1))))] (fun w hM => run_index (h_g__Heights.sat hM) (by simp) (by kernel_rfl) (by have a_ := grid_at hg (x := (k_2 : Int)) (y := (k : Int)) (by omega) (by omega); first | exact a_.1 | exact a_.2.1 | exact a_.2.2) (by have a_ := grid_at hg (x := (k_2 : Int)) (y := (k : Int)) (by omega) (by omega); first | exact a_.1 | exact a_.2.1 | exact a_.2.2)) (by kernel_rfl) (by kernel_rfl) ?_
              refine TL.val (sV (Instr.loadAt 3 (.pointer (some ((A_g__Heights.getD noAddr).add ((w64 ((w64 ((k : Int) * g_.NX)) + (k_2 : Int))).toNat * 1)))))) (some 79) (.int .i64 (g_.Heights[(w64 ((w64 ((k : Int) * g_.NX)) + (k_2 : Int))).toNat]?.getD 0)) [(2, .int .i64 radius), (3, .pointer (some ⟨b1, 0, none⟩)), (4, .pointer (some ⟨b2, 0, none⟩)), (8, .int .i64 (k : Int)), (13, .int .i64 g_.NY), (14, .int .i64 (k : Int)), (18, .int .i64 g_.NX), (19, .int .i64 (k_2 : Int)), (69, .int .i64 best_3), (79, .int .i64 (g_.Heights[(w64 ((w64 ((k : Int) * g_.NX)) + (k_2 : Int))).toNat]?.getD 0))] (fun w hM => run_load_one (off := 0) (i := (w64 ((w64 ((k : Int) * g_.NX)) + (k_2 : Int))).toNat) (.int .i64 (g_.Heights[(w64 ((w64 ((k : Int) * g_.NX)) + (k_2 : Int))).toNat]?.getD 0)) (h_g__Heights.sat hM) (map_at (getD_at _ _ 0 (by have a_ := grid_at hg (x := (k_2 : Int)) (y := (k : Int)) (by omega) (by omega); first | exact a_.1 | exact a_.2.1 | exact a_.2.2))) (by kernel_rfl) (by kernel_rfl)) (by kernel_rfl) (by kernel_rfl) ?_
              refine TL.run 13 [] [(2, .int .i64 radius), (3, .pointer (some ⟨b1, 0, none⟩)), (4, .pointer (some ⟨b2, 0, none⟩)), (7, .int .i64 (imax best_3 (g_.Heights[(w64 ((w64 ((k : Int) * g_.NX)) + (k_2 : Int))).toNat]?.getD 0))), (8, .int .i64 (k : Int)), (13, .int .i64 g_.NY), (14, .int .i64 (k : Int)), (18, .int .i64 g_.NX), (19, .int .i64 (k_2 : Int))] rfl ⟨by kernel_rfl, by kernel_rfl⟩ ?_
              refine TL.done rfl ?_
              refine TE.normal_block ?_
              refine TE.next ?_
              refine TC.region ?_
              refine TL.run 2 [] [(2, .int .i64 radius), (3, .pointer (some ⟨b1, 0, none⟩)), (4, .pointer (some ⟨b2, 0, none⟩)), (7, .int .i64 (imax best_3 (g_.Heights[(w64 ((w64 ((k : Int) * g_.NX)) + (k_2 : Int))).toNat]?.getD 0))), (8, .int .i64 (k : Int)), (13, .int .i64 g_.NY), (14, .int .i64 (k : Int)), (18, .int .i64 g_.NX), (19, .int .i64 (w64 ((k_2 : Int) + 1)))] rfl ⟨by kernel_rfl, by kernel_rfl⟩ ?_
              refine TL.done rfl ?_
              refine TE.rw 19 (.int .i64 (w64 ((k_2 : Int) + 1))) (.int .i64 ((k_2 + 1 : Nat) : Int)) (by kernel_rfl) (w64_cast k_2 (by have kx_ := hg.1; have ky_ := hg.2.1; omega)) ?_
              exact TE.again (x := (k_2, best_3)) (k_2 + 1, imax best_3 (g_.Heights[(w64 ((w64 ((k : Int) * g_.NX)) + (k_2 : Int))).toNat]?.getD 0)) ⟨by omega, hI_2.trans (by subst hr1 hr2 hr3; rw [hd_2]; exact cond_t h3 (rfl))⟩ (by show (g_.NX : Int).toNat - (k_2 + 1) < (g_.NX : Int).toNat - k_2; omega) (by kernel_rfl) (.cons _ (.cons _ (.cons_cons _ (.cons_cons _ (.slnil)))))
            · refine TC.skip ?_
              refine TE.normal_block ?_
              refine TE.next ?_
              refine TC.region ?_
              refine TL.run 2 [] [(2, .int .i64 radius), (3, .pointer (some ⟨b1, 0, none⟩)), (4, .pointer (some ⟨b2, 0, none⟩)), (7, .int .i64 best_3), (8, .int .i64 (k : Int)), (13, .int .i64 g_.NY), (14, .int .i64 (k : Int)), (18, .int .i64 g_.NX), (19, .int .i64 (w64 ((k_2 : Int) + 1)))] rfl ⟨by kernel_rfl, by kernel_rfl⟩ ?_
              refine TL.done rfl ?_
              refine TE.rw 19 (.int .i64 (w64 ((k_2 : Int) + 1))) (.int .i64 ((k_2 + 1 : Nat) : Int)) (by kernel_rfl) (w64_cast k_2 (by have kx_ := hg.1; have ky_ := hg.2.1; omega)) ?_
              exact TE.again (x := (k_2, best_3)) (k_2 + 1, best_3) ⟨by omega, hI_2.trans (by subst hr1 hr2 hr3; rw [hd_2]; exact cond_f h3 (rfl))⟩ (by show (g_.NX : Int).toNat - (k_2 + 1) < (g_.NX : Int).toNat - k_2; omega) (by kernel_rfl) (.cons _ (.cons _ (.cons_cons _ (.cons_cons _ (.slnil)))))
        · have hd_2 : (g_.NX : Int).toNat - k_2 = 0 := by have := of_decide_eq_false h2; first | omega | (simp at this; omega)
          refine TC.exit ?_
          refine TE.exit_then (TE.exit_then (TE.exit_same ?_))
          exact TE.cut best_3 (hI_2.trans (by rw [hd_2]; exact rfl)) (by kernel_rfl) (.cons_cons _ (.cons_cons _ (.slnil)))
      · rintro best_4 hJ_2
        refine TE.normal_block ?_
        refine TE.next ?_
        refine TC.region ?_
        refine TL.run 2 [] [(2, .int .i64 radius), (3, .pointer (some ⟨b1, 0, none⟩)), (4, .pointer (some ⟨b2, 0, none⟩)), (7, .int .i64 best_4), (13, .int .i64 g_.NY), (14, .int .i64 (w64 ((k : Int) + 1)))] rfl ⟨by kernel_rfl, by kernel_rfl⟩ ?_
        refine TL.done rfl ?_
        refine TE.rw 14 (.int .i64 (w64 ((k : Int) + 1))) (.int .i64 ((k + 1 : Nat) : Int)) (by kernel_rfl) (w64_cast k (by have kx_ := hg.1; have ky_ := hg.2.1; omega)) ?_
        exact TE.again (x := (k, best)) (k + 1, best_4) ⟨by omega, hI.trans (by rw [hd]; exact bindv_eq (hR_2.symm.trans hJ_2) (rfl))⟩ (by show (g_.NY : Int).toNat - (k + 1) < (g_.NY : Int).toNat - k; omega) (by kernel_rfl) (.cons_cons _ (.cons_cons _ (.slnil)))
    · have hd : (g_.NY : Int).toNat - k = 0 := by have := of_decide_eq_false h1; first | omega | (simp at this; omega)
      refine TC.exit ?_
      refine TE.exit_then (TE.exit_then (TE.exit_same ?_))
      exact TE.cut best (hI.trans (by rw [hd]; exact rfl)) (by kernel_rfl) (.cons _ (.cons _ (.slnil)))
  · rintro best_2 hJ
    refine TE.next ?_
    refine TC.seq ?_
    refine TC.region ?_
    refine TL.run 2 [] [(6, .int .i64 best_2)] rfl ⟨by kernel_rfl, by kernel_rfl⟩ ?_
    refine TL.next rfl ?_
    refine TC.ret ?_
    have e : terrain_highest g_ p radius = best_2 := by unfold terrain_highest; exact bindv_eq (hR.symm.trans hJ) (rfl)
    exact TE.ret [] (.int .i64 best_2) ⟨by kernel_rfl, by kernel_rfl⟩ (by rw [e]; first | done | kernel_rfl)

def terrain_Highest (g_ : TerrainGrid) (p : P) (radius : Int) : Int × Int :=
  let r1 := terrain_Check g_
  cond (r1 != 0) (
    (0, r1)) (
    let r2 := plane_Check p
    cond (r2 != 0) (
      (0, 4)) (
      let r3 := terrain_out radius 0 4000000
      cond r3 (
        (0, 4)) (
        let r4 := terrain_highest g_ p radius
        (r4, 0))))

set_option maxRecDepth 100000 in
theorem terrain_Highest_w (g_ : TerrainGrid) (A_g__Heights : Option Addr) (c_g__Heights : Nat) (p : P) (radius : Int) (w : World) (h_g__Heights : Rd w 1 A_g__Heights (g_.Heights.map ic)) (hc_g__Heights : g_.Heights.length ≤ c_g__Heights) : Calls Try.prog 38 #[.agg #[.int .i64 g_.At.X, .int .i64 g_.At.Y, .int .i64 g_.Size, .int .i64 g_.NX, .int .i64 g_.NY, .slice A_g__Heights g_.Heights.length c_g__Heights], P.v p, .int .i64 radius] w (Ret w (.tuple #[.int .i64 ((terrain_Highest g_ p radius).1), .int .i64 ((terrain_Highest g_ p radius).2)])) := by
  have s_g__Heights := h_g__Heights.short; rw [List.length_map] at s_g__Heights
  refine calls_intro (vs := [.agg #[.int .i64 g_.At.X, .int .i64 g_.At.Y, .int .i64 g_.Size, .int .i64 g_.NX, .int .i64 g_.NY, .slice A_g__Heights g_.Heights.length c_g__Heights], P.v p, .int .i64 radius]) (w := w) Try.func38 rfl Try.ntmps38 rfl ?_
  refine TC.weak [(0, .agg #[.int .i64 g_.At.X, .int .i64 g_.At.Y, .int .i64 g_.Size, .int .i64 g_.NX, .int .i64 g_.NY, .slice A_g__Heights g_.Heights.length c_g__Heights]), (1, P.v p), (2, .int .i64 radius)] (by kernel_rfl) ?_
  refine TC.seq ?_
  refine TC.region ?_
  refine TL.write 0 (fun b1 => [(1, P.v p), (2, .int .i64 radius), (3, .pointer (some ⟨b1, 0, none⟩))]) (fun b1 => [.inl (b1, .cells #[.int .i64 g_.At.X, .int .i64 g_.At.Y, .int .i64 g_.Size, .int .i64 g_.NX, .int .i64 g_.NY, .slice A_g__Heights g_.Heights.length c_g__Heights] 73 (0, 0))]) (fun b1 => ⟨by kernel_rfl, by kernel_rfl⟩) (fun b1 => ?_)
  refine TL.write 0 (fun b2 => [(2, .int .i64 radius), (3, .pointer (some ⟨b1, 0, none⟩)), (4, .pointer (some ⟨b2, 0, none⟩))]) (fun b2 => [.inl (b2, .cells (P.c p) 23 (0, 0)), .inl (b1, .cells #[.int .i64 g_.At.X, .int .i64 g_.At.Y, .int .i64 g_.Size, .int .i64 g_.NX, .int .i64 g_.NY, .slice A_g__Heights g_.Heights.length c_g__Heights] 73 (0, 0))]) (fun b2 => ⟨by kernel_rfl, by kernel_rfl⟩) (fun b2 => ?_)
  refine TL.run 4 [] [(2, .int .i64 radius), (3, .pointer (some ⟨b1, 0, none⟩)), (4, .pointer (some ⟨b2, 0, none⟩))] rfl ⟨by kernel_rfl, by kernel_rfl⟩ ?_
  refine TL.next rfl ?_
  refine TC.seq ?_
  refine TC.seq ?_
  refine TC.region ?_
  refine TL.run 1 [1] [(2, .int .i64 radius), (3, .pointer (some ⟨b1, 0, none⟩)), (4, .pointer (some ⟨b2, 0, none⟩)), (9, .agg #[.int .i64 g_.At.X, .int .i64 g_.At.Y, .int .i64 g_.Size, .int .i64 g_.NX, .int .i64 g_.NY, .slice A_g__Heights g_.Heights.length c_g__Heights])] rfl ⟨by kernel_rfl, by kernel_rfl⟩ ?_
  refine TL.call (some 10) [(2, .int .i64 radius), (3, .pointer (some ⟨b1, 0, none⟩)), (4, .pointer (some ⟨b2, 0, none⟩)), (10, .int .i64 (terrain_Check g_))] (fun w hM => terrain_Check_w g_ A_g__Heights c_g__Heights w (h_g__Heights.sat hM) hc_g__Heights) (by kernel_rfl) (by kernel_rfl) ?_
  generalize hr1 : terrain_Check g_ = r1
  refine TL.run 3 [] [(2, .int .i64 radius), (3, .pointer (some ⟨b1, 0, none⟩)), (4, .pointer (some ⟨b2, 0, none⟩)), (8, .int .i64 r1)] rfl ⟨by kernel_rfl, by kernel_rfl⟩ ?_
  refine TL.next rfl ?_
  refine TC.seq ?_
  refine TC.region ?_
  refine TL.run 2 [] [(2, .int .i64 radius), (3, .pointer (some ⟨b1, 0, none⟩)), (4, .pointer (some ⟨b2, 0, none⟩)), (8, .int .i64 r1), (12, .bool (r1 != 0))] rfl ⟨by kernel_rfl, by kernel_rfl⟩ ?_
  refine TL.next rfl ?_
  refine TC.cond (r1 != 0) rfl (by kernel_rfl) (fun h1 => ?_) (fun h1 => ?_)
  · refine TC.seq ?_
    refine TC.region ?_
    refine TL.run 3 [] [(6, .int .i64 0), (7, .int .i64 r1)] rfl ⟨by kernel_rfl, by kernel_rfl⟩ ?_
    refine TL.next rfl ?_
    refine TC.ret ?_
    refine TE.ret_then ?_
    have e : terrain_Highest g_ p radius = (0, r1) := by subst hr1; unfold terrain_Highest; exact cond_t h1 (rfl)
    exact TE.ret [] (.tuple #[.int .i64 0, .int .i64 r1]) ⟨by kernel_rfl, by kernel_rfl⟩ (by rw [e]; first | done | kernel_rfl)
  · refine TC.skip ?_
    refine TE.next ?_
    refine TC.seq ?_
    refine TC.seq ?_
    refine TC.region ?_
    refine TL.run 1 [0] [(2, .int .i64 radius), (3, .pointer (some ⟨b1, 0, none⟩)), (4, .pointer (some ⟨b2, 0, none⟩)), (14, P.v p)] rfl ⟨by kernel_rfl, by kernel_rfl⟩ ?_
    refine TL.call (some 15) [(2, .int .i64 radius), (3, .pointer (some ⟨b1, 0, none⟩)), (4, .pointer (some ⟨b2, 0, none⟩)), (15, .int .i64 (plane_Check p))] (fun w _ => plane_Check_w p w) (by kernel_rfl) (by kernel_rfl) ?_
    generalize hr2 : plane_Check p = r2
    refine TL.run 4 [] [(2, .int .i64 radius), (3, .pointer (some ⟨b1, 0, none⟩)), (4, .pointer (some ⟨b2, 0, none⟩)), (17, .bool (r2 != 0))] rfl ⟨by kernel_rfl, by kernel_rfl⟩ ?_
    refine TL.split 17 (r2 != 0) (by kernel_rfl) (fun h2 => ?_) (fun h2 => ?_)
    · refine TL.run 7 [] [(2, .int .i64 radius), (3, .pointer (some ⟨b1, 0, none⟩)), (4, .pointer (some ⟨b2, 0, none⟩)), (20, .bool true)] rfl ⟨by kernel_rfl, by kernel_rfl⟩ ?_
      refine TL.next rfl ?_
      refine TC.condT rfl (by kernel_rfl) ?_
      refine TC.seq ?_
      refine TC.region ?_
      refine TL.run 2 [] [(6, .int .i64 0), (7, .int .i64 4)] rfl ⟨by kernel_rfl, by kernel_rfl⟩ ?_
      refine TL.next rfl ?_
      refine TC.ret ?_
      refine TE.ret_then ?_
      have e : terrain_Highest g_ p radius = (0, 4) := by subst hr1 hr2; unfold terrain_Highest; exact cond_f h1 (cond_t h2 (rfl))
      exact TE.ret [] (.tuple #[.int .i64 0, .int .i64 4]) ⟨by kernel_rfl, by kernel_rfl⟩ (by rw [e]; first | done | kernel_rfl)
    · refine TL.run 5 [] [(2, .int .i64 radius), (3, .pointer (some ⟨b1, 0, none⟩)), (4, .pointer (some ⟨b2, 0, none⟩)), (17, .bool false), (18, .int .i64 radius)] rfl ⟨by kernel_rfl, by kernel_rfl⟩ ?_
      refine TL.call (some 19) [(2, .int .i64 radius), (3, .pointer (some ⟨b1, 0, none⟩)), (4, .pointer (some ⟨b2, 0, none⟩)), (17, .bool false), (19, .bool ((terrain_out radius 0 4000000)))] (fun w _ => terrain_out_w radius 0 4000000 w) (by kernel_rfl) (by kernel_rfl) ?_
      generalize hr3 : terrain_out radius 0 4000000 = r3
      refine TL.run 7 [] [(2, .int .i64 radius), (3, .pointer (some ⟨b1, 0, none⟩)), (4, .pointer (some ⟨b2, 0, none⟩)), (20, .bool r3)] rfl ⟨by kernel_rfl, by kernel_rfl⟩ ?_
      refine TL.next rfl ?_
      refine TC.cond r3 rfl (by kernel_rfl) (fun h3 => ?_) (fun h3 => ?_)
      · refine TC.seq ?_
        refine TC.region ?_
        refine TL.run 2 [] [(6, .int .i64 0), (7, .int .i64 4)] rfl ⟨by kernel_rfl, by kernel_rfl⟩ ?_
        refine TL.next rfl ?_
        refine TC.ret ?_
        refine TE.ret_then ?_
        have e : terrain_Highest g_ p radius = (0, 4) := by subst hr1 hr2 hr3; unfold terrain_Highest; exact cond_f h1 (cond_f h2 (cond_t h3 (rfl)))
        exact TE.ret [] (.tuple #[.int .i64 0, .int .i64 4]) ⟨by kernel_rfl, by kernel_rfl⟩ (by rw [e]; first | done | kernel_rfl)
      · refine TC.skip ?_
        refine TE.next ?_
        refine TC.seq ?_
        refine TC.region ?_
        refine TL.run 3 [1, 0] [(21, .agg #[.int .i64 g_.At.X, .int .i64 g_.At.Y, .int .i64 g_.Size, .int .i64 g_.NX, .int .i64 g_.NY, .slice A_g__Heights g_.Heights.length c_g__Heights]), (22, P.v p), (23, .int .i64 radius)] rfl ⟨by kernel_rfl, by kernel_rfl⟩ ?_
        refine TL.call (some 24) [(24, .int .i64 (terrain_highest g_ p radius))] (fun w hM => terrain_highest_w g_ A_g__Heights c_g__Heights p radius w (h_g__Heights.sat hM) hc_g__Heights (grid_in hr1 h1)) (by kernel_rfl) (by kernel_rfl) ?_
        generalize hr4 : terrain_highest g_ p radius = r4
        refine TL.run 6 [] [(6, .int .i64 r4), (7, .int .i64 0)] rfl ⟨by kernel_rfl, by kernel_rfl⟩ ?_
        refine TL.next rfl ?_
        refine TC.ret ?_
        have e : terrain_Highest g_ p radius = (r4, 0) := by subst hr1 hr2 hr3 hr4; unfold terrain_Highest; exact cond_f h1 (cond_f h2 (cond_f h3 (rfl)))
        exact TE.ret [] (.tuple #[.int .i64 r4, .int .i64 0]) ⟨by kernel_rfl, by kernel_rfl⟩ (by rw [e]; first | done | kernel_rfl)

def terrain_Safe (g_ : TerrainGrid) (p : P) (radius : Int) (clearance : Int) : Int × Int :=
  let r1 := terrain_Highest g_ p radius
  cond (r1.2 != 0) (
    (0, r1.2)) (
    let r2 := terrain_out clearance 0 60000
    cond r2 (
      (0, 4)) (
      (w64 (r1.1 + clearance), 0)))

set_option maxRecDepth 100000 in
theorem terrain_Safe_w (g_ : TerrainGrid) (A_g__Heights : Option Addr) (c_g__Heights : Nat) (p : P) (radius : Int) (clearance : Int) (w : World) (h_g__Heights : Rd w 1 A_g__Heights (g_.Heights.map ic)) (hc_g__Heights : g_.Heights.length ≤ c_g__Heights) : Calls Try.prog 36 #[.agg #[.int .i64 g_.At.X, .int .i64 g_.At.Y, .int .i64 g_.Size, .int .i64 g_.NX, .int .i64 g_.NY, .slice A_g__Heights g_.Heights.length c_g__Heights], P.v p, .int .i64 radius, .int .i64 clearance] w (Ret w (.tuple #[.int .i64 ((terrain_Safe g_ p radius clearance).1), .int .i64 ((terrain_Safe g_ p radius clearance).2)])) := by
  have s_g__Heights := h_g__Heights.short; rw [List.length_map] at s_g__Heights
  refine calls_intro (vs := [.agg #[.int .i64 g_.At.X, .int .i64 g_.At.Y, .int .i64 g_.Size, .int .i64 g_.NX, .int .i64 g_.NY, .slice A_g__Heights g_.Heights.length c_g__Heights], P.v p, .int .i64 radius, .int .i64 clearance]) (w := w) Try.func36 rfl Try.ntmps36 rfl ?_
  refine TC.weak [(0, .agg #[.int .i64 g_.At.X, .int .i64 g_.At.Y, .int .i64 g_.Size, .int .i64 g_.NX, .int .i64 g_.NY, .slice A_g__Heights g_.Heights.length c_g__Heights]), (1, P.v p), (2, .int .i64 radius), (3, .int .i64 clearance)] (by kernel_rfl) ?_
  refine TC.seq ?_
  refine TC.region ?_
  refine TL.write 0 (fun b1 => [(1, P.v p), (2, .int .i64 radius), (3, .int .i64 clearance), (4, .pointer (some ⟨b1, 0, none⟩))]) (fun b1 => [.inl (b1, .cells #[.int .i64 g_.At.X, .int .i64 g_.At.Y, .int .i64 g_.Size, .int .i64 g_.NX, .int .i64 g_.NY, .slice A_g__Heights g_.Heights.length c_g__Heights] 73 (0, 0))]) (fun b1 => ⟨by kernel_rfl, by kernel_rfl⟩) (fun b1 => ?_)
  refine TL.write 0 (fun b2 => [(2, .int .i64 radius), (3, .int .i64 clearance), (4, .pointer (some ⟨b1, 0, none⟩)), (5, .pointer (some ⟨b2, 0, none⟩))]) (fun b2 => [.inl (b2, .cells (P.c p) 23 (0, 0)), .inl (b1, .cells #[.int .i64 g_.At.X, .int .i64 g_.At.Y, .int .i64 g_.Size, .int .i64 g_.NX, .int .i64 g_.NY, .slice A_g__Heights g_.Heights.length c_g__Heights] 73 (0, 0))]) (fun b2 => ⟨by kernel_rfl, by kernel_rfl⟩) (fun b2 => ?_)
  refine TL.run 4 [] [(2, .int .i64 radius), (3, .int .i64 clearance), (4, .pointer (some ⟨b1, 0, none⟩)), (5, .pointer (some ⟨b2, 0, none⟩))] rfl ⟨by kernel_rfl, by kernel_rfl⟩ ?_
  refine TL.next rfl ?_
  refine TC.seq ?_
  refine TC.region ?_
  refine TL.run 3 [1, 0] [(3, .int .i64 clearance), (13, .agg #[.int .i64 g_.At.X, .int .i64 g_.At.Y, .int .i64 g_.Size, .int .i64 g_.NX, .int .i64 g_.NY, .slice A_g__Heights g_.Heights.length c_g__Heights]), (14, P.v p), (15, .int .i64 radius)] rfl ⟨by kernel_rfl, by kernel_rfl⟩ ?_
  refine TL.call (some 16) [(3, .int .i64 clearance), (16, .tuple #[.int .i64 ((terrain_Highest g_ p radius).1), .int .i64 ((terrain_Highest g_ p radius).2)])] (fun w hM => terrain_Highest_w g_ A_g__Heights c_g__Heights p radius w (h_g__Heights.sat hM) hc_g__Heights) (by kernel_rfl) (by kernel_rfl) ?_
  generalize hr1 : terrain_Highest g_ p radius = r1
  refine TL.run 9 [] [(3, .int .i64 clearance), (10, .int .i64 r1.1), (11, .int .i64 r1.2)] rfl ⟨by kernel_rfl, by kernel_rfl⟩ ?_
  refine TL.next rfl ?_
  refine TC.seq ?_
  refine TC.seq ?_
  refine TC.region ?_
  refine TL.run 2 [] [(3, .int .i64 clearance), (10, .int .i64 r1.1), (11, .int .i64 r1.2), (20, .bool (r1.2 != 0))] rfl ⟨by kernel_rfl, by kernel_rfl⟩ ?_
  refine TL.next rfl ?_
  refine TC.cond (r1.2 != 0) rfl (by kernel_rfl) (fun h1 => ?_) (fun h1 => ?_)
  · refine TC.seq ?_
    refine TC.region ?_
    refine TL.run 3 [] [(8, .int .i64 0), (9, .int .i64 r1.2)] rfl ⟨by kernel_rfl, by kernel_rfl⟩ ?_
    refine TL.next rfl ?_
    refine TC.ret ?_
    refine TE.ret_then ?_
    have e : terrain_Safe g_ p radius clearance = (0, r1.2) := by subst hr1; unfold terrain_Safe; exact cond_t h1 (rfl)
    exact TE.ret [] (.tuple #[.int .i64 0, .int .i64 r1.2]) ⟨by kernel_rfl, by kernel_rfl⟩ (by rw [e]; first | done | kernel_rfl)
  · refine TC.skip ?_
    refine TE.next ?_
    refine TC.seq ?_
    refine TC.seq ?_
    refine TC.region ?_
    refine TL.run 1 [] [(3, .int .i64 clearance), (10, .int .i64 r1.1), (22, .int .i64 clearance)] rfl ⟨by kernel_rfl, by kernel_rfl⟩ ?_
    refine TL.call (some 23) [(3, .int .i64 clearance), (10, .int .i64 r1.1), (23, .bool ((terrain_out clearance 0 60000)))] (fun w _ => terrain_out_w clearance 0 60000 w) (by kernel_rfl) (by kernel_rfl) ?_
    generalize hr2 : terrain_out clearance 0 60000 = r2
    refine TL.next rfl ?_
    refine TC.cond r2 rfl (by kernel_rfl) (fun h2 => ?_) (fun h2 => ?_)
    · refine TC.seq ?_
      refine TC.region ?_
      refine TL.run 2 [] [(8, .int .i64 0), (9, .int .i64 4)] rfl ⟨by kernel_rfl, by kernel_rfl⟩ ?_
      refine TL.next rfl ?_
      refine TC.ret ?_
      refine TE.ret_then ?_
      have e : terrain_Safe g_ p radius clearance = (0, 4) := by subst hr1 hr2; unfold terrain_Safe; exact cond_f h1 (cond_t h2 (rfl))
      exact TE.ret [] (.tuple #[.int .i64 0, .int .i64 4]) ⟨by kernel_rfl, by kernel_rfl⟩ (by rw [e]; first | done | kernel_rfl)
    · refine TC.skip ?_
      refine TE.next ?_
      refine TC.seq ?_
      refine TC.region ?_
      refine TL.run 5 [] [(8, .int .i64 (w64 (r1.1 + clearance))), (9, .int .i64 0)] rfl ⟨by kernel_rfl, by kernel_rfl⟩ ?_
      refine TL.next rfl ?_
      refine TC.ret ?_
      have e : terrain_Safe g_ p radius clearance = (w64 (r1.1 + clearance), 0) := by subst hr1 hr2; unfold terrain_Safe; exact cond_f h1 (cond_f h2 (rfl))
      exact TE.ret [] (.tuple #[.int .i64 (w64 (r1.1 + clearance)), .int .i64 0]) ⟨by kernel_rfl, by kernel_rfl⟩ (by rw [e]; first | done | kernel_rfl)

def terrain_Warn_L1 (g_ : TerrainGrid) (f : FilterTrack) (accel : Int) (climb : Int) (clearance : Int) : Nat → Nat → ((Unit) ⊕ (Int × Int))
  | 0, _ => .inl ()
  | m + 1, k => let r7 := filter_Predict f (w64 (f.Track.Time + (k : Int))) accel
    cond (r7.2 != 0) (
      .inr (0, 12)) (
      let r8 := terrain_highest g_ r7.1.Track.At r7.1.Track.Radius
      cond (decide ((w64 ((w64 (r7.1.Track.Height - 100)) - (w64 (climb * (k : Int))))) < (w64 (r8 + clearance)))) (
        .inr ((k : Int), 0)) (
        terrain_Warn_L1 g_ f accel climb clearance m (k + 1)))
def terrain_Warn (g_ : TerrainGrid) (f : FilterTrack) (seconds : Int) (accel : Int) (climb : Int) (clearance : Int) : Int × Int :=
  let r1 := terrain_Check g_
  cond (r1 != 0) (
    (0, r1)) (
    let r2 := filter_Check f
    cond (r2 != 0) (
      (0, r2)) (
      let r3 := terrain_out seconds 0 300
      cond r3 (
        (0, 4)) (
        let r4 := terrain_out accel 0 20
        cond r4 (
          (0, 4)) (
          let r5 := terrain_out climb 0 200
          cond r5 (
            (0, 4)) (
            let r6 := terrain_out clearance 0 60000
            cond r6 (
              (0, 4)) (
              Sum.elim (fun _ =>
                (0, 8)) (fun r => r) (terrain_Warn_L1 g_ f accel climb clearance ((seconds + 1).toNat) 0)))))))

theorem terrain_out_in {n a b : Int} {r : Bool} (hr : terrain_out n a b = r) (h : r = false) : a ≤ n ∧ n ≤ b := by
  subst hr; rw [out_terrain] at h
  have := of_decide_eq_false h; omega

set_option maxRecDepth 100000 in
theorem terrain_Warn_w (g_ : TerrainGrid) (A_g__Heights : Option Addr) (c_g__Heights : Nat) (f : FilterTrack) (seconds : Int) (accel : Int) (climb : Int) (clearance : Int) (w : World) (h_g__Heights : Rd w 1 A_g__Heights (g_.Heights.map ic)) (hc_g__Heights : g_.Heights.length ≤ c_g__Heights) : Calls Try.prog 40 #[.agg #[.int .i64 g_.At.X, .int .i64 g_.At.Y, .int .i64 g_.Size, .int .i64 g_.NX, .int .i64 g_.NY, .slice A_g__Heights g_.Heights.length c_g__Heights], FilterTrack.v f, .int .i64 seconds, .int .i64 accel, .int .i64 climb, .int .i64 clearance] w (Ret w (.tuple #[.int .i64 ((terrain_Warn g_ f seconds accel climb clearance).1), .int .i64 ((terrain_Warn g_ f seconds accel climb clearance).2)])) := by
  have s_g__Heights := h_g__Heights.short; rw [List.length_map] at s_g__Heights
  refine calls_intro (vs := [.agg #[.int .i64 g_.At.X, .int .i64 g_.At.Y, .int .i64 g_.Size, .int .i64 g_.NX, .int .i64 g_.NY, .slice A_g__Heights g_.Heights.length c_g__Heights], FilterTrack.v f, .int .i64 seconds, .int .i64 accel, .int .i64 climb, .int .i64 clearance]) (w := w) Try.func40 rfl Try.ntmps40 rfl ?_
  refine TC.weak [(0, .agg #[.int .i64 g_.At.X, .int .i64 g_.At.Y, .int .i64 g_.Size, .int .i64 g_.NX, .int .i64 g_.NY, .slice A_g__Heights g_.Heights.length c_g__Heights]), (1, FilterTrack.v f), (2, .int .i64 seconds), (3, .int .i64 accel), (4, .int .i64 climb), (5, .int .i64 clearance)] (by kernel_rfl) ?_
  refine TC.seq ?_
  refine TC.region ?_
  refine TL.write 0 (fun b1 => [(1, FilterTrack.v f), (2, .int .i64 seconds), (3, .int .i64 accel), (4, .int .i64 climb), (5, .int .i64 clearance), (6, .pointer (some ⟨b1, 0, none⟩))]) (fun b1 => [.inl (b1, .cells #[.int .i64 g_.At.X, .int .i64 g_.At.Y, .int .i64 g_.Size, .int .i64 g_.NX, .int .i64 g_.NY, .slice A_g__Heights g_.Heights.length c_g__Heights] 73 (0, 0))]) (fun b1 => ⟨by kernel_rfl, by kernel_rfl⟩) (fun b1 => ?_)
  refine TL.write 0 (fun b2 => [(2, .int .i64 seconds), (3, .int .i64 accel), (4, .int .i64 climb), (5, .int .i64 clearance), (6, .pointer (some ⟨b1, 0, none⟩)), (7, .pointer (some ⟨b2, 0, none⟩))]) (fun b2 => [.inl (b2, .cells (FilterTrack.c f) 29 (0, 0)), .inl (b1, .cells #[.int .i64 g_.At.X, .int .i64 g_.At.Y, .int .i64 g_.Size, .int .i64 g_.NX, .int .i64 g_.NY, .slice A_g__Heights g_.Heights.length c_g__Heights] 73 (0, 0))]) (fun b2 => ⟨by kernel_rfl, by kernel_rfl⟩) (fun b2 => ?_)
  refine TL.run 4 [] [(2, .int .i64 seconds), (3, .int .i64 accel), (4, .int .i64 climb), (5, .int .i64 clearance), (6, .pointer (some ⟨b1, 0, none⟩)), (7, .pointer (some ⟨b2, 0, none⟩))] rfl ⟨by kernel_rfl, by kernel_rfl⟩ ?_
  refine TL.next rfl ?_
  refine TC.seq ?_
  refine TC.seq ?_
  refine TC.region ?_
  refine TL.run 1 [1] [(2, .int .i64 seconds), (3, .int .i64 accel), (4, .int .i64 climb), (5, .int .i64 clearance), (6, .pointer (some ⟨b1, 0, none⟩)), (7, .pointer (some ⟨b2, 0, none⟩)), (19, .agg #[.int .i64 g_.At.X, .int .i64 g_.At.Y, .int .i64 g_.Size, .int .i64 g_.NX, .int .i64 g_.NY, .slice A_g__Heights g_.Heights.length c_g__Heights])] rfl ⟨by kernel_rfl, by kernel_rfl⟩ ?_
  refine TL.call (some 20) [(2, .int .i64 seconds), (3, .int .i64 accel), (4, .int .i64 climb), (5, .int .i64 clearance), (6, .pointer (some ⟨b1, 0, none⟩)), (7, .pointer (some ⟨b2, 0, none⟩)), (20, .int .i64 (terrain_Check g_))] (fun w hM => terrain_Check_w g_ A_g__Heights c_g__Heights w (h_g__Heights.sat hM) hc_g__Heights) (by kernel_rfl) (by kernel_rfl) ?_
  generalize hr1 : terrain_Check g_ = r1
  refine TL.run 3 [] [(2, .int .i64 seconds), (3, .int .i64 accel), (4, .int .i64 climb), (5, .int .i64 clearance), (6, .pointer (some ⟨b1, 0, none⟩)), (7, .pointer (some ⟨b2, 0, none⟩)), (14, .int .i64 r1)] rfl ⟨by kernel_rfl, by kernel_rfl⟩ ?_
  refine TL.next rfl ?_
  refine TC.seq ?_
  refine TC.region ?_
  refine TL.run 2 [] [(2, .int .i64 seconds), (3, .int .i64 accel), (4, .int .i64 climb), (5, .int .i64 clearance), (6, .pointer (some ⟨b1, 0, none⟩)), (7, .pointer (some ⟨b2, 0, none⟩)), (14, .int .i64 r1), (22, .bool (r1 != 0))] rfl ⟨by kernel_rfl, by kernel_rfl⟩ ?_
  refine TL.next rfl ?_
  refine TC.cond (r1 != 0) rfl (by kernel_rfl) (fun h1 => ?_) (fun h1 => ?_)
  · refine TC.seq ?_
    refine TC.region ?_
    refine TL.run 3 [] [(12, .int .i64 0), (13, .int .i64 r1)] rfl ⟨by kernel_rfl, by kernel_rfl⟩ ?_
    refine TL.next rfl ?_
    refine TC.ret ?_
    refine TE.ret_then ?_
    have e : terrain_Warn g_ f seconds accel climb clearance = (0, r1) := by subst hr1; unfold terrain_Warn; exact cond_t h1 (rfl)
    exact TE.ret [] (.tuple #[.int .i64 0, .int .i64 r1]) ⟨by kernel_rfl, by kernel_rfl⟩ (by rw [e]; first | done | kernel_rfl)
  · refine TC.skip ?_
    refine TE.next ?_
    refine TC.seq ?_
    refine TC.seq ?_
    refine TC.region ?_
    refine TL.run 1 [0] [(2, .int .i64 seconds), (3, .int .i64 accel), (4, .int .i64 climb), (5, .int .i64 clearance), (6, .pointer (some ⟨b1, 0, none⟩)), (7, .pointer (some ⟨b2, 0, none⟩)), (24, FilterTrack.v f)] rfl ⟨by kernel_rfl, by kernel_rfl⟩ ?_
    refine TL.call (some 25) [(2, .int .i64 seconds), (3, .int .i64 accel), (4, .int .i64 climb), (5, .int .i64 clearance), (6, .pointer (some ⟨b1, 0, none⟩)), (7, .pointer (some ⟨b2, 0, none⟩)), (25, .int .i64 (filter_Check f))] (fun w _ => filter_Check_w f w) (by kernel_rfl) (by kernel_rfl) ?_
    generalize hr2 : filter_Check f = r2
    refine TL.run 3 [] [(2, .int .i64 seconds), (3, .int .i64 accel), (4, .int .i64 climb), (5, .int .i64 clearance), (6, .pointer (some ⟨b1, 0, none⟩)), (7, .pointer (some ⟨b2, 0, none⟩)), (15, .int .i64 r2)] rfl ⟨by kernel_rfl, by kernel_rfl⟩ ?_
    refine TL.next rfl ?_
    refine TC.seq ?_
    refine TC.region ?_
    refine TL.run 2 [] [(2, .int .i64 seconds), (3, .int .i64 accel), (4, .int .i64 climb), (5, .int .i64 clearance), (6, .pointer (some ⟨b1, 0, none⟩)), (7, .pointer (some ⟨b2, 0, none⟩)), (15, .int .i64 r2), (27, .bool (r2 != 0))] rfl ⟨by kernel_rfl, by kernel_rfl⟩ ?_
    refine TL.next rfl ?_
    refine TC.cond (r2 != 0) rfl (by kernel_rfl) (fun h2 => ?_) (fun h2 => ?_)
    · refine TC.seq ?_
      refine TC.region ?_
      refine TL.run 3 [] [(12, .int .i64 0), (13, .int .i64 r2)] rfl ⟨by kernel_rfl, by kernel_rfl⟩ ?_
      refine TL.next rfl ?_
      refine TC.ret ?_
      refine TE.ret_then ?_
      have e : terrain_Warn g_ f seconds accel climb clearance = (0, r2) := by subst hr1 hr2; unfold terrain_Warn; exact cond_f h1 (cond_t h2 (rfl))
      exact TE.ret [] (.tuple #[.int .i64 0, .int .i64 r2]) ⟨by kernel_rfl, by kernel_rfl⟩ (by rw [e]; first | done | kernel_rfl)
    · refine TC.skip ?_
      refine TE.next ?_
      refine TC.seq ?_
      refine TC.seq ?_
      refine TC.region ?_
      refine TL.run 1 [] [(2, .int .i64 seconds), (3, .int .i64 accel), (4, .int .i64 climb), (5, .int .i64 clearance), (6, .pointer (some ⟨b1, 0, none⟩)), (7, .pointer (some ⟨b2, 0, none⟩)), (29, .int .i64 seconds)] rfl ⟨by kernel_rfl, by kernel_rfl⟩ ?_
      refine TL.call (some 30) [(2, .int .i64 seconds), (3, .int .i64 accel), (4, .int .i64 climb), (5, .int .i64 clearance), (6, .pointer (some ⟨b1, 0, none⟩)), (7, .pointer (some ⟨b2, 0, none⟩)), (30, .bool ((terrain_out seconds 0 300)))] (fun w _ => terrain_out_w seconds 0 300 w) (by kernel_rfl) (by kernel_rfl) ?_
      generalize hr3 : terrain_out seconds 0 300 = r3
      refine TL.run 3 [] [(2, .int .i64 seconds), (3, .int .i64 accel), (4, .int .i64 climb), (5, .int .i64 clearance), (6, .pointer (some ⟨b1, 0, none⟩)), (7, .pointer (some ⟨b2, 0, none⟩)), (31, .bool r3)] rfl ⟨by kernel_rfl, by kernel_rfl⟩ ?_
      refine TL.split 31 r3 (by kernel_rfl) (fun h3 => ?_) (fun h3 => ?_)
      · refine TL.run 14 [] [(2, .int .i64 seconds), (3, .int .i64 accel), (4, .int .i64 climb), (5, .int .i64 clearance), (6, .pointer (some ⟨b1, 0, none⟩)), (7, .pointer (some ⟨b2, 0, none⟩)), (42, .bool true)] rfl ⟨by kernel_rfl, by kernel_rfl⟩ ?_
        refine TL.next rfl ?_
        refine TC.condT rfl (by kernel_rfl) ?_
        refine TC.seq ?_
        refine TC.region ?_
        refine TL.run 2 [] [(12, .int .i64 0), (13, .int .i64 4)] rfl ⟨by kernel_rfl, by kernel_rfl⟩ ?_
        refine TL.next rfl ?_
        refine TC.ret ?_
        refine TE.ret_then ?_
        have e : terrain_Warn g_ f seconds accel climb clearance = (0, 4) := by subst hr1 hr2 hr3; unfold terrain_Warn; exact cond_f h1 (cond_f h2 (cond_t h3 (rfl)))
        exact TE.ret [] (.tuple #[.int .i64 0, .int .i64 4]) ⟨by kernel_rfl, by kernel_rfl⟩ (by rw [e]; first | done | kernel_rfl)
      · refine TL.run 4 [] [(2, .int .i64 seconds), (3, .int .i64 accel), (4, .int .i64 climb), (5, .int .i64 clearance), (6, .pointer (some ⟨b1, 0, none⟩)), (7, .pointer (some ⟨b2, 0, none⟩)), (31, .bool false), (32, .int .i64 accel)] rfl ⟨by kernel_rfl, by kernel_rfl⟩ ?_
        refine TL.call (some 33) [(2, .int .i64 seconds), (3, .int .i64 accel), (4, .int .i64 climb), (5, .int .i64 clearance), (6, .pointer (some ⟨b1, 0, none⟩)), (7, .pointer (some ⟨b2, 0, none⟩)), (31, .bool false), (33, .bool ((terrain_out accel 0 20)))] (fun w _ => terrain_out_w accel 0 20 w) (by kernel_rfl) (by kernel_rfl) ?_
        generalize hr4 : terrain_out accel 0 20 = r4
        refine TL.run 7 [] [(2, .int .i64 seconds), (3, .int .i64 accel), (4, .int .i64 climb), (5, .int .i64 clearance), (6, .pointer (some ⟨b1, 0, none⟩)), (7, .pointer (some ⟨b2, 0, none⟩)), (35, .bool r4)] rfl ⟨by kernel_rfl, by kernel_rfl⟩ ?_
        refine TL.split 35 r4 (by kernel_rfl) (fun h4 => ?_) (fun h4 => ?_)
        · refine TL.run 14 [] [(2, .int .i64 seconds), (3, .int .i64 accel), (4, .int .i64 climb), (5, .int .i64 clearance), (6, .pointer (some ⟨b1, 0, none⟩)), (7, .pointer (some ⟨b2, 0, none⟩)), (42, .bool true)] rfl ⟨by kernel_rfl, by kernel_rfl⟩ ?_
          refine TL.next rfl ?_
          refine TC.condT rfl (by kernel_rfl) ?_
          refine TC.seq ?_
          refine TC.region ?_
          refine TL.run 2 [] [(12, .int .i64 0), (13, .int .i64 4)] rfl ⟨by kernel_rfl, by kernel_rfl⟩ ?_
          refine TL.next rfl ?_
          refine TC.ret ?_
          refine TE.ret_then ?_
          have e : terrain_Warn g_ f seconds accel climb clearance = (0, 4) := by subst hr1 hr2 hr3 hr4; unfold terrain_Warn; exact cond_f h1 (cond_f h2 (cond_f h3 (cond_t h4 (rfl))))
          exact TE.ret [] (.tuple #[.int .i64 0, .int .i64 4]) ⟨by kernel_rfl, by kernel_rfl⟩ (by rw [e]; first | done | kernel_rfl)
        · refine TL.run 8 [] [(2, .int .i64 seconds), (3, .int .i64 accel), (4, .int .i64 climb), (5, .int .i64 clearance), (6, .pointer (some ⟨b1, 0, none⟩)), (7, .pointer (some ⟨b2, 0, none⟩)), (35, .bool false), (36, .int .i64 climb)] rfl ⟨by kernel_rfl, by kernel_rfl⟩ ?_
          refine TL.call (some 37) [(2, .int .i64 seconds), (3, .int .i64 accel), (4, .int .i64 climb), (5, .int .i64 clearance), (6, .pointer (some ⟨b1, 0, none⟩)), (7, .pointer (some ⟨b2, 0, none⟩)), (35, .bool false), (37, .bool ((terrain_out climb 0 200)))] (fun w _ => terrain_out_w climb 0 200 w) (by kernel_rfl) (by kernel_rfl) ?_
          generalize hr5 : terrain_out climb 0 200 = r5
          refine TL.run 11 [] [(2, .int .i64 seconds), (3, .int .i64 accel), (4, .int .i64 climb), (5, .int .i64 clearance), (6, .pointer (some ⟨b1, 0, none⟩)), (7, .pointer (some ⟨b2, 0, none⟩)), (39, .bool r5)] rfl ⟨by kernel_rfl, by kernel_rfl⟩ ?_
          refine TL.split 39 r5 (by kernel_rfl) (fun h5 => ?_) (fun h5 => ?_)
          · refine TL.run 14 [] [(2, .int .i64 seconds), (3, .int .i64 accel), (4, .int .i64 climb), (5, .int .i64 clearance), (6, .pointer (some ⟨b1, 0, none⟩)), (7, .pointer (some ⟨b2, 0, none⟩)), (42, .bool true)] rfl ⟨by kernel_rfl, by kernel_rfl⟩ ?_
            refine TL.next rfl ?_
            refine TC.condT rfl (by kernel_rfl) ?_
            refine TC.seq ?_
            refine TC.region ?_
            refine TL.run 2 [] [(12, .int .i64 0), (13, .int .i64 4)] rfl ⟨by kernel_rfl, by kernel_rfl⟩ ?_
            refine TL.next rfl ?_
            refine TC.ret ?_
            refine TE.ret_then ?_
            have e : terrain_Warn g_ f seconds accel climb clearance = (0, 4) := by subst hr1 hr2 hr3 hr4 hr5; unfold terrain_Warn; exact cond_f h1 (cond_f h2 (cond_f h3 (cond_f h4 (cond_t h5 (rfl)))))
            exact TE.ret [] (.tuple #[.int .i64 0, .int .i64 4]) ⟨by kernel_rfl, by kernel_rfl⟩ (by rw [e]; first | done | kernel_rfl)
          · refine TL.run 12 [] [(2, .int .i64 seconds), (3, .int .i64 accel), (4, .int .i64 climb), (5, .int .i64 clearance), (6, .pointer (some ⟨b1, 0, none⟩)), (7, .pointer (some ⟨b2, 0, none⟩)), (39, .bool false), (40, .int .i64 clearance)] rfl ⟨by kernel_rfl, by kernel_rfl⟩ ?_
            refine TL.call (some 41) [(2, .int .i64 seconds), (3, .int .i64 accel), (4, .int .i64 climb), (5, .int .i64 clearance), (6, .pointer (some ⟨b1, 0, none⟩)), (7, .pointer (some ⟨b2, 0, none⟩)), (39, .bool false), (41, .bool ((terrain_out clearance 0 60000)))] (fun w _ => terrain_out_w clearance 0 60000 w) (by kernel_rfl) (by kernel_rfl) ?_
            generalize hr6 : terrain_out clearance 0 60000 = r6
            refine TL.run 14 [] [(2, .int .i64 seconds), (3, .int .i64 accel), (4, .int .i64 climb), (5, .int .i64 clearance), (6, .pointer (some ⟨b1, 0, none⟩)), (7, .pointer (some ⟨b2, 0, none⟩)), (42, .bool r6)] rfl ⟨by kernel_rfl, by kernel_rfl⟩ ?_
            refine TL.next rfl ?_
            refine TC.cond r6 rfl (by kernel_rfl) (fun h6 => ?_) (fun h6 => ?_)
            · refine TC.seq ?_
              refine TC.region ?_
              refine TL.run 2 [] [(12, .int .i64 0), (13, .int .i64 4)] rfl ⟨by kernel_rfl, by kernel_rfl⟩ ?_
              refine TL.next rfl ?_
              refine TC.ret ?_
              refine TE.ret_then ?_
              have e : terrain_Warn g_ f seconds accel climb clearance = (0, 4) := by subst hr1 hr2 hr3 hr4 hr5 hr6; unfold terrain_Warn; exact cond_f h1 (cond_f h2 (cond_f h3 (cond_f h4 (cond_f h5 (cond_t h6 (rfl))))))
              exact TE.ret [] (.tuple #[.int .i64 0, .int .i64 4]) ⟨by kernel_rfl, by kernel_rfl⟩ (by rw [e]; first | done | kernel_rfl)
            · refine TC.skip ?_
              refine TE.next ?_
              refine TC.seq ?_
              refine TC.seq ?_
              refine TC.region ?_
              refine TL.run 1 [] [(2, .int .i64 seconds), (3, .int .i64 accel), (4, .int .i64 climb), (5, .int .i64 clearance), (6, .pointer (some ⟨b1, 0, none⟩)), (7, .pointer (some ⟨b2, 0, none⟩)), (16, .int .i64 0)] rfl ⟨by kernel_rfl, by kernel_rfl⟩ ?_
              refine TL.next rfl ?_
              refine TC.weak [(2, .int .i64 seconds), (3, .int .i64 accel), (4, .int .i64 climb), (5, .int .i64 clearance), (6, .pointer (some ⟨b1, 0, none⟩)), (7, .pointer (some ⟨b2, 0, none⟩)), (16, .int .i64 0)] (by kernel_rfl) ?_
              obtain ⟨R1, hR⟩ : ∃ R, R = terrain_Warn_L1 g_ f accel climb clearance ((seconds + 1).toNat) 0 := ⟨_, rfl⟩
              refine TC.cut (S := Unit) (fun (_ : Unit) => []) (fun (_ : Unit) => []) (fun (_ : Unit) => R1 = .inl ()) ?_ ?_
              · refine TC.block ?_
                refine TC.loop (X := Nat) (fun k => [(2, .int .i64 seconds), (3, .int .i64 accel), (4, .int .i64 climb), (5, .int .i64 clearance), (6, .pointer (some ⟨b1, 0, none⟩)), (7, .pointer (some ⟨b2, 0, none⟩)), (16, .int .i64 (k : Int))]) (fun k => [.inl (b2, .cells (FilterTrack.c f) 29 (0, 0)), .inl (b1, .cells #[.int .i64 g_.At.X, .int .i64 g_.At.Y, .int .i64 g_.Size, .int .i64 g_.NX, .int .i64 g_.NY, .slice A_g__Heights g_.Heights.length c_g__Heights] 73 (0, 0))]) (fun k => ((seconds + 1).toNat) - k) (fun k => k ≤ ((seconds + 1).toNat) ∧ R1 = terrain_Warn_L1 g_ f accel climb clearance (((seconds + 1).toNat) - k) k) ?_ 0 ⟨Nat.zero_le _, hR⟩
                rintro k ⟨hk, hI⟩
                refine TC.seq ?_
                refine TC.seq ?_
                refine TC.region ?_
                refine TL.run 3 [] [(2, .int .i64 seconds), (3, .int .i64 accel), (4, .int .i64 climb), (5, .int .i64 clearance), (6, .pointer (some ⟨b1, 0, none⟩)), (7, .pointer (some ⟨b2, 0, none⟩)), (16, .int .i64 (k : Int)), (45, .bool (decide ((k : Int) ≤ seconds)))] rfl ⟨by kernel_rfl, by kernel_rfl⟩ ?_
                refine TL.next rfl ?_
                refine TC.cond (decide ((k : Int) ≤ seconds)) rfl (by kernel_rfl) (fun h7 => ?_) (fun h7 => ?_)
                · have hlt : k < ((seconds + 1).toNat) := by have q0_ := (bne_f h1); have q1_ := (bne_f h2); have p0_ := (dec_t h7); have u1_ := terrain_out_in hr3 h3; first | omega | (simp only [w64_eq] at *; omega)
                  have hd : ((seconds + 1).toNat) - k = (((seconds + 1).toNat) - (k + 1)) + 1 := by omega
                  refine TC.skip ?_
                  refine TE.next ?_
                  refine TC.seq ?_
                  refine TC.block ?_
                  refine TC.seq ?_
                  refine TC.region ?_
                  refine TL.run 7 [0, 0] [(2, .int .i64 seconds), (3, .int .i64 accel), (4, .int .i64 climb), (5, .int .i64 clearance), (6, .pointer (some ⟨b1, 0, none⟩)), (7, .pointer (some ⟨b2, 0, none⟩)), (16, .int .i64 (k : Int)), (49, FilterTrack.v f), (54, .int .i64 (w64 (f.Track.Time + (k : Int)))), (55, .int .i64 accel)] rfl ⟨by kernel_rfl, by kernel_rfl⟩ ?_
                  refine TL.call (some 56) [(2, .int .i64 seconds), (3, .int .i64 accel), (4, .int .i64 climb), (5, .int .i64 clearance), (6, .pointer (some ⟨b1, 0, none⟩)), (7, .pointer (some ⟨b2, 0, none⟩)), (16, .int .i64 (k : Int)), (56, .tuple #[FilterTrack.v ((filter_Predict f (w64 (f.Track.Time + (k : Int))) accel).1), .int .i64 ((filter_Predict f (w64 (f.Track.Time + (k : Int))) accel).2)])] (fun w _ => filter_Predict_w f (w64 (f.Track.Time + (k : Int))) accel w) (by kernel_rfl) (by kernel_rfl) ?_
                  generalize hr7 : filter_Predict f (w64 (f.Track.Time + (k : Int))) accel = r7
                  refine TL.run 11 [] [(2, .int .i64 seconds), (3, .int .i64 accel), (4, .int .i64 climb), (5, .int .i64 clearance), (6, .pointer (some ⟨b1, 0, none⟩)), (7, .pointer (some ⟨b2, 0, none⟩)), (16, .int .i64 (k : Int)), (57, FilterTrack.v r7.1), (58, .int .i64 r7.2)] rfl ⟨by kernel_rfl, by kernel_rfl⟩ ?_
                  refine TL.write 0 (fun b3 => [(2, .int .i64 seconds), (3, .int .i64 accel), (4, .int .i64 climb), (5, .int .i64 clearance), (6, .pointer (some ⟨b1, 0, none⟩)), (7, .pointer (some ⟨b2, 0, none⟩)), (16, .int .i64 (k : Int)), (17, .pointer (some ⟨b3, 0, none⟩)), (57, FilterTrack.v r7.1), (58, .int .i64 r7.2)]) (fun b3 => [.inl (b3, .cells (FilterTrack.c FilterTrack.zero) 29 (0, 0)), .inl (b2, .cells (FilterTrack.c f) 29 (0, 0)), .inl (b1, .cells #[.int .i64 g_.At.X, .int .i64 g_.At.Y, .int .i64 g_.Size, .int .i64 g_.NX, .int .i64 g_.NY, .slice A_g__Heights g_.Heights.length c_g__Heights] 73 (0, 0))]) (fun b3 => ⟨by kernel_rfl, by kernel_rfl⟩) (fun b3 => ?_)
                  refine TL.write 0 (fun _ => [(2, .int .i64 seconds), (3, .int .i64 accel), (4, .int .i64 climb), (5, .int .i64 clearance), (6, .pointer (some ⟨b1, 0, none⟩)), (7, .pointer (some ⟨b2, 0, none⟩)), (16, .int .i64 (k : Int)), (17, .pointer (some ⟨b3, 0, none⟩)), (58, .int .i64 r7.2)]) (fun _ => [.inl (b3, .cells (FilterTrack.c r7.1) 29 (0, 0)), .inl (b2, .cells (FilterTrack.c f) 29 (0, 0)), .inl (b1, .cells #[.int .i64 g_.At.X, .int .i64 g_.At.Y, .int .i64 g_.Size, .int .i64 g_.NX, .int .i64 g_.NY, .slice A_g__Heights g_.Heights.length c_g__Heights] 73 (0, 0))]) (fun _ => ⟨by kernel_rfl, by kernel_rfl⟩) (fun _ => ?_)
                  refine TL.run 14 [] [(2, .int .i64 seconds), (3, .int .i64 accel), (4, .int .i64 climb), (5, .int .i64 clearance), (6, .pointer (some ⟨b1, 0, none⟩)), (7, .pointer (some ⟨b2, 0, none⟩)), (16, .int .i64 (k : Int)), (17, .pointer (some ⟨b3, 0, none⟩)), (18, .int .i64 r7.2)] rfl ⟨by kernel_rfl, by kernel_rfl⟩ ?_
                  refine TL.next rfl ?_
                  refine TC.seq ?_
                  refine TC.seq ?_
                  refine TC.region ?_
                  refine TL.run 2 [] [(2, .int .i64 seconds), (3, .int .i64 accel), (4, .int .i64 climb), (5, .int .i64 clearance), (6, .pointer (some ⟨b1, 0, none⟩)), (7, .pointer (some ⟨b2, 0, none⟩)), (16, .int .i64 (k : Int)), (17, .pointer (some ⟨b3, 0, none⟩)), (60, .bool (r7.2 != 0))] rfl ⟨by kernel_rfl, by kernel_rfl⟩ ?_
                  refine TL.next rfl ?_
                  refine TC.cond (r7.2 != 0) rfl (by kernel_rfl) (fun h8 => ?_) (fun h8 => ?_)
                  · refine TC.seq ?_
                    refine TC.region ?_
                    refine TL.run 2 [] [(12, .int .i64 0), (13, .int .i64 12)] rfl ⟨by kernel_rfl, by kernel_rfl⟩ ?_
                    refine TL.next rfl ?_
                    refine TC.ret ?_
                    refine TE.ret_then (TE.ret_block (TE.ret_then (TE.ret_then (TE.ret_block (TE.ret_then (TE.ret_then ?_))))))
                    have e : terrain_Warn g_ f seconds accel climb clearance = (0, 12) := by subst hr1 hr2 hr3 hr4 hr5 hr6 hr7; unfold terrain_Warn; exact cond_f h1 (cond_f h2 (cond_f h3 (cond_f h4 (cond_f h5 (cond_f h6 (elim_r (hR.symm.trans (hI.trans (by rw [hd]; exact cond_t h8 (rfl)))) rfl))))))
                    exact TE.ret [] (.tuple #[.int .i64 0, .int .i64 12]) ⟨by kernel_rfl, by kernel_rfl⟩ (by rw [e]; first | done | kernel_rfl)
                  · refine TC.skip ?_
                    refine TE.next ?_
                    refine TC.seq ?_
                    refine TC.draw 19 (by kernel_rfl) (by kernel_rfl) (by kernel_rfl) ?_
                    refine TQ.run 15 [0, 2, 0, 0] [(2, .int .i64 seconds), (3, .int .i64 accel), (4, .int .i64 climb), (5, .int .i64 clearance), (6, .pointer (some ⟨b1, 0, none⟩)), (7, .pointer (some ⟨b2, 0, none⟩)), (16, .int .i64 (k : Int)), (68, .int .i64 (w64 ((w64 (r7.1.Track.Height - 100)) - (w64 (climb * (k : Int)))))), (69, .agg #[.int .i64 g_.At.X, .int .i64 g_.At.Y, .int .i64 g_.Size, .int .i64 g_.NX, .int .i64 g_.NY, .slice A_g__Heights g_.Heights.length c_g__Heights]), (72, P.v r7.1.Track.At), (75, .int .i64 r7.1.Track.Radius)] rfl ⟨by kernel_rfl, by kernel_rfl⟩ ?_
                    refine TQ.call (some 76) [(2, .int .i64 seconds), (3, .int .i64 accel), (4, .int .i64 climb), (5, .int .i64 clearance), (6, .pointer (some ⟨b1, 0, none⟩)), (7, .pointer (some ⟨b2, 0, none⟩)), (16, .int .i64 (k : Int)), (68, .int .i64 (w64 ((w64 (r7.1.Track.Height - 100)) - (w64 (climb * (k : Int)))))), (76, .int .i64 (terrain_highest g_ r7.1.Track.At r7.1.Track.Radius))] (fun w hM => terrain_highest_w g_ A_g__Heights c_g__Heights r7.1.Track.At r7.1.Track.Radius w (h_g__Heights.sat hM) hc_g__Heights (grid_in hr1 h1)) rfl (by kernel_rfl) (by kernel_rfl) ?_
                    generalize hr8 : terrain_highest g_ r7.1.Track.At r7.1.Track.Radius = r8
                    refine TQ.run 19 [] [(2, .int .i64 seconds), (3, .int .i64 accel), (4, .int .i64 climb), (5, .int .i64 clearance), (6, .pointer (some ⟨b1, 0, none⟩)), (7, .pointer (some ⟨b2, 0, none⟩)), (16, .int .i64 (k : Int)), (79, .bool (decide ((w64 ((w64 (r7.1.Track.Height - 100)) - (w64 (climb * (k : Int))))) < (w64 (r8 + clearance)))))] rfl ⟨by kernel_rfl, by kernel_rfl⟩ ?_
                    refine TQ.next rfl ?_
                    refine TC.cond (decide ((w64 ((w64 (r7.1.Track.Height - 100)) - (w64 (climb * (k : Int))))) < (w64 (r8 + clearance)))) rfl (by kernel_rfl) (fun h9 => ?_) (fun h9 => ?_)
                    · refine TC.seq ?_
                      refine TC.region ?_
                      refine TL.run 3 [] [(12, .int .i64 (k : Int)), (13, .int .i64 0)] rfl ⟨by kernel_rfl, by kernel_rfl⟩ ?_
                      refine TL.next rfl ?_
                      refine TC.ret ?_
                      refine TE.ret_block (TE.ret_then (TE.ret_then (TE.ret_block (TE.ret_then (TE.ret_then ?_)))))
                      have e : terrain_Warn g_ f seconds accel climb clearance = ((k : Int), 0) := by subst hr1 hr2 hr3 hr4 hr5 hr6 hr7 hr8; unfold terrain_Warn; exact cond_f h1 (cond_f h2 (cond_f h3 (cond_f h4 (cond_f h5 (cond_f h6 (elim_r (hR.symm.trans (hI.trans (by rw [hd]; exact cond_f h8 (cond_t h9 (rfl))))) rfl))))))
                      exact TE.ret [] (.tuple #[.int .i64 (k : Int), .int .i64 0]) ⟨by kernel_rfl, by kernel_rfl⟩ (by rw [e]; first | done | kernel_rfl)
                    · refine TC.skip ?_
                      refine TE.normal_block ?_
                      refine TE.next ?_
                      refine TC.region ?_
                      refine TL.run 3 [] [(2, .int .i64 seconds), (3, .int .i64 accel), (4, .int .i64 climb), (5, .int .i64 clearance), (6, .pointer (some ⟨b1, 0, none⟩)), (7, .pointer (some ⟨b2, 0, none⟩)), (16, .int .i64 (w64 ((k : Int) + 1)))] rfl ⟨by kernel_rfl, by kernel_rfl⟩ ?_
                      refine TL.done rfl ?_
                      refine TE.rw 16 (.int .i64 (w64 ((k : Int) + 1))) (.int .i64 ((k + 1 : Nat) : Int)) (by kernel_rfl) (int_eq (by have q0_ := (bne_f h1); have q1_ := (bne_f h2); have q2_ := (dec_t h7); have q3_ := (bne_f h8); have q4_ := (dec_f h9); have u1_ := terrain_out_in hr3 h3; first | omega | (rw [w64_id (by omega)]; omega) | (simp only [w64_eq] at *; omega))) ?_
                      exact TE.again (x := k) (k + 1) ⟨by omega, hI.trans (by subst hr1 hr2 hr3 hr4 hr5 hr6 hr7 hr8; rw [hd]; exact cond_f h8 (cond_f h9 (rfl)))⟩ (by show ((seconds + 1).toNat) - (k + 1) < ((seconds + 1).toNat) - k; omega) (by kernel_rfl) (.cons _ (.cons_cons _ (.cons_cons _ (.slnil))))
                · have hd : ((seconds + 1).toNat) - k = 0 := by have q0_ := (bne_f h1); have q1_ := (bne_f h2); have p0_ := (dec_f h7); have u1_ := terrain_out_in hr3 h3; first | omega | (simp only [w64_eq] at *; omega)
                  refine TC.exit ?_
                  refine TE.exit_then (TE.exit_then (TE.exit_same ?_))
                  exact TE.cut () (hI.trans (by subst hr1 hr2 hr3 hr4 hr5 hr6; rw [hd]; exact rfl)) (by kernel_rfl) (.cons _ (.cons _ (.slnil)))
              · intro _ hJ
                refine TE.next ?_
                refine TC.seq ?_
                refine TC.region ?_
                refine TL.run 2 [] [(12, .int .i64 0), (13, .int .i64 8)] rfl ⟨by kernel_rfl, by kernel_rfl⟩ ?_
                refine TL.next rfl ?_
                refine TC.ret ?_
                have e : terrain_Warn g_ f seconds accel climb clearance = (0, 8) := by subst hr1 hr2 hr3 hr4 hr5 hr6; unfold terrain_Warn; exact cond_f h1 (cond_f h2 (cond_f h3 (cond_f h4 (cond_f h5 (cond_f h6 (elim_l (hR.symm.trans hJ) (rfl)))))))
                exact TE.ret [] (.tuple #[.int .i64 0, .int .i64 8]) ⟨by kernel_rfl, by kernel_rfl⟩ (by rw [e]; first | done | kernel_rfl)

def skywaykeep2_ground (h_ : Int) : TerrainGrid :=
  (⟨⟨1000, (-500)⟩, 1000, 1, 1, [h_]⟩ : TerrainGrid)

set_option maxRecDepth 100000 in
theorem skywaykeep2_ground_w (h_ : Int) (w : World) : Calls Try.prog 37 #[.int .i64 h_] w (RetM (Γ := (Option Addr × Nat)) (cx w) (fun g => .agg #[.int .i64 ((skywaykeep2_ground h_).At.X), .int .i64 ((skywaykeep2_ground h_).At.Y), .int .i64 ((skywaykeep2_ground h_).Size), .int .i64 ((skywaykeep2_ground h_).NX), .int .i64 ((skywaykeep2_ground h_).NY), .slice g.1 ((skywaykeep2_ground h_).Heights.length) g.2]) (fun g => [.inr (Own g.1 g.2 3 1 (((skywaykeep2_ground h_).Heights).map ic))])) := by
  refine calls_intro (vs := [.int .i64 h_]) (w := w) Try.func37 rfl Try.ntmps37 rfl ?_
  refine TC.weak [(0, .int .i64 h_)] (by kernel_rfl) ?_
  refine TC.seq ?_
  refine TC.region ?_
  refine TL.write 0 (fun b1 => [(0, .int .i64 h_), (2, .pointer (some ⟨b1, 0, none⟩))]) (fun b1 => [.inl (b1, .cells #[.int .i64 0, .int .i64 0, .int .i64 0, .int .i64 0, .int .i64 0, .slice none 0 0] 73 (0, 0))]) (fun b1 => ⟨by kernel_rfl, by kernel_rfl⟩) (fun b1 => ?_)
  refine TL.next rfl ?_
  refine TC.seq ?_
  refine TC.region ?_
  refine TL.run 2 [] [(2, .pointer (some ⟨b1, 0, none⟩)), (3, .agg #[.int .i64 1000, .int .i64 (-500)]), (4, .int .i64 h_)] rfl ⟨by kernel_rfl, by kernel_rfl⟩ ?_
  refine TL.write 0 (fun b2 => [(2, .pointer (some ⟨b1, 0, none⟩)), (3, .agg #[.int .i64 1000, .int .i64 (-500)]), (5, .slice (some ⟨b2, 0, none⟩) 1 1)]) (fun b2 => [.inl (b2, .cells #[.int .i64 h_] 3 (0, 0)), .inl (b1, .cells #[.int .i64 0, .int .i64 0, .int .i64 0, .int .i64 0, .int .i64 0, .slice none 0 0] 73 (0, 0))]) (fun b2 => ⟨by kernel_rfl, by kernel_rfl⟩) (fun b2 => ?_)
  refine TL.run 4 [] [(2, .pointer (some ⟨b1, 0, none⟩)), (6, .agg #[.int .i64 1000, .int .i64 (-500), .int .i64 1000, .int .i64 1, .int .i64 1, .slice (some ⟨b2, 0, none⟩) 1 1])] rfl ⟨by kernel_rfl, by kernel_rfl⟩ ?_
  refine TL.write 1 (fun _ => [(2, .pointer (some ⟨b1, 0, none⟩))]) (fun _ => [.inl (b2, .cells #[.int .i64 h_] 3 (0, 0)), .inl (b1, .cells #[.int .i64 1000, .int .i64 (-500), .int .i64 1000, .int .i64 1, .int .i64 1, .slice (some ⟨b2, 0, none⟩) 1 1] 73 (0, 0))]) (fun _ => ⟨by kernel_rfl, by kernel_rfl⟩) (fun _ => ?_)
  refine TL.next rfl ?_
  refine TC.ret ?_
  have e : skywaykeep2_ground h_ = (⟨⟨1000, (-500)⟩, 1000, 1, 1, [h_]⟩ : TerrainGrid) := by unfold skywaykeep2_ground; exact rfl
  refine TE.conv [.inr (Own (some ⟨b2, 0, none⟩) 1 3 1 (([h_] : List Int).map ic)), .inl (b1, .cells #[.int .i64 1000, .int .i64 (-500), .int .i64 1000, .int .i64 1, .int .i64 1, .slice (some ⟨b2, 0, none⟩) 1 1] 73 (0, 0))] (fun _ hM => by exact hM.litrow 0 (([h_] : List Int).map ic) rfl (by kernel_rfl) (by kernel_rfl) (by kernel_rfl) (by kernel_rfl)) ?_
  rw [e]
  exact TE.retM (.inl rfl) ((some ⟨b2, 0, none⟩), 1) [1] (.agg #[.int .i64 1000, .int .i64 (-500), .int .i64 1000, .int .i64 1, .int .i64 1, .slice (some ⟨b2, 0, none⟩) 1 1]) ⟨by kernel_rfl, by kernel_rfl⟩ rfl (fun _ hM => hM.sub (.cons_cons _ (.cons _ (.slnil))))

def skywaykeep2_TerrainGrows (g_ : TerrainGrid) (p : P) (radius : Int) (more : Int) (clearance : Int) : Bool :=
  let r1 := skywaykeep2_ground 500
  let r2 := terrain_Safe r1 (⟨1500, 0⟩ : P) 0 100
  cond ((r2.2 != 0) || (r2.1 != 600)) (
    false) (
    let r3 := terrain_Highest g_ p radius
    let r4 := skywaykeep2_within more 0 100000
    let r5 := terrain_Highest g_ p (w64 (radius + r4))
    let r6 := terrain_Height g_ p
    let r7 := terrain_Safe g_ p radius clearance
    cond (r3.2 != 0) (
      (r3.1 == 0) && (r7.1 == 0)) (
      cond ((((r5.2 != 0) || (decide (r3.1 ≤ r5.1))) && (r6.2 == 0)) && (decide (r6.1 ≤ r3.1))) (
        cond (r7.2 != 0) (
          true) (
          r7.1 == (w64 (r3.1 + clearance)))) (
        false)))

set_option maxRecDepth 100000 in
theorem skywaykeep2_TerrainGrows_w (g_ : TerrainGrid) (A_g__Heights : Option Addr) (c_g__Heights : Nat) (p : P) (radius : Int) (more : Int) (clearance : Int) (w : World) (h_g__Heights : Rd w 1 A_g__Heights (g_.Heights.map ic)) (hc_g__Heights : g_.Heights.length ≤ c_g__Heights) : Calls Try.prog 11 #[.agg #[.int .i64 g_.At.X, .int .i64 g_.At.Y, .int .i64 g_.Size, .int .i64 g_.NX, .int .i64 g_.NY, .slice A_g__Heights g_.Heights.length c_g__Heights], P.v p, .int .i64 radius, .int .i64 more, .int .i64 clearance] w (Ret w (.bool (skywaykeep2_TerrainGrows g_ p radius more clearance))) := by
  have s_g__Heights := h_g__Heights.short; rw [List.length_map] at s_g__Heights
  refine calls_intro (vs := [.agg #[.int .i64 g_.At.X, .int .i64 g_.At.Y, .int .i64 g_.Size, .int .i64 g_.NX, .int .i64 g_.NY, .slice A_g__Heights g_.Heights.length c_g__Heights], P.v p, .int .i64 radius, .int .i64 more, .int .i64 clearance]) (w := w) Try.func11 rfl Try.ntmps11 rfl ?_
  refine TC.weak [(0, .agg #[.int .i64 g_.At.X, .int .i64 g_.At.Y, .int .i64 g_.Size, .int .i64 g_.NX, .int .i64 g_.NY, .slice A_g__Heights g_.Heights.length c_g__Heights]), (1, P.v p), (2, .int .i64 radius), (3, .int .i64 more), (4, .int .i64 clearance)] (by kernel_rfl) ?_
  refine TC.seq ?_
  refine TC.region ?_
  refine TL.write 0 (fun b1 => [(1, P.v p), (2, .int .i64 radius), (3, .int .i64 more), (4, .int .i64 clearance), (5, .pointer (some ⟨b1, 0, none⟩))]) (fun b1 => [.inl (b1, .cells #[.int .i64 g_.At.X, .int .i64 g_.At.Y, .int .i64 g_.Size, .int .i64 g_.NX, .int .i64 g_.NY, .slice A_g__Heights g_.Heights.length c_g__Heights] 73 (0, 0))]) (fun b1 => ⟨by kernel_rfl, by kernel_rfl⟩) (fun b1 => ?_)
  refine TL.write 0 (fun b2 => [(2, .int .i64 radius), (3, .int .i64 more), (4, .int .i64 clearance), (5, .pointer (some ⟨b1, 0, none⟩)), (6, .pointer (some ⟨b2, 0, none⟩))]) (fun b2 => [.inl (b2, .cells (P.c p) 23 (0, 0)), .inl (b1, .cells #[.int .i64 g_.At.X, .int .i64 g_.At.Y, .int .i64 g_.Size, .int .i64 g_.NX, .int .i64 g_.NY, .slice A_g__Heights g_.Heights.length c_g__Heights] 73 (0, 0))]) (fun b2 => ⟨by kernel_rfl, by kernel_rfl⟩) (fun b2 => ?_)
  refine TL.run 3 [] [(2, .int .i64 radius), (3, .int .i64 more), (4, .int .i64 clearance), (5, .pointer (some ⟨b1, 0, none⟩)), (6, .pointer (some ⟨b2, 0, none⟩))] rfl ⟨by kernel_rfl, by kernel_rfl⟩ ?_
  refine TL.next rfl ?_
  refine TC.seq ?_
  refine TC.seq ?_
  refine TC.region ?_
  refine TL.callN (Γ := (Option Addr × Nat)) (fun g => .agg #[.int .i64 ((skywaykeep2_ground 500).At.X), .int .i64 ((skywaykeep2_ground 500).At.Y), .int .i64 ((skywaykeep2_ground 500).Size), .int .i64 ((skywaykeep2_ground 500).NX), .int .i64 ((skywaykeep2_ground 500).NY), .slice g.1 (((skywaykeep2_ground 500).Heights).length) g.2]) (fun g => [.inr (Own g.1 g.2 3 1 (((skywaykeep2_ground 500).Heights).map ic))]) (fun g => [.inr (Own g.1 g.2 3 1 (((skywaykeep2_ground 500).Heights).map ic)), .inl (b2, .cells (P.c p) 23 (0, 0)), .inl (b1, .cells #[.int .i64 g_.At.X, .int .i64 g_.At.Y, .int .i64 g_.Size, .int .i64 g_.NX, .int .i64 g_.NY, .slice A_g__Heights g_.Heights.length c_g__Heights] 73 (0, 0))]) (fun g => rfl) (some 22) (fun g => [(2, .int .i64 radius), (3, .int .i64 more), (4, .int .i64 clearance), (5, .pointer (some ⟨b1, 0, none⟩)), (6, .pointer (some ⟨b2, 0, none⟩)), (22, .agg #[.int .i64 ((skywaykeep2_ground 500).At.X), .int .i64 ((skywaykeep2_ground 500).At.Y), .int .i64 ((skywaykeep2_ground 500).Size), .int .i64 ((skywaykeep2_ground 500).NX), .int .i64 ((skywaykeep2_ground 500).NY), .slice g.1 (((skywaykeep2_ground 500).Heights).length) g.2])]) (fun w _ => skywaykeep2_ground_w 500 w) (by kernel_rfl) (fun g => by kernel_rfl) ?_
  rintro ⟨A, c⟩
  generalize hr1 : skywaykeep2_ground 500 = r1
  refine TL.know (fun w hM => hM.short_at 0 rfl) (fun s_r1_0 => ?_)
  refine TL.run 2 [] [(2, .int .i64 radius), (3, .int .i64 more), (4, .int .i64 clearance), (5, .pointer (some ⟨b1, 0, none⟩)), (6, .pointer (some ⟨b2, 0, none⟩)), (22, .agg #[.int .i64 r1.At.X, .int .i64 r1.At.Y, .int .i64 r1.Size, .int .i64 r1.NX, .int .i64 r1.NY, .slice A r1.Heights.length c]), (23, .agg #[.int .i64 1500, .int .i64 0])] rfl ⟨by kernel_rfl, by kernel_rfl⟩ ?_
  refine TL.call (some 24) [(2, .int .i64 radius), (3, .int .i64 more), (4, .int .i64 clearance), (5, .pointer (some ⟨b1, 0, none⟩)), (6, .pointer (some ⟨b2, 0, none⟩)), (24, .tuple #[.int .i64 ((terrain_Safe r1 (⟨1500, 0⟩ : P) 0 100).1), .int .i64 ((terrain_Safe r1 (⟨1500, 0⟩ : P) 0 100).2)])] (fun w hM => terrain_Safe_w r1 A c (⟨1500, 0⟩ : P) 0 100 w (hM.rd_at 0 rfl) (hM.le_at 0 rfl)) (by kernel_rfl) (by kernel_rfl) ?_
  generalize hr2 : terrain_Safe r1 (⟨1500, 0⟩ : P) 0 100 = r2
  refine TL.run 8 [] [(2, .int .i64 radius), (3, .int .i64 more), (4, .int .i64 clearance), (5, .pointer (some ⟨b1, 0, none⟩)), (6, .pointer (some ⟨b2, 0, none⟩)), (11, .int .i64 r2.1), (12, .int .i64 r2.2)] rfl ⟨by kernel_rfl, by kernel_rfl⟩ ?_
  refine TL.next rfl ?_
  refine TC.seq ?_
  refine TC.region ?_
  refine TL.run 3 [] [(2, .int .i64 radius), (3, .int .i64 more), (4, .int .i64 clearance), (5, .pointer (some ⟨b1, 0, none⟩)), (6, .pointer (some ⟨b2, 0, none⟩)), (11, .int .i64 r2.1), (29, .bool (r2.2 != 0))] rfl ⟨by kernel_rfl, by kernel_rfl⟩ ?_
  refine TL.join 29 (r2.2 != 0) 6 [] [] (fun β => [(2, .int .i64 radius), (3, .int .i64 more), (4, .int .i64 clearance), (5, .pointer (some ⟨b1, 0, none⟩)), (6, .pointer (some ⟨b2, 0, none⟩)), (32, .bool (β || (r2.1 != 600)))]) (by kernel_rfl) rfl ⟨by kernel_rfl, by kernel_rfl⟩ ⟨by kernel_rfl, by kernel_rfl⟩ ?_
  refine TL.next rfl ?_
  refine TC.cond ((r2.2 != 0) || (r2.1 != 600)) rfl (by kernel_rfl) (fun h1 => ?_) (fun h1 => ?_)
  · refine TC.seq ?_
    refine TC.region ?_
    refine TL.run 1 [] [(10, .bool false)] rfl ⟨by kernel_rfl, by kernel_rfl⟩ ?_
    refine TL.next rfl ?_
    refine TC.ret ?_
    refine TE.ret_then ?_
    have e : skywaykeep2_TerrainGrows g_ p radius more clearance = false := by subst hr1 hr2; unfold skywaykeep2_TerrainGrows; exact cond_t h1 (rfl)
    exact TE.ret [] (.bool false) ⟨by kernel_rfl, by kernel_rfl⟩ (by rw [e]; first | done | kernel_rfl)
  · refine TC.skip ?_
    refine TE.next ?_
    refine TC.seq ?_
    refine TC.region ?_
    refine TL.run 3 [2, 1] [(2, .int .i64 radius), (3, .int .i64 more), (4, .int .i64 clearance), (5, .pointer (some ⟨b1, 0, none⟩)), (6, .pointer (some ⟨b2, 0, none⟩)), (34, .agg #[.int .i64 g_.At.X, .int .i64 g_.At.Y, .int .i64 g_.Size, .int .i64 g_.NX, .int .i64 g_.NY, .slice A_g__Heights g_.Heights.length c_g__Heights]), (35, P.v p), (36, .int .i64 radius)] rfl ⟨by kernel_rfl, by kernel_rfl⟩ ?_
    refine TL.call (some 37) [(2, .int .i64 radius), (3, .int .i64 more), (4, .int .i64 clearance), (5, .pointer (some ⟨b1, 0, none⟩)), (6, .pointer (some ⟨b2, 0, none⟩)), (37, .tuple #[.int .i64 ((terrain_Highest g_ p radius).1), .int .i64 ((terrain_Highest g_ p radius).2)])] (fun w hM => terrain_Highest_w g_ A_g__Heights c_g__Heights p radius w (h_g__Heights.sat hM) hc_g__Heights) (by kernel_rfl) (by kernel_rfl) ?_
    generalize hr3 : terrain_Highest g_ p radius = r3
    refine TL.run 9 [] [(2, .int .i64 radius), (3, .int .i64 more), (4, .int .i64 clearance), (5, .pointer (some ⟨b1, 0, none⟩)), (6, .pointer (some ⟨b2, 0, none⟩)), (13, .int .i64 r3.1), (14, .int .i64 r3.2)] rfl ⟨by kernel_rfl, by kernel_rfl⟩ ?_
    refine TL.next rfl ?_
    refine TC.seq ?_
    refine TC.draw 12 (by kernel_rfl) (by kernel_rfl) (by kernel_rfl) ?_
    refine TQ.run 4 [2, 1] [(2, .int .i64 radius), (4, .int .i64 clearance), (5, .pointer (some ⟨b1, 0, none⟩)), (6, .pointer (some ⟨b2, 0, none⟩)), (13, .int .i64 r3.1), (14, .int .i64 r3.2), (41, .agg #[.int .i64 g_.At.X, .int .i64 g_.At.Y, .int .i64 g_.Size, .int .i64 g_.NX, .int .i64 g_.NY, .slice A_g__Heights g_.Heights.length c_g__Heights]), (42, P.v p), (43, .int .i64 radius), (44, .int .i64 more)] rfl ⟨by kernel_rfl, by kernel_rfl⟩ ?_
    refine TQ.call (some 45) [(2, .int .i64 radius), (4, .int .i64 clearance), (5, .pointer (some ⟨b1, 0, none⟩)), (6, .pointer (some ⟨b2, 0, none⟩)), (13, .int .i64 r3.1), (14, .int .i64 r3.2), (41, .agg #[.int .i64 g_.At.X, .int .i64 g_.At.Y, .int .i64 g_.Size, .int .i64 g_.NX, .int .i64 g_.NY, .slice A_g__Heights g_.Heights.length c_g__Heights]), (42, P.v p), (43, .int .i64 radius), (45, .int .i64 (skywaykeep2_within more 0 100000))] (fun w _ => skywaykeep2_within_w more 0 100000 w (by have q0_ := (bne_f (or_f1 h1)); have q1_ := (bne_f (or_f2 h1)); first | omega | first | decide | omega | (simp only [w64_eq]; omega) | (simp <;> omega))) rfl (by kernel_rfl) (by kernel_rfl) ?_
    generalize hr4 : skywaykeep2_within more 0 100000 = r4
    refine TQ.run 6 [] [(2, .int .i64 radius), (4, .int .i64 clearance), (5, .pointer (some ⟨b1, 0, none⟩)), (6, .pointer (some ⟨b2, 0, none⟩)), (13, .int .i64 r3.1), (14, .int .i64 r3.2), (41, .agg #[.int .i64 g_.At.X, .int .i64 g_.At.Y, .int .i64 g_.Size, .int .i64 g_.NX, .int .i64 g_.NY, .slice A_g__Heights g_.Heights.length c_g__Heights]), (42, P.v p), (46, .int .i64 (w64 (radius + r4)))] rfl ⟨by kernel_rfl, by kernel_rfl⟩ ?_
    refine TQ.call (some 47) [(2, .int .i64 radius), (4, .int .i64 clearance), (5, .pointer (some ⟨b1, 0, none⟩)), (6, .pointer (some ⟨b2, 0, none⟩)), (13, .int .i64 r3.1), (14, .int .i64 r3.2), (47, .tuple #[.int .i64 ((terrain_Highest g_ p (w64 (radius + r4))).1), .int .i64 ((terrain_Highest g_ p (w64 (radius + r4))).2)])] (fun w hM => terrain_Highest_w g_ A_g__Heights c_g__Heights p (w64 (radius + r4)) w (h_g__Heights.sat hM) hc_g__Heights) rfl (by kernel_rfl) (by kernel_rfl) ?_
    generalize hr5 : terrain_Highest g_ p (w64 (radius + r4)) = r5
    refine TQ.run 12 [] [(2, .int .i64 radius), (4, .int .i64 clearance), (5, .pointer (some ⟨b1, 0, none⟩)), (6, .pointer (some ⟨b2, 0, none⟩)), (13, .int .i64 r3.1), (14, .int .i64 r3.2), (15, .int .i64 r5.1), (16, .int .i64 r5.2)] rfl ⟨by kernel_rfl, by kernel_rfl⟩ ?_
    refine TQ.next rfl ?_
    refine TC.seq ?_
    refine TC.region ?_
    refine TL.run 2 [2, 1] [(2, .int .i64 radius), (4, .int .i64 clearance), (5, .pointer (some ⟨b1, 0, none⟩)), (6, .pointer (some ⟨b2, 0, none⟩)), (13, .int .i64 r3.1), (14, .int .i64 r3.2), (15, .int .i64 r5.1), (16, .int .i64 r5.2), (51, .agg #[.int .i64 g_.At.X, .int .i64 g_.At.Y, .int .i64 g_.Size, .int .i64 g_.NX, .int .i64 g_.NY, .slice A_g__Heights g_.Heights.length c_g__Heights]), (52, P.v p)] rfl ⟨by kernel_rfl, by kernel_rfl⟩ ?_
    refine TL.call (some 53) [(2, .int .i64 radius), (4, .int .i64 clearance), (5, .pointer (some ⟨b1, 0, none⟩)), (6, .pointer (some ⟨b2, 0, none⟩)), (13, .int .i64 r3.1), (14, .int .i64 r3.2), (15, .int .i64 r5.1), (16, .int .i64 r5.2), (53, .tuple #[.int .i64 ((terrain_Height g_ p).1), .int .i64 ((terrain_Height g_ p).2)])] (fun w hM => terrain_Height_w g_ A_g__Heights c_g__Heights p w (h_g__Heights.sat hM) hc_g__Heights) (by kernel_rfl) (by kernel_rfl) ?_
    generalize hr6 : terrain_Height g_ p = r6
    refine TL.run 8 [] [(2, .int .i64 radius), (4, .int .i64 clearance), (5, .pointer (some ⟨b1, 0, none⟩)), (6, .pointer (some ⟨b2, 0, none⟩)), (13, .int .i64 r3.1), (14, .int .i64 r3.2), (15, .int .i64 r5.1), (16, .int .i64 r5.2), (17, .int .i64 r6.1), (18, .int .i64 r6.2)] rfl ⟨by kernel_rfl, by kernel_rfl⟩ ?_
    refine TL.next rfl ?_
    refine TC.seq ?_
    refine TC.region ?_
    refine TL.run 4 [2, 1] [(4, .int .i64 clearance), (13, .int .i64 r3.1), (14, .int .i64 r3.2), (15, .int .i64 r5.1), (16, .int .i64 r5.2), (17, .int .i64 r6.1), (18, .int .i64 r6.2), (57, .agg #[.int .i64 g_.At.X, .int .i64 g_.At.Y, .int .i64 g_.Size, .int .i64 g_.NX, .int .i64 g_.NY, .slice A_g__Heights g_.Heights.length c_g__Heights]), (58, P.v p), (59, .int .i64 radius), (60, .int .i64 clearance)] rfl ⟨by kernel_rfl, by kernel_rfl⟩ ?_
    refine TL.call (some 61) [(4, .int .i64 clearance), (13, .int .i64 r3.1), (14, .int .i64 r3.2), (15, .int .i64 r5.1), (16, .int .i64 r5.2), (17, .int .i64 r6.1), (18, .int .i64 r6.2), (61, .tuple #[.int .i64 ((terrain_Safe g_ p radius clearance).1), .int .i64 ((terrain_Safe g_ p radius clearance).2)])] (fun w hM => terrain_Safe_w g_ A_g__Heights c_g__Heights p radius clearance w (h_g__Heights.sat hM) hc_g__Heights) (by kernel_rfl) (by kernel_rfl) ?_
    generalize hr7 : terrain_Safe g_ p radius clearance = r7
    refine TL.run 10 [] [(4, .int .i64 clearance), (13, .int .i64 r3.1), (14, .int .i64 r3.2), (15, .int .i64 r5.1), (16, .int .i64 r5.2), (17, .int .i64 r6.1), (18, .int .i64 r6.2), (19, .int .i64 r7.1), (20, .int .i64 r7.2)] rfl ⟨by kernel_rfl, by kernel_rfl⟩ ?_
    refine TL.next rfl ?_
    refine TC.seq ?_
    refine TC.seq ?_
    refine TC.region ?_
    refine TL.run 2 [] [(4, .int .i64 clearance), (13, .int .i64 r3.1), (15, .int .i64 r5.1), (16, .int .i64 r5.2), (17, .int .i64 r6.1), (18, .int .i64 r6.2), (19, .int .i64 r7.1), (20, .int .i64 r7.2), (65, .bool (r3.2 != 0))] rfl ⟨by kernel_rfl, by kernel_rfl⟩ ?_
    refine TL.next rfl ?_
    refine TC.cond (r3.2 != 0) rfl (by kernel_rfl) (fun h2 => ?_) (fun h2 => ?_)
    · refine TC.seq ?_
      refine TC.region ?_
      refine TL.run 3 [] [(19, .int .i64 r7.1), (68, .bool (r3.1 == 0))] rfl ⟨by kernel_rfl, by kernel_rfl⟩ ?_
      refine TL.join 68 (r3.1 == 0) 6 [] [] (fun β => [(71, .bool (β && (r7.1 == 0)))]) (by kernel_rfl) rfl ⟨by kernel_rfl, by kernel_rfl⟩ ⟨by kernel_rfl, by kernel_rfl⟩ ?_
      refine TL.run 7 [] [(10, .bool ((r3.1 == 0) && (r7.1 == 0)))] rfl ⟨by kernel_rfl, by kernel_rfl⟩ ?_
      refine TL.next rfl ?_
      refine TC.ret ?_
      refine TE.ret_then ?_
      have e : skywaykeep2_TerrainGrows g_ p radius more clearance = ((r3.1 == 0) && (r7.1 == 0)) := by subst hr1 hr2 hr3 hr4 hr5 hr6 hr7; unfold skywaykeep2_TerrainGrows; exact cond_f h1 (cond_t h2 (rfl))
      exact TE.ret [] (.bool ((r3.1 == 0) && (r7.1 == 0))) ⟨by kernel_rfl, by kernel_rfl⟩ (by rw [e]; first | done | kernel_rfl)
    · refine TC.skip ?_
      refine TE.next ?_
      refine TC.seq ?_
      refine TC.region ?_
      refine TL.run 3 [] [(4, .int .i64 clearance), (13, .int .i64 r3.1), (15, .int .i64 r5.1), (17, .int .i64 r6.1), (18, .int .i64 r6.2), (19, .int .i64 r7.1), (20, .int .i64 r7.2), (74, .bool (r5.2 != 0))] rfl ⟨by kernel_rfl, by kernel_rfl⟩ ?_
      refine TL.join 74 (r5.2 != 0) 7 [] [] (fun β => [(4, .int .i64 clearance), (13, .int .i64 r3.1), (17, .int .i64 r6.1), (18, .int .i64 r6.2), (19, .int .i64 r7.1), (20, .int .i64 r7.2), (78, .bool (β || (decide (r3.1 ≤ r5.1))))]) (by kernel_rfl) rfl ⟨by kernel_rfl, by kernel_rfl⟩ ⟨by kernel_rfl, by kernel_rfl⟩ ?_
      refine TL.run 8 [] [(4, .int .i64 clearance), (13, .int .i64 r3.1), (17, .int .i64 r6.1), (18, .int .i64 r6.2), (19, .int .i64 r7.1), (20, .int .i64 r7.2), (79, .bool ((r5.2 != 0) || (decide (r3.1 ≤ r5.1))))] rfl ⟨by kernel_rfl, by kernel_rfl⟩ ?_
      refine TL.join 79 ((r5.2 != 0) || (decide (r3.1 ≤ r5.1))) 11 [] [] (fun β => [(4, .int .i64 clearance), (13, .int .i64 r3.1), (17, .int .i64 r6.1), (19, .int .i64 r7.1), (20, .int .i64 r7.2), (82, .bool (β && (r6.2 == 0)))]) (by kernel_rfl) rfl ⟨by kernel_rfl, by kernel_rfl⟩ ⟨by kernel_rfl, by kernel_rfl⟩ ?_
      refine TL.run 12 [] [(4, .int .i64 clearance), (13, .int .i64 r3.1), (17, .int .i64 r6.1), (19, .int .i64 r7.1), (20, .int .i64 r7.2), (83, .bool (((r5.2 != 0) || (decide (r3.1 ≤ r5.1))) && (r6.2 == 0)))] rfl ⟨by kernel_rfl, by kernel_rfl⟩ ?_
      refine TL.join 83 (((r5.2 != 0) || (decide (r3.1 ≤ r5.1))) && (r6.2 == 0)) 16 [] [] (fun β => [(4, .int .i64 clearance), (13, .int .i64 r3.1), (19, .int .i64 r7.1), (20, .int .i64 r7.2), (87, .bool (β && (decide (r6.1 ≤ r3.1))))]) (by kernel_rfl) rfl ⟨by kernel_rfl, by kernel_rfl⟩ ⟨by kernel_rfl, by kernel_rfl⟩ ?_
      refine TL.run 17 [] [(4, .int .i64 clearance), (13, .int .i64 r3.1), (19, .int .i64 r7.1), (20, .int .i64 r7.2), (88, .bool ((((r5.2 != 0) || (decide (r3.1 ≤ r5.1))) && (r6.2 == 0)) && (decide (r6.1 ≤ r3.1))))] rfl ⟨by kernel_rfl, by kernel_rfl⟩ ?_
      refine TL.split 88 ((((r5.2 != 0) || (decide (r3.1 ≤ r5.1))) && (r6.2 == 0)) && (decide (r6.1 ≤ r3.1))) (by kernel_rfl) (fun h3 => ?_) (fun h3 => ?_)
      · refine TL.run 20 [] [(4, .int .i64 clearance), (13, .int .i64 r3.1), (19, .int .i64 r7.1), (88, .bool true), (91, .bool (r7.2 != 0))] rfl ⟨by kernel_rfl, by kernel_rfl⟩ ?_
        refine TL.split 91 (r7.2 != 0) (by kernel_rfl) (fun h4 => ?_) (fun h4 => ?_)
        · refine TL.run 28 [] [(10, .bool true)] rfl ⟨by kernel_rfl, by kernel_rfl⟩ ?_
          refine TL.next rfl ?_
          refine TC.ret ?_
          have e : skywaykeep2_TerrainGrows g_ p radius more clearance = true := by subst hr1 hr2 hr3 hr4 hr5 hr6 hr7; unfold skywaykeep2_TerrainGrows; exact cond_f h1 (cond_f h2 (cond_t h3 (cond_t h4 (rfl))))
          exact TE.ret [] (.bool true) ⟨by kernel_rfl, by kernel_rfl⟩ (by rw [e]; first | done | kernel_rfl)
        · refine TL.run 28 [] [(10, .bool (r7.1 == (w64 (r3.1 + clearance))))] rfl ⟨by kernel_rfl, by kernel_rfl⟩ ?_
          refine TL.next rfl ?_
          refine TC.ret ?_
          have e : skywaykeep2_TerrainGrows g_ p radius more clearance = (r7.1 == (w64 (r3.1 + clearance))) := by subst hr1 hr2 hr3 hr4 hr5 hr6 hr7; unfold skywaykeep2_TerrainGrows; exact cond_f h1 (cond_f h2 (cond_t h3 (cond_f h4 (rfl))))
          exact TE.ret [] (.bool (r7.1 == (w64 (r3.1 + clearance)))) ⟨by kernel_rfl, by kernel_rfl⟩ (by rw [e]; first | done | kernel_rfl)
      · refine TL.run 28 [] [(10, .bool false)] rfl ⟨by kernel_rfl, by kernel_rfl⟩ ?_
        refine TL.next rfl ?_
        refine TC.ret ?_
        have e : skywaykeep2_TerrainGrows g_ p radius more clearance = false := by subst hr1 hr2 hr3 hr4 hr5 hr6 hr7; unfold skywaykeep2_TerrainGrows; exact cond_f h1 (cond_f h2 (cond_f h3 (rfl)))
        exact TE.ret [] (.bool false) ⟨by kernel_rfl, by kernel_rfl⟩ (by rw [e]; first | done | kernel_rfl)

def skywaykeep2_TerrainSooner (g_ : TerrainGrid) (f : FilterTrack) (seconds : Int) (clearance : Int) (more : Int) : Bool :=
  let r1 := skywaykeep2_ground 0
  let r2 := terrain_Warn r1 (⟨⟨0, 0, 0, ⟨0, 0⟩, ⟨0, 0⟩, 3000, 0, 0, 0, 0, 0⟩, 0, ⟨0, ⟨0, 0⟩, 0, 0, 0⟩⟩ : FilterTrack) 5 0 0 5000
  cond ((r2.2 != 0) || (r2.1 != 0)) (
    false) (
    let r3 := skywaykeep2_ground 0
    let r4 := terrain_Warn r3 (⟨⟨0, 0, 0, ⟨0, 0⟩, ⟨0, 0⟩, 3000, 0, 0, 0, 0, 0⟩, 0, ⟨0, ⟨0, 0⟩, 0, 0, 0⟩⟩ : FilterTrack) 5 0 0 100
    cond (r4.2 != 8) (
      false) (
      let r5 := skywaykeep2_within seconds 0 40
      let r6 := skywaykeep2_within clearance 0 5000
      let r7 := terrain_Warn g_ f r5 1 10 r6
      let r8 := skywaykeep2_within more 0 5000
      let r9 := terrain_Warn g_ f r5 1 10 (w64 (r6 + r8))
      cond (r7.2 == 0) (
        (r9.2 == 0) && (decide (r9.1 ≤ r7.1))) (
        r7.1 == 0)))

set_option maxRecDepth 100000 in
theorem skywaykeep2_TerrainSooner_w (g_ : TerrainGrid) (A_g__Heights : Option Addr) (c_g__Heights : Nat) (f : FilterTrack) (seconds : Int) (clearance : Int) (more : Int) (w : World) (h_g__Heights : Rd w 1 A_g__Heights (g_.Heights.map ic)) (hc_g__Heights : g_.Heights.length ≤ c_g__Heights) : Calls Try.prog 12 #[.agg #[.int .i64 g_.At.X, .int .i64 g_.At.Y, .int .i64 g_.Size, .int .i64 g_.NX, .int .i64 g_.NY, .slice A_g__Heights g_.Heights.length c_g__Heights], FilterTrack.v f, .int .i64 seconds, .int .i64 clearance, .int .i64 more] w (Ret w (.bool (skywaykeep2_TerrainSooner g_ f seconds clearance more))) := by
  have s_g__Heights := h_g__Heights.short; rw [List.length_map] at s_g__Heights
  refine calls_intro (vs := [.agg #[.int .i64 g_.At.X, .int .i64 g_.At.Y, .int .i64 g_.Size, .int .i64 g_.NX, .int .i64 g_.NY, .slice A_g__Heights g_.Heights.length c_g__Heights], FilterTrack.v f, .int .i64 seconds, .int .i64 clearance, .int .i64 more]) (w := w) Try.func12 rfl Try.ntmps12 rfl ?_
  refine TC.weak [(0, .agg #[.int .i64 g_.At.X, .int .i64 g_.At.Y, .int .i64 g_.Size, .int .i64 g_.NX, .int .i64 g_.NY, .slice A_g__Heights g_.Heights.length c_g__Heights]), (1, FilterTrack.v f), (2, .int .i64 seconds), (3, .int .i64 clearance), (4, .int .i64 more)] (by kernel_rfl) ?_
  refine TC.seq ?_
  refine TC.region ?_
  refine TL.write 0 (fun b1 => [(1, FilterTrack.v f), (2, .int .i64 seconds), (3, .int .i64 clearance), (4, .int .i64 more), (5, .pointer (some ⟨b1, 0, none⟩))]) (fun b1 => [.inl (b1, .cells #[.int .i64 g_.At.X, .int .i64 g_.At.Y, .int .i64 g_.Size, .int .i64 g_.NX, .int .i64 g_.NY, .slice A_g__Heights g_.Heights.length c_g__Heights] 73 (0, 0))]) (fun b1 => ⟨by kernel_rfl, by kernel_rfl⟩) (fun b1 => ?_)
  refine TL.write 0 (fun b2 => [(2, .int .i64 seconds), (3, .int .i64 clearance), (4, .int .i64 more), (5, .pointer (some ⟨b1, 0, none⟩)), (6, .pointer (some ⟨b2, 0, none⟩))]) (fun b2 => [.inl (b2, .cells (FilterTrack.c f) 29 (0, 0)), .inl (b1, .cells #[.int .i64 g_.At.X, .int .i64 g_.At.Y, .int .i64 g_.Size, .int .i64 g_.NX, .int .i64 g_.NY, .slice A_g__Heights g_.Heights.length c_g__Heights] 73 (0, 0))]) (fun b2 => ⟨by kernel_rfl, by kernel_rfl⟩) (fun b2 => ?_)
  refine TL.run 3 [] [(2, .int .i64 seconds), (3, .int .i64 clearance), (4, .int .i64 more), (5, .pointer (some ⟨b1, 0, none⟩)), (6, .pointer (some ⟨b2, 0, none⟩))] rfl ⟨by kernel_rfl, by kernel_rfl⟩ ?_
  refine TL.next rfl ?_
  refine TC.seq ?_
  refine TC.region ?_
  refine TL.run 2 [] [(2, .int .i64 seconds), (3, .int .i64 clearance), (4, .int .i64 more), (5, .pointer (some ⟨b1, 0, none⟩)), (6, .pointer (some ⟨b2, 0, none⟩)), (21, .agg #[.int .i64 0, .int .i64 0, .int .i64 0, .int .i64 0, .int .i64 0, .int .i64 0, .int .i64 0, .int .i64 3000, .int .i64 0, .int .i64 0, .int .i64 0, .int .i64 0, .int .i64 0, .int .i64 0, .int .i64 0, .int .i64 0, .int .i64 0, .int .i64 0, .int .i64 0, .int .i64 0])] rfl ⟨by kernel_rfl, by kernel_rfl⟩ ?_
  refine TL.write 0 (fun b3 => [(2, .int .i64 seconds), (3, .int .i64 clearance), (4, .int .i64 more), (5, .pointer (some ⟨b1, 0, none⟩)), (6, .pointer (some ⟨b2, 0, none⟩)), (11, .pointer (some ⟨b3, 0, none⟩)), (21, .agg #[.int .i64 0, .int .i64 0, .int .i64 0, .int .i64 0, .int .i64 0, .int .i64 0, .int .i64 0, .int .i64 3000, .int .i64 0, .int .i64 0, .int .i64 0, .int .i64 0, .int .i64 0, .int .i64 0, .int .i64 0, .int .i64 0, .int .i64 0, .int .i64 0, .int .i64 0, .int .i64 0])]) (fun b3 => [.inl (b3, .cells (FilterTrack.c FilterTrack.zero) 29 (0, 0)), .inl (b2, .cells (FilterTrack.c f) 29 (0, 0)), .inl (b1, .cells #[.int .i64 g_.At.X, .int .i64 g_.At.Y, .int .i64 g_.Size, .int .i64 g_.NX, .int .i64 g_.NY, .slice A_g__Heights g_.Heights.length c_g__Heights] 73 (0, 0))]) (fun b3 => ⟨by kernel_rfl, by kernel_rfl⟩) (fun b3 => ?_)
  refine TL.write 0 (fun _ => [(2, .int .i64 seconds), (3, .int .i64 clearance), (4, .int .i64 more), (5, .pointer (some ⟨b1, 0, none⟩)), (6, .pointer (some ⟨b2, 0, none⟩)), (11, .pointer (some ⟨b3, 0, none⟩))]) (fun _ => [.inl (b3, .cells #[.int .i64 0, .int .i64 0, .int .i64 0, .int .i64 0, .int .i64 0, .int .i64 0, .int .i64 0, .int .i64 3000, .int .i64 0, .int .i64 0, .int .i64 0, .int .i64 0, .int .i64 0, .int .i64 0, .int .i64 0, .int .i64 0, .int .i64 0, .int .i64 0, .int .i64 0, .int .i64 0] 29 (0, 0)), .inl (b2, .cells (FilterTrack.c f) 29 (0, 0)), .inl (b1, .cells #[.int .i64 g_.At.X, .int .i64 g_.At.Y, .int .i64 g_.Size, .int .i64 g_.NX, .int .i64 g_.NY, .slice A_g__Heights g_.Heights.length c_g__Heights] 73 (0, 0))]) (fun _ => ⟨by kernel_rfl, by kernel_rfl⟩) (fun _ => ?_)
  refine TL.next rfl ?_
  refine TC.seq ?_
  refine TC.seq ?_
  obtain ⟨r1, hr1⟩ : ∃ r, skywaykeep2_ground 0 = r := ⟨_, rfl⟩
  obtain ⟨r2, hr2⟩ : ∃ r, terrain_Warn r1 (⟨⟨0, 0, 0, ⟨0, 0⟩, ⟨0, 0⟩, 3000, 0, 0, 0, 0, 0⟩, 0, ⟨0, ⟨0, 0⟩, 0, 0, 0⟩⟩ : FilterTrack) 5 0 0 5000 = r := ⟨_, rfl⟩
  refine TC.plan (G := (Option Addr × Nat)) (base := [(2, .int .i64 seconds), (3, .int .i64 clearance), (4, .int .i64 more), (5, .pointer (some ⟨b1, 0, none⟩)), (6, .pointer (some ⟨b2, 0, none⟩)), (11, .pointer (some ⟨b3, 0, none⟩))]) (vals := fun γ => [.agg #[.int .i64 r1.At.X, .int .i64 r1.At.Y, .int .i64 r1.Size, .int .i64 r1.NX, .int .i64 r1.NY, .slice (γ.1) r1.Heights.length (γ.2)], .agg #[.int .i64 0, .int .i64 0, .int .i64 0, .int .i64 0, .int .i64 0, .int .i64 0, .int .i64 0, .int .i64 3000, .int .i64 0, .int .i64 0, .int .i64 0, .int .i64 0, .int .i64 0, .int .i64 0, .int .i64 0, .int .i64 0, .int .i64 0, .int .i64 0, .int .i64 0, .int .i64 0], .tuple #[.int .i64 r2.1, .int .i64 r2.2], .tuple #[.int .i64 r2.1, .int .i64 r2.2], .int .i64 r2.1, .int .i64 r2.2, .int .i64 r2.1, .int .i64 r2.2]) (writes := [0]) (mem := fun bs γ => match bs with | [x0_] => (bif x0_ then [.inr (Own (γ.1) (γ.2) 3 1 (r1.Heights.map ic))] else []) ++ ([.inl (b3, .cells #[.int .i64 0, .int .i64 0, .int .i64 0, .int .i64 0, .int .i64 0, .int .i64 0, .int .i64 0, .int .i64 3000, .int .i64 0, .int .i64 0, .int .i64 0, .int .i64 0, .int .i64 0, .int .i64 0, .int .i64 0, .int .i64 0, .int .i64 0, .int .i64 0, .int .i64 0, .int .i64 0] 29 (0, 0)), .inl (b2, .cells (FilterTrack.c f) 29 (0, 0)), .inl (b1, .cells #[.int .i64 g_.At.X, .int .i64 g_.At.Y, .int .i64 g_.Size, .int .i64 g_.NX, .int .i64 g_.NY, .slice A_g__Heights g_.Heights.length c_g__Heights] 73 (0, 0))]) | _ => []) ((none, 0)) (fun γ => [(2, .int .i64 seconds), (3, .int .i64 clearance), (4, .int .i64 more), (5, .pointer (some ⟨b1, 0, none⟩)), (6, .pointer (some ⟨b2, 0, none⟩)), (11, .pointer (some ⟨b3, 0, none⟩)), (12, .int .i64 r2.1), (13, .int .i64 r2.2)]) (by kernel_rfl) (by kernel_rfl) (by kernel_rfl) (by kernel_rfl) (by kernel_rfl) (fun γ => by kernel_rfl) (fun _ hM => hM) (fun γ => by kernel_rfl) ?_ ?_
  · skip
    refine Steps.callN (i := 0) (Γ := Option Addr × Nat) (fun g (γ : (Option Addr × Nat)) => g) 37 (fun (γ : (Option Addr × Nat)) => #[.int .i64 0]) (fun (γ : (Option Addr × Nat)) => [.inl (b3, .cells #[.int .i64 0, .int .i64 0, .int .i64 0, .int .i64 0, .int .i64 0, .int .i64 0, .int .i64 0, .int .i64 3000, .int .i64 0, .int .i64 0, .int .i64 0, .int .i64 0, .int .i64 0, .int .i64 0, .int .i64 0, .int .i64 0, .int .i64 0, .int .i64 0, .int .i64 0, .int .i64 0] 29 (0, 0)), .inl (b2, .cells (FilterTrack.c f) 29 (0, 0)), .inl (b1, .cells #[.int .i64 g_.At.X, .int .i64 g_.At.Y, .int .i64 g_.Size, .int .i64 g_.NX, .int .i64 g_.NY, .slice A_g__Heights g_.Heights.length c_g__Heights] 73 (0, 0))]) (fun g (γ : (Option Addr × Nat)) => [.inr (Own (g.1) (g.2) 3 1 (r1.Heights.map ic))]) [0, 2, 3, 4, 5, 6, 7] (some 23) (fun g (γ : (Option Addr × Nat)) => .agg #[.int .i64 r1.At.X, .int .i64 r1.At.Y, .int .i64 r1.Size, .int .i64 r1.NX, .int .i64 r1.NY, .slice (g.1) r1.Heights.length (g.2)]) (fun S (γ : (Option Addr × Nat)) w _ hM => by change Sat _ ((bif S 0 then [.inr (Own (γ.1) (γ.2) 3 1 (r1.Heights.map ic))] else []) ++ ([.inl (b3, .cells #[.int .i64 0, .int .i64 0, .int .i64 0, .int .i64 0, .int .i64 0, .int .i64 0, .int .i64 0, .int .i64 3000, .int .i64 0, .int .i64 0, .int .i64 0, .int .i64 0, .int .i64 0, .int .i64 0, .int .i64 0, .int .i64 0, .int .i64 0, .int .i64 0, .int .i64 0, .int .i64 0] 29 (0, 0)), .inl (b2, .cells (FilterTrack.c f) 29 (0, 0)), .inl (b1, .cells #[.int .i64 g_.At.X, .int .i64 g_.At.Y, .int .i64 g_.Size, .int .i64 g_.NX, .int .i64 g_.NY, .slice A_g__Heights g_.Heights.length c_g__Heights] 73 (0, 0))])) w at hM; exact hM.sub (sub_skip (List.Sublist.refl _))) (fun S (γ : (Option Addr × Nat)) g hj _ => by change List.Perm (_ ++ (((bif S 0 then [.inr (Own (γ.1) (γ.2) 3 1 (r1.Heights.map ic))] else []) ++ ([.inl (b3, .cells #[.int .i64 0, .int .i64 0, .int .i64 0, .int .i64 0, .int .i64 0, .int .i64 0, .int .i64 0, .int .i64 3000, .int .i64 0, .int .i64 0, .int .i64 0, .int .i64 0, .int .i64 0, .int .i64 0, .int .i64 0, .int .i64 0, .int .i64 0, .int .i64 0, .int .i64 0, .int .i64 0] 29 (0, 0)), .inl (b2, .cells (FilterTrack.c f) 29 (0, 0)), .inl (b1, .cells #[.int .i64 g_.At.X, .int .i64 g_.At.Y, .int .i64 g_.Size, .int .i64 g_.NX, .int .i64 g_.NY, .slice A_g__Heights g_.Heights.length c_g__Heights] 73 (0, 0))])) : Mem)) _; rw [hj]; exact (List.Perm.refl _).symm) (fun (γ : (Option Addr × Nat)) w _ => by have h := skywaykeep2_ground_w 0 w; rw [hr1] at h; exact h) (fun (γ : (Option Addr × Nat)) => by kernel_rfl) (fun (γ : (Option Addr × Nat)) g => by kernel_rfl) (by kernel_rfl) (fun (γ : (Option Addr × Nat)) g => by kernel_rfl) ?_
    refine Steps.run (i := 1) 2 [0] [.inl (b3, .cells #[.int .i64 0, .int .i64 0, .int .i64 0, .int .i64 0, .int .i64 0, .int .i64 0, .int .i64 0, .int .i64 3000, .int .i64 0, .int .i64 0, .int .i64 0, .int .i64 0, .int .i64 0, .int .i64 0, .int .i64 0, .int .i64 0, .int .i64 0, .int .i64 0, .int .i64 0, .int .i64 0] 29 (0, 0)), .inl (b2, .cells (FilterTrack.c f) 29 (0, 0)), .inl (b1, .cells #[.int .i64 g_.At.X, .int .i64 g_.At.Y, .int .i64 g_.Size, .int .i64 g_.NX, .int .i64 g_.NY, .slice A_g__Heights g_.Heights.length c_g__Heights] 73 (0, 0))] (by kernel_rfl) (by kernel_rfl) (fun S (γ : (Option Addr × Nat)) w hM => by change Sat _ ((bif S 0 then [.inr (Own (γ.1) (γ.2) 3 1 (r1.Heights.map ic))] else []) ++ ([.inl (b3, .cells #[.int .i64 0, .int .i64 0, .int .i64 0, .int .i64 0, .int .i64 0, .int .i64 0, .int .i64 0, .int .i64 3000, .int .i64 0, .int .i64 0, .int .i64 0, .int .i64 0, .int .i64 0, .int .i64 0, .int .i64 0, .int .i64 0, .int .i64 0, .int .i64 0, .int .i64 0, .int .i64 0] 29 (0, 0)), .inl (b2, .cells (FilterTrack.c f) 29 (0, 0)), .inl (b1, .cells #[.int .i64 g_.At.X, .int .i64 g_.At.Y, .int .i64 g_.Size, .int .i64 g_.NX, .int .i64 g_.NY, .slice A_g__Heights g_.Heights.length c_g__Heights] 73 (0, 0))])) w at hM; exact hM.sub (sub_skip (List.Sublist.refl _))) (by kernel_rfl) (fun (γ : (Option Addr × Nat)) => ⟨by kernel_rfl, by kernel_rfl⟩) ?_
    refine Steps.call (i := 2) 40 (fun (γ : (Option Addr × Nat)) => #[.agg #[.int .i64 r1.At.X, .int .i64 r1.At.Y, .int .i64 r1.Size, .int .i64 r1.NX, .int .i64 r1.NY, .slice (γ.1) r1.Heights.length (γ.2)], .agg #[.int .i64 0, .int .i64 0, .int .i64 0, .int .i64 0, .int .i64 0, .int .i64 0, .int .i64 0, .int .i64 3000, .int .i64 0, .int .i64 0, .int .i64 0, .int .i64 0, .int .i64 0, .int .i64 0, .int .i64 0, .int .i64 0, .int .i64 0, .int .i64 0, .int .i64 0, .int .i64 0], .int .i64 5, .int .i64 0, .int .i64 0, .int .i64 5000]) (some 25) (fun (γ : (Option Addr × Nat)) => .tuple #[.int .i64 r2.1, .int .i64 r2.2]) (fun (γ : (Option Addr × Nat)) => [.inr (Own (γ.1) (γ.2) 3 1 (r1.Heights.map ic)), .inl (b3, .cells #[.int .i64 0, .int .i64 0, .int .i64 0, .int .i64 0, .int .i64 0, .int .i64 0, .int .i64 0, .int .i64 3000, .int .i64 0, .int .i64 0, .int .i64 0, .int .i64 0, .int .i64 0, .int .i64 0, .int .i64 0, .int .i64 0, .int .i64 0, .int .i64 0, .int .i64 0, .int .i64 0] 29 (0, 0)), .inl (b2, .cells (FilterTrack.c f) 29 (0, 0)), .inl (b1, .cells #[.int .i64 g_.At.X, .int .i64 g_.At.Y, .int .i64 g_.Size, .int .i64 g_.NX, .int .i64 g_.NY, .slice A_g__Heights g_.Heights.length c_g__Heights] 73 (0, 0))]) (by kernel_rfl) (fun S (γ : (Option Addr × Nat)) w hd hM => by change Sat _ ((bif S 0 then [.inr (Own (γ.1) (γ.2) 3 1 (r1.Heights.map ic))] else []) ++ ([.inl (b3, .cells #[.int .i64 0, .int .i64 0, .int .i64 0, .int .i64 0, .int .i64 0, .int .i64 0, .int .i64 0, .int .i64 3000, .int .i64 0, .int .i64 0, .int .i64 0, .int .i64 0, .int .i64 0, .int .i64 0, .int .i64 0, .int .i64 0, .int .i64 0, .int .i64 0, .int .i64 0, .int .i64 0] 29 (0, 0)), .inl (b2, .cells (FilterTrack.c f) 29 (0, 0)), .inl (b1, .cells #[.int .i64 g_.At.X, .int .i64 g_.At.Y, .int .i64 g_.Size, .int .i64 g_.NX, .int .i64 g_.NY, .slice A_g__Heights g_.Heights.length c_g__Heights] 73 (0, 0))])) w at hM; exact hM.sub (sub_keep (by rw [hd 0 (by kernel_rfl)]; rfl) (List.Sublist.refl _))) (fun (γ : (Option Addr × Nat)) w hM => by have h := terrain_Warn_w r1 (γ.1) (γ.2) (⟨⟨0, 0, 0, ⟨0, 0⟩, ⟨0, 0⟩, 3000, 0, 0, 0, 0, 0⟩, 0, ⟨0, ⟨0, 0⟩, 0, 0, 0⟩⟩ : FilterTrack) 5 0 0 5000 w (hM.rd_at 0 rfl) (hM.le_at 0 rfl); rw [hr2] at h; exact h) (fun (γ : (Option Addr × Nat)) => by kernel_rfl) (fun (γ : (Option Addr × Nat)) => by kernel_rfl) ?_
    refine Steps.run (i := 3) 8 [0, 0, 0, 0, 0] [.inl (b3, .cells #[.int .i64 0, .int .i64 0, .int .i64 0, .int .i64 0, .int .i64 0, .int .i64 0, .int .i64 0, .int .i64 3000, .int .i64 0, .int .i64 0, .int .i64 0, .int .i64 0, .int .i64 0, .int .i64 0, .int .i64 0, .int .i64 0, .int .i64 0, .int .i64 0, .int .i64 0, .int .i64 0] 29 (0, 0)), .inl (b2, .cells (FilterTrack.c f) 29 (0, 0)), .inl (b1, .cells #[.int .i64 g_.At.X, .int .i64 g_.At.Y, .int .i64 g_.Size, .int .i64 g_.NX, .int .i64 g_.NY, .slice A_g__Heights g_.Heights.length c_g__Heights] 73 (0, 0))] (by kernel_rfl) (by kernel_rfl) (fun S (γ : (Option Addr × Nat)) w hM => by change Sat _ ((bif S 0 then [.inr (Own (γ.1) (γ.2) 3 1 (r1.Heights.map ic))] else []) ++ ([.inl (b3, .cells #[.int .i64 0, .int .i64 0, .int .i64 0, .int .i64 0, .int .i64 0, .int .i64 0, .int .i64 0, .int .i64 3000, .int .i64 0, .int .i64 0, .int .i64 0, .int .i64 0, .int .i64 0, .int .i64 0, .int .i64 0, .int .i64 0, .int .i64 0, .int .i64 0, .int .i64 0, .int .i64 0] 29 (0, 0)), .inl (b2, .cells (FilterTrack.c f) 29 (0, 0)), .inl (b1, .cells #[.int .i64 g_.At.X, .int .i64 g_.At.Y, .int .i64 g_.Size, .int .i64 g_.NX, .int .i64 g_.NY, .slice A_g__Heights g_.Heights.length c_g__Heights] 73 (0, 0))])) w at hM; exact hM.sub (sub_skip (List.Sublist.refl _))) (by kernel_rfl) (fun (γ : (Option Addr × Nat)) => ⟨by kernel_rfl, by kernel_rfl⟩) ?_
    exact Steps.done (by kernel_rfl)
  · rintro ⟨A, c⟩
    refine TE.conv [.inr (Own A c 3 1 (r1.Heights.map ic)), .inl (b3, .cells #[.int .i64 0, .int .i64 0, .int .i64 0, .int .i64 0, .int .i64 0, .int .i64 0, .int .i64 0, .int .i64 3000, .int .i64 0, .int .i64 0, .int .i64 0, .int .i64 0, .int .i64 0, .int .i64 0, .int .i64 0, .int .i64 0, .int .i64 0, .int .i64 0, .int .i64 0, .int .i64 0] 29 (0, 0)), .inl (b2, .cells (FilterTrack.c f) 29 (0, 0)), .inl (b1, .cells #[.int .i64 g_.At.X, .int .i64 g_.At.Y, .int .i64 g_.Size, .int .i64 g_.NX, .int .i64 g_.NY, .slice A_g__Heights g_.Heights.length c_g__Heights] 73 (0, 0))] (fun _ hM => hM) ?_
    refine TE.next ?_
    refine TC.seq ?_
    refine TC.region ?_
    refine TL.run 3 [] [(2, .int .i64 seconds), (3, .int .i64 clearance), (4, .int .i64 more), (5, .pointer (some ⟨b1, 0, none⟩)), (6, .pointer (some ⟨b2, 0, none⟩)), (11, .pointer (some ⟨b3, 0, none⟩)), (12, .int .i64 r2.1), (30, .bool (r2.2 != 0))] rfl ⟨by kernel_rfl, by kernel_rfl⟩ ?_
    refine TL.join 30 (r2.2 != 0) 6 [] [] (fun β => [(2, .int .i64 seconds), (3, .int .i64 clearance), (4, .int .i64 more), (5, .pointer (some ⟨b1, 0, none⟩)), (6, .pointer (some ⟨b2, 0, none⟩)), (11, .pointer (some ⟨b3, 0, none⟩)), (33, .bool (β || (r2.1 != 0)))]) (by kernel_rfl) rfl ⟨by kernel_rfl, by kernel_rfl⟩ ⟨by kernel_rfl, by kernel_rfl⟩ ?_
    refine TL.next rfl ?_
    refine TC.cond ((r2.2 != 0) || (r2.1 != 0)) rfl (by kernel_rfl) (fun h1 => ?_) (fun h1 => ?_)
    · refine TC.seq ?_
      refine TC.region ?_
      refine TL.run 1 [] [(10, .bool false)] rfl ⟨by kernel_rfl, by kernel_rfl⟩ ?_
      refine TL.next rfl ?_
      refine TC.ret ?_
      refine TE.ret_then ?_
      have e : skywaykeep2_TerrainSooner g_ f seconds clearance more = false := by subst hr1 hr2; unfold skywaykeep2_TerrainSooner; exact cond_t h1 (rfl)
      exact TE.ret [] (.bool false) ⟨by kernel_rfl, by kernel_rfl⟩ (by rw [e]; first | done | kernel_rfl)
    · refine TC.skip ?_
      refine TE.next ?_
      refine TC.seq ?_
      refine TC.seq ?_
      obtain ⟨r3, hr3⟩ : ∃ r, skywaykeep2_ground 0 = r := ⟨_, rfl⟩
      obtain ⟨r4, hr4⟩ : ∃ r, terrain_Warn r3 (⟨⟨0, 0, 0, ⟨0, 0⟩, ⟨0, 0⟩, 3000, 0, 0, 0, 0, 0⟩, 0, ⟨0, ⟨0, 0⟩, 0, 0, 0⟩⟩ : FilterTrack) 5 0 0 100 = r := ⟨_, rfl⟩
      refine TC.plan (G := (Option Addr × Nat)) (base := [(2, .int .i64 seconds), (3, .int .i64 clearance), (4, .int .i64 more), (5, .pointer (some ⟨b1, 0, none⟩)), (6, .pointer (some ⟨b2, 0, none⟩)), (11, .pointer (some ⟨b3, 0, none⟩))]) (vals := fun γ => [.agg #[.int .i64 r3.At.X, .int .i64 r3.At.Y, .int .i64 r3.Size, .int .i64 r3.NX, .int .i64 r3.NY, .slice (γ.1) r3.Heights.length (γ.2)], .agg #[.int .i64 0, .int .i64 0, .int .i64 0, .int .i64 0, .int .i64 0, .int .i64 0, .int .i64 0, .int .i64 3000, .int .i64 0, .int .i64 0, .int .i64 0, .int .i64 0, .int .i64 0, .int .i64 0, .int .i64 0, .int .i64 0, .int .i64 0, .int .i64 0, .int .i64 0, .int .i64 0], .tuple #[.int .i64 r4.1, .int .i64 r4.2], .tuple #[.int .i64 r4.1, .int .i64 r4.2], .int .i64 r4.1, .int .i64 r4.2, .int .i64 r4.1, .int .i64 r4.2]) (writes := [0]) (mem := fun bs γ => match bs with | [x0_] => (bif x0_ then [.inr (Own (γ.1) (γ.2) 3 1 (r3.Heights.map ic))] else []) ++ ([.inr (Own A c 3 1 (r1.Heights.map ic)), .inl (b3, .cells #[.int .i64 0, .int .i64 0, .int .i64 0, .int .i64 0, .int .i64 0, .int .i64 0, .int .i64 0, .int .i64 3000, .int .i64 0, .int .i64 0, .int .i64 0, .int .i64 0, .int .i64 0, .int .i64 0, .int .i64 0, .int .i64 0, .int .i64 0, .int .i64 0, .int .i64 0, .int .i64 0] 29 (0, 0)), .inl (b2, .cells (FilterTrack.c f) 29 (0, 0)), .inl (b1, .cells #[.int .i64 g_.At.X, .int .i64 g_.At.Y, .int .i64 g_.Size, .int .i64 g_.NX, .int .i64 g_.NY, .slice A_g__Heights g_.Heights.length c_g__Heights] 73 (0, 0))]) | _ => []) ((none, 0)) (fun γ => [(2, .int .i64 seconds), (3, .int .i64 clearance), (4, .int .i64 more), (5, .pointer (some ⟨b1, 0, none⟩)), (6, .pointer (some ⟨b2, 0, none⟩)), (15, .int .i64 r4.2)]) (by kernel_rfl) (by kernel_rfl) (by kernel_rfl) (by kernel_rfl) (by kernel_rfl) (fun γ => by kernel_rfl) (fun _ hM => hM) (fun γ => by kernel_rfl) ?_ ?_
      · skip
        refine Steps.callN (i := 0) (Γ := Option Addr × Nat) (fun g (γ : (Option Addr × Nat)) => g) 37 (fun (γ : (Option Addr × Nat)) => #[.int .i64 0]) (fun (γ : (Option Addr × Nat)) => [.inr (Own A c 3 1 (r1.Heights.map ic)), .inl (b3, .cells #[.int .i64 0, .int .i64 0, .int .i64 0, .int .i64 0, .int .i64 0, .int .i64 0, .int .i64 0, .int .i64 3000, .int .i64 0, .int .i64 0, .int .i64 0, .int .i64 0, .int .i64 0, .int .i64 0, .int .i64 0, .int .i64 0, .int .i64 0, .int .i64 0, .int .i64 0, .int .i64 0] 29 (0, 0)), .inl (b2, .cells (FilterTrack.c f) 29 (0, 0)), .inl (b1, .cells #[.int .i64 g_.At.X, .int .i64 g_.At.Y, .int .i64 g_.Size, .int .i64 g_.NX, .int .i64 g_.NY, .slice A_g__Heights g_.Heights.length c_g__Heights] 73 (0, 0))]) (fun g (γ : (Option Addr × Nat)) => [.inr (Own (g.1) (g.2) 3 1 (r3.Heights.map ic))]) [0, 2, 3, 4, 5, 6, 7] (some 35) (fun g (γ : (Option Addr × Nat)) => .agg #[.int .i64 r3.At.X, .int .i64 r3.At.Y, .int .i64 r3.Size, .int .i64 r3.NX, .int .i64 r3.NY, .slice (g.1) r3.Heights.length (g.2)]) (fun S (γ : (Option Addr × Nat)) w _ hM => by change Sat _ ((bif S 0 then [.inr (Own (γ.1) (γ.2) 3 1 (r3.Heights.map ic))] else []) ++ ([.inr (Own A c 3 1 (r1.Heights.map ic)), .inl (b3, .cells #[.int .i64 0, .int .i64 0, .int .i64 0, .int .i64 0, .int .i64 0, .int .i64 0, .int .i64 0, .int .i64 3000, .int .i64 0, .int .i64 0, .int .i64 0, .int .i64 0, .int .i64 0, .int .i64 0, .int .i64 0, .int .i64 0, .int .i64 0, .int .i64 0, .int .i64 0, .int .i64 0] 29 (0, 0)), .inl (b2, .cells (FilterTrack.c f) 29 (0, 0)), .inl (b1, .cells #[.int .i64 g_.At.X, .int .i64 g_.At.Y, .int .i64 g_.Size, .int .i64 g_.NX, .int .i64 g_.NY, .slice A_g__Heights g_.Heights.length c_g__Heights] 73 (0, 0))])) w at hM; exact hM.sub (sub_skip (List.Sublist.refl _))) (fun S (γ : (Option Addr × Nat)) g hj _ => by change List.Perm (_ ++ (((bif S 0 then [.inr (Own (γ.1) (γ.2) 3 1 (r3.Heights.map ic))] else []) ++ ([.inr (Own A c 3 1 (r1.Heights.map ic)), .inl (b3, .cells #[.int .i64 0, .int .i64 0, .int .i64 0, .int .i64 0, .int .i64 0, .int .i64 0, .int .i64 0, .int .i64 3000, .int .i64 0, .int .i64 0, .int .i64 0, .int .i64 0, .int .i64 0, .int .i64 0, .int .i64 0, .int .i64 0, .int .i64 0, .int .i64 0, .int .i64 0, .int .i64 0] 29 (0, 0)), .inl (b2, .cells (FilterTrack.c f) 29 (0, 0)), .inl (b1, .cells #[.int .i64 g_.At.X, .int .i64 g_.At.Y, .int .i64 g_.Size, .int .i64 g_.NX, .int .i64 g_.NY, .slice A_g__Heights g_.Heights.length c_g__Heights] 73 (0, 0))])) : Mem)) _; rw [hj]; exact (List.Perm.refl _).symm) (fun (γ : (Option Addr × Nat)) w _ => by have h := skywaykeep2_ground_w 0 w; rw [hr3] at h; exact h) (fun (γ : (Option Addr × Nat)) => by kernel_rfl) (fun (γ : (Option Addr × Nat)) g => by kernel_rfl) (by kernel_rfl) (fun (γ : (Option Addr × Nat)) g => by kernel_rfl) ?_
        refine Steps.run (i := 1) 2 [1] [.inr (Own A c 3 1 (r1.Heights.map ic)), .inl (b3, .cells #[.int .i64 0, .int .i64 0, .int .i64 0, .int .i64 0, .int .i64 0, .int .i64 0, .int .i64 0, .int .i64 3000, .int .i64 0, .int .i64 0, .int .i64 0, .int .i64 0, .int .i64 0, .int .i64 0, .int .i64 0, .int .i64 0, .int .i64 0, .int .i64 0, .int .i64 0, .int .i64 0] 29 (0, 0)), .inl (b2, .cells (FilterTrack.c f) 29 (0, 0)), .inl (b1, .cells #[.int .i64 g_.At.X, .int .i64 g_.At.Y, .int .i64 g_.Size, .int .i64 g_.NX, .int .i64 g_.NY, .slice A_g__Heights g_.Heights.length c_g__Heights] 73 (0, 0))] (by kernel_rfl) (by kernel_rfl) (fun S (γ : (Option Addr × Nat)) w hM => by change Sat _ ((bif S 0 then [.inr (Own (γ.1) (γ.2) 3 1 (r3.Heights.map ic))] else []) ++ ([.inr (Own A c 3 1 (r1.Heights.map ic)), .inl (b3, .cells #[.int .i64 0, .int .i64 0, .int .i64 0, .int .i64 0, .int .i64 0, .int .i64 0, .int .i64 0, .int .i64 3000, .int .i64 0, .int .i64 0, .int .i64 0, .int .i64 0, .int .i64 0, .int .i64 0, .int .i64 0, .int .i64 0, .int .i64 0, .int .i64 0, .int .i64 0, .int .i64 0] 29 (0, 0)), .inl (b2, .cells (FilterTrack.c f) 29 (0, 0)), .inl (b1, .cells #[.int .i64 g_.At.X, .int .i64 g_.At.Y, .int .i64 g_.Size, .int .i64 g_.NX, .int .i64 g_.NY, .slice A_g__Heights g_.Heights.length c_g__Heights] 73 (0, 0))])) w at hM; exact hM.sub (sub_skip (List.Sublist.refl _))) (by kernel_rfl) (fun (γ : (Option Addr × Nat)) => ⟨by kernel_rfl, by kernel_rfl⟩) ?_
        refine Steps.call (i := 2) 40 (fun (γ : (Option Addr × Nat)) => #[.agg #[.int .i64 r3.At.X, .int .i64 r3.At.Y, .int .i64 r3.Size, .int .i64 r3.NX, .int .i64 r3.NY, .slice (γ.1) r3.Heights.length (γ.2)], .agg #[.int .i64 0, .int .i64 0, .int .i64 0, .int .i64 0, .int .i64 0, .int .i64 0, .int .i64 0, .int .i64 3000, .int .i64 0, .int .i64 0, .int .i64 0, .int .i64 0, .int .i64 0, .int .i64 0, .int .i64 0, .int .i64 0, .int .i64 0, .int .i64 0, .int .i64 0, .int .i64 0], .int .i64 5, .int .i64 0, .int .i64 0, .int .i64 100]) (some 37) (fun (γ : (Option Addr × Nat)) => .tuple #[.int .i64 r4.1, .int .i64 r4.2]) (fun (γ : (Option Addr × Nat)) => [.inr (Own (γ.1) (γ.2) 3 1 (r3.Heights.map ic)), .inr (Own A c 3 1 (r1.Heights.map ic)), .inl (b3, .cells #[.int .i64 0, .int .i64 0, .int .i64 0, .int .i64 0, .int .i64 0, .int .i64 0, .int .i64 0, .int .i64 3000, .int .i64 0, .int .i64 0, .int .i64 0, .int .i64 0, .int .i64 0, .int .i64 0, .int .i64 0, .int .i64 0, .int .i64 0, .int .i64 0, .int .i64 0, .int .i64 0] 29 (0, 0)), .inl (b2, .cells (FilterTrack.c f) 29 (0, 0)), .inl (b1, .cells #[.int .i64 g_.At.X, .int .i64 g_.At.Y, .int .i64 g_.Size, .int .i64 g_.NX, .int .i64 g_.NY, .slice A_g__Heights g_.Heights.length c_g__Heights] 73 (0, 0))]) (by kernel_rfl) (fun S (γ : (Option Addr × Nat)) w hd hM => by change Sat _ ((bif S 0 then [.inr (Own (γ.1) (γ.2) 3 1 (r3.Heights.map ic))] else []) ++ ([.inr (Own A c 3 1 (r1.Heights.map ic)), .inl (b3, .cells #[.int .i64 0, .int .i64 0, .int .i64 0, .int .i64 0, .int .i64 0, .int .i64 0, .int .i64 0, .int .i64 3000, .int .i64 0, .int .i64 0, .int .i64 0, .int .i64 0, .int .i64 0, .int .i64 0, .int .i64 0, .int .i64 0, .int .i64 0, .int .i64 0, .int .i64 0, .int .i64 0] 29 (0, 0)), .inl (b2, .cells (FilterTrack.c f) 29 (0, 0)), .inl (b1, .cells #[.int .i64 g_.At.X, .int .i64 g_.At.Y, .int .i64 g_.Size, .int .i64 g_.NX, .int .i64 g_.NY, .slice A_g__Heights g_.Heights.length c_g__Heights] 73 (0, 0))])) w at hM; exact hM.sub (sub_keep (by rw [hd 0 (by kernel_rfl)]; rfl) (List.Sublist.refl _))) (fun (γ : (Option Addr × Nat)) w hM => by have h := terrain_Warn_w r3 (γ.1) (γ.2) (⟨⟨0, 0, 0, ⟨0, 0⟩, ⟨0, 0⟩, 3000, 0, 0, 0, 0, 0⟩, 0, ⟨0, ⟨0, 0⟩, 0, 0, 0⟩⟩ : FilterTrack) 5 0 0 100 w (hM.rd_at 0 rfl) (hM.le_at 0 rfl); rw [hr4] at h; exact h) (fun (γ : (Option Addr × Nat)) => by kernel_rfl) (fun (γ : (Option Addr × Nat)) => by kernel_rfl) ?_
        refine Steps.run (i := 3) 8 [0, 0, 0, 0, 0] [.inr (Own A c 3 1 (r1.Heights.map ic)), .inl (b3, .cells #[.int .i64 0, .int .i64 0, .int .i64 0, .int .i64 0, .int .i64 0, .int .i64 0, .int .i64 0, .int .i64 3000, .int .i64 0, .int .i64 0, .int .i64 0, .int .i64 0, .int .i64 0, .int .i64 0, .int .i64 0, .int .i64 0, .int .i64 0, .int .i64 0, .int .i64 0, .int .i64 0] 29 (0, 0)), .inl (b2, .cells (FilterTrack.c f) 29 (0, 0)), .inl (b1, .cells #[.int .i64 g_.At.X, .int .i64 g_.At.Y, .int .i64 g_.Size, .int .i64 g_.NX, .int .i64 g_.NY, .slice A_g__Heights g_.Heights.length c_g__Heights] 73 (0, 0))] (by kernel_rfl) (by kernel_rfl) (fun S (γ : (Option Addr × Nat)) w hM => by change Sat _ ((bif S 0 then [.inr (Own (γ.1) (γ.2) 3 1 (r3.Heights.map ic))] else []) ++ ([.inr (Own A c 3 1 (r1.Heights.map ic)), .inl (b3, .cells #[.int .i64 0, .int .i64 0, .int .i64 0, .int .i64 0, .int .i64 0, .int .i64 0, .int .i64 0, .int .i64 3000, .int .i64 0, .int .i64 0, .int .i64 0, .int .i64 0, .int .i64 0, .int .i64 0, .int .i64 0, .int .i64 0, .int .i64 0, .int .i64 0, .int .i64 0, .int .i64 0] 29 (0, 0)), .inl (b2, .cells (FilterTrack.c f) 29 (0, 0)), .inl (b1, .cells #[.int .i64 g_.At.X, .int .i64 g_.At.Y, .int .i64 g_.Size, .int .i64 g_.NX, .int .i64 g_.NY, .slice A_g__Heights g_.Heights.length c_g__Heights] 73 (0, 0))])) w at hM; exact hM.sub (sub_skip (List.Sublist.refl _))) (by kernel_rfl) (fun (γ : (Option Addr × Nat)) => ⟨by kernel_rfl, by kernel_rfl⟩) ?_
        exact Steps.done (by kernel_rfl)
      · rintro ⟨A_2, c_2⟩
        refine TE.conv [.inr (Own A_2 c_2 3 1 (r3.Heights.map ic)), .inr (Own A c 3 1 (r1.Heights.map ic)), .inl (b3, .cells #[.int .i64 0, .int .i64 0, .int .i64 0, .int .i64 0, .int .i64 0, .int .i64 0, .int .i64 0, .int .i64 3000, .int .i64 0, .int .i64 0, .int .i64 0, .int .i64 0, .int .i64 0, .int .i64 0, .int .i64 0, .int .i64 0, .int .i64 0, .int .i64 0, .int .i64 0, .int .i64 0] 29 (0, 0)), .inl (b2, .cells (FilterTrack.c f) 29 (0, 0)), .inl (b1, .cells #[.int .i64 g_.At.X, .int .i64 g_.At.Y, .int .i64 g_.Size, .int .i64 g_.NX, .int .i64 g_.NY, .slice A_g__Heights g_.Heights.length c_g__Heights] 73 (0, 0))] (fun _ hM => hM) ?_
        refine TE.next ?_
        refine TC.seq ?_
        refine TC.region ?_
        refine TL.run 2 [] [(2, .int .i64 seconds), (3, .int .i64 clearance), (4, .int .i64 more), (5, .pointer (some ⟨b1, 0, none⟩)), (6, .pointer (some ⟨b2, 0, none⟩)), (41, .bool (r4.2 != 8))] rfl ⟨by kernel_rfl, by kernel_rfl⟩ ?_
        refine TL.next rfl ?_
        refine TC.cond (r4.2 != 8) rfl (by kernel_rfl) (fun h2 => ?_) (fun h2 => ?_)
        · refine TC.seq ?_
          refine TC.region ?_
          refine TL.run 1 [] [(10, .bool false)] rfl ⟨by kernel_rfl, by kernel_rfl⟩ ?_
          refine TL.next rfl ?_
          refine TC.ret ?_
          refine TE.ret_then ?_
          have e : skywaykeep2_TerrainSooner g_ f seconds clearance more = false := by subst hr1 hr2 hr3 hr4; unfold skywaykeep2_TerrainSooner; exact cond_f h1 (cond_t h2 (rfl))
          exact TE.ret [] (.bool false) ⟨by kernel_rfl, by kernel_rfl⟩ (by rw [e]; first | done | kernel_rfl)
        · refine TC.skip ?_
          refine TE.next ?_
          refine TC.seq ?_
          refine TC.region ?_
          refine TL.run 1 [] [(3, .int .i64 clearance), (4, .int .i64 more), (5, .pointer (some ⟨b1, 0, none⟩)), (6, .pointer (some ⟨b2, 0, none⟩)), (42, .int .i64 seconds)] rfl ⟨by kernel_rfl, by kernel_rfl⟩ ?_
          refine TL.call (some 43) [(3, .int .i64 clearance), (4, .int .i64 more), (5, .pointer (some ⟨b1, 0, none⟩)), (6, .pointer (some ⟨b2, 0, none⟩)), (43, .int .i64 (skywaykeep2_within seconds 0 40))] (fun w _ => skywaykeep2_within_w seconds 0 40 w (by have q0_ := (bne_f (or_f1 h1)); have q1_ := (bne_f (or_f2 h1)); have q2_ := (bne_f h2); first | omega | first | decide | omega | (simp only [w64_eq]; omega) | (simp <;> omega))) (by kernel_rfl) (by kernel_rfl) ?_
          generalize hr5 : skywaykeep2_within seconds 0 40 = r5
          refine TL.run 3 [] [(4, .int .i64 more), (5, .pointer (some ⟨b1, 0, none⟩)), (6, .pointer (some ⟨b2, 0, none⟩)), (43, .int .i64 r5), (44, .int .i64 clearance)] rfl ⟨by kernel_rfl, by kernel_rfl⟩ ?_
          refine TL.call (some 45) [(4, .int .i64 more), (5, .pointer (some ⟨b1, 0, none⟩)), (6, .pointer (some ⟨b2, 0, none⟩)), (43, .int .i64 r5), (45, .int .i64 (skywaykeep2_within clearance 0 5000))] (fun w _ => skywaykeep2_within_w clearance 0 5000 w (by have q0_ := (bne_f (or_f1 h1)); have q1_ := (bne_f (or_f2 h1)); have q2_ := (bne_f h2); first | omega | first | decide | omega | (simp only [w64_eq]; omega) | (simp <;> omega))) (by kernel_rfl) (by kernel_rfl) ?_
          generalize hr6 : skywaykeep2_within clearance 0 5000 = r6
          refine TL.run 6 [] [(2, .int .i64 r5), (3, .int .i64 r6), (4, .int .i64 more), (5, .pointer (some ⟨b1, 0, none⟩)), (6, .pointer (some ⟨b2, 0, none⟩))] rfl ⟨by kernel_rfl, by kernel_rfl⟩ ?_
          refine TL.next rfl ?_
          refine TC.seq ?_
          refine TC.region ?_
          refine TL.run 4 [4, 3] [(2, .int .i64 r5), (3, .int .i64 r6), (4, .int .i64 more), (5, .pointer (some ⟨b1, 0, none⟩)), (6, .pointer (some ⟨b2, 0, none⟩)), (47, .agg #[.int .i64 g_.At.X, .int .i64 g_.At.Y, .int .i64 g_.Size, .int .i64 g_.NX, .int .i64 g_.NY, .slice A_g__Heights g_.Heights.length c_g__Heights]), (48, FilterTrack.v f), (49, .int .i64 r5), (50, .int .i64 r6)] rfl ⟨by kernel_rfl, by kernel_rfl⟩ ?_
          refine TL.call (some 51) [(2, .int .i64 r5), (3, .int .i64 r6), (4, .int .i64 more), (5, .pointer (some ⟨b1, 0, none⟩)), (6, .pointer (some ⟨b2, 0, none⟩)), (51, .tuple #[.int .i64 ((terrain_Warn g_ f r5 1 10 r6).1), .int .i64 ((terrain_Warn g_ f r5 1 10 r6).2)])] (fun w hM => terrain_Warn_w g_ A_g__Heights c_g__Heights f r5 1 10 r6 w (h_g__Heights.sat hM) hc_g__Heights) (by kernel_rfl) (by kernel_rfl) ?_
          generalize hr7 : terrain_Warn g_ f r5 1 10 r6 = r7
          refine TL.run 10 [] [(2, .int .i64 r5), (3, .int .i64 r6), (4, .int .i64 more), (5, .pointer (some ⟨b1, 0, none⟩)), (6, .pointer (some ⟨b2, 0, none⟩)), (16, .int .i64 r7.1), (17, .int .i64 r7.2)] rfl ⟨by kernel_rfl, by kernel_rfl⟩ ?_
          refine TL.next rfl ?_
          refine TC.seq ?_
          refine TC.draw 13 (by kernel_rfl) (by kernel_rfl) (by kernel_rfl) ?_
          refine TQ.run 5 [4, 3] [(16, .int .i64 r7.1), (17, .int .i64 r7.2), (55, .agg #[.int .i64 g_.At.X, .int .i64 g_.At.Y, .int .i64 g_.Size, .int .i64 g_.NX, .int .i64 g_.NY, .slice A_g__Heights g_.Heights.length c_g__Heights]), (56, FilterTrack.v f), (57, .int .i64 r5), (58, .int .i64 r6), (59, .int .i64 more)] rfl ⟨by kernel_rfl, by kernel_rfl⟩ ?_
          refine TQ.call (some 60) [(16, .int .i64 r7.1), (17, .int .i64 r7.2), (55, .agg #[.int .i64 g_.At.X, .int .i64 g_.At.Y, .int .i64 g_.Size, .int .i64 g_.NX, .int .i64 g_.NY, .slice A_g__Heights g_.Heights.length c_g__Heights]), (56, FilterTrack.v f), (57, .int .i64 r5), (58, .int .i64 r6), (60, .int .i64 (skywaykeep2_within more 0 5000))] (fun w _ => skywaykeep2_within_w more 0 5000 w (by have q0_ := (bne_f (or_f1 h1)); have q1_ := (bne_f (or_f2 h1)); have q2_ := (bne_f h2); first | omega | first | decide | omega | (simp only [w64_eq]; omega) | (simp <;> omega))) rfl (by kernel_rfl) (by kernel_rfl) ?_
          generalize hr8 : skywaykeep2_within more 0 5000 = r8
          refine TQ.run 7 [] [(16, .int .i64 r7.1), (17, .int .i64 r7.2), (55, .agg #[.int .i64 g_.At.X, .int .i64 g_.At.Y, .int .i64 g_.Size, .int .i64 g_.NX, .int .i64 g_.NY, .slice A_g__Heights g_.Heights.length c_g__Heights]), (56, FilterTrack.v f), (57, .int .i64 r5), (61, .int .i64 (w64 (r6 + r8)))] rfl ⟨by kernel_rfl, by kernel_rfl⟩ ?_
          refine TQ.call (some 62) [(16, .int .i64 r7.1), (17, .int .i64 r7.2), (62, .tuple #[.int .i64 ((terrain_Warn g_ f r5 1 10 (w64 (r6 + r8))).1), .int .i64 ((terrain_Warn g_ f r5 1 10 (w64 (r6 + r8))).2)])] (fun w hM => terrain_Warn_w g_ A_g__Heights c_g__Heights f r5 1 10 (w64 (r6 + r8)) w (h_g__Heights.sat hM) hc_g__Heights) rfl (by kernel_rfl) (by kernel_rfl) ?_
          generalize hr9 : terrain_Warn g_ f r5 1 10 (w64 (r6 + r8)) = r9
          refine TQ.run 13 [] [(16, .int .i64 r7.1), (17, .int .i64 r7.2), (18, .int .i64 r9.1), (19, .int .i64 r9.2)] rfl ⟨by kernel_rfl, by kernel_rfl⟩ ?_
          refine TQ.next rfl ?_
          refine TC.seq ?_
          refine TC.seq ?_
          refine TC.region ?_
          refine TL.run 2 [] [(16, .int .i64 r7.1), (18, .int .i64 r9.1), (19, .int .i64 r9.2), (66, .bool (r7.2 == 0))] rfl ⟨by kernel_rfl, by kernel_rfl⟩ ?_
          refine TL.next rfl ?_
          refine TC.cond (r7.2 == 0) rfl (by kernel_rfl) (fun h3 => ?_) (fun h3 => ?_)
          · refine TC.seq ?_
            refine TC.region ?_
            refine TL.run 3 [] [(16, .int .i64 r7.1), (18, .int .i64 r9.1), (69, .bool (r9.2 == 0))] rfl ⟨by kernel_rfl, by kernel_rfl⟩ ?_
            refine TL.join 69 (r9.2 == 0) 7 [] [] (fun β => [(73, .bool (β && (decide (r9.1 ≤ r7.1))))]) (by kernel_rfl) rfl ⟨by kernel_rfl, by kernel_rfl⟩ ⟨by kernel_rfl, by kernel_rfl⟩ ?_
            refine TL.run 8 [] [(10, .bool ((r9.2 == 0) && (decide (r9.1 ≤ r7.1))))] rfl ⟨by kernel_rfl, by kernel_rfl⟩ ?_
            refine TL.next rfl ?_
            refine TC.ret ?_
            refine TE.ret_then ?_
            have e : skywaykeep2_TerrainSooner g_ f seconds clearance more = ((r9.2 == 0) && (decide (r9.1 ≤ r7.1))) := by subst hr1 hr2 hr3 hr4 hr5 hr6 hr7 hr8 hr9; unfold skywaykeep2_TerrainSooner; exact cond_f h1 (cond_f h2 (cond_t h3 (rfl)))
            exact TE.ret [] (.bool ((r9.2 == 0) && (decide (r9.1 ≤ r7.1)))) ⟨by kernel_rfl, by kernel_rfl⟩ (by rw [e]; first | done | kernel_rfl)
          · refine TC.skip ?_
            refine TE.next ?_
            refine TC.seq ?_
            refine TC.region ?_
            refine TL.run 3 [] [(10, .bool (r7.1 == 0))] rfl ⟨by kernel_rfl, by kernel_rfl⟩ ?_
            refine TL.next rfl ?_
            refine TC.ret ?_
            have e : skywaykeep2_TerrainSooner g_ f seconds clearance more = (r7.1 == 0) := by subst hr1 hr2 hr3 hr4 hr5 hr6 hr7 hr8 hr9; unfold skywaykeep2_TerrainSooner; exact cond_f h1 (cond_f h2 (cond_f h3 (rfl)))
            exact TE.ret [] (.bool (r7.1 == 0)) ⟨by kernel_rfl, by kernel_rfl⟩ (by rw [e]; first | done | kernel_rfl)

end Go.Sky
