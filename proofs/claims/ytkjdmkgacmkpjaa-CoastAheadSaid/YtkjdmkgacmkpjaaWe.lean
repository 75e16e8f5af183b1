/- Functions of the program, each with the Lean function that it computes. Conditions: none. -/
import Derived.Test.YtkjdmkgacmkpjaaWb
namespace Go.Sky
open Go Go.Eng Go.Proofs
def coast_Ahead_L1 (f : FilterTrack) (accel : Int) : Nat → Nat → (List FilterTrack) → (List FilterTrack)
  | 0, _, out => out
  | m + 1, k, out => let r2 := filter_Predict f (w64 (f.Track.Time + (1 + (k : Int)))) accel
    cond (r2.2 != 0) (
      out) (
      coast_Ahead_L1 f accel m (k + 1) (out ++ ([r2.1])))
def coast_Ahead_L2 (f : FilterTrack) (accel : Int) : Nat → Nat → (List FilterTrack) → (List FilterTrack)
  | 0, _, out_3 => out_3
  | m + 1, k_2, out_3 => let r3 := filter_Predict f (w64 (f.Track.Time + (1 + (k_2 : Int)))) accel
    cond (r3.2 != 0) (
      out_3) (
      coast_Ahead_L2 f accel m (k_2 + 1) (out_3 ++ ([r3.1])))
def coast_Ahead (f : FilterTrack) (seconds : Int) (accel : Int) : List FilterTrack × Int :=
  let r1 := filter_Check f
  cond (r1 != 0) (
    ([], r1)) (
    cond ((decide (seconds < 0)) || (decide (seconds > 256))) (
      ([], 4)) (
      cond (decide (seconds > 0)) (
        cond (decide (accel < 0)) (
          ([], 4)) (
          cond (decide (accel > 20)) (
            ([], 4)) (
            bindv (coast_Ahead_L1 f accel seconds.toNat 0 ([] : List FilterTrack)) (fun out_2 =>
              (out_2, 0))))) (
        bindv (coast_Ahead_L2 f accel seconds.toNat 0 ([] : List FilterTrack)) (fun out_4 =>
          (out_4, 0)))))

set_option maxRecDepth 100000 in
theorem coast_Ahead_w (f : FilterTrack) (seconds : Int) (accel : Int) (w : World) : Calls Try.prog 15 #[FilterTrack.v f, .int .i64 seconds, .int .i64 accel] w (RetM (Γ := Option Addr × Nat) (cx w) (fun g => .tuple #[.slice g.1 (coast_Ahead f seconds accel).1.length g.2, .int .i64 ((coast_Ahead f seconds accel).2)]) (fun g => [.inr (Own g.1 g.2 29 20 ((coast_Ahead f seconds accel).1.map FilterTrack.c))])) := by
  refine calls_intro (vs := [FilterTrack.v f, .int .i64 seconds, .int .i64 accel]) (w := w) Try.func15 rfl Try.ntmps15 rfl ?_
  refine TC.weak [(0, FilterTrack.v f), (1, .int .i64 seconds), (2, .int .i64 accel)] (by kernel_rfl) ?_
  refine TC.seq ?_
  refine TC.region ?_
  refine TL.write 0 (fun b1 => [(1, .int .i64 seconds), (2, .int .i64 accel), (3, .pointer (some ⟨b1, 0, none⟩))]) (fun b1 => [.inl (b1, .cells (FilterTrack.c f) 29 (0, 0))]) (fun b1 => ⟨by kernel_rfl, by kernel_rfl⟩) (fun b1 => ?_)
  refine TL.run 3 [] [(1, .int .i64 seconds), (2, .int .i64 accel), (3, .pointer (some ⟨b1, 0, none⟩))] rfl ⟨by kernel_rfl, by kernel_rfl⟩ ?_
  refine TL.next rfl ?_
  refine TC.seq ?_
  refine TC.seq ?_
  refine TC.region ?_
  refine TL.run 1 [0] [(1, .int .i64 seconds), (2, .int .i64 accel), (3, .pointer (some ⟨b1, 0, none⟩)), (13, FilterTrack.v f)] rfl ⟨by kernel_rfl, by kernel_rfl⟩ ?_
  refine TL.call (some 14) [(1, .int .i64 seconds), (2, .int .i64 accel), (3, .pointer (some ⟨b1, 0, none⟩)), (14, .int .i64 (filter_Check f))] (fun w _ => filter_Check_w f w) (by kernel_rfl) (by kernel_rfl) ?_
  generalize hr1 : filter_Check f = r1
  refine TL.run 3 [] [(1, .int .i64 seconds), (2, .int .i64 accel), (3, .pointer (some ⟨b1, 0, none⟩)), (8, .int .i64 r1)] rfl ⟨by kernel_rfl, by kernel_rfl⟩ ?_
  refine TL.next rfl ?_
  refine TC.seq ?_
  refine TC.region ?_
  refine TL.run 2 [] [(1, .int .i64 seconds), (2, .int .i64 accel), (3, .pointer (some ⟨b1, 0, none⟩)), (8, .int .i64 r1), (16, .bool (r1 != 0))] rfl ⟨by kernel_rfl, by kernel_rfl⟩ ?_
  refine TL.next rfl ?_
  refine TC.cond (r1 != 0) rfl (by kernel_rfl) (fun h1 => ?_) (fun h1 => ?_)
  · refine TC.seq ?_
    refine TC.region ?_
    refine TL.run 3 [] [(6, .slice none 0 0), (7, .int .i64 r1)] rfl ⟨by kernel_rfl, by kernel_rfl⟩ ?_
    refine TL.next rfl ?_
    refine TC.ret ?_
    refine TE.ret_then ?_
    have e : coast_Ahead f seconds accel = ([], r1) := by subst hr1; unfold coast_Ahead; exact cond_t h1 (rfl)
    refine TE.conv [.inr (Own none 0 29 20 (([] : List FilterTrack).map FilterTrack.c)), .inl (b1, .cells (FilterTrack.c f) 29 (0, 0))] (fun _ hM => hM.emptyrow none 29 20) ?_
    rw [e]
    exact TE.retM (.inl rfl) (none, 0) [] (.tuple #[.slice none 0 0, .int .i64 r1]) ⟨by kernel_rfl, by kernel_rfl⟩ rfl (fun _ hM => hM.sub (.cons_cons _ (.cons _ (.slnil))))
  · refine TC.skip ?_
    refine TE.next ?_
    refine TC.seq ?_
    refine TC.seq ?_
    refine TC.region ?_
    refine TL.run 3 [] [(1, .int .i64 seconds), (2, .int .i64 accel), (3, .pointer (some ⟨b1, 0, none⟩)), (20, .bool (decide (seconds < 0)))] rfl ⟨by kernel_rfl, by kernel_rfl⟩ ?_
    refine TL.join 20 (decide (seconds < 0)) 6 [] [] (fun β => [(1, .int .i64 seconds), (2, .int .i64 accel), (3, .pointer (some ⟨b1, 0, none⟩)), (23, .bool (β || (decide (seconds > 256))))]) (by kernel_rfl) rfl ⟨by kernel_rfl, by kernel_rfl⟩ ⟨by kernel_rfl, by kernel_rfl⟩ ?_
    refine TL.run 7 [] [(1, .int .i64 seconds), (2, .int .i64 accel), (3, .pointer (some ⟨b1, 0, none⟩)), (24, .bool ((decide (seconds < 0)) || (decide (seconds > 256))))] rfl ⟨by kernel_rfl, by kernel_rfl⟩ ?_
    refine TL.split 24 ((decide (seconds < 0)) || (decide (seconds > 256))) (by kernel_rfl) (fun h2 => ?_) (fun h2 => ?_)
    · refine TL.run 18 [] [(1, .int .i64 seconds), (2, .int .i64 accel), (3, .pointer (some ⟨b1, 0, none⟩)), (35, .bool true)] rfl ⟨by kernel_rfl, by kernel_rfl⟩ ?_
      refine TL.next rfl ?_
      refine TC.condT rfl (by kernel_rfl) ?_
      refine TC.seq ?_
      refine TC.region ?_
      refine TL.run 2 [] [(6, .slice none 0 0), (7, .int .i64 4)] rfl ⟨by kernel_rfl, by kernel_rfl⟩ ?_
      refine TL.next rfl ?_
      refine TC.ret ?_
      refine TE.ret_then ?_
      have e : coast_Ahead f seconds accel = ([], 4) := by subst hr1; unfold coast_Ahead; exact cond_f h1 (cond_t h2 (rfl))
      refine TE.conv [.inr (Own none 0 29 20 (([] : List FilterTrack).map FilterTrack.c)), .inl (b1, .cells (FilterTrack.c f) 29 (0, 0))] (fun _ hM => hM.emptyrow none 29 20) ?_
      rw [e]
      exact TE.retM (.inl rfl) (none, 0) [] (.tuple #[.slice none 0 0, .int .i64 4]) ⟨by kernel_rfl, by kernel_rfl⟩ rfl (fun _ hM => hM.sub (.cons_cons _ (.cons _ (.slnil))))
    · refine TL.run 10 [] [(1, .int .i64 seconds), (2, .int .i64 accel), (3, .pointer (some ⟨b1, 0, none⟩)), (24, .bool false), (27, .bool (decide (seconds > 0)))] rfl ⟨by kernel_rfl, by kernel_rfl⟩ ?_
      refine TL.split 27 (decide (seconds > 0)) (by kernel_rfl) (fun h3 => ?_) (fun h3 => ?_)
      · refine TL.run 13 [] [(1, .int .i64 seconds), (2, .int .i64 accel), (3, .pointer (some ⟨b1, 0, none⟩)), (24, .bool false), (27, .bool true), (30, .bool (decide (accel < 0)))] rfl ⟨by kernel_rfl, by kernel_rfl⟩ ?_
        refine TL.split 30 (decide (accel < 0)) (by kernel_rfl) (fun h4 => ?_) (fun h4 => ?_)
        · refine TL.run 18 [] [(1, .int .i64 seconds), (2, .int .i64 accel), (3, .pointer (some ⟨b1, 0, none⟩)), (35, .bool true)] rfl ⟨by kernel_rfl, by kernel_rfl⟩ ?_
          refine TL.next rfl ?_
          refine TC.condT rfl (by kernel_rfl) ?_
          refine TC.seq ?_
          refine TC.region ?_
          refine TL.run 2 [] [(6, .slice none 0 0), (7, .int .i64 4)] rfl ⟨by kernel_rfl, by kernel_rfl⟩ ?_
          refine TL.next rfl ?_
          refine TC.ret ?_
          refine TE.ret_then ?_
          have e : coast_Ahead f seconds accel = ([], 4) := by subst hr1; unfold coast_Ahead; exact cond_f h1 (cond_f h2 (cond_t h3 (cond_t h4 (rfl))))
          refine TE.conv [.inr (Own none 0 29 20 (([] : List FilterTrack).map FilterTrack.c)), .inl (b1, .cells (FilterTrack.c f) 29 (0, 0))] (fun _ hM => hM.emptyrow none 29 20) ?_
          rw [e]
          exact TE.retM (.inl rfl) (none, 0) [] (.tuple #[.slice none 0 0, .int .i64 4]) ⟨by kernel_rfl, by kernel_rfl⟩ rfl (fun _ hM => hM.sub (.cons_cons _ (.cons _ (.slnil))))
        · refine TL.run 18 [] [(1, .int .i64 seconds), (2, .int .i64 accel), (3, .pointer (some ⟨b1, 0, none⟩)), (35, .bool (decide (accel > 20)))] rfl ⟨by kernel_rfl, by kernel_rfl⟩ ?_
          refine TL.next rfl ?_
          refine TC.cond (decide (accel > 20)) rfl (by kernel_rfl) (fun h5 => ?_) (fun h5 => ?_)
          · refine TC.seq ?_
            refine TC.region ?_
            refine TL.run 2 [] [(6, .slice none 0 0), (7, .int .i64 4)] rfl ⟨by kernel_rfl, by kernel_rfl⟩ ?_
            refine TL.next rfl ?_
            refine TC.ret ?_
            refine TE.ret_then ?_
            have e : coast_Ahead f seconds accel = ([], 4) := by subst hr1; unfold coast_Ahead; exact cond_f h1 (cond_f h2 (cond_t h3 (cond_f h4 (cond_t h5 (rfl)))))
            refine TE.conv [.inr (Own none 0 29 20 (([] : List FilterTrack).map FilterTrack.c)), .inl (b1, .cells (FilterTrack.c f) 29 (0, 0))] (fun _ hM => hM.emptyrow none 29 20) ?_
            rw [e]
            exact TE.retM (.inl rfl) (none, 0) [] (.tuple #[.slice none 0 0, .int .i64 4]) ⟨by kernel_rfl, by kernel_rfl⟩ rfl (fun _ hM => hM.sub (.cons_cons _ (.cons _ (.slnil))))
          · refine TC.skip ?_
            refine TE.next ?_
            refine TC.seq ?_
            refine TC.region ?_
            refine TL.run 1 [] [(1, .int .i64 seconds), (2, .int .i64 accel), (3, .pointer (some ⟨b1, 0, none⟩)), (9, .slice none 0 0)] rfl ⟨by kernel_rfl, by kernel_rfl⟩ ?_
            refine TL.next rfl ?_
            refine TC.seq ?_
            refine TC.seq ?_
            refine TC.region ?_
            refine TL.run 1 [] [(1, .int .i64 seconds), (2, .int .i64 accel), (3, .pointer (some ⟨b1, 0, none⟩)), (9, .slice none 0 0), (10, .int .i64 1)] rfl ⟨by kernel_rfl, by kernel_rfl⟩ ?_
            refine TL.next rfl ?_
            refine TC.conv [.inr (Own none 0 29 20 (([] : List FilterTrack).map FilterTrack.c)), .inl (b1, .cells (FilterTrack.c f) 29 (0, 0))] (fun _ hM => hM.emptyrow none 29 20) ?_
            refine TC.weak [(1, .int .i64 seconds), (2, .int .i64 accel), (3, .pointer (some ⟨b1, 0, none⟩)), (9, .slice none (([] : List FilterTrack).length) 0), (10, .int .i64 1)] (by kernel_rfl) ?_
            obtain ⟨R6, hR⟩ : ∃ R, R = coast_Ahead_L1 f accel seconds.toNat 0 ([] : List FilterTrack) := ⟨_, rfl⟩
            refine TC.cut (S := (List FilterTrack) × (Option Addr) × Nat) (fun (out_2, A_out_2, c_out_2) => [(9, .slice A_out_2 out_2.length c_out_2)]) (fun (out_2, A_out_2, c_out_2) => [.inr (Own A_out_2 c_out_2 29 20 (out_2.map FilterTrack.c))]) (fun (out_2, A_out_2, c_out_2) => R6 = out_2 ∧ out_2.length ≤ seconds.toNat) ?_ ?_
            · refine TC.block ?_
              refine TC.rw 10 (.int .i64 1) (.int .i64 (1 + ((0 : Nat) : Int))) (by kernel_rfl) (int_eq (by have q0_ := (bne_f h1); have q1_ := (dec_f (or_f1 h2)); have q2_ := (dec_f (or_f2 h2)); have q3_ := (dec_t h3); have q4_ := (dec_f h4); have q5_ := (dec_f h5); first | omega | (rw [w64_id (by omega)]; omega) | (simp only [w64_eq]; omega))) ?_
              refine TC.weak [(1, .int .i64 seconds), (2, .int .i64 accel), (3, .pointer (some ⟨b1, 0, none⟩)), (9, .slice none (([] : List FilterTrack).length) 0), (10, .int .i64 (1 + ((0 : Nat) : Int)))] (by kernel_rfl) ?_
              refine TC.loop (X := Nat × (List FilterTrack) × (Option Addr) × Nat) (fun (k, out, A_out, c_out) => [(1, .int .i64 seconds), (2, .int .i64 accel), (3, .pointer (some ⟨b1, 0, none⟩)), (9, .slice A_out out.length c_out), (10, .int .i64 (1 + (k : Int)))]) (fun (k, out, A_out, c_out) => [.inr (Own A_out c_out 29 20 (out.map FilterTrack.c)), .inl (b1, .cells (FilterTrack.c f) 29 (0, 0))]) (fun (k, out, A_out, c_out) => seconds.toNat - k) (fun (k, out, A_out, c_out) => k ≤ seconds.toNat ∧ R6 = coast_Ahead_L1 f accel (seconds.toNat - k) k out ∧ out.length ≤ k) ?_ (0, ([] : List FilterTrack), none, 0) ⟨Nat.zero_le _, hR, (by first | omega | (simp; omega) | simp)⟩
              rintro ⟨k, out, A_out, c_out⟩ ⟨hk, hI, hl_out⟩
              refine TC.seq ?_
              refine TC.seq ?_
              refine TC.region ?_
              refine TL.run 3 [] [(1, .int .i64 seconds), (2, .int .i64 accel), (3, .pointer (some ⟨b1, 0, none⟩)), (9, .slice A_out out.length c_out), (10, .int .i64 (1 + (k : Int))), (38, .bool (decide ((1 + (k : Int)) ≤ seconds)))] rfl ⟨by kernel_rfl, by kernel_rfl⟩ ?_
              refine TL.next rfl ?_
              refine TC.cond (decide ((1 + (k : Int)) ≤ seconds)) rfl (by kernel_rfl) (fun h6 => ?_) (fun h6 => ?_)
              · have hlt : k < seconds.toNat := by have q0_ := (bne_f h1); have q1_ := (dec_f (or_f1 h2)); have q2_ := (dec_f (or_f2 h2)); have q3_ := (dec_t h3); have q4_ := (dec_f h4); have q5_ := (dec_f h5); have p0_ := (dec_t h6); first | omega | (simp only [w64_eq] at *; omega)
                have hd : seconds.toNat - k = (seconds.toNat - (k + 1)) + 1 := by omega
                refine TC.skip ?_
                refine TE.next ?_
                refine TC.seq ?_
                refine TC.block ?_
                refine TC.seq ?_
                refine TC.region ?_
                refine TL.run 7 [1, 1] [(1, .int .i64 seconds), (2, .int .i64 accel), (3, .pointer (some ⟨b1, 0, none⟩)), (9, .slice A_out out.length c_out), (10, .int .i64 (1 + (k : Int))), (42, FilterTrack.v f), (47, .int .i64 (w64 (f.Track.Time + (1 + (k : Int))))), (48, .int .i64 accel)] rfl ⟨by kernel_rfl, by kernel_rfl⟩ ?_
                refine TL.call (some 49) [(1, .int .i64 seconds), (2, .int .i64 accel), (3, .pointer (some ⟨b1, 0, none⟩)), (9, .slice A_out out.length c_out), (10, .int .i64 (1 + (k : Int))), (49, .tuple #[FilterTrack.v ((filter_Predict f (w64 (f.Track.Time + (1 + (k : Int)))) accel).1), .int .i64 ((filter_Predict f (w64 (f.Track.Time + (1 + (k : Int)))) accel).2)])] (fun w _ => filter_Predict_w f (w64 (f.Track.Time + (1 + (k : Int)))) accel w) (by kernel_rfl) (by kernel_rfl) ?_
                generalize hr2 : filter_Predict f (w64 (f.Track.Time + (1 + (k : Int)))) accel = r2
                refine TL.run 11 [] [(1, .int .i64 seconds), (2, .int .i64 accel), (3, .pointer (some ⟨b1, 0, none⟩)), (9, .slice A_out out.length c_out), (10, .int .i64 (1 + (k : Int))), (50, FilterTrack.v r2.1), (51, .int .i64 r2.2)] rfl ⟨by kernel_rfl, by kernel_rfl⟩ ?_
                refine TL.write 0 (fun b2 => [(1, .int .i64 seconds), (2, .int .i64 accel), (3, .pointer (some ⟨b1, 0, none⟩)), (9, .slice A_out out.length c_out), (10, .int .i64 (1 + (k : Int))), (11, .pointer (some ⟨b2, 0, none⟩)), (50, FilterTrack.v r2.1), (51, .int .i64 r2.2)]) (fun b2 => [.inl (b2, .cells (FilterTrack.c FilterTrack.zero) 29 (0, 0)), .inr (Own A_out c_out 29 20 (out.map FilterTrack.c)), .inl (b1, .cells (FilterTrack.c f) 29 (0, 0))]) (fun b2 => ⟨by kernel_rfl, by kernel_rfl⟩) (fun b2 => ?_)
                refine TL.write 0 (fun _ => [(1, .int .i64 seconds), (2, .int .i64 accel), (3, .pointer (some ⟨b1, 0, none⟩)), (9, .slice A_out out.length c_out), (10, .int .i64 (1 + (k : Int))), (11, .pointer (some ⟨b2, 0, none⟩)), (51, .int .i64 r2.2)]) (fun _ => [.inl (b2, .cells (FilterTrack.c r2.1) 29 (0, 0)), .inr (Own A_out c_out 29 20 (out.map FilterTrack.c)), .inl (b1, .cells (FilterTrack.c f) 29 (0, 0))]) (fun _ => ⟨by kernel_rfl, by kernel_rfl⟩) (fun _ => ?_)
                refine TL.run 14 [] [(1, .int .i64 seconds), (2, .int .i64 accel), (3, .pointer (some ⟨b1, 0, none⟩)), (9, .slice A_out out.length c_out), (10, .int .i64 (1 + (k : Int))), (11, .pointer (some ⟨b2, 0, none⟩)), (12, .int .i64 r2.2)] rfl ⟨by kernel_rfl, by kernel_rfl⟩ ?_
                refine TL.next rfl ?_
                refine TC.seq ?_
                refine TC.seq ?_
                refine TC.region ?_
                refine TL.run 2 [] [(1, .int .i64 seconds), (2, .int .i64 accel), (3, .pointer (some ⟨b1, 0, none⟩)), (9, .slice A_out out.length c_out), (10, .int .i64 (1 + (k : Int))), (11, .pointer (some ⟨b2, 0, none⟩)), (53, .bool (r2.2 != 0))] rfl ⟨by kernel_rfl, by kernel_rfl⟩ ?_
                refine TL.next rfl ?_
                refine TC.cond (r2.2 != 0) rfl (by kernel_rfl) (fun h7 => ?_) (fun h7 => ?_)
                · refine TC.exit ?_
                  refine TE.exit_then (TE.exit_other rfl (TE.exit_then (TE.exit_then (TE.exit_same ?_))))
                  exact TE.cut (out, A_out, c_out) (⟨hI.trans (by subst hr1 hr2; rw [hd]; exact cond_t h7 (rfl)), (by have q0_ := (bne_f h1); have q1_ := (dec_f (or_f1 h2)); have q2_ := (dec_f (or_f2 h2)); have q3_ := (dec_t h3); have q4_ := (dec_f h4); have q5_ := (dec_f h5); have q6_ := (dec_t h6); have q7_ := (bne_t h7); first | omega | (simp <;> omega) | (simp at * <;> omega) | (simp only [w64_eq] at *; omega) | (simp only [List.length_append, List.length_cons, List.length_nil]; omega))⟩) (by kernel_rfl) (.cons _ (.cons_cons _ (.cons _ (.slnil))))
                · refine TC.skip ?_
                  refine TE.next ?_
                  refine TC.region ?_
                  refine TL.run 2 [0] [(1, .int .i64 seconds), (2, .int .i64 accel), (3, .pointer (some ⟨b1, 0, none⟩)), (10, .int .i64 (1 + (k : Int))), (54, .slice A_out out.length c_out), (55, FilterTrack.v r2.1)] rfl ⟨by kernel_rfl, by kernel_rfl⟩ ?_
                  refine TL.write 0 (fun b3 => [(1, .int .i64 seconds), (2, .int .i64 accel), (3, .pointer (some ⟨b1, 0, none⟩)), (10, .int .i64 (1 + (k : Int))), (54, .slice A_out out.length c_out), (56, .slice (some ⟨b3, 0, none⟩) 1 1)]) (fun b3 => [.inl (b3, .cells (FilterTrack.c r2.1) 29 (0, 0)), .inl (b2, .cells (FilterTrack.c r2.1) 29 (0, 0)), .inr (Own A_out c_out 29 20 (out.map FilterTrack.c)), .inl (b1, .cells (FilterTrack.c f) 29 (0, 0))]) (fun b3 => ⟨by kernel_rfl, by kernel_rfl⟩) (fun b3 => ?_)
                  refine TL.opM (Γ := Option Addr × Nat) (sV (Builtin.append_ #[30, 30] 30 #[.slice A_out out.length c_out, .slice (some ⟨b3, 0, none⟩) 1 1])) (some 57) (fun g => .slice g.1 (out ++ ([r2.1])).length g.2) (fun g => [.inl (b3, .cells (FilterTrack.c r2.1) 29 (0, 0)), .inl (b2, .cells (FilterTrack.c r2.1) 29 (0, 0)), .inr (Own g.1 g.2 29 20 ((out ++ ([r2.1])).map FilterTrack.c)), .inl (b1, .cells (FilterTrack.c f) 29 (0, 0))]) (fun g => [(1, .int .i64 seconds), (2, .int .i64 accel), (3, .pointer (some ⟨b1, 0, none⟩)), (10, .int .i64 (1 + (k : Int))), (57, .slice g.1 ((out ++ ([r2.1])).length) g.2)]) (app_at (bytes := 160) 30 2 ([r2.1]) (by kernel_rfl) rfl rfl FilterTrack.one rfl (fun w hM => (Rd.lit hM 0 _ rfl (by kernel_rfl) (by kernel_rfl) (by kernel_rfl))) rfl (by have q0_ := (bne_f h1); have q1_ := (dec_f (or_f1 h2)); have q2_ := (dec_f (or_f2 h2)); have q3_ := (dec_t h3); have q4_ := (dec_f h4); have q5_ := (dec_f h5); have q6_ := (dec_t h6); have q7_ := (bne_f h7); first | omega | (simp <;> omega) | (simp at * <;> omega))) (by kernel_rfl) (fun g => by kernel_rfl) ?_
                  rintro ⟨A, c⟩
                  refine TL.run 5 [] [(1, .int .i64 seconds), (2, .int .i64 accel), (3, .pointer (some ⟨b1, 0, none⟩)), (9, .slice A ((out ++ ([r2.1])).length) c), (10, .int .i64 (1 + (k : Int)))] rfl ⟨by kernel_rfl, by kernel_rfl⟩ ?_
                  refine TL.done rfl ?_
                  refine TE.normal_block ?_
                  refine TE.next ?_
                  refine TC.region ?_
                  refine TL.run 3 [] [(1, .int .i64 seconds), (2, .int .i64 accel), (3, .pointer (some ⟨b1, 0, none⟩)), (9, .slice A ((out ++ ([r2.1])).length) c), (10, .int .i64 (w64 ((1 + (k : Int)) + 1)))] rfl ⟨by kernel_rfl, by kernel_rfl⟩ ?_
                  refine TL.done rfl ?_
                  refine TE.rw 10 (.int .i64 (w64 ((1 + (k : Int)) + 1))) (.int .i64 (1 + ((k + 1 : Nat) : Int))) (by kernel_rfl) (int_eq (by have q0_ := (bne_f h1); have q1_ := (dec_f (or_f1 h2)); have q2_ := (dec_f (or_f2 h2)); have q3_ := (dec_t h3); have q4_ := (dec_f h4); have q5_ := (dec_f h5); have q6_ := (dec_t h6); have q7_ := (bne_f h7); first | omega | (rw [w64_id (by omega)]; omega) | (simp only [w64_eq] at *; omega))) ?_
                  exact TE.again (x := (k, out, A_out, c_out)) (k + 1, (out ++ ([r2.1])), A, c) ⟨by omega, hI.trans (by subst hr1 hr2; rw [hd]; exact cond_f h7 (rfl)), (by have q0_ := (bne_f h1); have q1_ := (dec_f (or_f1 h2)); have q2_ := (dec_f (or_f2 h2)); have q3_ := (dec_t h3); have q4_ := (dec_f h4); have q5_ := (dec_f h5); have q6_ := (dec_t h6); have q7_ := (bne_f h7); first | omega | (simp <;> omega) | (simp at * <;> omega) | (simp only [w64_eq] at *; omega) | (simp only [List.length_append, List.length_cons, List.length_nil]; omega))⟩ (by show seconds.toNat - (k + 1) < seconds.toNat - k; omega) (by kernel_rfl) (.cons _ (.cons _ (.cons_cons _ (.cons_cons _ (.slnil)))))
              · have hd : seconds.toNat - k = 0 := by have q0_ := (bne_f h1); have q1_ := (dec_f (or_f1 h2)); have q2_ := (dec_f (or_f2 h2)); have q3_ := (dec_t h3); have q4_ := (dec_f h4); have q5_ := (dec_f h5); have p0_ := (dec_f h6); first | omega | (simp only [w64_eq] at *; omega)
                refine TC.exit ?_
                refine TE.exit_then (TE.exit_then (TE.exit_same ?_))
                exact TE.cut (out, A_out, c_out) (⟨hI.trans (by subst hr1; rw [hd]; exact rfl), (by have q0_ := (bne_f h1); have q1_ := (dec_f (or_f1 h2)); have q2_ := (dec_f (or_f2 h2)); have q3_ := (dec_t h3); have q4_ := (dec_f h4); have q5_ := (dec_f h5); first | omega | (simp <;> omega) | (simp at * <;> omega) | (simp only [w64_eq] at *; omega) | (simp only [List.length_append, List.length_cons, List.length_nil]; omega))⟩) (by kernel_rfl) (.cons_cons _ (.cons _ (.slnil)))
            · rintro ⟨out_2, A_out_2, c_out_2⟩ ⟨hJ, hl_out_2⟩
              refine TE.next ?_
              refine TC.seq ?_
              refine TC.region ?_
              refine TL.run 3 [] [(6, .slice A_out_2 out_2.length c_out_2), (7, .int .i64 0)] rfl ⟨by kernel_rfl, by kernel_rfl⟩ ?_
              refine TL.next rfl ?_
              refine TC.ret ?_
              have e : coast_Ahead f seconds accel = (out_2, 0) := by subst hr1; unfold coast_Ahead; exact cond_f h1 (cond_f h2 (cond_t h3 (cond_f h4 (cond_f h5 (bindv_eq (hR.symm.trans hJ) (rfl))))))
              rw [e]
              exact TE.retM (.inl rfl) (A_out_2, c_out_2) [] (.tuple #[.slice A_out_2 out_2.length c_out_2, .int .i64 0]) ⟨by kernel_rfl, by kernel_rfl⟩ rfl (fun _ hM => hM.sub (.cons_cons _ (.slnil)))
      · refine TL.run 18 [] [(1, .int .i64 seconds), (2, .int .i64 accel), (3, .pointer (some ⟨b1, 0, none⟩)), (35, .bool false)] rfl ⟨by kernel_rfl, by kernel_rfl⟩ ?_
        refine TL.next rfl ?_
        refine TC.condF rfl (by kernel_rfl) ?_
        refine TC.skip ?_
        refine TE.next ?_
        refine TC.seq ?_
        refine TC.region ?_
        refine TL.run 1 [] [(1, .int .i64 seconds), (2, .int .i64 accel), (3, .pointer (some ⟨b1, 0, none⟩)), (9, .slice none 0 0)] rfl ⟨by kernel_rfl, by kernel_rfl⟩ ?_
        refine TL.next rfl ?_
        refine TC.seq ?_
        refine TC.seq ?_
        refine TC.region ?_
        refine TL.run 1 [] [(1, .int .i64 seconds), (2, .int .i64 accel), (3, .pointer (some ⟨b1, 0, none⟩)), (9, .slice none 0 0), (10, .int .i64 1)] rfl ⟨by kernel_rfl, by kernel_rfl⟩ ?_
        refine TL.next rfl ?_
        refine TC.conv [.inr (Own none 0 29 20 (([] : List FilterTrack).map FilterTrack.c)), .inl (b1, .cells (FilterTrack.c f) 29 (0, 0))] (fun _ hM => hM.emptyrow none 29 20) ?_
        refine TC.weak [(1, .int .i64 seconds), (2, .int .i64 accel), (3, .pointer (some ⟨b1, 0, none⟩)), (9, .slice none (([] : List FilterTrack).length) 0), (10, .int .i64 1)] (by kernel_rfl) ?_
        obtain ⟨R8, hR_2⟩ : ∃ R, R = coast_Ahead_L2 f accel seconds.toNat 0 ([] : List FilterTrack) := ⟨_, rfl⟩
        refine TC.cut (S := (List FilterTrack) × (Option Addr) × Nat) (fun (out_4, A_out_4, c_out_4) => [(9, .slice A_out_4 out_4.length c_out_4)]) (fun (out_4, A_out_4, c_out_4) => [.inr (Own A_out_4 c_out_4 29 20 (out_4.map FilterTrack.c))]) (fun (out_4, A_out_4, c_out_4) => R8 = out_4 ∧ out_4.length ≤ seconds.toNat) ?_ ?_
        · refine TC.block ?_
          refine TC.rw 10 (.int .i64 1) (.int .i64 (1 + ((0 : Nat) : Int))) (by kernel_rfl) (int_eq (by have q0_ := (bne_f h1); have q1_ := (dec_f (or_f1 h2)); have q2_ := (dec_f (or_f2 h2)); have q3_ := (dec_f h3); first | omega | (rw [w64_id (by omega)]; omega) | (simp only [w64_eq]; omega))) ?_
          refine TC.weak [(1, .int .i64 seconds), (2, .int .i64 accel), (3, .pointer (some ⟨b1, 0, none⟩)), (9, .slice none (([] : List FilterTrack).length) 0), (10, .int .i64 (1 + ((0 : Nat) : Int)))] (by kernel_rfl) ?_
          refine TC.loop (X := Nat × (List FilterTrack) × (Option Addr) × Nat) (fun (k_2, out_3, A_out_3, c_out_3) => [(1, .int .i64 seconds), (2, .int .i64 accel), (3, .pointer (some ⟨b1, 0, none⟩)), (9, .slice A_out_3 out_3.length c_out_3), (10, .int .i64 (1 + (k_2 : Int)))]) (fun (k_2, out_3, A_out_3, c_out_3) => [.inr (Own A_out_3 c_out_3 29 20 (out_3.map FilterTrack.c)), .inl (b1, .cells (FilterTrack.c f) 29 (0, 0))]) (fun (k_2, out_3, A_out_3, c_out_3) => seconds.toNat - k_2) (fun (k_2, out_3, A_out_3, c_out_3) => k_2 ≤ seconds.toNat ∧ R8 = coast_Ahead_L2 f accel (seconds.toNat - k_2) k_2 out_3 ∧ out_3.length ≤ k_2) ?_ (0, ([] : List FilterTrack), none, 0) ⟨Nat.zero_le _, hR_2, (by first | omega | (simp; omega) | simp)⟩
          rintro ⟨k_2, out_3, A_out_3, c_out_3⟩ ⟨hk_2, hI_2, hl_out_3⟩
          refine TC.seq ?_
          refine TC.seq ?_
          refine TC.region ?_
          refine TL.run 3 [] [(1, .int .i64 seconds), (2, .int .i64 accel), (3, .pointer (some ⟨b1, 0, none⟩)), (9, .slice A_out_3 out_3.length c_out_3), (10, .int .i64 (1 + (k_2 : Int))), (38, .bool (decide ((1 + (k_2 : Int)) ≤ seconds)))] rfl ⟨by kernel_rfl, by kernel_rfl⟩ ?_
          refine TL.next rfl ?_
          refine TC.cond (decide ((1 + (k_2 : Int)) ≤ seconds)) rfl (by kernel_rfl) (fun h8 => ?_) (fun h8 => ?_)
          · have hlt_2 : k_2 < seconds.toNat := by have q0_ := (bne_f h1); have q1_ := (dec_f (or_f1 h2)); have q2_ := (dec_f (or_f2 h2)); have q3_ := (dec_f h3); have p0_ := (dec_t h8); first | omega | (simp only [w64_eq] at *; omega)
            have hd_2 : seconds.toNat - k_2 = (seconds.toNat - (k_2 + 1)) + 1 := by omega
            refine TC.skip ?_
            refine TE.next ?_
            refine TC.seq ?_
            refine TC.block ?_
            refine TC.seq ?_
            refine TC.region ?_
            refine TL.run 7 [1, 1] [(1, .int .i64 seconds), (2, .int .i64 accel), (3, .pointer (some ⟨b1, 0, none⟩)), (9, .slice A_out_3 out_3.length c_out_3), (10, .int .i64 (1 + (k_2 : Int))), (42, FilterTrack.v f), (47, .int .i64 (w64 (f.Track.Time + (1 + (k_2 : Int))))), (48, .int .i64 accel)] rfl ⟨by kernel_rfl, by kernel_rfl⟩ ?_
            refine TL.call (some 49) [(1, .int .i64 seconds), (2, .int .i64 accel), (3, .pointer (some ⟨b1, 0, none⟩)), (9, .slice A_out_3 out_3.length c_out_3), (10, .int .i64 (1 + (k_2 : Int))), (49, .tuple #[FilterTrack.v ((filter_Predict f (w64 (f.Track.Time + (1 + (k_2 : Int)))) accel).1), .int .i64 ((filter_Predict f (w64 (f.Track.Time + (1 + (k_2 : Int)))) accel).2)])] (fun w _ => filter_Predict_w f (w64 (f.Track.Time + (1 + (k_2 : Int)))) accel w) (by kernel_rfl) (by kernel_rfl) ?_
            generalize hr3 : filter_Predict f (w64 (f.Track.Time + (1 + (k_2 : Int)))) accel = r3
            refine TL.run 11 [] [(1, .int .i64 seconds), (2, .int .i64 accel), (3, .pointer (some ⟨b1, 0, none⟩)), (9, .slice A_out_3 out_3.length c_out_3), (10, .int .i64 (1 + (k_2 : Int))), (50, FilterTrack.v r3.1), (51, .int .i64 r3.2)] rfl ⟨by kernel_rfl, by kernel_rfl⟩ ?_
            refine TL.write 0 (fun b4 => [(1, .int .i64 seconds), (2, .int .i64 accel), (3, .pointer (some ⟨b1, 0, none⟩)), (9, .slice A_out_3 out_3.length c_out_3), (10, .int .i64 (1 + (k_2 : Int))), (11, .pointer (some ⟨b4, 0, none⟩)), (50, FilterTrack.v r3.1), (51, .int .i64 r3.2)]) (fun b4 => [.inl (b4, .cells (FilterTrack.c FilterTrack.zero) 29 (0, 0)), .inr (Own A_out_3 c_out_3 29 20 (out_3.map FilterTrack.c)), .inl (b1, .cells (FilterTrack.c f) 29 (0, 0))]) (fun b4 => ⟨by kernel_rfl, by kernel_rfl⟩) (fun b4 => ?_)
            refine TL.write 0 (fun _ => [(1, .int .i64 seconds), (2, .int .i64 accel), (3, .pointer (some ⟨b1, 0, none⟩)), (9, .slice A_out_3 out_3.length c_out_3), (10, .int .i64 (1 + (k_2 : Int))), (11, .pointer (some ⟨b4, 0, none⟩)), (51, .int .i64 r3.2)]) (fun _ => [.inl (b4, .cells (FilterTrack.c r3.1) 29 (0, 0)), .inr (Own A_out_3 c_out_3 29 20 (out_3.map FilterTrack.c)), .inl (b1, .cells (FilterTrack.c f) 29 (0, 0))]) (fun _ => ⟨by kernel_rfl, by kernel_rfl⟩) (fun _ => ?_)
            refine TL.run 14 [] [(1, .int .i64 seconds), (2, .int .i64 accel), (3, .pointer (some ⟨b1, 0, none⟩)), (9, .slice A_out_3 out_3.length c_out_3), (10, .int .i64 (1 + (k_2 : Int))), (11, .pointer (some ⟨b4, 0, none⟩)), (12, .int .i64 r3.2)] rfl ⟨by kernel_rfl, by kernel_rfl⟩ ?_
            refine TL.next rfl ?_
            refine TC.seq ?_
            refine TC.seq ?_
            refine TC.region ?_
            refine TL.run 2 [] [(1, .int .i64 seconds), (2, .int .i64 accel), (3, .pointer (some ⟨b1, 0, none⟩)), (9, .slice A_out_3 out_3.length c_out_3), (10, .int .i64 (1 + (k_2 : Int))), (11, .pointer (some ⟨b4, 0, none⟩)), (53, .bool (r3.2 != 0))] rfl ⟨by kernel_rfl, by kernel_rfl⟩ ?_
            refine TL.next rfl ?_
            refine TC.cond (r3.2 != 0) rfl (by kernel_rfl) (fun h9 => ?_) (fun h9 => ?_)
            · refine TC.exit ?_
              refine TE.exit_then (TE.exit_other rfl (TE.exit_then (TE.exit_then (TE.exit_same ?_))))
              exact TE.cut (out_3, A_out_3, c_out_3) (⟨hI_2.trans (by subst hr1 hr3; rw [hd_2]; exact cond_t h9 (rfl)), (by have q0_ := (bne_f h1); have q1_ := (dec_f (or_f1 h2)); have q2_ := (dec_f (or_f2 h2)); have q3_ := (dec_f h3); have q4_ := (dec_t h8); have q5_ := (bne_t h9); first | omega | (simp <;> omega) | (simp at * <;> omega) | (simp only [w64_eq] at *; omega) | (simp only [List.length_append, List.length_cons, List.length_nil]; omega))⟩) (by kernel_rfl) (.cons _ (.cons_cons _ (.cons _ (.slnil))))
            · refine TC.skip ?_
              refine TE.next ?_
              refine TC.region ?_
              refine TL.run 2 [0] [(1, .int .i64 seconds), (2, .int .i64 accel), (3, .pointer (some ⟨b1, 0, none⟩)), (10, .int .i64 (1 + (k_2 : Int))), (54, .slice A_out_3 out_3.length c_out_3), (55, FilterTrack.v r3.1)] rfl ⟨by kernel_rfl, by kernel_rfl⟩ ?_
              refine TL.write 0 (fun b5 => [(1, .int .i64 seconds), (2, .int .i64 accel), (3, .pointer (some ⟨b1, 0, none⟩)), (10, .int .i64 (1 + (k_2 : Int))), (54, .slice A_out_3 out_3.length c_out_3), (56, .slice (some ⟨b5, 0, none⟩) 1 1)]) (fun b5 => [.inl (b5, .cells (FilterTrack.c r3.1) 29 (0, 0)), .inl (b4, .cells (FilterTrack.c r3.1) 29 (0, 0)), .inr (Own A_out_3 c_out_3 29 20 (out_3.map FilterTrack.c)), .inl (b1, .cells (FilterTrack.c f) 29 (0, 0))]) (fun b5 => ⟨by kernel_rfl, by kernel_rfl⟩) (fun b5 => ?_)
              refine TL.opM (Γ := Option Addr × Nat) (sV (Builtin.append_ #[30, 30] 30 #[.slice A_out_3 out_3.length c_out_3, .slice (some ⟨b5, 0, none⟩) 1 1])) (some 57) (fun g => .slice g.1 (out_3 ++ ([r3.1])).length g.2) (fun g => [.inl (b5, .cells (FilterTrack.c r3.1) 29 (0, 0)), .inl (b4, .cells (FilterTrack.c r3.1) 29 (0, 0)), .inr (Own g.1 g.2 29 20 ((out_3 ++ ([r3.1])).map FilterTrack.c)), .inl (b1, .cells (FilterTrack.c f) 29 (0, 0))]) (fun g => [(1, .int .i64 seconds), (2, .int .i64 accel), (3, .pointer (some ⟨b1, 0, none⟩)), (10, .int .i64 (1 + (k_2 : Int))), (57, .slice g.1 ((out_3 ++ ([r3.1])).length) g.2)]) (app_at (bytes := 160) 30 2 ([r3.1]) (by kernel_rfl) rfl rfl FilterTrack.one rfl (fun w hM => (Rd.lit hM 0 _ rfl (by kernel_rfl) (by kernel_rfl) (by kernel_rfl))) rfl (by have q0_ := (bne_f h1); have q1_ := (dec_f (or_f1 h2)); have q2_ := (dec_f (or_f2 h2)); have q3_ := (dec_f h3); have q4_ := (dec_t h8); have q5_ := (bne_f h9); first | omega | (simp <;> omega) | (simp at * <;> omega))) (by kernel_rfl) (fun g => by kernel_rfl) ?_
              rintro ⟨A_2, c_2⟩
              refine TL.run 5 [] [(1, .int .i64 seconds), (2, .int .i64 accel), (3, .pointer (some ⟨b1, 0, none⟩)), (9, .slice A_2 ((out_3 ++ ([r3.1])).length) c_2), (10, .int .i64 (1 + (k_2 : Int)))] rfl ⟨by kernel_rfl, by kernel_rfl⟩ ?_
              refine TL.done rfl ?_
              refine TE.normal_block ?_
              refine TE.next ?_
              refine TC.region ?_
              refine TL.run 3 [] [(1, .int .i64 seconds), (2, .int .i64 accel), (3, .pointer (some ⟨b1, 0, none⟩)), (9, .slice A_2 ((out_3 ++ ([r3.1])).length) c_2), (10, .int .i64 (w64 ((1 + (k_2 : Int)) + 1)))] rfl ⟨by kernel_rfl, by kernel_rfl⟩ ?_
              refine TL.done rfl ?_
              refine TE.rw 10 (.int .i64 (w64 ((1 + (k_2 : Int)) + 1))) (.int .i64 (1 + ((k_2 + 1 : Nat) : Int))) (by kernel_rfl) (int_eq (by have q0_ := (bne_f h1); have q1_ := (dec_f (or_f1 h2)); have q2_ := (dec_f (or_f2 h2)); have q3_ := (dec_f h3); have q4_ := (dec_t h8); have q5_ := (bne_f h9); first | omega | (rw [w64_id (by omega)]; omega) | (simp only [w64_eq] at *; omega))) ?_
              exact TE.again (x := (k_2, out_3, A_out_3, c_out_3)) (k_2 + 1, (out_3 ++ ([r3.1])), A_2, c_2) ⟨by omega, hI_2.trans (by subst hr1 hr3; rw [hd_2]; exact cond_f h9 (rfl)), (by have q0_ := (bne_f h1); have q1_ := (dec_f (or_f1 h2)); have q2_ := (dec_f (or_f2 h2)); have q3_ := (dec_f h3); have q4_ := (dec_t h8); have q5_ := (bne_f h9); first | omega | (simp <;> omega) | (simp at * <;> omega) | (simp only [w64_eq] at *; omega) | (simp only [List.length_append, List.length_cons, List.length_nil]; omega))⟩ (by show seconds.toNat - (k_2 + 1) < seconds.toNat - k_2; omega) (by kernel_rfl) (.cons _ (.cons _ (.cons_cons _ (.cons_cons _ (.slnil)))))
          · have hd_2 : seconds.toNat - k_2 = 0 := by have q0_ := (bne_f h1); have q1_ := (dec_f (or_f1 h2)); have q2_ := (dec_f (or_f2 h2)); have q3_ := (dec_f h3); have p0_ := (dec_f h8); first | omega | (simp only [w64_eq] at *; omega)
            refine TC.exit ?_
            refine TE.exit_then (TE.exit_then (TE.exit_same ?_))
            exact TE.cut (out_3, A_out_3, c_out_3) (⟨hI_2.trans (by subst hr1; rw [hd_2]; exact rfl), (by have q0_ := (bne_f h1); have q1_ := (dec_f (or_f1 h2)); have q2_ := (dec_f (or_f2 h2)); have q3_ := (dec_f h3); first | omega | (simp <;> omega) | (simp at * <;> omega) | (simp only [w64_eq] at *; omega) | (simp only [List.length_append, List.length_cons, List.length_nil]; omega))⟩) (by kernel_rfl) (.cons_cons _ (.cons _ (.slnil)))
        · rintro ⟨out_4, A_out_4, c_out_4⟩ ⟨hJ_2, hl_out_4⟩
          refine TE.next ?_
          refine TC.seq ?_
          refine TC.region ?_
          refine TL.run 3 [] [(6, .slice A_out_4 out_4.length c_out_4), (7, .int .i64 0)] rfl ⟨by kernel_rfl, by kernel_rfl⟩ ?_
          refine TL.next rfl ?_
          refine TC.ret ?_
          have e : coast_Ahead f seconds accel = (out_4, 0) := by subst hr1; unfold coast_Ahead; exact cond_f h1 (cond_f h2 (cond_f h3 (bindv_eq (hR_2.symm.trans hJ_2) (rfl))))
          rw [e]
          exact TE.retM (.inl rfl) (A_out_4, c_out_4) [] (.tuple #[.slice A_out_4 out_4.length c_out_4, .int .i64 0]) ⟨by kernel_rfl, by kernel_rfl⟩ rfl (fun _ hM => hM.sub (.cons_cons _ (.slnil)))

def coast_Lost_L1 (f : FilterTrack) (radius : Int) (accel : Int) : Nat → Nat → ((Unit) ⊕ (Int × Int))
  | 0, _ => .inl ()
  | m + 1, k => let r2 := filter_Predict f (w64 (f.Track.Time + (k : Int))) accel
    cond (r2.2 != 0) (
      .inr (0, 8)) (
      cond (decide (r2.1.Track.Radius > radius)) (
        .inr ((k : Int), 0)) (
        coast_Lost_L1 f radius accel m (k + 1)))
def coast_Lost (f : FilterTrack) (radius : Int) (accel : Int) : Int × Int :=
  let r1 := filter_Check f
  cond (r1 != 0) (
    (0, r1)) (
    cond ((((decide (radius < 0)) || (decide (radius > 4000000))) || (decide (accel < 0))) || (decide (accel > 20))) (
      (0, 4)) (
      Sum.elim (fun _ =>
        (0, 8)) (fun r => r) (coast_Lost_L1 f radius accel ((601 : Int).toNat) 0)))

set_option maxRecDepth 100000 in
theorem coast_Lost_w (f : FilterTrack) (radius : Int) (accel : Int) (w : World) : Calls Try.prog 17 #[FilterTrack.v f, .int .i64 radius, .int .i64 accel] w (Ret w (.tuple #[.int .i64 ((coast_Lost f radius accel).1), .int .i64 ((coast_Lost f radius accel).2)])) := by
  refine calls_intro (vs := [FilterTrack.v f, .int .i64 radius, .int .i64 accel]) (w := w) Try.func17 rfl Try.ntmps17 rfl ?_
  refine TC.weak [(0, FilterTrack.v f), (1, .int .i64 radius), (2, .int .i64 accel)] (by kernel_rfl) ?_
  refine TC.seq ?_
  refine TC.region ?_
  refine TL.write 0 (fun b1 => [(1, .int .i64 radius), (2, .int .i64 accel), (3, .pointer (some ⟨b1, 0, none⟩))]) (fun b1 => [.inl (b1, .cells (FilterTrack.c f) 29 (0, 0))]) (fun b1 => ⟨by kernel_rfl, by kernel_rfl⟩) (fun b1 => ?_)
  refine TL.run 3 [] [(1, .int .i64 radius), (2, .int .i64 accel), (3, .pointer (some ⟨b1, 0, none⟩))] rfl ⟨by kernel_rfl, by kernel_rfl⟩ ?_
  refine TL.next rfl ?_
  refine TC.seq ?_
  refine TC.seq ?_
  refine TC.region ?_
  refine TL.run 1 [0] [(1, .int .i64 radius), (2, .int .i64 accel), (3, .pointer (some ⟨b1, 0, none⟩)), (12, FilterTrack.v f)] rfl ⟨by kernel_rfl, by kernel_rfl⟩ ?_
  refine TL.call (some 13) [(1, .int .i64 radius), (2, .int .i64 accel), (3, .pointer (some ⟨b1, 0, none⟩)), (13, .int .i64 (filter_Check f))] (fun w _ => filter_Check_w f w) (by kernel_rfl) (by kernel_rfl) ?_
  generalize hr1 : filter_Check f = r1
  refine TL.run 3 [] [(1, .int .i64 radius), (2, .int .i64 accel), (3, .pointer (some ⟨b1, 0, none⟩)), (8, .int .i64 r1)] rfl ⟨by kernel_rfl, by kernel_rfl⟩ ?_
  refine TL.next rfl ?_
  refine TC.seq ?_
  refine TC.region ?_
  refine TL.run 2 [] [(1, .int .i64 radius), (2, .int .i64 accel), (3, .pointer (some ⟨b1, 0, none⟩)), (8, .int .i64 r1), (15, .bool (r1 != 0))] rfl ⟨by kernel_rfl, by kernel_rfl⟩ ?_
  refine TL.next rfl ?_
  refine TC.cond (r1 != 0) rfl (by kernel_rfl) (fun h1 => ?_) (fun h1 => ?_)
  · refine TC.seq ?_
    refine TC.region ?_
    refine TL.run 3 [] [(6, .int .i64 0), (7, .int .i64 r1)] rfl ⟨by kernel_rfl, by kernel_rfl⟩ ?_
    refine TL.next rfl ?_
    refine TC.ret ?_
    refine TE.ret_then ?_
    have e : coast_Lost f radius accel = (0, r1) := by subst hr1; unfold coast_Lost; exact cond_t h1 (rfl)
    exact TE.ret [] (.tuple #[.int .i64 0, .int .i64 r1]) ⟨by kernel_rfl, by kernel_rfl⟩ (by rw [e]; first | done | kernel_rfl)
  · refine TC.skip ?_
    refine TE.next ?_
    refine TC.seq ?_
    refine TC.seq ?_
    refine TC.region ?_
    refine TL.run 3 [] [(1, .int .i64 radius), (2, .int .i64 accel), (3, .pointer (some ⟨b1, 0, none⟩)), (19, .bool (decide (radius < 0)))] rfl ⟨by kernel_rfl, by kernel_rfl⟩ ?_
    refine TL.join 19 (decide (radius < 0)) 6 [] [] (fun β => [(1, .int .i64 radius), (2, .int .i64 accel), (3, .pointer (some ⟨b1, 0, none⟩)), (22, .bool (β || (decide (radius > 4000000))))]) (by kernel_rfl) rfl ⟨by kernel_rfl, by kernel_rfl⟩ ⟨by kernel_rfl, by kernel_rfl⟩ ?_
    refine TL.run 7 [] [(1, .int .i64 radius), (2, .int .i64 accel), (3, .pointer (some ⟨b1, 0, none⟩)), (23, .bool ((decide (radius < 0)) || (decide (radius > 4000000))))] rfl ⟨by kernel_rfl, by kernel_rfl⟩ ?_
    refine TL.join 23 ((decide (radius < 0)) || (decide (radius > 4000000))) 10 [] [] (fun β => [(1, .int .i64 radius), (2, .int .i64 accel), (3, .pointer (some ⟨b1, 0, none⟩)), (26, .bool (β || (decide (accel < 0))))]) (by kernel_rfl) rfl ⟨by kernel_rfl, by kernel_rfl⟩ ⟨by kernel_rfl, by kernel_rfl⟩ ?_
    refine TL.run 11 [] [(1, .int .i64 radius), (2, .int .i64 accel), (3, .pointer (some ⟨b1, 0, none⟩)), (27, .bool (((decide (radius < 0)) || (decide (radius > 4000000))) || (decide (accel < 0))))] rfl ⟨by kernel_rfl, by kernel_rfl⟩ ?_
    refine TL.join 27 (((decide (radius < 0)) || (decide (radius > 4000000))) || (decide (accel < 0))) 14 [] [] (fun β => [(1, .int .i64 radius), (2, .int .i64 accel), (3, .pointer (some ⟨b1, 0, none⟩)), (30, .bool (β || (decide (accel > 20))))]) (by kernel_rfl) rfl ⟨by kernel_rfl, by kernel_rfl⟩ ⟨by kernel_rfl, by kernel_rfl⟩ ?_
    refine TL.next rfl ?_
    refine TC.cond ((((decide (radius < 0)) || (decide (radius > 4000000))) || (decide (accel < 0))) || (decide (accel > 20))) rfl (by kernel_rfl) (fun h2 => ?_) (fun h2 => ?_)
    · refine TC.seq ?_
      refine TC.region ?_
      refine TL.run 2 [] [(6, .int .i64 0), (7, .int .i64 4)] rfl ⟨by kernel_rfl, by kernel_rfl⟩ ?_
      refine TL.next rfl ?_
      refine TC.ret ?_
      refine TE.ret_then ?_
      have e : coast_Lost f radius accel = (0, 4) := by subst hr1; unfold coast_Lost; exact cond_f h1 (cond_t h2 (rfl))
      exact TE.ret [] (.tuple #[.int .i64 0, .int .i64 4]) ⟨by kernel_rfl, by kernel_rfl⟩ (by rw [e]; first | done | kernel_rfl)
    · refine TC.skip ?_
      refine TE.next ?_
      refine TC.seq ?_
      refine TC.seq ?_
      refine TC.region ?_
      refine TL.run 1 [] [(1, .int .i64 radius), (2, .int .i64 accel), (3, .pointer (some ⟨b1, 0, none⟩)), (31, .int .i64 0)] rfl ⟨by kernel_rfl, by kernel_rfl⟩ ?_
      refine TL.next rfl ?_
      refine TC.weak [(1, .int .i64 radius), (2, .int .i64 accel), (3, .pointer (some ⟨b1, 0, none⟩)), (31, .int .i64 0)] (by kernel_rfl) ?_
      obtain ⟨R1, hR⟩ : ∃ R, R = coast_Lost_L1 f radius accel ((601 : Int).toNat) 0 := ⟨_, rfl⟩
      refine TC.cut (S := Unit) (fun (_ : Unit) => []) (fun (_ : Unit) => []) (fun (_ : Unit) => R1 = .inl ()) ?_ ?_
      · refine TC.block ?_
        refine TC.loop (X := Nat) (fun k => [(1, .int .i64 radius), (2, .int .i64 accel), (3, .pointer (some ⟨b1, 0, none⟩)), (31, .int .i64 (k : Int))]) (fun k => [.inl (b1, .cells (FilterTrack.c f) 29 (0, 0))]) (fun k => (601 : Int).toNat - k) (fun k => k ≤ (601 : Int).toNat ∧ R1 = coast_Lost_L1 f radius accel ((601 : Int).toNat - k) k) ?_ 0 ⟨Nat.zero_le _, hR⟩
        rintro k ⟨hk, hI⟩
        refine TC.seq ?_
        refine TC.region ?_
        refine TL.run 1 [] [(1, .int .i64 radius), (2, .int .i64 accel), (3, .pointer (some ⟨b1, 0, none⟩)), (31, .int .i64 (k : Int)), (32, .bool (decide ((k : Int) < 601)))] rfl ⟨by kernel_rfl, by kernel_rfl⟩ ?_
        refine TL.next rfl ?_
        refine TC.seq ?_
        refine TC.cond (decide ((k : Int) < 601)) rfl (by kernel_rfl) (fun h3 => ?_) (fun h3 => ?_)
        · have hlt : k < (601 : Int).toNat := by have := of_decide_eq_true h3; first | omega | (simp at this; omega)
          have hd : (601 : Int).toNat - k = ((601 : Int).toNat - (k + 1)) + 1 := by omega
          refine TC.skip ?_
          refine TE.next ?_
          refine TC.seq ?_
          refine TC.block ?_
          refine TC.seq ?_
          refine TC.region ?_
          refine TL.run 2 [] [(1, .int .i64 radius), (2, .int .i64 accel), (3, .pointer (some ⟨b1, 0, none⟩)), (9, .int .i64 (k : Int)), (31, .int .i64 (k : Int))] rfl ⟨by kernel_rfl, by kernel_rfl⟩ ?_
          refine TL.next rfl ?_
          refine TC.seq ?_
          refine TC.region ?_
          refine TL.run 7 [0, 0] [(1, .int .i64 radius), (2, .int .i64 accel), (3, .pointer (some ⟨b1, 0, none⟩)), (9, .int .i64 (k : Int)), (31, .int .i64 (k : Int)), (35, FilterTrack.v f), (40, .int .i64 (w64 (f.Track.Time + (k : Int)))), (41, .int .i64 accel)] rfl ⟨by kernel_rfl, by kernel_rfl⟩ ?_
          refine TL.call (some 42) [(1, .int .i64 radius), (2, .int .i64 accel), (3, .pointer (some ⟨b1, 0, none⟩)), (9, .int .i64 (k : Int)), (31, .int .i64 (k : Int)), (42, .tuple #[FilterTrack.v ((filter_Predict f (w64 (f.Track.Time + (k : Int))) accel).1), .int .i64 ((filter_Predict f (w64 (f.Track.Time + (k : Int))) accel).2)])] (fun w _ => filter_Predict_w f (w64 (f.Track.Time + (k : Int))) accel w) (by kernel_rfl) (by kernel_rfl) ?_
          generalize hr2 : filter_Predict f (w64 (f.Track.Time + (k : Int))) accel = r2
          refine TL.run 11 [] [(1, .int .i64 radius), (2, .int .i64 accel), (3, .pointer (some ⟨b1, 0, none⟩)), (9, .int .i64 (k : Int)), (31, .int .i64 (k : Int)), (43, FilterTrack.v r2.1), (44, .int .i64 r2.2)] rfl ⟨by kernel_rfl, by kernel_rfl⟩ ?_
          refine TL.write 0 (fun b2 => [(1, .int .i64 radius), (2, .int .i64 accel), (3, .pointer (some ⟨b1, 0, none⟩)), (9, .int .i64 (k : Int)), (10, .pointer (some ⟨b2, 0, none⟩)), (31, .int .i64 (k : Int)), (43, FilterTrack.v r2.1), (44, .int .i64 r2.2)]) (fun b2 => [.inl (b2, .cells (FilterTrack.c FilterTrack.zero) 29 (0, 0)), .inl (b1, .cells (FilterTrack.c f) 29 (0, 0))]) (fun b2 => ⟨by kernel_rfl, by kernel_rfl⟩) (fun b2 => ?_)
          refine TL.write 0 (fun _ => [(1, .int .i64 radius), (2, .int .i64 accel), (3, .pointer (some ⟨b1, 0, none⟩)), (9, .int .i64 (k : Int)), (10, .pointer (some ⟨b2, 0, none⟩)), (31, .int .i64 (k : Int)), (44, .int .i64 r2.2)]) (fun _ => [.inl (b2, .cells (FilterTrack.c r2.1) 29 (0, 0)), .inl (b1, .cells (FilterTrack.c f) 29 (0, 0))]) (fun _ => ⟨by kernel_rfl, by kernel_rfl⟩) (fun _ => ?_)
          refine TL.run 14 [] [(1, .int .i64 radius), (2, .int .i64 accel), (3, .pointer (some ⟨b1, 0, none⟩)), (9, .int .i64 (k : Int)), (10, .pointer (some ⟨b2, 0, none⟩)), (11, .int .i64 r2.2), (31, .int .i64 (k : Int))] rfl ⟨by kernel_rfl, by kernel_rfl⟩ ?_
          refine TL.next rfl ?_
          refine TC.seq ?_
          refine TC.seq ?_
          refine TC.region ?_
          refine TL.run 2 [] [(1, .int .i64 radius), (2, .int .i64 accel), (3, .pointer (some ⟨b1, 0, none⟩)), (9, .int .i64 (k : Int)), (10, .pointer (some ⟨b2, 0, none⟩)), (31, .int .i64 (k : Int)), (46, .bool (r2.2 != 0))] rfl ⟨by kernel_rfl, by kernel_rfl⟩ ?_
          refine TL.next rfl ?_
          refine TC.cond (r2.2 != 0) rfl (by kernel_rfl) (fun h4 => ?_) (fun h4 => ?_)
          · refine TC.seq ?_
            refine TC.region ?_
            refine TL.run 2 [] [(6, .int .i64 0), (7, .int .i64 8)] rfl ⟨by kernel_rfl, by kernel_rfl⟩ ?_
            refine TL.next rfl ?_
            refine TC.ret ?_
            refine TE.ret_then (TE.ret_block (TE.ret_then (TE.ret_then (TE.ret_block (TE.ret_then (TE.ret_then ?_))))))
            have e : coast_Lost f radius accel = (0, 8) := by subst hr1 hr2; unfold coast_Lost; exact cond_f h1 (cond_f h2 (elim_r (hR.symm.trans (hI.trans (by rw [hd]; exact cond_t h4 (rfl)))) rfl))
            exact TE.ret [] (.tuple #[.int .i64 0, .int .i64 8]) ⟨by kernel_rfl, by kernel_rfl⟩ (by rw [e]; first | done | kernel_rfl)
          · refine TC.skip ?_
            refine TE.next ?_
            refine TC.seq ?_
            refine TC.region ?_
            refine TL.run 5 [0] [(1, .int .i64 radius), (2, .int .i64 accel), (3, .pointer (some ⟨b1, 0, none⟩)), (9, .int .i64 (k : Int)), (31, .int .i64 (k : Int)), (51, .bool (decide (r2.1.Track.Radius > radius)))] rfl ⟨by kernel_rfl, by kernel_rfl⟩ ?_
            refine TL.next rfl ?_
            refine TC.cond (decide (r2.1.Track.Radius > radius)) rfl (by kernel_rfl) (fun h5 => ?_) (fun h5 => ?_)
            · refine TC.seq ?_
              refine TC.region ?_
              refine TL.run 3 [] [(6, .int .i64 (k : Int)), (7, .int .i64 0)] rfl ⟨by kernel_rfl, by kernel_rfl⟩ ?_
              refine TL.next rfl ?_
              refine TC.ret ?_
              refine TE.ret_block (TE.ret_then (TE.ret_then (TE.ret_block (TE.ret_then (TE.ret_then ?_)))))
              have e : coast_Lost f radius accel = ((k : Int), 0) := by subst hr1 hr2; unfold coast_Lost; exact cond_f h1 (cond_f h2 (elim_r (hR.symm.trans (hI.trans (by rw [hd]; exact cond_f h4 (cond_t h5 (rfl))))) rfl))
              exact TE.ret [] (.tuple #[.int .i64 (k : Int), .int .i64 0]) ⟨by kernel_rfl, by kernel_rfl⟩ (by rw [e]; first | done | kernel_rfl)
            · refine TC.skip ?_
              refine TE.normal_block ?_
              refine TE.next ?_
              refine TC.region ?_
              refine TL.run 2 [] [(1, .int .i64 radius), (2, .int .i64 accel), (3, .pointer (some ⟨b1, 0, none⟩)), (31, .int .i64 (w64 ((k : Int) + 1)))] rfl ⟨by kernel_rfl, by kernel_rfl⟩ ?_
              refine TL.done rfl ?_
              refine TE.rw 31 (.int .i64 (w64 ((k : Int) + 1))) (.int .i64 ((k + 1 : Nat) : Int)) (by kernel_rfl) (w64_cast k (by omega)) ?_
              exact TE.again (x := k) (k + 1) ⟨by omega, hI.trans (by subst hr1 hr2; rw [hd]; exact cond_f h4 (cond_f h5 (rfl)))⟩ (by show (601 : Int).toNat - (k + 1) < (601 : Int).toNat - k; omega) (by kernel_rfl) (.cons _ (.cons_cons _ (.slnil)))
        · have hd : (601 : Int).toNat - k = 0 := by have := of_decide_eq_false h3; first | omega | (simp at this; omega)
          refine TC.exit ?_
          refine TE.exit_then (TE.exit_then (TE.exit_same ?_))
          exact TE.cut () (hI.trans (by subst hr1; rw [hd]; exact rfl)) (by kernel_rfl) (.cons _ (.slnil))
      · intro _ hJ
        refine TE.next ?_
        refine TC.seq ?_
        refine TC.region ?_
        refine TL.run 2 [] [(6, .int .i64 0), (7, .int .i64 8)] rfl ⟨by kernel_rfl, by kernel_rfl⟩ ?_
        refine TL.next rfl ?_
        refine TC.ret ?_
        have e : coast_Lost f radius accel = (0, 8) := by subst hr1; unfold coast_Lost; exact cond_f h1 (cond_f h2 (elim_l (hR.symm.trans hJ) (rfl)))
        exact TE.ret [] (.tuple #[.int .i64 0, .int .i64 8]) ⟨by kernel_rfl, by kernel_rfl⟩ (by rw [e]; first | done | kernel_rfl)

def skywaykeep2_CoastAhead_L1 (f : FilterTrack) (radius : Int) (accel : Int) (r3 : List FilterTrack × Int) (r4 : Int × Int) : List FilterTrack → Nat → ((Unit) ⊕ (Bool))
  | [], _ => .inl ()
  | x :: xs, k => let r5 := filter_Predict f (w64 ((w64 (f.Track.Time + (k : Int))) + 1)) accel
    cond (r5.2 != 0) (
      .inr false) (
      cond (!(FilterTrack.eqb x r5.1)) (
        .inr false) (
        cond (decide ((k : Int) > 0)) (
          cond (decide (x.Track.Radius < (((r3.1[(k - 1)]?.getD FilterTrack.zero).Track).Radius))) (
            .inr false) (
            cond ((r4.2 == 0) && (!((decide (x.Track.Radius > radius)) == (decide ((w64 ((k : Int) + 1)) ≥ r4.1))))) (
              .inr false) (
              skywaykeep2_CoastAhead_L1 f radius accel r3 r4 xs (k + 1)))) (
          cond ((r4.2 == 0) && (!((decide (x.Track.Radius > radius)) == (decide ((w64 ((k : Int) + 1)) ≥ r4.1))))) (
            .inr false) (
            skywaykeep2_CoastAhead_L1 f radius accel r3 r4 xs (k + 1)))))
def skywaykeep2_CoastAhead (f : FilterTrack) (seconds : Int) (radius : Int) (accel : Int) : Bool :=
  let r1 := coast_Ahead FilterTrack.zero 2 0
  cond ((r1.2 != 0) || ((r1.1.length : Int) != 2)) (
    false) (
    cond ((((r1.1[1]?.getD FilterTrack.zero).Track).Radius) != 2) (
      false) (
      let r2 := skywaykeep2_within seconds 0 60
      let r3 := coast_Ahead f r2 accel
      let r4 := coast_Lost f radius accel
      cond (r3.2 != 0) (
        (r3.1.length : Int) == 0) (
        Sum.elim (fun _ =>
          cond (decide ((r3.1.length : Int) ≤ r2)) (
            cond (r4.2 != 0) (
              true) (
              (r4.1 == 0) == (decide (f.Track.Radius > radius)))) (
            false)) (fun r => r) (skywaykeep2_CoastAhead_L1 f radius accel r3 r4 r3.1 0))))

set_option maxRecDepth 100000 in
theorem skywaykeep2_CoastAhead_w (f : FilterTrack) (seconds : Int) (radius : Int) (accel : Int) (w : World) : Calls Try.prog 3 #[FilterTrack.v f, .int .i64 seconds, .int .i64 radius, .int .i64 accel] w (Ret w (.bool (skywaykeep2_CoastAhead f seconds radius accel))) := by
  refine calls_intro (vs := [FilterTrack.v f, .int .i64 seconds, .int .i64 radius, .int .i64 accel]) (w := w) Try.func3 rfl Try.ntmps3 rfl ?_
  refine TC.weak [(0, FilterTrack.v f), (1, .int .i64 seconds), (2, .int .i64 radius), (3, .int .i64 accel)] (by kernel_rfl) ?_
  refine TC.seq ?_
  refine TC.region ?_
  refine TL.write 0 (fun b1 => [(1, .int .i64 seconds), (2, .int .i64 radius), (3, .int .i64 accel), (4, .pointer (some ⟨b1, 0, none⟩))]) (fun b1 => [.inl (b1, .cells (FilterTrack.c f) 29 (0, 0))]) (fun b1 => ⟨by kernel_rfl, by kernel_rfl⟩) (fun b1 => ?_)
  refine TL.run 2 [] [(1, .int .i64 seconds), (2, .int .i64 radius), (3, .int .i64 accel), (4, .pointer (some ⟨b1, 0, none⟩))] rfl ⟨by kernel_rfl, by kernel_rfl⟩ ?_
  refine TL.next rfl ?_
  refine TC.seq ?_
  refine TC.seq ?_
  refine TC.region ?_
  refine TL.run 1 [] [(1, .int .i64 seconds), (2, .int .i64 radius), (3, .int .i64 accel), (4, .pointer (some ⟨b1, 0, none⟩)), (20, FilterTrack.v FilterTrack.zero)] rfl ⟨by kernel_rfl, by kernel_rfl⟩ ?_
  refine TL.callN (Γ := Option Addr × Nat) (fun g => .tuple #[.slice g.1 (((coast_Ahead FilterTrack.zero 2 0).1).length) g.2, .int .i64 ((coast_Ahead FilterTrack.zero 2 0).2)]) (fun g => [.inr (Own g.1 g.2 29 20 (((coast_Ahead FilterTrack.zero 2 0).1).map FilterTrack.c))]) (fun g => [.inr (Own g.1 g.2 29 20 (((coast_Ahead FilterTrack.zero 2 0).1).map FilterTrack.c)), .inl (b1, .cells (FilterTrack.c f) 29 (0, 0))]) (fun g => rfl) (some 21) (fun g => [(1, .int .i64 seconds), (2, .int .i64 radius), (3, .int .i64 accel), (4, .pointer (some ⟨b1, 0, none⟩)), (21, .tuple #[.slice g.1 (((coast_Ahead FilterTrack.zero 2 0).1).length) g.2, .int .i64 ((coast_Ahead FilterTrack.zero 2 0).2)])]) (fun w _ => coast_Ahead_w FilterTrack.zero 2 0 w) (by kernel_rfl) (fun g => by kernel_rfl) ?_
  rintro ⟨A, c⟩
  generalize hr1 : coast_Ahead FilterTrack.zero 2 0 = r1
  refine TL.know (fun w hM => hM.short_at 0 rfl) (fun s_r1_0 => ?_)
  refine TL.run 7 [] [(1, .int .i64 seconds), (2, .int .i64 radius), (3, .int .i64 accel), (4, .pointer (some ⟨b1, 0, none⟩)), (9, .slice A r1.1.length c), (10, .int .i64 r1.2)] rfl ⟨by kernel_rfl, by kernel_rfl⟩ ?_
  refine TL.next rfl ?_
  refine TC.seq ?_
  refine TC.region ?_
  refine TL.run 3 [] [(1, .int .i64 seconds), (2, .int .i64 radius), (3, .int .i64 accel), (4, .pointer (some ⟨b1, 0, none⟩)), (9, .slice A r1.1.length c), (26, .bool (r1.2 != 0))] rfl ⟨by kernel_rfl, by kernel_rfl⟩ ?_
  refine TL.join 26 (r1.2 != 0) 7 [] [] (fun β => [(1, .int .i64 seconds), (2, .int .i64 radius), (3, .int .i64 accel), (4, .pointer (some ⟨b1, 0, none⟩)), (9, .slice A r1.1.length c), (30, .bool (β || ((r1.1.length : Int) != 2)))]) (by kernel_rfl) rfl ⟨by kernel_rfl, by kernel_rfl⟩ ⟨by kernel_rfl, by kernel_rfl⟩ ?_
  refine TL.run 8 [] [(1, .int .i64 seconds), (2, .int .i64 radius), (3, .int .i64 accel), (4, .pointer (some ⟨b1, 0, none⟩)), (9, .slice A r1.1.length c), (31, .bool ((r1.2 != 0) || ((r1.1.length : Int) != 2)))] rfl ⟨by kernel_rfl, by kernel_rfl⟩ ?_
  refine TL.split 31 ((r1.2 != 0) || ((r1.1.length : Int) != 2)) (by kernel_rfl) (fun h1 => ?_) (fun h1 => ?_)
  · refine TL.run 15 [] [(1, .int .i64 seconds), (2, .int .i64 radius), (3, .int .i64 accel), (4, .pointer (some ⟨b1, 0, none⟩)), (38, .bool true)] rfl ⟨by kernel_rfl, by kernel_rfl⟩ ?_
    refine TL.next rfl ?_
    refine TC.condT rfl (by kernel_rfl) ?_
    refine TC.seq ?_
    refine TC.region ?_
    refine TL.run 1 [] [(8, .bool false)] rfl ⟨by kernel_rfl, by kernel_rfl⟩ ?_
    refine TL.next rfl ?_
    refine TC.ret ?_
    refine TE.ret_then ?_
    have e : skywaykeep2_CoastAhead f seconds radius accel = false := by subst hr1; unfold skywaykeep2_CoastAhead; exact cond_t h1 (rfl)
    exact TE.ret [] (.bool false) ⟨by kernel_rfl, by kernel_rfl⟩ (by rw [e]; first | done | kernel_rfl)
  · refine TL.run 9 [] [(1, .int .i64 seconds), (2, .int .i64 radius), (3, .int .i64 accel), (4, .pointer (some ⟨b1, 0, none⟩)), (31, .bool false), (32, .slice A r1.1.length c)] rfl ⟨by kernel_rfl, by kernel_rfl⟩ ?_
    refine TL.val (sV (Instr.indexAt 30 (.slice A r1.1.length c) (.int .i64 1))) (some 33) (.pointer (some ((A.getD noAddr).add (1 * 20)))) [(1, .int .i64 seconds), (2, .int .i64 radius), (3, .int .i64 accel), (4, .pointer (some ⟨b1, 0, none⟩)), (31, .bool false), (33, .pointer (some ((A.getD noAddr).add (1 * 20))))] (fun w hM => run_index (hM.rd_at 0 rfl) (by simp) (by kernel_rfl) (by have q0_ := (bne_f (or_f1 h1)); have q1_ := (bne_f (or_f2 h1)); first | omega | (simp only [List.length_drop]; omega) | (simp only [w64_eq]; omega) | exact (tm_in (by (first | (rw [w64_id (by omega)]; omega) | (simp only [w64_eq]; omega))) (by omega)).1 | exact (tm_in (by (first | (rw [w64_id (by omega)]; omega) | (simp only [w64_eq]; omega))) (by omega)).2.1 | exact (tm_in (by (first | (rw [w64_id (by omega)]; omega) | (simp only [w64_eq]; omega))) (by omega)).2.2 | (simp <;> omega)) (by have q0_ := (bne_f (or_f1 h1)); have q1_ := (bne_f (or_f2 h1)); first | omega | (simp only [List.length_drop]; omega) | (simp only [w64_eq]; omega) | exact (tm_in (by (first | (rw [w64_id (by omega)]; omega) | (simp only [w64_eq]; omega))) (by omega)).1 | exact (tm_in (by (first | (rw [w64_id (by omega)]; omega) | (simp only [w64_eq]; omega))) (by omega)).2.1 | exact (tm_in (by (first | (rw [w64_id (by omega)]; omega) | (simp only [w64_eq]; omega))) (by omega)).2.2 | (simp <;> omega))) (by kernel_rfl) (by kernel_rfl) ?_
    refine TL.run 12 [] [(1, .int .i64 seconds), (2, .int .i64 radius), (3, .int .i64 accel), (4, .pointer (some ⟨b1, 0, none⟩)), (31, .bool false), (35, .pointer (some (((A.getD noAddr).add (1 * 20)).add 9)))] rfl ⟨by kernel_rfl, by kernel_rfl⟩ ?_
    refine TL.val (sV (Instr.loadAt 3 (.pointer (some (((A.getD noAddr).add (1 * 20)).add 9))))) (some 36) (.int .i64 (((r1.1[1]?.getD FilterTrack.zero).Track).Radius)) [(1, .int .i64 seconds), (2, .int .i64 radius), (3, .int .i64 accel), (4, .pointer (some ⟨b1, 0, none⟩)), (31, .bool false), (36, .int .i64 (((r1.1[1]?.getD FilterTrack.zero).Track).Radius))] (fun w hM => run_load_one (off := 9) (i := 1) (.int .i64 (((r1.1[1]?.getD FilterTrack.zero).Track).Radius)) (hM.rd_at 0 rfl) (map_at (getD_at _ _ FilterTrack.zero (by have q0_ := (bne_f (or_f1 h1)); have q1_ := (bne_f (or_f2 h1)); first | omega | (simp only [List.length_drop]; omega) | (simp only [w64_eq]; omega) | exact (tm_in (by (first | (rw [w64_id (by omega)]; omega) | (simp only [w64_eq]; omega))) (by omega)).1 | exact (tm_in (by (first | (rw [w64_id (by omega)]; omega) | (simp only [w64_eq]; omega))) (by omega)).2.1 | exact (tm_in (by (first | (rw [w64_id (by omega)]; omega) | (simp only [w64_eq]; omega))) (by omega)).2.2 | (simp <;> omega)))) (by kernel_rfl) (by kernel_rfl)) (by kernel_rfl) (by kernel_rfl) ?_
    refine TL.run 15 [] [(1, .int .i64 seconds), (2, .int .i64 radius), (3, .int .i64 accel), (4, .pointer (some ⟨b1, 0, none⟩)), (38, .bool ((((r1.1[1]?.getD FilterTrack.zero).Track).Radius) != 2))] rfl ⟨by kernel_rfl, by kernel_rfl⟩ ?_
    refine TL.next rfl ?_
    refine TC.cond ((((r1.1[1]?.getD FilterTrack.zero).Track).Radius) != 2) rfl (by kernel_rfl) (fun h2 => ?_) (fun h2 => ?_)
    · refine TC.seq ?_
      refine TC.region ?_
      refine TL.run 1 [] [(8, .bool false)] rfl ⟨by kernel_rfl, by kernel_rfl⟩ ?_
      refine TL.next rfl ?_
      refine TC.ret ?_
      refine TE.ret_then ?_
      have e : skywaykeep2_CoastAhead f seconds radius accel = false := by subst hr1; unfold skywaykeep2_CoastAhead; exact cond_f h1 (cond_t h2 (rfl))
      exact TE.ret [] (.bool false) ⟨by kernel_rfl, by kernel_rfl⟩ (by rw [e]; first | done | kernel_rfl)
    · refine TC.skip ?_
      refine TE.next ?_
      refine TC.seq ?_
      refine TC.region ?_
      refine TL.run 1 [] [(2, .int .i64 radius), (3, .int .i64 accel), (4, .pointer (some ⟨b1, 0, none⟩)), (39, .int .i64 seconds)] rfl ⟨by kernel_rfl, by kernel_rfl⟩ ?_
      refine TL.call (some 40) [(2, .int .i64 radius), (3, .int .i64 accel), (4, .pointer (some ⟨b1, 0, none⟩)), (40, .int .i64 (skywaykeep2_within seconds 0 60))] (fun w _ => skywaykeep2_within_w seconds 0 60 w (by have q0_ := (bne_f (or_f1 h1)); have q1_ := (bne_f (or_f2 h1)); have q2_ := (bne_f h2); first | omega | first | decide | omega | (simp only [w64_eq]; omega) | (simp <;> omega))) (by kernel_rfl) (by kernel_rfl) ?_
      generalize hr2 : skywaykeep2_within seconds 0 60 = r2
      refine TL.run 3 [] [(1, .int .i64 r2), (2, .int .i64 radius), (3, .int .i64 accel), (4, .pointer (some ⟨b1, 0, none⟩))] rfl ⟨by kernel_rfl, by kernel_rfl⟩ ?_
      refine TL.next rfl ?_
      refine TC.seq ?_
      refine TC.region ?_
      refine TL.run 3 [1] [(1, .int .i64 r2), (2, .int .i64 radius), (3, .int .i64 accel), (4, .pointer (some ⟨b1, 0, none⟩)), (42, FilterTrack.v f), (43, .int .i64 r2), (44, .int .i64 accel)] rfl ⟨by kernel_rfl, by kernel_rfl⟩ ?_
      refine TL.callN (Γ := Option Addr × Nat) (fun g => .tuple #[.slice g.1 (((coast_Ahead f r2 accel).1).length) g.2, .int .i64 ((coast_Ahead f r2 accel).2)]) (fun g => [.inr (Own g.1 g.2 29 20 (((coast_Ahead f r2 accel).1).map FilterTrack.c))]) (fun g => [.inr (Own g.1 g.2 29 20 (((coast_Ahead f r2 accel).1).map FilterTrack.c)), .inr (Own A c 29 20 (r1.1.map FilterTrack.c)), .inl (b1, .cells (FilterTrack.c f) 29 (0, 0))]) (fun g => rfl) (some 45) (fun g => [(1, .int .i64 r2), (2, .int .i64 radius), (3, .int .i64 accel), (4, .pointer (some ⟨b1, 0, none⟩)), (45, .tuple #[.slice g.1 (((coast_Ahead f r2 accel).1).length) g.2, .int .i64 ((coast_Ahead f r2 accel).2)])]) (fun w _ => coast_Ahead_w f r2 accel w) (by kernel_rfl) (fun g => by kernel_rfl) ?_
      rintro ⟨A_2, c_2⟩
      generalize hr3 : coast_Ahead f r2 accel = r3
      refine TL.know (fun w hM => hM.short_at 0 rfl) (fun s_r3_0 => ?_)
      refine TL.run 9 [] [(1, .int .i64 r2), (2, .int .i64 radius), (3, .int .i64 accel), (4, .pointer (some ⟨b1, 0, none⟩)), (11, .slice A_2 r3.1.length c_2), (12, .int .i64 r3.2)] rfl ⟨by kernel_rfl, by kernel_rfl⟩ ?_
      refine TL.next rfl ?_
      refine TC.seq ?_
      refine TC.region ?_
      refine TL.run 3 [2] [(1, .int .i64 r2), (2, .int .i64 radius), (3, .int .i64 accel), (4, .pointer (some ⟨b1, 0, none⟩)), (11, .slice A_2 r3.1.length c_2), (12, .int .i64 r3.2), (49, FilterTrack.v f), (50, .int .i64 radius), (51, .int .i64 accel)] rfl ⟨by kernel_rfl, by kernel_rfl⟩ ?_
      refine TL.call (some 52) [(1, .int .i64 r2), (2, .int .i64 radius), (3, .int .i64 accel), (4, .pointer (some ⟨b1, 0, none⟩)), (11, .slice A_2 r3.1.length c_2), (12, .int .i64 r3.2), (52, .tuple #[.int .i64 ((coast_Lost f radius accel).1), .int .i64 ((coast_Lost f radius accel).2)])] (fun w _ => coast_Lost_w f radius accel w) (by kernel_rfl) (by kernel_rfl) ?_
      generalize hr4 : coast_Lost f radius accel = r4
      refine TL.run 9 [] [(1, .int .i64 r2), (2, .int .i64 radius), (3, .int .i64 accel), (4, .pointer (some ⟨b1, 0, none⟩)), (11, .slice A_2 r3.1.length c_2), (12, .int .i64 r3.2), (13, .int .i64 r4.1), (14, .int .i64 r4.2)] rfl ⟨by kernel_rfl, by kernel_rfl⟩ ?_
      refine TL.next rfl ?_
      refine TC.seq ?_
      refine TC.seq ?_
      refine TC.region ?_
      refine TL.run 2 [] [(1, .int .i64 r2), (2, .int .i64 radius), (3, .int .i64 accel), (4, .pointer (some ⟨b1, 0, none⟩)), (11, .slice A_2 r3.1.length c_2), (13, .int .i64 r4.1), (14, .int .i64 r4.2), (56, .bool (r3.2 != 0))] rfl ⟨by kernel_rfl, by kernel_rfl⟩ ?_
      refine TL.next rfl ?_
      refine TC.cond (r3.2 != 0) rfl (by kernel_rfl) (fun h3 => ?_) (fun h3 => ?_)
      · refine TC.seq ?_
        refine TC.region ?_
        refine TL.run 4 [] [(8, .bool ((r3.1.length : Int) == 0))] rfl ⟨by kernel_rfl, by kernel_rfl⟩ ?_
        refine TL.next rfl ?_
        refine TC.ret ?_
        refine TE.ret_then ?_
        have e : skywaykeep2_CoastAhead f seconds radius accel = ((r3.1.length : Int) == 0) := by subst hr1 hr2 hr3 hr4; unfold skywaykeep2_CoastAhead; exact cond_f h1 (cond_f h2 (cond_t h3 (rfl)))
        exact TE.ret [] (.bool ((r3.1.length : Int) == 0)) ⟨by kernel_rfl, by kernel_rfl⟩ (by rw [e]; first | done | kernel_rfl)
      · refine TC.skip ?_
        refine TE.next ?_
        refine TC.seq ?_
        refine TC.seq ?_
        refine TC.region ?_
        refine TL.run 3 [] [(1, .int .i64 r2), (2, .int .i64 radius), (3, .int .i64 accel), (4, .pointer (some ⟨b1, 0, none⟩)), (11, .slice A_2 r3.1.length c_2), (13, .int .i64 r4.1), (14, .int .i64 r4.2), (60, .slice A_2 r3.1.length c_2), (61, .int .i64 (r3.1.length : Int)), (62, .int .i64 0)] rfl ⟨by kernel_rfl, by kernel_rfl⟩ ?_
        refine TL.next rfl ?_
        refine TC.weak [(1, .int .i64 r2), (2, .int .i64 radius), (3, .int .i64 accel), (4, .pointer (some ⟨b1, 0, none⟩)), (11, .slice A_2 r3.1.length c_2), (13, .int .i64 r4.1), (14, .int .i64 r4.2), (60, .slice A_2 r3.1.length c_2), (61, .int .i64 (r3.1.length : Int)), (62, .int .i64 0)] (by kernel_rfl) ?_
        refine TC.forget [.inr (Own A_2 c_2 29 20 (r3.1.map FilterTrack.c)), .inl (b1, .cells (FilterTrack.c f) 29 (0, 0))] (.cons_cons _ (.cons _ (.cons_cons _ (.slnil)))) ?_
        obtain ⟨R1, hR⟩ : ∃ R, R = skywaykeep2_CoastAhead_L1 f radius accel r3 r4 r3.1 0 := ⟨_, rfl⟩
        refine TC.cut (S := Unit) (fun (_ : Unit) => [(1, .int .i64 r2), (2, .int .i64 radius), (4, .pointer (some ⟨b1, 0, none⟩)), (11, .slice A_2 r3.1.length c_2), (13, .int .i64 r4.1), (14, .int .i64 r4.2)]) (fun (_ : Unit) => [.inr (Own A_2 c_2 29 20 (r3.1.map FilterTrack.c)), .inl (b1, .cells (FilterTrack.c f) 29 (0, 0))]) (fun (_ : Unit) => R1 = .inl ()) ?_ ?_
        · refine TC.block ?_
          refine TC.loop (X := Nat) (fun k => [(1, .int .i64 r2), (2, .int .i64 radius), (3, .int .i64 accel), (4, .pointer (some ⟨b1, 0, none⟩)), (11, .slice A_2 r3.1.length c_2), (13, .int .i64 r4.1), (14, .int .i64 r4.2), (60, .slice A_2 r3.1.length c_2), (61, .int .i64 (r3.1.length : Int)), (62, .int .i64 (k : Int))]) (fun k => [.inr (Own A_2 c_2 29 20 (r3.1.map FilterTrack.c)), .inl (b1, .cells (FilterTrack.c f) 29 (0, 0))]) (fun k => r3.1.length - k) (fun k => k ≤ r3.1.length ∧ R1 = skywaykeep2_CoastAhead_L1 f radius accel r3 r4 (r3.1.drop k) k) ?_ 0 ⟨Nat.zero_le _, hR⟩
          rintro k ⟨hk, hI⟩
          refine TC.seq ?_
          refine TC.region ?_
          refine TL.run 1 [] [(1, .int .i64 r2), (2, .int .i64 radius), (3, .int .i64 accel), (4, .pointer (some ⟨b1, 0, none⟩)), (11, .slice A_2 r3.1.length c_2), (13, .int .i64 r4.1), (14, .int .i64 r4.2), (60, .slice A_2 r3.1.length c_2), (61, .int .i64 (r3.1.length : Int)), (62, .int .i64 (k : Int)), (63, .bool (decide ((k : Int) < (r3.1.length : Int))))] rfl ⟨by kernel_rfl, by kernel_rfl⟩ ?_
          refine TL.next rfl ?_
          refine TC.seq ?_
          refine TC.cond (decide ((k : Int) < (r3.1.length : Int))) rfl (by kernel_rfl) (fun h4 => ?_) (fun h4 => ?_)
          · have hlt : k < r3.1.length := by have := of_decide_eq_true h4; first | omega | (simp at this; omega)
            obtain ⟨x, hx⟩ : ∃ x, r3.1[k]? = some x := ⟨_, List.getElem?_eq_getElem hlt⟩
            have hd := drop_at hx
            refine TC.skip ?_
            refine TE.next ?_
            refine TC.seq ?_
            refine TC.block ?_
            refine TC.seq ?_
            refine TC.region ?_
            refine TL.run 1 [] [(1, .int .i64 r2), (2, .int .i64 radius), (3, .int .i64 accel), (4, .pointer (some ⟨b1, 0, none⟩)), (11, .slice A_2 r3.1.length c_2), (13, .int .i64 r4.1), (14, .int .i64 r4.2), (60, .slice A_2 r3.1.length c_2), (61, .int .i64 (r3.1.length : Int)), (62, .int .i64 (k : Int)), (64, .int .i64 (k : Int))] rfl ⟨by kernel_rfl, by kernel_rfl⟩ ?_
            refine TL.val (sV (Instr.indexAt 30 (.slice A_2 r3.1.length c_2) (.int .i64 (k : Int)))) (some 65) (.pointer (some ((A_2.getD noAddr).add (k * 20)))) [(1, .int .i64 r2), (2, .int .i64 radius), (3, .int .i64 accel), (4, .pointer (some ⟨b1, 0, none⟩)), (11, .slice A_2 r3.1.length c_2), (13, .int .i64 r4.1), (14, .int .i64 r4.2), (60, .slice A_2 r3.1.length c_2), (61, .int .i64 (r3.1.length : Int)), (62, .int .i64 (k : Int)), (64, .int .i64 (k : Int)), (65, .pointer (some ((A_2.getD noAddr).add (k * 20))))] (fun w hM => run_index (hM.rd_at 0 rfl) (by simp) (by kernel_rfl) (by have q0_ := (bne_f (or_f1 h1)); have q1_ := (bne_f (or_f2 h1)); have q2_ := (bne_f h2); have q3_ := (bne_f h3); first | omega | (simp only [List.length_drop]; omega) | (simp only [w64_eq]; omega) | exact (tm_in (by (first | (rw [w64_id (by omega)]; omega) | (simp only [w64_eq]; omega))) (by omega)).1 | exact (tm_in (by (first | (rw [w64_id (by omega)]; omega) | (simp only [w64_eq]; omega))) (by omega)).2.1 | exact (tm_in (by (first | (rw [w64_id (by omega)]; omega) | (simp only [w64_eq]; omega))) (by omega)).2.2 | (simp <;> omega)) (by have q0_ := (bne_f (or_f1 h1)); have q1_ := (bne_f (or_f2 h1)); have q2_ := (bne_f h2); have q3_ := (bne_f h3); first | omega | (simp only [List.length_drop]; omega) | (simp only [w64_eq]; omega) | exact (tm_in (by (first | (rw [w64_id (by omega)]; omega) | (simp only [w64_eq]; omega))) (by omega)).1 | exact (tm_in (by (first | (rw [w64_id (by omega)]; omega) | (simp only [w64_eq]; omega))) (by omega)).2.1 | exact (tm_in (by (first | (rw [w64_id (by omega)]; omega) | (simp only [w64_eq]; omega))) (by omega)).2.2 | (simp <;> omega))) (by kernel_rfl) (by kernel_rfl) ?_
            refine TL.val (sV (Instr.loadAt 29 (.pointer (some ((A_2.getD noAddr).add (k * 20)))))) (some 66) (FilterTrack.v x) [(1, .int .i64 r2), (2, .int .i64 radius), (3, .int .i64 accel), (4, .pointer (some ⟨b1, 0, none⟩)), (11, .slice A_2 r3.1.length c_2), (13, .int .i64 r4.1), (14, .int .i64 r4.2), (60, .slice A_2 r3.1.length c_2), (61, .int .i64 (r3.1.length : Int)), (62, .int .i64 (k : Int)), (64, .int .i64 (k : Int)), (66, FilterTrack.v x)] (fun w hM => run_load_agg (n := 20) (off := 0) (i := k) (FilterTrack.v x) (hM.rd_at 0 rfl) (map_at hx) (by kernel_rfl) (by kernel_rfl) (by kernel_rfl)) (by kernel_rfl) (by kernel_rfl) ?_
            refine TL.write 0 (fun b2 => [(1, .int .i64 r2), (2, .int .i64 radius), (3, .int .i64 accel), (4, .pointer (some ⟨b1, 0, none⟩)), (11, .slice A_2 r3.1.length c_2), (13, .int .i64 r4.1), (14, .int .i64 r4.2), (16, .pointer (some ⟨b2, 0, none⟩)), (60, .slice A_2 r3.1.length c_2), (61, .int .i64 (r3.1.length : Int)), (62, .int .i64 (k : Int)), (64, .int .i64 (k : Int)), (66, FilterTrack.v x)]) (fun b2 => [.inl (b2, .cells (FilterTrack.c FilterTrack.zero) 29 (0, 0)), .inr (Own A_2 c_2 29 20 (r3.1.map FilterTrack.c)), .inl (b1, .cells (FilterTrack.c f) 29 (0, 0))]) (fun b2 => ⟨by kernel_rfl, by kernel_rfl⟩) (fun b2 => ?_)
            refine TL.run 5 [] [(1, .int .i64 r2), (2, .int .i64 radius), (3, .int .i64 accel), (4, .pointer (some ⟨b1, 0, none⟩)), (11, .slice A_2 r3.1.length c_2), (13, .int .i64 r4.1), (14, .int .i64 r4.2), (15, .int .i64 (k : Int)), (16, .pointer (some ⟨b2, 0, none⟩)), (60, .slice A_2 r3.1.length c_2), (61, .int .i64 (r3.1.length : Int)), (62, .int .i64 (k : Int)), (66, FilterTrack.v x)] rfl ⟨by kernel_rfl, by kernel_rfl⟩ ?_
            refine TL.write 0 (fun _ => [(1, .int .i64 r2), (2, .int .i64 radius), (3, .int .i64 accel), (4, .pointer (some ⟨b1, 0, none⟩)), (11, .slice A_2 r3.1.length c_2), (13, .int .i64 r4.1), (14, .int .i64 r4.2), (15, .int .i64 (k : Int)), (16, .pointer (some ⟨b2, 0, none⟩)), (60, .slice A_2 r3.1.length c_2), (61, .int .i64 (r3.1.length : Int)), (62, .int .i64 (k : Int))]) (fun _ => [.inl (b2, .cells (FilterTrack.c x) 29 (0, 0)), .inr (Own A_2 c_2 29 20 (r3.1.map FilterTrack.c)), .inl (b1, .cells (FilterTrack.c f) 29 (0, 0))]) (fun _ => ⟨by kernel_rfl, by kernel_rfl⟩) (fun _ => ?_)
            refine TL.next rfl ?_
            refine TC.seq ?_
            refine TC.region ?_
            refine TL.run 8 [2, 2] [(1, .int .i64 r2), (2, .int .i64 radius), (3, .int .i64 accel), (4, .pointer (some ⟨b1, 0, none⟩)), (11, .slice A_2 r3.1.length c_2), (13, .int .i64 r4.1), (14, .int .i64 r4.2), (15, .int .i64 (k : Int)), (16, .pointer (some ⟨b2, 0, none⟩)), (60, .slice A_2 r3.1.length c_2), (61, .int .i64 (r3.1.length : Int)), (62, .int .i64 (k : Int)), (68, FilterTrack.v f), (74, .int .i64 (w64 ((w64 (f.Track.Time + (k : Int))) + 1))), (75, .int .i64 accel)] rfl ⟨by kernel_rfl, by kernel_rfl⟩ ?_
            refine TL.call (some 76) [(1, .int .i64 r2), (2, .int .i64 radius), (3, .int .i64 accel), (4, .pointer (some ⟨b1, 0, none⟩)), (11, .slice A_2 r3.1.length c_2), (13, .int .i64 r4.1), (14, .int .i64 r4.2), (15, .int .i64 (k : Int)), (16, .pointer (some ⟨b2, 0, none⟩)), (60, .slice A_2 r3.1.length c_2), (61, .int .i64 (r3.1.length : Int)), (62, .int .i64 (k : Int)), (76, .tuple #[FilterTrack.v ((filter_Predict f (w64 ((w64 (f.Track.Time + (k : Int))) + 1)) accel).1), .int .i64 ((filter_Predict f (w64 ((w64 (f.Track.Time + (k : Int))) + 1)) accel).2)])] (fun w _ => filter_Predict_w f (w64 ((w64 (f.Track.Time + (k : Int))) + 1)) accel w) (by kernel_rfl) (by kernel_rfl) ?_
            generalize hr5 : filter_Predict f (w64 ((w64 (f.Track.Time + (k : Int))) + 1)) accel = r5
            refine TL.run 12 [] [(1, .int .i64 r2), (2, .int .i64 radius), (3, .int .i64 accel), (4, .pointer (some ⟨b1, 0, none⟩)), (11, .slice A_2 r3.1.length c_2), (13, .int .i64 r4.1), (14, .int .i64 r4.2), (15, .int .i64 (k : Int)), (16, .pointer (some ⟨b2, 0, none⟩)), (60, .slice A_2 r3.1.length c_2), (61, .int .i64 (r3.1.length : Int)), (62, .int .i64 (k : Int)), (77, FilterTrack.v r5.1), (78, .int .i64 r5.2)] rfl ⟨by kernel_rfl, by kernel_rfl⟩ ?_
            refine TL.write 0 (fun b3 => [(1, .int .i64 r2), (2, .int .i64 radius), (3, .int .i64 accel), (4, .pointer (some ⟨b1, 0, none⟩)), (11, .slice A_2 r3.1.length c_2), (13, .int .i64 r4.1), (14, .int .i64 r4.2), (15, .int .i64 (k : Int)), (16, .pointer (some ⟨b2, 0, none⟩)), (17, .pointer (some ⟨b3, 0, none⟩)), (60, .slice A_2 r3.1.length c_2), (61, .int .i64 (r3.1.length : Int)), (62, .int .i64 (k : Int)), (77, FilterTrack.v r5.1), (78, .int .i64 r5.2)]) (fun b3 => [.inl (b3, .cells (FilterTrack.c FilterTrack.zero) 29 (0, 0)), .inl (b2, .cells (FilterTrack.c x) 29 (0, 0)), .inr (Own A_2 c_2 29 20 (r3.1.map FilterTrack.c)), .inl (b1, .cells (FilterTrack.c f) 29 (0, 0))]) (fun b3 => ⟨by kernel_rfl, by kernel_rfl⟩) (fun b3 => ?_)
            refine TL.write 0 (fun _ => [(1, .int .i64 r2), (2, .int .i64 radius), (3, .int .i64 accel), (4, .pointer (some ⟨b1, 0, none⟩)), (11, .slice A_2 r3.1.length c_2), (13, .int .i64 r4.1), (14, .int .i64 r4.2), (15, .int .i64 (k : Int)), (16, .pointer (some ⟨b2, 0, none⟩)), (17, .pointer (some ⟨b3, 0, none⟩)), (60, .slice A_2 r3.1.length c_2), (61, .int .i64 (r3.1.length : Int)), (62, .int .i64 (k : Int)), (78, .int .i64 r5.2)]) (fun _ => [.inl (b3, .cells (FilterTrack.c r5.1) 29 (0, 0)), .inl (b2, .cells (FilterTrack.c x) 29 (0, 0)), .inr (Own A_2 c_2 29 20 (r3.1.map FilterTrack.c)), .inl (b1, .cells (FilterTrack.c f) 29 (0, 0))]) (fun _ => ⟨by kernel_rfl, by kernel_rfl⟩) (fun _ => ?_)
            refine TL.run 15 [] [(1, .int .i64 r2), (2, .int .i64 radius), (3, .int .i64 accel), (4, .pointer (some ⟨b1, 0, none⟩)), (11, .slice A_2 r3.1.length c_2), (13, .int .i64 r4.1), (14, .int .i64 r4.2), (15, .int .i64 (k : Int)), (16, .pointer (some ⟨b2, 0, none⟩)), (17, .pointer (some ⟨b3, 0, none⟩)), (18, .int .i64 r5.2), (60, .slice A_2 r3.1.length c_2), (61, .int .i64 (r3.1.length : Int)), (62, .int .i64 (k : Int))] rfl ⟨by kernel_rfl, by kernel_rfl⟩ ?_
            refine TL.next rfl ?_
            refine TC.seq ?_
            refine TC.seq ?_
            refine TC.draw 24 (by kernel_rfl) (by kernel_rfl) (by kernel_rfl) ?_
            refine TQ.run 3 [] [(1, .int .i64 r2), (2, .int .i64 radius), (3, .int .i64 accel), (4, .pointer (some ⟨b1, 0, none⟩)), (11, .slice A_2 r3.1.length c_2), (13, .int .i64 r4.1), (14, .int .i64 r4.2), (15, .int .i64 (k : Int)), (16, .pointer (some ⟨b2, 0, none⟩)), (17, .pointer (some ⟨b3, 0, none⟩)), (60, .slice A_2 r3.1.length c_2), (61, .int .i64 (r3.1.length : Int)), (62, .int .i64 (k : Int)), (81, .bool (r5.2 != 0))] rfl ⟨by kernel_rfl, by kernel_rfl⟩ ?_
            refine TQ.split 81 (r5.2 != 0) (by kernel_rfl) (fun h5 => ?_) (fun h5 => ?_)
            · refine TQ.run 24 [] [(1, .int .i64 r2), (2, .int .i64 radius), (3, .int .i64 accel), (4, .pointer (some ⟨b1, 0, none⟩)), (11, .slice A_2 r3.1.length c_2), (13, .int .i64 r4.1), (14, .int .i64 r4.2), (15, .int .i64 (k : Int)), (16, .pointer (some ⟨b2, 0, none⟩)), (60, .slice A_2 r3.1.length c_2), (61, .int .i64 (r3.1.length : Int)), (62, .int .i64 (k : Int)), (102, .bool true)] rfl ⟨by kernel_rfl, by kernel_rfl⟩ ?_
              refine TQ.next rfl ?_
              refine TC.condT rfl (by kernel_rfl) ?_
              refine TC.seq ?_
              refine TC.region ?_
              refine TL.run 1 [] [(8, .bool false)] rfl ⟨by kernel_rfl, by kernel_rfl⟩ ?_
              refine TL.next rfl ?_
              refine TC.ret ?_
              refine TE.ret_then (TE.ret_block (TE.ret_then (TE.ret_then (TE.ret_block (TE.ret_then (TE.ret_then ?_))))))
              have e : skywaykeep2_CoastAhead f seconds radius accel = false := by subst hr1 hr2 hr3 hr4 hr5; unfold skywaykeep2_CoastAhead; exact cond_f h1 (cond_f h2 (cond_f h3 (elim_r (hR.symm.trans (hI.trans (by rw [hd]; exact cond_t h5 (rfl)))) rfl)))
              exact TE.ret [] (.bool false) ⟨by kernel_rfl, by kernel_rfl⟩ (by rw [e]; first | done | kernel_rfl)
            · refine TQ.run 5 [1, 0] [(1, .int .i64 r2), (2, .int .i64 radius), (3, .int .i64 accel), (4, .pointer (some ⟨b1, 0, none⟩)), (11, .slice A_2 r3.1.length c_2), (13, .int .i64 r4.1), (14, .int .i64 r4.2), (15, .int .i64 (k : Int)), (16, .pointer (some ⟨b2, 0, none⟩)), (60, .slice A_2 r3.1.length c_2), (61, .int .i64 (r3.1.length : Int)), (62, .int .i64 (k : Int)), (81, .bool false), (82, FilterTrack.v x), (83, FilterTrack.v r5.1)] rfl ⟨by kernel_rfl, by kernel_rfl⟩ ?_
              refine TQ.val (sV (do eqGuard .neq 29 (.tmp 82) (.tmp 83) (FilterTrack.v x) (FilterTrack.v r5.1); binOp .neq 29 (FilterTrack.v x) (FilterTrack.v r5.1))) (some 84) (.bool (!(FilterTrack.eqb x r5.1))) [(1, .int .i64 r2), (2, .int .i64 radius), (3, .int .i64 accel), (4, .pointer (some ⟨b1, 0, none⟩)), (11, .slice A_2 r3.1.length c_2), (13, .int .i64 r4.1), (14, .int .i64 r4.2), (15, .int .i64 (k : Int)), (16, .pointer (some ⟨b2, 0, none⟩)), (60, .slice A_2 r3.1.length c_2), (61, .int .i64 (r3.1.length : Int)), (62, .int .i64 (k : Int)), (81, .bool false), (84, .bool (!(FilterTrack.eqb x r5.1)))] (fun w hM => run_neq (b := FilterTrack.eqb x r5.1) (by kernel_rfl) (by kernel_rfl) w) rfl (by kernel_rfl) (by kernel_rfl) ?_
              refine TQ.run 8 [] [(1, .int .i64 r2), (2, .int .i64 radius), (3, .int .i64 accel), (4, .pointer (some ⟨b1, 0, none⟩)), (11, .slice A_2 r3.1.length c_2), (13, .int .i64 r4.1), (14, .int .i64 r4.2), (15, .int .i64 (k : Int)), (16, .pointer (some ⟨b2, 0, none⟩)), (60, .slice A_2 r3.1.length c_2), (61, .int .i64 (r3.1.length : Int)), (62, .int .i64 (k : Int)), (86, .bool (!(FilterTrack.eqb x r5.1)))] rfl ⟨by kernel_rfl, by kernel_rfl⟩ ?_
              refine TQ.split 86 (!(FilterTrack.eqb x r5.1)) (by kernel_rfl) (fun h6 => ?_) (fun h6 => ?_)
              · refine TQ.run 24 [] [(1, .int .i64 r2), (2, .int .i64 radius), (3, .int .i64 accel), (4, .pointer (some ⟨b1, 0, none⟩)), (11, .slice A_2 r3.1.length c_2), (13, .int .i64 r4.1), (14, .int .i64 r4.2), (15, .int .i64 (k : Int)), (16, .pointer (some ⟨b2, 0, none⟩)), (60, .slice A_2 r3.1.length c_2), (61, .int .i64 (r3.1.length : Int)), (62, .int .i64 (k : Int)), (102, .bool true)] rfl ⟨by kernel_rfl, by kernel_rfl⟩ ?_
                refine TQ.next rfl ?_
                refine TC.condT rfl (by kernel_rfl) ?_
                refine TC.seq ?_
                refine TC.region ?_
                refine TL.run 1 [] [(8, .bool false)] rfl ⟨by kernel_rfl, by kernel_rfl⟩ ?_
                refine TL.next rfl ?_
                refine TC.ret ?_
                refine TE.ret_then (TE.ret_block (TE.ret_then (TE.ret_then (TE.ret_block (TE.ret_then (TE.ret_then ?_))))))
                have e : skywaykeep2_CoastAhead f seconds radius accel = false := by subst hr1 hr2 hr3 hr4 hr5; unfold skywaykeep2_CoastAhead; exact cond_f h1 (cond_f h2 (cond_f h3 (elim_r (hR.symm.trans (hI.trans (by rw [hd]; exact cond_f h5 (cond_t h6 (rfl))))) rfl)))
                exact TE.ret [] (.bool false) ⟨by kernel_rfl, by kernel_rfl⟩ (by rw [e]; first | done | kernel_rfl)
              · refine TQ.run 11 [] [(1, .int .i64 r2), (2, .int .i64 radius), (3, .int .i64 accel), (4, .pointer (some ⟨b1, 0, none⟩)), (11, .slice A_2 r3.1.length c_2), (13, .int .i64 r4.1), (14, .int .i64 r4.2), (15, .int .i64 (k : Int)), (16, .pointer (some ⟨b2, 0, none⟩)), (60, .slice A_2 r3.1.length c_2), (61, .int .i64 (r3.1.length : Int)), (62, .int .i64 (k : Int)), (86, .bool false), (89, .bool (decide ((k : Int) > 0)))] rfl ⟨by kernel_rfl, by kernel_rfl⟩ ?_
                refine TQ.split 89 (decide ((k : Int) > 0)) (by kernel_rfl) (fun h7 => ?_) (fun h7 => ?_)
                · refine TQ.run 17 [1] [(1, .int .i64 r2), (2, .int .i64 radius), (3, .int .i64 accel), (4, .pointer (some ⟨b1, 0, none⟩)), (11, .slice A_2 r3.1.length c_2), (13, .int .i64 r4.1), (14, .int .i64 r4.2), (15, .int .i64 (k : Int)), (16, .pointer (some ⟨b2, 0, none⟩)), (60, .slice A_2 r3.1.length c_2), (61, .int .i64 (r3.1.length : Int)), (62, .int .i64 (k : Int)), (86, .bool false), (89, .bool true), (92, .int .i64 x.Track.Radius), (93, .slice A_2 r3.1.length c_2), (95, .int .i64 (w64 ((k : Int) - 1)))] rfl ⟨by kernel_rfl, by kernel_rfl⟩ ?_
                  refine TQ.rw 95 (.int .i64 (w64 ((k : Int) - 1))) (.int .i64 ((k - 1 : Nat) : Int)) (by kernel_rfl) (w64_pred k (by have q0_ := (bne_f (or_f1 h1)); have q1_ := (bne_f (or_f2 h1)); have q2_ := (bne_f h2); have q3_ := (bne_f h3); have q4_ := (bne_f h5); have q5_ := (dec_t h7); first | omega | (simp only [List.length_drop]; omega) | (simp only [w64_eq]; omega) | exact (tm_in (by (first | (rw [w64_id (by omega)]; omega) | (simp only [w64_eq]; omega))) (by omega)).1 | exact (tm_in (by (first | (rw [w64_id (by omega)]; omega) | (simp only [w64_eq]; omega))) (by omega)).2.1 | exact (tm_in (by (first | (rw [w64_id (by omega)]; omega) | (simp only [w64_eq]; omega))) (by omega)).2.2 | (simp <;> omega))) ?_
                  refine TQ.val (sV (Instr.indexAt 30 (.slice A_2 r3.1.length c_2) (.int .i64 ((k - 1 : Nat) : Int)))) (some 96) (.pointer (some ((A_2.getD noAddr).add ((k - 1) * 20)))) [(1, .int .i64 r2), (2, .int .i64 radius), (3, .int .i64 accel), (4, .pointer (some ⟨b1, 0, none⟩)), (11, .slice A_2 r3.1.length c_2), (13, .int .i64 r4.1), (14, .int .i64 r4.2), (15, .int .i64 (k : Int)), (16, .pointer (some ⟨b2, 0, none⟩)), (60, .slice A_2 r3.1.length c_2), (61, .int .i64 (r3.1.length : Int)), (62, .int .i64 (k : Int)), (86, .bool false), (89, .bool true), (92, .int .i64 x.Track.Radius), (96, .pointer (some ((A_2.getD noAddr).add ((k - 1) * 20))))] (fun w hM => run_index (hM.rd_at 2 rfl) (by simp) (by kernel_rfl) (by have q0_ := (bne_f (or_f1 h1)); have q1_ := (bne_f (or_f2 h1)); have q2_ := (bne_f h2); have q3_ := (bne_f h3); have q4_ := (bne_f h5); have q5_ := (dec_t h7); first | omega | (simp only [List.length_drop]; omega) | (simp only [w64_eq]; omega) | exact (tm_in (by (first | (rw [w64_id (by omega)]; omega) | (simp only [w64_eq]; omega))) (by omega)).1 | exact (tm_in (by (first | (rw [w64_id (by omega)]; omega) | (simp only [w64_eq]; omega))) (by omega)).2.1 | exact (tm_in (by (first | (rw [w64_id (by omega)]; omega) | (simp only [w64_eq]; omega))) (by omega)).2.2 | (simp <;> omega)) (by have q0_ := (bne_f (or_f1 h1)); have q1_ := (bne_f (or_f2 h1)); have q2_ := (bne_f h2); have q3_ := (bne_f h3); have q4_ := (bne_f h5); have q5_ := (dec_t h7); first | omega | (simp only [List.length_drop]; omega) | (simp only [w64_eq]; omega) | exact (tm_in (by (first | (rw [w64_id (by omega)]; omega) | (simp only [w64_eq]; omega))) (by omega)).1 | exact (tm_in (by (first | (rw [w64_id (by omega)]; omega) | (simp only [w64_eq]; omega))) (by omega)).2.1 | exact (tm_in (by (first | (rw [w64_id (by omega)]; omega) | (simp only [w64_eq]; omega))) (by omega)).2.2 | (simp <;> omega))) rfl (by kernel_rfl) (by kernel_rfl) ?_
                  refine TQ.run 20 [] [(1, .int .i64 r2), (2, .int .i64 radius), (3, .int .i64 accel), (4, .pointer (some ⟨b1, 0, none⟩)), (11, .slice A_2 r3.1.length c_2), (13, .int .i64 r4.1), (14, .int .i64 r4.2), (15, .int .i64 (k : Int)), (16, .pointer (some ⟨b2, 0, none⟩)), (60, .slice A_2 r3.1.length c_2), (61, .int .i64 (r3.1.length : Int)), (62, .int .i64 (k : Int)), (86, .bool false), (89, .bool true), (92, .int .i64 x.Track.Radius), (98, .pointer (some (((A_2.getD noAddr).add ((k - 1) * 20)).add 9)))] rfl ⟨by kernel_rfl, by kernel_rfl⟩ ?_
                  refine TQ.val (sV (Instr.loadAt 3 (.pointer (some (((A_2.getD noAddr).add ((k - 1) * 20)).add 9))))) (some 99) (.int .i64 (((r3.1[(k - 1)]?.getD FilterTrack.zero).Track).Radius)) [(1, .int .i64 r2), (2, .int .i64 radius), (3, .int .i64 accel), (4, .pointer (some ⟨b1, 0, none⟩)), (11, .slice A_2 r3.1.length c_2), (13, .int .i64 r4.1), (14, .int .i64 r4.2), (15, .int .i64 (k : Int)), (16, .pointer (some ⟨b2, 0, none⟩)), (60, .slice A_2 r3.1.length c_2), (61, .int .i64 (r3.1.length : Int)), (62, .int .i64 (k : Int)), (86, .bool false), (89, .bool true), (92, .int .i64 x.Track.Radius), (99, .int .i64 (((r3.1[(k - 1)]?.getD FilterTrack.zero).Track).Radius))] (fun w hM => run_load_one (off := 9) (i := (k - 1)) (.int .i64 (((r3.1[(k - 1)]?.getD FilterTrack.zero).Track).Radius)) (hM.rd_at 2 rfl) (map_at (getD_at _ _ FilterTrack.zero (by have q0_ := (bne_f (or_f1 h1)); have q1_ := (bne_f (or_f2 h1)); have q2_ := (bne_f h2); have q3_ := (bne_f h3); have q4_ := (bne_f h5); have q5_ := (dec_t h7); first | omega | (simp only [List.length_drop]; omega) | (simp only [w64_eq]; omega) | exact (tm_in (by (first | (rw [w64_id (by omega)]; omega) | (simp only [w64_eq]; omega))) (by omega)).1 | exact (tm_in (by (first | (rw [w64_id (by omega)]; omega) | (simp only [w64_eq]; omega))) (by omega)).2.1 | exact (tm_in (by (first | (rw [w64_id (by omega)]; omega) | (simp only [w64_eq]; omega))) (by omega)).2.2 | (simp <;> omega)))) (by kernel_rfl) (by kernel_rfl)) rfl (by kernel_rfl) (by kernel_rfl) ?_
                  refine TQ.run 24 [] [(1, .int .i64 r2), (2, .int .i64 radius), (3, .int .i64 accel), (4, .pointer (some ⟨b1, 0, none⟩)), (11, .slice A_2 r3.1.length c_2), (13, .int .i64 r4.1), (14, .int .i64 r4.2), (15, .int .i64 (k : Int)), (16, .pointer (some ⟨b2, 0, none⟩)), (60, .slice A_2 r3.1.length c_2), (61, .int .i64 (r3.1.length : Int)), (62, .int .i64 (k : Int)), (102, .bool (decide (x.Track.Radius < (((r3.1[(k - 1)]?.getD FilterTrack.zero).Track).Radius))))] rfl ⟨by kernel_rfl, by kernel_rfl⟩ ?_
                  refine TQ.next rfl ?_
                  refine TC.cond (decide (x.Track.Radius < (((r3.1[(k - 1)]?.getD FilterTrack.zero).Track).Radius))) rfl (by kernel_rfl) (fun h8 => ?_) (fun h8 => ?_)
                  · refine TC.seq ?_
                    refine TC.region ?_
                    refine TL.run 1 [] [(8, .bool false)] rfl ⟨by kernel_rfl, by kernel_rfl⟩ ?_
                    refine TL.next rfl ?_
                    refine TC.ret ?_
                    refine TE.ret_then (TE.ret_block (TE.ret_then (TE.ret_then (TE.ret_block (TE.ret_then (TE.ret_then ?_))))))
                    have e : skywaykeep2_CoastAhead f seconds radius accel = false := by subst hr1 hr2 hr3 hr4 hr5; unfold skywaykeep2_CoastAhead; exact cond_f h1 (cond_f h2 (cond_f h3 (elim_r (hR.symm.trans (hI.trans (by rw [hd]; exact cond_f h5 (cond_f h6 (cond_t h7 (cond_t h8 (rfl))))))) rfl)))
                    exact TE.ret [] (.bool false) ⟨by kernel_rfl, by kernel_rfl⟩ (by rw [e]; first | done | kernel_rfl)
                  · refine TC.skip ?_
                    refine TE.next ?_
                    refine TC.seq ?_
                    refine TC.region ?_
                    refine TL.run 3 [] [(1, .int .i64 r2), (2, .int .i64 radius), (3, .int .i64 accel), (4, .pointer (some ⟨b1, 0, none⟩)), (11, .slice A_2 r3.1.length c_2), (13, .int .i64 r4.1), (14, .int .i64 r4.2), (15, .int .i64 (k : Int)), (16, .pointer (some ⟨b2, 0, none⟩)), (60, .slice A_2 r3.1.length c_2), (61, .int .i64 (r3.1.length : Int)), (62, .int .i64 (k : Int)), (105, .bool (r4.2 == 0))] rfl ⟨by kernel_rfl, by kernel_rfl⟩ ?_
                    refine TL.join 105 (r4.2 == 0) 14 [1] [] (fun β => [(1, .int .i64 r2), (2, .int .i64 radius), (3, .int .i64 accel), (4, .pointer (some ⟨b1, 0, none⟩)), (11, .slice A_2 r3.1.length c_2), (13, .int .i64 r4.1), (14, .int .i64 r4.2), (60, .slice A_2 r3.1.length c_2), (61, .int .i64 (r3.1.length : Int)), (62, .int .i64 (k : Int)), (116, .bool (β && (!((decide (x.Track.Radius > radius)) == (decide ((w64 ((k : Int) + 1)) ≥ r4.1))))))]) (by kernel_rfl) rfl ⟨by kernel_rfl, by kernel_rfl⟩ ⟨by kernel_rfl, by kernel_rfl⟩ ?_
                    refine TL.next rfl ?_
                    refine TC.cond ((r4.2 == 0) && (!((decide (x.Track.Radius > radius)) == (decide ((w64 ((k : Int) + 1)) ≥ r4.1))))) rfl (by kernel_rfl) (fun h9 => ?_) (fun h9 => ?_)
                    · refine TC.seq ?_
                      refine TC.region ?_
                      refine TL.run 1 [] [(8, .bool false)] rfl ⟨by kernel_rfl, by kernel_rfl⟩ ?_
                      refine TL.next rfl ?_
                      refine TC.ret ?_
                      refine TE.ret_block (TE.ret_then (TE.ret_then (TE.ret_block (TE.ret_then (TE.ret_then ?_)))))
                      have e : skywaykeep2_CoastAhead f seconds radius accel = false := by subst hr1 hr2 hr3 hr4 hr5; unfold skywaykeep2_CoastAhead; exact cond_f h1 (cond_f h2 (cond_f h3 (elim_r (hR.symm.trans (hI.trans (by rw [hd]; exact cond_f h5 (cond_f h6 (cond_t h7 (cond_f h8 (cond_t h9 (rfl)))))))) rfl)))
                      exact TE.ret [] (.bool false) ⟨by kernel_rfl, by kernel_rfl⟩ (by rw [e]; first | done | kernel_rfl)
                    · refine TC.skip ?_
                      refine TE.normal_block ?_
                      refine TE.next ?_
                      refine TC.region ?_
                      refine TL.run 2 [] [(1, .int .i64 r2), (2, .int .i64 radius), (3, .int .i64 accel), (4, .pointer (some ⟨b1, 0, none⟩)), (11, .slice A_2 r3.1.length c_2), (13, .int .i64 r4.1), (14, .int .i64 r4.2), (60, .slice A_2 r3.1.length c_2), (61, .int .i64 (r3.1.length : Int)), (62, .int .i64 (w64 ((k : Int) + 1)))] rfl ⟨by kernel_rfl, by kernel_rfl⟩ ?_
                      refine TL.done rfl ?_
                      refine TE.rw 62 (.int .i64 (w64 ((k : Int) + 1))) (.int .i64 ((k + 1 : Nat) : Int)) (by kernel_rfl) (w64_cast k (by omega)) ?_
                      exact TE.again (x := k) (k + 1) ⟨by omega, hI.trans (by subst hr1 hr2 hr3 hr4 hr5; rw [hd]; exact cond_f h5 (cond_f h6 (cond_t h7 (cond_f h8 (cond_f h9 (rfl))))))⟩ (by show r3.1.length - (k + 1) < r3.1.length - k; omega) (by kernel_rfl) (.cons _ (.cons _ (.cons_cons _ (.cons_cons _ (.slnil)))))
                · refine TQ.run 24 [] [(1, .int .i64 r2), (2, .int .i64 radius), (3, .int .i64 accel), (4, .pointer (some ⟨b1, 0, none⟩)), (11, .slice A_2 r3.1.length c_2), (13, .int .i64 r4.1), (14, .int .i64 r4.2), (15, .int .i64 (k : Int)), (16, .pointer (some ⟨b2, 0, none⟩)), (60, .slice A_2 r3.1.length c_2), (61, .int .i64 (r3.1.length : Int)), (62, .int .i64 (k : Int)), (102, .bool false)] rfl ⟨by kernel_rfl, by kernel_rfl⟩ ?_
                  refine TQ.next rfl ?_
                  refine TC.condF rfl (by kernel_rfl) ?_
                  refine TC.skip ?_
                  refine TE.next ?_
                  refine TC.seq ?_
                  refine TC.region ?_
                  refine TL.run 3 [] [(1, .int .i64 r2), (2, .int .i64 radius), (3, .int .i64 accel), (4, .pointer (some ⟨b1, 0, none⟩)), (11, .slice A_2 r3.1.length c_2), (13, .int .i64 r4.1), (14, .int .i64 r4.2), (15, .int .i64 (k : Int)), (16, .pointer (some ⟨b2, 0, none⟩)), (60, .slice A_2 r3.1.length c_2), (61, .int .i64 (r3.1.length : Int)), (62, .int .i64 (k : Int)), (105, .bool (r4.2 == 0))] rfl ⟨by kernel_rfl, by kernel_rfl⟩ ?_
                  refine TL.join 105 (r4.2 == 0) 14 [1] [] (fun β => [(1, .int .i64 r2), (2, .int .i64 radius), (3, .int .i64 accel), (4, .pointer (some ⟨b1, 0, none⟩)), (11, .slice A_2 r3.1.length c_2), (13, .int .i64 r4.1), (14, .int .i64 r4.2), (60, .slice A_2 r3.1.length c_2), (61, .int .i64 (r3.1.length : Int)), (62, .int .i64 (k : Int)), (116, .bool (β && (!((decide (x.Track.Radius > radius)) == (decide ((w64 ((k : Int) + 1)) ≥ r4.1))))))]) (by kernel_rfl) rfl ⟨by kernel_rfl, by kernel_rfl⟩ ⟨by kernel_rfl, by kernel_rfl⟩ ?_
                  refine TL.next rfl ?_
                  refine TC.cond ((r4.2 == 0) && (!((decide (x.Track.Radius > radius)) == (decide ((w64 ((k : Int) + 1)) ≥ r4.1))))) rfl (by kernel_rfl) (fun h10 => ?_) (fun h10 => ?_)
                  · refine TC.seq ?_
                    refine TC.region ?_
                    refine TL.run 1 [] [(8, .bool false)] rfl ⟨by kernel_rfl, by kernel_rfl⟩ ?_
                    refine TL.next rfl ?_
                    refine TC.ret ?_
                    refine TE.ret_block (TE.ret_then (TE.ret_then (TE.ret_block (TE.ret_then (TE.ret_then ?_)))))
                    have e : skywaykeep2_CoastAhead f seconds radius accel = false := by subst hr1 hr2 hr3 hr4 hr5; unfold skywaykeep2_CoastAhead; exact cond_f h1 (cond_f h2 (cond_f h3 (elim_r (hR.symm.trans (hI.trans (by rw [hd]; exact cond_f h5 (cond_f h6 (cond_f h7 (cond_t h10 (rfl))))))) rfl)))
                    exact TE.ret [] (.bool false) ⟨by kernel_rfl, by kernel_rfl⟩ (by rw [e]; first | done | kernel_rfl)
                  · refine TC.skip ?_
                    refine TE.normal_block ?_
                    refine TE.next ?_
                    refine TC.region ?_
                    refine TL.run 2 [] [(1, .int .i64 r2), (2, .int .i64 radius), (3, .int .i64 accel), (4, .pointer (some ⟨b1, 0, none⟩)), (11, .slice A_2 r3.1.length c_2), (13, .int .i64 r4.1), (14, .int .i64 r4.2), (60, .slice A_2 r3.1.length c_2), (61, .int .i64 (r3.1.length : Int)), (62, .int .i64 (w64 ((k : Int) + 1)))] rfl ⟨by kernel_rfl, by kernel_rfl⟩ ?_
                    refine TL.done rfl ?_
                    refine TE.rw 62 (.int .i64 (w64 ((k : Int) + 1))) (.int .i64 ((k + 1 : Nat) : Int)) (by kernel_rfl) (w64_cast k (by omega)) ?_
                    exact TE.again (x := k) (k + 1) ⟨by omega, hI.trans (by subst hr1 hr2 hr3 hr4 hr5; rw [hd]; exact cond_f h5 (cond_f h6 (cond_f h7 (cond_f h10 (rfl)))))⟩ (by show r3.1.length - (k + 1) < r3.1.length - k; omega) (by kernel_rfl) (.cons _ (.cons _ (.cons_cons _ (.cons_cons _ (.slnil)))))
          · have hd : r3.1.drop k = [] := List.drop_eq_nil_of_le (by have := of_decide_eq_false h4; first | omega | (simp at this; omega))
            refine TC.exit ?_
            refine TE.exit_then (TE.exit_then (TE.exit_same ?_))
            exact TE.cut () (hI.trans (by subst hr1 hr2 hr3 hr4; rw [hd]; exact rfl)) (by kernel_rfl) (.cons_cons _ (.cons_cons _ (.slnil)))
        · intro _ hJ
          refine TE.next ?_
          refine TC.seq ?_
          refine TC.region ?_
          refine TL.run 5 [] [(2, .int .i64 radius), (4, .pointer (some ⟨b1, 0, none⟩)), (13, .int .i64 r4.1), (14, .int .i64 r4.2), (122, .bool (decide ((r3.1.length : Int) ≤ r2)))] rfl ⟨by kernel_rfl, by kernel_rfl⟩ ?_
          refine TL.split 122 (decide ((r3.1.length : Int) ≤ r2)) (by kernel_rfl) (fun h11 => ?_) (fun h11 => ?_)
          · refine TL.run 8 [] [(2, .int .i64 radius), (4, .pointer (some ⟨b1, 0, none⟩)), (13, .int .i64 r4.1), (122, .bool true), (125, .bool (r4.2 != 0))] rfl ⟨by kernel_rfl, by kernel_rfl⟩ ?_
            refine TL.split 125 (r4.2 != 0) (by kernel_rfl) (fun h12 => ?_) (fun h12 => ?_)
            · refine TL.run 19 [] [(8, .bool true)] rfl ⟨by kernel_rfl, by kernel_rfl⟩ ?_
              refine TL.next rfl ?_
              refine TC.ret ?_
              have e : skywaykeep2_CoastAhead f seconds radius accel = true := by subst hr1 hr2 hr3 hr4; unfold skywaykeep2_CoastAhead; exact cond_f h1 (cond_f h2 (cond_f h3 (elim_l (hR.symm.trans hJ) (cond_t h11 (cond_t h12 (rfl))))))
              exact TE.ret [] (.bool true) ⟨by kernel_rfl, by kernel_rfl⟩ (by rw [e]; first | done | kernel_rfl)
            · refine TL.run 19 [1] [(8, .bool ((r4.1 == 0) == (decide (f.Track.Radius > radius))))] rfl ⟨by kernel_rfl, by kernel_rfl⟩ ?_
              refine TL.next rfl ?_
              refine TC.ret ?_
              have e : skywaykeep2_CoastAhead f seconds radius accel = ((r4.1 == 0) == (decide (f.Track.Radius > radius))) := by subst hr1 hr2 hr3 hr4; unfold skywaykeep2_CoastAhead; exact cond_f h1 (cond_f h2 (cond_f h3 (elim_l (hR.symm.trans hJ) (cond_t h11 (cond_f h12 (rfl))))))
              exact TE.ret [] (.bool ((r4.1 == 0) == (decide (f.Track.Radius > radius)))) ⟨by kernel_rfl, by kernel_rfl⟩ (by rw [e]; first | done | kernel_rfl)
          · refine TL.run 19 [] [(8, .bool false)] rfl ⟨by kernel_rfl, by kernel_rfl⟩ ?_
            refine TL.next rfl ?_
            refine TC.ret ?_
            have e : skywaykeep2_CoastAhead f seconds radius accel = false := by subst hr1 hr2 hr3 hr4; unfold skywaykeep2_CoastAhead; exact cond_f h1 (cond_f h2 (cond_f h3 (elim_l (hR.symm.trans hJ) (cond_f h11 (rfl)))))
            exact TE.ret [] (.bool false) ⟨by kernel_rfl, by kernel_rfl⟩ (by rw [e]; first | done | kernel_rfl)

end Go.Sky
