/- Functions of the program, each with the Lean function that it computes. Conditions: none. -/
import Derived.Test.YtkjdmkgacmkpjaaPairK
import Derived.Test.YtkjdmkgacmkpjaaVe
namespace Go.Sky
open Go Go.Eng Go.Proofs
def pair_Costs_L2 (codes : List Int) (x : Track) : List (List TubeNode) → Nat → (List Int) → (List Int)
  | [], _, row => row
  | x_2 :: xs, k_2, row => let r3 := pair_fits x x_2
    cond (!r3.2) (
      pair_Costs_L2 codes x xs (k_2 + 1) (row.set k_2 (-1))) (
      cond (x.Code != (-1)) (
        cond (x.Code != (codes[k_2]?.getD 0)) (
          pair_Costs_L2 codes x xs (k_2 + 1) (row.set k_2 (-1))) (
          cond (x.Code == (-1)) (
            let r4 := plane_Square x.At r3.1.Node.At
            pair_Costs_L2 codes x xs (k_2 + 1) (row.set k_2 (w64 ((w64 (r4.tdiv 10000)) + 1048576)))) (
            let r5 := plane_Square x.At r3.1.Node.At
            pair_Costs_L2 codes x xs (k_2 + 1) (row.set k_2 (w64 (r5.tdiv 10000)))))) (
        cond (x.Code == (-1)) (
          let r6 := plane_Square x.At r3.1.Node.At
          pair_Costs_L2 codes x xs (k_2 + 1) (row.set k_2 (w64 ((w64 (r6.tdiv 10000)) + 1048576)))) (
          let r7 := plane_Square x.At r3.1.Node.At
          pair_Costs_L2 codes x xs (k_2 + 1) (row.set k_2 (w64 (r7.tdiv 10000))))))
def pair_Costs_L1 (tubes : List (List TubeNode)) (codes : List Int) : List Track → Nat → (List (List Int)) → ((List (List Int)) ⊕ (List (List Int) × Int))
  | [], _, out => .inl out
  | x :: xs, k, out => let r2 := gate_CheckTrack x
    cond (r2 != 0) (
      .inr ([], r2)) (
      bindv (pair_Costs_L2 codes x tubes 0 (List.replicate ((tubes.length : Int).toNat) (0:Int))) (fun row_2 =>
        pair_Costs_L1 tubes codes xs (k + 1) (out ++ [row_2])))
def pair_Costs (tracks : List Track) (tubes : List (List TubeNode)) (codes : List Int) : List (List Int) × Int :=
  cond (decide ((tracks.length : Int) > 32)) (
    ([], 2)) (
    let r1 := pair_Check tubes codes
    cond (r1 != 0) (
      ([], r1)) (
      Sum.elim (fun out_2 =>
        (out_2, 0)) (fun r => r) (pair_Costs_L1 tubes codes tracks 0 ([] : List (List Int)))))

set_option maxRecDepth 100000 in
theorem pair_Costs_w (A_tracks : Option Addr) (c_tracks : Nat) (tracks : List Track) (A_tubes : Option Addr) (c_tubes : Nat) (tubes : List (List TubeNode)) (o_tubes : List (Sl TubeNode)) (A_codes : Option Addr) (c_codes : Nat) (codes : List Int) (w : World) (h_tracks : Rd w 13 A_tracks (tracks.map Track.c)) (_hc_tracks : tracks.length ≤ c_tracks) (h_tubes : Rd w 1 A_tubes (o_tubes.map Sl.c)) (hc_tubes : tubes.length ≤ c_tubes) (hd_tubes : ∀ s ∈ o_tubes, s.rd w 6 TubeNode.c) (he_tubes : tubes = o_tubes.map Sl.l) (h_codes : Rd w 1 A_codes (codes.map ic)) (hc_codes : codes.length ≤ c_codes) : Calls Try.prog 77 #[.slice A_tracks tracks.length c_tracks, .slice A_tubes tubes.length c_tubes, .slice A_codes codes.length c_codes] w (RetM (Γ := ((Option Addr × Nat) × List (Sl Int))) (cx w) (fun g => .tuple #[.slice g.1.1 ((pair_Costs tracks tubes codes).1.length) g.1.2, .int .i64 ((pair_Costs tracks tubes codes).2)]) (fun g => [.inr (Fact ((pair_Costs tracks tubes codes).1 = g.2.map Sl.l)), .inr (Own g.1.1 g.1.2 62 1 (g.2.map Sl.c)), .inr (Bag 3 1 ic g.2)])) := by
  have s_tracks := h_tracks.short; rw [List.length_map] at s_tracks
  have s_tubes := h_tubes.short; rw [← sl_len he_tubes] at s_tubes
  have s_codes := h_codes.short; rw [List.length_map] at s_codes
  refine calls_intro (vs := [.slice A_tracks tracks.length c_tracks, .slice A_tubes tubes.length c_tubes, .slice A_codes codes.length c_codes]) (w := w) Try.func77 rfl Try.ntmps77 rfl ?_
  refine TC.weak [(0, .slice A_tracks tracks.length c_tracks), (1, .slice A_tubes tubes.length c_tubes), (2, .slice A_codes codes.length c_codes)] (by kernel_rfl) ?_
  refine TC.seq ?_
  refine TC.region ?_
  refine TL.run 2 [] [(0, .slice A_tracks tracks.length c_tracks), (1, .slice A_tubes tubes.length c_tubes), (2, .slice A_codes codes.length c_codes)] rfl ⟨by kernel_rfl, by kernel_rfl⟩ ?_
  refine TL.next rfl ?_
  refine TC.seq ?_
  refine TC.seq ?_
  refine TC.region ?_
  refine TL.run 3 [] [(0, .slice A_tracks tracks.length c_tracks), (1, .slice A_tubes tubes.length c_tubes), (2, .slice A_codes codes.length c_codes), (20, .bool (decide ((tracks.length : Int) > 32)))] rfl ⟨by kernel_rfl, by kernel_rfl⟩ ?_
  refine TL.next rfl ?_
  refine TC.cond (decide ((tracks.length : Int) > 32)) rfl (by kernel_rfl) (fun h1 => ?_) (fun h1 => ?_)
  · refine TC.seq ?_
    refine TC.region ?_
    refine TL.run 2 [] [(6, .slice none 0 0), (7, .int .i64 2)] rfl ⟨by kernel_rfl, by kernel_rfl⟩ ?_
    refine TL.next rfl ?_
    refine TC.ret ?_
    refine TE.ret_then ?_
    have e : pair_Costs tracks tubes codes = ([], 2) := by unfold pair_Costs; exact cond_t h1 (rfl)
    refine TE.conv [.inr (Own none 0 62 1 (([] : List (Sl Int)).map Sl.c)), .inr (Bag 3 1 ic ([] : List (Sl Int)))] (fun _ hM => (hM.bag_nil 3 1 ic).emptyrow none 62 1) ?_
    rw [e]
    exact TE.retM (.inl rfl) ((none, 0), ([] : List (Sl Int))) [] (.tuple #[.slice none 0 0, .int .i64 2]) ⟨by kernel_rfl, by kernel_rfl⟩ rfl (fun _ hM => (hM.sub (.cons_cons _ (.cons_cons _ (.slnil)))).fact rfl)
  · refine TC.skip ?_
    refine TE.next ?_
    refine TC.seq ?_
    refine TC.seq ?_
    refine TC.region ?_
    refine TL.run 2 [] [(0, .slice A_tracks tracks.length c_tracks), (1, .slice A_tubes tubes.length c_tubes), (2, .slice A_codes codes.length c_codes), (21, .slice A_tubes tubes.length c_tubes), (22, .slice A_codes codes.length c_codes)] rfl ⟨by kernel_rfl, by kernel_rfl⟩ ?_
    refine TL.call (some 23) [(0, .slice A_tracks tracks.length c_tracks), (1, .slice A_tubes tubes.length c_tubes), (2, .slice A_codes codes.length c_codes), (23, .int .i64 (pair_Check tubes codes))] (fun w hM => pair_Check_w A_tubes c_tubes tubes o_tubes A_codes c_codes codes w (h_tubes.sat hM) hc_tubes (fun s hs => (hd_tubes s hs).sat hM) he_tubes (h_codes.sat hM) hc_codes) (by kernel_rfl) (by kernel_rfl) ?_
    generalize hr1 : pair_Check tubes codes = r1
    refine TL.run 4 [] [(0, .slice A_tracks tracks.length c_tracks), (1, .slice A_tubes tubes.length c_tubes), (2, .slice A_codes codes.length c_codes), (8, .int .i64 r1)] rfl ⟨by kernel_rfl, by kernel_rfl⟩ ?_
    refine TL.next rfl ?_
    refine TC.seq ?_
    refine TC.region ?_
    refine TL.run 2 [] [(0, .slice A_tracks tracks.length c_tracks), (1, .slice A_tubes tubes.length c_tubes), (2, .slice A_codes codes.length c_codes), (8, .int .i64 r1), (25, .bool (r1 != 0))] rfl ⟨by kernel_rfl, by kernel_rfl⟩ ?_
    refine TL.next rfl ?_
    refine TC.cond (r1 != 0) rfl (by kernel_rfl) (fun h2 => ?_) (fun h2 => ?_)
    · refine TC.seq ?_
      refine TC.region ?_
      refine TL.run 3 [] [(6, .slice none 0 0), (7, .int .i64 r1)] rfl ⟨by kernel_rfl, by kernel_rfl⟩ ?_
      refine TL.next rfl ?_
      refine TC.ret ?_
      refine TE.ret_then ?_
      have e : pair_Costs tracks tubes codes = ([], r1) := by subst hr1; unfold pair_Costs; exact cond_f h1 (cond_t h2 (rfl))
      refine TE.conv [.inr (Own none 0 62 1 (([] : List (Sl Int)).map Sl.c)), .inr (Bag 3 1 ic ([] : List (Sl Int)))] (fun _ hM => (hM.bag_nil 3 1 ic).emptyrow none 62 1) ?_
      rw [e]
      exact TE.retM (.inl rfl) ((none, 0), ([] : List (Sl Int))) [] (.tuple #[.slice none 0 0, .int .i64 r1]) ⟨by kernel_rfl, by kernel_rfl⟩ rfl (fun _ hM => (hM.sub (.cons_cons _ (.cons_cons _ (.slnil)))).fact rfl)
    · refine TC.skip ?_
      refine TE.next ?_
      refine TC.seq ?_
      refine TC.region ?_
      refine TL.run 1 [] [(0, .slice A_tracks tracks.length c_tracks), (1, .slice A_tubes tubes.length c_tubes), (2, .slice A_codes codes.length c_codes), (9, .slice none 0 0)] rfl ⟨by kernel_rfl, by kernel_rfl⟩ ?_
      refine TL.next rfl ?_
      refine TC.seq ?_
      refine TC.seq ?_
      refine TC.region ?_
      refine TL.run 3 [] [(1, .slice A_tubes tubes.length c_tubes), (2, .slice A_codes codes.length c_codes), (9, .slice none 0 0), (27, .slice A_tracks tracks.length c_tracks), (28, .int .i64 (tracks.length : Int)), (29, .int .i64 0)] rfl ⟨by kernel_rfl, by kernel_rfl⟩ ?_
      refine TL.next rfl ?_
      refine TC.conv [.inr (Own none 0 62 1 (([] : List (Sl Int)).map Sl.c)), .inr (Bag 3 1 ic ([] : List (Sl Int)))] (fun _ hM => (hM.bag_nil 3 1 ic).emptyrow none 62 1) ?_
      refine TC.weak [(1, .slice A_tubes tubes.length c_tubes), (2, .slice A_codes codes.length c_codes), (9, .slice none (([] : List (List Int)).length) 0), (27, .slice A_tracks tracks.length c_tracks), (28, .int .i64 (tracks.length : Int)), (29, .int .i64 0)] (by kernel_rfl) ?_
      obtain ⟨R4, hR⟩ : ∃ R, R = pair_Costs_L1 tubes codes tracks 0 ([] : List (List Int)) := ⟨_, rfl⟩
      refine TC.cut (S := (List (List Int)) × (Option Addr) × Nat × (List (Sl Int))) (fun (out_2, A_out_2, c_out_2, o_out_2) => [(9, .slice A_out_2 out_2.length c_out_2)]) (fun (out_2, A_out_2, c_out_2, o_out_2) => [.inr (Own A_out_2 c_out_2 62 1 (o_out_2.map Sl.c)), .inr (Bag 3 1 ic o_out_2)]) (fun (out_2, A_out_2, c_out_2, o_out_2) => R4 = .inl out_2 ∧ out_2.length ≤ tracks.length ∧ (out_2 = o_out_2.map Sl.l)) ?_ ?_
      · refine TC.block ?_
        refine TC.loop (X := Nat × (List (List Int)) × (Option Addr) × Nat × (List (Sl Int))) (fun (k, out, A_out, c_out, o_out) => [(1, .slice A_tubes tubes.length c_tubes), (2, .slice A_codes codes.length c_codes), (9, .slice A_out out.length c_out), (27, .slice A_tracks tracks.length c_tracks), (28, .int .i64 (tracks.length : Int)), (29, .int .i64 (k : Int))]) (fun (k, out, A_out, c_out, o_out) => [.inr (Own A_out c_out 62 1 (o_out.map Sl.c)), .inr (Bag 3 1 ic o_out)]) (fun (k, out, A_out, c_out, o_out) => tracks.length - k) (fun (k, out, A_out, c_out, o_out) => k ≤ tracks.length ∧ R4 = pair_Costs_L1 tubes codes (tracks.drop k) k out ∧ out.length ≤ k ∧ (out = o_out.map Sl.l)) ?_ (0, ([] : List (List Int)), none, 0, ([] : List (Sl Int))) ⟨Nat.zero_le _, hR, (by first | omega | (simp; omega) | simp), rfl⟩
        rintro ⟨k, out, A_out, c_out, o_out⟩ ⟨hk, hI, hl_out, hl_he_out⟩
        refine TC.seq ?_
        refine TC.region ?_
        refine TL.run 1 [] [(1, .slice A_tubes tubes.length c_tubes), (2, .slice A_codes codes.length c_codes), (9, .slice A_out out.length c_out), (27, .slice A_tracks tracks.length c_tracks), (28, .int .i64 (tracks.length : Int)), (29, .int .i64 (k : Int)), (30, .bool (decide ((k : Int) < (tracks.length : Int))))] rfl ⟨by kernel_rfl, by kernel_rfl⟩ ?_
        refine TL.next rfl ?_
        refine TC.seq ?_
        refine TC.cond (decide ((k : Int) < (tracks.length : Int))) rfl (by kernel_rfl) (fun h3 => ?_) (fun h3 => ?_)
        · have hlt : k < tracks.length := by have := of_decide_eq_true h3; first | omega | (simp at this; omega)
          obtain ⟨x, hx⟩ : ∃ e_, tracks[k]? = some e_ := ⟨_, List.getElem?_eq_getElem hlt⟩
          have hd := drop_at hx
          refine TC.skip ?_
          refine TE.next ?_
          refine TC.seq ?_
          refine TC.block ?_
          refine TC.seq ?_
          refine TC.region ?_
          refine TL.val (sV (Instr.indexAt 83 (.slice A_tracks tracks.length c_tracks) (.int .i64 (k : Int)))) (some 31) (.pointer (some ((A_tracks.getD noAddr).add (k * 13)))) [(1, .slice A_tubes tubes.length c_tubes), (2, .slice A_codes codes.length c_codes), (9, .slice A_out out.length c_out), (27, .slice A_tracks tracks.length c_tracks), (28, .int .i64 (tracks.length : Int)), (29, .int .i64 (k : Int)), (31, .pointer (some ((A_tracks.getD noAddr).add (k * 13))))] (fun w hM => run_index (h_tracks.sat hM) (by simp) (by kernel_rfl) (by have q0_ := (dec_f h1); have q1_ := (bne_f h2); (try have kc_ := pcheck_know hr1 ‹(r1 != 0) = false›); first | omega | (rw [List.length_set]; omega) | (dsimp only; omega) | (rw [List.length_drop]; omega) | (simp only [w64_eq]; omega) | exact (tm_in (by (first | (rw [w64_id (by omega)]; omega) | (simp only [w64_eq]; omega))) (by omega)).1 | exact (tm_in (by (first | (rw [w64_id (by omega)]; omega) | (simp only [w64_eq]; omega))) (by omega)).2.1 | exact (tm_in (by (first | (rw [w64_id (by omega)]; omega) | (simp only [w64_eq]; omega))) (by omega)).2.2 | (simp only [List.length_take] at *; omega) | (simp <;> omega)) (by have q0_ := (dec_f h1); have q1_ := (bne_f h2); (try have kc_ := pcheck_know hr1 ‹(r1 != 0) = false›); first | omega | (rw [List.length_set]; omega) | (dsimp only; omega) | (rw [List.length_drop]; omega) | (simp only [w64_eq]; omega) | exact (tm_in (by (first | (rw [w64_id (by omega)]; omega) | (simp only [w64_eq]; omega))) (by omega)).1 | exact (tm_in (by (first | (rw [w64_id (by omega)]; omega) | (simp only [w64_eq]; omega))) (by omega)).2.1 | exact (tm_in (by (first | (rw [w64_id (by omega)]; omega) | (simp only [w64_eq]; omega))) (by omega)).2.2 | (simp only [List.length_take] at *; omega) | (simp <;> omega))) (by kernel_rfl) (by kernel_rfl) ?_
          refine TL.val (sV (Instr.loadAt 25 (.pointer (some ((A_tracks.getD noAddr).add (k * 13)))))) (some 32) (Track.v x) [(1, .slice A_tubes tubes.length c_tubes), (2, .slice A_codes codes.length c_codes), (9, .slice A_out out.length c_out), (27, .slice A_tracks tracks.length c_tracks), (28, .int .i64 (tracks.length : Int)), (29, .int .i64 (k : Int)), (32, Track.v x)] (fun w hM => run_load_agg (n := 13) (off := 0) (i := k) (Track.v x) (h_tracks.sat hM) (map_at hx) (by kernel_rfl) (by kernel_rfl) (by kernel_rfl)) (by kernel_rfl) (by kernel_rfl) ?_
          refine TL.write 0 (fun b1 => [(1, .slice A_tubes tubes.length c_tubes), (2, .slice A_codes codes.length c_codes), (9, .slice A_out out.length c_out), (11, .pointer (some ⟨b1, 0, none⟩)), (27, .slice A_tracks tracks.length c_tracks), (28, .int .i64 (tracks.length : Int)), (29, .int .i64 (k : Int)), (32, Track.v x)]) (fun b1 => [.inl (b1, .cells (Track.c Track.zero) 25 (0, 0)), .inr (Own A_out c_out 62 1 (o_out.map Sl.c)), .inr (Bag 3 1 ic o_out)]) (fun b1 => ⟨by kernel_rfl, by kernel_rfl⟩) (fun b1 => ?_)
          refine TL.write 0 (fun _ => [(1, .slice A_tubes tubes.length c_tubes), (2, .slice A_codes codes.length c_codes), (9, .slice A_out out.length c_out), (11, .pointer (some ⟨b1, 0, none⟩)), (27, .slice A_tracks tracks.length c_tracks), (28, .int .i64 (tracks.length : Int)), (29, .int .i64 (k : Int))]) (fun _ => [.inl (b1, .cells (Track.c x) 25 (0, 0)), .inr (Own A_out c_out 62 1 (o_out.map Sl.c)), .inr (Bag 3 1 ic o_out)]) (fun _ => ⟨by kernel_rfl, by kernel_rfl⟩) (fun _ => ?_)
          refine TL.next rfl ?_
          refine TC.seq ?_
          refine TC.seq ?_
          refine TC.region ?_
          refine TL.run 1 [0] [(1, .slice A_tubes tubes.length c_tubes), (2, .slice A_codes codes.length c_codes), (9, .slice A_out out.length c_out), (11, .pointer (some ⟨b1, 0, none⟩)), (27, .slice A_tracks tracks.length c_tracks), (28, .int .i64 (tracks.length : Int)), (29, .int .i64 (k : Int)), (33, Track.v x)] rfl ⟨by kernel_rfl, by kernel_rfl⟩ ?_
          refine TL.call (some 34) [(1, .slice A_tubes tubes.length c_tubes), (2, .slice A_codes codes.length c_codes), (9, .slice A_out out.length c_out), (11, .pointer (some ⟨b1, 0, none⟩)), (27, .slice A_tracks tracks.length c_tracks), (28, .int .i64 (tracks.length : Int)), (29, .int .i64 (k : Int)), (34, .int .i64 (gate_CheckTrack x))] (fun w _ => gate_CheckTrack_w x w) (by kernel_rfl) (by kernel_rfl) ?_
          generalize hr2 : gate_CheckTrack x = r2
          refine TL.run 3 [] [(1, .slice A_tubes tubes.length c_tubes), (2, .slice A_codes codes.length c_codes), (9, .slice A_out out.length c_out), (11, .pointer (some ⟨b1, 0, none⟩)), (12, .int .i64 r2), (27, .slice A_tracks tracks.length c_tracks), (28, .int .i64 (tracks.length : Int)), (29, .int .i64 (k : Int))] rfl ⟨by kernel_rfl, by kernel_rfl⟩ ?_
          refine TL.next rfl ?_
          refine TC.seq ?_
          refine TC.region ?_
          refine TL.run 2 [] [(1, .slice A_tubes tubes.length c_tubes), (2, .slice A_codes codes.length c_codes), (9, .slice A_out out.length c_out), (11, .pointer (some ⟨b1, 0, none⟩)), (12, .int .i64 r2), (27, .slice A_tracks tracks.length c_tracks), (28, .int .i64 (tracks.length : Int)), (29, .int .i64 (k : Int)), (36, .bool (r2 != 0))] rfl ⟨by kernel_rfl, by kernel_rfl⟩ ?_
          refine TL.next rfl ?_
          refine TC.cond (r2 != 0) rfl (by kernel_rfl) (fun h4 => ?_) (fun h4 => ?_)
          · refine TC.seq ?_
            refine TC.region ?_
            refine TL.run 3 [] [(6, .slice none 0 0), (7, .int .i64 r2)] rfl ⟨by kernel_rfl, by kernel_rfl⟩ ?_
            refine TL.next rfl ?_
            refine TC.ret ?_
            refine TE.ret_then (TE.ret_block (TE.ret_then (TE.ret_then (TE.ret_block (TE.ret_then (TE.ret_then ?_))))))
            have e : pair_Costs tracks tubes codes = ([], r2) := by subst hr1 hr2; unfold pair_Costs; exact cond_f h1 (cond_f h2 (elim_r (hR.symm.trans (hI.trans (by rw [hd]; exact cond_t h4 (rfl)))) rfl))
            refine TE.conv [.inr (Own none 0 62 1 (([] : List (Sl Int)).map Sl.c)), .inr (Bag 3 1 ic ([] : List (Sl Int))), .inl (b1, .cells (Track.c x) 25 (0, 0)), .inr (Own A_out c_out 62 1 (o_out.map Sl.c)), .inr (Bag 3 1 ic o_out)] (fun _ hM => (hM.bag_nil 3 1 ic).emptyrow none 62 1) ?_
            rw [e]
            exact TE.retM (.inl rfl) ((none, 0), ([] : List (Sl Int))) [] (.tuple #[.slice none 0 0, .int .i64 r2]) ⟨by kernel_rfl, by kernel_rfl⟩ rfl (fun _ hM => (hM.sub (.cons_cons _ (.cons_cons _ (.cons _ (.cons _ (.cons _ (.slnil))))))).fact rfl)
          · refine TC.skip ?_
            refine TE.next ?_
            refine TC.seq ?_
            refine TC.region ?_
            refine TL.run 2 [] [(1, .slice A_tubes tubes.length c_tubes), (2, .slice A_codes codes.length c_codes), (9, .slice A_out out.length c_out), (11, .pointer (some ⟨b1, 0, none⟩)), (27, .slice A_tracks tracks.length c_tracks), (28, .int .i64 (tracks.length : Int)), (29, .int .i64 (k : Int)), (39, .int .i64 (tubes.length : Int))] rfl ⟨by kernel_rfl, by kernel_rfl⟩ ?_
            refine TL.opM (Γ := Option Addr × Nat) (sV (Instr.makeSlice 62 (.int .i64 (tubes.length : Int)) (.int .i64 (tubes.length : Int)))) (some 40) (fun g => .slice g.1 (List.replicate ((tubes.length : Int).toNat) (0:Int)).length g.2) (fun g => [.inr (Own g.1 g.2 3 1 ((List.replicate ((tubes.length : Int).toNat) (0:Int)).map ic)), .inl (b1, .cells (Track.c x) 25 (0, 0)), .inr (Own A_out c_out 62 1 (o_out.map Sl.c)), .inr (Bag 3 1 ic o_out)]) (fun g => [(1, .slice A_tubes tubes.length c_tubes), (2, .slice A_codes codes.length c_codes), (9, .slice A_out out.length c_out), (11, .pointer (some ⟨b1, 0, none⟩)), (27, .slice A_tracks tracks.length c_tracks), (28, .int .i64 (tracks.length : Int)), (29, .int .i64 (k : Int)), (40, .slice g.1 ((List.replicate ((tubes.length : Int).toNat) (0:Int)).length) g.2)]) (make_at (P := Try.prog) (c := ic) (t := 62) (e := 3) (sz := 1) (bytes := 8) 0 .i64 .i64 ((tubes.length : Int).toNat) (by kernel_rfl) (by kernel_rfl) (by have q0_ := (dec_f h1); have q1_ := (bne_f h2); have q2_ := (bne_f h4); (try have kc_ := pcheck_know hr1 ‹(r1 != 0) = false›); first | omega | (rw [List.length_set]; omega) | (dsimp only; omega) | (rw [List.length_drop]; omega) | (simp only [w64_eq]; omega) | exact (tm_in (by (first | (rw [w64_id (by omega)]; omega) | (simp only [w64_eq]; omega))) (by omega)).1 | exact (tm_in (by (first | (rw [w64_id (by omega)]; omega) | (simp only [w64_eq]; omega))) (by omega)).2.1 | exact (tm_in (by (first | (rw [w64_id (by omega)]; omega) | (simp only [w64_eq]; omega))) (by omega)).2.2 | (simp only [List.length_take] at *; omega) | (simp <;> omega)) (by have q0_ := (dec_f h1); have q1_ := (bne_f h2); have q2_ := (bne_f h4); (try have kc_ := pcheck_know hr1 ‹(r1 != 0) = false›); first | omega | (rw [List.length_set]; omega) | (dsimp only; omega) | (rw [List.length_drop]; omega) | (simp only [w64_eq]; omega) | exact (tm_in (by (first | (rw [w64_id (by omega)]; omega) | (simp only [w64_eq]; omega))) (by omega)).1 | exact (tm_in (by (first | (rw [w64_id (by omega)]; omega) | (simp only [w64_eq]; omega))) (by omega)).2.1 | exact (tm_in (by (first | (rw [w64_id (by omega)]; omega) | (simp only [w64_eq]; omega))) (by omega)).2.2 | (simp only [List.length_take] at *; omega) | (simp <;> omega))) (by kernel_rfl) (fun g => by kernel_rfl) ?_
            rintro ⟨A, c⟩
            refine TL.run 4 [] [(1, .slice A_tubes tubes.length c_tubes), (2, .slice A_codes codes.length c_codes), (9, .slice A_out out.length c_out), (11, .pointer (some ⟨b1, 0, none⟩)), (13, .slice A ((List.replicate ((tubes.length : Int).toNat) (0:Int)).length) c), (27, .slice A_tracks tracks.length c_tracks), (28, .int .i64 (tracks.length : Int)), (29, .int .i64 (k : Int))] rfl ⟨by kernel_rfl, by kernel_rfl⟩ ?_
            refine TL.next rfl ?_
            refine TC.seq ?_
            refine TC.seq ?_
            refine TC.region ?_
            refine TL.run 3 [] [(1, .slice A_tubes tubes.length c_tubes), (2, .slice A_codes codes.length c_codes), (9, .slice A_out out.length c_out), (11, .pointer (some ⟨b1, 0, none⟩)), (13, .slice A ((List.replicate ((tubes.length : Int).toNat) (0:Int)).length) c), (27, .slice A_tracks tracks.length c_tracks), (28, .int .i64 (tracks.length : Int)), (29, .int .i64 (k : Int)), (41, .slice A_tubes tubes.length c_tubes), (42, .int .i64 (tubes.length : Int)), (43, .int .i64 0)] rfl ⟨by kernel_rfl, by kernel_rfl⟩ ?_
            refine TL.next rfl ?_
            refine TC.weak [(1, .slice A_tubes tubes.length c_tubes), (2, .slice A_codes codes.length c_codes), (9, .slice A_out out.length c_out), (11, .pointer (some ⟨b1, 0, none⟩)), (13, .slice A ((List.replicate ((tubes.length : Int).toNat) (0:Int)).length) c), (27, .slice A_tracks tracks.length c_tracks), (28, .int .i64 (tracks.length : Int)), (29, .int .i64 (k : Int)), (41, .slice A_tubes tubes.length c_tubes), (42, .int .i64 (tubes.length : Int)), (43, .int .i64 0)] (by kernel_rfl) ?_
            obtain ⟨R7, hR_2⟩ : ∃ R, R = pair_Costs_L2 codes x tubes 0 (List.replicate ((tubes.length : Int).toNat) (0:Int)) := ⟨_, rfl⟩
            refine TC.cut (S := (List Int)) (fun row_2 => [(1, .slice A_tubes tubes.length c_tubes), (2, .slice A_codes codes.length c_codes), (9, .slice A_out out.length c_out), (13, .slice A row_2.length c), (27, .slice A_tracks tracks.length c_tracks), (28, .int .i64 (tracks.length : Int)), (29, .int .i64 (k : Int))]) (fun row_2 => [.inr (Own A c 3 1 (row_2.map ic)), .inr (Own A_out c_out 62 1 (o_out.map Sl.c)), .inr (Bag 3 1 ic o_out)]) (fun row_2 => R7 = row_2 ∧ row_2.length = ((tubes.length : Int).toNat)) ?_ ?_
            · refine TC.block ?_
              refine TC.loop (X := Nat × (List Int)) (fun (k_2, row) => [(1, .slice A_tubes tubes.length c_tubes), (2, .slice A_codes codes.length c_codes), (9, .slice A_out out.length c_out), (11, .pointer (some ⟨b1, 0, none⟩)), (13, .slice A row.length c), (27, .slice A_tracks tracks.length c_tracks), (28, .int .i64 (tracks.length : Int)), (29, .int .i64 (k : Int)), (41, .slice A_tubes tubes.length c_tubes), (42, .int .i64 (tubes.length : Int)), (43, .int .i64 (k_2 : Int))]) (fun (k_2, row) => [.inr (Own A c 3 1 (row.map ic)), .inl (b1, .cells (Track.c x) 25 (0, 0)), .inr (Own A_out c_out 62 1 (o_out.map Sl.c)), .inr (Bag 3 1 ic o_out)]) (fun (k_2, row) => tubes.length - k_2) (fun (k_2, row) => k_2 ≤ tubes.length ∧ R7 = pair_Costs_L2 codes x (tubes.drop k_2) k_2 row ∧ row.length = ((tubes.length : Int).toNat)) ?_ (0, (List.replicate ((tubes.length : Int).toNat) (0:Int))) ⟨Nat.zero_le _, hR_2, (by first | omega | (simp; omega) | simp)⟩
              rintro ⟨k_2, row⟩ ⟨hk_2, hI_2, hl_row⟩
              refine TC.seq ?_
              refine TC.region ?_
              refine TL.run 1 [] [(1, .slice A_tubes tubes.length c_tubes), (2, .slice A_codes codes.length c_codes), (9, .slice A_out out.length c_out), (11, .pointer (some ⟨b1, 0, none⟩)), (13, .slice A row.length c), (27, .slice A_tracks tracks.length c_tracks), (28, .int .i64 (tracks.length : Int)), (29, .int .i64 (k : Int)), (41, .slice A_tubes tubes.length c_tubes), (42, .int .i64 (tubes.length : Int)), (43, .int .i64 (k_2 : Int)), (44, .bool (decide ((k_2 : Int) < (tubes.length : Int))))] rfl ⟨by kernel_rfl, by kernel_rfl⟩ ?_
              refine TL.next rfl ?_
              refine TC.seq ?_
              refine TC.cond (decide ((k_2 : Int) < (tubes.length : Int))) rfl (by kernel_rfl) (fun h5 => ?_) (fun h5 => ?_)
              · have hlt_2 : k_2 < tubes.length := by have := of_decide_eq_true h5; first | omega | (simp at this; omega)
                obtain ⟨x_2, hx_2⟩ : ∃ e_, tubes[k_2]? = some e_ := ⟨_, List.getElem?_eq_getElem hlt_2⟩
                have hd_2 := drop_at hx_2
                refine TC.skip ?_
                refine TE.next ?_
                refine TC.seq ?_
                refine TC.block ?_
                refine TC.seq ?_
                refine TC.region ?_
                refine TL.run 1 [] [(1, .slice A_tubes tubes.length c_tubes), (2, .slice A_codes codes.length c_codes), (9, .slice A_out out.length c_out), (11, .pointer (some ⟨b1, 0, none⟩)), (13, .slice A row.length c), (27, .slice A_tracks tracks.length c_tracks), (28, .int .i64 (tracks.length : Int)), (29, .int .i64 (k : Int)), (41, .slice A_tubes tubes.length c_tubes), (42, .int .i64 (tubes.length : Int)), (43, .int .i64 (k_2 : Int)), (45, .int .i64 (k_2 : Int))] rfl ⟨by kernel_rfl, by kernel_rfl⟩ ?_
                refine TL.val (sV (Instr.indexAt 84 (.slice A_tubes tubes.length c_tubes) (.int .i64 (k_2 : Int)))) (some 46) (.pointer (some ((A_tubes.getD noAddr).add (k_2 * 1)))) [(1, .slice A_tubes tubes.length c_tubes), (2, .slice A_codes codes.length c_codes), (9, .slice A_out out.length c_out), (11, .pointer (some ⟨b1, 0, none⟩)), (13, .slice A row.length c), (27, .slice A_tracks tracks.length c_tracks), (28, .int .i64 (tracks.length : Int)), (29, .int .i64 (k : Int)), (41, .slice A_tubes tubes.length c_tubes), (42, .int .i64 (tubes.length : Int)), (43, .int .i64 (k_2 : Int)), (45, .int .i64 (k_2 : Int)), (46, .pointer (some ((A_tubes.getD noAddr).add (k_2 * 1))))] (fun w hM => run_index (h_tubes.sat hM) (sl_len he_tubes) (by kernel_rfl) (by have q0_ := (dec_f h1); have q1_ := (bne_f h2); have q2_ := (bne_f h4); (try have kc_ := pcheck_know hr1 ‹(r1 != 0) = false›); first | omega | (rw [List.length_set]; omega) | (dsimp only; omega) | (rw [List.length_drop]; omega) | (simp only [w64_eq]; omega) | exact (tm_in (by (first | (rw [w64_id (by omega)]; omega) | (simp only [w64_eq]; omega))) (by omega)).1 | exact (tm_in (by (first | (rw [w64_id (by omega)]; omega) | (simp only [w64_eq]; omega))) (by omega)).2.1 | exact (tm_in (by (first | (rw [w64_id (by omega)]; omega) | (simp only [w64_eq]; omega))) (by omega)).2.2 | (simp only [List.length_take] at *; omega) | (simp <;> omega)) (by have q0_ := (dec_f h1); have q1_ := (bne_f h2); have q2_ := (bne_f h4); (try have kc_ := pcheck_know hr1 ‹(r1 != 0) = false›); first | omega | (rw [List.length_set]; omega) | (dsimp only; omega) | (rw [List.length_drop]; omega) | (simp only [w64_eq]; omega) | exact (tm_in (by (first | (rw [w64_id (by omega)]; omega) | (simp only [w64_eq]; omega))) (by omega)).1 | exact (tm_in (by (first | (rw [w64_id (by omega)]; omega) | (simp only [w64_eq]; omega))) (by omega)).2.1 | exact (tm_in (by (first | (rw [w64_id (by omega)]; omega) | (simp only [w64_eq]; omega))) (by omega)).2.2 | (simp only [List.length_take] at *; omega) | (simp <;> omega))) (by kernel_rfl) (by kernel_rfl) ?_
                have s_s1 := (el_rd (sl_all hd_tubes k_2) (sl_at he_tubes hx_2)).short; rw [List.length_map] at s_s1
                refine TL.val (sV (Instr.loadAt 88 (.pointer (some ((A_tubes.getD noAddr).add (k_2 * 1)))))) (some 47) (.slice ((o_tubes[k_2]?.getD Sl.zero).A) x_2.length ((o_tubes[k_2]?.getD Sl.zero).cap)) [(1, .slice A_tubes tubes.length c_tubes), (2, .slice A_codes codes.length c_codes), (9, .slice A_out out.length c_out), (11, .pointer (some ⟨b1, 0, none⟩)), (13, .slice A row.length c), (27, .slice A_tracks tracks.length c_tracks), (28, .int .i64 (tracks.length : Int)), (29, .int .i64 (k : Int)), (41, .slice A_tubes tubes.length c_tubes), (42, .int .i64 (tubes.length : Int)), (43, .int .i64 (k_2 : Int)), (45, .int .i64 (k_2 : Int)), (47, .slice ((o_tubes[k_2]?.getD Sl.zero).A) x_2.length ((o_tubes[k_2]?.getD Sl.zero).cap))] (fun w hM => (by have h := run_load_one (P := Try.prog) (T := 88) (off := 0) (i := k_2) (.slice (o_tubes[k_2]?.getD Sl.zero).A (o_tubes[k_2]?.getD Sl.zero).l.length (o_tubes[k_2]?.getD Sl.zero).cap) (h_tubes.sat hM) (map_at (getD_at _ _ Sl.zero (sl_lt he_tubes (List.getElem?_eq_some_iff.1 hx_2).1))) (by kernel_rfl) (by kernel_rfl); rw [(sl_at he_tubes hx_2)] at h; exact h)) (by kernel_rfl) (by kernel_rfl) ?_
                refine TL.run 5 [] [(1, .slice A_tubes tubes.length c_tubes), (2, .slice A_codes codes.length c_codes), (9, .slice A_out out.length c_out), (11, .pointer (some ⟨b1, 0, none⟩)), (13, .slice A row.length c), (14, .int .i64 (k_2 : Int)), (15, .slice ((o_tubes[k_2]?.getD Sl.zero).A) x_2.length ((o_tubes[k_2]?.getD Sl.zero).cap)), (27, .slice A_tracks tracks.length c_tracks), (28, .int .i64 (tracks.length : Int)), (29, .int .i64 (k : Int)), (41, .slice A_tubes tubes.length c_tubes), (42, .int .i64 (tubes.length : Int)), (43, .int .i64 (k_2 : Int))] rfl ⟨by kernel_rfl, by kernel_rfl⟩ ?_
                refine TL.next rfl ?_
                refine TC.seq ?_
                refine TC.region ?_
                refine TL.run 2 [1] [(1, .slice A_tubes tubes.length c_tubes), (2, .slice A_codes codes.length c_codes), (9, .slice A_out out.length c_out), (11, .pointer (some ⟨b1, 0, none⟩)), (13, .slice A row.length c), (14, .int .i64 (k_2 : Int)), (27, .slice A_tracks tracks.length c_tracks), (28, .int .i64 (tracks.length : Int)), (29, .int .i64 (k : Int)), (41, .slice A_tubes tubes.length c_tubes), (42, .int .i64 (tubes.length : Int)), (43, .int .i64 (k_2 : Int)), (49, Track.v x), (50, .slice ((o_tubes[k_2]?.getD Sl.zero).A) x_2.length ((o_tubes[k_2]?.getD Sl.zero).cap))] rfl ⟨by kernel_rfl, by kernel_rfl⟩ ?_
                refine TL.call (some 51) [(1, .slice A_tubes tubes.length c_tubes), (2, .slice A_codes codes.length c_codes), (9, .slice A_out out.length c_out), (11, .pointer (some ⟨b1, 0, none⟩)), (13, .slice A row.length c), (14, .int .i64 (k_2 : Int)), (27, .slice A_tracks tracks.length c_tracks), (28, .int .i64 (tracks.length : Int)), (29, .int .i64 (k : Int)), (41, .slice A_tubes tubes.length c_tubes), (42, .int .i64 (tubes.length : Int)), (43, .int .i64 (k_2 : Int)), (51, .tuple #[TubeNode.v ((pair_fits x x_2).1), .bool ((pair_fits x x_2).2)])] (fun w hM => pair_fits_w x ((o_tubes[k_2]?.getD Sl.zero).A) ((o_tubes[k_2]?.getD Sl.zero).cap) x_2 w (el_rd ((sl_all hd_tubes k_2).sat hM) (sl_at he_tubes hx_2)) (el_le ((sl_all hd_tubes k_2).sat hM) (sl_at he_tubes hx_2))) (by kernel_rfl) (by kernel_rfl) ?_
                generalize hr3 : pair_fits x x_2 = r3
                refine TL.run 6 [] [(1, .slice A_tubes tubes.length c_tubes), (2, .slice A_codes codes.length c_codes), (9, .slice A_out out.length c_out), (11, .pointer (some ⟨b1, 0, none⟩)), (13, .slice A row.length c), (14, .int .i64 (k_2 : Int)), (27, .slice A_tracks tracks.length c_tracks), (28, .int .i64 (tracks.length : Int)), (29, .int .i64 (k : Int)), (41, .slice A_tubes tubes.length c_tubes), (42, .int .i64 (tubes.length : Int)), (43, .int .i64 (k_2 : Int)), (52, TubeNode.v r3.1), (53, .bool r3.2)] rfl ⟨by kernel_rfl, by kernel_rfl⟩ ?_
                refine TL.write 0 (fun b2 => [(1, .slice A_tubes tubes.length c_tubes), (2, .slice A_codes codes.length c_codes), (9, .slice A_out out.length c_out), (11, .pointer (some ⟨b1, 0, none⟩)), (13, .slice A row.length c), (14, .int .i64 (k_2 : Int)), (16, .pointer (some ⟨b2, 0, none⟩)), (27, .slice A_tracks tracks.length c_tracks), (28, .int .i64 (tracks.length : Int)), (29, .int .i64 (k : Int)), (41, .slice A_tubes tubes.length c_tubes), (42, .int .i64 (tubes.length : Int)), (43, .int .i64 (k_2 : Int)), (52, TubeNode.v r3.1), (53, .bool r3.2)]) (fun b2 => [.inl (b2, .cells (TubeNode.c TubeNode.zero) 97 (0, 0)), .inr (Own A c 3 1 (row.map ic)), .inl (b1, .cells (Track.c x) 25 (0, 0)), .inr (Own A_out c_out 62 1 (o_out.map Sl.c)), .inr (Bag 3 1 ic o_out)]) (fun b2 => ⟨by kernel_rfl, by kernel_rfl⟩) (fun b2 => ?_)
                refine TL.write 0 (fun _ => [(1, .slice A_tubes tubes.length c_tubes), (2, .slice A_codes codes.length c_codes), (9, .slice A_out out.length c_out), (11, .pointer (some ⟨b1, 0, none⟩)), (13, .slice A row.length c), (14, .int .i64 (k_2 : Int)), (16, .pointer (some ⟨b2, 0, none⟩)), (27, .slice A_tracks tracks.length c_tracks), (28, .int .i64 (tracks.length : Int)), (29, .int .i64 (k : Int)), (41, .slice A_tubes tubes.length c_tubes), (42, .int .i64 (tubes.length : Int)), (43, .int .i64 (k_2 : Int)), (53, .bool r3.2)]) (fun _ => [.inl (b2, .cells (TubeNode.c r3.1) 97 (0, 0)), .inr (Own A c 3 1 (row.map ic)), .inl (b1, .cells (Track.c x) 25 (0, 0)), .inr (Own A_out c_out 62 1 (o_out.map Sl.c)), .inr (Bag 3 1 ic o_out)]) (fun _ => ⟨by kernel_rfl, by kernel_rfl⟩) (fun _ => ?_)
                refine TL.run 9 [] [(1, .slice A_tubes tubes.length c_tubes), (2, .slice A_codes codes.length c_codes), (9, .slice A_out out.length c_out), (11, .pointer (some ⟨b1, 0, none⟩)), (13, .slice A row.length c), (14, .int .i64 (k_2 : Int)), (16, .pointer (some ⟨b2, 0, none⟩)), (17, .bool r3.2), (27, .slice A_tracks tracks.length c_tracks), (28, .int .i64 (tracks.length : Int)), (29, .int .i64 (k : Int)), (41, .slice A_tubes tubes.length c_tubes), (42, .int .i64 (tubes.length : Int)), (43, .int .i64 (k_2 : Int))] rfl ⟨by kernel_rfl, by kernel_rfl⟩ ?_
                refine TL.next rfl ?_
                refine TC.block ?_
                refine TC.seq ?_
                refine TC.draw 17 (by kernel_rfl) (by kernel_rfl) (by kernel_rfl) ?_
                refine TQ.run 3 [] [(1, .slice A_tubes tubes.length c_tubes), (2, .slice A_codes codes.length c_codes), (9, .slice A_out out.length c_out), (11, .pointer (some ⟨b1, 0, none⟩)), (13, .slice A row.length c), (14, .int .i64 (k_2 : Int)), (16, .pointer (some ⟨b2, 0, none⟩)), (27, .slice A_tracks tracks.length c_tracks), (28, .int .i64 (tracks.length : Int)), (29, .int .i64 (k : Int)), (41, .slice A_tubes tubes.length c_tubes), (42, .int .i64 (tubes.length : Int)), (43, .int .i64 (k_2 : Int)), (67, .bool (!r3.2))] rfl ⟨by kernel_rfl, by kernel_rfl⟩ ?_
                refine TQ.split 67 (!r3.2) (by kernel_rfl) (fun h6 => ?_) (fun h6 => ?_)
                · refine TQ.run 17 [] [(1, .slice A_tubes tubes.length c_tubes), (2, .slice A_codes codes.length c_codes), (9, .slice A_out out.length c_out), (11, .pointer (some ⟨b1, 0, none⟩)), (13, .slice A row.length c), (14, .int .i64 (k_2 : Int)), (16, .pointer (some ⟨b2, 0, none⟩)), (27, .slice A_tracks tracks.length c_tracks), (28, .int .i64 (tracks.length : Int)), (29, .int .i64 (k : Int)), (41, .slice A_tubes tubes.length c_tubes), (42, .int .i64 (tubes.length : Int)), (43, .int .i64 (k_2 : Int)), (64, .bool true)] rfl ⟨by kernel_rfl, by kernel_rfl⟩ ?_
                  refine TQ.next rfl ?_
                  refine TC.condT rfl (by kernel_rfl) ?_
                  refine TC.region ?_
                  refine TL.run 2 [] [(1, .slice A_tubes tubes.length c_tubes), (2, .slice A_codes codes.length c_codes), (9, .slice A_out out.length c_out), (11, .pointer (some ⟨b1, 0, none⟩)), (13, .slice A row.length c), (27, .slice A_tracks tracks.length c_tracks), (28, .int .i64 (tracks.length : Int)), (29, .int .i64 (k : Int)), (41, .slice A_tubes tubes.length c_tubes), (42, .int .i64 (tubes.length : Int)), (43, .int .i64 (k_2 : Int)), (81, .slice A row.length c), (82, .int .i64 (k_2 : Int))] rfl ⟨by kernel_rfl, by kernel_rfl⟩ ?_
                  refine TL.val (sV (Instr.indexAt 62 (.slice A row.length c) (.int .i64 (k_2 : Int)))) (some 83) (.pointer (some ((A.getD noAddr).add (k_2 * 1)))) [(1, .slice A_tubes tubes.length c_tubes), (2, .slice A_codes codes.length c_codes), (9, .slice A_out out.length c_out), (11, .pointer (some ⟨b1, 0, none⟩)), (13, .slice A row.length c), (27, .slice A_tracks tracks.length c_tracks), (28, .int .i64 (tracks.length : Int)), (29, .int .i64 (k : Int)), (41, .slice A_tubes tubes.length c_tubes), (42, .int .i64 (tubes.length : Int)), (43, .int .i64 (k_2 : Int)), (83, .pointer (some ((A.getD noAddr).add (k_2 * 1))))] (fun w hM => run_index (hM.rd_at 1 rfl) (by simp) (by kernel_rfl) (by have q0_ := (dec_f h1); have q1_ := (bne_f h2); have q2_ := (bne_f h4); (try have kc_ := pcheck_know hr1 ‹(r1 != 0) = false›); first | omega | (rw [List.length_set]; omega) | (dsimp only; omega) | (rw [List.length_drop]; omega) | (simp only [w64_eq]; omega) | exact (tm_in (by (first | (rw [w64_id (by omega)]; omega) | (simp only [w64_eq]; omega))) (by omega)).1 | exact (tm_in (by (first | (rw [w64_id (by omega)]; omega) | (simp only [w64_eq]; omega))) (by omega)).2.1 | exact (tm_in (by (first | (rw [w64_id (by omega)]; omega) | (simp only [w64_eq]; omega))) (by omega)).2.2 | (simp only [List.length_take] at *; omega) | (simp <;> omega)) (by have q0_ := (dec_f h1); have q1_ := (bne_f h2); have q2_ := (bne_f h4); (try have kc_ := pcheck_know hr1 ‹(r1 != 0) = false›); first | omega | (rw [List.length_set]; omega) | (dsimp only; omega) | (rw [List.length_drop]; omega) | (simp only [w64_eq]; omega) | exact (tm_in (by (first | (rw [w64_id (by omega)]; omega) | (simp only [w64_eq]; omega))) (by omega)).1 | exact (tm_in (by (first | (rw [w64_id (by omega)]; omega) | (simp only [w64_eq]; omega))) (by omega)).2.1 | exact (tm_in (by (first | (rw [w64_id (by omega)]; omega) | (simp only [w64_eq]; omega))) (by omega)).2.2 | (simp only [List.length_take] at *; omega) | (simp <;> omega))) (by kernel_rfl) (by kernel_rfl) ?_
                  refine TL.skipM (Γ := Unit) (sU (Instr.storeAt 3 (.pointer (some (((A.getD noAddr).add (k_2 * 1)).add 0))) (.int .i64 (-1)))) none (fun _ => [.inl (b2, .cells (TubeNode.c r3.1) 97 (0, 0)), .inr (Own A c 3 1 ((row.set k_2 (-1)).map ic)), .inl (b1, .cells (Track.c x) 25 (0, 0)), .inr (Own A_out c_out 62 1 (o_out.map Sl.c)), .inr (Bag 3 1 ic o_out)]) (fun _ => [(1, .slice A_tubes tubes.length c_tubes), (2, .slice A_codes codes.length c_codes), (9, .slice A_out out.length c_out), (11, .pointer (some ⟨b1, 0, none⟩)), (13, .slice A row.length c), (27, .slice A_tracks tracks.length c_tracks), (28, .int .i64 (tracks.length : Int)), (29, .int .i64 (k : Int)), (41, .slice A_tubes tubes.length c_tubes), (42, .int .i64 (tubes.length : Int)), (43, .int .i64 (k_2 : Int))]) (run_store_at (n := 1) (off := 0) (.int .i64 (-1)) 1 ((row.set k_2 (-1)).map ic) rfl (map_at (getD_at _ _ 0 (by have q0_ := (dec_f h1); have q1_ := (bne_f h2); have q2_ := (bne_f h4); (try have kc_ := pcheck_know hr1 ‹(r1 != 0) = false›); first | omega | (rw [List.length_set]; omega) | (dsimp only; omega) | (rw [List.length_drop]; omega) | (simp only [w64_eq]; omega) | exact (tm_in (by (first | (rw [w64_id (by omega)]; omega) | (simp only [w64_eq]; omega))) (by omega)).1 | exact (tm_in (by (first | (rw [w64_id (by omega)]; omega) | (simp only [w64_eq]; omega))) (by omega)).2.1 | exact (tm_in (by (first | (rw [w64_id (by omega)]; omega) | (simp only [w64_eq]; omega))) (by omega)).2.2 | (simp only [List.length_take] at *; omega) | (simp <;> omega)))) (by kernel_rfl) (by kernel_rfl) (by kernel_rfl) (by kernel_rfl) (set_map_at (by kernel_rfl))) (by kernel_rfl) (fun _ => by kernel_rfl) (fun _ => ?_)
                  refine TL.rw 13 (.slice A row.length c) (.slice A ((row.set k_2 (-1)).length) c) (by kernel_rfl) (by simp only [List.length_set]) ?_
                  refine TL.done rfl ?_
                  refine TE.normal_block ?_
                  refine TE.normal_block ?_
                  refine TE.next ?_
                  refine TC.region ?_
                  refine TL.run 2 [] [(1, .slice A_tubes tubes.length c_tubes), (2, .slice A_codes codes.length c_codes), (9, .slice A_out out.length c_out), (11, .pointer (some ⟨b1, 0, none⟩)), (13, .slice A ((row.set k_2 (-1)).length) c), (27, .slice A_tracks tracks.length c_tracks), (28, .int .i64 (tracks.length : Int)), (29, .int .i64 (k : Int)), (41, .slice A_tubes tubes.length c_tubes), (42, .int .i64 (tubes.length : Int)), (43, .int .i64 (w64 ((k_2 : Int) + 1)))] rfl ⟨by kernel_rfl, by kernel_rfl⟩ ?_
                  refine TL.done rfl ?_
                  refine TE.rw 43 (.int .i64 (w64 ((k_2 : Int) + 1))) (.int .i64 ((k_2 + 1 : Nat) : Int)) (by kernel_rfl) (w64_cast k_2 (by (try have kc_ := pcheck_know hr1 ‹(r1 != 0) = false›); omega)) ?_
                  exact TE.again (x := (k_2, row)) (k_2 + 1, (row.set k_2 (-1))) ⟨by omega, hI_2.trans (by subst hr1 hr2 hr3; rw [hd_2]; exact cond_t h6 (rfl)), (by have q0_ := (dec_f h1); have q1_ := (bne_f h2); have q2_ := (bne_f h4); (try have kc_ := pcheck_know hr1 ‹(r1 != 0) = false›); first | omega | (simp <;> omega) | (simp at * <;> omega) | (simp only [w64_eq] at *; omega) | (simp only [List.length_append, List.length_cons, List.length_nil]; omega))⟩ (by show tubes.length - (k_2 + 1) < tubes.length - k_2; omega) (by kernel_rfl) (.cons _ (.cons_cons _ (.cons_cons _ (.cons_cons _ (.cons_cons _ (.slnil))))))
                · refine TQ.run 7 [2] [(1, .slice A_tubes tubes.length c_tubes), (2, .slice A_codes codes.length c_codes), (9, .slice A_out out.length c_out), (11, .pointer (some ⟨b1, 0, none⟩)), (13, .slice A row.length c), (14, .int .i64 (k_2 : Int)), (16, .pointer (some ⟨b2, 0, none⟩)), (27, .slice A_tracks tracks.length c_tracks), (28, .int .i64 (tracks.length : Int)), (29, .int .i64 (k : Int)), (41, .slice A_tubes tubes.length c_tubes), (42, .int .i64 (tubes.length : Int)), (43, .int .i64 (k_2 : Int)), (67, .bool false), (71, .bool (x.Code != (-1)))] rfl ⟨by kernel_rfl, by kernel_rfl⟩ ?_
                  refine TQ.split 71 (x.Code != (-1)) (by kernel_rfl) (fun h7 => ?_) (fun h7 => ?_)
                  · refine TQ.run 11 [2] [(1, .slice A_tubes tubes.length c_tubes), (2, .slice A_codes codes.length c_codes), (9, .slice A_out out.length c_out), (11, .pointer (some ⟨b1, 0, none⟩)), (13, .slice A row.length c), (14, .int .i64 (k_2 : Int)), (16, .pointer (some ⟨b2, 0, none⟩)), (27, .slice A_tracks tracks.length c_tracks), (28, .int .i64 (tracks.length : Int)), (29, .int .i64 (k : Int)), (41, .slice A_tubes tubes.length c_tubes), (42, .int .i64 (tubes.length : Int)), (43, .int .i64 (k_2 : Int)), (67, .bool false), (71, .bool true), (73, .int .i64 x.Code), (74, .slice A_codes codes.length c_codes), (75, .int .i64 (k_2 : Int))] rfl ⟨by kernel_rfl, by kernel_rfl⟩ ?_
                    refine TQ.val (sV (Instr.indexAt 62 (.slice A_codes codes.length c_codes) (.int .i64 (k_2 : Int)))) (some 76) (.pointer (some ((A_codes.getD noAddr).add (k_2 * 1)))) [(1, .slice A_tubes tubes.length c_tubes), (2, .slice A_codes codes.length c_codes), (9, .slice A_out out.length c_out), (11, .pointer (some ⟨b1, 0, none⟩)), (13, .slice A row.length c), (14, .int .i64 (k_2 : Int)), (16, .pointer (some ⟨b2, 0, none⟩)), (27, .slice A_tracks tracks.length c_tracks), (28, .int .i64 (tracks.length : Int)), (29, .int .i64 (k : Int)), (41, .slice A_tubes tubes.length c_tubes), (42, .int .i64 (tubes.length : Int)), (43, .int .i64 (k_2 : Int)), (67, .bool false), (71, .bool true), (73, .int .i64 x.Code), (76, .pointer (some ((A_codes.getD noAddr).add (k_2 * 1))))] (fun w hM => run_index (h_codes.sat hM) (by simp) (by kernel_rfl) (by have q0_ := (dec_f h1); have q1_ := (bne_f h2); have q2_ := (bne_f h4); have q3_ := (bne_t h7); (try have kc_ := pcheck_know hr1 ‹(r1 != 0) = false›); first | omega | (rw [List.length_set]; omega) | (dsimp only; omega) | (rw [List.length_drop]; omega) | (simp only [w64_eq]; omega) | exact (tm_in (by (first | (rw [w64_id (by omega)]; omega) | (simp only [w64_eq]; omega))) (by omega)).1 | exact (tm_in (by (first | (rw [w64_id (by omega)]; omega) | (simp only [w64_eq]; omega))) (by omega)).2.1 | exact (tm_in (by (first | (rw [w64_id (by omega)]; omega) | (simp only [w64_eq]; omega))) (by omega)).2.2 | (simp only [List.length_take] at *; omega) | (simp <;> omega)) (by have q0_ := (dec_f h1); have q1_ := (bne_f h2); have q2_ := (bne_f h4); have q3_ := (bne_t h7); (try have kc_ := pcheck_know hr1 ‹(r1 != 0) = false›); first | omega | (rw [List.length_set]; omega) | (dsimp only; omega) | (rw [List.length_drop]; omega) | (simp only [w64_eq]; omega) | exact (tm_in (by (first | (rw [w64_id (by omega)]; omega) | (simp only [w64_eq]; omega))) (by omega)).1 | exact (tm_in (by (first | (rw [w64_id (by omega)]; omega) | (simp only [w64_eq]; omega))) (by omega)).2.1 | exact (tm_in (by (first | (rw [w64_id (by omega)]; omega) | (simp only [w64_eq]; omega))) (by omega)).2.2 | (simp only [List.length_take] at *; omega) | (simp <;> omega))) rfl (by kernel_rfl) (by kernel_rfl) ?_
                    refine TQ.val (sV (Instr.loadAt 3 (.pointer (some ((A_codes.getD noAddr).add (k_2 * 1)))))) (some 77) (.int .i64 (codes[k_2]?.getD 0)) [(1, .slice A_tubes tubes.length c_tubes), (2, .slice A_codes codes.length c_codes), (9, .slice A_out out.length c_out), (11, .pointer (some ⟨b1, 0, none⟩)), (13, .slice A row.length c), (14, .int .i64 (k_2 : Int)), (16, .pointer (some ⟨b2, 0, none⟩)), (27, .slice A_tracks tracks.length c_tracks), (28, .int .i64 (tracks.length : Int)), (29, .int .i64 (k : Int)), (41, .slice A_tubes tubes.length c_tubes), (42, .int .i64 (tubes.length : Int)), (43, .int .i64 (k_2 : Int)), (67, .bool false), (71, .bool true), (73, .int .i64 x.Code), (77, .int .i64 (codes[k_2]?.getD 0))] (fun w hM => run_load_one (off := 0) (i := k_2) (.int .i64 (codes[k_2]?.getD 0)) (h_codes.sat hM) (map_at (getD_at _ _ 0 (by have q0_ := (dec_f h1); have q1_ := (bne_f h2); have q2_ := (bne_f h4); have q3_ := (bne_t h7); (try have kc_ := pcheck_know hr1 ‹(r1 != 0) = false›); first | omega | (rw [List.length_set]; omega) | (dsimp only; omega) | (rw [List.length_drop]; omega) | (simp only [w64_eq]; omega) | exact (tm_in (by (first | (rw [w64_id (by omega)]; omega) | (simp only [w64_eq]; omega))) (by omega)).1 | exact (tm_in (by (first | (rw [w64_id (by omega)]; omega) | (simp only [w64_eq]; omega))) (by omega)).2.1 | exact (tm_in (by (first | (rw [w64_id (by omega)]; omega) | (simp only [w64_eq]; omega))) (by omega)).2.2 | (simp only [List.length_take] at *; omega) | (simp <;> omega)))) (by kernel_rfl) (by kernel_rfl)) rfl (by kernel_rfl) (by kernel_rfl) ?_
                    refine TQ.run 17 [] [(1, .slice A_tubes tubes.length c_tubes), (2, .slice A_codes codes.length c_codes), (9, .slice A_out out.length c_out), (11, .pointer (some ⟨b1, 0, none⟩)), (13, .slice A row.length c), (14, .int .i64 (k_2 : Int)), (16, .pointer (some ⟨b2, 0, none⟩)), (27, .slice A_tracks tracks.length c_tracks), (28, .int .i64 (tracks.length : Int)), (29, .int .i64 (k : Int)), (41, .slice A_tubes tubes.length c_tubes), (42, .int .i64 (tubes.length : Int)), (43, .int .i64 (k_2 : Int)), (64, .bool (x.Code != (codes[k_2]?.getD 0)))] rfl ⟨by kernel_rfl, by kernel_rfl⟩ ?_
                    refine TQ.next rfl ?_
                    refine TC.cond (x.Code != (codes[k_2]?.getD 0)) rfl (by kernel_rfl) (fun h8 => ?_) (fun h8 => ?_)
                    · refine TC.region ?_
                      refine TL.run 2 [] [(1, .slice A_tubes tubes.length c_tubes), (2, .slice A_codes codes.length c_codes), (9, .slice A_out out.length c_out), (11, .pointer (some ⟨b1, 0, none⟩)), (13, .slice A row.length c), (27, .slice A_tracks tracks.length c_tracks), (28, .int .i64 (tracks.length : Int)), (29, .int .i64 (k : Int)), (41, .slice A_tubes tubes.length c_tubes), (42, .int .i64 (tubes.length : Int)), (43, .int .i64 (k_2 : Int)), (81, .slice A row.length c), (82, .int .i64 (k_2 : Int))] rfl ⟨by kernel_rfl, by kernel_rfl⟩ ?_
                      refine TL.val (sV (Instr.indexAt 62 (.slice A row.length c) (.int .i64 (k_2 : Int)))) (some 83) (.pointer (some ((A.getD noAddr).add (k_2 * 1)))) [(1, .slice A_tubes tubes.length c_tubes), (2, .slice A_codes codes.length c_codes), (9, .slice A_out out.length c_out), (11, .pointer (some ⟨b1, 0, none⟩)), (13, .slice A row.length c), (27, .slice A_tracks tracks.length c_tracks), (28, .int .i64 (tracks.length : Int)), (29, .int .i64 (k : Int)), (41, .slice A_tubes tubes.length c_tubes), (42, .int .i64 (tubes.length : Int)), (43, .int .i64 (k_2 : Int)), (83, .pointer (some ((A.getD noAddr).add (k_2 * 1))))] (fun w hM => run_index (hM.rd_at 1 rfl) (by simp) (by kernel_rfl) (by have q0_ := (dec_f h1); have q1_ := (bne_f h2); have q2_ := (bne_f h4); have q3_ := (bne_t h7); have q4_ := (bne_t h8); (try have kc_ := pcheck_know hr1 ‹(r1 != 0) = false›); first | omega | (rw [List.length_set]; omega) | (dsimp only; omega) | (rw [List.length_drop]; omega) | (simp only [w64_eq]; omega) | exact (tm_in (by (first | (rw [w64_id (by omega)]; omega) | (simp only [w64_eq]; omega))) (by omega)).1 | exact (tm_in (by (first | (rw [w64_id (by omega)]; omega) | (simp only [w64_eq]; omega))) (by omega)).2.1 | exact (tm_in (by (first | (rw [w64_id (by omega)]; omega) | (simp only [w64_eq]; omega))) (by omega)).2.2 | (simp only [List.length_take] at *; omega) | (simp <;> omega)) (by have q0_ := (dec_f h1); have q1_ := (bne_f h2); have q2_ := (bne_f h4); have q3_ := (bne_t h7); have q4_ := (bne_t h8); (try have kc_ := pcheck_know hr1 ‹(r1 != 0) = false›); first | omega | (rw [List.length_set]; omega) | (dsimp only; omega) | (rw [List.length_drop]; omega) | (simp only [w64_eq]; omega) | exact (tm_in (by (first | (rw [w64_id (by omega)]; omega) | (simp only [w64_eq]; omega))) (by omega)).1 | exact (tm_in (by (first | (rw [w64_id (by omega)]; omega) | (simp only [w64_eq]; omega))) (by omega)).2.1 | exact (tm_in (by (first | (rw [w64_id (by omega)]; omega) | (simp only [w64_eq]; omega))) (by omega)).2.2 | (simp only [List.length_take] at *; omega) | (simp <;> omega))) (by kernel_rfl) (by kernel_rfl) ?_
                      refine TL.skipM (Γ := Unit) (sU (Instr.storeAt 3 (.pointer (some (((A.getD noAddr).add (k_2 * 1)).add 0))) (.int .i64 (-1)))) none (fun _ => [.inl (b2, .cells (TubeNode.c r3.1) 97 (0, 0)), .inr (Own A c 3 1 ((row.set k_2 (-1)).map ic)), .inl (b1, .cells (Track.c x) 25 (0, 0)), .inr (Own A_out c_out 62 1 (o_out.map Sl.c)), .inr (Bag 3 1 ic o_out)]) (fun _ => [(1, .slice A_tubes tubes.length c_tubes), (2, .slice A_codes codes.length c_codes), (9, .slice A_out out.length c_out), (11, .pointer (some ⟨b1, 0, none⟩)), (13, .slice A row.length c), (27, .slice A_tracks tracks.length c_tracks), (28, .int .i64 (tracks.length : Int)), (29, .int .i64 (k : Int)), (41, .slice A_tubes tubes.length c_tubes), (42, .int .i64 (tubes.length : Int)), (43, .int .i64 (k_2 : Int))]) (run_store_at (n := 1) (off := 0) (.int .i64 (-1)) 1 ((row.set k_2 (-1)).map ic) rfl (map_at (getD_at _ _ 0 (by have q0_ := (dec_f h1); have q1_ := (bne_f h2); have q2_ := (bne_f h4); have q3_ := (bne_t h7); have q4_ := (bne_t h8); (try have kc_ := pcheck_know hr1 ‹(r1 != 0) = false›); first | omega | (rw [List.length_set]; omega) | (dsimp only; omega) | (rw [List.length_drop]; omega) | (simp only [w64_eq]; omega) | exact (tm_in (by (first | (rw [w64_id (by omega)]; omega) | (simp only [w64_eq]; omega))) (by omega)).1 | exact (tm_in (by (first | (rw [w64_id (by omega)]; omega) | (simp only [w64_eq]; omega))) (by omega)).2.1 | exact (tm_in (by (first | (rw [w64_id (by omega)]; omega) | (simp only [w64_eq]; omega))) (by omega)).2.2 | (simp only [List.length_take] at *; omega) | (simp <;> omega)))) (by kernel_rfl) (by kernel_rfl) (by kernel_rfl) (by kernel_rfl) (set_map_at (by kernel_rfl))) (by kernel_rfl) (fun _ => by kernel_rfl) (fun _ => ?_)
                      refine TL.rw 13 (.slice A row.length c) (.slice A ((row.set k_2 (-1)).length) c) (by kernel_rfl) (by simp only [List.length_set]) ?_
                      refine TL.done rfl ?_
                      refine TE.normal_block ?_
                      refine TE.normal_block ?_
                      refine TE.next ?_
                      refine TC.region ?_
                      refine TL.run 2 [] [(1, .slice A_tubes tubes.length c_tubes), (2, .slice A_codes codes.length c_codes), (9, .slice A_out out.length c_out), (11, .pointer (some ⟨b1, 0, none⟩)), (13, .slice A ((row.set k_2 (-1)).length) c), (27, .slice A_tracks tracks.length c_tracks), (28, .int .i64 (tracks.length : Int)), (29, .int .i64 (k : Int)), (41, .slice A_tubes tubes.length c_tubes), (42, .int .i64 (tubes.length : Int)), (43, .int .i64 (w64 ((k_2 : Int) + 1)))] rfl ⟨by kernel_rfl, by kernel_rfl⟩ ?_
                      refine TL.done rfl ?_
                      refine TE.rw 43 (.int .i64 (w64 ((k_2 : Int) + 1))) (.int .i64 ((k_2 + 1 : Nat) : Int)) (by kernel_rfl) (w64_cast k_2 (by (try have kc_ := pcheck_know hr1 ‹(r1 != 0) = false›); omega)) ?_
                      exact TE.again (x := (k_2, row)) (k_2 + 1, (row.set k_2 (-1))) ⟨by omega, hI_2.trans (by subst hr1 hr2 hr3; rw [hd_2]; exact cond_f h6 (cond_t h7 (cond_t h8 (rfl)))), (by have q0_ := (dec_f h1); have q1_ := (bne_f h2); have q2_ := (bne_f h4); have q3_ := (bne_t h7); have q4_ := (bne_t h8); (try have kc_ := pcheck_know hr1 ‹(r1 != 0) = false›); first | omega | (simp <;> omega) | (simp at * <;> omega) | (simp only [w64_eq] at *; omega) | (simp only [List.length_append, List.length_cons, List.length_nil]; omega))⟩ (by show tubes.length - (k_2 + 1) < tubes.length - k_2; omega) (by kernel_rfl) (.cons _ (.cons_cons _ (.cons_cons _ (.cons_cons _ (.cons_cons _ (.slnil))))))
                    · refine TC.seq ?_
                      refine TC.region ?_
                      refine TL.run 4 [2] [(1, .slice A_tubes tubes.length c_tubes), (2, .slice A_codes codes.length c_codes), (9, .slice A_out out.length c_out), (11, .pointer (some ⟨b1, 0, none⟩)), (13, .slice A row.length c), (14, .int .i64 (k_2 : Int)), (16, .pointer (some ⟨b2, 0, none⟩)), (27, .slice A_tracks tracks.length c_tracks), (28, .int .i64 (tracks.length : Int)), (29, .int .i64 (k : Int)), (41, .slice A_tubes tubes.length c_tubes), (42, .int .i64 (tubes.length : Int)), (43, .int .i64 (k_2 : Int)), (84, .bool (x.Code == (-1)))] rfl ⟨by kernel_rfl, by kernel_rfl⟩ ?_
                      refine TL.next rfl ?_
                      refine TC.cond (x.Code == (-1)) rfl (by kernel_rfl) (fun h9 => ?_) (fun h9 => ?_)
                      · refine TC.region ?_
                        refine TL.run 7 [2, 0] [(1, .slice A_tubes tubes.length c_tubes), (2, .slice A_codes codes.length c_codes), (9, .slice A_out out.length c_out), (11, .pointer (some ⟨b1, 0, none⟩)), (13, .slice A row.length c), (27, .slice A_tracks tracks.length c_tracks), (28, .int .i64 (tracks.length : Int)), (29, .int .i64 (k : Int)), (41, .slice A_tubes tubes.length c_tubes), (42, .int .i64 (tubes.length : Int)), (43, .int .i64 (k_2 : Int)), (88, .slice A row.length c), (89, .int .i64 (k_2 : Int)), (91, P.v x.At), (94, P.v r3.1.Node.At)] rfl ⟨by kernel_rfl, by kernel_rfl⟩ ?_
                        refine TL.call (some 95) [(1, .slice A_tubes tubes.length c_tubes), (2, .slice A_codes codes.length c_codes), (9, .slice A_out out.length c_out), (11, .pointer (some ⟨b1, 0, none⟩)), (13, .slice A row.length c), (27, .slice A_tracks tracks.length c_tracks), (28, .int .i64 (tracks.length : Int)), (29, .int .i64 (k : Int)), (41, .slice A_tubes tubes.length c_tubes), (42, .int .i64 (tubes.length : Int)), (43, .int .i64 (k_2 : Int)), (88, .slice A row.length c), (89, .int .i64 (k_2 : Int)), (95, .int .i64 (plane_Square x.At r3.1.Node.At))] (fun w _ => plane_Square_w x.At r3.1.Node.At w) (by kernel_rfl) (by kernel_rfl) ?_
                        generalize hr4 : plane_Square x.At r3.1.Node.At = r4
                        refine TL.run 10 [] [(1, .slice A_tubes tubes.length c_tubes), (2, .slice A_codes codes.length c_codes), (9, .slice A_out out.length c_out), (11, .pointer (some ⟨b1, 0, none⟩)), (13, .slice A row.length c), (27, .slice A_tracks tracks.length c_tracks), (28, .int .i64 (tracks.length : Int)), (29, .int .i64 (k : Int)), (41, .slice A_tubes tubes.length c_tubes), (42, .int .i64 (tubes.length : Int)), (43, .int .i64 (k_2 : Int)), (88, .slice A row.length c), (89, .int .i64 (k_2 : Int)), (97, .int .i64 (w64 ((w64 (r4.tdiv 10000)) + 1048576)))] rfl ⟨by kernel_rfl, by kernel_rfl⟩ ?_
                        refine TL.val (sV (Instr.indexAt 62 (.slice A row.length c) (.int .i64 (k_2 : Int)))) (some 98) (.pointer (some ((A.getD noAddr).add (k_2 * 1)))) [(1, .slice A_tubes tubes.length c_tubes), (2, .slice A_codes codes.length c_codes), (9, .slice A_out out.length c_out), (11, .pointer (some ⟨b1, 0, none⟩)), (13, .slice A row.length c), (27, .slice A_tracks tracks.length c_tracks), (28, .int .i64 (tracks.length : Int)), (29, .int .i64 (k : Int)), (41, .slice A_tubes tubes.length c_tubes), (42, .int .i64 (tubes.length : Int)), (43, .int .i64 (k_2 : Int)), (97, .int .i64 (w64 ((w64 (r4.tdiv 10000)) + 1048576))), (98, .pointer (some ((A.getD noAddr).add (k_2 * 1))))] (fun w hM => run_index (hM.rd_at 1 rfl) (by simp) (by kernel_rfl) (by have q0_ := (dec_f h1); have q1_ := (bne_f h2); have q2_ := (bne_f h4); have q3_ := (bne_t h7); have q4_ := (bne_f h8); have q5_ := (beq_t h9); (try have kc_ := pcheck_know hr1 ‹(r1 != 0) = false›); first | omega | (rw [List.length_set]; omega) | (dsimp only; omega) | (rw [List.length_drop]; omega) | (simp only [w64_eq]; omega) | exact (tm_in (by (first | (rw [w64_id (by omega)]; omega) | (simp only [w64_eq]; omega))) (by omega)).1 | exact (tm_in (by (first | (rw [w64_id (by omega)]; omega) | (simp only [w64_eq]; omega))) (by omega)).2.1 | exact (tm_in (by (first | (rw [w64_id (by omega)]; omega) | (simp only [w64_eq]; omega))) (by omega)).2.2 | (simp only [List.length_take] at *; omega) | (simp <;> omega)) (by have q0_ := (dec_f h1); have q1_ := (bne_f h2); have q2_ := (bne_f h4); have q3_ := (bne_t h7); have q4_ := (bne_f h8); have q5_ := (beq_t h9); (try have kc_ := pcheck_know hr1 ‹(r1 != 0) = false›); first | omega | (rw [List.length_set]; omega) | (dsimp only; omega) | (rw [List.length_drop]; omega) | (simp only [w64_eq]; omega) | exact (tm_in (by (first | (rw [w64_id (by omega)]; omega) | (simp only [w64_eq]; omega))) (by omega)).1 | exact (tm_in (by (first | (rw [w64_id (by omega)]; omega) | (simp only [w64_eq]; omega))) (by omega)).2.1 | exact (tm_in (by (first | (rw [w64_id (by omega)]; omega) | (simp only [w64_eq]; omega))) (by omega)).2.2 | (simp only [List.length_take] at *; omega) | (simp <;> omega))) (by kernel_rfl) (by kernel_rfl) ?_
                        refine TL.skipM (Γ := Unit) (sU (Instr.storeAt 3 (.pointer (some (((A.getD noAddr).add (k_2 * 1)).add 0))) (.int .i64 (w64 ((w64 (r4.tdiv 10000)) + 1048576))))) none (fun _ => [.inl (b2, .cells (TubeNode.c r3.1) 97 (0, 0)), .inr (Own A c 3 1 ((row.set k_2 (w64 ((w64 (r4.tdiv 10000)) + 1048576))).map ic)), .inl (b1, .cells (Track.c x) 25 (0, 0)), .inr (Own A_out c_out 62 1 (o_out.map Sl.c)), .inr (Bag 3 1 ic o_out)]) (fun _ => [(1, .slice A_tubes tubes.length c_tubes), (2, .slice A_codes codes.length c_codes), (9, .slice A_out out.length c_out), (11, .pointer (some ⟨b1, 0, none⟩)), (13, .slice A row.length c), (27, .slice A_tracks tracks.length c_tracks), (28, .int .i64 (tracks.length : Int)), (29, .int .i64 (k : Int)), (41, .slice A_tubes tubes.length c_tubes), (42, .int .i64 (tubes.length : Int)), (43, .int .i64 (k_2 : Int))]) (run_store_at (n := 1) (off := 0) (.int .i64 (w64 ((w64 (r4.tdiv 10000)) + 1048576))) 1 ((row.set k_2 (w64 ((w64 (r4.tdiv 10000)) + 1048576))).map ic) rfl (map_at (getD_at _ _ 0 (by have q0_ := (dec_f h1); have q1_ := (bne_f h2); have q2_ := (bne_f h4); have q3_ := (bne_t h7); have q4_ := (bne_f h8); have q5_ := (beq_t h9); (try have kc_ := pcheck_know hr1 ‹(r1 != 0) = false›); first | omega | (rw [List.length_set]; omega) | (dsimp only; omega) | (rw [List.length_drop]; omega) | (simp only [w64_eq]; omega) | exact (tm_in (by (first | (rw [w64_id (by omega)]; omega) | (simp only [w64_eq]; omega))) (by omega)).1 | exact (tm_in (by (first | (rw [w64_id (by omega)]; omega) | (simp only [w64_eq]; omega))) (by omega)).2.1 | exact (tm_in (by (first | (rw [w64_id (by omega)]; omega) | (simp only [w64_eq]; omega))) (by omega)).2.2 | (simp only [List.length_take] at *; omega) | (simp <;> omega)))) (by kernel_rfl) (by kernel_rfl) (by kernel_rfl) (by kernel_rfl) (set_map_at (by kernel_rfl))) (by kernel_rfl) (fun _ => by kernel_rfl) (fun _ => ?_)
                        refine TL.rw 13 (.slice A row.length c) (.slice A ((row.set k_2 (w64 ((w64 (r4.tdiv 10000)) + 1048576))).length) c) (by kernel_rfl) (by simp only [List.length_set]) ?_
                        refine TL.done rfl ?_
                        refine TE.normal_block ?_
                        refine TE.normal_block ?_
                        refine TE.next ?_
                        refine TC.region ?_
                        refine TL.run 2 [] [(1, .slice A_tubes tubes.length c_tubes), (2, .slice A_codes codes.length c_codes), (9, .slice A_out out.length c_out), (11, .pointer (some ⟨b1, 0, none⟩)), (13, .slice A ((row.set k_2 (w64 ((w64 (r4.tdiv 10000)) + 1048576))).length) c), (27, .slice A_tracks tracks.length c_tracks), (28, .int .i64 (tracks.length : Int)), (29, .int .i64 (k : Int)), (41, .slice A_tubes tubes.length c_tubes), (42, .int .i64 (tubes.length : Int)), (43, .int .i64 (w64 ((k_2 : Int) + 1)))] rfl ⟨by kernel_rfl, by kernel_rfl⟩ ?_
                        refine TL.done rfl ?_
                        refine TE.rw 43 (.int .i64 (w64 ((k_2 : Int) + 1))) (.int .i64 ((k_2 + 1 : Nat) : Int)) (by kernel_rfl) (w64_cast k_2 (by (try have kc_ := pcheck_know hr1 ‹(r1 != 0) = false›); omega)) ?_
                        exact TE.again (x := (k_2, row)) (k_2 + 1, (row.set k_2 (w64 ((w64 (r4.tdiv 10000)) + 1048576)))) ⟨by omega, hI_2.trans (by subst hr1 hr2 hr3 hr4; rw [hd_2]; exact cond_f h6 (cond_t h7 (cond_f h8 (cond_t h9 (rfl))))), (by have q0_ := (dec_f h1); have q1_ := (bne_f h2); have q2_ := (bne_f h4); have q3_ := (bne_t h7); have q4_ := (bne_f h8); have q5_ := (beq_t h9); (try have kc_ := pcheck_know hr1 ‹(r1 != 0) = false›); first | omega | (simp <;> omega) | (simp at * <;> omega) | (simp only [w64_eq] at *; omega) | (simp only [List.length_append, List.length_cons, List.length_nil]; omega))⟩ (by show tubes.length - (k_2 + 1) < tubes.length - k_2; omega) (by kernel_rfl) (.cons _ (.cons_cons _ (.cons_cons _ (.cons_cons _ (.cons_cons _ (.slnil))))))
                      · refine TC.region ?_
                        refine TL.run 7 [2, 0] [(1, .slice A_tubes tubes.length c_tubes), (2, .slice A_codes codes.length c_codes), (9, .slice A_out out.length c_out), (11, .pointer (some ⟨b1, 0, none⟩)), (13, .slice A row.length c), (27, .slice A_tracks tracks.length c_tracks), (28, .int .i64 (tracks.length : Int)), (29, .int .i64 (k : Int)), (41, .slice A_tubes tubes.length c_tubes), (42, .int .i64 (tubes.length : Int)), (43, .int .i64 (k_2 : Int)), (54, .slice A row.length c), (55, .int .i64 (k_2 : Int)), (57, P.v x.At), (60, P.v r3.1.Node.At)] rfl ⟨by kernel_rfl, by kernel_rfl⟩ ?_
                        refine TL.call (some 61) [(1, .slice A_tubes tubes.length c_tubes), (2, .slice A_codes codes.length c_codes), (9, .slice A_out out.length c_out), (11, .pointer (some ⟨b1, 0, none⟩)), (13, .slice A row.length c), (27, .slice A_tracks tracks.length c_tracks), (28, .int .i64 (tracks.length : Int)), (29, .int .i64 (k : Int)), (41, .slice A_tubes tubes.length c_tubes), (42, .int .i64 (tubes.length : Int)), (43, .int .i64 (k_2 : Int)), (54, .slice A row.length c), (55, .int .i64 (k_2 : Int)), (61, .int .i64 (plane_Square x.At r3.1.Node.At))] (fun w _ => plane_Square_w x.At r3.1.Node.At w) (by kernel_rfl) (by kernel_rfl) ?_
                        generalize hr5 : plane_Square x.At r3.1.Node.At = r5
                        refine TL.run 9 [] [(1, .slice A_tubes tubes.length c_tubes), (2, .slice A_codes codes.length c_codes), (9, .slice A_out out.length c_out), (11, .pointer (some ⟨b1, 0, none⟩)), (13, .slice A row.length c), (27, .slice A_tracks tracks.length c_tracks), (28, .int .i64 (tracks.length : Int)), (29, .int .i64 (k : Int)), (41, .slice A_tubes tubes.length c_tubes), (42, .int .i64 (tubes.length : Int)), (43, .int .i64 (k_2 : Int)), (54, .slice A row.length c), (55, .int .i64 (k_2 : Int)), (62, .int .i64 (w64 (r5.tdiv 10000)))] rfl ⟨by kernel_rfl, by kernel_rfl⟩ ?_
                        refine TL.val (sV (Instr.indexAt 62 (.slice A row.length c) (.int .i64 (k_2 : Int)))) (some 63) (.pointer (some ((A.getD noAddr).add (k_2 * 1)))) [(1, .slice A_tubes tubes.length c_tubes), (2, .slice A_codes codes.length c_codes), (9, .slice A_out out.length c_out), (11, .pointer (some ⟨b1, 0, none⟩)), (13, .slice A row.length c), (27, .slice A_tracks tracks.length c_tracks), (28, .int .i64 (tracks.length : Int)), (29, .int .i64 (k : Int)), (41, .slice A_tubes tubes.length c_tubes), (42, .int .i64 (tubes.length : Int)), (43, .int .i64 (k_2 : Int)), (62, .int .i64 (w64 (r5.tdiv 10000))), (63, .pointer (some ((A.getD noAddr).add (k_2 * 1))))] (fun w hM => run_index (hM.rd_at 1 rfl) (by simp) (by kernel_rfl) (by have q0_ := (dec_f h1); have q1_ := (bne_f h2); have q2_ := (bne_f h4); have q3_ := (bne_t h7); have q4_ := (bne_f h8); have q5_ := (beq_f h9); (try have kc_ := pcheck_know hr1 ‹(r1 != 0) = false›); first | omega | (rw [List.length_set]; omega) | (dsimp only; omega) | (rw [List.length_drop]; omega) | (simp only [w64_eq]; omega) | exact (tm_in (by (first | (rw [w64_id (by omega)]; omega) | (simp only [w64_eq]; omega))) (by omega)).1 | exact (tm_in (by (first | (rw [w64_id (by omega)]; omega) | (simp only [w64_eq]; omega))) (by omega)).2.1 | exact (tm_in (by (first | (rw [w64_id (by omega)]; omega) | (simp only [w64_eq]; omega))) (by omega)).2.2 | (simp only [List.length_take] at *; omega) | (simp <;> omega)) (by have q0_ := (dec_f h1); have q1_ := (bne_f h2); have q2_ := (bne_f h4); have q3_ := (bne_t h7); have q4_ := (bne_f h8); have q5_ := (beq_f h9); (try have kc_ := pcheck_know hr1 ‹(r1 != 0) = false›); first | omega | (rw [List.length_set]; omega) | (dsimp only; omega) | (rw [List.length_drop]; omega) | (simp only [w64_eq]; omega) | exact (tm_in (by (first | (rw [w64_id (by omega)]; omega) | (simp only [w64_eq]; omega))) (by omega)).1 | exact (tm_in (by (first | (rw [w64_id (by omega)]; omega) | (simp only [w64_eq]; omega))) (by omega)).2.1 | exact (tm_in (by (first | (rw [w64_id (by omega)]; omega) | (simp only [w64_eq]; omega))) (by omega)).2.2 | (simp only [List.length_take] at *; omega) | (simp <;> omega))) (by kernel_rfl) (by kernel_rfl) ?_
                        refine TL.skipM (Γ := Unit) (sU (Instr.storeAt 3 (.pointer (some (((A.getD noAddr).add (k_2 * 1)).add 0))) (.int .i64 (w64 (r5.tdiv 10000))))) none (fun _ => [.inl (b2, .cells (TubeNode.c r3.1) 97 (0, 0)), .inr (Own A c 3 1 ((row.set k_2 (w64 (r5.tdiv 10000))).map ic)), .inl (b1, .cells (Track.c x) 25 (0, 0)), .inr (Own A_out c_out 62 1 (o_out.map Sl.c)), .inr (Bag 3 1 ic o_out)]) (fun _ => [(1, .slice A_tubes tubes.length c_tubes), (2, .slice A_codes codes.length c_codes), (9, .slice A_out out.length c_out), (11, .pointer (some ⟨b1, 0, none⟩)), (13, .slice A row.length c), (27, .slice A_tracks tracks.length c_tracks), (28, .int .i64 (tracks.length : Int)), (29, .int .i64 (k : Int)), (41, .slice A_tubes tubes.length c_tubes), (42, .int .i64 (tubes.length : Int)), (43, .int .i64 (k_2 : Int))]) (run_store_at (n := 1) (off := 0) (.int .i64 (w64 (r5.tdiv 10000))) 1 ((row.set k_2 (w64 (r5.tdiv 10000))).map ic) rfl (map_at (getD_at _ _ 0 (by have q0_ := (dec_f h1); have q1_ := (bne_f h2); have q2_ := (bne_f h4); have q3_ := (bne_t h7); have q4_ := (bne_f h8); have q5_ := (beq_f h9); (try have kc_ := pcheck_know hr1 ‹(r1 != 0) = false›); first | omega | (rw [List.length_set]; omega) | (dsimp only; omega) | (rw [List.length_drop]; omega) | (simp only [w64_eq]; omega) | exact (tm_in (by (first | (rw [w64_id (by omega)]; omega) | (simp only [w64_eq]; omega))) (by omega)).1 | exact (tm_in (by (first | (rw [w64_id (by omega)]; omega) | (simp only [w64_eq]; omega))) (by omega)).2.1 | exact (tm_in (by (first | (rw [w64_id (by omega)]; omega) | (simp only [w64_eq]; omega))) (by omega)).2.2 | (simp only [List.length_take] at *; omega) | (simp <;> omega)))) (by kernel_rfl) (by kernel_rfl) (by kernel_rfl) (by kernel_rfl) (set_map_at (by kernel_rfl))) (by kernel_rfl) (fun _ => by kernel_rfl) (fun _ => ?_)
                        refine TL.rw 13 (.slice A row.length c) (.slice A ((row.set k_2 (w64 (r5.tdiv 10000))).length) c) (by kernel_rfl) (by simp only [List.length_set]) ?_
                        refine TL.done rfl ?_
                        refine TE.normal_block ?_
                        refine TE.normal_block ?_
                        refine TE.next ?_
                        refine TC.region ?_
                        refine TL.run 2 [] [(1, .slice A_tubes tubes.length c_tubes), (2, .slice A_codes codes.length c_codes), (9, .slice A_out out.length c_out), (11, .pointer (some ⟨b1, 0, none⟩)), (13, .slice A ((row.set k_2 (w64 (r5.tdiv 10000))).length) c), (27, .slice A_tracks tracks.length c_tracks), (28, .int .i64 (tracks.length : Int)), (29, .int .i64 (k : Int)), (41, .slice A_tubes tubes.length c_tubes), (42, .int .i64 (tubes.length : Int)), (43, .int .i64 (w64 ((k_2 : Int) + 1)))] rfl ⟨by kernel_rfl, by kernel_rfl⟩ ?_
                        refine TL.done rfl ?_
                        refine TE.rw 43 (.int .i64 (w64 ((k_2 : Int) + 1))) (.int .i64 ((k_2 + 1 : Nat) : Int)) (by kernel_rfl) (w64_cast k_2 (by (try have kc_ := pcheck_know hr1 ‹(r1 != 0) = false›); omega)) ?_
                        exact TE.again (x := (k_2, row)) (k_2 + 1, (row.set k_2 (w64 (r5.tdiv 10000)))) ⟨by omega, hI_2.trans (by subst hr1 hr2 hr3 hr5; rw [hd_2]; exact cond_f h6 (cond_t h7 (cond_f h8 (cond_f h9 (rfl))))), (by have q0_ := (dec_f h1); have q1_ := (bne_f h2); have q2_ := (bne_f h4); have q3_ := (bne_t h7); have q4_ := (bne_f h8); have q5_ := (beq_f h9); (try have kc_ := pcheck_know hr1 ‹(r1 != 0) = false›); first | omega | (simp <;> omega) | (simp at * <;> omega) | (simp only [w64_eq] at *; omega) | (simp only [List.length_append, List.length_cons, List.length_nil]; omega))⟩ (by show tubes.length - (k_2 + 1) < tubes.length - k_2; omega) (by kernel_rfl) (.cons _ (.cons_cons _ (.cons_cons _ (.cons_cons _ (.cons_cons _ (.slnil))))))
                  · refine TQ.run 17 [] [(1, .slice A_tubes tubes.length c_tubes), (2, .slice A_codes codes.length c_codes), (9, .slice A_out out.length c_out), (11, .pointer (some ⟨b1, 0, none⟩)), (13, .slice A row.length c), (14, .int .i64 (k_2 : Int)), (16, .pointer (some ⟨b2, 0, none⟩)), (27, .slice A_tracks tracks.length c_tracks), (28, .int .i64 (tracks.length : Int)), (29, .int .i64 (k : Int)), (41, .slice A_tubes tubes.length c_tubes), (42, .int .i64 (tubes.length : Int)), (43, .int .i64 (k_2 : Int)), (64, .bool false)] rfl ⟨by kernel_rfl, by kernel_rfl⟩ ?_
                    refine TQ.next rfl ?_
                    refine TC.condF rfl (by kernel_rfl) ?_
                    refine TC.seq ?_
                    refine TC.region ?_
                    refine TL.run 4 [2] [(1, .slice A_tubes tubes.length c_tubes), (2, .slice A_codes codes.length c_codes), (9, .slice A_out out.length c_out), (11, .pointer (some ⟨b1, 0, none⟩)), (13, .slice A row.length c), (14, .int .i64 (k_2 : Int)), (16, .pointer (some ⟨b2, 0, none⟩)), (27, .slice A_tracks tracks.length c_tracks), (28, .int .i64 (tracks.length : Int)), (29, .int .i64 (k : Int)), (41, .slice A_tubes tubes.length c_tubes), (42, .int .i64 (tubes.length : Int)), (43, .int .i64 (k_2 : Int)), (84, .bool (x.Code == (-1)))] rfl ⟨by kernel_rfl, by kernel_rfl⟩ ?_
                    refine TL.next rfl ?_
                    refine TC.cond (x.Code == (-1)) rfl (by kernel_rfl) (fun h10 => ?_) (fun h10 => ?_)
                    · refine TC.region ?_
                      refine TL.run 7 [2, 0] [(1, .slice A_tubes tubes.length c_tubes), (2, .slice A_codes codes.length c_codes), (9, .slice A_out out.length c_out), (11, .pointer (some ⟨b1, 0, none⟩)), (13, .slice A row.length c), (27, .slice A_tracks tracks.length c_tracks), (28, .int .i64 (tracks.length : Int)), (29, .int .i64 (k : Int)), (41, .slice A_tubes tubes.length c_tubes), (42, .int .i64 (tubes.length : Int)), (43, .int .i64 (k_2 : Int)), (88, .slice A row.length c), (89, .int .i64 (k_2 : Int)), (91, P.v x.At), (94, P.v r3.1.Node.At)] rfl ⟨by kernel_rfl, by kernel_rfl⟩ ?_
                      refine TL.call (some 95) [(1, .slice A_tubes tubes.length c_tubes), (2, .slice A_codes codes.length c_codes), (9, .slice A_out out.length c_out), (11, .pointer (some ⟨b1, 0, none⟩)), (13, .slice A row.length c), (27, .slice A_tracks tracks.length c_tracks), (28, .int .i64 (tracks.length : Int)), (29, .int .i64 (k : Int)), (41, .slice A_tubes tubes.length c_tubes), (42, .int .i64 (tubes.length : Int)), (43, .int .i64 (k_2 : Int)), (88, .slice A row.length c), (89, .int .i64 (k_2 : Int)), (95, .int .i64 (plane_Square x.At r3.1.Node.At))] (fun w _ => plane_Square_w x.At r3.1.Node.At w) (by kernel_rfl) (by kernel_rfl) ?_
                      generalize hr6 : plane_Square x.At r3.1.Node.At = r6
                      refine TL.run 10 [] [(1, .slice A_tubes tubes.length c_tubes), (2, .slice A_codes codes.length c_codes), (9, .slice A_out out.length c_out), (11, .pointer (some ⟨b1, 0, none⟩)), (13, .slice A row.length c), (27, .slice A_tracks tracks.length c_tracks), (28, .int .i64 (tracks.length : Int)), (29, .int .i64 (k : Int)), (41, .slice A_tubes tubes.length c_tubes), (42, .int .i64 (tubes.length : Int)), (43, .int .i64 (k_2 : Int)), (88, .slice A row.length c), (89, .int .i64 (k_2 : Int)), (97, .int .i64 (w64 ((w64 (r6.tdiv 10000)) + 1048576)))] rfl ⟨by kernel_rfl, by kernel_rfl⟩ ?_
                      refine TL.val (sV (Instr.indexAt 62 (.slice A row.length c) (.int .i64 (k_2 : Int)))) (some 98) (.pointer (some ((A.getD noAddr).add (k_2 * 1)))) [(1, .slice A_tubes tubes.length c_tubes), (2, .slice A_codes codes.length c_codes), (9, .slice A_out out.length c_out), (11, .pointer (some ⟨b1, 0, none⟩)), (13, .slice A row.length c), (27, .slice A_tracks tracks.length c_tracks), (28, .int .i64 (tracks.length : Int)), (29, .int .i64 (k : Int)), (41, .slice A_tubes tubes.length c_tubes), (42, .int .i64 (tubes.length : Int)), (43, .int .i64 (k_2 : Int)), (97, .int .i64 (w64 ((w64 (r6.tdiv 10000)) + 1048576))), (98, .pointer (some ((A.getD noAddr).add (k_2 * 1))))] (fun w hM => run_index (hM.rd_at 1 rfl) (by simp) (by kernel_rfl) (by have q0_ := (dec_f h1); have q1_ := (bne_f h2); have q2_ := (bne_f h4); have q3_ := (bne_f h7); have q4_ := (beq_t h10); (try have kc_ := pcheck_know hr1 ‹(r1 != 0) = false›); first | omega | (rw [List.length_set]; omega) | (dsimp only; omega) | (rw [List.length_drop]; omega) | (simp only [w64_eq]; omega) | exact (tm_in (by (first | (rw [w64_id (by omega)]; omega) | (simp only [w64_eq]; omega))) (by omega)).1 | exact (tm_in (by (first | (rw [w64_id (by omega)]; omega) | (simp only [w64_eq]; omega))) (by omega)).2.1 | exact (tm_in (by (first | (rw [w64_id (by omega)]; omega) | (simp only [w64_eq]; omega))) (by omega)).2.2 | (simp only [List.length_take] at *; omega) | (simp <;> omega)) (by have q0_ := (dec_f h1); have q1_ := (bne_f h2); have q2_ := (bne_f h4); have q3_ := (bne_f h7); have q4_ := (beq_t h10); (try have kc_ := pcheck_know hr1 ‹(r1 != 0) = false›); first | omega | (rw [List.length_set]; omega) | (dsimp only; omega) | (rw [List.length_drop]; omega) | (simp only [w64_eq]; omega) | exact (tm_in (by (first | (rw [w64_id (by omega)]; omega) | (simp only [w64_eq]; omega))) (by omega)).1 | exact (tm_in (by (first | (rw [w64_id (by omega)]; omega) | (simp only [w64_eq]; omega))) (by omega)).2.1 | exact (tm_in (by (first | (rw [w64_id (by omega)]; omega) | (simp only [w64_eq]; omega))) (by omega)).2.2 | (simp only [List.length_take] at *; omega) | (simp <;> omega))) (by kernel_rfl) (by kernel_rfl) ?_
                      refine TL.skipM (Γ := Unit) (sU (Instr.storeAt 3 (.pointer (some (((A.getD noAddr).add (k_2 * 1)).add 0))) (.int .i64 (w64 ((w64 (r6.tdiv 10000)) + 1048576))))) none (fun _ => [.inl (b2, .cells (TubeNode.c r3.1) 97 (0, 0)), .inr (Own A c 3 1 ((row.set k_2 (w64 ((w64 (r6.tdiv 10000)) + 1048576))).map ic)), .inl (b1, .cells (Track.c x) 25 (0, 0)), .inr (Own A_out c_out 62 1 (o_out.map Sl.c)), .inr (Bag 3 1 ic o_out)]) (fun _ => [(1, .slice A_tubes tubes.length c_tubes), (2, .slice A_codes codes.length c_codes), (9, .slice A_out out.length c_out), (11, .pointer (some ⟨b1, 0, none⟩)), (13, .slice A row.length c), (27, .slice A_tracks tracks.length c_tracks), (28, .int .i64 (tracks.length : Int)), (29, .int .i64 (k : Int)), (41, .slice A_tubes tubes.length c_tubes), (42, .int .i64 (tubes.length : Int)), (43, .int .i64 (k_2 : Int))]) (run_store_at (n := 1) (off := 0) (.int .i64 (w64 ((w64 (r6.tdiv 10000)) + 1048576))) 1 ((row.set k_2 (w64 ((w64 (r6.tdiv 10000)) + 1048576))).map ic) rfl (map_at (getD_at _ _ 0 (by have q0_ := (dec_f h1); have q1_ := (bne_f h2); have q2_ := (bne_f h4); have q3_ := (bne_f h7); have q4_ := (beq_t h10); (try have kc_ := pcheck_know hr1 ‹(r1 != 0) = false›); first | omega | (rw [List.length_set]; omega) | (dsimp only; omega) | (rw [List.length_drop]; omega) | (simp only [w64_eq]; omega) | exact (tm_in (by (first | (rw [w64_id (by omega)]; omega) | (simp only [w64_eq]; omega))) (by omega)).1 | exact (tm_in (by (first | (rw [w64_id (by omega)]; omega) | (simp only [w64_eq]; omega))) (by omega)).2.1 | exact (tm_in (by (first | (rw [w64_id (by omega)]; omega) | (simp only [w64_eq]; omega))) (by omega)).2.2 | (simp only [List.length_take] at *; omega) | (simp <;> omega)))) (by kernel_rfl) (by kernel_rfl) (by kernel_rfl) (by kernel_rfl) (set_map_at (by kernel_rfl))) (by kernel_rfl) (fun _ => by kernel_rfl) (fun _ => ?_)
                      refine TL.rw 13 (.slice A row.length c) (.slice A ((row.set k_2 (w64 ((w64 (r6.tdiv 10000)) + 1048576))).length) c) (by kernel_rfl) (by simp only [List.length_set]) ?_
                      refine TL.done rfl ?_
                      refine TE.normal_block ?_
                      refine TE.normal_block ?_
                      refine TE.next ?_
                      refine TC.region ?_
                      refine TL.run 2 [] [(1, .slice A_tubes tubes.length c_tubes), (2, .slice A_codes codes.length c_codes), (9, .slice A_out out.length c_out), (11, .pointer (some ⟨b1, 0, none⟩)), (13, .slice A ((row.set k_2 (w64 ((w64 (r6.tdiv 10000)) + 1048576))).length) c), (27, .slice A_tracks tracks.length c_tracks), (28, .int .i64 (tracks.length : Int)), (29, .int .i64 (k : Int)), (41, .slice A_tubes tubes.length c_tubes), (42, .int .i64 (tubes.length : Int)), (43, .int .i64 (w64 ((k_2 : Int) + 1)))] rfl ⟨by kernel_rfl, by kernel_rfl⟩ ?_
                      refine TL.done rfl ?_
                      refine TE.rw 43 (.int .i64 (w64 ((k_2 : Int) + 1))) (.int .i64 ((k_2 + 1 : Nat) : Int)) (by kernel_rfl) (w64_cast k_2 (by (try have kc_ := pcheck_know hr1 ‹(r1 != 0) = false›); omega)) ?_
                      exact TE.again (x := (k_2, row)) (k_2 + 1, (row.set k_2 (w64 ((w64 (r6.tdiv 10000)) + 1048576)))) ⟨by omega, hI_2.trans (by subst hr1 hr2 hr3 hr6; rw [hd_2]; exact cond_f h6 (cond_f h7 (cond_t h10 (rfl)))), (by have q0_ := (dec_f h1); have q1_ := (bne_f h2); have q2_ := (bne_f h4); have q3_ := (bne_f h7); have q4_ := (beq_t h10); (try have kc_ := pcheck_know hr1 ‹(r1 != 0) = false›); first | omega | (simp <;> omega) | (simp at * <;> omega) | (simp only [w64_eq] at *; omega) | (simp only [List.length_append, List.length_cons, List.length_nil]; omega))⟩ (by show tubes.length - (k_2 + 1) < tubes.length - k_2; omega) (by kernel_rfl) (.cons _ (.cons_cons _ (.cons_cons _ (.cons_cons _ (.cons_cons _ (.slnil))))))
                    · refine TC.region ?_
                      refine TL.run 7 [2, 0] [(1, .slice A_tubes tubes.length c_tubes), (2, .slice A_codes codes.length c_codes), (9, .slice A_out out.length c_out), (11, .pointer (some ⟨b1, 0, none⟩)), (13, .slice A row.length c), (27, .slice A_tracks tracks.length c_tracks), (28, .int .i64 (tracks.length : Int)), (29, .int .i64 (k : Int)), (41, .slice A_tubes tubes.length c_tubes), (42, .int .i64 (tubes.length : Int)), (43, .int .i64 (k_2 : Int)), (54, .slice A row.length c), (55, .int .i64 (k_2 : Int)), (57, P.v x.At), (60, P.v r3.1.Node.At)] rfl ⟨by kernel_rfl, by kernel_rfl⟩ ?_
                      refine TL.call (some 61) [(1, .slice A_tubes tubes.length c_tubes), (2, .slice A_codes codes.length c_codes), (9, .slice A_out out.length c_out), (11, .pointer (some ⟨b1, 0, none⟩)), (13, .slice A row.length c), (27, .slice A_tracks tracks.length c_tracks), (28, .int .i64 (tracks.length : Int)), (29, .int .i64 (k : Int)), (41, .slice A_tubes tubes.length c_tubes), (42, .int .i64 (tubes.length : Int)), (43, .int .i64 (k_2 : Int)), (54, .slice A row.length c), (55, .int .i64 (k_2 : Int)), (61, .int .i64 (plane_Square x.At r3.1.Node.At))] (fun w _ => plane_Square_w x.At r3.1.Node.At w) (by kernel_rfl) (by kernel_rfl) ?_
                      generalize hr7 : plane_Square x.At r3.1.Node.At = r7
                      refine TL.run 9 [] [(1, .slice A_tubes tubes.length c_tubes), (2, .slice A_codes codes.length c_codes), (9, .slice A_out out.length c_out), (11, .pointer (some ⟨b1, 0, none⟩)), (13, .slice A row.length c), (27, .slice A_tracks tracks.length c_tracks), (28, .int .i64 (tracks.length : Int)), (29, .int .i64 (k : Int)), (41, .slice A_tubes tubes.length c_tubes), (42, .int .i64 (tubes.length : Int)), (43, .int .i64 (k_2 : Int)), (54, .slice A row.length c), (55, .int .i64 (k_2 : Int)), (62, .int .i64 (w64 (r7.tdiv 10000)))] rfl ⟨by kernel_rfl, by kernel_rfl⟩ ?_
                      refine TL.val (sV (Instr.indexAt 62 (.slice A row.length c) (.int .i64 (k_2 : Int)))) (some 63) (.pointer (some ((A.getD noAddr).add (k_2 * 1)))) [(1, .slice A_tubes tubes.length c_tubes), (2, .slice A_codes codes.length c_codes), (9, .slice A_out out.length c_out), (11, .pointer (some ⟨b1, 0, none⟩)), (13, .slice A row.length c), (27, .slice A_tracks tracks.length c_tracks), (28, .int .i64 (tracks.length : Int)), (29, .int .i64 (k : Int)), (41, .slice A_tubes tubes.length c_tubes), (42, .int .i64 (tubes.length : Int)), (43, .int .i64 (k_2 : Int)), (62, .int .i64 (w64 (r7.tdiv 10000))), (63, .pointer (some ((A.getD noAddr).add (k_2 * 1))))] (fun w hM => run_index (hM.rd_at 1 rfl) (by simp) (by kernel_rfl) (by have q0_ := (dec_f h1); have q1_ := (bne_f h2); have q2_ := (bne_f h4); have q3_ := (bne_f h7); have q4_ := (beq_f h10); (try have kc_ := pcheck_know hr1 ‹(r1 != 0) = false›); first | omega | (rw [List.length_set]; omega) | (dsimp only; omega) | (rw [List.length_drop]; omega) | (simp only [w64_eq]; omega) | exact (tm_in (by (first | (rw [w64_id (by omega)]; omega) | (simp only [w64_eq]; omega))) (by omega)).1 | exact (tm_in (by (first | (rw [w64_id (by omega)]; omega) | (simp only [w64_eq]; omega))) (by omega)).2.1 | exact (tm_in (by (first | (rw [w64_id (by omega)]; omega) | (simp only [w64_eq]; omega))) (by omega)).2.2 | (simp only [List.length_take] at *; omega) | (simp <;> omega)) (by have q0_ := (dec_f h1); have q1_ := (bne_f h2); have q2_ := (bne_f h4); have q3_ := (bne_f h7); have q4_ := (beq_f h10); (try have kc_ := pcheck_know hr1 ‹(r1 != 0) = false›); first | omega | (rw [List.length_set]; omega) | (dsimp only; omega) | (rw [List.length_drop]; omega) | (simp only [w64_eq]; omega) | exact (tm_in (by (first | (rw [w64_id (by omega)]; omega) | (simp only [w64_eq]; omega))) (by omega)).1 | exact (tm_in (by (first | (rw [w64_id (by omega)]; omega) | (simp only [w64_eq]; omega))) (by omega)).2.1 | exact (tm_in (by (first | (rw [w64_id (by omega)]; omega) | (simp only [w64_eq]; omega))) (by omega)).2.2 | (simp only [List.length_take] at *; omega) | (simp <;> omega))) (by kernel_rfl) (by kernel_rfl) ?_
                      refine TL.skipM (Γ := Unit) (sU (Instr.storeAt 3 (.pointer (some (((A.getD noAddr).add (k_2 * 1)).add 0))) (.int .i64 (w64 (r7.tdiv 10000))))) none (fun _ => [.inl (b2, .cells (TubeNode.c r3.1) 97 (0, 0)), .inr (Own A c 3 1 ((row.set k_2 (w64 (r7.tdiv 10000))).map ic)), .inl (b1, .cells (Track.c x) 25 (0, 0)), .inr (Own A_out c_out 62 1 (o_out.map Sl.c)), .inr (Bag 3 1 ic o_out)]) (fun _ => [(1, .slice A_tubes tubes.length c_tubes), (2, .slice A_codes codes.length c_codes), (9, .slice A_out out.length c_out), (11, .pointer (some ⟨b1, 0, none⟩)), (13, .slice A row.length c), (27, .slice A_tracks tracks.length c_tracks), (28, .int .i64 (tracks.length : Int)), (29, .int .i64 (k : Int)), (41, .slice A_tubes tubes.length c_tubes), (42, .int .i64 (tubes.length : Int)), (43, .int .i64 (k_2 : Int))]) (run_store_at (n := 1) (off := 0) (.int .i64 (w64 (r7.tdiv 10000))) 1 ((row.set k_2 (w64 (r7.tdiv 10000))).map ic) rfl (map_at (getD_at _ _ 0 (by have q0_ := (dec_f h1); have q1_ := (bne_f h2); have q2_ := (bne_f h4); have q3_ := (bne_f h7); have q4_ := (beq_f h10); (try have kc_ := pcheck_know hr1 ‹(r1 != 0) = false›); first | omega | (rw [List.length_set]; omega) | (dsimp only; omega) | (rw [List.length_drop]; omega) | (simp only [w64_eq]; omega) | exact (tm_in (by (first | (rw [w64_id (by omega)]; omega) | (simp only [w64_eq]; omega))) (by omega)).1 | exact (tm_in (by (first | (rw [w64_id (by omega)]; omega) | (simp only [w64_eq]; omega))) (by omega)).2.1 | exact (tm_in (by (first | (rw [w64_id (by omega)]; omega) | (simp only [w64_eq]; omega))) (by omega)).2.2 | (simp only [List.length_take] at *; omega) | (simp <;> omega)))) (by kernel_rfl) (by kernel_rfl) (by kernel_rfl) (by kernel_rfl) (set_map_at (by kernel_rfl))) (by kernel_rfl) (fun _ => by kernel_rfl) (fun _ => ?_)
                      refine TL.rw 13 (.slice A row.length c) (.slice A ((row.set k_2 (w64 (r7.tdiv 10000))).length) c) (by kernel_rfl) (by simp only [List.length_set]) ?_
                      refine TL.done rfl ?_
                      refine TE.normal_block ?_
                      refine TE.normal_block ?_
                      refine TE.next ?_
                      refine TC.region ?_
                      refine TL.run 2 [] [(1, .slice A_tubes tubes.length c_tubes), (2, .slice A_codes codes.length c_codes), (9, .slice A_out out.length c_out), (11, .pointer (some ⟨b1, 0, none⟩)), (13, .slice A ((row.set k_2 (w64 (r7.tdiv 10000))).length) c), (27, .slice A_tracks tracks.length c_tracks), (28, .int .i64 (tracks.length : Int)), (29, .int .i64 (k : Int)), (41, .slice A_tubes tubes.length c_tubes), (42, .int .i64 (tubes.length : Int)), (43, .int .i64 (w64 ((k_2 : Int) + 1)))] rfl ⟨by kernel_rfl, by kernel_rfl⟩ ?_
                      refine TL.done rfl ?_
                      refine TE.rw 43 (.int .i64 (w64 ((k_2 : Int) + 1))) (.int .i64 ((k_2 + 1 : Nat) : Int)) (by kernel_rfl) (w64_cast k_2 (by (try have kc_ := pcheck_know hr1 ‹(r1 != 0) = false›); omega)) ?_
                      exact TE.again (x := (k_2, row)) (k_2 + 1, (row.set k_2 (w64 (r7.tdiv 10000)))) ⟨by omega, hI_2.trans (by subst hr1 hr2 hr3 hr7; rw [hd_2]; exact cond_f h6 (cond_f h7 (cond_f h10 (rfl)))), (by have q0_ := (dec_f h1); have q1_ := (bne_f h2); have q2_ := (bne_f h4); have q3_ := (bne_f h7); have q4_ := (beq_f h10); (try have kc_ := pcheck_know hr1 ‹(r1 != 0) = false›); first | omega | (simp <;> omega) | (simp at * <;> omega) | (simp only [w64_eq] at *; omega) | (simp only [List.length_append, List.length_cons, List.length_nil]; omega))⟩ (by show tubes.length - (k_2 + 1) < tubes.length - k_2; omega) (by kernel_rfl) (.cons _ (.cons_cons _ (.cons_cons _ (.cons_cons _ (.cons_cons _ (.slnil))))))
              · have hd_2 : tubes.drop k_2 = [] := List.drop_eq_nil_of_le (by have := of_decide_eq_false h5; first | omega | (simp at this; omega))
                refine TC.exit ?_
                refine TE.exit_then (TE.exit_then (TE.exit_same ?_))
                exact TE.cut row (⟨hI_2.trans (by subst hr1 hr2; rw [hd_2]; exact rfl), (by have q0_ := (dec_f h1); have q1_ := (bne_f h2); have q2_ := (bne_f h4); (try have kc_ := pcheck_know hr1 ‹(r1 != 0) = false›); first | omega | (simp <;> omega) | (simp at * <;> omega) | (simp only [w64_eq] at *; omega) | (simp only [List.length_append, List.length_cons, List.length_nil]; omega))⟩) (by kernel_rfl) (.cons_cons _ (.cons _ (.cons_cons _ (.cons_cons _ (.slnil)))))
            · rintro row_2 ⟨hJ_2, hl_row_2⟩
              refine TE.next ?_
              refine TC.region ?_
              refine TL.run 2 [] [(1, .slice A_tubes tubes.length c_tubes), (2, .slice A_codes codes.length c_codes), (27, .slice A_tracks tracks.length c_tracks), (28, .int .i64 (tracks.length : Int)), (29, .int .i64 (k : Int)), (100, .slice A_out out.length c_out), (101, .slice A row_2.length c)] rfl ⟨by kernel_rfl, by kernel_rfl⟩ ?_
              refine TL.write 0 (fun b3 => [(1, .slice A_tubes tubes.length c_tubes), (2, .slice A_codes codes.length c_codes), (27, .slice A_tracks tracks.length c_tracks), (28, .int .i64 (tracks.length : Int)), (29, .int .i64 (k : Int)), (100, .slice A_out out.length c_out), (102, .slice (some ⟨b3, 0, none⟩) 1 1)]) (fun b3 => [.inl (b3, .cells #[.slice A row_2.length c] 62 (0, 0)), .inr (Own A c 3 1 (row_2.map ic)), .inr (Own A_out c_out 62 1 (o_out.map Sl.c)), .inr (Bag 3 1 ic o_out)]) (fun b3 => ⟨by kernel_rfl, by kernel_rfl⟩) (fun b3 => ?_)
              refine TL.rw 100 (.slice A_out out.length c_out) (.slice A_out o_out.length c_out) (by kernel_rfl) (by rw [sl_len' hl_he_out]) ?_
              refine TL.opM (Γ := Option Addr × Nat) (sV (Builtin.append_ #[126, 126] 126 #[.slice A_out o_out.length c_out, .slice (some ⟨b3, 0, none⟩) 1 1])) (some 103) (fun g => .slice g.1 (o_out ++ [(⟨A, c, row_2⟩ : Sl Int)]).length g.2) (fun g => [.inl (b3, .cells #[.slice A row_2.length c] 62 (0, 0)), .inr (Own A c 3 1 (row_2.map ic)), .inr (Own g.1 g.2 62 1 ((o_out ++ [(⟨A, c, row_2⟩ : Sl Int)]).map Sl.c)), .inr (Bag 3 1 ic o_out)]) (fun g => [(1, .slice A_tubes tubes.length c_tubes), (2, .slice A_codes codes.length c_codes), (27, .slice A_tracks tracks.length c_tracks), (28, .int .i64 (tracks.length : Int)), (29, .int .i64 (k : Int)), (103, .slice g.1 ((o_out ++ [(⟨A, c, row_2⟩ : Sl Int)]).length) g.2)]) (app_at (bytes := 24) 126 2 [(⟨A, c, row_2⟩ : Sl Int)] (by kernel_rfl) rfl rfl Sl.one rfl (fun w hM => (Rd.lit hM 0 _ rfl (by kernel_rfl) (by kernel_rfl) (by kernel_rfl))) rfl (by have hz_ := sl_len' hl_he_out; rw [← hz_]; exact (by have q0_ := (dec_f h1); have q1_ := (bne_f h2); have q2_ := (bne_f h4); (try have kc_ := pcheck_know hr1 ‹(r1 != 0) = false›); first | omega | (simp <;> omega) | (simp at * <;> omega)))) (by kernel_rfl) (fun g => by kernel_rfl) ?_
              rintro ⟨A_2, c_2⟩
              refine TL.rw 103 (.slice A_2 ((o_out ++ [(⟨A, c, row_2⟩ : Sl Int)]).length) c_2) (.slice A_2 ((out ++ [row_2]).length) c_2) (by kernel_rfl) (by rw [← sl_len' (sl_app (s := (⟨A, c, row_2⟩ : Sl Int)) hl_he_out)]) ?_
              refine TL.conv [.inr (Bag 3 1 ic (o_out ++ [(⟨A, c, row_2⟩ : Sl Int)])), .inl (b3, .cells #[.slice A row_2.length c] 62 (0, 0)), .inr (Own A_2 c_2 62 1 ((o_out ++ [(⟨A, c, row_2⟩ : Sl Int)]).map Sl.c))] (fun _ hM => Sat.bag_add (hM.perm (((List.Perm.cons _ (List.Perm.refl _)).trans (List.Perm.swap _ _ _)).trans (List.Perm.cons _ (((List.Perm.cons _ ((List.Perm.cons _ (List.Perm.refl _)).trans (List.Perm.swap _ _ _))).trans (List.Perm.swap _ _ _)).trans (List.Perm.cons _ (List.Perm.refl _))))))) ?_
              refine TL.conv [.inr (Own A_2 c_2 62 1 ((o_out ++ [(⟨A, c, row_2⟩ : Sl Int)]).map Sl.c)), .inr (Bag 3 1 ic (o_out ++ [(⟨A, c, row_2⟩ : Sl Int)])), .inl (b3, .cells #[.slice A row_2.length c] 62 (0, 0))] (fun _ hM => hM.perm (((List.Perm.cons _ ((List.Perm.cons _ (List.Perm.refl _)).trans (List.Perm.swap _ _ _))).trans (List.Perm.swap _ _ _)).trans (List.Perm.cons _ (List.Perm.refl _)))) ?_
              refine TL.run 5 [] [(1, .slice A_tubes tubes.length c_tubes), (2, .slice A_codes codes.length c_codes), (9, .slice A_2 ((out ++ [row_2]).length) c_2), (27, .slice A_tracks tracks.length c_tracks), (28, .int .i64 (tracks.length : Int)), (29, .int .i64 (k : Int))] rfl ⟨by kernel_rfl, by kernel_rfl⟩ ?_
              refine TL.done rfl ?_
              refine TE.normal_block ?_
              refine TE.next ?_
              refine TC.region ?_
              refine TL.run 2 [] [(1, .slice A_tubes tubes.length c_tubes), (2, .slice A_codes codes.length c_codes), (9, .slice A_2 ((out ++ [row_2]).length) c_2), (27, .slice A_tracks tracks.length c_tracks), (28, .int .i64 (tracks.length : Int)), (29, .int .i64 (w64 ((k : Int) + 1)))] rfl ⟨by kernel_rfl, by kernel_rfl⟩ ?_
              refine TL.done rfl ?_
              refine TE.rw 29 (.int .i64 (w64 ((k : Int) + 1))) (.int .i64 ((k + 1 : Nat) : Int)) (by kernel_rfl) (w64_cast k (by (try have kc_ := pcheck_know hr1 ‹(r1 != 0) = false›); omega)) ?_
              exact TE.again (x := (k, out, A_out, c_out, o_out)) (k + 1, (out ++ [row_2]), A_2, c_2, (o_out ++ [(⟨A, c, row_2⟩ : Sl Int)])) ⟨by omega, hI.trans (by subst hr1 hr2; rw [hd]; exact cond_f h4 (bindv_eq (hR_2.symm.trans hJ_2) (rfl))), (by have q0_ := (dec_f h1); have q1_ := (bne_f h2); have q2_ := (bne_f h4); (try have kc_ := pcheck_know hr1 ‹(r1 != 0) = false›); first | omega | (simp <;> omega) | (simp at * <;> omega) | (simp only [w64_eq] at *; omega) | (simp only [List.length_append, List.length_cons, List.length_nil]; omega)), (sl_app (s := (⟨A, c, row_2⟩ : Sl Int)) hl_he_out)⟩ (by show tracks.length - (k + 1) < tracks.length - k; omega) (by kernel_rfl) (.cons_cons _ (.cons_cons _ (.cons _ (.slnil))))
        · have hd : tracks.drop k = [] := List.drop_eq_nil_of_le (by have := of_decide_eq_false h3; first | omega | (simp at this; omega))
          refine TC.exit ?_
          refine TE.exit_then (TE.exit_then (TE.exit_same ?_))
          exact TE.cut (out, A_out, c_out, o_out) (⟨hI.trans (by subst hr1; rw [hd]; exact rfl), (by have q0_ := (dec_f h1); have q1_ := (bne_f h2); (try have kc_ := pcheck_know hr1 ‹(r1 != 0) = false›); first | omega | (simp <;> omega) | (simp at * <;> omega) | (simp only [w64_eq] at *; omega) | (simp only [List.length_append, List.length_cons, List.length_nil]; omega)), hl_he_out⟩) (by kernel_rfl) (.cons_cons _ (.cons_cons _ (.slnil)))
      · rintro ⟨out_2, A_out_2, c_out_2, o_out_2⟩ ⟨hJ, hl_out_2, hl_he_out_2⟩
        refine TE.next ?_
        refine TC.seq ?_
        refine TC.region ?_
        refine TL.run 3 [] [(6, .slice A_out_2 out_2.length c_out_2), (7, .int .i64 0)] rfl ⟨by kernel_rfl, by kernel_rfl⟩ ?_
        refine TL.next rfl ?_
        refine TC.ret ?_
        have e : pair_Costs tracks tubes codes = (out_2, 0) := by subst hr1; unfold pair_Costs; exact cond_f h1 (cond_f h2 (elim_l (hR.symm.trans hJ) (rfl)))
        rw [e]
        exact TE.retM (.inl rfl) ((A_out_2, c_out_2), o_out_2) [] (.tuple #[.slice A_out_2 out_2.length c_out_2, .int .i64 0]) ⟨by kernel_rfl, by kernel_rfl⟩ rfl (fun _ hM => (hM.sub (.cons_cons _ (.cons_cons _ (.slnil)))).fact hl_he_out_2)

def pair_Best (tracks : List Track) (tubes : List (List TubeNode)) (codes : List Int) : List Int × Int :=
  let r1 := pair_Costs tracks tubes codes
  cond (r1.2 != 0) (
    ([], r1.2)) (
    let r2 := assign_Best r1.1 2147483648
    (r2.1, r2.2.2))

set_option maxRecDepth 100000 in
theorem pair_Best_w (A_tracks : Option Addr) (c_tracks : Nat) (tracks : List Track) (A_tubes : Option Addr) (c_tubes : Nat) (tubes : List (List TubeNode)) (o_tubes : List (Sl TubeNode)) (A_codes : Option Addr) (c_codes : Nat) (codes : List Int) (w : World) (h_tracks : Rd w 13 A_tracks (tracks.map Track.c)) (hc_tracks : tracks.length ≤ c_tracks) (h_tubes : Rd w 1 A_tubes (o_tubes.map Sl.c)) (hc_tubes : tubes.length ≤ c_tubes) (hd_tubes : ∀ s ∈ o_tubes, s.rd w 6 TubeNode.c) (he_tubes : tubes = o_tubes.map Sl.l) (h_codes : Rd w 1 A_codes (codes.map ic)) (hc_codes : codes.length ≤ c_codes) : Calls Try.prog 42 #[.slice A_tracks tracks.length c_tracks, .slice A_tubes tubes.length c_tubes, .slice A_codes codes.length c_codes] w (RetM (Γ := (Option Addr × Nat)) (cx w) (fun g => .tuple #[.slice g.1 ((pair_Best tracks tubes codes).1.length) g.2, .int .i64 ((pair_Best tracks tubes codes).2)]) (fun g => [.inr (Own g.1 g.2 3 1 (((pair_Best tracks tubes codes).1).map ic))])) := by
  have s_tracks := h_tracks.short; rw [List.length_map] at s_tracks
  have s_tubes := h_tubes.short; rw [← sl_len he_tubes] at s_tubes
  have s_codes := h_codes.short; rw [List.length_map] at s_codes
  refine calls_intro (vs := [.slice A_tracks tracks.length c_tracks, .slice A_tubes tubes.length c_tubes, .slice A_codes codes.length c_codes]) (w := w) Try.func42 rfl Try.ntmps42 rfl ?_
  refine TC.weak [(0, .slice A_tracks tracks.length c_tracks), (1, .slice A_tubes tubes.length c_tubes), (2, .slice A_codes codes.length c_codes)] (by kernel_rfl) ?_
  refine TC.seq ?_
  refine TC.region ?_
  refine TL.run 2 [] [(0, .slice A_tracks tracks.length c_tracks), (1, .slice A_tubes tubes.length c_tubes), (2, .slice A_codes codes.length c_codes)] rfl ⟨by kernel_rfl, by kernel_rfl⟩ ?_
  refine TL.next rfl ?_
  refine TC.seq ?_
  refine TC.region ?_
  refine TL.run 3 [] [(13, .slice A_tracks tracks.length c_tracks), (14, .slice A_tubes tubes.length c_tubes), (15, .slice A_codes codes.length c_codes)] rfl ⟨by kernel_rfl, by kernel_rfl⟩ ?_
  refine TL.callN (Γ := ((Option Addr × Nat) × List (Sl Int))) (fun g => .tuple #[.slice g.1.1 (((pair_Costs tracks tubes codes).1).length) g.1.2, .int .i64 ((pair_Costs tracks tubes codes).2)]) (fun g => [.inr (Fact ((pair_Costs tracks tubes codes).1 = g.2.map Sl.l)), .inr (Own g.1.1 g.1.2 62 1 (g.2.map Sl.c)), .inr (Bag 3 1 ic g.2)]) (fun g => [.inr (Fact ((pair_Costs tracks tubes codes).1 = g.2.map Sl.l)), .inr (Own g.1.1 g.1.2 62 1 (g.2.map Sl.c)), .inr (Bag 3 1 ic g.2)]) (fun g => rfl) (some 16) (fun g => [(16, .tuple #[.slice g.1.1 (((pair_Costs tracks tubes codes).1).length) g.1.2, .int .i64 ((pair_Costs tracks tubes codes).2)])]) (fun w hM => pair_Costs_w A_tracks c_tracks tracks A_tubes c_tubes tubes o_tubes A_codes c_codes codes w (h_tracks.sat hM) hc_tracks (h_tubes.sat hM) hc_tubes (fun s hs => (hd_tubes s hs).sat hM) he_tubes (h_codes.sat hM) hc_codes) (by kernel_rfl) (fun g => by kernel_rfl) ?_
  rintro ⟨⟨A, c⟩, o⟩
  generalize hr1 : pair_Costs tracks tubes codes = r1
  refine TL.know (fun w hM => hM.fact_at 0 rfl) (fun he_r1_0 => ?_)
  refine TL.forget [.inr (Own A c 62 1 (o.map Sl.c)), .inr (Bag 3 1 ic o)] (.cons _ (List.Sublist.refl _)) ?_
  refine TL.know (fun w hM => hM.short_at 0 rfl) (fun s_r1_0 => ?_)
  have sl_he_r1_0 := sl_len' he_r1_0
  refine TL.run 9 [] [(8, .slice A r1.1.length c), (9, .int .i64 r1.2)] rfl ⟨by kernel_rfl, by kernel_rfl⟩ ?_
  refine TL.next rfl ?_
  refine TC.seq ?_
  refine TC.seq ?_
  refine TC.region ?_
  refine TL.run 2 [] [(8, .slice A r1.1.length c), (9, .int .i64 r1.2), (20, .bool (r1.2 != 0))] rfl ⟨by kernel_rfl, by kernel_rfl⟩ ?_
  refine TL.next rfl ?_
  refine TC.cond (r1.2 != 0) rfl (by kernel_rfl) (fun h1 => ?_) (fun h1 => ?_)
  · refine TC.seq ?_
    refine TC.region ?_
    refine TL.run 3 [] [(6, .slice none 0 0), (7, .int .i64 r1.2)] rfl ⟨by kernel_rfl, by kernel_rfl⟩ ?_
    refine TL.next rfl ?_
    refine TC.ret ?_
    refine TE.ret_then ?_
    have e : pair_Best tracks tubes codes = ([], r1.2) := by subst hr1; unfold pair_Best; exact cond_t h1 (rfl)
    refine TE.conv [.inr (Own none 0 3 1 (([] : List Int).map ic)), .inr (Own A c 62 1 (o.map Sl.c)), .inr (Bag 3 1 ic o)] (fun _ hM => hM.emptyrow none 3 1) ?_
    rw [e]
    exact TE.retM (.inl rfl) (none, 0) [] (.tuple #[.slice none 0 0, .int .i64 r1.2]) ⟨by kernel_rfl, by kernel_rfl⟩ rfl (fun _ hM => hM.sub (.cons_cons _ (.cons _ (.cons _ (.slnil)))))
  · refine TC.skip ?_
    refine TE.next ?_
    refine TC.seq ?_
    refine TC.region ?_
    refine TL.run 1 [] [(23, .slice A r1.1.length c)] rfl ⟨by kernel_rfl, by kernel_rfl⟩ ?_
    refine TL.callN (Γ := (Option Addr × Nat)) (fun g => .tuple #[.slice g.1 (((assign_Best r1.1 2147483648).1).length) g.2, .int .i64 ((assign_Best r1.1 2147483648).2.1), .int .i64 ((assign_Best r1.1 2147483648).2.2)]) (fun g => [.inr (Own g.1 g.2 3 1 (((assign_Best r1.1 2147483648).1).map ic))]) (fun g => [.inr (Own g.1 g.2 3 1 (((assign_Best r1.1 2147483648).1).map ic)), .inr (Own A c 62 1 (o.map Sl.c)), .inr (Bag 3 1 ic o)]) (fun g => rfl) (some 24) (fun g => [(24, .tuple #[.slice g.1 (((assign_Best r1.1 2147483648).1).length) g.2, .int .i64 ((assign_Best r1.1 2147483648).2.1), .int .i64 ((assign_Best r1.1 2147483648).2.2)])]) (fun w hM => assign_Best_w A c r1.1 o 2147483648 w (hM.rd_at 0 rfl) (sl_le' he_r1_0 (hM.le_at 0 rfl)) (hM.bag_at 1 rfl) he_r1_0) (by kernel_rfl) (fun g => by kernel_rfl) ?_
    rintro ⟨A_2, c_2⟩
    generalize hr2 : assign_Best r1.1 2147483648 = r2
    refine TL.know (fun w hM => hM.short_at 0 rfl) (fun s_r2_0 => ?_)
    refine TL.run 9 [] [(9, .int .i64 r2.2.2), (10, .slice A_2 r2.1.length c_2)] rfl ⟨by kernel_rfl, by kernel_rfl⟩ ?_
    refine TL.next rfl ?_
    refine TC.seq ?_
    refine TC.region ?_
    refine TL.run 4 [] [(6, .slice A_2 r2.1.length c_2), (7, .int .i64 r2.2.2)] rfl ⟨by kernel_rfl, by kernel_rfl⟩ ?_
    refine TL.next rfl ?_
    refine TC.ret ?_
    have e : pair_Best tracks tubes codes = (r2.1, r2.2.2) := by subst hr1 hr2; unfold pair_Best; exact cond_f h1 (rfl)
    rw [e]
    exact TE.retM (.inl rfl) (A_2, c_2) [] (.tuple #[.slice A_2 r2.1.length c_2, .int .i64 r2.2.2]) ⟨by kernel_rfl, by kernel_rfl⟩ rfl (fun _ hM => hM.sub (.cons_cons _ (.cons _ (.cons _ (.slnil)))))

def slices_Equal_int_int_L1 (s2 : List Int) : List Int → Nat → ((Unit) ⊕ (Bool))
  | [], _ => .inl ()
  | x :: xs, k => cond (x != (s2[k]?.getD 0)) (
      .inr false) (
      slices_Equal_int_int_L1 s2 xs (k + 1))
def slices_Equal_int_int (s1 : List Int) (s2 : List Int) : Bool :=
  cond ((s1.length : Int) != (s2.length : Int)) (
    false) (
    Sum.elim (fun _ =>
      true) (fun r => r) (slices_Equal_int_int_L1 s2 s1 0))

set_option maxRecDepth 100000 in
theorem slices_Equal_int_int_w (A_s1 : Option Addr) (c_s1 : Nat) (s1 : List Int) (A_s2 : Option Addr) (c_s2 : Nat) (s2 : List Int) (w : World) (h_s1 : Rd w 1 A_s1 (s1.map ic)) (_hc_s1 : s1.length ≤ c_s1) (h_s2 : Rd w 1 A_s2 (s2.map ic)) (_hc_s2 : s2.length ≤ c_s2) : Calls Try.prog 44 #[.slice A_s1 s1.length c_s1, .slice A_s2 s2.length c_s2] w (Ret w (.bool (slices_Equal_int_int s1 s2))) := by
  have s_s1 := h_s1.short; rw [List.length_map] at s_s1
  have s_s2 := h_s2.short; rw [List.length_map] at s_s2
  refine calls_intro (vs := [.slice A_s1 s1.length c_s1, .slice A_s2 s2.length c_s2]) (w := w) Try.func44 rfl Try.ntmps44 rfl ?_
  refine TC.weak [(0, .slice A_s1 s1.length c_s1), (1, .slice A_s2 s2.length c_s2)] (by kernel_rfl) ?_
  refine TC.seq ?_
  refine TC.region ?_
  refine TL.run 1 [] [(0, .slice A_s1 s1.length c_s1), (1, .slice A_s2 s2.length c_s2)] rfl ⟨by kernel_rfl, by kernel_rfl⟩ ?_
  refine TL.next rfl ?_
  refine TC.seq ?_
  refine TC.seq ?_
  refine TC.region ?_
  refine TL.run 5 [] [(0, .slice A_s1 s1.length c_s1), (1, .slice A_s2 s2.length c_s2), (10, .bool ((s1.length : Int) != (s2.length : Int)))] rfl ⟨by kernel_rfl, by kernel_rfl⟩ ?_
  refine TL.next rfl ?_
  refine TC.cond ((s1.length : Int) != (s2.length : Int)) rfl (by kernel_rfl) (fun h1 => ?_) (fun h1 => ?_)
  · refine TC.seq ?_
    refine TC.region ?_
    refine TL.run 1 [] [(4, .bool false)] rfl ⟨by kernel_rfl, by kernel_rfl⟩ ?_
    refine TL.next rfl ?_
    refine TC.ret ?_
    refine TE.ret_then ?_
    have e : slices_Equal_int_int s1 s2 = false := by unfold slices_Equal_int_int; exact cond_t h1 (rfl)
    exact TE.ret [] (.bool false) ⟨by kernel_rfl, by kernel_rfl⟩ (by rw [e]; first | done | kernel_rfl)
  · refine TC.skip ?_
    refine TE.next ?_
    refine TC.seq ?_
    refine TC.seq ?_
    refine TC.region ?_
    refine TL.run 3 [] [(0, .slice A_s1 s1.length c_s1), (1, .slice A_s2 s2.length c_s2), (12, .int .i64 (s1.length : Int)), (13, .int .i64 0)] rfl ⟨by kernel_rfl, by kernel_rfl⟩ ?_
    refine TL.next rfl ?_
    refine TC.weak [(0, .slice A_s1 s1.length c_s1), (1, .slice A_s2 s2.length c_s2), (12, .int .i64 (s1.length : Int)), (13, .int .i64 0)] (by kernel_rfl) ?_
    obtain ⟨R1, hR⟩ : ∃ R, R = slices_Equal_int_int_L1 s2 s1 0 := ⟨_, rfl⟩
    refine TC.cut (S := Unit) (fun (_ : Unit) => []) (fun (_ : Unit) => []) (fun (_ : Unit) => R1 = .inl ()) ?_ ?_
    · refine TC.block ?_
      refine TC.loop (X := Nat) (fun k => [(0, .slice A_s1 s1.length c_s1), (1, .slice A_s2 s2.length c_s2), (12, .int .i64 (s1.length : Int)), (13, .int .i64 (k : Int))]) (fun k => []) (fun k => s1.length - k) (fun k => k ≤ s1.length ∧ R1 = slices_Equal_int_int_L1 s2 (s1.drop k) k) ?_ 0 ⟨Nat.zero_le _, hR⟩
      rintro k ⟨hk, hI⟩
      refine TC.seq ?_
      refine TC.region ?_
      refine TL.run 1 [] [(0, .slice A_s1 s1.length c_s1), (1, .slice A_s2 s2.length c_s2), (12, .int .i64 (s1.length : Int)), (13, .int .i64 (k : Int)), (14, .bool (decide ((k : Int) < (s1.length : Int))))] rfl ⟨by kernel_rfl, by kernel_rfl⟩ ?_
      refine TL.next rfl ?_
      refine TC.seq ?_
      refine TC.cond (decide ((k : Int) < (s1.length : Int))) rfl (by kernel_rfl) (fun h2 => ?_) (fun h2 => ?_)
      · have hlt : k < s1.length := by have := of_decide_eq_true h2; first | omega | (simp at this; omega)
        obtain ⟨x, hx⟩ : ∃ e_, s1[k]? = some e_ := ⟨_, List.getElem?_eq_getElem hlt⟩
        have hd := drop_at hx
        refine TC.skip ?_
        refine TE.next ?_
        refine TC.seq ?_
        refine TC.block ?_
        refine TC.seq ?_
        refine TC.region ?_
        refine TL.run 2 [] [(0, .slice A_s1 s1.length c_s1), (1, .slice A_s2 s2.length c_s2), (5, .int .i64 (k : Int)), (12, .int .i64 (s1.length : Int)), (13, .int .i64 (k : Int))] rfl ⟨by kernel_rfl, by kernel_rfl⟩ ?_
        refine TL.next rfl ?_
        refine TC.seq ?_
        refine TC.draw 9 (by kernel_rfl) (by kernel_rfl) (by kernel_rfl) ?_
        refine TQ.run 2 [] [(0, .slice A_s1 s1.length c_s1), (1, .slice A_s2 s2.length c_s2), (5, .int .i64 (k : Int)), (12, .int .i64 (s1.length : Int)), (13, .int .i64 (k : Int)), (16, .slice A_s1 s1.length c_s1), (17, .int .i64 (k : Int))] rfl ⟨by kernel_rfl, by kernel_rfl⟩ ?_
        refine TQ.val (sV (Instr.indexAt 62 (.slice A_s1 s1.length c_s1) (.int .i64 (k : Int)))) (some 18) (.pointer (some ((A_s1.getD noAddr).add (k * 1)))) [(0, .slice A_s1 s1.length c_s1), (1, .slice A_s2 s2.length c_s2), (5, .int .i64 (k : Int)), (12, .int .i64 (s1.length : Int)), (13, .int .i64 (k : Int)), (18, .pointer (some ((A_s1.getD noAddr).add (k * 1))))] (fun w hM => run_index (h_s1.sat hM) (by simp) (by kernel_rfl) (by have q0_ := (bne_f h1); first | omega | (rw [List.length_set]; omega) | (dsimp only; omega) | (rw [List.length_drop]; omega) | (simp only [w64_eq]; omega) | exact (tm_in (by (first | (rw [w64_id (by omega)]; omega) | (simp only [w64_eq]; omega))) (by omega)).1 | exact (tm_in (by (first | (rw [w64_id (by omega)]; omega) | (simp only [w64_eq]; omega))) (by omega)).2.1 | exact (tm_in (by (first | (rw [w64_id (by omega)]; omega) | (simp only [w64_eq]; omega))) (by omega)).2.2 | (simp only [List.length_take] at *; omega) | (simp <;> omega)) (by have q0_ := (bne_f h1); first | omega | (rw [List.length_set]; omega) | (dsimp only; omega) | (rw [List.length_drop]; omega) | (simp only [w64_eq]; omega) | exact (tm_in (by (first | (rw [w64_id (by omega)]; omega) | (simp only [w64_eq]; omega))) (by omega)).1 | exact (tm_in (by (first | (rw [w64_id (by omega)]; omega) | (simp only [w64_eq]; omega))) (by omega)).2.1 | exact (tm_in (by (first | (rw [w64_id (by omega)]; omega) | (simp only [w64_eq]; omega))) (by omega)).2.2 | (simp only [List.length_take] at *; omega) | (simp <;> omega))) rfl (by kernel_rfl) (by kernel_rfl) ?_
        refine TQ.val (sV (Instr.loadAt 3 (.pointer (some ((A_s1.getD noAddr).add (k * 1)))))) (some 19) (.int .i64 x) [(0, .slice A_s1 s1.length c_s1), (1, .slice A_s2 s2.length c_s2), (5, .int .i64 (k : Int)), (12, .int .i64 (s1.length : Int)), (13, .int .i64 (k : Int)), (19, .int .i64 x)] (fun w hM => run_load_one (off := 0) (i := k) (.int .i64 x) (h_s1.sat hM) (map_at hx) (by kernel_rfl) (by kernel_rfl)) rfl (by kernel_rfl) (by kernel_rfl) ?_
        refine TQ.run 6 [] [(0, .slice A_s1 s1.length c_s1), (1, .slice A_s2 s2.length c_s2), (12, .int .i64 (s1.length : Int)), (13, .int .i64 (k : Int)), (19, .int .i64 x), (20, .slice A_s2 s2.length c_s2), (21, .int .i64 (k : Int))] rfl ⟨by kernel_rfl, by kernel_rfl⟩ ?_
        refine TQ.val (sV (Instr.indexAt 62 (.slice A_s2 s2.length c_s2) (.int .i64 (k : Int)))) (some 22) (.pointer (some ((A_s2.getD noAddr).add (k * 1)))) [(0, .slice A_s1 s1.length c_s1), (1, .slice A_s2 s2.length c_s2), (12, .int .i64 (s1.length : Int)), (13, .int .i64 (k : Int)), (19, .int .i64 x), (22, .pointer (some ((A_s2.getD noAddr).add (k * 1))))] (fun w hM => run_index (h_s2.sat hM) (by simp) (by kernel_rfl) (by have q0_ := (bne_f h1); first | omega | (rw [List.length_set]; omega) | (dsimp only; omega) | (rw [List.length_drop]; omega) | (simp only [w64_eq]; omega) | exact (tm_in (by (first | (rw [w64_id (by omega)]; omega) | (simp only [w64_eq]; omega))) (by omega)).1 | exact (tm_in (by (first | (rw [w64_id (by omega)]; omega) | (simp only [w64_eq]; omega))) (by omega)).2.1 | exact (tm_in (by (first | (rw [w64_id (by omega)]; omega) | (simp only [w64_eq]; omega))) (by omega)).2.2 | (simp only [List.length_take] at *; omega) | (simp <;> omega)) (by have q0_ := (bne_f h1); first | omega | (rw [List.length_set]; omega) | (dsimp only; omega) | (rw [List.length_drop]; omega) | (simp only [w64_eq]; omega) | exact (tm_in (by (first | (rw [w64_id (by omega)]; omega) | (simp only [w64_eq]; omega))) (by omega)).1 | exact (tm_in (by (first | (rw [w64_id (by omega)]; omega) | (simp only [w64_eq]; omega))) (by omega)).2.1 | exact (tm_in (by (first | (rw [w64_id (by omega)]; omega) | (simp only [w64_eq]; omega))) (by omega)).2.2 | (simp only [List.length_take] at *; omega) | (simp <;> omega))) rfl (by kernel_rfl) (by kernel_rfl) ?_
        refine TQ.val (sV (Instr.loadAt 3 (.pointer (some ((A_s2.getD noAddr).add (k * 1)))))) (some 23) (.int .i64 (s2[k]?.getD 0)) [(0, .slice A_s1 s1.length c_s1), (1, .slice A_s2 s2.length c_s2), (12, .int .i64 (s1.length : Int)), (13, .int .i64 (k : Int)), (19, .int .i64 x), (23, .int .i64 (s2[k]?.getD 0))] (fun w hM => run_load_one (off := 0) (i := k) (.int .i64 (s2[k]?.getD 0)) (h_s2.sat hM) (map_at (getD_at _ _ 0 (by have q0_ := (bne_f h1); first | omega | (rw [List.length_set]; omega) | (dsimp only; omega) | (rw [List.length_drop]; omega) | (simp only [w64_eq]; omega) | exact (tm_in (by (first | (rw [w64_id (by omega)]; omega) | (simp only [w64_eq]; omega))) (by omega)).1 | exact (tm_in (by (first | (rw [w64_id (by omega)]; omega) | (simp only [w64_eq]; omega))) (by omega)).2.1 | exact (tm_in (by (first | (rw [w64_id (by omega)]; omega) | (simp only [w64_eq]; omega))) (by omega)).2.2 | (simp only [List.length_take] at *; omega) | (simp <;> omega)))) (by kernel_rfl) (by kernel_rfl)) rfl (by kernel_rfl) (by kernel_rfl) ?_
        refine TQ.run 9 [] [(0, .slice A_s1 s1.length c_s1), (1, .slice A_s2 s2.length c_s2), (12, .int .i64 (s1.length : Int)), (13, .int .i64 (k : Int)), (24, .bool (x != (s2[k]?.getD 0)))] rfl ⟨by kernel_rfl, by kernel_rfl⟩ ?_
        refine TQ.next rfl ?_
        refine TC.cond (x != (s2[k]?.getD 0)) rfl (by kernel_rfl) (fun h3 => ?_) (fun h3 => ?_)
        · refine TC.seq ?_
          refine TC.region ?_
          refine TL.run 1 [] [(4, .bool false)] rfl ⟨by kernel_rfl, by kernel_rfl⟩ ?_
          refine TL.next rfl ?_
          refine TC.ret ?_
          refine TE.ret_block (TE.ret_then (TE.ret_then (TE.ret_block (TE.ret_then (TE.ret_then ?_)))))
          have e : slices_Equal_int_int s1 s2 = false := by unfold slices_Equal_int_int; exact cond_f h1 (elim_r (hR.symm.trans (hI.trans (by rw [hd]; exact cond_t h3 (rfl)))) rfl)
          exact TE.ret [] (.bool false) ⟨by kernel_rfl, by kernel_rfl⟩ (by rw [e]; first | done | kernel_rfl)
        · refine TC.skip ?_
          refine TE.normal_block ?_
          refine TE.next ?_
          refine TC.region ?_
          refine TL.run 2 [] [(0, .slice A_s1 s1.length c_s1), (1, .slice A_s2 s2.length c_s2), (12, .int .i64 (s1.length : Int)), (13, .int .i64 (w64 ((k : Int) + 1)))] rfl ⟨by kernel_rfl, by kernel_rfl⟩ ?_
          refine TL.done rfl ?_
          refine TE.rw 13 (.int .i64 (w64 ((k : Int) + 1))) (.int .i64 ((k + 1 : Nat) : Int)) (by kernel_rfl) (w64_cast k (by omega)) ?_
          exact TE.again (x := k) (k + 1) ⟨by omega, hI.trans (by rw [hd]; exact cond_f h3 (rfl))⟩ (by show s1.length - (k + 1) < s1.length - k; omega) (by kernel_rfl) (.slnil)
      · have hd : s1.drop k = [] := List.drop_eq_nil_of_le (by have := of_decide_eq_false h2; first | omega | (simp at this; omega))
        refine TC.exit ?_
        refine TE.exit_then (TE.exit_then (TE.exit_same ?_))
        exact TE.cut () (hI.trans (by rw [hd]; exact rfl)) (by kernel_rfl) (.slnil)
    · intro _ hJ
      refine TE.next ?_
      refine TC.seq ?_
      refine TC.region ?_
      refine TL.run 1 [] [(4, .bool true)] rfl ⟨by kernel_rfl, by kernel_rfl⟩ ?_
      refine TL.next rfl ?_
      refine TC.ret ?_
      have e : slices_Equal_int_int s1 s2 = true := by unfold slices_Equal_int_int; exact cond_f h1 (elim_l (hR.symm.trans hJ) (rfl))
      exact TE.ret [] (.bool true) ⟨by kernel_rfl, by kernel_rfl⟩ (by rw [e]; first | done | kernel_rfl)

def slices_Index_int_int_L1 (v : Int) : List Int → Nat → ((Unit) ⊕ (Int))
  | [], _ => .inl ()
  | x :: xs, k => cond (v == x) (
      .inr (k : Int)) (
      slices_Index_int_int_L1 v xs (k + 1))
def slices_Index_int_int (s : List Int) (v : Int) : Int :=
  Sum.elim (fun _ =>
    (-1)) (fun r => r) (slices_Index_int_int_L1 v s 0)

set_option maxRecDepth 100000 in
theorem slices_Index_int_int_w (A_s : Option Addr) (c_s : Nat) (s : List Int) (v : Int) (w : World) (h_s : Rd w 1 A_s (s.map ic)) (_hc_s : s.length ≤ c_s) : Calls Try.prog 85 #[.slice A_s s.length c_s, .int .i64 v] w (Ret w (.int .i64 (slices_Index_int_int s v))) := by
  have s_s := h_s.short; rw [List.length_map] at s_s
  refine calls_intro (vs := [.slice A_s s.length c_s, .int .i64 v]) (w := w) Try.func85 rfl Try.ntmps85 rfl ?_
  refine TC.weak [(0, .slice A_s s.length c_s), (1, .int .i64 v)] (by kernel_rfl) ?_
  refine TC.seq ?_
  refine TC.region ?_
  refine TL.run 1 [] [(0, .slice A_s s.length c_s), (1, .int .i64 v)] rfl ⟨by kernel_rfl, by kernel_rfl⟩ ?_
  refine TL.next rfl ?_
  refine TC.seq ?_
  refine TC.seq ?_
  refine TC.region ?_
  refine TL.run 3 [] [(0, .slice A_s s.length c_s), (1, .int .i64 v), (7, .int .i64 (s.length : Int)), (8, .int .i64 0)] rfl ⟨by kernel_rfl, by kernel_rfl⟩ ?_
  refine TL.next rfl ?_
  refine TC.weak [(0, .slice A_s s.length c_s), (1, .int .i64 v), (7, .int .i64 (s.length : Int)), (8, .int .i64 0)] (by kernel_rfl) ?_
  obtain ⟨R1, hR⟩ : ∃ R, R = slices_Index_int_int_L1 v s 0 := ⟨_, rfl⟩
  refine TC.cut (S := Unit) (fun (_ : Unit) => []) (fun (_ : Unit) => []) (fun (_ : Unit) => R1 = .inl ()) ?_ ?_
  · refine TC.block ?_
    refine TC.loop (X := Nat) (fun k => [(0, .slice A_s s.length c_s), (1, .int .i64 v), (7, .int .i64 (s.length : Int)), (8, .int .i64 (k : Int))]) (fun k => []) (fun k => s.length - k) (fun k => k ≤ s.length ∧ R1 = slices_Index_int_int_L1 v (s.drop k) k) ?_ 0 ⟨Nat.zero_le _, hR⟩
    rintro k ⟨hk, hI⟩
    refine TC.seq ?_
    refine TC.region ?_
    refine TL.run 1 [] [(0, .slice A_s s.length c_s), (1, .int .i64 v), (7, .int .i64 (s.length : Int)), (8, .int .i64 (k : Int)), (9, .bool (decide ((k : Int) < (s.length : Int))))] rfl ⟨by kernel_rfl, by kernel_rfl⟩ ?_
    refine TL.next rfl ?_
    refine TC.seq ?_
    refine TC.cond (decide ((k : Int) < (s.length : Int))) rfl (by kernel_rfl) (fun h1 => ?_) (fun h1 => ?_)
    · have hlt : k < s.length := by have := of_decide_eq_true h1; first | omega | (simp at this; omega)
      obtain ⟨x, hx⟩ : ∃ e_, s[k]? = some e_ := ⟨_, List.getElem?_eq_getElem hlt⟩
      have hd := drop_at hx
      refine TC.skip ?_
      refine TE.next ?_
      refine TC.seq ?_
      refine TC.block ?_
      refine TC.seq ?_
      refine TC.region ?_
      refine TL.run 2 [] [(0, .slice A_s s.length c_s), (1, .int .i64 v), (5, .int .i64 (k : Int)), (7, .int .i64 (s.length : Int)), (8, .int .i64 (k : Int))] rfl ⟨by kernel_rfl, by kernel_rfl⟩ ?_
      refine TL.next rfl ?_
      refine TC.seq ?_
      refine TC.region ?_
      refine TL.run 3 [] [(0, .slice A_s s.length c_s), (1, .int .i64 v), (5, .int .i64 (k : Int)), (7, .int .i64 (s.length : Int)), (8, .int .i64 (k : Int)), (11, .int .i64 v), (12, .slice A_s s.length c_s), (13, .int .i64 (k : Int))] rfl ⟨by kernel_rfl, by kernel_rfl⟩ ?_
      refine TL.val (sV (Instr.indexAt 62 (.slice A_s s.length c_s) (.int .i64 (k : Int)))) (some 14) (.pointer (some ((A_s.getD noAddr).add (k * 1)))) [(0, .slice A_s s.length c_s), (1, .int .i64 v), (5, .int .i64 (k : Int)), (7, .int .i64 (s.length : Int)), (8, .int .i64 (k : Int)), (11, .int .i64 v), (14, .pointer (some ((A_s.getD noAddr).add (k * 1))))] (fun w hM => run_index (h_s.sat hM) (by simp) (by kernel_rfl) (by first | omega | (rw [List.length_set]; omega) | (dsimp only; omega) | (rw [List.length_drop]; omega) | (simp only [w64_eq]; omega) | exact (tm_in (by (first | (rw [w64_id (by omega)]; omega) | (simp only [w64_eq]; omega))) (by omega)).1 | exact (tm_in (by (first | (rw [w64_id (by omega)]; omega) | (simp only [w64_eq]; omega))) (by omega)).2.1 | exact (tm_in (by (first | (rw [w64_id (by omega)]; omega) | (simp only [w64_eq]; omega))) (by omega)).2.2 | (simp only [List.length_take] at *; omega) | (simp <;> omega)) (by first | omega | (rw [List.length_set]; omega) | (dsimp only; omega) | (rw [List.length_drop]; omega) | (simp only [w64_eq]; omega) | exact (tm_in (by (first | (rw [w64_id (by omega)]; omega) | (simp only [w64_eq]; omega))) (by omega)).1 | exact (tm_in (by (first | (rw [w64_id (by omega)]; omega) | (simp only [w64_eq]; omega))) (by omega)).2.1 | exact (tm_in (by (first | (rw [w64_id (by omega)]; omega) | (simp only [w64_eq]; omega))) (by omega)).2.2 | (simp only [List.length_take] at *; omega) | (simp <;> omega))) (by kernel_rfl) (by kernel_rfl) ?_
      refine TL.val (sV (Instr.loadAt 3 (.pointer (some ((A_s.getD noAddr).add (k * 1)))))) (some 15) (.int .i64 x) [(0, .slice A_s s.length c_s), (1, .int .i64 v), (5, .int .i64 (k : Int)), (7, .int .i64 (s.length : Int)), (8, .int .i64 (k : Int)), (11, .int .i64 v), (15, .int .i64 x)] (fun w hM => run_load_one (off := 0) (i := k) (.int .i64 x) (h_s.sat hM) (map_at hx) (by kernel_rfl) (by kernel_rfl)) (by kernel_rfl) (by kernel_rfl) ?_
      refine TL.run 6 [] [(0, .slice A_s s.length c_s), (1, .int .i64 v), (5, .int .i64 (k : Int)), (7, .int .i64 (s.length : Int)), (8, .int .i64 (k : Int)), (16, .bool (v == x))] rfl ⟨by kernel_rfl, by kernel_rfl⟩ ?_
      refine TL.next rfl ?_
      refine TC.cond (v == x) rfl (by kernel_rfl) (fun h2 => ?_) (fun h2 => ?_)
      · refine TC.seq ?_
        refine TC.region ?_
        refine TL.run 2 [] [(4, .int .i64 (k : Int))] rfl ⟨by kernel_rfl, by kernel_rfl⟩ ?_
        refine TL.next rfl ?_
        refine TC.ret ?_
        refine TE.ret_block (TE.ret_then (TE.ret_then (TE.ret_block (TE.ret_then (TE.ret_then ?_)))))
        have e : slices_Index_int_int s v = (k : Int) := by unfold slices_Index_int_int; exact elim_r (hR.symm.trans (hI.trans (by rw [hd]; exact cond_t h2 (rfl)))) rfl
        exact TE.ret [] (.int .i64 (k : Int)) ⟨by kernel_rfl, by kernel_rfl⟩ (by rw [e]; first | done | kernel_rfl)
      · refine TC.skip ?_
        refine TE.normal_block ?_
        refine TE.next ?_
        refine TC.region ?_
        refine TL.run 2 [] [(0, .slice A_s s.length c_s), (1, .int .i64 v), (7, .int .i64 (s.length : Int)), (8, .int .i64 (w64 ((k : Int) + 1)))] rfl ⟨by kernel_rfl, by kernel_rfl⟩ ?_
        refine TL.done rfl ?_
        refine TE.rw 8 (.int .i64 (w64 ((k : Int) + 1))) (.int .i64 ((k + 1 : Nat) : Int)) (by kernel_rfl) (w64_cast k (by omega)) ?_
        exact TE.again (x := k) (k + 1) ⟨by omega, hI.trans (by rw [hd]; exact cond_f h2 (rfl))⟩ (by show s.length - (k + 1) < s.length - k; omega) (by kernel_rfl) (.slnil)
    · have hd : s.drop k = [] := List.drop_eq_nil_of_le (by have := of_decide_eq_false h1; first | omega | (simp at this; omega))
      refine TC.exit ?_
      refine TE.exit_then (TE.exit_then (TE.exit_same ?_))
      exact TE.cut () (hI.trans (by rw [hd]; exact rfl)) (by kernel_rfl) (.slnil)
  · intro _ hJ
    refine TE.next ?_
    refine TC.seq ?_
    refine TC.region ?_
    refine TL.run 1 [] [(4, .int .i64 (-1))] rfl ⟨by kernel_rfl, by kernel_rfl⟩ ?_
    refine TL.next rfl ?_
    refine TC.ret ?_
    have e : slices_Index_int_int s v = (-1) := by unfold slices_Index_int_int; exact elim_l (hR.symm.trans hJ) (rfl)
    exact TE.ret [] (.int .i64 (-1)) ⟨by kernel_rfl, by kernel_rfl⟩ (by rw [e]; first | done | kernel_rfl)

def slices_Contains_int_int (s : List Int) (v : Int) : Bool :=
  let r1 := slices_Index_int_int s v
  decide (r1 ≥ 0)

set_option maxRecDepth 100000 in
theorem slices_Contains_int_int_w (A_s : Option Addr) (c_s : Nat) (s : List Int) (v : Int) (w : World) (h_s : Rd w 1 A_s (s.map ic)) (hc_s : s.length ≤ c_s) : Calls Try.prog 48 #[.slice A_s s.length c_s, .int .i64 v] w (Ret w (.bool (slices_Contains_int_int s v))) := by
  have s_s := h_s.short; rw [List.length_map] at s_s
  refine calls_intro (vs := [.slice A_s s.length c_s, .int .i64 v]) (w := w) Try.func48 rfl Try.ntmps48 rfl ?_
  refine TC.weak [(0, .slice A_s s.length c_s), (1, .int .i64 v)] (by kernel_rfl) ?_
  refine TC.seq ?_
  refine TC.region ?_
  refine TL.run 1 [] [(0, .slice A_s s.length c_s), (1, .int .i64 v)] rfl ⟨by kernel_rfl, by kernel_rfl⟩ ?_
  refine TL.next rfl ?_
  refine TC.seq ?_
  refine TC.region ?_
  refine TL.run 2 [] [(5, .slice A_s s.length c_s), (6, .int .i64 v)] rfl ⟨by kernel_rfl, by kernel_rfl⟩ ?_
  refine TL.call (some 7) [(7, .int .i64 (slices_Index_int_int s v))] (fun w hM => slices_Index_int_int_w A_s c_s s v w (h_s.sat hM) hc_s) (by kernel_rfl) (by kernel_rfl) ?_
  generalize hr1 : slices_Index_int_int s v = r1
  refine TL.run 5 [] [(4, .bool (decide (r1 ≥ 0)))] rfl ⟨by kernel_rfl, by kernel_rfl⟩ ?_
  refine TL.next rfl ?_
  refine TC.ret ?_
  have e : slices_Contains_int_int s v = (decide (r1 ≥ 0)) := by subst hr1; unfold slices_Contains_int_int; exact rfl
  exact TE.ret [] (.bool (decide (r1 ≥ 0))) ⟨by kernel_rfl, by kernel_rfl⟩ (by rw [e]; first | done | kernel_rfl)

def pair_Missing_L1 (tubes : List (List TubeNode)) : List Int → Nat → (List Bool) → ((List Bool) ⊕ (List Int × Int))
  | [], _, seen => .inl seen
  | x :: xs, k, seen => cond ((decide (x < (-1))) || (decide (x ≥ (tubes.length : Int)))) (
      .inr ([], 4)) (
      cond (decide (x ≥ 0)) (
        cond ((seen[x.toNat]?.getD false)) (
          .inr ([], 7)) (
          cond (decide (x ≥ 0)) (
            pair_Missing_L1 tubes xs (k + 1) (seen.set x.toNat true)) (
            pair_Missing_L1 tubes xs (k + 1) seen))) (
        cond (decide (x ≥ 0)) (
          pair_Missing_L1 tubes xs (k + 1) (seen.set x.toNat true)) (
          pair_Missing_L1 tubes xs (k + 1) seen)))
def pair_Missing_L2 (time : Int) (seen_2 : List Bool) : List (List TubeNode) → Nat → (List Int) → (List Int)
  | [], _, out => out
  | x_2 :: xs, k_2, out => let r2 := tube_At x_2 time
    cond (r2.2 == 0) (
      cond (!((seen_2[k_2]?.getD false))) (
        pair_Missing_L2 time seen_2 xs (k_2 + 1) (out ++ ([(k_2 : Int)]))) (
        pair_Missing_L2 time seen_2 xs (k_2 + 1) out)) (
      pair_Missing_L2 time seen_2 xs (k_2 + 1) out)
def pair_Missing (to : List Int) (tubes : List (List TubeNode)) (codes : List Int) (time : Int) : List Int × Int :=
  cond (decide ((to.length : Int) > 32)) (
    ([], 2)) (
    let r1 := pair_Check tubes codes
    cond (r1 != 0) (
      ([], r1)) (
      Sum.elim (fun seen_2 =>
        bindv (pair_Missing_L2 time seen_2 tubes 0 ([] : List Int)) (fun out_2 =>
          (out_2, 0))) (fun r => r) (pair_Missing_L1 tubes to 0 (List.replicate ((tubes.length : Int).toNat) false))))

set_option maxRecDepth 100000 in
theorem pair_Missing_w (A_to : Option Addr) (c_to : Nat) (to : List Int) (A_tubes : Option Addr) (c_tubes : Nat) (tubes : List (List TubeNode)) (o_tubes : List (Sl TubeNode)) (A_codes : Option Addr) (c_codes : Nat) (codes : List Int) (time : Int) (w : World) (h_to : Rd w 1 A_to (to.map ic)) (_hc_to : to.length ≤ c_to) (h_tubes : Rd w 1 A_tubes (o_tubes.map Sl.c)) (hc_tubes : tubes.length ≤ c_tubes) (hd_tubes : ∀ s ∈ o_tubes, s.rd w 6 TubeNode.c) (he_tubes : tubes = o_tubes.map Sl.l) (h_codes : Rd w 1 A_codes (codes.map ic)) (hc_codes : codes.length ≤ c_codes) : Calls Try.prog 46 #[.slice A_to to.length c_to, .slice A_tubes tubes.length c_tubes, .slice A_codes codes.length c_codes, .int .i64 time] w (RetM (Γ := (Option Addr × Nat)) (cx w) (fun g => .tuple #[.slice g.1 ((pair_Missing to tubes codes time).1.length) g.2, .int .i64 ((pair_Missing to tubes codes time).2)]) (fun g => [.inr (Own g.1 g.2 3 1 (((pair_Missing to tubes codes time).1).map ic))])) := by
  have s_to := h_to.short; rw [List.length_map] at s_to
  have s_tubes := h_tubes.short; rw [← sl_len he_tubes] at s_tubes
  have s_codes := h_codes.short; rw [List.length_map] at s_codes
  refine calls_intro (vs := [.slice A_to to.length c_to, .slice A_tubes tubes.length c_tubes, .slice A_codes codes.length c_codes, .int .i64 time]) (w := w) Try.func46 rfl Try.ntmps46 rfl ?_
  refine TC.weak [(0, .slice A_to to.length c_to), (1, .slice A_tubes tubes.length c_tubes), (2, .slice A_codes codes.length c_codes), (3, .int .i64 time)] (by kernel_rfl) ?_
  refine TC.seq ?_
  refine TC.region ?_
  refine TL.run 2 [] [(0, .slice A_to to.length c_to), (1, .slice A_tubes tubes.length c_tubes), (2, .slice A_codes codes.length c_codes), (3, .int .i64 time)] rfl ⟨by kernel_rfl, by kernel_rfl⟩ ?_
  refine TL.next rfl ?_
  refine TC.seq ?_
  refine TC.seq ?_
  refine TC.region ?_
  refine TL.run 3 [] [(0, .slice A_to to.length c_to), (1, .slice A_tubes tubes.length c_tubes), (2, .slice A_codes codes.length c_codes), (3, .int .i64 time), (21, .bool (decide ((to.length : Int) > 32)))] rfl ⟨by kernel_rfl, by kernel_rfl⟩ ?_
  refine TL.next rfl ?_
  refine TC.cond (decide ((to.length : Int) > 32)) rfl (by kernel_rfl) (fun h1 => ?_) (fun h1 => ?_)
  · refine TC.seq ?_
    refine TC.region ?_
    refine TL.run 2 [] [(8, .slice none 0 0), (9, .int .i64 2)] rfl ⟨by kernel_rfl, by kernel_rfl⟩ ?_
    refine TL.next rfl ?_
    refine TC.ret ?_
    refine TE.ret_then ?_
    have e : pair_Missing to tubes codes time = ([], 2) := by unfold pair_Missing; exact cond_t h1 (rfl)
    refine TE.conv [.inr (Own none 0 3 1 (([] : List Int).map ic))] (fun _ hM => hM.emptyrow none 3 1) ?_
    rw [e]
    exact TE.retM (.inl rfl) (none, 0) [] (.tuple #[.slice none 0 0, .int .i64 2]) ⟨by kernel_rfl, by kernel_rfl⟩ rfl (fun _ hM => hM.sub (.cons_cons _ (.slnil)))
  · refine TC.skip ?_
    refine TE.next ?_
    refine TC.seq ?_
    refine TC.seq ?_
    refine TC.region ?_
    refine TL.run 2 [] [(0, .slice A_to to.length c_to), (1, .slice A_tubes tubes.length c_tubes), (3, .int .i64 time), (22, .slice A_tubes tubes.length c_tubes), (23, .slice A_codes codes.length c_codes)] rfl ⟨by kernel_rfl, by kernel_rfl⟩ ?_
    refine TL.call (some 24) [(0, .slice A_to to.length c_to), (1, .slice A_tubes tubes.length c_tubes), (3, .int .i64 time), (24, .int .i64 (pair_Check tubes codes))] (fun w hM => pair_Check_w A_tubes c_tubes tubes o_tubes A_codes c_codes codes w (h_tubes.sat hM) hc_tubes (fun s hs => (hd_tubes s hs).sat hM) he_tubes (h_codes.sat hM) hc_codes) (by kernel_rfl) (by kernel_rfl) ?_
    generalize hr1 : pair_Check tubes codes = r1
    refine TL.run 4 [] [(0, .slice A_to to.length c_to), (1, .slice A_tubes tubes.length c_tubes), (3, .int .i64 time), (10, .int .i64 r1)] rfl ⟨by kernel_rfl, by kernel_rfl⟩ ?_
    refine TL.next rfl ?_
    refine TC.seq ?_
    refine TC.region ?_
    refine TL.run 2 [] [(0, .slice A_to to.length c_to), (1, .slice A_tubes tubes.length c_tubes), (3, .int .i64 time), (10, .int .i64 r1), (26, .bool (r1 != 0))] rfl ⟨by kernel_rfl, by kernel_rfl⟩ ?_
    refine TL.next rfl ?_
    refine TC.cond (r1 != 0) rfl (by kernel_rfl) (fun h2 => ?_) (fun h2 => ?_)
    · refine TC.seq ?_
      refine TC.region ?_
      refine TL.run 3 [] [(8, .slice none 0 0), (9, .int .i64 r1)] rfl ⟨by kernel_rfl, by kernel_rfl⟩ ?_
      refine TL.next rfl ?_
      refine TC.ret ?_
      refine TE.ret_then ?_
      have e : pair_Missing to tubes codes time = ([], r1) := by subst hr1; unfold pair_Missing; exact cond_f h1 (cond_t h2 (rfl))
      refine TE.conv [.inr (Own none 0 3 1 (([] : List Int).map ic))] (fun _ hM => hM.emptyrow none 3 1) ?_
      rw [e]
      exact TE.retM (.inl rfl) (none, 0) [] (.tuple #[.slice none 0 0, .int .i64 r1]) ⟨by kernel_rfl, by kernel_rfl⟩ rfl (fun _ hM => hM.sub (.cons_cons _ (.slnil)))
    · refine TC.skip ?_
      refine TE.next ?_
      refine TC.seq ?_
      refine TC.region ?_
      refine TL.run 2 [] [(0, .slice A_to to.length c_to), (1, .slice A_tubes tubes.length c_tubes), (3, .int .i64 time), (29, .int .i64 (tubes.length : Int))] rfl ⟨by kernel_rfl, by kernel_rfl⟩ ?_
      refine TL.opM (Γ := Option Addr × Nat) (sV (Instr.makeSlice 91 (.int .i64 (tubes.length : Int)) (.int .i64 (tubes.length : Int)))) (some 30) (fun g => .slice g.1 (List.replicate ((tubes.length : Int).toNat) false).length g.2) (fun g => [.inr (Own g.1 g.2 4 1 ((List.replicate ((tubes.length : Int).toNat) false).map bc))]) (fun g => [(0, .slice A_to to.length c_to), (1, .slice A_tubes tubes.length c_tubes), (3, .int .i64 time), (30, .slice g.1 ((List.replicate ((tubes.length : Int).toNat) false).length) g.2)]) (make_at (P := Try.prog) (c := bc) (t := 91) (e := 4) (sz := 1) (bytes := 1) false .i64 .i64 ((tubes.length : Int).toNat) (by kernel_rfl) (by kernel_rfl) (by have q0_ := (dec_f h1); have q1_ := (bne_f h2); (try have kc_ := pcheck_know hr1 ‹(r1 != 0) = false›); first | omega | (rw [List.length_set]; omega) | (dsimp only; omega) | (rw [List.length_drop]; omega) | (simp only [w64_eq]; omega) | exact (tm_in (by (first | (rw [w64_id (by omega)]; omega) | (simp only [w64_eq]; omega))) (by omega)).1 | exact (tm_in (by (first | (rw [w64_id (by omega)]; omega) | (simp only [w64_eq]; omega))) (by omega)).2.1 | exact (tm_in (by (first | (rw [w64_id (by omega)]; omega) | (simp only [w64_eq]; omega))) (by omega)).2.2 | (simp only [List.length_take] at *; omega) | (simp <;> omega)) (by have q0_ := (dec_f h1); have q1_ := (bne_f h2); (try have kc_ := pcheck_know hr1 ‹(r1 != 0) = false›); first | omega | (rw [List.length_set]; omega) | (dsimp only; omega) | (rw [List.length_drop]; omega) | (simp only [w64_eq]; omega) | exact (tm_in (by (first | (rw [w64_id (by omega)]; omega) | (simp only [w64_eq]; omega))) (by omega)).1 | exact (tm_in (by (first | (rw [w64_id (by omega)]; omega) | (simp only [w64_eq]; omega))) (by omega)).2.1 | exact (tm_in (by (first | (rw [w64_id (by omega)]; omega) | (simp only [w64_eq]; omega))) (by omega)).2.2 | (simp only [List.length_take] at *; omega) | (simp <;> omega))) (by kernel_rfl) (fun g => by kernel_rfl) ?_
      rintro ⟨A, c⟩
      refine TL.run 4 [] [(0, .slice A_to to.length c_to), (1, .slice A_tubes tubes.length c_tubes), (3, .int .i64 time), (11, .slice A ((List.replicate ((tubes.length : Int).toNat) false).length) c)] rfl ⟨by kernel_rfl, by kernel_rfl⟩ ?_
      refine TL.next rfl ?_
      refine TC.seq ?_
      refine TC.seq ?_
      refine TC.region ?_
      refine TL.run 3 [] [(1, .slice A_tubes tubes.length c_tubes), (3, .int .i64 time), (11, .slice A ((List.replicate ((tubes.length : Int).toNat) false).length) c), (31, .slice A_to to.length c_to), (32, .int .i64 (to.length : Int)), (33, .int .i64 0)] rfl ⟨by kernel_rfl, by kernel_rfl⟩ ?_
      refine TL.next rfl ?_
      refine TC.weak [(1, .slice A_tubes tubes.length c_tubes), (3, .int .i64 time), (11, .slice A ((List.replicate ((tubes.length : Int).toNat) false).length) c), (31, .slice A_to to.length c_to), (32, .int .i64 (to.length : Int)), (33, .int .i64 0)] (by kernel_rfl) ?_
      obtain ⟨R4, hR⟩ : ∃ R, R = pair_Missing_L1 tubes to 0 (List.replicate ((tubes.length : Int).toNat) false) := ⟨_, rfl⟩
      refine TC.cut (S := (List Bool)) (fun seen_2 => [(1, .slice A_tubes tubes.length c_tubes), (3, .int .i64 time), (11, .slice A seen_2.length c)]) (fun seen_2 => [.inr (Own A c 4 1 (seen_2.map bc))]) (fun seen_2 => R4 = .inl seen_2 ∧ seen_2.length = ((tubes.length : Int).toNat)) ?_ ?_
      · refine TC.block ?_
        refine TC.loop (X := Nat × (List Bool)) (fun (k, seen) => [(1, .slice A_tubes tubes.length c_tubes), (3, .int .i64 time), (11, .slice A seen.length c), (31, .slice A_to to.length c_to), (32, .int .i64 (to.length : Int)), (33, .int .i64 (k : Int))]) (fun (k, seen) => [.inr (Own A c 4 1 (seen.map bc))]) (fun (k, seen) => to.length - k) (fun (k, seen) => k ≤ to.length ∧ R4 = pair_Missing_L1 tubes (to.drop k) k seen ∧ seen.length = ((tubes.length : Int).toNat)) ?_ (0, (List.replicate ((tubes.length : Int).toNat) false)) ⟨Nat.zero_le _, hR, (by first | omega | (simp; omega) | simp)⟩
        rintro ⟨k, seen⟩ ⟨hk, hI, hl_seen⟩
        refine TC.seq ?_
        refine TC.region ?_
        refine TL.run 1 [] [(1, .slice A_tubes tubes.length c_tubes), (3, .int .i64 time), (11, .slice A seen.length c), (31, .slice A_to to.length c_to), (32, .int .i64 (to.length : Int)), (33, .int .i64 (k : Int)), (34, .bool (decide ((k : Int) < (to.length : Int))))] rfl ⟨by kernel_rfl, by kernel_rfl⟩ ?_
        refine TL.next rfl ?_
        refine TC.seq ?_
        refine TC.cond (decide ((k : Int) < (to.length : Int))) rfl (by kernel_rfl) (fun h3 => ?_) (fun h3 => ?_)
        · have hlt : k < to.length := by have := of_decide_eq_true h3; first | omega | (simp at this; omega)
          obtain ⟨x, hx⟩ : ∃ e_, to[k]? = some e_ := ⟨_, List.getElem?_eq_getElem hlt⟩
          have hd := drop_at hx
          refine TC.skip ?_
          refine TE.next ?_
          refine TC.seq ?_
          refine TC.block ?_
          refine TC.seq ?_
          refine TC.region ?_
          refine TL.val (sV (Instr.indexAt 62 (.slice A_to to.length c_to) (.int .i64 (k : Int)))) (some 35) (.pointer (some ((A_to.getD noAddr).add (k * 1)))) [(1, .slice A_tubes tubes.length c_tubes), (3, .int .i64 time), (11, .slice A seen.length c), (31, .slice A_to to.length c_to), (32, .int .i64 (to.length : Int)), (33, .int .i64 (k : Int)), (35, .pointer (some ((A_to.getD noAddr).add (k * 1))))] (fun w hM => run_index (h_to.sat hM) (by simp) (by kernel_rfl) (by have q0_ := (dec_f h1); have q1_ := (bne_f h2); (try have kc_ := pcheck_know hr1 ‹(r1 != 0) = false›); first | omega | (rw [List.length_set]; omega) | (dsimp only; omega) | (rw [List.length_drop]; omega) | (simp only [w64_eq]; omega) | exact (tm_in (by (first | (rw [w64_id (by omega)]; omega) | (simp only [w64_eq]; omega))) (by omega)).1 | exact (tm_in (by (first | (rw [w64_id (by omega)]; omega) | (simp only [w64_eq]; omega))) (by omega)).2.1 | exact (tm_in (by (first | (rw [w64_id (by omega)]; omega) | (simp only [w64_eq]; omega))) (by omega)).2.2 | (simp only [List.length_take] at *; omega) | (simp <;> omega)) (by have q0_ := (dec_f h1); have q1_ := (bne_f h2); (try have kc_ := pcheck_know hr1 ‹(r1 != 0) = false›); first | omega | (rw [List.length_set]; omega) | (dsimp only; omega) | (rw [List.length_drop]; omega) | (simp only [w64_eq]; omega) | exact (tm_in (by (first | (rw [w64_id (by omega)]; omega) | (simp only [w64_eq]; omega))) (by omega)).1 | exact (tm_in (by (first | (rw [w64_id (by omega)]; omega) | (simp only [w64_eq]; omega))) (by omega)).2.1 | exact (tm_in (by (first | (rw [w64_id (by omega)]; omega) | (simp only [w64_eq]; omega))) (by omega)).2.2 | (simp only [List.length_take] at *; omega) | (simp <;> omega))) (by kernel_rfl) (by kernel_rfl) ?_
          refine TL.val (sV (Instr.loadAt 3 (.pointer (some ((A_to.getD noAddr).add (k * 1)))))) (some 36) (.int .i64 x) [(1, .slice A_tubes tubes.length c_tubes), (3, .int .i64 time), (11, .slice A seen.length c), (31, .slice A_to to.length c_to), (32, .int .i64 (to.length : Int)), (33, .int .i64 (k : Int)), (36, .int .i64 x)] (fun w hM => run_load_one (off := 0) (i := k) (.int .i64 x) (h_to.sat hM) (map_at hx) (by kernel_rfl) (by kernel_rfl)) (by kernel_rfl) (by kernel_rfl) ?_
          refine TL.run 3 [] [(1, .slice A_tubes tubes.length c_tubes), (3, .int .i64 time), (11, .slice A seen.length c), (13, .int .i64 x), (31, .slice A_to to.length c_to), (32, .int .i64 (to.length : Int)), (33, .int .i64 (k : Int))] rfl ⟨by kernel_rfl, by kernel_rfl⟩ ?_
          refine TL.next rfl ?_
          refine TC.block ?_
          refine TC.seq ?_
          refine TC.region ?_
          refine TL.run 3 [] [(1, .slice A_tubes tubes.length c_tubes), (3, .int .i64 time), (11, .slice A seen.length c), (13, .int .i64 x), (31, .slice A_to to.length c_to), (32, .int .i64 (to.length : Int)), (33, .int .i64 (k : Int)), (40, .bool (decide (x < (-1))))] rfl ⟨by kernel_rfl, by kernel_rfl⟩ ?_
          refine TL.join 40 (decide (x < (-1))) 8 [] [] (fun β => [(1, .slice A_tubes tubes.length c_tubes), (3, .int .i64 time), (11, .slice A seen.length c), (13, .int .i64 x), (31, .slice A_to to.length c_to), (32, .int .i64 (to.length : Int)), (33, .int .i64 (k : Int)), (45, .bool (β || (decide (x ≥ (tubes.length : Int)))))]) (by kernel_rfl) rfl ⟨by kernel_rfl, by kernel_rfl⟩ ⟨by kernel_rfl, by kernel_rfl⟩ ?_
          refine TL.run 9 [] [(1, .slice A_tubes tubes.length c_tubes), (3, .int .i64 time), (11, .slice A seen.length c), (13, .int .i64 x), (31, .slice A_to to.length c_to), (32, .int .i64 (to.length : Int)), (33, .int .i64 (k : Int)), (37, .bool ((decide (x < (-1))) || (decide (x ≥ (tubes.length : Int)))))] rfl ⟨by kernel_rfl, by kernel_rfl⟩ ?_
          refine TL.next rfl ?_
          refine TC.cond ((decide (x < (-1))) || (decide (x ≥ (tubes.length : Int)))) rfl (by kernel_rfl) (fun h4 => ?_) (fun h4 => ?_)
          · refine TC.seq ?_
            refine TC.region ?_
            refine TL.run 2 [] [(8, .slice none 0 0), (9, .int .i64 4)] rfl ⟨by kernel_rfl, by kernel_rfl⟩ ?_
            refine TL.next rfl ?_
            refine TC.ret ?_
            refine TE.ret_block (TE.ret_block (TE.ret_then (TE.ret_then (TE.ret_block (TE.ret_then (TE.ret_then ?_))))))
            have e : pair_Missing to tubes codes time = ([], 4) := by subst hr1; unfold pair_Missing; exact cond_f h1 (cond_f h2 (elim_r (hR.symm.trans (hI.trans (by rw [hd]; exact cond_t h4 (rfl)))) rfl))
            refine TE.conv [.inr (Own none 0 3 1 (([] : List Int).map ic)), .inr (Own A c 4 1 (seen.map bc))] (fun _ hM => hM.emptyrow none 3 1) ?_
            rw [e]
            exact TE.retM (.inl rfl) (none, 0) [] (.tuple #[.slice none 0 0, .int .i64 4]) ⟨by kernel_rfl, by kernel_rfl⟩ rfl (fun _ hM => hM.sub (.cons_cons _ (.cons _ (.slnil))))
          · refine TC.seq ?_
            refine TC.region ?_
            refine TL.run 3 [] [(1, .slice A_tubes tubes.length c_tubes), (3, .int .i64 time), (11, .slice A seen.length c), (13, .int .i64 x), (31, .slice A_to to.length c_to), (32, .int .i64 (to.length : Int)), (33, .int .i64 (k : Int)), (49, .bool (decide (x ≥ 0)))] rfl ⟨by kernel_rfl, by kernel_rfl⟩ ?_
            refine TL.split 49 (decide (x ≥ 0)) (by kernel_rfl) (fun h5 => ?_) (fun h5 => ?_)
            · refine TL.run 5 [] [(1, .slice A_tubes tubes.length c_tubes), (3, .int .i64 time), (11, .slice A seen.length c), (13, .int .i64 x), (31, .slice A_to to.length c_to), (32, .int .i64 (to.length : Int)), (33, .int .i64 (k : Int)), (49, .bool true), (50, .slice A seen.length c), (51, .int .i64 x)] rfl ⟨by kernel_rfl, by kernel_rfl⟩ ?_
              refine TL.val (sV (Instr.indexAt 91 (.slice A seen.length c) (.int .i64 x))) (some 52) (.pointer (some ((A.getD noAddr).add (x.toNat * 1)))) [(1, .slice A_tubes tubes.length c_tubes), (3, .int .i64 time), (11, .slice A seen.length c), (13, .int .i64 x), (31, .slice A_to to.length c_to), (32, .int .i64 (to.length : Int)), (33, .int .i64 (k : Int)), (49, .bool true), (52, .pointer (some ((A.getD noAddr).add (x.toNat * 1))))] (fun w hM => run_index (hM.rd_at 0 rfl) (by simp) (by kernel_rfl) (by have q0_ := (dec_f h1); have q1_ := (bne_f h2); have q2_ := (dec_f (or_f1 h4)); have q3_ := (dec_f (or_f2 h4)); have q4_ := (dec_t h5); (try have kc_ := pcheck_know hr1 ‹(r1 != 0) = false›); first | omega | (rw [List.length_set]; omega) | (dsimp only; omega) | (rw [List.length_drop]; omega) | (simp only [w64_eq]; omega) | exact (tm_in (by (first | (rw [w64_id (by omega)]; omega) | (simp only [w64_eq]; omega))) (by omega)).1 | exact (tm_in (by (first | (rw [w64_id (by omega)]; omega) | (simp only [w64_eq]; omega))) (by omega)).2.1 | exact (tm_in (by (first | (rw [w64_id (by omega)]; omega) | (simp only [w64_eq]; omega))) (by omega)).2.2 | (simp only [List.length_take] at *; omega) | (simp <;> omega)) (by have q0_ := (dec_f h1); have q1_ := (bne_f h2); have q2_ := (dec_f (or_f1 h4)); have q3_ := (dec_f (or_f2 h4)); have q4_ := (dec_t h5); (try have kc_ := pcheck_know hr1 ‹(r1 != 0) = false›); first | omega | (rw [List.length_set]; omega) | (dsimp only; omega) | (rw [List.length_drop]; omega) | (simp only [w64_eq]; omega) | exact (tm_in (by (first | (rw [w64_id (by omega)]; omega) | (simp only [w64_eq]; omega))) (by omega)).1 | exact (tm_in (by (first | (rw [w64_id (by omega)]; omega) | (simp only [w64_eq]; omega))) (by omega)).2.1 | exact (tm_in (by (first | (rw [w64_id (by omega)]; omega) | (simp only [w64_eq]; omega))) (by omega)).2.2 | (simp only [List.length_take] at *; omega) | (simp <;> omega))) (by kernel_rfl) (by kernel_rfl) ?_
              refine TL.val (sV (Instr.loadAt 4 (.pointer (some ((A.getD noAddr).add (x.toNat * 1)))))) (some 53) (.bool ((seen[x.toNat]?.getD false))) [(1, .slice A_tubes tubes.length c_tubes), (3, .int .i64 time), (11, .slice A seen.length c), (13, .int .i64 x), (31, .slice A_to to.length c_to), (32, .int .i64 (to.length : Int)), (33, .int .i64 (k : Int)), (49, .bool true), (53, .bool ((seen[x.toNat]?.getD false)))] (fun w hM => run_load_one (off := 0) (i := x.toNat) (.bool ((seen[x.toNat]?.getD false))) (hM.rd_at 0 rfl) (map_at (getD_at _ _ false (by have q0_ := (dec_f h1); have q1_ := (bne_f h2); have q2_ := (dec_f (or_f1 h4)); have q3_ := (dec_f (or_f2 h4)); have q4_ := (dec_t h5); (try have kc_ := pcheck_know hr1 ‹(r1 != 0) = false›); first | omega | (rw [List.length_set]; omega) | (dsimp only; omega) | (rw [List.length_drop]; omega) | (simp only [w64_eq]; omega) | exact (tm_in (by (first | (rw [w64_id (by omega)]; omega) | (simp only [w64_eq]; omega))) (by omega)).1 | exact (tm_in (by (first | (rw [w64_id (by omega)]; omega) | (simp only [w64_eq]; omega))) (by omega)).2.1 | exact (tm_in (by (first | (rw [w64_id (by omega)]; omega) | (simp only [w64_eq]; omega))) (by omega)).2.2 | (simp only [List.length_take] at *; omega) | (simp <;> omega)))) (by kernel_rfl) (by kernel_rfl)) (by kernel_rfl) (by kernel_rfl) ?_
              refine TL.run 9 [] [(1, .slice A_tubes tubes.length c_tubes), (3, .int .i64 time), (11, .slice A seen.length c), (13, .int .i64 x), (31, .slice A_to to.length c_to), (32, .int .i64 (to.length : Int)), (33, .int .i64 (k : Int)), (46, .bool ((seen[x.toNat]?.getD false)))] rfl ⟨by kernel_rfl, by kernel_rfl⟩ ?_
              refine TL.next rfl ?_
              refine TC.cond ((seen[x.toNat]?.getD false)) rfl (by kernel_rfl) (fun h6 => ?_) (fun h6 => ?_)
              · refine TC.seq ?_
                refine TC.region ?_
                refine TL.run 2 [] [(8, .slice none 0 0), (9, .int .i64 7)] rfl ⟨by kernel_rfl, by kernel_rfl⟩ ?_
                refine TL.next rfl ?_
                refine TC.ret ?_
                refine TE.ret_block (TE.ret_block (TE.ret_then (TE.ret_then (TE.ret_block (TE.ret_then (TE.ret_then ?_))))))
                have e : pair_Missing to tubes codes time = ([], 7) := by subst hr1; unfold pair_Missing; exact cond_f h1 (cond_f h2 (elim_r (hR.symm.trans (hI.trans (by rw [hd]; exact cond_f h4 (cond_t h5 (cond_t h6 (rfl)))))) rfl))
                refine TE.conv [.inr (Own none 0 3 1 (([] : List Int).map ic)), .inr (Own A c 4 1 (seen.map bc))] (fun _ hM => hM.emptyrow none 3 1) ?_
                rw [e]
                exact TE.retM (.inl rfl) (none, 0) [] (.tuple #[.slice none 0 0, .int .i64 7]) ⟨by kernel_rfl, by kernel_rfl⟩ rfl (fun _ hM => hM.sub (.cons_cons _ (.cons _ (.slnil))))
              · refine TC.seq ?_
                refine TC.region ?_
                refine TL.run 3 [] [(1, .slice A_tubes tubes.length c_tubes), (3, .int .i64 time), (11, .slice A seen.length c), (13, .int .i64 x), (31, .slice A_to to.length c_to), (32, .int .i64 (to.length : Int)), (33, .int .i64 (k : Int)), (55, .bool (decide (x ≥ 0)))] rfl ⟨by kernel_rfl, by kernel_rfl⟩ ?_
                refine TL.next rfl ?_
                refine TC.cond (decide (x ≥ 0)) rfl (by kernel_rfl) (fun h7 => ?_) (fun h7 => ?_)
                · refine TC.region ?_
                  refine TL.run 2 [] [(1, .slice A_tubes tubes.length c_tubes), (3, .int .i64 time), (11, .slice A seen.length c), (31, .slice A_to to.length c_to), (32, .int .i64 (to.length : Int)), (33, .int .i64 (k : Int)), (58, .slice A seen.length c), (59, .int .i64 x)] rfl ⟨by kernel_rfl, by kernel_rfl⟩ ?_
                  refine TL.val (sV (Instr.indexAt 91 (.slice A seen.length c) (.int .i64 x))) (some 60) (.pointer (some ((A.getD noAddr).add (x.toNat * 1)))) [(1, .slice A_tubes tubes.length c_tubes), (3, .int .i64 time), (11, .slice A seen.length c), (31, .slice A_to to.length c_to), (32, .int .i64 (to.length : Int)), (33, .int .i64 (k : Int)), (60, .pointer (some ((A.getD noAddr).add (x.toNat * 1))))] (fun w hM => run_index (hM.rd_at 0 rfl) (by simp) (by kernel_rfl) (by have q0_ := (dec_f h1); have q1_ := (bne_f h2); have q2_ := (dec_f (or_f1 h4)); have q3_ := (dec_f (or_f2 h4)); have q4_ := (dec_t h5); have q5_ := (dec_t h7); (try have kc_ := pcheck_know hr1 ‹(r1 != 0) = false›); first | omega | (rw [List.length_set]; omega) | (dsimp only; omega) | (rw [List.length_drop]; omega) | (simp only [w64_eq]; omega) | exact (tm_in (by (first | (rw [w64_id (by omega)]; omega) | (simp only [w64_eq]; omega))) (by omega)).1 | exact (tm_in (by (first | (rw [w64_id (by omega)]; omega) | (simp only [w64_eq]; omega))) (by omega)).2.1 | exact (tm_in (by (first | (rw [w64_id (by omega)]; omega) | (simp only [w64_eq]; omega))) (by omega)).2.2 | (simp only [List.length_take] at *; omega) | (simp <;> omega)) (by have q0_ := (dec_f h1); have q1_ := (bne_f h2); have q2_ := (dec_f (or_f1 h4)); have q3_ := (dec_f (or_f2 h4)); have q4_ := (dec_t h5); have q5_ := (dec_t h7); (try have kc_ := pcheck_know hr1 ‹(r1 != 0) = false›); first | omega | (rw [List.length_set]; omega) | (dsimp only; omega) | (rw [List.length_drop]; omega) | (simp only [w64_eq]; omega) | exact (tm_in (by (first | (rw [w64_id (by omega)]; omega) | (simp only [w64_eq]; omega))) (by omega)).1 | exact (tm_in (by (first | (rw [w64_id (by omega)]; omega) | (simp only [w64_eq]; omega))) (by omega)).2.1 | exact (tm_in (by (first | (rw [w64_id (by omega)]; omega) | (simp only [w64_eq]; omega))) (by omega)).2.2 | (simp only [List.length_take] at *; omega) | (simp <;> omega))) (by kernel_rfl) (by kernel_rfl) ?_
                  refine TL.skipM (Γ := Unit) (sU (Instr.storeAt 4 (.pointer (some (((A.getD noAddr).add (x.toNat * 1)).add 0))) (.bool true))) none (fun _ => [.inr (Own A c 4 1 ((seen.set x.toNat true).map bc))]) (fun _ => [(1, .slice A_tubes tubes.length c_tubes), (3, .int .i64 time), (11, .slice A seen.length c), (31, .slice A_to to.length c_to), (32, .int .i64 (to.length : Int)), (33, .int .i64 (k : Int))]) (run_store_at (n := 1) (off := 0) (.bool true) 0 ((seen.set x.toNat true).map bc) rfl (map_at (getD_at _ _ false (by have q0_ := (dec_f h1); have q1_ := (bne_f h2); have q2_ := (dec_f (or_f1 h4)); have q3_ := (dec_f (or_f2 h4)); have q4_ := (dec_t h5); have q5_ := (dec_t h7); (try have kc_ := pcheck_know hr1 ‹(r1 != 0) = false›); first | omega | (rw [List.length_set]; omega) | (dsimp only; omega) | (rw [List.length_drop]; omega) | (simp only [w64_eq]; omega) | exact (tm_in (by (first | (rw [w64_id (by omega)]; omega) | (simp only [w64_eq]; omega))) (by omega)).1 | exact (tm_in (by (first | (rw [w64_id (by omega)]; omega) | (simp only [w64_eq]; omega))) (by omega)).2.1 | exact (tm_in (by (first | (rw [w64_id (by omega)]; omega) | (simp only [w64_eq]; omega))) (by omega)).2.2 | (simp only [List.length_take] at *; omega) | (simp <;> omega)))) (by kernel_rfl) (by kernel_rfl) (by kernel_rfl) (by kernel_rfl) (set_map_at (by kernel_rfl))) (by kernel_rfl) (fun _ => by kernel_rfl) (fun _ => ?_)
                  refine TL.rw 11 (.slice A seen.length c) (.slice A ((seen.set x.toNat true).length) c) (by kernel_rfl) (by simp only [List.length_set]) ?_
                  refine TL.done rfl ?_
                  refine TE.normal_block ?_
                  refine TE.normal_block ?_
                  refine TE.next ?_
                  refine TC.region ?_
                  refine TL.run 2 [] [(1, .slice A_tubes tubes.length c_tubes), (3, .int .i64 time), (11, .slice A ((seen.set x.toNat true).length) c), (31, .slice A_to to.length c_to), (32, .int .i64 (to.length : Int)), (33, .int .i64 (w64 ((k : Int) + 1)))] rfl ⟨by kernel_rfl, by kernel_rfl⟩ ?_
                  refine TL.done rfl ?_
                  refine TE.rw 33 (.int .i64 (w64 ((k : Int) + 1))) (.int .i64 ((k + 1 : Nat) : Int)) (by kernel_rfl) (w64_cast k (by (try have kc_ := pcheck_know hr1 ‹(r1 != 0) = false›); omega)) ?_
                  exact TE.again (x := (k, seen)) (k + 1, (seen.set x.toNat true)) ⟨by omega, hI.trans (by subst hr1; rw [hd]; exact cond_f h4 (cond_t h5 (cond_f h6 (cond_t h7 (rfl))))), (by have q0_ := (dec_f h1); have q1_ := (bne_f h2); have q2_ := (dec_f (or_f1 h4)); have q3_ := (dec_f (or_f2 h4)); have q4_ := (dec_t h5); have q5_ := (dec_t h7); (try have kc_ := pcheck_know hr1 ‹(r1 != 0) = false›); first | omega | (simp <;> omega) | (simp at * <;> omega) | (simp only [w64_eq] at *; omega) | (simp only [List.length_append, List.length_cons, List.length_nil]; omega))⟩ (by show to.length - (k + 1) < to.length - k; omega) (by kernel_rfl) (.cons_cons _ (.slnil))
                · refine TC.skip ?_
                  refine TE.normal_block ?_
                  refine TE.normal_block ?_
                  refine TE.next ?_
                  refine TC.region ?_
                  refine TL.run 2 [] [(1, .slice A_tubes tubes.length c_tubes), (3, .int .i64 time), (11, .slice A seen.length c), (31, .slice A_to to.length c_to), (32, .int .i64 (to.length : Int)), (33, .int .i64 (w64 ((k : Int) + 1)))] rfl ⟨by kernel_rfl, by kernel_rfl⟩ ?_
                  refine TL.done rfl ?_
                  refine TE.rw 33 (.int .i64 (w64 ((k : Int) + 1))) (.int .i64 ((k + 1 : Nat) : Int)) (by kernel_rfl) (w64_cast k (by (try have kc_ := pcheck_know hr1 ‹(r1 != 0) = false›); omega)) ?_
                  exact TE.again (x := (k, seen)) (k + 1, seen) ⟨by omega, hI.trans (by subst hr1; rw [hd]; exact cond_f h4 (cond_t h5 (cond_f h6 (cond_f h7 (rfl))))), (by have q0_ := (dec_f h1); have q1_ := (bne_f h2); have q2_ := (dec_f (or_f1 h4)); have q3_ := (dec_f (or_f2 h4)); have q4_ := (dec_t h5); have q5_ := (dec_f h7); (try have kc_ := pcheck_know hr1 ‹(r1 != 0) = false›); first | omega | (simp <;> omega) | (simp at * <;> omega) | (simp only [w64_eq] at *; omega) | (simp only [List.length_append, List.length_cons, List.length_nil]; omega))⟩ (by show to.length - (k + 1) < to.length - k; omega) (by kernel_rfl) (.cons_cons _ (.slnil))
            · refine TL.run 9 [] [(1, .slice A_tubes tubes.length c_tubes), (3, .int .i64 time), (11, .slice A seen.length c), (13, .int .i64 x), (31, .slice A_to to.length c_to), (32, .int .i64 (to.length : Int)), (33, .int .i64 (k : Int)), (46, .bool false)] rfl ⟨by kernel_rfl, by kernel_rfl⟩ ?_
              refine TL.next rfl ?_
              refine TC.condF rfl (by kernel_rfl) ?_
              refine TC.seq ?_
              refine TC.region ?_
              refine TL.run 3 [] [(1, .slice A_tubes tubes.length c_tubes), (3, .int .i64 time), (11, .slice A seen.length c), (13, .int .i64 x), (31, .slice A_to to.length c_to), (32, .int .i64 (to.length : Int)), (33, .int .i64 (k : Int)), (55, .bool (decide (x ≥ 0)))] rfl ⟨by kernel_rfl, by kernel_rfl⟩ ?_
              refine TL.next rfl ?_
              refine TC.cond (decide (x ≥ 0)) rfl (by kernel_rfl) (fun h8 => ?_) (fun h8 => ?_)
              · refine TC.region ?_
                refine TL.run 2 [] [(1, .slice A_tubes tubes.length c_tubes), (3, .int .i64 time), (11, .slice A seen.length c), (31, .slice A_to to.length c_to), (32, .int .i64 (to.length : Int)), (33, .int .i64 (k : Int)), (58, .slice A seen.length c), (59, .int .i64 x)] rfl ⟨by kernel_rfl, by kernel_rfl⟩ ?_
                refine TL.val (sV (Instr.indexAt 91 (.slice A seen.length c) (.int .i64 x))) (some 60) (.pointer (some ((A.getD noAddr).add (x.toNat * 1)))) [(1, .slice A_tubes tubes.length c_tubes), (3, .int .i64 time), (11, .slice A seen.length c), (31, .slice A_to to.length c_to), (32, .int .i64 (to.length : Int)), (33, .int .i64 (k : Int)), (60, .pointer (some ((A.getD noAddr).add (x.toNat * 1))))] (fun w hM => run_index (hM.rd_at 0 rfl) (by simp) (by kernel_rfl) (by have q0_ := (dec_f h1); have q1_ := (bne_f h2); have q2_ := (dec_f (or_f1 h4)); have q3_ := (dec_f (or_f2 h4)); have q4_ := (dec_f h5); have q5_ := (dec_t h8); (try have kc_ := pcheck_know hr1 ‹(r1 != 0) = false›); first | omega | (rw [List.length_set]; omega) | (dsimp only; omega) | (rw [List.length_drop]; omega) | (simp only [w64_eq]; omega) | exact (tm_in (by (first | (rw [w64_id (by omega)]; omega) | (simp only [w64_eq]; omega))) (by omega)).1 | exact (tm_in (by (first | (rw [w64_id (by omega)]; omega) | (simp only [w64_eq]; omega))) (by omega)).2.1 | exact (tm_in (by (first | (rw [w64_id (by omega)]; omega) | (simp only [w64_eq]; omega))) (by omega)).2.2 | (simp only [List.length_take] at *; omega) | (simp <;> omega)) (by have q0_ := (dec_f h1); have q1_ := (bne_f h2); have q2_ := (dec_f (or_f1 h4)); have q3_ := (dec_f (or_f2 h4)); have q4_ := (dec_f h5); have q5_ := (dec_t h8); (try have kc_ := pcheck_know hr1 ‹(r1 != 0) = false›); first | omega | (rw [List.length_set]; omega) | (dsimp only; omega) | (rw [List.length_drop]; omega) | (simp only [w64_eq]; omega) | exact (tm_in (by (first | (rw [w64_id (by omega)]; omega) | (simp only [w64_eq]; omega))) (by omega)).1 | exact (tm_in (by (first | (rw [w64_id (by omega)]; omega) | (simp only [w64_eq]; omega))) (by omega)).2.1 | exact (tm_in (by (first | (rw [w64_id (by omega)]; omega) | (simp only [w64_eq]; omega))) (by omega)).2.2 | (simp only [List.length_take] at *; omega) | (simp <;> omega))) (by kernel_rfl) (by kernel_rfl) ?_
                refine TL.skipM (Γ := Unit) (sU (Instr.storeAt 4 (.pointer (some (((A.getD noAddr).add (x.toNat * 1)).add 0))) (.bool true))) none (fun _ => [.inr (Own A c 4 1 ((seen.set x.toNat true).map bc))]) (fun _ => [(1, .slice A_tubes tubes.length c_tubes), (3, .int .i64 time), (11, .slice A seen.length c), (31, .slice A_to to.length c_to), (32, .int .i64 (to.length : Int)), (33, .int .i64 (k : Int))]) (run_store_at (n := 1) (off := 0) (.bool true) 0 ((seen.set x.toNat true).map bc) rfl (map_at (getD_at _ _ false (by have q0_ := (dec_f h1); have q1_ := (bne_f h2); have q2_ := (dec_f (or_f1 h4)); have q3_ := (dec_f (or_f2 h4)); have q4_ := (dec_f h5); have q5_ := (dec_t h8); (try have kc_ := pcheck_know hr1 ‹(r1 != 0) = false›); first | omega | (rw [List.length_set]; omega) | (dsimp only; omega) | (rw [List.length_drop]; omega) | (simp only [w64_eq]; omega) | exact (tm_in (by (first | (rw [w64_id (by omega)]; omega) | (simp only [w64_eq]; omega))) (by omega)).1 | exact (tm_in (by (first | (rw [w64_id (by omega)]; omega) | (simp only [w64_eq]; omega))) (by omega)).2.1 | exact (tm_in (by (first | (rw [w64_id (by omega)]; omega) | (simp only [w64_eq]; omega))) (by omega)).2.2 | (simp only [List.length_take] at *; omega) | (simp <;> omega)))) (by kernel_rfl) (by kernel_rfl) (by kernel_rfl) (by kernel_rfl) (set_map_at (by kernel_rfl))) (by kernel_rfl) (fun _ => by kernel_rfl) (fun _ => ?_)
                refine TL.rw 11 (.slice A seen.length c) (.slice A ((seen.set x.toNat true).length) c) (by kernel_rfl) (by simp only [List.length_set]) ?_
                refine TL.done rfl ?_
                refine TE.normal_block ?_
                refine TE.normal_block ?_
                refine TE.next ?_
                refine TC.region ?_
                refine TL.run 2 [] [(1, .slice A_tubes tubes.length c_tubes), (3, .int .i64 time), (11, .slice A ((seen.set x.toNat true).length) c), (31, .slice A_to to.length c_to), (32, .int .i64 (to.length : Int)), (33, .int .i64 (w64 ((k : Int) + 1)))] rfl ⟨by kernel_rfl, by kernel_rfl⟩ ?_
                refine TL.done rfl ?_
                refine TE.rw 33 (.int .i64 (w64 ((k : Int) + 1))) (.int .i64 ((k + 1 : Nat) : Int)) (by kernel_rfl) (w64_cast k (by (try have kc_ := pcheck_know hr1 ‹(r1 != 0) = false›); omega)) ?_
                exact TE.again (x := (k, seen)) (k + 1, (seen.set x.toNat true)) ⟨by omega, hI.trans (by subst hr1; rw [hd]; exact cond_f h4 (cond_f h5 (cond_t h8 (rfl)))), (by have q0_ := (dec_f h1); have q1_ := (bne_f h2); have q2_ := (dec_f (or_f1 h4)); have q3_ := (dec_f (or_f2 h4)); have q4_ := (dec_f h5); have q5_ := (dec_t h8); (try have kc_ := pcheck_know hr1 ‹(r1 != 0) = false›); first | omega | (simp <;> omega) | (simp at * <;> omega) | (simp only [w64_eq] at *; omega) | (simp only [List.length_append, List.length_cons, List.length_nil]; omega))⟩ (by show to.length - (k + 1) < to.length - k; omega) (by kernel_rfl) (.cons_cons _ (.slnil))
              · refine TC.skip ?_
                refine TE.normal_block ?_
                refine TE.normal_block ?_
                refine TE.next ?_
                refine TC.region ?_
                refine TL.run 2 [] [(1, .slice A_tubes tubes.length c_tubes), (3, .int .i64 time), (11, .slice A seen.length c), (31, .slice A_to to.length c_to), (32, .int .i64 (to.length : Int)), (33, .int .i64 (w64 ((k : Int) + 1)))] rfl ⟨by kernel_rfl, by kernel_rfl⟩ ?_
                refine TL.done rfl ?_
                refine TE.rw 33 (.int .i64 (w64 ((k : Int) + 1))) (.int .i64 ((k + 1 : Nat) : Int)) (by kernel_rfl) (w64_cast k (by (try have kc_ := pcheck_know hr1 ‹(r1 != 0) = false›); omega)) ?_
                exact TE.again (x := (k, seen)) (k + 1, seen) ⟨by omega, hI.trans (by subst hr1; rw [hd]; exact cond_f h4 (cond_f h5 (cond_f h8 (rfl)))), (by have q0_ := (dec_f h1); have q1_ := (bne_f h2); have q2_ := (dec_f (or_f1 h4)); have q3_ := (dec_f (or_f2 h4)); have q4_ := (dec_f h5); have q5_ := (dec_f h8); (try have kc_ := pcheck_know hr1 ‹(r1 != 0) = false›); first | omega | (simp <;> omega) | (simp at * <;> omega) | (simp only [w64_eq] at *; omega) | (simp only [List.length_append, List.length_cons, List.length_nil]; omega))⟩ (by show to.length - (k + 1) < to.length - k; omega) (by kernel_rfl) (.cons_cons _ (.slnil))
        · have hd : to.drop k = [] := List.drop_eq_nil_of_le (by have := of_decide_eq_false h3; first | omega | (simp at this; omega))
          refine TC.exit ?_
          refine TE.exit_then (TE.exit_then (TE.exit_same ?_))
          exact TE.cut seen (⟨hI.trans (by subst hr1; rw [hd]; exact rfl), (by have q0_ := (dec_f h1); have q1_ := (bne_f h2); (try have kc_ := pcheck_know hr1 ‹(r1 != 0) = false›); first | omega | (simp <;> omega) | (simp at * <;> omega) | (simp only [w64_eq] at *; omega) | (simp only [List.length_append, List.length_cons, List.length_nil]; omega))⟩) (by kernel_rfl) (.cons_cons _ (.slnil))
      · rintro seen_2 ⟨hJ, hl_seen_2⟩
        refine TE.next ?_
        refine TC.seq ?_
        refine TC.region ?_
        refine TL.run 1 [] [(1, .slice A_tubes tubes.length c_tubes), (3, .int .i64 time), (11, .slice A seen_2.length c), (14, .slice none 0 0)] rfl ⟨by kernel_rfl, by kernel_rfl⟩ ?_
        refine TL.next rfl ?_
        refine TC.seq ?_
        refine TC.seq ?_
        refine TC.region ?_
        refine TL.run 3 [] [(3, .int .i64 time), (11, .slice A seen_2.length c), (14, .slice none 0 0), (62, .slice A_tubes tubes.length c_tubes), (63, .int .i64 (tubes.length : Int)), (64, .int .i64 0)] rfl ⟨by kernel_rfl, by kernel_rfl⟩ ?_
        refine TL.next rfl ?_
        refine TC.conv [.inr (Own none 0 3 1 (([] : List Int).map ic)), .inr (Own A c 4 1 (seen_2.map bc))] (fun _ hM => hM.emptyrow none 3 1) ?_
        refine TC.weak [(3, .int .i64 time), (11, .slice A seen_2.length c), (14, .slice none (([] : List Int).length) 0), (62, .slice A_tubes tubes.length c_tubes), (63, .int .i64 (tubes.length : Int)), (64, .int .i64 0)] (by kernel_rfl) ?_
        obtain ⟨R8, hR_2⟩ : ∃ R, R = pair_Missing_L2 time seen_2 tubes 0 ([] : List Int) := ⟨_, rfl⟩
        refine TC.cut (S := (List Int) × (Option Addr) × Nat) (fun (out_2, A_out_2, c_out_2) => [(14, .slice A_out_2 out_2.length c_out_2)]) (fun (out_2, A_out_2, c_out_2) => [.inr (Own A_out_2 c_out_2 3 1 (out_2.map ic))]) (fun (out_2, A_out_2, c_out_2) => R8 = out_2 ∧ out_2.length ≤ tubes.length) ?_ ?_
        · refine TC.block ?_
          refine TC.loop (X := Nat × (List Int) × (Option Addr) × Nat) (fun (k_2, out, A_out, c_out) => [(3, .int .i64 time), (11, .slice A seen_2.length c), (14, .slice A_out out.length c_out), (62, .slice A_tubes tubes.length c_tubes), (63, .int .i64 (tubes.length : Int)), (64, .int .i64 (k_2 : Int))]) (fun (k_2, out, A_out, c_out) => [.inr (Own A_out c_out 3 1 (out.map ic)), .inr (Own A c 4 1 (seen_2.map bc))]) (fun (k_2, out, A_out, c_out) => tubes.length - k_2) (fun (k_2, out, A_out, c_out) => k_2 ≤ tubes.length ∧ R8 = pair_Missing_L2 time seen_2 (tubes.drop k_2) k_2 out ∧ out.length ≤ k_2) ?_ (0, ([] : List Int), none, 0) ⟨Nat.zero_le _, hR_2, (by first | omega | (simp; omega) | simp)⟩
          rintro ⟨k_2, out, A_out, c_out⟩ ⟨hk_2, hI_2, hl_out⟩
          refine TC.seq ?_
          refine TC.region ?_
          refine TL.run 1 [] [(3, .int .i64 time), (11, .slice A seen_2.length c), (14, .slice A_out out.length c_out), (62, .slice A_tubes tubes.length c_tubes), (63, .int .i64 (tubes.length : Int)), (64, .int .i64 (k_2 : Int)), (65, .bool (decide ((k_2 : Int) < (tubes.length : Int))))] rfl ⟨by kernel_rfl, by kernel_rfl⟩ ?_
          refine TL.next rfl ?_
          refine TC.seq ?_
          refine TC.cond (decide ((k_2 : Int) < (tubes.length : Int))) rfl (by kernel_rfl) (fun h9 => ?_) (fun h9 => ?_)
          · have hlt_2 : k_2 < tubes.length := by have := of_decide_eq_true h9; first | omega | (simp at this; omega)
            obtain ⟨x_2, hx_2⟩ : ∃ e_, tubes[k_2]? = some e_ := ⟨_, List.getElem?_eq_getElem hlt_2⟩
            have hd_2 := drop_at hx_2
            refine TC.skip ?_
            refine TE.next ?_
            refine TC.seq ?_
            refine TC.block ?_
            refine TC.seq ?_
            refine TC.region ?_
            refine TL.run 1 [] [(3, .int .i64 time), (11, .slice A seen_2.length c), (14, .slice A_out out.length c_out), (62, .slice A_tubes tubes.length c_tubes), (63, .int .i64 (tubes.length : Int)), (64, .int .i64 (k_2 : Int)), (66, .int .i64 (k_2 : Int))] rfl ⟨by kernel_rfl, by kernel_rfl⟩ ?_
            refine TL.val (sV (Instr.indexAt 84 (.slice A_tubes tubes.length c_tubes) (.int .i64 (k_2 : Int)))) (some 67) (.pointer (some ((A_tubes.getD noAddr).add (k_2 * 1)))) [(3, .int .i64 time), (11, .slice A seen_2.length c), (14, .slice A_out out.length c_out), (62, .slice A_tubes tubes.length c_tubes), (63, .int .i64 (tubes.length : Int)), (64, .int .i64 (k_2 : Int)), (66, .int .i64 (k_2 : Int)), (67, .pointer (some ((A_tubes.getD noAddr).add (k_2 * 1))))] (fun w hM => run_index (h_tubes.sat hM) (sl_len he_tubes) (by kernel_rfl) (by have q0_ := (dec_f h1); have q1_ := (bne_f h2); (try have kc_ := pcheck_know hr1 ‹(r1 != 0) = false›); first | omega | (rw [List.length_set]; omega) | (dsimp only; omega) | (rw [List.length_drop]; omega) | (simp only [w64_eq]; omega) | exact (tm_in (by (first | (rw [w64_id (by omega)]; omega) | (simp only [w64_eq]; omega))) (by omega)).1 | exact (tm_in (by (first | (rw [w64_id (by omega)]; omega) | (simp only [w64_eq]; omega))) (by omega)).2.1 | exact (tm_in (by (first | (rw [w64_id (by omega)]; omega) | (simp only [w64_eq]; omega))) (by omega)).2.2 | (simp only [List.length_take] at *; omega) | (simp <;> omega)) (by have q0_ := (dec_f h1); have q1_ := (bne_f h2); (try have kc_ := pcheck_know hr1 ‹(r1 != 0) = false›); first | omega | (rw [List.length_set]; omega) | (dsimp only; omega) | (rw [List.length_drop]; omega) | (simp only [w64_eq]; omega) | exact (tm_in (by (first | (rw [w64_id (by omega)]; omega) | (simp only [w64_eq]; omega))) (by omega)).1 | exact (tm_in (by (first | (rw [w64_id (by omega)]; omega) | (simp only [w64_eq]; omega))) (by omega)).2.1 | exact (tm_in (by (first | (rw [w64_id (by omega)]; omega) | (simp only [w64_eq]; omega))) (by omega)).2.2 | (simp only [List.length_take] at *; omega) | (simp <;> omega))) (by kernel_rfl) (by kernel_rfl) ?_
            have s_s1 := (el_rd (sl_all hd_tubes k_2) (sl_at he_tubes hx_2)).short; rw [List.length_map] at s_s1
            refine TL.val (sV (Instr.loadAt 88 (.pointer (some ((A_tubes.getD noAddr).add (k_2 * 1)))))) (some 68) (.slice ((o_tubes[k_2]?.getD Sl.zero).A) x_2.length ((o_tubes[k_2]?.getD Sl.zero).cap)) [(3, .int .i64 time), (11, .slice A seen_2.length c), (14, .slice A_out out.length c_out), (62, .slice A_tubes tubes.length c_tubes), (63, .int .i64 (tubes.length : Int)), (64, .int .i64 (k_2 : Int)), (66, .int .i64 (k_2 : Int)), (68, .slice ((o_tubes[k_2]?.getD Sl.zero).A) x_2.length ((o_tubes[k_2]?.getD Sl.zero).cap))] (fun w hM => (by have h := run_load_one (P := Try.prog) (T := 88) (off := 0) (i := k_2) (.slice (o_tubes[k_2]?.getD Sl.zero).A (o_tubes[k_2]?.getD Sl.zero).l.length (o_tubes[k_2]?.getD Sl.zero).cap) (h_tubes.sat hM) (map_at (getD_at _ _ Sl.zero (sl_lt he_tubes (List.getElem?_eq_some_iff.1 hx_2).1))) (by kernel_rfl) (by kernel_rfl); rw [(sl_at he_tubes hx_2)] at h; exact h)) (by kernel_rfl) (by kernel_rfl) ?_
            refine TL.run 5 [] [(3, .int .i64 time), (11, .slice A seen_2.length c), (14, .slice A_out out.length c_out), (15, .int .i64 (k_2 : Int)), (16, .slice ((o_tubes[k_2]?.getD Sl.zero).A) x_2.length ((o_tubes[k_2]?.getD Sl.zero).cap)), (62, .slice A_tubes tubes.length c_tubes), (63, .int .i64 (tubes.length : Int)), (64, .int .i64 (k_2 : Int))] rfl ⟨by kernel_rfl, by kernel_rfl⟩ ?_
            refine TL.next rfl ?_
            refine TC.seq ?_
            refine TC.region ?_
            refine TL.run 2 [] [(3, .int .i64 time), (11, .slice A seen_2.length c), (14, .slice A_out out.length c_out), (15, .int .i64 (k_2 : Int)), (62, .slice A_tubes tubes.length c_tubes), (63, .int .i64 (tubes.length : Int)), (64, .int .i64 (k_2 : Int)), (70, .slice ((o_tubes[k_2]?.getD Sl.zero).A) x_2.length ((o_tubes[k_2]?.getD Sl.zero).cap)), (71, .int .i64 time)] rfl ⟨by kernel_rfl, by kernel_rfl⟩ ?_
            refine TL.call (some 72) [(3, .int .i64 time), (11, .slice A seen_2.length c), (14, .slice A_out out.length c_out), (15, .int .i64 (k_2 : Int)), (62, .slice A_tubes tubes.length c_tubes), (63, .int .i64 (tubes.length : Int)), (64, .int .i64 (k_2 : Int)), (72, .tuple #[TubeNode.v ((tube_At x_2 time).1), .int .i64 ((tube_At x_2 time).2)])] (fun w hM => tube_At_w ((o_tubes[k_2]?.getD Sl.zero).A) ((o_tubes[k_2]?.getD Sl.zero).cap) x_2 time w (el_rd ((sl_all hd_tubes k_2).sat hM) (sl_at he_tubes hx_2)) (el_le ((sl_all hd_tubes k_2).sat hM) (sl_at he_tubes hx_2))) (by kernel_rfl) (by kernel_rfl) ?_
            generalize hr2 : tube_At x_2 time = r2
            refine TL.run 6 [] [(3, .int .i64 time), (11, .slice A seen_2.length c), (14, .slice A_out out.length c_out), (15, .int .i64 (k_2 : Int)), (62, .slice A_tubes tubes.length c_tubes), (63, .int .i64 (tubes.length : Int)), (64, .int .i64 (k_2 : Int)), (73, TubeNode.v r2.1), (74, .int .i64 r2.2)] rfl ⟨by kernel_rfl, by kernel_rfl⟩ ?_
            refine TL.write 0 (fun b1 => [(3, .int .i64 time), (11, .slice A seen_2.length c), (14, .slice A_out out.length c_out), (15, .int .i64 (k_2 : Int)), (17, .pointer (some ⟨b1, 0, none⟩)), (62, .slice A_tubes tubes.length c_tubes), (63, .int .i64 (tubes.length : Int)), (64, .int .i64 (k_2 : Int)), (73, TubeNode.v r2.1), (74, .int .i64 r2.2)]) (fun b1 => [.inl (b1, .cells (TubeNode.c TubeNode.zero) 97 (0, 0)), .inr (Own A_out c_out 3 1 (out.map ic)), .inr (Own A c 4 1 (seen_2.map bc))]) (fun b1 => ⟨by kernel_rfl, by kernel_rfl⟩) (fun b1 => ?_)
            refine TL.write 0 (fun _ => [(3, .int .i64 time), (11, .slice A seen_2.length c), (14, .slice A_out out.length c_out), (15, .int .i64 (k_2 : Int)), (62, .slice A_tubes tubes.length c_tubes), (63, .int .i64 (tubes.length : Int)), (64, .int .i64 (k_2 : Int)), (74, .int .i64 r2.2)]) (fun _ => [.inl (b1, .cells (TubeNode.c r2.1) 97 (0, 0)), .inr (Own A_out c_out 3 1 (out.map ic)), .inr (Own A c 4 1 (seen_2.map bc))]) (fun _ => ⟨by kernel_rfl, by kernel_rfl⟩) (fun _ => ?_)
            refine TL.run 9 [] [(3, .int .i64 time), (11, .slice A seen_2.length c), (14, .slice A_out out.length c_out), (15, .int .i64 (k_2 : Int)), (18, .int .i64 r2.2), (62, .slice A_tubes tubes.length c_tubes), (63, .int .i64 (tubes.length : Int)), (64, .int .i64 (k_2 : Int))] rfl ⟨by kernel_rfl, by kernel_rfl⟩ ?_
            refine TL.next rfl ?_
            refine TC.seq ?_
            refine TC.region ?_
            refine TL.run 3 [] [(3, .int .i64 time), (11, .slice A seen_2.length c), (14, .slice A_out out.length c_out), (15, .int .i64 (k_2 : Int)), (62, .slice A_tubes tubes.length c_tubes), (63, .int .i64 (tubes.length : Int)), (64, .int .i64 (k_2 : Int)), (77, .bool (r2.2 == 0))] rfl ⟨by kernel_rfl, by kernel_rfl⟩ ?_
            refine TL.split 77 (r2.2 == 0) (by kernel_rfl) (fun h10 => ?_) (fun h10 => ?_)
            · refine TL.run 5 [] [(3, .int .i64 time), (11, .slice A seen_2.length c), (14, .slice A_out out.length c_out), (15, .int .i64 (k_2 : Int)), (62, .slice A_tubes tubes.length c_tubes), (63, .int .i64 (tubes.length : Int)), (64, .int .i64 (k_2 : Int)), (77, .bool true), (78, .slice A seen_2.length c), (79, .int .i64 (k_2 : Int))] rfl ⟨by kernel_rfl, by kernel_rfl⟩ ?_
              refine TL.val (sV (Instr.indexAt 91 (.slice A seen_2.length c) (.int .i64 (k_2 : Int)))) (some 80) (.pointer (some ((A.getD noAddr).add (k_2 * 1)))) [(3, .int .i64 time), (11, .slice A seen_2.length c), (14, .slice A_out out.length c_out), (15, .int .i64 (k_2 : Int)), (62, .slice A_tubes tubes.length c_tubes), (63, .int .i64 (tubes.length : Int)), (64, .int .i64 (k_2 : Int)), (77, .bool true), (80, .pointer (some ((A.getD noAddr).add (k_2 * 1))))] (fun w hM => run_index (hM.rd_at 2 rfl) (by simp) (by kernel_rfl) (by have q0_ := (dec_f h1); have q1_ := (bne_f h2); have q2_ := (beq_t h10); (try have kc_ := pcheck_know hr1 ‹(r1 != 0) = false›); first | omega | (rw [List.length_set]; omega) | (dsimp only; omega) | (rw [List.length_drop]; omega) | (simp only [w64_eq]; omega) | exact (tm_in (by (first | (rw [w64_id (by omega)]; omega) | (simp only [w64_eq]; omega))) (by omega)).1 | exact (tm_in (by (first | (rw [w64_id (by omega)]; omega) | (simp only [w64_eq]; omega))) (by omega)).2.1 | exact (tm_in (by (first | (rw [w64_id (by omega)]; omega) | (simp only [w64_eq]; omega))) (by omega)).2.2 | (simp only [List.length_take] at *; omega) | (simp <;> omega)) (by have q0_ := (dec_f h1); have q1_ := (bne_f h2); have q2_ := (beq_t h10); (try have kc_ := pcheck_know hr1 ‹(r1 != 0) = false›); first | omega | (rw [List.length_set]; omega) | (dsimp only; omega) | (rw [List.length_drop]; omega) | (simp only [w64_eq]; omega) | exact (tm_in (by (first | (rw [w64_id (by omega)]; omega) | (simp only [w64_eq]; omega))) (by omega)).1 | exact (tm_in (by (first | (rw [w64_id (by omega)]; omega) | (simp only [w64_eq]; omega))) (by omega)).2.1 | exact (tm_in (by (first | (rw [w64_id (by omega)]; omega) | (simp only [w64_eq]; omega))) (by omega)).2.2 | (simp only [List.length_take] at *; omega) | (simp <;> omega))) (by kernel_rfl) (by kernel_rfl) ?_
              refine TL.val (sV (Instr.loadAt 4 (.pointer (some ((A.getD noAddr).add (k_2 * 1)))))) (some 81) (.bool ((seen_2[k_2]?.getD false))) [(3, .int .i64 time), (11, .slice A seen_2.length c), (14, .slice A_out out.length c_out), (15, .int .i64 (k_2 : Int)), (62, .slice A_tubes tubes.length c_tubes), (63, .int .i64 (tubes.length : Int)), (64, .int .i64 (k_2 : Int)), (77, .bool true), (81, .bool ((seen_2[k_2]?.getD false)))] (fun w hM => run_load_one (off := 0) (i := k_2) (.bool ((seen_2[k_2]?.getD false))) (hM.rd_at 2 rfl) (map_at (getD_at _ _ false (by have q0_ := (dec_f h1); have q1_ := (bne_f h2); have q2_ := (beq_t h10); (try have kc_ := pcheck_know hr1 ‹(r1 != 0) = false›); first | omega | (rw [List.length_set]; omega) | (dsimp only; omega) | (rw [List.length_drop]; omega) | (simp only [w64_eq]; omega) | exact (tm_in (by (first | (rw [w64_id (by omega)]; omega) | (simp only [w64_eq]; omega))) (by omega)).1 | exact (tm_in (by (first | (rw [w64_id (by omega)]; omega) | (simp only [w64_eq]; omega))) (by omega)).2.1 | exact (tm_in (by (first | (rw [w64_id (by omega)]; omega) | (simp only [w64_eq]; omega))) (by omega)).2.2 | (simp only [List.length_take] at *; omega) | (simp <;> omega)))) (by kernel_rfl) (by kernel_rfl)) (by kernel_rfl) (by kernel_rfl) ?_
              refine TL.run 9 [] [(3, .int .i64 time), (11, .slice A seen_2.length c), (14, .slice A_out out.length c_out), (15, .int .i64 (k_2 : Int)), (62, .slice A_tubes tubes.length c_tubes), (63, .int .i64 (tubes.length : Int)), (64, .int .i64 (k_2 : Int)), (83, .bool (!((seen_2[k_2]?.getD false))))] rfl ⟨by kernel_rfl, by kernel_rfl⟩ ?_
              refine TL.next rfl ?_
              refine TC.cond (!((seen_2[k_2]?.getD false))) rfl (by kernel_rfl) (fun h11 => ?_) (fun h11 => ?_)
              · refine TC.region ?_
                refine TL.run 2 [] [(3, .int .i64 time), (11, .slice A seen_2.length c), (62, .slice A_tubes tubes.length c_tubes), (63, .int .i64 (tubes.length : Int)), (64, .int .i64 (k_2 : Int)), (84, .slice A_out out.length c_out), (85, .int .i64 (k_2 : Int))] rfl ⟨by kernel_rfl, by kernel_rfl⟩ ?_
                refine TL.write 0 (fun b2 => [(3, .int .i64 time), (11, .slice A seen_2.length c), (62, .slice A_tubes tubes.length c_tubes), (63, .int .i64 (tubes.length : Int)), (64, .int .i64 (k_2 : Int)), (84, .slice A_out out.length c_out), (86, .slice (some ⟨b2, 0, none⟩) 1 1)]) (fun b2 => [.inl (b2, .cells #[.int .i64 (k_2 : Int)] 3 (0, 0)), .inl (b1, .cells (TubeNode.c r2.1) 97 (0, 0)), .inr (Own A_out c_out 3 1 (out.map ic)), .inr (Own A c 4 1 (seen_2.map bc))]) (fun b2 => ⟨by kernel_rfl, by kernel_rfl⟩) (fun b2 => ?_)
                refine TL.opM (Γ := Option Addr × Nat) (sV (Builtin.append_ #[62, 62] 62 #[.slice A_out out.length c_out, .slice (some ⟨b2, 0, none⟩) 1 1])) (some 87) (fun g => .slice g.1 (out ++ ([(k_2 : Int)])).length g.2) (fun g => [.inl (b2, .cells #[.int .i64 (k_2 : Int)] 3 (0, 0)), .inl (b1, .cells (TubeNode.c r2.1) 97 (0, 0)), .inr (Own g.1 g.2 3 1 ((out ++ ([(k_2 : Int)])).map ic)), .inr (Own A c 4 1 (seen_2.map bc))]) (fun g => [(3, .int .i64 time), (11, .slice A seen_2.length c), (62, .slice A_tubes tubes.length c_tubes), (63, .int .i64 (tubes.length : Int)), (64, .int .i64 (k_2 : Int)), (87, .slice g.1 ((out ++ ([(k_2 : Int)])).length) g.2)]) (app_at (bytes := 8) 62 2 ([(k_2 : Int)]) (by kernel_rfl) rfl rfl ic_one rfl (fun w hM => (Rd.lit hM 0 _ rfl (by kernel_rfl) (by kernel_rfl) (by kernel_rfl))) rfl (by have q0_ := (dec_f h1); have q1_ := (bne_f h2); have q2_ := (beq_t h10); (try have kc_ := pcheck_know hr1 ‹(r1 != 0) = false›); first | omega | (simp <;> omega) | (simp at * <;> omega))) (by kernel_rfl) (fun g => by kernel_rfl) ?_
                rintro ⟨A_2, c_2⟩
                refine TL.run 5 [] [(3, .int .i64 time), (11, .slice A seen_2.length c), (14, .slice A_2 ((out ++ ([(k_2 : Int)])).length) c_2), (62, .slice A_tubes tubes.length c_tubes), (63, .int .i64 (tubes.length : Int)), (64, .int .i64 (k_2 : Int))] rfl ⟨by kernel_rfl, by kernel_rfl⟩ ?_
                refine TL.done rfl ?_
                refine TE.normal_block ?_
                refine TE.next ?_
                refine TC.region ?_
                refine TL.run 2 [] [(3, .int .i64 time), (11, .slice A seen_2.length c), (14, .slice A_2 ((out ++ ([(k_2 : Int)])).length) c_2), (62, .slice A_tubes tubes.length c_tubes), (63, .int .i64 (tubes.length : Int)), (64, .int .i64 (w64 ((k_2 : Int) + 1)))] rfl ⟨by kernel_rfl, by kernel_rfl⟩ ?_
                refine TL.done rfl ?_
                refine TE.rw 64 (.int .i64 (w64 ((k_2 : Int) + 1))) (.int .i64 ((k_2 + 1 : Nat) : Int)) (by kernel_rfl) (w64_cast k_2 (by (try have kc_ := pcheck_know hr1 ‹(r1 != 0) = false›); omega)) ?_
                exact TE.again (x := (k_2, out, A_out, c_out)) (k_2 + 1, (out ++ ([(k_2 : Int)])), A_2, c_2) ⟨by omega, hI_2.trans (by subst hr1 hr2; rw [hd_2]; exact cond_t h10 (cond_t h11 (rfl))), (by have q0_ := (dec_f h1); have q1_ := (bne_f h2); have q2_ := (beq_t h10); (try have kc_ := pcheck_know hr1 ‹(r1 != 0) = false›); first | omega | (simp <;> omega) | (simp at * <;> omega) | (simp only [w64_eq] at *; omega) | (simp only [List.length_append, List.length_cons, List.length_nil]; omega))⟩ (by show tubes.length - (k_2 + 1) < tubes.length - k_2; omega) (by kernel_rfl) (.cons _ (.cons _ (.cons_cons _ (.cons_cons _ (.slnil)))))
              · refine TC.skip ?_
                refine TE.normal_block ?_
                refine TE.next ?_
                refine TC.region ?_
                refine TL.run 2 [] [(3, .int .i64 time), (11, .slice A seen_2.length c), (14, .slice A_out out.length c_out), (62, .slice A_tubes tubes.length c_tubes), (63, .int .i64 (tubes.length : Int)), (64, .int .i64 (w64 ((k_2 : Int) + 1)))] rfl ⟨by kernel_rfl, by kernel_rfl⟩ ?_
                refine TL.done rfl ?_
                refine TE.rw 64 (.int .i64 (w64 ((k_2 : Int) + 1))) (.int .i64 ((k_2 + 1 : Nat) : Int)) (by kernel_rfl) (w64_cast k_2 (by (try have kc_ := pcheck_know hr1 ‹(r1 != 0) = false›); omega)) ?_
                exact TE.again (x := (k_2, out, A_out, c_out)) (k_2 + 1, out, A_out, c_out) ⟨by omega, hI_2.trans (by subst hr1 hr2; rw [hd_2]; exact cond_t h10 (cond_f h11 (rfl))), (by have q0_ := (dec_f h1); have q1_ := (bne_f h2); have q2_ := (beq_t h10); (try have kc_ := pcheck_know hr1 ‹(r1 != 0) = false›); first | omega | (simp <;> omega) | (simp at * <;> omega) | (simp only [w64_eq] at *; omega) | (simp only [List.length_append, List.length_cons, List.length_nil]; omega))⟩ (by show tubes.length - (k_2 + 1) < tubes.length - k_2; omega) (by kernel_rfl) (.cons _ (.cons_cons _ (.cons_cons _ (.slnil))))
            · refine TL.run 9 [] [(3, .int .i64 time), (11, .slice A seen_2.length c), (14, .slice A_out out.length c_out), (15, .int .i64 (k_2 : Int)), (62, .slice A_tubes tubes.length c_tubes), (63, .int .i64 (tubes.length : Int)), (64, .int .i64 (k_2 : Int)), (83, .bool false)] rfl ⟨by kernel_rfl, by kernel_rfl⟩ ?_
              refine TL.next rfl ?_
              refine TC.condF rfl (by kernel_rfl) ?_
              refine TC.skip ?_
              refine TE.normal_block ?_
              refine TE.next ?_
              refine TC.region ?_
              refine TL.run 2 [] [(3, .int .i64 time), (11, .slice A seen_2.length c), (14, .slice A_out out.length c_out), (62, .slice A_tubes tubes.length c_tubes), (63, .int .i64 (tubes.length : Int)), (64, .int .i64 (w64 ((k_2 : Int) + 1)))] rfl ⟨by kernel_rfl, by kernel_rfl⟩ ?_
              refine TL.done rfl ?_
              refine TE.rw 64 (.int .i64 (w64 ((k_2 : Int) + 1))) (.int .i64 ((k_2 + 1 : Nat) : Int)) (by kernel_rfl) (w64_cast k_2 (by (try have kc_ := pcheck_know hr1 ‹(r1 != 0) = false›); omega)) ?_
              exact TE.again (x := (k_2, out, A_out, c_out)) (k_2 + 1, out, A_out, c_out) ⟨by omega, hI_2.trans (by subst hr1 hr2; rw [hd_2]; exact cond_f h10 (rfl)), (by have q0_ := (dec_f h1); have q1_ := (bne_f h2); have q2_ := (beq_f h10); (try have kc_ := pcheck_know hr1 ‹(r1 != 0) = false›); first | omega | (simp <;> omega) | (simp at * <;> omega) | (simp only [w64_eq] at *; omega) | (simp only [List.length_append, List.length_cons, List.length_nil]; omega))⟩ (by show tubes.length - (k_2 + 1) < tubes.length - k_2; omega) (by kernel_rfl) (.cons _ (.cons_cons _ (.cons_cons _ (.slnil))))
          · have hd_2 : tubes.drop k_2 = [] := List.drop_eq_nil_of_le (by have := of_decide_eq_false h9; first | omega | (simp at this; omega))
            refine TC.exit ?_
            refine TE.exit_then (TE.exit_then (TE.exit_same ?_))
            exact TE.cut (out, A_out, c_out) (⟨hI_2.trans (by subst hr1; rw [hd_2]; exact rfl), (by have q0_ := (dec_f h1); have q1_ := (bne_f h2); (try have kc_ := pcheck_know hr1 ‹(r1 != 0) = false›); first | omega | (simp <;> omega) | (simp at * <;> omega) | (simp only [w64_eq] at *; omega) | (simp only [List.length_append, List.length_cons, List.length_nil]; omega))⟩) (by kernel_rfl) (.cons_cons _ (.cons _ (.slnil)))
        · rintro ⟨out_2, A_out_2, c_out_2⟩ ⟨hJ_2, hl_out_2⟩
          refine TE.next ?_
          refine TC.seq ?_
          refine TC.region ?_
          refine TL.run 3 [] [(8, .slice A_out_2 out_2.length c_out_2), (9, .int .i64 0)] rfl ⟨by kernel_rfl, by kernel_rfl⟩ ?_
          refine TL.next rfl ?_
          refine TC.ret ?_
          have e : pair_Missing to tubes codes time = (out_2, 0) := by subst hr1; unfold pair_Missing; exact cond_f h1 (cond_f h2 (elim_l (hR.symm.trans hJ) (bindv_eq (hR_2.symm.trans hJ_2) (rfl))))
          rw [e]
          exact TE.retM (.inl rfl) (A_out_2, c_out_2) [] (.tuple #[.slice A_out_2 out_2.length c_out_2, .int .i64 0]) ⟨by kernel_rfl, by kernel_rfl⟩ rfl (fun _ hM => hM.sub (.cons_cons _ (.slnil)))

end Go.Sky
