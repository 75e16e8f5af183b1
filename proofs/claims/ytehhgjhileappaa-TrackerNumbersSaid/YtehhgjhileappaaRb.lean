/- Functions of the program, each with the Lean function that it computes. Conditions: none. -/
import Derived.Test.YtehhgjhileappaaRa
import Derived.Test.YtehhgjhileappaaSortSpot
namespace Go.Sky
open Go Go.Eng Go.Proofs
open Go.Srt
set_option maxRecDepth 100000 in
theorem sortSp_w (A_x : Option Addr) (c_x : Nat) (x : List Spot) (w : World) (hM : Sat ⟨w, feet [.inr (Own A_x c_x 36 6 (x.map Spot.c))]⟩ [.inr (Own A_x c_x 36 6 (x.map Spot.c))] w) : Calls Try.prog 42 #[.slice A_x x.length c_x, .func (.func 43) #[] #[]] w (RetM (Γ := (List Spot)) ⟨w, feet [.inr (Own A_x c_x 36 6 (x.map Spot.c))]⟩ (fun _ => .tuple #[]) (fun g => [.inr (Fact (g.length = x.length ∧ g = sortS x)), .inr (Own A_x c_x 36 6 (g.map Spot.c))])) := by
  exact spots_sort A_x c_x 36 x w hM

def fuse_Spots_L1 : List Spot → Nat → ((Unit) ⊕ (List Spot × Int))
  | [], _ => .inl ()
  | x :: xs, k => let r1 := radar_CheckSpot x
    cond (r1 != 0) (
      .inr ([], r1)) (
      fuse_Spots_L1 xs (k + 1))
def fuse_Spots_L2 (band : Int) : List Spot → Nat → (List Spot) → (List Spot)
  | [], _, out => out
  | x_2 :: xs, k_2, out => let r5 := ContainsFunc_spot out x_2 band
    cond (!r5) (
      fuse_Spots_L2 band xs (k_2 + 1) (out ++ ([x_2]))) (
      fuse_Spots_L2 band xs (k_2 + 1) out)
def fuse_Spots (l : List Spot) (band : Int) : List Spot × Int :=
  cond (decide ((l.length : Int) > 128)) (
    ([], 2)) (
    Sum.elim (fun _ =>
      let r2 := fuse_wrong band
      cond r2 (
        ([], 4)) (
        let r3 := slices_Clone_api_Spot_api_Spot l
        let r4 := sortS r3
        bindv (fuse_Spots_L2 band r4 0 ([] : List Spot)) (fun out_2 =>
          (out_2, 0)))) (fun r => r) (fuse_Spots_L1 l 0))

set_option maxHeartbeats 4000000 in
set_option maxRecDepth 100000 in
theorem fuse_Spots_w (A_l : Option Addr) (c_l : Nat) (l : List Spot) (band : Int) (w : World) (h_l : Rd w 6 A_l (l.map Spot.c)) (hc_l : l.length ≤ c_l) : Calls Try.prog 23 #[.slice A_l l.length c_l, .int .i64 band] w (RetM (Γ := (Option Addr × Nat)) (cx w) (fun g => .tuple #[.slice g.1 ((fuse_Spots l band).1.length) g.2, .int .i64 ((fuse_Spots l band).2)]) (fun g => [.inr (Own g.1 g.2 36 6 (((fuse_Spots l band).1).map Spot.c))])) := by
  have s_l := h_l.short; rw [List.length_map] at s_l
  refine calls_intro (vs := [.slice A_l l.length c_l, .i band]) (w := w) Try.func23 rfl Try.ntmps23 rfl (TC.weak [(0, .slice A_l l.length c_l), (1, .i band)] Kr (TC.seq (TC.region (TL.nw 3 (fun b1 => .p0 b1) (fun b1 => Bk b1 #[.i band] 3) (fun b1 => {}) (fun b1 => TL.r 3 [] [(4, .slice none 0 0), (5, .i 0)] {} (TL.next rfl (TC.seq (TC.seq (TC.region (TL.r 3 [] [(15, .b (decide ((l.length : Int) > 128)))] {} (TL.next rfl (TC.cond (decide ((l.length : Int) > 128)) rfl Kr (fun h1 => ?_) (fun h1 => ?_)))))))))))))
  · refine TC.seq (TC.region (TL.r 2 [] [(4, .slice none 0 0), (5, .i 2)] {} (TL.next rfl (TC.ret (TE.ret_then ?_)))))
    have e : fuse_Spots l band = ([], 2) := by unfold fuse_Spots; exact cond_t h1 (rfl)
    refine TE.conv [Ow none 0 36 6 (([] : List Spot).map Spot.c), Bk b1 #[.i band] 3] (fun _ hM => hM.emptyrow none 36 6) ?_
    rw [e]
    exact TE.retM (.inl rfl) (none, 0) [] (.tuple #[.slice none 0 0, .i 2]) {} rfl (fun _ hM => hM.sub (.cons_cons _ (.cons _ (.slnil))))
  · refine TC.skip (TE.next (TC.seq (TC.seq (TC.region (TL.r 3 [] [(16, .slice A_l l.length c_l), (17, .i (l.length : Int)), (18, .i 0)] {} (TL.next rfl (TC.weak [(0, .slice A_l l.length c_l), (3, .p0 b1), (16, .slice A_l l.length c_l), (17, .i (l.length : Int)), (18, .i 0)] Kr ?_)))))))
    obtain ⟨R2, hR⟩ : ∃ R, R = fuse_Spots_L1 l 0 := ⟨_, rfl⟩
    refine TC.cut (S := Unit) (fun (_ : Unit) => [(0, .slice A_l l.length c_l), (3, .p0 b1)]) (fun (_ : Unit) => [Bk b1 #[.i band] 3]) (fun (_ : Unit) => R2 = .inl ()) ?_ ?_
    · refine TC.block (TC.loop (X := Nat) (fun k => [(0, .slice A_l l.length c_l), (3, .p0 b1), (16, .slice A_l l.length c_l), (17, .i (l.length : Int)), (18, .i (k : Int))]) (fun k => [Bk b1 #[.i band] 3]) (fun k => l.length - k) (fun k => k ≤ l.length ∧ R2 = fuse_Spots_L1 (l.drop k) k) ?_ 0 ⟨Nat.zero_le _, hR⟩)
      rintro k ⟨hk, hI⟩
      refine TC.seq (TC.region (TL.r 1 [] [(19, .b (decide ((k : Int) < (l.length : Int))))] {} (TL.next rfl (TC.seq (TC.cond (decide ((k : Int) < (l.length : Int))) rfl Kr (fun h2 => ?_) (fun h2 => ?_))))))
      · have hlt : k < l.length := by have := of_decide_eq_true h2; first | omega | (simp at this; omega)
        obtain ⟨x, hx⟩ : ∃ e_, l[k]? = some e_ := ⟨_, List.getElem?_eq_getElem hlt⟩
        have hd := drop_at hx
        refine TC.skip (TE.next (TC.seq (TC.block (TC.seq (TC.region (TL.v (sV (Instr.indexAt 32 (.slice A_l l.length c_l) (.i (k : Int)))) 20 (.pointer (some (Ix A_l (k * 6)))) (fun w hM => run_index (h_l.sat hM) (by simp) Kr (by have q0_ := (dec_f h1); (try have e3_ : r3.length = l.length := (by rw [← hr3]; rfl)); exact sd) (by have q0_ := (dec_f h1); (try have e3_ : r3.length = l.length := (by rw [← hr3]; rfl)); exact sd)) {} (TL.v (sV (Instr.loadAt 36 (.pointer (some (Ix A_l (k * 6)))))) 21 (Spot.v x) (fun w hM => run_load_agg (n := 6) (off := 0) (i := k) (Spot.v x) (h_l.sat hM) (map_at hx) Kr Kr Kr) {} (TL.nw 7 (fun b2 => .p0 b2) (fun b2 => Bk b2 (Spot.c Spot.zero) 36) (fun b2 => {}) (fun b2 => TL.s 0 (Bk b2 (Spot.c x) 36) (fun _ => {}) (TL.next rfl (TC.seq (TC.region (TL.r 1 [0] [(22, Spot.v x)] {} (TL.c 23 (radar_CheckSpot x) (fun r1 => .i r1) (fun w _ => radar_CheckSpot_w x w) {} (fun r1 hr1 => TL.r 3 [] [(8, .i r1)] {} (TL.next rfl (TC.seq (TC.region (TL.r 2 [] [(25, .b (r1 != 0))] {} (TL.next rfl (TC.cond (r1 != 0) rfl Kr (fun h3 => ?_) (fun h3 => ?_))))))))))))))))))))))
        · refine TC.seq (TC.region (TL.r 3 [] [(4, .slice none 0 0), (5, .i r1)] {} (TL.next rfl (TC.ret (TE.ret_block (TE.ret_then (TE.ret_then (TE.ret_block (TE.ret_then (TE.ret_then ?_))))))))))
          have e : fuse_Spots l band = ([], r1) := by subst hr1; unfold fuse_Spots; exact cond_f h1 (elim_r (hR.symm.trans (hI.trans (by rw [hd]; exact cond_t h3 (rfl)))) rfl)
          refine TE.conv [Ow none 0 36 6 (([] : List Spot).map Spot.c), Bk b2 (Spot.c x) 36, Bk b1 #[.i band] 3] (fun _ hM => hM.emptyrow none 36 6) ?_
          rw [e]
          exact TE.retM (.inl rfl) (none, 0) [] (.tuple #[.slice none 0 0, .i r1]) {} rfl (fun _ hM => hM.sub (.cons_cons _ (.cons _ (.cons _ (.slnil)))))
        · exact TC.skip (TE.normal_block (TE.next (TC.region (TL.r 2 [] [(18, .i (w64 ((k : Int) + 1)))] {} (TL.done rfl (TE.rw 18 (.i (w64 ((k : Int) + 1))) (.i ((k + 1 : Nat) : Int)) Kr (w64_cast k (by (try have e3_ : r3.length = l.length := (by rw [← hr3]; rfl)); omega)) (TE.again (x := k) (k + 1) ⟨by omega, hI.trans (by subst hr1; rw [hd]; exact cond_f h3 (rfl))⟩ (by show l.length - (k + 1) < l.length - k; omega) Kr (.cons _ (.cons_cons _ (.slnil))))))))))
      · have hd : l.drop k = [] := List.drop_eq_nil_of_le (by have := of_decide_eq_false h2; first | omega | (simp at this; omega))
        refine TC.exit (TE.exit_then (TE.exit_then (TE.exit_same ?_)))
        exact TE.cut () (hI.trans (by rw [hd]; exact rfl)) Kr (.cons_cons _ (.slnil))
    · intro _ hJ
      refine TE.next (TC.seq (TC.seq (TC.region (TL.r 1 [0] [(28, .i band)] {} (TL.c 29 (fuse_wrong band) (fun r2 => .b r2) (fun w _ => fuse_wrong_w band w) {} (fun r2 hr2 => TL.next rfl (TC.cond r2 rfl Kr (fun h4 => ?_) (fun h4 => ?_))))))))
      · refine TC.seq (TC.region (TL.r 2 [] [(4, .slice none 0 0), (5, .i 4)] {} (TL.next rfl (TC.ret (TE.ret_then ?_)))))
        have e : fuse_Spots l band = ([], 4) := by subst hr2; unfold fuse_Spots; exact cond_f h1 (elim_l (hR.symm.trans hJ) (cond_t h4 (rfl)))
        refine TE.conv [Ow none 0 36 6 (([] : List Spot).map Spot.c), Bk b1 #[.i band] 3] (fun _ hM => hM.emptyrow none 36 6) ?_
        rw [e]
        exact TE.retM (.inl rfl) (none, 0) [] (.tuple #[.slice none 0 0, .i 4]) {} rfl (fun _ hM => hM.sub (.cons_cons _ (.cons _ (.slnil))))
      · refine TC.skip (TE.next (TC.seq (TC.region (TL.r 1 [] [(30, .slice A_l l.length c_l)] {} (TL.cn (Γ := AN) 31 (slices_Clone_api_Spot_api_Spot l) (fun r3 g => .slice g.1 r3.length g.2) (fun r3 g => [Ow g.1 g.2 36 6 (r3.map Spot.c)]) (fun w hM => slices_Clone_api_Spot_api_Spot_w A_l c_l l w (h_l.sat hM) hc_l (by have q0_ := (dec_f h1); (try have e3_ : r3.length = l.length := (by rw [← hr3]; rfl)); exact sg)) {} (fun r3 hr3 => ?_))))))
        rintro ⟨A, c⟩
        refine TL.know (fun w hM => hM.short_at 0 rfl) (fun s_r3_0 => TL.r 3 [] [(9, .slice A r3.length c)] {} (TL.next rfl (TC.seq (TC.region (TL.r 1 [] [(32, .slice A r3.length c)] {} (TL.callM (Γ := (List Spot)) (fun _ => .tuple #[]) (fun g => [.inr (Fact (g.length = r3.length ∧ g = sortS r3)), Ow A c 36 6 (g.map Spot.c)]) [Ow A c 36 6 (r3.map Spot.c)] [Bk b1 #[.i band] 3] (some 33) (fun _ => [(3, .p0 b1), (9, .slice A r3.length c)]) (fun w hM => sortSp_w A c r3 w hM.pass) Kr (fun g => Kr) ?_))))))
        rintro r4
        refine TL.conv [.inr (Fact (r4.length = r3.length ∧ r4 = sortS r3)), Ow A c 36 6 (r4.map Spot.c), Bk b1 #[.i band] 3] (fun _ hM => hM) (TL.know (fun w hM => hM.fact_at 0 rfl) (fun hp_sortSp => TL.forget [Ow A c 36 6 (r4.map Spot.c), Bk b1 #[.i band] 3] (.cons _ (List.Sublist.refl _)) ?_))
        have hl_r4 : r4.length = r3.length := hp_sortSp.1
        refine TL.rw 9 (.slice A r3.length c) (.slice A r4.length c) Kr (by rw [hl_r4]) ?_
        have hr4 : sortS r3 = r4 := (hp_sortSp.2).symm
        refine TL.next rfl (TC.seq (TC.region (TL.r 1 [] [(10, .slice none 0 0)] {} (TL.next rfl (TC.seq (TC.seq (TC.region (TL.r 3 [] [(34, .slice A r4.length c), (35, .i (r4.length : Int)), (36, .i 0)] {} (TL.next rfl (TC.conv [Ow none 0 36 6 (([] : List Spot).map Spot.c), Ow A c 36 6 (r4.map Spot.c), Bk b1 #[.i band] 3] (fun _ hM => hM.emptyrow none 36 6) (TC.weak [(3, .p0 b1), (10, .slice none (([] : List Spot).length) 0), (34, .slice A r4.length c), (35, .i (r4.length : Int)), (36, .i 0)] Kr ?_)))))))))))
        obtain ⟨R6, hR_2⟩ : ∃ R, R = fuse_Spots_L2 band r4 0 ([] : List Spot) := ⟨_, rfl⟩
        refine TC.cut (S := (List Spot) × (Option Addr) × Nat) (fun (out_2, A_out_2, c_out_2) => [(10, .slice A_out_2 out_2.length c_out_2)]) (fun (out_2, A_out_2, c_out_2) => [Ow A_out_2 c_out_2 36 6 (out_2.map Spot.c)]) (fun (out_2, A_out_2, c_out_2) => R6 = out_2 ∧ out_2.length ≤ r4.length) ?_ ?_
        · refine TC.block (TC.loop (X := Nat × (List Spot) × (Option Addr) × Nat) (fun (k_2, out, A_out, c_out) => [(3, .p0 b1), (10, .slice A_out out.length c_out), (34, .slice A r4.length c), (35, .i (r4.length : Int)), (36, .i (k_2 : Int))]) (fun (k_2, out, A_out, c_out) => [Ow A_out c_out 36 6 (out.map Spot.c), Ow A c 36 6 (r4.map Spot.c), Bk b1 #[.i band] 3]) (fun (k_2, out, A_out, c_out) => r4.length - k_2) (fun (k_2, out, A_out, c_out) => k_2 ≤ r4.length ∧ R6 = fuse_Spots_L2 band (r4.drop k_2) k_2 out ∧ out.length ≤ k_2) ?_ (0, ([] : List Spot), none, 0) ⟨Nat.zero_le _, hR_2, (by first | omega | (simp; omega) | simp)⟩)
          rintro ⟨k_2, out, A_out, c_out⟩ ⟨hk_2, hI_2, hl_out⟩
          refine TC.seq (TC.region (TL.r 1 [] [(37, .b (decide ((k_2 : Int) < (r4.length : Int))))] {} (TL.next rfl (TC.seq (TC.cond (decide ((k_2 : Int) < (r4.length : Int))) rfl Kr (fun h5 => ?_) (fun h5 => ?_))))))
          · have hlt_2 : k_2 < r4.length := by have := of_decide_eq_true h5; first | omega | (simp at this; omega)
            obtain ⟨x_2, hx_2⟩ : ∃ e_, r4[k_2]? = some e_ := ⟨_, List.getElem?_eq_getElem hlt_2⟩
            have hd_2 := drop_at hx_2
            refine TC.skip (TE.next (TC.seq (TC.block (TC.seq (TC.region (TL.v (sV (Instr.indexAt 32 (.slice A r4.length c) (.i (k_2 : Int)))) 38 (.pointer (some (Ix A (k_2 * 6)))) (fun w hM => run_index (hM.rd_at 1 rfl) (by simp) Kr (by have q0_ := (dec_f h1); (try have e3_ : r3.length = l.length := (by rw [← hr3]; rfl)); exact sd) (by have q0_ := (dec_f h1); (try have e3_ : r3.length = l.length := (by rw [← hr3]; rfl)); exact sd)) {} (TL.v (sV (Instr.loadAt 36 (.pointer (some (Ix A (k_2 * 6)))))) 39 (Spot.v x_2) (fun w hM => run_load_agg (n := 6) (off := 0) (i := k_2) (Spot.v x_2) (hM.rd_at 1 rfl) (map_at hx_2) Kr Kr Kr) {} (TL.nw 12 (fun b3 => .p0 b3) (fun b3 => Bk b3 (Spot.c Spot.zero) 36) (fun b3 => {}) (fun b3 => TL.s 0 (Bk b3 (Spot.c x_2) 36) (fun _ => {}) (TL.next rfl (TC.seq (TC.region (TL.r 2 [] [(40, .slice A_out out.length c_out), (41, .func (.func 45) #[] #[.p0 b3, .p0 b1])] {} (TL.c 42 (ContainsFunc_spot out x_2 band) (fun r5 => .b r5) (fun w hM => ContainsFunc_spot_w A_out c_out out ⟨b3, 0, none⟩ x_2 ⟨b1, 0, none⟩ band w (hM.rd_at 1 rfl) (hM.le_at 1 rfl) (Rd.lit hM 0 _ rfl Kr Kr Kr) (Rd.lit hM 3 _ rfl Kr Kr Kr)) {} (fun r5 hr5 => TL.r 4 [] [(43, .b (!r5))] {} (TL.next rfl (TC.cond (!r5) rfl Kr (fun h6 => ?_) (fun h6 => ?_))))))))))))))))))
            · refine TC.region (TL.r 2 [0] [(44, .slice A_out out.length c_out), (45, Spot.v x_2)] {} (TL.nw 46 (fun b4 => .slice (Pa b4) 1 1) (fun b4 => Bk b4 (Spot.c x_2) 36) (fun b4 => {}) (fun b4 => TL.os (Γ := AN) (sV (Builtin.append_ #[32, 32] 32 #[.slice A_out out.length c_out, .slice (Pa b4) 1 1])) 47 (fun g => .slice g.1 (out ++ ([x_2])).length g.2) 2 (fun g => Ow g.1 g.2 36 6 ((out ++ ([x_2])).map Spot.c)) (app_at (bytes := 48) 32 2 ([x_2]) Kr rfl rfl Spot.one rfl (fun w hM => (Rd.lit hM 0 _ rfl Kr Kr Kr)) rfl (by have q0_ := (dec_f h1); (try have e3_ : r3.length = l.length := (by rw [← hr3]; rfl)); first | omega | (simp <;> omega) | (simp at * <;> omega))) {} ?_)))
              rintro ⟨A_2, c_2⟩
              exact TL.r 5 [] [(10, .slice A_2 ((out ++ ([x_2])).length) c_2)] {} (TL.done rfl (TE.normal_block (TE.next (TC.region (TL.r 2 [] [(36, .i (w64 ((k_2 : Int) + 1)))] {} (TL.done rfl (TE.rw 36 (.i (w64 ((k_2 : Int) + 1))) (.i ((k_2 + 1 : Nat) : Int)) Kr (w64_cast k_2 (by (try have e3_ : r3.length = l.length := (by rw [← hr3]; rfl)); omega)) (TE.again (x := (k_2, out, A_out, c_out)) (k_2 + 1, (out ++ ([x_2])), A_2, c_2) ⟨by omega, hI_2.trans (by subst hr2 hr3 hr4 hr5; rw [hd_2]; exact cond_t h6 (rfl)), (by have q0_ := (dec_f h1); (try have e3_ : r3.length = l.length := (by rw [← hr3]; rfl)); first | omega | (simp <;> omega) | (simp at * <;> omega) | (simp only [w64_eq] at *; omega) | (simp only [List.length_append, List.length_cons, List.length_nil]; omega))⟩ (by show r4.length - (k_2 + 1) < r4.length - k_2; omega) Kr (.cons _ (.cons _ (.cons_cons _ (.cons_cons _ (.cons_cons _ (.slnil))))))))))))))
            · exact TC.skip (TE.normal_block (TE.next (TC.region (TL.r 2 [] [(36, .i (w64 ((k_2 : Int) + 1)))] {} (TL.done rfl (TE.rw 36 (.i (w64 ((k_2 : Int) + 1))) (.i ((k_2 + 1 : Nat) : Int)) Kr (w64_cast k_2 (by (try have e3_ : r3.length = l.length := (by rw [← hr3]; rfl)); omega)) (TE.again (x := (k_2, out, A_out, c_out)) (k_2 + 1, out, A_out, c_out) ⟨by omega, hI_2.trans (by subst hr2 hr3 hr4 hr5; rw [hd_2]; exact cond_f h6 (rfl)), (by have q0_ := (dec_f h1); (try have e3_ : r3.length = l.length := (by rw [← hr3]; rfl)); first | omega | (simp <;> omega) | (simp at * <;> omega) | (simp only [w64_eq] at *; omega) | (simp only [List.length_append, List.length_cons, List.length_nil]; omega))⟩ (by show r4.length - (k_2 + 1) < r4.length - k_2; omega) Kr (.cons _ (.cons_cons _ (.cons_cons _ (.cons_cons _ (.slnil))))))))))))
          · have hd_2 : r4.drop k_2 = [] := List.drop_eq_nil_of_le (by have := of_decide_eq_false h5; first | omega | (simp at this; omega))
            refine TC.exit (TE.exit_then (TE.exit_then (TE.exit_same ?_)))
            exact TE.cut (out, A_out, c_out) (⟨hI_2.trans (by subst hr2 hr3 hr4; rw [hd_2]; exact rfl), (by have q0_ := (dec_f h1); (try have e3_ : r3.length = l.length := (by rw [← hr3]; rfl)); first | omega | (simp <;> omega) | (simp at * <;> omega) | (simp only [w64_eq] at *; omega) | (simp only [List.length_append, List.length_cons, List.length_nil]; omega))⟩) Kr (.cons_cons _ (.cons _ (.cons _ (.slnil))))
        · rintro ⟨out_2, A_out_2, c_out_2⟩ ⟨hJ_2, hl_out_2⟩
          refine TE.next (TC.seq (TC.region (TL.r 3 [] [(4, .slice A_out_2 out_2.length c_out_2), (5, .i 0)] {} (TL.next rfl (TC.ret ?_)))))
          have e : fuse_Spots l band = (out_2, 0) := by subst hr2 hr3 hr4; unfold fuse_Spots; exact cond_f h1 (elim_l (hR.symm.trans hJ) (cond_f h4 (bindv_eq (hR_2.symm.trans hJ_2) (rfl))))
          rw [e]
          exact TE.retM (.inl rfl) (A_out_2, c_out_2) [] (.tuple #[.slice A_out_2 out_2.length c_out_2, .i 0]) {} rfl (fun _ hM => hM.sub (.cons_cons _ (.slnil)))

end Go.Sky
