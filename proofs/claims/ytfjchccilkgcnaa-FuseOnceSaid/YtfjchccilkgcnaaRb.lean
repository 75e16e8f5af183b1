/- Functions of the program, each with the Lean function that it computes. Conditions: none. -/
import Derived.Test.YtfjchccilkgcnaaRa
import Derived.Test.YtfjchccilkgcnaaQi
import Derived.Test.YtfjchccilkgcnaaSortOne
namespace Go.Sky
open Go Go.Eng Go.Proofs
open Go.Srt
def fuse_Spots_1 (x : Spot) (x_2 : Spot) (x_3 : Int) : Bool :=
  let r1 := fuse_alike x x_2 x_3
  r1

set_option maxRecDepth 100000 in
theorem fuse_Spots_1_w (x : Spot) (a_x_2 : Addr) (x_2 : Spot) (a_x_3 : Addr) (x_3 : Int) (w : World) (h_x_2 : Rd w 6 (some a_x_2) [Spot.c x_2]) (h_x_3 : Rd w 1 (some a_x_3) [ic x_3]) : Calls Try.prog 91 #[Spot.v x, .pointer (some a_x_2), .pointer (some a_x_3)] w (Ret w (.bool (fuse_Spots_1 x x_2 x_3))) := by
  refine calls_intro (vs := [Spot.v x, .pointer (some a_x_2), .pointer (some a_x_3)]) (w := w) Try.func91 rfl Try.ntmps91 rfl ?_
  refine TC.weak [(0, Spot.v x), (1, .pointer (some a_x_2)), (2, .pointer (some a_x_3))] (by kernel_rfl) ?_
  refine TC.seq ?_
  refine TC.region ?_
  refine TL.write 0 (fun b1 => [(1, .pointer (some a_x_2)), (2, .pointer (some a_x_3)), (3, .pointer (some ⟨b1, 0, none⟩))]) (fun b1 => [.inl (b1, .cells (Spot.c x) 94 (0, 0))]) (fun b1 => ⟨by kernel_rfl, by kernel_rfl⟩) (fun b1 => ?_)
  refine TL.run 2 [] [(1, .pointer (some a_x_2)), (2, .pointer (some a_x_3)), (3, .pointer (some ⟨b1, 0, none⟩))] rfl ⟨by kernel_rfl, by kernel_rfl⟩ ?_
  refine TL.next rfl ?_
  refine TC.seq ?_
  refine TC.region ?_
  refine TL.run 1 [0] [(1, .pointer (some a_x_2)), (2, .pointer (some a_x_3)), (5, Spot.v x)] rfl ⟨by kernel_rfl, by kernel_rfl⟩ ?_
  refine TL.val (sV (Instr.loadAt 94 (.pointer (some a_x_2)))) (some 6) (Spot.v x_2) [(2, .pointer (some a_x_3)), (5, Spot.v x), (6, Spot.v x_2)] (fun w hM => run_load_agg (n := 6) (off := 0) (Spot.v x_2) (h_x_2.sat hM) (rows_one _) (by kernel_rfl) (by kernel_rfl) (by kernel_rfl)) (by kernel_rfl) (by kernel_rfl) ?_
  refine TL.val (sV (Instr.loadAt 3 (.pointer (some a_x_3)))) (some 7) (.int .i64 x_3) [(5, Spot.v x), (6, Spot.v x_2), (7, .int .i64 x_3)] (fun w hM => run_load_one (off := 0) (.int .i64 x_3) (h_x_3.sat hM) (rows_one _) (by kernel_rfl) (by kernel_rfl)) (by kernel_rfl) (by kernel_rfl) ?_
  refine TL.call (some 8) [(8, .bool ((fuse_alike x x_2 x_3)))] (fun w _ => fuse_alike_w x x_2 x_3 w) (by kernel_rfl) (by kernel_rfl) ?_
  generalize hr1 : fuse_alike x x_2 x_3 = r1
  refine TL.run 5 [] [(4, .bool r1)] rfl ⟨by kernel_rfl, by kernel_rfl⟩ ?_
  refine TL.next rfl ?_
  refine TC.ret ?_
  have e : fuse_Spots_1 x x_2 x_3 = r1 := by subst hr1; unfold fuse_Spots_1; exact rfl
  exact TE.ret [] (.bool r1) ⟨by kernel_rfl, by kernel_rfl⟩ (by rw [e]; first | done | kernel_rfl)

def IndexFunc_spot_L1 (c0 : Spot) (c1 : Int) : List Spot → Nat → ((Unit) ⊕ (Int))
  | [], _ => .inl ()
  | x :: xs, k => let r1 := fuse_Spots_1 x c0 c1
    cond r1 (
      .inr (k : Int)) (
      IndexFunc_spot_L1 c0 c1 xs (k + 1))
def IndexFunc_spot (s : List Spot) (c0 : Spot) (c1 : Int) : Int :=
  Sum.elim (fun _ =>
    (-1)) (fun r => r) (IndexFunc_spot_L1 c0 c1 s 0)

set_option maxRecDepth 100000 in
theorem IndexFunc_spot_w (A_s : Option Addr) (c_s : Nat) (s : List Spot) (a_c0 : Addr) (c0 : Spot) (a_c1 : Addr) (c1 : Int) (w : World) (h_s : Rd w 6 A_s (s.map Spot.c)) (_hc_s : s.length ≤ c_s) (h_c0 : Rd w 6 (some a_c0) [Spot.c c0]) (h_c1 : Rd w 1 (some a_c1) [ic c1]) : Calls Try.prog 119 #[.slice A_s s.length c_s, .func (.func 91) #[] #[.pointer (some a_c0), .pointer (some a_c1)]] w (Ret w (.int .i64 (IndexFunc_spot s c0 c1))) := by
  have s_s := h_s.short; rw [List.length_map] at s_s
  refine calls_intro (vs := [.slice A_s s.length c_s, .func (.func 91) #[] #[.pointer (some a_c0), .pointer (some a_c1)]]) (w := w) Try.func119 rfl Try.ntmps119 rfl ?_
  refine TC.weak [(0, .slice A_s s.length c_s), (1, .func (.func 91) #[] #[.pointer (some a_c0), .pointer (some a_c1)])] (by kernel_rfl) ?_
  refine TC.seq ?_
  refine TC.region ?_
  refine TL.run 1 [] [(0, .slice A_s s.length c_s), (1, .func (.func 91) #[] #[.pointer (some a_c0), .pointer (some a_c1)])] rfl ⟨by kernel_rfl, by kernel_rfl⟩ ?_
  refine TL.next rfl ?_
  refine TC.seq ?_
  refine TC.seq ?_
  refine TC.region ?_
  refine TL.run 3 [] [(0, .slice A_s s.length c_s), (1, .func (.func 91) #[] #[.pointer (some a_c0), .pointer (some a_c1)]), (7, .int .i64 (s.length : Int)), (8, .int .i64 0)] rfl ⟨by kernel_rfl, by kernel_rfl⟩ ?_
  refine TL.next rfl ?_
  refine TC.weak [(0, .slice A_s s.length c_s), (1, .func (.func 91) #[] #[.pointer (some a_c0), .pointer (some a_c1)]), (7, .int .i64 (s.length : Int)), (8, .int .i64 0)] (by kernel_rfl) ?_
  obtain ⟨R1, hR⟩ : ∃ R, R = IndexFunc_spot_L1 c0 c1 s 0 := ⟨_, rfl⟩
  refine TC.cut (S := Unit) (fun (_ : Unit) => []) (fun (_ : Unit) => []) (fun (_ : Unit) => R1 = .inl ()) ?_ ?_
  · refine TC.block ?_
    refine TC.loop (X := Nat) (fun k => [(0, .slice A_s s.length c_s), (1, .func (.func 91) #[] #[.pointer (some a_c0), .pointer (some a_c1)]), (7, .int .i64 (s.length : Int)), (8, .int .i64 (k : Int))]) (fun k => []) (fun k => s.length - k) (fun k => k ≤ s.length ∧ R1 = IndexFunc_spot_L1 c0 c1 (s.drop k) k) ?_ 0 ⟨Nat.zero_le _, hR⟩
    rintro k ⟨hk, hI⟩
    refine TC.seq ?_
    refine TC.region ?_
    refine TL.run 1 [] [(0, .slice A_s s.length c_s), (1, .func (.func 91) #[] #[.pointer (some a_c0), .pointer (some a_c1)]), (7, .int .i64 (s.length : Int)), (8, .int .i64 (k : Int)), (9, .bool (decide ((k : Int) < (s.length : Int))))] rfl ⟨by kernel_rfl, by kernel_rfl⟩ ?_
    refine TL.next rfl ?_
    refine TC.seq ?_
    refine TC.cond (decide ((k : Int) < (s.length : Int))) rfl (by kernel_rfl) (fun h1 => ?_) (fun h1 => ?_)
    · have hlt : k < s.length := by have := of_decide_eq_true h1; first | omega | (simp at this; omega)
      obtain ⟨x, hx⟩ : ∃ e_, s[k]? = some e_ := ⟨_, List.getElem?_eq_getElem hlt⟩
      have hd := drop_at hx
      refine TC.skip ?_
      refine TE.next ?_
      refine TC.seq ?_
      refine TC.block ?_
      refine TC.seq ?_
      refine TC.region ?_
      refine TL.run 2 [] [(0, .slice A_s s.length c_s), (1, .func (.func 91) #[] #[.pointer (some a_c0), .pointer (some a_c1)]), (5, .int .i64 (k : Int)), (7, .int .i64 (s.length : Int)), (8, .int .i64 (k : Int))] rfl ⟨by kernel_rfl, by kernel_rfl⟩ ?_
      refine TL.next rfl ?_
      refine TC.seq ?_
      refine TC.region ?_
      refine TL.run 3 [] [(0, .slice A_s s.length c_s), (1, .func (.func 91) #[] #[.pointer (some a_c0), .pointer (some a_c1)]), (5, .int .i64 (k : Int)), (7, .int .i64 (s.length : Int)), (8, .int .i64 (k : Int)), (11, .func (.func 91) #[] #[.pointer (some a_c0), .pointer (some a_c1)]), (12, .slice A_s s.length c_s), (13, .int .i64 (k : Int))] rfl ⟨by kernel_rfl, by kernel_rfl⟩ ?_
      refine TL.val (sV (Instr.indexAt 90 (.slice A_s s.length c_s) (.int .i64 (k : Int)))) (some 14) (.pointer (some ((A_s.getD noAddr).add (k * 6)))) [(0, .slice A_s s.length c_s), (1, .func (.func 91) #[] #[.pointer (some a_c0), .pointer (some a_c1)]), (5, .int .i64 (k : Int)), (7, .int .i64 (s.length : Int)), (8, .int .i64 (k : Int)), (11, .func (.func 91) #[] #[.pointer (some a_c0), .pointer (some a_c1)]), (14, .pointer (some ((A_s.getD noAddr).add (k * 6))))] (fun w hM => run_index (h_s.sat hM) (by simp) (by kernel_rfl) (by first | omega | (rw [List.length_set]; omega) | (rw [w64_id (by omega)]; omega) | (dsimp only; omega) | (rw [List.length_drop]; omega) | (simp only [w64_eq]; omega) | exact (tm_in (by (first | (rw [w64_id (by omega)]; omega) | (simp only [w64_eq]; omega))) (by omega)).1 | exact (tm_in (by (first | (rw [w64_id (by omega)]; omega) | (simp only [w64_eq]; omega))) (by omega)).2.1 | exact (tm_in (by (first | (rw [w64_id (by omega)]; omega) | (simp only [w64_eq]; omega))) (by omega)).2.2 | (simp only [List.length_take] at *; omega) | (simp <;> omega)) (by first | omega | (rw [List.length_set]; omega) | (rw [w64_id (by omega)]; omega) | (dsimp only; omega) | (rw [List.length_drop]; omega) | (simp only [w64_eq]; omega) | exact (tm_in (by (first | (rw [w64_id (by omega)]; omega) | (simp only [w64_eq]; omega))) (by omega)).1 | exact (tm_in (by (first | (rw [w64_id (by omega)]; omega) | (simp only [w64_eq]; omega))) (by omega)).2.1 | exact (tm_in (by (first | (rw [w64_id (by omega)]; omega) | (simp only [w64_eq]; omega))) (by omega)).2.2 | (simp only [List.length_take] at *; omega) | (simp <;> omega))) (by kernel_rfl) (by kernel_rfl) ?_
      refine TL.val (sV (Instr.loadAt 94 (.pointer (some ((A_s.getD noAddr).add (k * 6)))))) (some 15) (Spot.v x) [(0, .slice A_s s.length c_s), (1, .func (.func 91) #[] #[.pointer (some a_c0), .pointer (some a_c1)]), (5, .int .i64 (k : Int)), (7, .int .i64 (s.length : Int)), (8, .int .i64 (k : Int)), (11, .func (.func 91) #[] #[.pointer (some a_c0), .pointer (some a_c1)]), (15, Spot.v x)] (fun w hM => run_load_agg (n := 6) (off := 0) (i := k) (Spot.v x) (h_s.sat hM) (map_at hx) (by kernel_rfl) (by kernel_rfl) (by kernel_rfl)) (by kernel_rfl) (by kernel_rfl) ?_
      refine TL.call (some 16) [(0, .slice A_s s.length c_s), (1, .func (.func 91) #[] #[.pointer (some a_c0), .pointer (some a_c1)]), (5, .int .i64 (k : Int)), (7, .int .i64 (s.length : Int)), (8, .int .i64 (k : Int)), (16, .bool ((fuse_Spots_1 x c0 c1)))] (fun w hM => fuse_Spots_1_w x a_c0 c0 a_c1 c1 w (h_c0.sat hM) (h_c1.sat hM)) (by kernel_rfl) (by kernel_rfl) ?_
      generalize hr1 : fuse_Spots_1 x c0 c1 = r1
      refine TL.next rfl ?_
      refine TC.cond r1 rfl (by kernel_rfl) (fun h2 => ?_) (fun h2 => ?_)
      · refine TC.seq ?_
        refine TC.region ?_
        refine TL.run 2 [] [(4, .int .i64 (k : Int))] rfl ⟨by kernel_rfl, by kernel_rfl⟩ ?_
        refine TL.next rfl ?_
        refine TC.ret ?_
        refine TE.ret_block (TE.ret_then (TE.ret_then (TE.ret_block (TE.ret_then (TE.ret_then ?_)))))
        have e : IndexFunc_spot s c0 c1 = (k : Int) := by subst hr1; unfold IndexFunc_spot; exact elim_r (hR.symm.trans (hI.trans (by rw [hd]; exact cond_t h2 (rfl)))) rfl
        exact TE.ret [] (.int .i64 (k : Int)) ⟨by kernel_rfl, by kernel_rfl⟩ (by rw [e]; first | done | kernel_rfl)
      · refine TC.skip ?_
        refine TE.normal_block ?_
        refine TE.next ?_
        refine TC.region ?_
        refine TL.run 2 [] [(0, .slice A_s s.length c_s), (1, .func (.func 91) #[] #[.pointer (some a_c0), .pointer (some a_c1)]), (7, .int .i64 (s.length : Int)), (8, .int .i64 (w64 ((k : Int) + 1)))] rfl ⟨by kernel_rfl, by kernel_rfl⟩ ?_
        refine TL.done rfl ?_
        refine TE.rw 8 (.int .i64 (w64 ((k : Int) + 1))) (.int .i64 ((k + 1 : Nat) : Int)) (by kernel_rfl) (w64_cast k (by omega)) ?_
        exact TE.again (x := k) (k + 1) ⟨by omega, hI.trans (by subst hr1; rw [hd]; exact cond_f h2 (rfl))⟩ (by show s.length - (k + 1) < s.length - k; omega) (by kernel_rfl) (.slnil)
    · have hd : s.drop k = [] := List.drop_eq_nil_of_le (by have := of_decide_eq_false h1; first | omega | (simp at this; omega))
      refine TC.exit ?_
      refine TE.exit_then (TE.exit_then (TE.exit_same ?_))
      exact TE.cut () (hI.trans (by rw [hd]; exact rfl)) (by kernel_rfl) (.slnil)
  · intro _ hJ
    refine TE.next ?_
    refine TC.seq ?_
    refine TC.region ?_
    refine TL.run 1 [] [(4, .int .i64 (-1))] rfl ⟨by kernel_rfl, by kernel_rfl⟩ ?_
    refine TL.next rfl ?_
    refine TC.ret ?_
    have e : IndexFunc_spot s c0 c1 = (-1) := by unfold IndexFunc_spot; exact elim_l (hR.symm.trans hJ) (rfl)
    exact TE.ret [] (.int .i64 (-1)) ⟨by kernel_rfl, by kernel_rfl⟩ (by rw [e]; first | done | kernel_rfl)

def ContainsFunc_spot (s : List Spot) (c0 : Spot) (c1 : Int) : Bool :=
  let r1 := IndexFunc_spot s c0 c1
  decide (r1 ≥ 0)

set_option maxRecDepth 100000 in
theorem ContainsFunc_spot_w (A_s : Option Addr) (c_s : Nat) (s : List Spot) (a_c0 : Addr) (c0 : Spot) (a_c1 : Addr) (c1 : Int) (w : World) (h_s : Rd w 6 A_s (s.map Spot.c)) (hc_s : s.length ≤ c_s) (h_c0 : Rd w 6 (some a_c0) [Spot.c c0]) (h_c1 : Rd w 1 (some a_c1) [ic c1]) : Calls Try.prog 90 #[.slice A_s s.length c_s, .func (.func 91) #[] #[.pointer (some a_c0), .pointer (some a_c1)]] w (Ret w (.bool (ContainsFunc_spot s c0 c1))) := by
  have s_s := h_s.short; rw [List.length_map] at s_s
  refine calls_intro (vs := [.slice A_s s.length c_s, .func (.func 91) #[] #[.pointer (some a_c0), .pointer (some a_c1)]]) (w := w) Try.func90 rfl Try.ntmps90 rfl ?_
  refine TC.weak [(0, .slice A_s s.length c_s), (1, .func (.func 91) #[] #[.pointer (some a_c0), .pointer (some a_c1)])] (by kernel_rfl) ?_
  refine TC.seq ?_
  refine TC.region ?_
  refine TL.run 1 [] [(0, .slice A_s s.length c_s), (1, .func (.func 91) #[] #[.pointer (some a_c0), .pointer (some a_c1)])] rfl ⟨by kernel_rfl, by kernel_rfl⟩ ?_
  refine TL.next rfl ?_
  refine TC.seq ?_
  refine TC.region ?_
  refine TL.run 2 [] [(5, .slice A_s s.length c_s), (6, .func (.func 91) #[] #[.pointer (some a_c0), .pointer (some a_c1)])] rfl ⟨by kernel_rfl, by kernel_rfl⟩ ?_
  refine TL.call (some 7) [(7, .int .i64 (IndexFunc_spot s c0 c1))] (fun w hM => IndexFunc_spot_w A_s c_s s a_c0 c0 a_c1 c1 w (h_s.sat hM) hc_s (h_c0.sat hM) (h_c1.sat hM)) (by kernel_rfl) (by kernel_rfl) ?_
  generalize hr1 : IndexFunc_spot s c0 c1 = r1
  refine TL.run 5 [] [(4, .bool (decide (r1 ≥ 0)))] rfl ⟨by kernel_rfl, by kernel_rfl⟩ ?_
  refine TL.next rfl ?_
  refine TC.ret ?_
  have e : ContainsFunc_spot s c0 c1 = (decide (r1 ≥ 0)) := by subst hr1; unfold ContainsFunc_spot; exact rfl
  exact TE.ret [] (.bool (decide (r1 ≥ 0))) ⟨by kernel_rfl, by kernel_rfl⟩ (by rw [e]; first | done | kernel_rfl)

def fuse_Spots_L1 : List Spot → Nat → ((Unit) ⊕ (List Spot × Int))
  | [], _ => .inl ()
  | x :: xs, k => let r1 := radar_CheckSpot x
    cond (r1 != 0) (
      .inr ([], r1)) (
      fuse_Spots_L1 xs (k + 1))
def fuse_Spots_L2 (band : Int) : List Spot → Nat → (List Spot) → (List Spot)
  | [], _, out => out
  | x_2 :: xs, k_2, out => let r5 := ContainsFunc_spot out x_2 band
    cond (!r5) (
      fuse_Spots_L2 band xs (k_2 + 1) (out ++ ([x_2]))) (
      fuse_Spots_L2 band xs (k_2 + 1) out)
def fuse_Spots (l : List Spot) (band : Int) : List Spot × Int :=
  cond (decide ((l.length : Int) > 128)) (
    ([], 2)) (
    Sum.elim (fun _ =>
      let r2 := fuse_wrong band
      cond r2 (
        ([], 4)) (
        let r3 := slices_Clone_api_Spot_api_Spot l
        let r4 := isort ltS r3
        bindv (fuse_Spots_L2 band r4 0 ([] : List Spot)) (fun out_2 =>
          (out_2, 0)))) (fun r => r) (fuse_Spots_L1 l 0))

set_option maxHeartbeats 4000000 in
set_option maxRecDepth 100000 in
theorem fuse_Spots_w (A_l : Option Addr) (c_l : Nat) (l : List Spot) (band : Int) (w : World) (h_l : Rd w 6 A_l (l.map Spot.c)) (hc_l : l.length ≤ c_l) : Calls Try.prog 43 #[.slice A_l l.length c_l, .int .i64 band] w (RetM (Γ := (Option Addr × Nat)) (cx w) (fun g => .tuple #[.slice g.1 ((fuse_Spots l band).1.length) g.2, .int .i64 ((fuse_Spots l band).2)]) (fun g => [.inr (Own g.1 g.2 94 6 (((fuse_Spots l band).1).map Spot.c))])) := by
  have s_l := h_l.short; rw [List.length_map] at s_l
  refine calls_intro (vs := [.slice A_l l.length c_l, .int .i64 band]) (w := w) Try.func43 rfl Try.ntmps43 rfl ?_
  refine TC.weak [(0, .slice A_l l.length c_l), (1, .int .i64 band)] (by kernel_rfl) ?_
  refine TC.seq ?_
  refine TC.region ?_
  refine TL.write 0 (fun b1 => [(0, .slice A_l l.length c_l), (3, .pointer (some ⟨b1, 0, none⟩))]) (fun b1 => [.inl (b1, .cells #[.int .i64 band] 3 (0, 0))]) (fun b1 => ⟨by kernel_rfl, by kernel_rfl⟩) (fun b1 => ?_)
  refine TL.run 3 [] [(0, .slice A_l l.length c_l), (3, .pointer (some ⟨b1, 0, none⟩))] rfl ⟨by kernel_rfl, by kernel_rfl⟩ ?_
  refine TL.next rfl ?_
  refine TC.seq ?_
  refine TC.seq ?_
  refine TC.region ?_
  refine TL.run 3 [] [(0, .slice A_l l.length c_l), (3, .pointer (some ⟨b1, 0, none⟩)), (15, .bool (decide ((l.length : Int) > 128)))] rfl ⟨by kernel_rfl, by kernel_rfl⟩ ?_
  refine TL.next rfl ?_
  refine TC.cond (decide ((l.length : Int) > 128)) rfl (by kernel_rfl) (fun h1 => ?_) (fun h1 => ?_)
  · refine TC.seq ?_
    refine TC.region ?_
    refine TL.run 2 [] [(4, .slice none 0 0), (5, .int .i64 2)] rfl ⟨by kernel_rfl, by kernel_rfl⟩ ?_
    refine TL.next rfl ?_
    refine TC.ret ?_
    refine TE.ret_then ?_
    have e : fuse_Spots l band = ([], 2) := by unfold fuse_Spots; exact cond_t h1 (rfl)
    refine TE.conv [.inr (Own none 0 94 6 (([] : List Spot).map Spot.c)), .inl (b1, .cells #[.int .i64 band] 3 (0, 0))] (fun _ hM => hM.emptyrow none 94 6) ?_
    rw [e]
    exact TE.retM (.inl rfl) (none, 0) [] (.tuple #[.slice none 0 0, .int .i64 2]) ⟨by kernel_rfl, by kernel_rfl⟩ rfl (fun _ hM => hM.sub (.cons_cons _ (.cons _ (.slnil))))
  · refine TC.skip ?_
    refine TE.next ?_
    refine TC.seq ?_
    refine TC.seq ?_
    refine TC.region ?_
    refine TL.run 3 [] [(0, .slice A_l l.length c_l), (3, .pointer (some ⟨b1, 0, none⟩)), (16, .slice A_l l.length c_l), (17, .int .i64 (l.length : Int)), (18, .int .i64 0)] rfl ⟨by kernel_rfl, by kernel_rfl⟩ ?_
    refine TL.next rfl ?_
    refine TC.weak [(0, .slice A_l l.length c_l), (3, .pointer (some ⟨b1, 0, none⟩)), (16, .slice A_l l.length c_l), (17, .int .i64 (l.length : Int)), (18, .int .i64 0)] (by kernel_rfl) ?_
    obtain ⟨R2, hR⟩ : ∃ R, R = fuse_Spots_L1 l 0 := ⟨_, rfl⟩
    refine TC.cut (S := Unit) (fun (_ : Unit) => [(0, .slice A_l l.length c_l), (3, .pointer (some ⟨b1, 0, none⟩))]) (fun (_ : Unit) => [.inl (b1, .cells #[.int .i64 band] 3 (0, 0))]) (fun (_ : Unit) => R2 = .inl ()) ?_ ?_
    · refine TC.block ?_
      refine TC.loop (X := Nat) (fun k => [(0, .slice A_l l.length c_l), (3, .pointer (some ⟨b1, 0, none⟩)), (16, .slice A_l l.length c_l), (17, .int .i64 (l.length : Int)), (18, .int .i64 (k : Int))]) (fun k => [.inl (b1, .cells #[.int .i64 band] 3 (0, 0))]) (fun k => l.length - k) (fun k => k ≤ l.length ∧ R2 = fuse_Spots_L1 (l.drop k) k) ?_ 0 ⟨Nat.zero_le _, hR⟩
      rintro k ⟨hk, hI⟩
      refine TC.seq ?_
      refine TC.region ?_
      refine TL.run 1 [] [(0, .slice A_l l.length c_l), (3, .pointer (some ⟨b1, 0, none⟩)), (16, .slice A_l l.length c_l), (17, .int .i64 (l.length : Int)), (18, .int .i64 (k : Int)), (19, .bool (decide ((k : Int) < (l.length : Int))))] rfl ⟨by kernel_rfl, by kernel_rfl⟩ ?_
      refine TL.next rfl ?_
      refine TC.seq ?_
      refine TC.cond (decide ((k : Int) < (l.length : Int))) rfl (by kernel_rfl) (fun h2 => ?_) (fun h2 => ?_)
      · have hlt : k < l.length := by have := of_decide_eq_true h2; first | omega | (simp at this; omega)
        obtain ⟨x, hx⟩ : ∃ e_, l[k]? = some e_ := ⟨_, List.getElem?_eq_getElem hlt⟩
        have hd := drop_at hx
        refine TC.skip ?_
        refine TE.next ?_
        refine TC.seq ?_
        refine TC.block ?_
        refine TC.seq ?_
        refine TC.region ?_
        refine TL.val (sV (Instr.indexAt 90 (.slice A_l l.length c_l) (.int .i64 (k : Int)))) (some 20) (.pointer (some ((A_l.getD noAddr).add (k * 6)))) [(0, .slice A_l l.length c_l), (3, .pointer (some ⟨b1, 0, none⟩)), (16, .slice A_l l.length c_l), (17, .int .i64 (l.length : Int)), (18, .int .i64 (k : Int)), (20, .pointer (some ((A_l.getD noAddr).add (k * 6))))] (fun w hM => run_index (h_l.sat hM) (by simp) (by kernel_rfl) (by have q0_ := (dec_f h1); (try have e3_ : r3.length = l.length := (by rw [← hr3]; rfl)); first | omega | (rw [List.length_set]; omega) | (rw [w64_id (by omega)]; omega) | (dsimp only; omega) | (rw [List.length_drop]; omega) | (simp only [w64_eq]; omega) | exact (tm_in (by (first | (rw [w64_id (by omega)]; omega) | (simp only [w64_eq]; omega))) (by omega)).1 | exact (tm_in (by (first | (rw [w64_id (by omega)]; omega) | (simp only [w64_eq]; omega))) (by omega)).2.1 | exact (tm_in (by (first | (rw [w64_id (by omega)]; omega) | (simp only [w64_eq]; omega))) (by omega)).2.2 | (simp only [List.length_take] at *; omega) | (simp <;> omega)) (by have q0_ := (dec_f h1); (try have e3_ : r3.length = l.length := (by rw [← hr3]; rfl)); first | omega | (rw [List.length_set]; omega) | (rw [w64_id (by omega)]; omega) | (dsimp only; omega) | (rw [List.length_drop]; omega) | (simp only [w64_eq]; omega) | exact (tm_in (by (first | (rw [w64_id (by omega)]; omega) | (simp only [w64_eq]; omega))) (by omega)).1 | exact (tm_in (by (first | (rw [w64_id (by omega)]; omega) | (simp only [w64_eq]; omega))) (by omega)).2.1 | exact (tm_in (by (first | (rw [w64_id (by omega)]; omega) | (simp only [w64_eq]; omega))) (by omega)).2.2 | (simp only [List.length_take] at *; omega) | (simp <;> omega))) (by kernel_rfl) (by kernel_rfl) ?_
        refine TL.val (sV (Instr.loadAt 94 (.pointer (some ((A_l.getD noAddr).add (k * 6)))))) (some 21) (Spot.v x) [(0, .slice A_l l.length c_l), (3, .pointer (some ⟨b1, 0, none⟩)), (16, .slice A_l l.length c_l), (17, .int .i64 (l.length : Int)), (18, .int .i64 (k : Int)), (21, Spot.v x)] (fun w hM => run_load_agg (n := 6) (off := 0) (i := k) (Spot.v x) (h_l.sat hM) (map_at hx) (by kernel_rfl) (by kernel_rfl) (by kernel_rfl)) (by kernel_rfl) (by kernel_rfl) ?_
        refine TL.write 0 (fun b2 => [(0, .slice A_l l.length c_l), (3, .pointer (some ⟨b1, 0, none⟩)), (7, .pointer (some ⟨b2, 0, none⟩)), (16, .slice A_l l.length c_l), (17, .int .i64 (l.length : Int)), (18, .int .i64 (k : Int)), (21, Spot.v x)]) (fun b2 => [.inl (b2, .cells (Spot.c Spot.zero) 94 (0, 0)), .inl (b1, .cells #[.int .i64 band] 3 (0, 0))]) (fun b2 => ⟨by kernel_rfl, by kernel_rfl⟩) (fun b2 => ?_)
        refine TL.write 0 (fun _ => [(0, .slice A_l l.length c_l), (3, .pointer (some ⟨b1, 0, none⟩)), (7, .pointer (some ⟨b2, 0, none⟩)), (16, .slice A_l l.length c_l), (17, .int .i64 (l.length : Int)), (18, .int .i64 (k : Int))]) (fun _ => [.inl (b2, .cells (Spot.c x) 94 (0, 0)), .inl (b1, .cells #[.int .i64 band] 3 (0, 0))]) (fun _ => ⟨by kernel_rfl, by kernel_rfl⟩) (fun _ => ?_)
        refine TL.next rfl ?_
        refine TC.seq ?_
        refine TC.region ?_
        refine TL.run 1 [0] [(0, .slice A_l l.length c_l), (3, .pointer (some ⟨b1, 0, none⟩)), (16, .slice A_l l.length c_l), (17, .int .i64 (l.length : Int)), (18, .int .i64 (k : Int)), (22, Spot.v x)] rfl ⟨by kernel_rfl, by kernel_rfl⟩ ?_
        refine TL.call (some 23) [(0, .slice A_l l.length c_l), (3, .pointer (some ⟨b1, 0, none⟩)), (16, .slice A_l l.length c_l), (17, .int .i64 (l.length : Int)), (18, .int .i64 (k : Int)), (23, .int .i64 (radar_CheckSpot x))] (fun w _ => radar_CheckSpot_w x w) (by kernel_rfl) (by kernel_rfl) ?_
        generalize hr1 : radar_CheckSpot x = r1
        refine TL.run 3 [] [(0, .slice A_l l.length c_l), (3, .pointer (some ⟨b1, 0, none⟩)), (8, .int .i64 r1), (16, .slice A_l l.length c_l), (17, .int .i64 (l.length : Int)), (18, .int .i64 (k : Int))] rfl ⟨by kernel_rfl, by kernel_rfl⟩ ?_
        refine TL.next rfl ?_
        refine TC.seq ?_
        refine TC.region ?_
        refine TL.run 2 [] [(0, .slice A_l l.length c_l), (3, .pointer (some ⟨b1, 0, none⟩)), (8, .int .i64 r1), (16, .slice A_l l.length c_l), (17, .int .i64 (l.length : Int)), (18, .int .i64 (k : Int)), (25, .bool (r1 != 0))] rfl ⟨by kernel_rfl, by kernel_rfl⟩ ?_
        refine TL.next rfl ?_
        refine TC.cond (r1 != 0) rfl (by kernel_rfl) (fun h3 => ?_) (fun h3 => ?_)
        · refine TC.seq ?_
          refine TC.region ?_
          refine TL.run 3 [] [(4, .slice none 0 0), (5, .int .i64 r1)] rfl ⟨by kernel_rfl, by kernel_rfl⟩ ?_
          refine TL.next rfl ?_
          refine TC.ret ?_
          refine TE.ret_block (TE.ret_then (TE.ret_then (TE.ret_block (TE.ret_then (TE.ret_then ?_)))))
          have e : fuse_Spots l band = ([], r1) := by subst hr1; unfold fuse_Spots; exact cond_f h1 (elim_r (hR.symm.trans (hI.trans (by rw [hd]; exact cond_t h3 (rfl)))) rfl)
          refine TE.conv [.inr (Own none 0 94 6 (([] : List Spot).map Spot.c)), .inl (b2, .cells (Spot.c x) 94 (0, 0)), .inl (b1, .cells #[.int .i64 band] 3 (0, 0))] (fun _ hM => hM.emptyrow none 94 6) ?_
          rw [e]
          exact TE.retM (.inl rfl) (none, 0) [] (.tuple #[.slice none 0 0, .int .i64 r1]) ⟨by kernel_rfl, by kernel_rfl⟩ rfl (fun _ hM => hM.sub (.cons_cons _ (.cons _ (.cons _ (.slnil)))))
        · refine TC.skip ?_
          refine TE.normal_block ?_
          refine TE.next ?_
          refine TC.region ?_
          refine TL.run 2 [] [(0, .slice A_l l.length c_l), (3, .pointer (some ⟨b1, 0, none⟩)), (16, .slice A_l l.length c_l), (17, .int .i64 (l.length : Int)), (18, .int .i64 (w64 ((k : Int) + 1)))] rfl ⟨by kernel_rfl, by kernel_rfl⟩ ?_
          refine TL.done rfl ?_
          refine TE.rw 18 (.int .i64 (w64 ((k : Int) + 1))) (.int .i64 ((k + 1 : Nat) : Int)) (by kernel_rfl) (w64_cast k (by (try have e3_ : r3.length = l.length := (by rw [← hr3]; rfl)); omega)) ?_
          exact TE.again (x := k) (k + 1) ⟨by omega, hI.trans (by subst hr1; rw [hd]; exact cond_f h3 (rfl))⟩ (by show l.length - (k + 1) < l.length - k; omega) (by kernel_rfl) (.cons _ (.cons_cons _ (.slnil)))
      · have hd : l.drop k = [] := List.drop_eq_nil_of_le (by have := of_decide_eq_false h2; first | omega | (simp at this; omega))
        refine TC.exit ?_
        refine TE.exit_then (TE.exit_then (TE.exit_same ?_))
        exact TE.cut () (hI.trans (by rw [hd]; exact rfl)) (by kernel_rfl) (.cons_cons _ (.slnil))
    · intro _ hJ
      refine TE.next ?_
      refine TC.seq ?_
      refine TC.seq ?_
      refine TC.region ?_
      refine TL.run 1 [0] [(0, .slice A_l l.length c_l), (3, .pointer (some ⟨b1, 0, none⟩)), (28, .int .i64 band)] rfl ⟨by kernel_rfl, by kernel_rfl⟩ ?_
      refine TL.call (some 29) [(0, .slice A_l l.length c_l), (3, .pointer (some ⟨b1, 0, none⟩)), (29, .bool ((fuse_wrong band)))] (fun w _ => fuse_wrong_w band w) (by kernel_rfl) (by kernel_rfl) ?_
      generalize hr2 : fuse_wrong band = r2
      refine TL.next rfl ?_
      refine TC.cond r2 rfl (by kernel_rfl) (fun h4 => ?_) (fun h4 => ?_)
      · refine TC.seq ?_
        refine TC.region ?_
        refine TL.run 2 [] [(4, .slice none 0 0), (5, .int .i64 4)] rfl ⟨by kernel_rfl, by kernel_rfl⟩ ?_
        refine TL.next rfl ?_
        refine TC.ret ?_
        refine TE.ret_then ?_
        have e : fuse_Spots l band = ([], 4) := by subst hr2; unfold fuse_Spots; exact cond_f h1 (elim_l (hR.symm.trans hJ) (cond_t h4 (rfl)))
        refine TE.conv [.inr (Own none 0 94 6 (([] : List Spot).map Spot.c)), .inl (b1, .cells #[.int .i64 band] 3 (0, 0))] (fun _ hM => hM.emptyrow none 94 6) ?_
        rw [e]
        exact TE.retM (.inl rfl) (none, 0) [] (.tuple #[.slice none 0 0, .int .i64 4]) ⟨by kernel_rfl, by kernel_rfl⟩ rfl (fun _ hM => hM.sub (.cons_cons _ (.cons _ (.slnil))))
      · refine TC.skip ?_
        refine TE.next ?_
        refine TC.seq ?_
        refine TC.region ?_
        refine TL.run 1 [] [(3, .pointer (some ⟨b1, 0, none⟩)), (30, .slice A_l l.length c_l)] rfl ⟨by kernel_rfl, by kernel_rfl⟩ ?_
        refine TL.callN (Γ := (Option Addr × Nat)) (fun g => .slice g.1 ((slices_Clone_api_Spot_api_Spot l).length) g.2) (fun g => [.inr (Own g.1 g.2 94 6 ((slices_Clone_api_Spot_api_Spot l).map Spot.c))]) (fun g => [.inr (Own g.1 g.2 94 6 ((slices_Clone_api_Spot_api_Spot l).map Spot.c)), .inl (b1, .cells #[.int .i64 band] 3 (0, 0))]) (fun g => rfl) (some 31) (fun g => [(3, .pointer (some ⟨b1, 0, none⟩)), (31, .slice g.1 ((slices_Clone_api_Spot_api_Spot l).length) g.2)]) (fun w hM => slices_Clone_api_Spot_api_Spot_w A_l c_l l w (h_l.sat hM) hc_l (by have q0_ := (dec_f h1); (try have e3_ : r3.length = l.length := (by rw [← hr3]; rfl)); first | omega | (simp only [w64_eq]; omega) | (simp <;> omega))) (by kernel_rfl) (fun g => by kernel_rfl) ?_
        rintro ⟨A, c⟩
        generalize hr3 : slices_Clone_api_Spot_api_Spot l = r3
        refine TL.know (fun w hM => hM.short_at 0 rfl) (fun s_r3_0 => ?_)
        refine TL.run 3 [] [(3, .pointer (some ⟨b1, 0, none⟩)), (9, .slice A r3.length c)] rfl ⟨by kernel_rfl, by kernel_rfl⟩ ?_
        refine TL.next rfl ?_
        refine TC.seq ?_
        refine TC.region ?_
        refine TL.run 1 [] [(3, .pointer (some ⟨b1, 0, none⟩)), (9, .slice A r3.length c), (32, .slice A r3.length c)] rfl ⟨by kernel_rfl, by kernel_rfl⟩ ?_
        refine TL.callM (Γ := (List Spot)) (fun _ => .tuple #[]) (fun g => [.inr (Fact (g.length = r3.length ∧ g.Perm r3 ∧ Srt ltS Spot.zero 0 (g.length : Int) g)), .inr (Own A c 94 6 (g.map Spot.c))]) [.inr (Own A c 94 6 (r3.map Spot.c))] [.inl (b1, .cells #[.int .i64 band] 3 (0, 0))] (some 33) (fun _ => [(3, .pointer (some ⟨b1, 0, none⟩)), (9, .slice A r3.length c)]) (fun w hM => sortS_w A c r3 w hM.pass (by have q0_ := (dec_f h1); (try have e3_ : r3.length = l.length := (by rw [← hr3]; rfl)); first | omega | (simp only [w64_eq]; omega) | (simp <;> omega))) (by kernel_rfl) (fun g => by kernel_rfl) ?_
        rintro r4
        refine TL.conv [.inr (Fact (r4.length = r3.length ∧ r4.Perm r3 ∧ Srt ltS Spot.zero 0 (r4.length : Int) r4)), .inr (Own A c 94 6 (r4.map Spot.c)), .inl (b1, .cells #[.int .i64 band] 3 (0, 0))] (fun _ hM => hM) ?_
        refine TL.know (fun w hM => hM.fact_at 0 rfl) (fun hp_sortS => ?_)
        refine TL.forget [.inr (Own A c 94 6 (r4.map Spot.c)), .inl (b1, .cells #[.int .i64 band] 3 (0, 0))] (.cons _ (List.Sublist.refl _)) ?_
        have hl_r4 : r4.length = r3.length := hp_sortS.1
        refine TL.rw 9 (.slice A r3.length c) (.slice A r4.length c) (by kernel_rfl) (by rw [hl_r4]) ?_
        have hr4 : isort ltS r3 = r4 := (sort_one ordS (fun _ _ => triS) hp_sortS).symm
        refine TL.next rfl ?_
        refine TC.seq ?_
        refine TC.region ?_
        refine TL.run 1 [] [(3, .pointer (some ⟨b1, 0, none⟩)), (9, .slice A r4.length c), (10, .slice none 0 0)] rfl ⟨by kernel_rfl, by kernel_rfl⟩ ?_
        refine TL.next rfl ?_
        refine TC.seq ?_
        refine TC.seq ?_
        refine TC.region ?_
        refine TL.run 3 [] [(3, .pointer (some ⟨b1, 0, none⟩)), (10, .slice none 0 0), (34, .slice A r4.length c), (35, .int .i64 (r4.length : Int)), (36, .int .i64 0)] rfl ⟨by kernel_rfl, by kernel_rfl⟩ ?_
        refine TL.next rfl ?_
        refine TC.conv [.inr (Own none 0 94 6 (([] : List Spot).map Spot.c)), .inr (Own A c 94 6 (r4.map Spot.c)), .inl (b1, .cells #[.int .i64 band] 3 (0, 0))] (fun _ hM => hM.emptyrow none 94 6) ?_
        refine TC.weak [(3, .pointer (some ⟨b1, 0, none⟩)), (10, .slice none (([] : List Spot).length) 0), (34, .slice A r4.length c), (35, .int .i64 (r4.length : Int)), (36, .int .i64 0)] (by kernel_rfl) ?_
        obtain ⟨R6, hR_2⟩ : ∃ R, R = fuse_Spots_L2 band r4 0 ([] : List Spot) := ⟨_, rfl⟩
        refine TC.cut (S := (List Spot) × (Option Addr) × Nat) (fun (out_2, A_out_2, c_out_2) => [(10, .slice A_out_2 out_2.length c_out_2)]) (fun (out_2, A_out_2, c_out_2) => [.inr (Own A_out_2 c_out_2 94 6 (out_2.map Spot.c))]) (fun (out_2, A_out_2, c_out_2) => R6 = out_2 ∧ out_2.length ≤ r4.length) ?_ ?_
        · refine TC.block ?_
          refine TC.loop (X := Nat × (List Spot) × (Option Addr) × Nat) (fun (k_2, out, A_out, c_out) => [(3, .pointer (some ⟨b1, 0, none⟩)), (10, .slice A_out out.length c_out), (34, .slice A r4.length c), (35, .int .i64 (r4.length : Int)), (36, .int .i64 (k_2 : Int))]) (fun (k_2, out, A_out, c_out) => [.inr (Own A_out c_out 94 6 (out.map Spot.c)), .inr (Own A c 94 6 (r4.map Spot.c)), .inl (b1, .cells #[.int .i64 band] 3 (0, 0))]) (fun (k_2, out, A_out, c_out) => r4.length - k_2) (fun (k_2, out, A_out, c_out) => k_2 ≤ r4.length ∧ R6 = fuse_Spots_L2 band (r4.drop k_2) k_2 out ∧ out.length ≤ k_2) ?_ (0, ([] : List Spot), none, 0) ⟨Nat.zero_le _, hR_2, (by first | omega | (simp; omega) | simp)⟩
          rintro ⟨k_2, out, A_out, c_out⟩ ⟨hk_2, hI_2, hl_out⟩
          refine TC.seq ?_
          refine TC.region ?_
          refine TL.run 1 [] [(3, .pointer (some ⟨b1, 0, none⟩)), (10, .slice A_out out.length c_out), (34, .slice A r4.length c), (35, .int .i64 (r4.length : Int)), (36, .int .i64 (k_2 : Int)), (37, .bool (decide ((k_2 : Int) < (r4.length : Int))))] rfl ⟨by kernel_rfl, by kernel_rfl⟩ ?_
          refine TL.next rfl ?_
          refine TC.seq ?_
          refine TC.cond (decide ((k_2 : Int) < (r4.length : Int))) rfl (by kernel_rfl) (fun h5 => ?_) (fun h5 => ?_)
          · have hlt_2 : k_2 < r4.length := by have := of_decide_eq_true h5; first | omega | (simp at this; omega)
            obtain ⟨x_2, hx_2⟩ : ∃ e_, r4[k_2]? = some e_ := ⟨_, List.getElem?_eq_getElem hlt_2⟩
            have hd_2 := drop_at hx_2
            refine TC.skip ?_
            refine TE.next ?_
            refine TC.seq ?_
            refine TC.block ?_
            refine TC.seq ?_
            refine TC.region ?_
            refine TL.val (sV (Instr.indexAt 90 (.slice A r4.length c) (.int .i64 (k_2 : Int)))) (some 38) (.pointer (some ((A.getD noAddr).add (k_2 * 6)))) [(3, .pointer (some ⟨b1, 0, none⟩)), (10, .slice A_out out.length c_out), (34, .slice A r4.length c), (35, .int .i64 (r4.length : Int)), (36, .int .i64 (k_2 : Int)), (38, .pointer (some ((A.getD noAddr).add (k_2 * 6))))] (fun w hM => run_index (hM.rd_at 1 rfl) (by simp) (by kernel_rfl) (by have q0_ := (dec_f h1); (try have e3_ : r3.length = l.length := (by rw [← hr3]; rfl)); first | omega | (rw [List.length_set]; omega) | (rw [w64_id (by omega)]; omega) | (dsimp only; omega) | (rw [List.length_drop]; omega) | (simp only [w64_eq]; omega) | exact (tm_in (by (first | (rw [w64_id (by omega)]; omega) | (simp only [w64_eq]; omega))) (by omega)).1 | exact (tm_in (by (first | (rw [w64_id (by omega)]; omega) | (simp only [w64_eq]; omega))) (by omega)).2.1 | exact (tm_in (by (first | (rw [w64_id (by omega)]; omega) | (simp only [w64_eq]; omega))) (by omega)).2.2 | (simp only [List.length_take] at *; omega) | (simp <;> omega)) (by have q0_ := (dec_f h1); (try have e3_ : r3.length = l.length := (by rw [← hr3]; rfl)); first | omega | (rw [List.length_set]; omega) | (rw [w64_id (by omega)]; omega) | (dsimp only; omega) | (rw [List.length_drop]; omega) | (simp only [w64_eq]; omega) | exact (tm_in (by (first | (rw [w64_id (by omega)]; omega) | (simp only [w64_eq]; omega))) (by omega)).1 | exact (tm_in (by (first | (rw [w64_id (by omega)]; omega) | (simp only [w64_eq]; omega))) (by omega)).2.1 | exact (tm_in (by (first | (rw [w64_id (by omega)]; omega) | (simp only [w64_eq]; omega))) (by omega)).2.2 | (simp only [List.length_take] at *; omega) | (simp <;> omega))) (by kernel_rfl) (by kernel_rfl) ?_
            refine TL.val (sV (Instr.loadAt 94 (.pointer (some ((A.getD noAddr).add (k_2 * 6)))))) (some 39) (Spot.v x_2) [(3, .pointer (some ⟨b1, 0, none⟩)), (10, .slice A_out out.length c_out), (34, .slice A r4.length c), (35, .int .i64 (r4.length : Int)), (36, .int .i64 (k_2 : Int)), (39, Spot.v x_2)] (fun w hM => run_load_agg (n := 6) (off := 0) (i := k_2) (Spot.v x_2) (hM.rd_at 1 rfl) (map_at hx_2) (by kernel_rfl) (by kernel_rfl) (by kernel_rfl)) (by kernel_rfl) (by kernel_rfl) ?_
            refine TL.write 0 (fun b3 => [(3, .pointer (some ⟨b1, 0, none⟩)), (10, .slice A_out out.length c_out), (12, .pointer (some ⟨b3, 0, none⟩)), (34, .slice A r4.length c), (35, .int .i64 (r4.length : Int)), (36, .int .i64 (k_2 : Int)), (39, Spot.v x_2)]) (fun b3 => [.inl (b3, .cells (Spot.c Spot.zero) 94 (0, 0)), .inr (Own A_out c_out 94 6 (out.map Spot.c)), .inr (Own A c 94 6 (r4.map Spot.c)), .inl (b1, .cells #[.int .i64 band] 3 (0, 0))]) (fun b3 => ⟨by kernel_rfl, by kernel_rfl⟩) (fun b3 => ?_)
            refine TL.write 0 (fun _ => [(3, .pointer (some ⟨b1, 0, none⟩)), (10, .slice A_out out.length c_out), (12, .pointer (some ⟨b3, 0, none⟩)), (34, .slice A r4.length c), (35, .int .i64 (r4.length : Int)), (36, .int .i64 (k_2 : Int))]) (fun _ => [.inl (b3, .cells (Spot.c x_2) 94 (0, 0)), .inr (Own A_out c_out 94 6 (out.map Spot.c)), .inr (Own A c 94 6 (r4.map Spot.c)), .inl (b1, .cells #[.int .i64 band] 3 (0, 0))]) (fun _ => ⟨by kernel_rfl, by kernel_rfl⟩) (fun _ => ?_)
            refine TL.next rfl ?_
            refine TC.seq ?_
            refine TC.region ?_
            refine TL.run 2 [] [(3, .pointer (some ⟨b1, 0, none⟩)), (10, .slice A_out out.length c_out), (12, .pointer (some ⟨b3, 0, none⟩)), (34, .slice A r4.length c), (35, .int .i64 (r4.length : Int)), (36, .int .i64 (k_2 : Int)), (40, .slice A_out out.length c_out), (41, .func (.func 91) #[] #[.pointer (some ⟨b3, 0, none⟩), .pointer (some ⟨b1, 0, none⟩)])] rfl ⟨by kernel_rfl, by kernel_rfl⟩ ?_
            refine TL.call (some 42) [(3, .pointer (some ⟨b1, 0, none⟩)), (10, .slice A_out out.length c_out), (12, .pointer (some ⟨b3, 0, none⟩)), (34, .slice A r4.length c), (35, .int .i64 (r4.length : Int)), (36, .int .i64 (k_2 : Int)), (42, .bool ((ContainsFunc_spot out x_2 band)))] (fun w hM => ContainsFunc_spot_w A_out c_out out ⟨b3, 0, none⟩ x_2 ⟨b1, 0, none⟩ band w (hM.rd_at 1 rfl) (hM.le_at 1 rfl) (Rd.lit hM 0 _ rfl (by kernel_rfl) (by kernel_rfl) (by kernel_rfl)) (Rd.lit hM 3 _ rfl (by kernel_rfl) (by kernel_rfl) (by kernel_rfl))) (by kernel_rfl) (by kernel_rfl) ?_
            generalize hr5 : ContainsFunc_spot out x_2 band = r5
            refine TL.run 4 [] [(3, .pointer (some ⟨b1, 0, none⟩)), (10, .slice A_out out.length c_out), (12, .pointer (some ⟨b3, 0, none⟩)), (34, .slice A r4.length c), (35, .int .i64 (r4.length : Int)), (36, .int .i64 (k_2 : Int)), (43, .bool (!r5))] rfl ⟨by kernel_rfl, by kernel_rfl⟩ ?_
            refine TL.next rfl ?_
            refine TC.cond (!r5) rfl (by kernel_rfl) (fun h6 => ?_) (fun h6 => ?_)
            · refine TC.region ?_
              refine TL.run 2 [0] [(3, .pointer (some ⟨b1, 0, none⟩)), (34, .slice A r4.length c), (35, .int .i64 (r4.length : Int)), (36, .int .i64 (k_2 : Int)), (44, .slice A_out out.length c_out), (45, Spot.v x_2)] rfl ⟨by kernel_rfl, by kernel_rfl⟩ ?_
              refine TL.write 0 (fun b4 => [(3, .pointer (some ⟨b1, 0, none⟩)), (34, .slice A r4.length c), (35, .int .i64 (r4.length : Int)), (36, .int .i64 (k_2 : Int)), (44, .slice A_out out.length c_out), (46, .slice (some ⟨b4, 0, none⟩) 1 1)]) (fun b4 => [.inl (b4, .cells (Spot.c x_2) 94 (0, 0)), .inl (b3, .cells (Spot.c x_2) 94 (0, 0)), .inr (Own A_out c_out 94 6 (out.map Spot.c)), .inr (Own A c 94 6 (r4.map Spot.c)), .inl (b1, .cells #[.int .i64 band] 3 (0, 0))]) (fun b4 => ⟨by kernel_rfl, by kernel_rfl⟩) (fun b4 => ?_)
              refine TL.opM (Γ := Option Addr × Nat) (sV (Builtin.append_ #[90, 90] 90 #[.slice A_out out.length c_out, .slice (some ⟨b4, 0, none⟩) 1 1])) (some 47) (fun g => .slice g.1 (out ++ ([x_2])).length g.2) (fun g => [.inl (b4, .cells (Spot.c x_2) 94 (0, 0)), .inl (b3, .cells (Spot.c x_2) 94 (0, 0)), .inr (Own g.1 g.2 94 6 ((out ++ ([x_2])).map Spot.c)), .inr (Own A c 94 6 (r4.map Spot.c)), .inl (b1, .cells #[.int .i64 band] 3 (0, 0))]) (fun g => [(3, .pointer (some ⟨b1, 0, none⟩)), (34, .slice A r4.length c), (35, .int .i64 (r4.length : Int)), (36, .int .i64 (k_2 : Int)), (47, .slice g.1 ((out ++ ([x_2])).length) g.2)]) (app_at (bytes := 48) 90 2 ([x_2]) (by kernel_rfl) rfl rfl Spot.one rfl (fun w hM => (Rd.lit hM 0 _ rfl (by kernel_rfl) (by kernel_rfl) (by kernel_rfl))) rfl (by have q0_ := (dec_f h1); (try have e3_ : r3.length = l.length := (by rw [← hr3]; rfl)); first | omega | (simp <;> omega) | (simp at * <;> omega))) (by kernel_rfl) (fun g => by kernel_rfl) ?_
              rintro ⟨A_2, c_2⟩
              refine TL.run 5 [] [(3, .pointer (some ⟨b1, 0, none⟩)), (10, .slice A_2 ((out ++ ([x_2])).length) c_2), (34, .slice A r4.length c), (35, .int .i64 (r4.length : Int)), (36, .int .i64 (k_2 : Int))] rfl ⟨by kernel_rfl, by kernel_rfl⟩ ?_
              refine TL.done rfl ?_
              refine TE.normal_block ?_
              refine TE.next ?_
              refine TC.region ?_
              refine TL.run 2 [] [(3, .pointer (some ⟨b1, 0, none⟩)), (10, .slice A_2 ((out ++ ([x_2])).length) c_2), (34, .slice A r4.length c), (35, .int .i64 (r4.length : Int)), (36, .int .i64 (w64 ((k_2 : Int) + 1)))] rfl ⟨by kernel_rfl, by kernel_rfl⟩ ?_
              refine TL.done rfl ?_
              refine TE.rw 36 (.int .i64 (w64 ((k_2 : Int) + 1))) (.int .i64 ((k_2 + 1 : Nat) : Int)) (by kernel_rfl) (w64_cast k_2 (by (try have e3_ : r3.length = l.length := (by rw [← hr3]; rfl)); omega)) ?_
              exact TE.again (x := (k_2, out, A_out, c_out)) (k_2 + 1, (out ++ ([x_2])), A_2, c_2) ⟨by omega, hI_2.trans (by subst hr2 hr3 hr4 hr5; rw [hd_2]; exact cond_t h6 (rfl)), (by have q0_ := (dec_f h1); (try have e3_ : r3.length = l.length := (by rw [← hr3]; rfl)); first | omega | (simp <;> omega) | (simp at * <;> omega) | (simp only [w64_eq] at *; omega) | (simp only [List.length_append, List.length_cons, List.length_nil]; omega))⟩ (by show r4.length - (k_2 + 1) < r4.length - k_2; omega) (by kernel_rfl) (.cons _ (.cons _ (.cons_cons _ (.cons_cons _ (.cons_cons _ (.slnil))))))
            · refine TC.skip ?_
              refine TE.normal_block ?_
              refine TE.next ?_
              refine TC.region ?_
              refine TL.run 2 [] [(3, .pointer (some ⟨b1, 0, none⟩)), (10, .slice A_out out.length c_out), (34, .slice A r4.length c), (35, .int .i64 (r4.length : Int)), (36, .int .i64 (w64 ((k_2 : Int) + 1)))] rfl ⟨by kernel_rfl, by kernel_rfl⟩ ?_
              refine TL.done rfl ?_
              refine TE.rw 36 (.int .i64 (w64 ((k_2 : Int) + 1))) (.int .i64 ((k_2 + 1 : Nat) : Int)) (by kernel_rfl) (w64_cast k_2 (by (try have e3_ : r3.length = l.length := (by rw [← hr3]; rfl)); omega)) ?_
              exact TE.again (x := (k_2, out, A_out, c_out)) (k_2 + 1, out, A_out, c_out) ⟨by omega, hI_2.trans (by subst hr2 hr3 hr4 hr5; rw [hd_2]; exact cond_f h6 (rfl)), (by have q0_ := (dec_f h1); (try have e3_ : r3.length = l.length := (by rw [← hr3]; rfl)); first | omega | (simp <;> omega) | (simp at * <;> omega) | (simp only [w64_eq] at *; omega) | (simp only [List.length_append, List.length_cons, List.length_nil]; omega))⟩ (by show r4.length - (k_2 + 1) < r4.length - k_2; omega) (by kernel_rfl) (.cons _ (.cons_cons _ (.cons_cons _ (.cons_cons _ (.slnil)))))
          · have hd_2 : r4.drop k_2 = [] := List.drop_eq_nil_of_le (by have := of_decide_eq_false h5; first | omega | (simp at this; omega))
            refine TC.exit ?_
            refine TE.exit_then (TE.exit_then (TE.exit_same ?_))
            exact TE.cut (out, A_out, c_out) (⟨hI_2.trans (by subst hr2 hr3 hr4; rw [hd_2]; exact rfl), (by have q0_ := (dec_f h1); (try have e3_ : r3.length = l.length := (by rw [← hr3]; rfl)); first | omega | (simp <;> omega) | (simp at * <;> omega) | (simp only [w64_eq] at *; omega) | (simp only [List.length_append, List.length_cons, List.length_nil]; omega))⟩) (by kernel_rfl) (.cons_cons _ (.cons _ (.cons _ (.slnil))))
        · rintro ⟨out_2, A_out_2, c_out_2⟩ ⟨hJ_2, hl_out_2⟩
          refine TE.next ?_
          refine TC.seq ?_
          refine TC.region ?_
          refine TL.run 3 [] [(4, .slice A_out_2 out_2.length c_out_2), (5, .int .i64 0)] rfl ⟨by kernel_rfl, by kernel_rfl⟩ ?_
          refine TL.next rfl ?_
          refine TC.ret ?_
          have e : fuse_Spots l band = (out_2, 0) := by subst hr2 hr3 hr4; unfold fuse_Spots; exact cond_f h1 (elim_l (hR.symm.trans hJ) (cond_f h4 (bindv_eq (hR_2.symm.trans hJ_2) (rfl))))
          rw [e]
          exact TE.retM (.inl rfl) (A_out_2, c_out_2) [] (.tuple #[.slice A_out_2 out_2.length c_out_2, .int .i64 0]) ⟨by kernel_rfl, by kernel_rfl⟩ rfl (fun _ hM => hM.sub (.cons_cons _ (.slnil)))

end Go.Sky
