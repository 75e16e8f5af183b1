/- Functions of the program, each with the Lean function that it computes. Conditions: none. -/
import Derived.Test.YtehhgjhileappaaTb
import Derived.Test.YtehhgjhileappaaPlanB
namespace Go.Sky
open Go Go.Eng Go.Proofs
def fuse_alike (a : Spot) (b_ : Spot) (band : Int) : Bool :=
  cond (((a.Time == b_.Time) && (a.Code == b_.Code)) && (a.Code != (-1))) (
    let r1 := plane_Within a.At b_.At (w64 (a.Error + b_.Error))
    cond r1 (
      let r2 := fuse_near a.Height b_.Height band
      r2) (
      false)) (
    false)

set_option maxRecDepth 100000 in
theorem fuse_alike_w (a : Spot) (b_ : Spot) (band : Int) (w : World) : Calls Try.prog 46 #[Spot.v a, Spot.v b_, .int .i64 band] w (Ret w (.bool (fuse_alike a b_ band))) := by
  refine calls_intro (vs := [Spot.v a, Spot.v b_, .i band]) (w := w) Try.func46 rfl Try.ntmps46 rfl (TC.weak [(0, Spot.v a), (1, Spot.v b_), (2, .i band)] Kr (TC.seq (TC.region (TL.nw 3 (fun b1 => .p0 b1) (fun b1 => Bk b1 (Spot.c a) 36) (fun b1 => {}) (fun b1 => TL.nw 4 (fun b2 => .p0 b2) (fun b2 => Bk b2 (Spot.c b_) 36) (fun b2 => {}) (fun b2 => TL.r 3 [] [(6, .b false)] {} (TL.next rfl (TC.seq (TC.region (TL.r 6 [1, 0] [(12, .b (a.Time == b_.Time))] {} (TL.j 12 (a.Time == b_.Time) 12 [1, 0] [] (fun β => [(18, .b (β && (a.Code == b_.Code)))]) Kr {} {} (TL.r 13 [] [(19, .b ((a.Time == b_.Time) && (a.Code == b_.Code)))] {} (TL.j 19 ((a.Time == b_.Time) && (a.Code == b_.Code)) 17 [1] [] (fun β => [(23, .b (β && (a.Code != (-1))))]) Kr {} {} (TL.r 18 [] [(24, .b (((a.Time == b_.Time) && (a.Code == b_.Code)) && (a.Code != (-1))))] {} (TL.split 24 (((a.Time == b_.Time) && (a.Code == b_.Code)) && (a.Code != (-1))) Kr (fun h1 => ?_) (fun h1 => ?_))))))))))))))))
  · refine TL.r 27 [1, 0, 1, 0] [(26, P.v a.At), (28, P.v b_.At), (33, .i (w64 (a.Error + b_.Error)))] {} (TL.c 34 (plane_Within a.At b_.At (w64 (a.Error + b_.Error))) (fun r1 => .b r1) (fun w _ => plane_Within_w a.At b_.At (w64 (a.Error + b_.Error)) w) {} (fun r1 hr1 => TL.r 30 [] [(36, .b r1)] {} (TL.split 36 r1 Kr (fun h2 => ?_) (fun h2 => ?_))))
    · refine TL.r 35 [1, 0] [(38, .i a.Height), (40, .i b_.Height), (41, .i band)] {} (TL.c 42 (fuse_near a.Height b_.Height band) (fun r2 => .b r2) (fun w _ => fuse_near_w a.Height b_.Height band w) {} (fun r2 hr2 => TL.r 38 [] [(6, .b r2)] {} (TL.next rfl (TC.ret ?_))))
      have e : fuse_alike a b_ band = r2 := by subst hr1 hr2; unfold fuse_alike; exact cond_t h1 (cond_t h2 (rfl))
      exact TE.ret [] (.b r2) {} (by rw [e]; first | done | kernel_rfl)
    · refine TL.r 38 [] [(6, .b false)] {} (TL.next rfl (TC.ret ?_))
      have e : fuse_alike a b_ band = false := by subst hr1; unfold fuse_alike; exact cond_t h1 (cond_f h2 (rfl))
      exact TE.ret [] (.b false) {} (by rw [e]; first | done | kernel_rfl)
  · refine TL.r 38 [] [(6, .b false)] {} (TL.next rfl (TC.ret ?_))
    have e : fuse_alike a b_ band = false := by unfold fuse_alike; exact cond_f h1 (rfl)
    exact TE.ret [] (.b false) {} (by rw [e]; first | done | kernel_rfl)

def slices_Clone_api_Spot_api_Spot (s : List Spot) : List Spot :=
  s

set_option maxRecDepth 100000 in
theorem slices_Clone_api_Spot_api_Spot_w (A_s : Option Addr) (c_s : Nat) (s : List Spot) (w : World) (h_s : Rd w 6 A_s (s.map Spot.c)) (_hc_s : s.length ≤ c_s) (hb : s.length * 48 ≤ 140737488355328) : Calls Try.prog 10 #[.slice A_s s.length c_s] w (RetM (Γ := (Option Addr × Nat)) (cx w) (fun g => .slice g.1 ((slices_Clone_api_Spot_api_Spot s).length) g.2) (fun g => [.inr (Own g.1 g.2 36 6 ((slices_Clone_api_Spot_api_Spot s).map Spot.c))])) := by
  have s_s := h_s.short; rw [List.length_map] at s_s
  rcases A_s with _ | a
  · have hz : s = [] := nil_of_none h_s
    subst hz
    refine calls_intro (vs := [.slice none 0 c_s]) (w := w) Try.func10 rfl Try.ntmps10 rfl (TC.weak [(0, .slice none 0 c_s)] Kr (TC.seq (TC.region (TL.r 1 [] [(2, .slice none 0 0)] {} (TL.next rfl (TC.seq (TC.seq (TC.region (TL.r 2 [] [(4, .b true)] {} (TL.next rfl (TC.condT rfl Kr (TC.seq (TC.region (TL.r 1 [] [(2, .slice none 0 0)] {} (TL.next rfl (TC.ret (TE.ret_then ?_)))))))))))))))))
    have e : slices_Clone_api_Spot_api_Spot [] = ([]) := rfl
    refine TE.conv [Ow none 0 36 6 (([] : List Spot).map Spot.c)] (fun _ hM => hM.emptyrow none 36 6) ?_
    rw [e]
    exact TE.retM (.inl rfl) (none, 0) [] (.slice none 0 0) {} rfl (fun _ hM => hM.sub (.cons_cons _ (.slnil)))
  · refine calls_intro (vs := [.slice (some a) s.length c_s]) (w := w) Try.func10 rfl Try.ntmps10 rfl (TC.weak [(0, .slice (some a) s.length c_s)] Kr (TC.seq (TC.region (TL.r 1 [] [(2, .slice none 0 0)] {} (TL.next rfl (TC.seq (TC.seq (TC.region (TL.r 2 [] [(4, .b false)] {} (TL.next rfl (TC.condF rfl Kr (TC.skip (TE.next (TC.seq (TC.region (TL.nw 5 (fun b1 => .slice (Pa b1) 0 0) (fun b1 => Bk b1 #[] 36) (fun b1 => {}) (fun b1 => TL.r 2 [] [(6, .slice (some a) s.length c_s)] {} (TL.conv [Ow (Pa b1) 0 36 6 (([] : List Spot).map Spot.c)] (fun _ hM => by exact hM.litrow 0 (([] : List Spot).map Spot.c) rfl Kr Kr Kr Kr) (TL.os (Γ := AN) (sV (Builtin.append_ #[32, 32] 32 #[.slice (Pa b1) (([] : List Spot).length) 0, .slice (some a) s.length c_s])) 7 (fun g => .slice g.1 (([] : List Spot) ++ s).length g.2) 0 (fun g => Ow g.1 g.2 36 6 ((([] : List Spot) ++ s).map Spot.c)) (app_at (bytes := 48) 32 0 s Kr rfl rfl Spot.one rfl (fun w hM => (h_s.sat hM)) rfl (by first | omega | (simp <;> omega) | (simp at * <;> omega))) {} ?_)))))))))))))))))))
    rintro ⟨A, c⟩
    refine TL.r 4 [] [(2, .slice A ((([] : List Spot) ++ s).length) c)] {} (TL.next rfl (TC.ret ?_))
    have e : slices_Clone_api_Spot_api_Spot s = (([] : List Spot) ++ s) := rfl
    rw [e]
    exact TE.retM (.inl rfl) (A, c) [] (.slice A ((([] : List Spot) ++ s).length) c) {} rfl (fun _ hM => hM.sub (.cons_cons _ (.slnil)))

def fuse_Spots_1 (x : Spot) (x_2 : Spot) (x_3 : Int) : Bool :=
  let r1 := fuse_alike x x_2 x_3
  r1

set_option maxRecDepth 100000 in
theorem fuse_Spots_1_w (x : Spot) (a_x_2 : Addr) (x_2 : Spot) (a_x_3 : Addr) (x_3 : Int) (w : World) (h_x_2 : Rd w 6 (some a_x_2) [Spot.c x_2]) (h_x_3 : Rd w 1 (some a_x_3) [ic x_3]) : Calls Try.prog 45 #[Spot.v x, .pointer (some a_x_2), .pointer (some a_x_3)] w (Ret w (.bool (fuse_Spots_1 x x_2 x_3))) := by
  refine calls_intro (vs := [Spot.v x, .pointer (some a_x_2), .pointer (some a_x_3)]) (w := w) Try.func45 rfl Try.ntmps45 rfl (TC.weak [(0, Spot.v x), (1, .pointer (some a_x_2)), (2, .pointer (some a_x_3))] Kr (TC.seq (TC.region (TL.nw 3 (fun b1 => .p0 b1) (fun b1 => Bk b1 (Spot.c x) 36) (fun b1 => {}) (fun b1 => TL.r 2 [] [(4, .b false)] {} (TL.next rfl (TC.seq (TC.region (TL.r 1 [0] [(5, Spot.v x)] {} (TL.v (sV (Instr.loadAt 36 (.pointer (some a_x_2)))) 6 (Spot.v x_2) (fun w hM => run_load_agg (n := 6) (off := 0) (Spot.v x_2) (h_x_2.sat hM) (rows_one _) Kr Kr Kr) {} (TL.v (sV (Instr.loadAt 3 (.pointer (some a_x_3)))) 7 (.i x_3) (fun w hM => run_load_one (off := 0) (.i x_3) (h_x_3.sat hM) (rows_one _) Kr Kr) {} (TL.c 8 (fuse_alike x x_2 x_3) (fun r1 => .b r1) (fun w _ => fuse_alike_w x x_2 x_3 w) {} (fun r1 hr1 => TL.r 5 [] [(4, .b r1)] {} (TL.next rfl (TC.ret ?_)))))))))))))))
  have e : fuse_Spots_1 x x_2 x_3 = r1 := by subst hr1; unfold fuse_Spots_1; exact rfl
  exact TE.ret [] (.b r1) {} (by rw [e]; first | done | kernel_rfl)

def IndexFunc_spot_L1 (c0 : Spot) (c1 : Int) : List Spot → Nat → ((Unit) ⊕ (Int))
  | [], _ => .inl ()
  | x :: xs, k => let r1 := fuse_Spots_1 x c0 c1
    cond r1 (
      .inr (k : Int)) (
      IndexFunc_spot_L1 c0 c1 xs (k + 1))
def IndexFunc_spot (s : List Spot) (c0 : Spot) (c1 : Int) : Int :=
  Sum.elim (fun _ =>
    (-1)) (fun r => r) (IndexFunc_spot_L1 c0 c1 s 0)

set_option maxRecDepth 100000 in
theorem IndexFunc_spot_w (A_s : Option Addr) (c_s : Nat) (s : List Spot) (a_c0 : Addr) (c0 : Spot) (a_c1 : Addr) (c1 : Int) (w : World) (h_s : Rd w 6 A_s (s.map Spot.c)) (_hc_s : s.length ≤ c_s) (h_c0 : Rd w 6 (some a_c0) [Spot.c c0]) (h_c1 : Rd w 1 (some a_c1) [ic c1]) : Calls Try.prog 69 #[.slice A_s s.length c_s, .func (.func 45) #[] #[.pointer (some a_c0), .pointer (some a_c1)]] w (Ret w (.int .i64 (IndexFunc_spot s c0 c1))) := by
  have s_s := h_s.short; rw [List.length_map] at s_s
  refine calls_intro (vs := [.slice A_s s.length c_s, .func (.func 45) #[] #[.pointer (some a_c0), .pointer (some a_c1)]]) (w := w) Try.func69 rfl Try.ntmps69 rfl (TC.weak [(0, .slice A_s s.length c_s), (1, .func (.func 45) #[] #[.pointer (some a_c0), .pointer (some a_c1)])] Kr (TC.seq (TC.region (TL.r 1 [] [(4, .i 0)] {} (TL.next rfl (TC.seq (TC.seq (TC.region (TL.r 3 [] [(7, .i (s.length : Int)), (8, .i 0)] {} (TL.next rfl (TC.weak [(0, .slice A_s s.length c_s), (1, .func (.func 45) #[] #[.pointer (some a_c0), .pointer (some a_c1)]), (7, .i (s.length : Int)), (8, .i 0)] Kr ?_)))))))))))
  obtain ⟨R1, hR⟩ : ∃ R, R = IndexFunc_spot_L1 c0 c1 s 0 := ⟨_, rfl⟩
  refine TC.cut (S := Unit) (fun (_ : Unit) => []) (fun (_ : Unit) => []) (fun (_ : Unit) => R1 = .inl ()) ?_ ?_
  · refine TC.block (TC.loop (X := Nat) (fun k => [(0, .slice A_s s.length c_s), (1, .func (.func 45) #[] #[.pointer (some a_c0), .pointer (some a_c1)]), (7, .i (s.length : Int)), (8, .i (k : Int))]) (fun k => []) (fun k => s.length - k) (fun k => k ≤ s.length ∧ R1 = IndexFunc_spot_L1 c0 c1 (s.drop k) k) ?_ 0 ⟨Nat.zero_le _, hR⟩)
    rintro k ⟨hk, hI⟩
    refine TC.seq (TC.region (TL.r 1 [] [(9, .b (decide ((k : Int) < (s.length : Int))))] {} (TL.next rfl (TC.seq (TC.cond (decide ((k : Int) < (s.length : Int))) rfl Kr (fun h1 => ?_) (fun h1 => ?_))))))
    · have hlt : k < s.length := by have := of_decide_eq_true h1; first | omega | (simp at this; omega)
      obtain ⟨x, hx⟩ : ∃ e_, s[k]? = some e_ := ⟨_, List.getElem?_eq_getElem hlt⟩
      have hd := drop_at hx
      refine TC.skip (TE.next (TC.seq (TC.block (TC.seq (TC.region (TL.r 2 [] [(5, .i (k : Int))] {} (TL.next rfl (TC.seq (TC.region (TL.r 3 [] [(11, .func (.func 45) #[] #[.pointer (some a_c0), .pointer (some a_c1)]), (12, .slice A_s s.length c_s), (13, .i (k : Int))] {} (TL.v (sV (Instr.indexAt 32 (.slice A_s s.length c_s) (.i (k : Int)))) 14 (.pointer (some (Ix A_s (k * 6)))) (fun w hM => run_index (h_s.sat hM) (by simp) Kr (by exact sd) (by exact sd)) {} (TL.v (sV (Instr.loadAt 36 (.pointer (some (Ix A_s (k * 6)))))) 15 (Spot.v x) (fun w hM => run_load_agg (n := 6) (off := 0) (i := k) (Spot.v x) (h_s.sat hM) (map_at hx) Kr Kr Kr) {} (TL.c 16 (fuse_Spots_1 x c0 c1) (fun r1 => .b r1) (fun w hM => fuse_Spots_1_w x a_c0 c0 a_c1 c1 w (h_c0.sat hM) (h_c1.sat hM)) {} (fun r1 hr1 => TL.next rfl (TC.cond r1 rfl Kr (fun h2 => ?_) (fun h2 => ?_))))))))))))))))
      · refine TC.seq (TC.region (TL.r 2 [] [(4, .i (k : Int))] {} (TL.next rfl (TC.ret (TE.ret_block (TE.ret_then (TE.ret_then (TE.ret_block (TE.ret_then (TE.ret_then ?_))))))))))
        have e : IndexFunc_spot s c0 c1 = (k : Int) := by subst hr1; unfold IndexFunc_spot; exact elim_r (hR.symm.trans (hI.trans (by rw [hd]; exact cond_t h2 (rfl)))) rfl
        exact TE.ret [] (.i (k : Int)) {} (by rw [e]; first | done | kernel_rfl)
      · exact TC.skip (TE.normal_block (TE.next (TC.region (TL.r 2 [] [(8, .i (w64 ((k : Int) + 1)))] {} (TL.done rfl (TE.rw 8 (.i (w64 ((k : Int) + 1))) (.i ((k + 1 : Nat) : Int)) Kr (w64_cast k (by omega)) (TE.again (x := k) (k + 1) ⟨by omega, hI.trans (by subst hr1; rw [hd]; exact cond_f h2 (rfl))⟩ (by show s.length - (k + 1) < s.length - k; omega) Kr (.slnil))))))))
    · have hd : s.drop k = [] := List.drop_eq_nil_of_le (by have := of_decide_eq_false h1; first | omega | (simp at this; omega))
      refine TC.exit (TE.exit_then (TE.exit_then (TE.exit_same ?_)))
      exact TE.cut () (hI.trans (by rw [hd]; exact rfl)) Kr (.slnil)
  · intro _ hJ
    refine TE.next (TC.seq (TC.region (TL.r 1 [] [(4, .i (-1))] {} (TL.next rfl (TC.ret ?_)))))
    have e : IndexFunc_spot s c0 c1 = (-1) := by unfold IndexFunc_spot; exact elim_l (hR.symm.trans hJ) (rfl)
    exact TE.ret [] (.i (-1)) {} (by rw [e]; first | done | kernel_rfl)

def ContainsFunc_spot (s : List Spot) (c0 : Spot) (c1 : Int) : Bool :=
  let r1 := IndexFunc_spot s c0 c1
  decide (r1 ≥ 0)

set_option maxRecDepth 100000 in
theorem ContainsFunc_spot_w (A_s : Option Addr) (c_s : Nat) (s : List Spot) (a_c0 : Addr) (c0 : Spot) (a_c1 : Addr) (c1 : Int) (w : World) (h_s : Rd w 6 A_s (s.map Spot.c)) (hc_s : s.length ≤ c_s) (h_c0 : Rd w 6 (some a_c0) [Spot.c c0]) (h_c1 : Rd w 1 (some a_c1) [ic c1]) : Calls Try.prog 44 #[.slice A_s s.length c_s, .func (.func 45) #[] #[.pointer (some a_c0), .pointer (some a_c1)]] w (Ret w (.bool (ContainsFunc_spot s c0 c1))) := by
  have s_s := h_s.short; rw [List.length_map] at s_s
  refine calls_intro (vs := [.slice A_s s.length c_s, .func (.func 45) #[] #[.pointer (some a_c0), .pointer (some a_c1)]]) (w := w) Try.func44 rfl Try.ntmps44 rfl (TC.weak [(0, .slice A_s s.length c_s), (1, .func (.func 45) #[] #[.pointer (some a_c0), .pointer (some a_c1)])] Kr (TC.seq (TC.region (TL.r 1 [] [(4, .b false)] {} (TL.next rfl (TC.seq (TC.region (TL.r 2 [] [(5, .slice A_s s.length c_s), (6, .func (.func 45) #[] #[.pointer (some a_c0), .pointer (some a_c1)])] {} (TL.c 7 (IndexFunc_spot s c0 c1) (fun r1 => .i r1) (fun w hM => IndexFunc_spot_w A_s c_s s a_c0 c0 a_c1 c1 w (h_s.sat hM) hc_s (h_c0.sat hM) (h_c1.sat hM)) {} (fun r1 hr1 => TL.r 5 [] [(4, .b (decide (r1 ≥ 0)))] {} (TL.next rfl (TC.ret ?_))))))))))))
  have e : ContainsFunc_spot s c0 c1 = (decide (r1 ≥ 0)) := by subst hr1; unfold ContainsFunc_spot; exact rfl
  exact TE.ret [] (.b (decide (r1 ≥ 0))) {} (by rw [e]; first | done | kernel_rfl)

end Go.Sky
