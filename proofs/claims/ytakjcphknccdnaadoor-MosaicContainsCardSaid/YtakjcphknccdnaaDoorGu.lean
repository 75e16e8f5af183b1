/- Functions of the program, each with the Lean function that it computes. Conditions: none. -/
import Derived.Test.YtakjcphknccdnaaDoorTabAll
namespace Go.Sky
open Go Go.Eng Go.Proofs
def angle_Sin (h_ : Int) : Int :=
  let r1 := angle_Norm h_
  let r2 := math_Sin (fdiv (fmul (dbl r1) 4614256656552045848) 4656722014701092864)
  let r3 := math_Round (fmul 4670232813583204352 r2)
  f2i r3

set_option maxRecDepth 100000 in
theorem angle_Sin_w (h_ : Int) (w : World) (hT : Tabs w) : Calls Tryd.prog 59 #[.int .i64 h_] w (Ret w (.int .i64 (angle_Sin h_))) := by
  refine calls_intro (vs := [.int .i64 h_]) (w := w) Tryd.func59 rfl Tryd.ntmps59 rfl ?_
  refine TC.weak [(0, .int .i64 h_)] (by kernel_rfl) ?_
  refine TC.seq ?_
  refine TC.region ?_
  refine TL.run 1 [] [(0, .int .i64 h_)] rfl ⟨by kernel_rfl, by kernel_rfl⟩ ?_
  refine TL.next rfl ?_
  refine TC.seq ?_
  refine TC.region ?_
  refine TL.run 1 [] [(3, .int .i64 h_)] rfl ⟨by kernel_rfl, by kernel_rfl⟩ ?_
  refine TL.call (some 4) [(4, .int .i64 (angle_Norm h_))] (fun w _ => angle_Norm_w h_ w) (by kernel_rfl) (by kernel_rfl) ?_
  generalize hr1 : angle_Norm h_ = r1
  refine TL.run 3 [] [(5, .float .f64 (dbl r1))] rfl ⟨by kernel_rfl, by kernel_rfl⟩ ?_
  refine TL.val (sV (binOp .mul 72 (.float .f64 (dbl r1)) (.float .f64 4614256656552045848))) (some 6) (.float .f64 (fmul (dbl r1) 4614256656552045848)) [(6, .float .f64 (fmul (dbl r1) 4614256656552045848))] (fun w hM => run_fmul (by (try have i_ := norm_dbl hr1); (try have b_ := sin_bd hr1 hr2); exact fmS)) (by kernel_rfl) (by kernel_rfl) ?_
  refine TL.val (sV (binOp .quo 72 (.float .f64 (fmul (dbl r1) 4614256656552045848)) (.float .f64 4656722014701092864))) (some 7) (.float .f64 (fdiv (fmul (dbl r1) 4614256656552045848) 4656722014701092864)) [(7, .float .f64 (fdiv (fmul (dbl r1) 4614256656552045848) 4656722014701092864))] (fun w hM => run_fdiv (by (try have i_ := norm_dbl hr1); (try have b_ := sin_bd hr1 hr2); exact fdS)) (by kernel_rfl) (by kernel_rfl) ?_
  refine TL.call (some 8) [(8, .float .f64 (math_Sin (fdiv (fmul (dbl r1) 4614256656552045848) 4656722014701092864)))] (fun w hM => math_Sin_w (fdiv (fmul (dbl r1) 4614256656552045848) 4656722014701092864) w (arg_po hr1) (fdiv_lt _ _) (hT.sat hM)) (by kernel_rfl) (by kernel_rfl) ?_
  generalize hr2 : math_Sin (fdiv (fmul (dbl r1) 4614256656552045848) 4656722014701092864) = r2
  refine TL.val (sV (binOp .mul 72 (.float .f64 4670232813583204352) (.float .f64 r2))) (some 9) (.float .f64 (fmul 4670232813583204352 r2)) [(9, .float .f64 (fmul 4670232813583204352 r2))] (fun w hM => run_fmul (by (try have i_ := norm_dbl hr1); (try have b_ := sin_bd hr1 hr2); exact fmS)) (by kernel_rfl) (by kernel_rfl) ?_
  refine TL.call (some 10) [(10, .float .f64 (math_Round (fmul 4670232813583204352 r2)))] (fun w _ => math_Round_w (fmul 4670232813583204352 r2) w) (by kernel_rfl) (by kernel_rfl) ?_
  generalize hr3 : math_Round (fmul 4670232813583204352 r2) = r3
  refine TL.val (sV (convert 72 3 (.float .f64 r3))) (some 11) (.int .i64 (f2i r3)) [(11, .int .i64 (f2i r3))] (fun w hM => run_f2i (by kernel_rfl) (by kernel_rfl) (sin_ok hr1 hr2 hr3)) (by kernel_rfl) (by kernel_rfl) ?_
  refine TL.run 10 [] [(2, .int .i64 (f2i r3))] rfl ⟨by kernel_rfl, by kernel_rfl⟩ ?_
  refine TL.next rfl ?_
  refine TC.ret ?_
  have e : angle_Sin h_ = (f2i r3) := by subst hr1 hr2 hr3; unfold angle_Sin; exact rfl
  exact TE.ret [] (.int .i64 (f2i r3)) ⟨by kernel_rfl, by kernel_rfl⟩ (by rw [e]; first | done | kernel_rfl)

def angle_Cos (h_ : Int) : Int :=
  let r1 := angle_Norm h_
  let r2 := angle_Sin (w64 (r1 + 1024))
  r2

theorem sin_tab (h : Int) : angle_Sin h = tabS (h % 4096).toNat := by
  unfold angle_Sin
  simp only
  have n := norm_in (h := h) rfl
  have t := tab_ok (n := (angle_Norm h).toNat) (by omega)
  have e : sinW (angle_Norm h).toNat = math_Round (fmul 4670232813583204352 (math_Sin (fdiv (fmul (dbl (angle_Norm h)) 4614256656552045848) 4656722014701092864))) := by
    unfold sinW argF
    rw [Int.toNat_of_nonneg n.1]
  rw [e] at t
  rw [f2i_of t, norm_eq]
theorem sin_nat (k : Nat) : angle_Sin (k : Int) = sn k := by rw [sin_tab, show ((k : Int) % 4096).toNat = k % 4096 by omega]; rfl

set_option maxRecDepth 100000 in
theorem angle_Cos_w (h_ : Int) (w : World) (hT : Tabs w) : Calls Tryd.prog 60 #[.int .i64 h_] w (Ret w (.int .i64 (angle_Cos h_))) := by
  refine calls_intro (vs := [.int .i64 h_]) (w := w) Tryd.func60 rfl Tryd.ntmps60 rfl ?_
  refine TC.weak [(0, .int .i64 h_)] (by kernel_rfl) ?_
  refine TC.seq ?_
  refine TC.region ?_
  refine TL.run 1 [] [(0, .int .i64 h_)] rfl ⟨by kernel_rfl, by kernel_rfl⟩ ?_
  refine TL.next rfl ?_
  refine TC.seq ?_
  refine TC.region ?_
  refine TL.run 1 [] [(3, .int .i64 h_)] rfl ⟨by kernel_rfl, by kernel_rfl⟩ ?_
  refine TL.call (some 4) [(4, .int .i64 (angle_Norm h_))] (fun w _ => angle_Norm_w h_ w) (by kernel_rfl) (by kernel_rfl) ?_
  generalize hr1 : angle_Norm h_ = r1
  refine TL.run 3 [] [(5, .int .i64 (w64 (r1 + 1024)))] rfl ⟨by kernel_rfl, by kernel_rfl⟩ ?_
  refine TL.call (some 6) [(6, .int .i64 (angle_Sin (w64 (r1 + 1024))))] (fun w hM => angle_Sin_w (w64 (r1 + 1024)) w (hT.sat hM)) (by kernel_rfl) (by kernel_rfl) ?_
  generalize hr2 : angle_Sin (w64 (r1 + 1024)) = r2
  refine TL.run 5 [] [(2, .int .i64 r2)] rfl ⟨by kernel_rfl, by kernel_rfl⟩ ?_
  refine TL.next rfl ?_
  refine TC.ret ?_
  have e : angle_Cos h_ = r2 := by subst hr1 hr2; unfold angle_Cos; exact rfl
  exact TE.ret [] (.int .i64 r2) ⟨by kernel_rfl, by kernel_rfl⟩ (by rw [e]; first | done | kernel_rfl)

def angle_unit (h_ : Int) : P :=
  let r1 := angle_Sin h_
  let r2 := angle_Cos h_
  (⟨r1, r2⟩ : P)

theorem cos_nat (k : Nat) : angle_Cos (k : Int) = cs k := by
  unfold angle_Cos
  simp only
  rw [norm_eq, sin_tab, w64_id (by omega), show (((k : Int) % 4096 + 1024) % 4096).toNat = (k + 1024) % 4096 by omega]; rfl

set_option maxRecDepth 100000 in
theorem angle_unit_w (h_ : Int) (w : World) (hT : Tabs w) : Calls Tryd.prog 36 #[.int .i64 h_] w (Ret w (P.v (angle_unit h_))) := by
  refine calls_intro (vs := [.int .i64 h_]) (w := w) Tryd.func36 rfl Tryd.ntmps36 rfl ?_
  refine TC.weak [(0, .int .i64 h_)] (by kernel_rfl) ?_
  refine TC.seq ?_
  refine TC.region ?_
  refine TL.write 0 (fun b1 => [(0, .int .i64 h_), (2, .pointer (some ⟨b1, 0, none⟩))]) (fun b1 => [.inl (b1, .cells (P.c P.zero) 24 (0, 0))]) (fun b1 => ⟨by kernel_rfl, by kernel_rfl⟩) (fun b1 => ?_)
  refine TL.next rfl ?_
  refine TC.seq ?_
  refine TC.region ?_
  refine TL.run 1 [] [(0, .int .i64 h_), (2, .pointer (some ⟨b1, 0, none⟩)), (3, .int .i64 h_)] rfl ⟨by kernel_rfl, by kernel_rfl⟩ ?_
  refine TL.call (some 4) [(0, .int .i64 h_), (2, .pointer (some ⟨b1, 0, none⟩)), (4, .int .i64 (angle_Sin h_))] (fun w hM => angle_Sin_w h_ w (hT.sat hM)) (by kernel_rfl) (by kernel_rfl) ?_
  generalize hr1 : angle_Sin h_ = r1
  refine TL.run 3 [] [(2, .pointer (some ⟨b1, 0, none⟩)), (4, .int .i64 r1), (5, .int .i64 h_)] rfl ⟨by kernel_rfl, by kernel_rfl⟩ ?_
  refine TL.call (some 6) [(2, .pointer (some ⟨b1, 0, none⟩)), (4, .int .i64 r1), (6, .int .i64 (angle_Cos h_))] (fun w hM => angle_Cos_w h_ w (hT.sat hM)) (by kernel_rfl) (by kernel_rfl) ?_
  generalize hr2 : angle_Cos h_ = r2
  refine TL.run 5 [] [(2, .pointer (some ⟨b1, 0, none⟩)), (7, .agg #[.int .i64 r1, .int .i64 r2])] rfl ⟨by kernel_rfl, by kernel_rfl⟩ ?_
  refine TL.write 0 (fun _ => [(2, .pointer (some ⟨b1, 0, none⟩))]) (fun _ => [.inl (b1, .cells #[.int .i64 r1, .int .i64 r2] 24 (0, 0))]) (fun _ => ⟨by kernel_rfl, by kernel_rfl⟩) (fun _ => ?_)
  refine TL.next rfl ?_
  refine TC.ret ?_
  have e : angle_unit h_ = (⟨r1, r2⟩ : P) := by subst hr1 hr2; unfold angle_unit; exact rfl
  exact TE.ret [0] (.agg #[.int .i64 r1, .int .i64 r2]) ⟨by kernel_rfl, by kernel_rfl⟩ (by rw [e]; first | done | kernel_rfl)

def angle_cross (a : P) (b_ : P) : Int :=
  w64 ((w64 (a.Y * b_.X)) - (w64 (a.X * b_.Y)))

set_option maxRecDepth 100000 in
theorem angle_cross_w (a : P) (b_ : P) (w : World) : Calls Tryd.prog 37 #[P.v a, P.v b_] w (Ret w (.int .i64 (angle_cross a b_))) := by
  refine calls_intro (vs := [P.v a, P.v b_]) (w := w) Tryd.func37 rfl Tryd.ntmps37 rfl ?_
  refine TC.weak [(0, P.v a), (1, P.v b_)] (by kernel_rfl) ?_
  refine TC.seq ?_
  refine TC.region ?_
  refine TL.write 0 (fun b1 => [(1, P.v b_), (2, .pointer (some ⟨b1, 0, none⟩))]) (fun b1 => [.inl (b1, .cells (P.c a) 24 (0, 0))]) (fun b1 => ⟨by kernel_rfl, by kernel_rfl⟩) (fun b1 => ?_)
  refine TL.write 0 (fun b2 => [(2, .pointer (some ⟨b1, 0, none⟩)), (3, .pointer (some ⟨b2, 0, none⟩))]) (fun b2 => [.inl (b2, .cells (P.c b_) 24 (0, 0)), .inl (b1, .cells (P.c a) 24 (0, 0))]) (fun b2 => ⟨by kernel_rfl, by kernel_rfl⟩) (fun b2 => ?_)
  refine TL.run 3 [] [(2, .pointer (some ⟨b1, 0, none⟩)), (3, .pointer (some ⟨b2, 0, none⟩))] rfl ⟨by kernel_rfl, by kernel_rfl⟩ ?_
  refine TL.next rfl ?_
  refine TC.seq ?_
  refine TC.region ?_
  refine TL.run 12 [1, 0, 1, 0] [(4, .int .i64 (w64 ((w64 (a.Y * b_.X)) - (w64 (a.X * b_.Y)))))] rfl ⟨by kernel_rfl, by kernel_rfl⟩ ?_
  refine TL.next rfl ?_
  refine TC.ret ?_
  have e : angle_cross a b_ = (w64 ((w64 (a.Y * b_.X)) - (w64 (a.X * b_.Y)))) := by unfold angle_cross; exact rfl
  exact TE.ret [] (.int .i64 (w64 ((w64 (a.Y * b_.X)) - (w64 (a.X * b_.Y))))) ⟨by kernel_rfl, by kernel_rfl⟩ (by rw [e]; first | done | kernel_rfl)

def nearF (n : Int) : Int := if n < 0 then -((-n + 8192) / 16384) else (n + 8192) / 16384
theorem near_in {n : Int} (hb : -4611686018427387904 ≤ n ∧ n ≤ 4611686018427387904) : -4611686018427387904 ≤ nearF n ∧ nearF n ≤ 4611686018427387904 := by
  unfold nearF; split <;> omega
theorem near_neg {n r : Int} (h : n < 0) (hr : r = nearF (0 - n)) : 0 - r = nearF n := by
  rw [hr]; unfold nearF
  rw [if_neg (by omega), if_pos h, show 0 - n = -n by omega]; omega
theorem near_pos {n : Int} (h : ¬ n < 0) : (n + 8192) / 16384 = nearF n := by unfold nearF; rw [if_neg h]
theorem near_ret {n d : Int} (hd : d = 16384) (h : ¬ n < 0) (hb : -4611686018427387904 ≤ n ∧ n ≤ 4611686018427387904) : w64 ((n + d / 2).tdiv d) = nearF n := by
  subst hd
  rw [show (16384 : Int) / 2 = 8192 from rfl, Int.tdiv_eq_ediv_of_nonneg (by omega), w64_id (by omega)]
  exact near_pos h

set_option maxRecDepth 100000 in
theorem angle_near_w : ∀ (fu_ : Nat) (n : Int) (d : Int) (w : World) (_hM : Sat ⟨w, feet []⟩ [] w) (_hd : d = 16384) (_hb : -4611686018427387904 ≤ n ∧ n ≤ 4611686018427387904) (_hn : (0 - n).toNat < fu_), Calls Tryd.prog 61 #[.int .i64 n, .int .i64 d] w (RetM (Γ := Int) ⟨w, feet []⟩ (fun g => .int .i64 g) (fun g => [.inr (Fact (g = nearF n))]))
  | 0, _, _, _, _, _, _, hn => absurd hn (Nat.not_lt_zero _)
  | fu_ + 1, n, d, w, hM, hd, hb, hn => by
    have ih := angle_near_w fu_
    refine calls_introM (w0 := ⟨w, feet []⟩) (vs := [.int .i64 n, .int .i64 d]) hM Tryd.func61 rfl Tryd.ntmps61 rfl ?_
    refine TC.weak [(0, .int .i64 n), (1, .int .i64 d)] (by kernel_rfl) ?_
    refine TC.seq ?_
    refine TC.region ?_
    refine TL.run 1 [] [(0, .int .i64 n), (1, .int .i64 d)] rfl ⟨by kernel_rfl, by kernel_rfl⟩ ?_
    refine TL.next rfl ?_
    refine TC.seq ?_
    refine TC.seq ?_
    refine TC.region ?_
    refine TL.run 2 [] [(0, .int .i64 n), (1, .int .i64 d), (6, .bool (decide (n < 0)))] rfl ⟨by kernel_rfl, by kernel_rfl⟩ ?_
    refine TL.next rfl ?_
    refine TC.cond (decide (n < 0)) rfl (by kernel_rfl) (fun h1 => ?_) (fun h1 => ?_)
    · refine TC.seq ?_
      refine TC.region ?_
      refine TL.run 3 [] [(8, .int .i64 (w64 (0 - n))), (9, .int .i64 d)] rfl ⟨by kernel_rfl, by kernel_rfl⟩ ?_
      refine TL.rw 8 (.int .i64 (w64 (0 - n))) (.int .i64 (0 - n)) (by kernel_rfl) (int_eq (by have q0_ := (dec_t h1); have nb_ := near_in (n := 0 - n) (by omega); rw [w64_id (x := (0 - n)) (by omega)])) ?_
      refine TL.callM (Γ := Int) (fun g => .int .i64 g) (fun g => [.inr (Fact (g = nearF (0 - n)))]) [] [] (some 10) (fun g => [(10, .int .i64 g)]) (fun w hM => ih (0 - n) d w hM.pass (by have q0_ := (dec_t h1); have nb_ := near_in (n := 0 - n) (by omega); exact sg) (by have q0_ := (dec_t h1); have nb_ := near_in (n := 0 - n) (by omega); exact sg) (by have q0_ := (dec_t h1); have nb_ := near_in (n := 0 - n) (by omega); exact sg)) (by kernel_rfl) (fun g => by kernel_rfl) ?_
      rintro r_
      refine TL.conv [.inr (Fact (r_ = nearF (0 - n)))] (fun _ hM => hM) ?_
      refine TL.know (fun w hM => hM.fact_at 0 rfl) (fun hp_angle_near => ?_)
      refine TL.forget [] (.cons _ (List.Sublist.refl _)) ?_
      refine TL.run 6 [] [(4, .int .i64 (w64 (0 - r_)))] rfl ⟨by kernel_rfl, by kernel_rfl⟩ ?_
      refine TL.rw 4 (.int .i64 (w64 (0 - r_))) (.int .i64 (0 - r_)) (by kernel_rfl) (int_eq (by have q0_ := (dec_t h1); have nb_ := near_in (n := 0 - n) (by omega); rw [w64_id (x := (0 - r_)) (by omega)])) ?_
      refine TL.next rfl ?_
      refine TC.ret ?_
      refine TE.ret_then ?_
      exact TE.retM (.inl rfl) (0 - r_) [] (.int .i64 (0 - r_)) ⟨by kernel_rfl, by kernel_rfl⟩ rfl (fun _ hM => (hM.sub (.slnil)).fact (by have q0_ := (dec_t h1); have nb_ := near_in (n := 0 - n) (by omega); (try dsimp only); first | exact near_neg (by omega) hp_angle_near | exact near_ret hd (by omega) hb))
    · refine TC.skip ?_
      refine TE.next ?_
      refine TC.seq ?_
      refine TC.region ?_
      refine TL.run 5 [] [(15, .int .i64 (w64 (n + (w64 (d.tdiv 2))))), (16, .int .i64 d)] rfl ⟨by kernel_rfl, by kernel_rfl⟩ ?_
      refine TL.rw 15 (.int .i64 (w64 (n + (w64 (d.tdiv 2))))) (.int .i64 (n + (((d / 2))))) (by kernel_rfl) (int_eq (by have q0_ := (dec_f h1); have nb_ := near_in (n := 0 - n) (by omega); rw [tdiv_pos (a := d) 2 (by omega), w64_id (x := ((d / 2))) (by omega), w64_id (x := (n + (((d / 2))))) (by omega)])) ?_
      refine TL.val (sV (binOp .quo 3 (.int .i64 (n + (((d / 2))))) (.int .i64 d))) (some 17) (.int .i64 (w64 ((n + (((d / 2)))).tdiv d))) [(17, .int .i64 (w64 ((n + (((d / 2)))).tdiv d)))] (fun w hM => run_quo (by have q0_ := (dec_f h1); have nb_ := near_in (n := 0 - n) (by omega); exact sd)) (by kernel_rfl) (by kernel_rfl) ?_
      refine TL.run 7 [] [(4, .int .i64 (w64 ((n + (((d / 2)))).tdiv d)))] rfl ⟨by kernel_rfl, by kernel_rfl⟩ ?_
      refine TL.rw 4 (.int .i64 (w64 ((n + (((d / 2)))).tdiv d))) (.int .i64 (w64 ((n + (((d / 2)))).tdiv d))) (by kernel_rfl) (int_eq (by have q0_ := (dec_f h1); have nb_ := near_in (n := 0 - n) (by omega); rw [])) ?_
      refine TL.next rfl ?_
      refine TC.ret ?_
      exact TE.retM (.inl rfl) (w64 ((n + (((d / 2)))).tdiv d)) [] (.int .i64 (w64 ((n + (((d / 2)))).tdiv d))) ⟨by kernel_rfl, by kernel_rfl⟩ rfl (fun _ hM => (hM.sub (.slnil)).fact (by have q0_ := (dec_f h1); have nb_ := near_in (n := 0 - n) (by omega); (try dsimp only); first | exact near_neg (by omega) hp_angle_near | exact near_ret hd (by omega) hb))
theorem angle_near_a (n : Int) (d : Int) (w : World) (hM : Sat ⟨w, feet []⟩ [] w) (hd : d = 16384) (hb : -4611686018427387904 ≤ n ∧ n ≤ 4611686018427387904) : Calls Tryd.prog 61 #[.int .i64 n, .int .i64 d] w (RetM (Γ := Int) ⟨w, feet []⟩ (fun g => .int .i64 g) (fun g => [.inr (Fact (g = nearF n))])) := angle_near_w ((0 - n).toNat + 1) n d w hM hd hb (Nat.lt_succ_self _)

end Go.Sky
