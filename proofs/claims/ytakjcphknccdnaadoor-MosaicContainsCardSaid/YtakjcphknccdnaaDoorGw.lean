/- Functions of the program, each with the Lean function that it computes. Conditions: none. -/
import Derived.Test.YtakjcphknccdnaaDoorGv
namespace Go.Sky
open Go Go.Eng Go.Proofs
def angle_Vector (h_ : Int) (length : Int) : P × Int :=
  cond ((decide (length < 0)) || (decide (length > 2000000))) (
    ((⟨0, 0⟩ : P), 4)) (
    let r1 := angle_Sin h_
    let r2 := (nearF (w64 (length * r1)))
    let r3 := angle_Cos h_
    let r4 := (nearF (w64 (length * r3)))
    ((⟨r2, r4⟩ : P), 0))

theorem sin_in_ {h r : Int} (hr : angle_Sin h = r) : -16384 ≤ r ∧ r ≤ 16384 := by rw [sin_tab] at hr; rw [← hr]; exact tab_in (by omega)
theorem cos_in_ {h r : Int} (hr : angle_Cos h = r) : -16384 ≤ r ∧ r ≤ 16384 := by
  unfold angle_Cos at hr; exact sin_in_ hr
theorem vec_in {l r : Int} (hl : 0 ≤ l ∧ l ≤ 2000000) (hr : -16384 ≤ r ∧ r ≤ 16384) : -4611686018427387904 ≤ w64 (l * r) ∧ w64 (l * r) ≤ 4611686018427387904 := by
  have := mul_in hr (b := l) (by omega)
  rw [Int.mul_comm r l] at this
  rw [w64_id (by omega)]; omega

set_option maxRecDepth 100000 in
theorem angle_Vector_w (h_ : Int) (length : Int) (w : World) (hT : Tabs w) : Calls Tryd.prog 39 #[.int .i64 h_, .int .i64 length] w (Ret w (.tuple #[P.v ((angle_Vector h_ length).1), .int .i64 ((angle_Vector h_ length).2)])) := by
  refine calls_intro (vs := [.int .i64 h_, .int .i64 length]) (w := w) Tryd.func39 rfl Tryd.ntmps39 rfl ?_
  refine TC.weak [(0, .int .i64 h_), (1, .int .i64 length)] (by kernel_rfl) ?_
  refine TC.seq ?_
  refine TC.region ?_
  refine TL.write 0 (fun b1 => [(0, .int .i64 h_), (1, .int .i64 length), (4, .pointer (some ⟨b1, 0, none⟩))]) (fun b1 => [.inl (b1, .cells (P.c P.zero) 24 (0, 0))]) (fun b1 => ⟨by kernel_rfl, by kernel_rfl⟩) (fun b1 => ?_)
  refine TL.run 2 [] [(0, .int .i64 h_), (1, .int .i64 length), (4, .pointer (some ⟨b1, 0, none⟩))] rfl ⟨by kernel_rfl, by kernel_rfl⟩ ?_
  refine TL.next rfl ?_
  refine TC.seq ?_
  refine TC.seq ?_
  refine TC.region ?_
  refine TL.run 3 [] [(0, .int .i64 h_), (1, .int .i64 length), (4, .pointer (some ⟨b1, 0, none⟩)), (8, .bool (decide (length < 0)))] rfl ⟨by kernel_rfl, by kernel_rfl⟩ ?_
  refine TL.join 8 (decide (length < 0)) 6 [] [] (fun β => [(0, .int .i64 h_), (1, .int .i64 length), (4, .pointer (some ⟨b1, 0, none⟩)), (11, .bool (β || (decide (length > 2000000))))]) (by kernel_rfl) rfl ⟨by kernel_rfl, by kernel_rfl⟩ ⟨by kernel_rfl, by kernel_rfl⟩ ?_
  refine TL.next rfl ?_
  refine TC.cond ((decide (length < 0)) || (decide (length > 2000000))) rfl (by kernel_rfl) (fun h1 => ?_) (fun h1 => ?_)
  · refine TC.seq ?_
    refine TC.region ?_
    refine TL.run 1 [] [(4, .pointer (some ⟨b1, 0, none⟩)), (12, P.v P.zero)] rfl ⟨by kernel_rfl, by kernel_rfl⟩ ?_
    refine TL.write 0 (fun _ => [(4, .pointer (some ⟨b1, 0, none⟩))]) (fun _ => [.inl (b1, .cells (P.c P.zero) 24 (0, 0))]) (fun _ => ⟨by kernel_rfl, by kernel_rfl⟩) (fun _ => ?_)
    refine TL.run 3 [] [(4, .pointer (some ⟨b1, 0, none⟩)), (5, .int .i64 4)] rfl ⟨by kernel_rfl, by kernel_rfl⟩ ?_
    refine TL.next rfl ?_
    refine TC.ret ?_
    refine TE.ret_then ?_
    have e : angle_Vector h_ length = ((⟨0, 0⟩ : P), 4) := by unfold angle_Vector; exact cond_t h1 (rfl)
    exact TE.ret [0] (.tuple #[.agg #[.int .i64 0, .int .i64 0], .int .i64 4]) ⟨by kernel_rfl, by kernel_rfl⟩ (by rw [e]; first | done | kernel_rfl)
  · refine TC.skip ?_
    refine TE.next ?_
    refine TC.seq ?_
    refine TC.region ?_
    refine TL.run 2 [] [(0, .int .i64 h_), (1, .int .i64 length), (4, .pointer (some ⟨b1, 0, none⟩)), (13, .int .i64 length), (14, .int .i64 h_)] rfl ⟨by kernel_rfl, by kernel_rfl⟩ ?_
    refine TL.call (some 15) [(0, .int .i64 h_), (1, .int .i64 length), (4, .pointer (some ⟨b1, 0, none⟩)), (13, .int .i64 length), (15, .int .i64 (angle_Sin h_))] (fun w hM => angle_Sin_w h_ w (hT.sat hM)) (by kernel_rfl) (by kernel_rfl) ?_
    generalize hr1 : angle_Sin h_ = r1
    refine TL.run 4 [] [(0, .int .i64 h_), (1, .int .i64 length), (4, .pointer (some ⟨b1, 0, none⟩)), (16, .int .i64 (w64 (length * r1)))] rfl ⟨by kernel_rfl, by kernel_rfl⟩ ?_
    refine TL.callM (Γ := Int) (fun g => .int .i64 g) (fun g => [.inr (Fact (g = nearF (w64 (length * r1))))]) [] [.inl (b1, .cells (P.c P.zero) 24 (0, 0))] (some 17) (fun g => [(0, .int .i64 h_), (1, .int .i64 length), (4, .pointer (some ⟨b1, 0, none⟩)), (17, .int .i64 g)]) (fun w hM => angle_near_a (w64 (length * r1)) 16384 w hM.pass rfl (by have q0_ := (dec_f (or_f1 h1)); have q1_ := (dec_f (or_f2 h1)); subst hr1; exact vec_in (by omega) (sin_in_ rfl))) (by kernel_rfl) (fun g => by kernel_rfl) ?_
    rintro r2
    refine TL.conv [.inr (Fact (r2 = nearF (w64 (length * r1)))), .inl (b1, .cells (P.c P.zero) 24 (0, 0))] (fun _ hM => hM) ?_
    refine TL.know (fun w hM => hM.fact_at 0 rfl) (fun hp_angle_near => ?_)
    refine TL.forget [.inl (b1, .cells (P.c P.zero) 24 (0, 0))] (.cons _ (List.Sublist.refl _)) ?_
    have hr2 : (nearF (w64 (length * r1))) = r2 := (hp_angle_near).symm
    refine TL.run 7 [] [(4, .pointer (some ⟨b1, 0, none⟩)), (17, .int .i64 r2), (18, .int .i64 length), (19, .int .i64 h_)] rfl ⟨by kernel_rfl, by kernel_rfl⟩ ?_
    refine TL.call (some 20) [(4, .pointer (some ⟨b1, 0, none⟩)), (17, .int .i64 r2), (18, .int .i64 length), (20, .int .i64 (angle_Cos h_))] (fun w hM => angle_Cos_w h_ w (hT.sat hM)) (by kernel_rfl) (by kernel_rfl) ?_
    generalize hr3 : angle_Cos h_ = r3
    refine TL.run 9 [] [(4, .pointer (some ⟨b1, 0, none⟩)), (17, .int .i64 r2), (21, .int .i64 (w64 (length * r3)))] rfl ⟨by kernel_rfl, by kernel_rfl⟩ ?_
    refine TL.callM (Γ := Int) (fun g => .int .i64 g) (fun g => [.inr (Fact (g = nearF (w64 (length * r3))))]) [] [.inl (b1, .cells (P.c P.zero) 24 (0, 0))] (some 22) (fun g => [(4, .pointer (some ⟨b1, 0, none⟩)), (17, .int .i64 r2), (22, .int .i64 g)]) (fun w hM => angle_near_a (w64 (length * r3)) 16384 w hM.pass rfl (by have q0_ := (dec_f (or_f1 h1)); have q1_ := (dec_f (or_f2 h1)); subst hr1 hr2 hr3; exact vec_in (by omega) (cos_in_ rfl))) (by kernel_rfl) (fun g => by kernel_rfl) ?_
    rintro r4
    refine TL.conv [.inr (Fact (r4 = nearF (w64 (length * r3)))), .inl (b1, .cells (P.c P.zero) 24 (0, 0))] (fun _ hM => hM) ?_
    refine TL.know (fun w hM => hM.fact_at 0 rfl) (fun hp_angle_near => ?_)
    refine TL.forget [.inl (b1, .cells (P.c P.zero) 24 (0, 0))] (.cons _ (List.Sublist.refl _)) ?_
    have hr4 : (nearF (w64 (length * r3))) = r4 := (hp_angle_near).symm
    refine TL.run 11 [] [(4, .pointer (some ⟨b1, 0, none⟩)), (23, .agg #[.int .i64 r2, .int .i64 r4])] rfl ⟨by kernel_rfl, by kernel_rfl⟩ ?_
    refine TL.write 0 (fun _ => [(4, .pointer (some ⟨b1, 0, none⟩))]) (fun _ => [.inl (b1, .cells #[.int .i64 r2, .int .i64 r4] 24 (0, 0))]) (fun _ => ⟨by kernel_rfl, by kernel_rfl⟩) (fun _ => ?_)
    refine TL.run 13 [] [(4, .pointer (some ⟨b1, 0, none⟩)), (5, .int .i64 0)] rfl ⟨by kernel_rfl, by kernel_rfl⟩ ?_
    refine TL.next rfl ?_
    refine TC.ret ?_
    have e : angle_Vector h_ length = ((⟨r2, r4⟩ : P), 0) := by subst hr1 hr2 hr3 hr4; unfold angle_Vector; exact cond_f h1 (rfl)
    exact TE.ret [0] (.tuple #[.agg #[.int .i64 r2, .int .i64 r4], .int .i64 0]) ⟨by kernel_rfl, by kernel_rfl⟩ (by rw [e]; first | done | kernel_rfl)

end Go.Sky
