/- Functions of the program, each with the Lean function that it computes. Conditions: none. -/
import Derived.Test.YtakjcphknccdnaaDoorOfB
namespace Go.Sky
open Go Go.Eng Go.Proofs
set_option maxHeartbeats 4000000 in
set_option maxRecDepth 100000 in
theorem angle_Of_w (v : P) (w : World) (hM : Sat ⟨w, feet []⟩ [] w) (hT : Tabs w) : Calls Tryd.prog 19 #[P.v v] w (RetM (Γ := Int × Int) ⟨w, feet []⟩ (fun g => .tuple #[.int .i64 g.1, .int .i64 g.2]) (fun g => [.inr (Fact (g.1 = (ofF v).1 ∧ g.2 = (ofF v).2))])) := by
  refine calls_introM (w0 := ⟨w, feet []⟩) (vs := [P.v v]) hM Tryd.func19 rfl Tryd.ntmps19 rfl ?_
  refine TC.weak [(0, P.v v)] (by kernel_rfl) ?_
  refine TC.seq ?_
  refine TC.region ?_
  refine TL.write 0 (fun b1 => [(1, .pointer (some ⟨b1, 0, none⟩))]) (fun b1 => [.inl (b1, .cells (P.c v) 24 (0, 0))]) (fun b1 => ⟨by kernel_rfl, by kernel_rfl⟩) (fun b1 => ?_)
  refine TL.run 3 [] [(1, .pointer (some ⟨b1, 0, none⟩))] rfl ⟨by kernel_rfl, by kernel_rfl⟩ ?_
  refine TL.next rfl ?_
  refine TC.seq ?_
  refine TC.block ?_
  refine TC.seq ?_
  refine TC.region ?_
  refine TL.run 4 [0] [(1, .pointer (some ⟨b1, 0, none⟩)), (15, .bool (decide (v.X < (-2000000))))] rfl ⟨by kernel_rfl, by kernel_rfl⟩ ?_
  refine TL.join 15 (decide (v.X < (-2000000))) 8 [] [0] (fun β => [(1, .pointer (some ⟨b1, 0, none⟩)), (19, .bool (β || (decide (v.X > 2000000))))]) (by kernel_rfl) rfl ⟨by kernel_rfl, by kernel_rfl⟩ ⟨by kernel_rfl, by kernel_rfl⟩ ?_
  refine TL.run 9 [] [(1, .pointer (some ⟨b1, 0, none⟩)), (20, .bool ((decide (v.X < (-2000000))) || (decide (v.X > 2000000))))] rfl ⟨by kernel_rfl, by kernel_rfl⟩ ?_
  refine TL.join 20 ((decide (v.X < (-2000000))) || (decide (v.X > 2000000))) 13 [] [0] (fun β => [(1, .pointer (some ⟨b1, 0, none⟩)), (24, .bool (β || (decide (v.Y < (-2000000)))))]) (by kernel_rfl) rfl ⟨by kernel_rfl, by kernel_rfl⟩ ⟨by kernel_rfl, by kernel_rfl⟩ ?_
  refine TL.run 14 [] [(1, .pointer (some ⟨b1, 0, none⟩)), (25, .bool (((decide (v.X < (-2000000))) || (decide (v.X > 2000000))) || (decide (v.Y < (-2000000)))))] rfl ⟨by kernel_rfl, by kernel_rfl⟩ ?_
  refine TL.join 25 (((decide (v.X < (-2000000))) || (decide (v.X > 2000000))) || (decide (v.Y < (-2000000)))) 18 [] [0] (fun β => [(1, .pointer (some ⟨b1, 0, none⟩)), (29, .bool (β || (decide (v.Y > 2000000))))]) (by kernel_rfl) rfl ⟨by kernel_rfl, by kernel_rfl⟩ ⟨by kernel_rfl, by kernel_rfl⟩ ?_
  refine TL.run 19 [] [(1, .pointer (some ⟨b1, 0, none⟩)), (11, .bool ((((decide (v.X < (-2000000))) || (decide (v.X > 2000000))) || (decide (v.Y < (-2000000)))) || (decide (v.Y > 2000000))))] rfl ⟨by kernel_rfl, by kernel_rfl⟩ ?_
  refine TL.next rfl ?_
  refine TC.cond ((((decide (v.X < (-2000000))) || (decide (v.X > 2000000))) || (decide (v.Y < (-2000000)))) || (decide (v.Y > 2000000))) rfl (by kernel_rfl) (fun h1 => ?_) (fun h1 => ?_)
  · refine TC.seq ?_
    refine TC.region ?_
    refine TL.run 2 [] [(2, .int .i64 0), (3, .int .i64 4)] rfl ⟨by kernel_rfl, by kernel_rfl⟩ ?_
    refine TL.next rfl ?_
    refine TC.ret ?_
    refine TE.ret_block (TE.ret_then ?_)
    exact TE.retM (.inl rfl) (0, 4) [] (.tuple #[.int .i64 0, .int .i64 4]) ⟨by kernel_rfl, by kernel_rfl⟩ rfl (fun _ hM => (hM.sub (.cons _ (.slnil))).fact (by have q0_ := ((or_t h1).imp (fun h => ((or_t h).imp (fun h => ((or_t h).imp (fun h => (dec_t h)) (fun h => (dec_t h)))) (fun h => (dec_t h)))) (fun h => (dec_t h))); (try have bq_ := hp_math_Atan2); (try have n3_ := norm_in hr3); (try have n4_ := norm_in hr4); (try dsimp only); first | exact of_out (by omega) | exact of_zero (of_inb h1) (by omega) | exact ret_F (of_inb h1) (of_nzb h2) hr4 hr5 hr6 hr7 hr8 h5 h6 hr9 | exact ret_F (of_inb h1) (of_nzb h2) hr3 hr10 hr11 hr12 hr13 h7 h8 hr14 | exact ret_T (of_inb h1) (of_nzb h2) hr4 hr5 hr6 hr7 hr8 h5 h6 | exact ret_T (of_inb h1) (of_nzb h2) hr3 hr10 hr11 hr12 hr13 h7 h8 | exact False.elim ho0))
  · refine TC.seq ?_
    refine TC.region ?_
    refine TL.run 4 [0] [(1, .pointer (some ⟨b1, 0, none⟩)), (34, .bool (v.X == 0))] rfl ⟨by kernel_rfl, by kernel_rfl⟩ ?_
    refine TL.join 34 (v.X == 0) 8 [0] [] (fun β => [(1, .pointer (some ⟨b1, 0, none⟩)), (38, .bool (β && (v.Y == 0)))]) (by kernel_rfl) rfl ⟨by kernel_rfl, by kernel_rfl⟩ ⟨by kernel_rfl, by kernel_rfl⟩ ?_
    refine TL.run 9 [] [(1, .pointer (some ⟨b1, 0, none⟩)), (30, .bool ((v.X == 0) && (v.Y == 0)))] rfl ⟨by kernel_rfl, by kernel_rfl⟩ ?_
    refine TL.next rfl ?_
    refine TC.cond ((v.X == 0) && (v.Y == 0)) rfl (by kernel_rfl) (fun h2 => ?_) (fun h2 => ?_)
    · refine TC.seq ?_
      refine TC.region ?_
      refine TL.run 2 [] [(2, .int .i64 0), (3, .int .i64 10)] rfl ⟨by kernel_rfl, by kernel_rfl⟩ ?_
      refine TL.next rfl ?_
      refine TC.ret ?_
      refine TE.ret_block (TE.ret_then ?_)
      exact TE.retM (.inl rfl) (0, 10) [] (.tuple #[.int .i64 0, .int .i64 10]) ⟨by kernel_rfl, by kernel_rfl⟩ rfl (fun _ hM => (hM.sub (.cons _ (.slnil))).fact (by have q0_ := (dec_f (or_f1 (or_f1 (or_f1 h1)))); have q1_ := (dec_f (or_f2 (or_f1 (or_f1 h1)))); have q2_ := (dec_f (or_f2 (or_f1 h1))); have q3_ := (dec_f (or_f2 h1)); have q4_ := (beq_t (and_t1 h2)); have q5_ := (beq_t (and_t2 h2)); (try have bq_ := hp_math_Atan2); (try have n3_ := norm_in hr3); (try have n4_ := norm_in hr4); (try dsimp only); first | exact of_out (by omega) | exact of_zero (of_inb h1) (by omega) | exact ret_F (of_inb h1) (of_nzb h2) hr4 hr5 hr6 hr7 hr8 h5 h6 hr9 | exact ret_F (of_inb h1) (of_nzb h2) hr3 hr10 hr11 hr12 hr13 h7 h8 hr14 | exact ret_T (of_inb h1) (of_nzb h2) hr4 hr5 hr6 hr7 hr8 h5 h6 | exact ret_T (of_inb h1) (of_nzb h2) hr3 hr10 hr11 hr12 hr13 h7 h8 | exact False.elim ho0))
    · refine TC.skip ?_
      refine TE.normal_block ?_
      refine TE.next ?_
      refine TC.seq ?_
      refine TC.region ?_
      refine TL.run 6 [0, 0] [(1, .pointer (some ⟨b1, 0, none⟩)), (41, .float .f64 (dbl v.X)), (44, .float .f64 (dbl v.Y))] rfl ⟨by kernel_rfl, by kernel_rfl⟩ ?_
      refine TL.callM (Γ := Nat) (fun g => .float .f64 g) (fun g => [.inr (Fact (Bd 46 g))]) [] [.inl (b1, .cells (P.c v) 24 (0, 0))] (some 45) (fun g => [(1, .pointer (some ⟨b1, 0, none⟩)), (45, .float .f64 g)]) (fun w hM => math_Atan2_w (dbl v.X) (dbl v.Y) w hM.pass (by have q0_ := (dec_f (or_f1 (or_f1 (or_f1 h1)))); have q1_ := (dec_f (or_f2 (or_f1 (or_f1 h1)))); have q2_ := (dec_f (or_f2 (or_f1 h1))); have q3_ := (dec_f (or_f2 h1)); have q4_ := ((and_f h2).imp (fun h => (beq_f h)) (fun h => (beq_f h))); (try have bq_ := hp_math_Atan2); (try have n3_ := norm_in hr3); (try have n4_ := norm_in hr4); exact ⟨v.X, by omega, rfl⟩) (by have q0_ := (dec_f (or_f1 (or_f1 (or_f1 h1)))); have q1_ := (dec_f (or_f2 (or_f1 (or_f1 h1)))); have q2_ := (dec_f (or_f2 (or_f1 h1))); have q3_ := (dec_f (or_f2 h1)); have q4_ := ((and_f h2).imp (fun h => (beq_f h)) (fun h => (beq_f h))); (try have bq_ := hp_math_Atan2); (try have n3_ := norm_in hr3); (try have n4_ := norm_in hr4); exact ⟨v.Y, by omega, rfl⟩)) (by kernel_rfl) (fun g => by kernel_rfl) ?_
      rintro r_
      refine TL.conv [.inr (Fact (Bd 46 r_)), .inl (b1, .cells (P.c v) 24 (0, 0))] (fun _ hM => hM) ?_
      refine TL.know (fun w hM => hM.fact_at 0 rfl) (fun hp_math_Atan2 => ?_)
      refine TL.forget [.inl (b1, .cells (P.c v) 24 (0, 0))] (.cons _ (List.Sublist.refl _)) ?_
      refine TL.val (sV (binOp .mul 72 (.float .f64 r_) (.float .f64 4656722014701092864))) (some 46) (.float .f64 (fmul r_ 4656722014701092864)) [(1, .pointer (some ⟨b1, 0, none⟩)), (46, .float .f64 (fmul r_ 4656722014701092864))] (fun w hM => run_fmul (by have q0_ := (dec_f (or_f1 (or_f1 (or_f1 h1)))); have q1_ := (dec_f (or_f2 (or_f1 (or_f1 h1)))); have q2_ := (dec_f (or_f2 (or_f1 h1))); have q3_ := (dec_f (or_f2 h1)); have q4_ := ((and_f h2).imp (fun h => (beq_f h)) (fun h => (beq_f h))); (try have bq_ := hp_math_Atan2); (try have n3_ := norm_in hr3); (try have n4_ := norm_in hr4); exact fmS)) (by kernel_rfl) (by kernel_rfl) ?_
      refine TL.val (sV (binOp .quo 72 (.float .f64 (fmul r_ 4656722014701092864)) (.float .f64 4614256656552045848))) (some 47) (.float .f64 (fdiv (fmul r_ 4656722014701092864) 4614256656552045848)) [(1, .pointer (some ⟨b1, 0, none⟩)), (47, .float .f64 (fdiv (fmul r_ 4656722014701092864) 4614256656552045848))] (fun w hM => run_fdiv (by have q0_ := (dec_f (or_f1 (or_f1 (or_f1 h1)))); have q1_ := (dec_f (or_f2 (or_f1 (or_f1 h1)))); have q2_ := (dec_f (or_f2 (or_f1 h1))); have q3_ := (dec_f (or_f2 h1)); have q4_ := ((and_f h2).imp (fun h => (beq_f h)) (fun h => (beq_f h))); (try have bq_ := hp_math_Atan2); (try have n3_ := norm_in hr3); (try have n4_ := norm_in hr4); exact fdS)) (by kernel_rfl) (by kernel_rfl) ?_
      refine TL.call (some 48) [(1, .pointer (some ⟨b1, 0, none⟩)), (48, .float .f64 (math_Floor (fdiv (fmul r_ 4656722014701092864) 4614256656552045848)))] (fun w _ => math_Floor_w (fdiv (fmul r_ 4656722014701092864) 4614256656552045848) w (by have q0_ := (dec_f (or_f1 (or_f1 (or_f1 h1)))); have q1_ := (dec_f (or_f2 (or_f1 (or_f1 h1)))); have q2_ := (dec_f (or_f2 (or_f1 h1))); have q3_ := (dec_f (or_f2 h1)); have q4_ := ((and_f h2).imp (fun h => (beq_f h)) (fun h => (beq_f h))); (try have bq_ := hp_math_Atan2); (try have n3_ := norm_in hr3); (try have n4_ := norm_in hr4); exact inst_bd)) (by kernel_rfl) (by kernel_rfl) ?_
      generalize hr1 : math_Floor (fdiv (fmul r_ 4656722014701092864) 4614256656552045848) = r1
      refine TL.val (sV (convert 72 3 (.float .f64 r1))) (some 49) (.int .i64 (f2i r1)) [(1, .pointer (some ⟨b1, 0, none⟩)), (49, .int .i64 (f2i r1))] (fun w hM => run_f2i (by kernel_rfl) (by kernel_rfl) (by have q0_ := (dec_f (or_f1 (or_f1 (or_f1 h1)))); have q1_ := (dec_f (or_f2 (or_f1 (or_f1 h1)))); have q2_ := (dec_f (or_f2 (or_f1 h1))); have q3_ := (dec_f (or_f2 h1)); have q4_ := ((and_f h2).imp (fun h => (beq_f h)) (fun h => (beq_f h))); (try have bq_ := hp_math_Atan2); (try have n3_ := norm_in hr3); (try have n4_ := norm_in hr4); have b_ := floor_bd hr1; exact f2S_i64 (e := 58))) (by kernel_rfl) (by kernel_rfl) ?_
      refine TL.run 12 [] [(1, .pointer (some ⟨b1, 0, none⟩)), (4, .int .i64 (f2i r1))] rfl ⟨by kernel_rfl, by kernel_rfl⟩ ?_
      generalize hr2 : f2i r1 = r2
      have g_ := guess_in hp_math_Atan2 hr1 hr2; clear hr1 hr2 hp_math_Atan2
      refine TL.next rfl ?_
      refine TC.seq ?_
      refine TC.seq ?_
      refine TC.region ?_
      refine TL.run 1 [] [(1, .pointer (some ⟨b1, 0, none⟩)), (4, .int .i64 r2), (50, .int .i64 0)] rfl ⟨by kernel_rfl, by kernel_rfl⟩ ?_
      refine TL.next rfl ?_
      refine TC.weak [(1, .pointer (some ⟨b1, 0, none⟩)), (4, .int .i64 r2), (50, .int .i64 0)] (by kernel_rfl) ?_
      refine TC.cut (S := Unit) (fun (_ : Unit) => []) (fun (_ : Unit) => [.inl (b1, .cells (P.c v) 24 (0, 0))]) (fun (_ : Unit) => (False)) ?_ ?_
      · refine TC.block ?_
        refine TC.loop (X := Int) (fun s => [(1, .pointer (some ⟨b1, 0, none⟩)), (4, .int .i64 r2), (50, .int .i64 s)]) (fun s => [.inl (b1, .cells (P.c v) 24 (0, 0))]) (fun s => (4096 - s).toNat) (fun s => (OfInv v r2 s)) ?_ 0 (by have q0_ := (dec_f (or_f1 (or_f1 (or_f1 h1)))); have q1_ := (dec_f (or_f2 (or_f1 (or_f1 h1)))); have q2_ := (dec_f (or_f2 (or_f1 h1))); have q3_ := (dec_f (or_f2 h1)); have q4_ := ((and_f h2).imp (fun h => (beq_f h)) (fun h => (beq_f h))); (try have bq_ := hp_math_Atan2); (try have n3_ := norm_in hr3); (try have n4_ := norm_in hr4); first | exact of_start _ _)
        rintro s hv0
        refine TC.seq ?_
        refine TC.region ?_
        refine TL.run 1 [] [(1, .pointer (some ⟨b1, 0, none⟩)), (4, .int .i64 r2), (50, .int .i64 s), (51, .bool (decide (s < 4096)))] rfl ⟨by kernel_rfl, by kernel_rfl⟩ ?_
        refine TL.next rfl ?_
        refine TC.seq ?_
        refine TC.cond (decide (s < 4096)) rfl (by kernel_rfl) (fun h3 => ?_) (fun h3 => ?_)
        · refine TC.skip ?_
          refine TE.next ?_
          refine TC.seq ?_
          refine TC.block ?_
          refine TC.seq ?_
          refine TC.region ?_
          refine TL.run 2 [] [(1, .pointer (some ⟨b1, 0, none⟩)), (4, .int .i64 r2), (5, .int .i64 s), (50, .int .i64 s)] rfl ⟨by kernel_rfl, by kernel_rfl⟩ ?_
          refine TL.next rfl ?_
          refine TC.seq ?_
          refine TC.region ?_
          refine TL.run 3 [] [(1, .pointer (some ⟨b1, 0, none⟩)), (4, .int .i64 r2), (5, .int .i64 s), (50, .int .i64 s), (55, .int .i64 (w64 (r2 + s)))] rfl ⟨by kernel_rfl, by kernel_rfl⟩ ?_
          refine TL.rw 55 (.int .i64 (w64 (r2 + s))) (.int .i64 (r2 + s)) (by kernel_rfl) (int_eq (by have q0_ := (dec_f (or_f1 (or_f1 (or_f1 h1)))); have q1_ := (dec_f (or_f2 (or_f1 (or_f1 h1)))); have q2_ := (dec_f (or_f2 (or_f1 h1))); have q3_ := (dec_f (or_f2 h1)); have q4_ := ((and_f h2).imp (fun h => (beq_f h)) (fun h => (beq_f h))); have q5_ := (dec_t h3); (try have bq_ := hp_math_Atan2); (try have n3_ := norm_in hr3); (try have n4_ := norm_in hr4); have hv0_ := hv0.1; rw [w64_id (x := (r2 + s)) (by omega)])) ?_
          refine TL.call (some 56) [(1, .pointer (some ⟨b1, 0, none⟩)), (4, .int .i64 r2), (5, .int .i64 s), (50, .int .i64 s), (56, .int .i64 (angle_Norm (r2 + s)))] (fun w _ => angle_Norm_w (r2 + s) w) (by kernel_rfl) (by kernel_rfl) ?_
          generalize hr3 : angle_Norm (r2 + s) = r3
          refine TL.run 5 [] [(1, .pointer (some ⟨b1, 0, none⟩)), (4, .int .i64 r2), (5, .int .i64 s), (6, .int .i64 r3), (50, .int .i64 s)] rfl ⟨by kernel_rfl, by kernel_rfl⟩ ?_
          refine TL.next rfl ?_
          refine TC.seq ?_
          refine TC.seq ?_
          refine TC.region ?_
          refine TL.run 3 [] [(1, .pointer (some ⟨b1, 0, none⟩)), (4, .int .i64 r2), (5, .int .i64 s), (6, .int .i64 r3), (50, .int .i64 s), (59, .bool ((s.tmod 2) == 1))] rfl ⟨by kernel_rfl, by kernel_rfl⟩ ?_
          refine TL.next rfl ?_
          refine TC.cond ((s.tmod 2) == 1) rfl (by kernel_rfl) (fun h4 => ?_) (fun h4 => ?_)
          · refine TC.region ?_
            refine TL.run 3 [] [(1, .pointer (some ⟨b1, 0, none⟩)), (4, .int .i64 r2), (50, .int .i64 s), (62, .int .i64 (w64 (r2 - s)))] rfl ⟨by kernel_rfl, by kernel_rfl⟩ ?_
            refine TL.rw 62 (.int .i64 (w64 (r2 - s))) (.int .i64 (r2 - s)) (by kernel_rfl) (int_eq (by have q0_ := (dec_f (or_f1 (or_f1 (or_f1 h1)))); have q1_ := (dec_f (or_f2 (or_f1 (or_f1 h1)))); have q2_ := (dec_f (or_f2 (or_f1 h1))); have q3_ := (dec_f (or_f2 h1)); have q4_ := ((and_f h2).imp (fun h => (beq_f h)) (fun h => (beq_f h))); have q5_ := (dec_t h3); have q6_ := (beq_t h4); (try have bq_ := hp_math_Atan2); (try have n3_ := norm_in hr3); (try have n4_ := norm_in hr4); have hv0_ := hv0.1; rw [w64_id (x := (r2 - s)) (by omega)])) ?_
            refine TL.call (some 63) [(1, .pointer (some ⟨b1, 0, none⟩)), (4, .int .i64 r2), (50, .int .i64 s), (63, .int .i64 (angle_Norm (r2 - s)))] (fun w _ => angle_Norm_w (r2 - s) w) (by kernel_rfl) (by kernel_rfl) ?_
            generalize hr4 : angle_Norm (r2 - s) = r4
            refine TL.run 5 [] [(1, .pointer (some ⟨b1, 0, none⟩)), (4, .int .i64 r2), (6, .int .i64 r4), (50, .int .i64 s)] rfl ⟨by kernel_rfl, by kernel_rfl⟩ ?_
            refine TL.next rfl ?_
            refine TC.seq ?_
            refine TC.region ?_
            refine TL.run 1 [] [(1, .pointer (some ⟨b1, 0, none⟩)), (4, .int .i64 r2), (6, .int .i64 r4), (50, .int .i64 s), (64, .int .i64 r4)] rfl ⟨by kernel_rfl, by kernel_rfl⟩ ?_
            refine TL.call (some 65) [(1, .pointer (some ⟨b1, 0, none⟩)), (4, .int .i64 r2), (6, .int .i64 r4), (50, .int .i64 s), (65, P.v (angle_unit r4))] (fun w hM => angle_unit_w r4 w (hT.sat hM)) (by kernel_rfl) (by kernel_rfl) ?_
            generalize hr5 : angle_unit r4 = r5
            refine TL.run 4 [] [(1, .pointer (some ⟨b1, 0, none⟩)), (4, .int .i64 r2), (6, .int .i64 r4), (50, .int .i64 s), (65, P.v r5), (67, .int .i64 (w64 (r4 + 1)))] rfl ⟨by kernel_rfl, by kernel_rfl⟩ ?_
            refine TL.rw 67 (.int .i64 (w64 (r4 + 1))) (.int .i64 (r4 + 1)) (by kernel_rfl) (int_eq (by have q0_ := (dec_f (or_f1 (or_f1 (or_f1 h1)))); have q1_ := (dec_f (or_f2 (or_f1 (or_f1 h1)))); have q2_ := (dec_f (or_f2 (or_f1 h1))); have q3_ := (dec_f (or_f2 h1)); have q4_ := ((and_f h2).imp (fun h => (beq_f h)) (fun h => (beq_f h))); have q5_ := (dec_t h3); have q6_ := (beq_t h4); (try have bq_ := hp_math_Atan2); (try have n3_ := norm_in hr3); (try have n4_ := norm_in hr4); have hv0_ := hv0.1; rw [w64_id (x := (r4 + 1)) (by omega)])) ?_
            refine TL.call (some 68) [(1, .pointer (some ⟨b1, 0, none⟩)), (4, .int .i64 r2), (6, .int .i64 r4), (50, .int .i64 s), (65, P.v r5), (68, P.v (angle_unit (r4 + 1)))] (fun w hM => angle_unit_w (r4 + 1) w (hT.sat hM)) (by kernel_rfl) (by kernel_rfl) ?_
            generalize hr6 : angle_unit (r4 + 1) = r6
            refine TL.write 0 (fun b2 => [(1, .pointer (some ⟨b1, 0, none⟩)), (4, .int .i64 r2), (6, .int .i64 r4), (7, .pointer (some ⟨b2, 0, none⟩)), (50, .int .i64 s), (65, P.v r5), (68, P.v r6)]) (fun b2 => [.inl (b2, .cells (P.c P.zero) 24 (0, 0)), .inl (b1, .cells (P.c v) 24 (0, 0))]) (fun b2 => ⟨by kernel_rfl, by kernel_rfl⟩) (fun b2 => ?_)
            refine TL.write 0 (fun b3 => [(1, .pointer (some ⟨b1, 0, none⟩)), (4, .int .i64 r2), (6, .int .i64 r4), (7, .pointer (some ⟨b2, 0, none⟩)), (8, .pointer (some ⟨b3, 0, none⟩)), (50, .int .i64 s), (65, P.v r5), (68, P.v r6)]) (fun b3 => [.inl (b3, .cells (P.c P.zero) 24 (0, 0)), .inl (b2, .cells (P.c P.zero) 24 (0, 0)), .inl (b1, .cells (P.c v) 24 (0, 0))]) (fun b3 => ⟨by kernel_rfl, by kernel_rfl⟩) (fun b3 => ?_)
            refine TL.write 1 (fun _ => [(1, .pointer (some ⟨b1, 0, none⟩)), (4, .int .i64 r2), (6, .int .i64 r4), (7, .pointer (some ⟨b2, 0, none⟩)), (8, .pointer (some ⟨b3, 0, none⟩)), (50, .int .i64 s), (68, P.v r6)]) (fun _ => [.inl (b3, .cells (P.c P.zero) 24 (0, 0)), .inl (b2, .cells (P.c r5) 24 (0, 0)), .inl (b1, .cells (P.c v) 24 (0, 0))]) (fun _ => ⟨by kernel_rfl, by kernel_rfl⟩) (fun _ => ?_)
            refine TL.write 0 (fun _ => [(1, .pointer (some ⟨b1, 0, none⟩)), (4, .int .i64 r2), (6, .int .i64 r4), (7, .pointer (some ⟨b2, 0, none⟩)), (8, .pointer (some ⟨b3, 0, none⟩)), (50, .int .i64 s)]) (fun _ => [.inl (b3, .cells (P.c r6) 24 (0, 0)), .inl (b2, .cells (P.c r5) 24 (0, 0)), .inl (b1, .cells (P.c v) 24 (0, 0))]) (fun _ => ⟨by kernel_rfl, by kernel_rfl⟩) (fun _ => ?_)
            refine TL.next rfl ?_
            refine TC.seq ?_
            refine TC.draw 8 (by kernel_rfl) (by kernel_rfl) (by kernel_rfl) ?_
            refine TQ.run 2 [1, 2] [(1, .pointer (some ⟨b1, 0, none⟩)), (4, .int .i64 r2), (6, .int .i64 r4), (7, .pointer (some ⟨b2, 0, none⟩)), (8, .pointer (some ⟨b3, 0, none⟩)), (50, .int .i64 s), (69, P.v r5), (70, P.v v)] rfl ⟨by kernel_rfl, by kernel_rfl⟩ ?_
            refine TQ.call (some 71) [(1, .pointer (some ⟨b1, 0, none⟩)), (4, .int .i64 r2), (6, .int .i64 r4), (7, .pointer (some ⟨b2, 0, none⟩)), (8, .pointer (some ⟨b3, 0, none⟩)), (50, .int .i64 s), (71, .int .i64 (angle_cross r5 v))] (fun w _ => angle_cross_w r5 v w) rfl (by kernel_rfl) (by kernel_rfl) ?_
            generalize hr7 : angle_cross r5 v = r7
            refine TQ.run 5 [2, 0] [(1, .pointer (some ⟨b1, 0, none⟩)), (4, .int .i64 r2), (6, .int .i64 r4), (7, .pointer (some ⟨b2, 0, none⟩)), (50, .int .i64 s), (71, .int .i64 r7), (72, P.v v), (73, P.v r6)] rfl ⟨by kernel_rfl, by kernel_rfl⟩ ?_
            refine TQ.call (some 74) [(1, .pointer (some ⟨b1, 0, none⟩)), (4, .int .i64 r2), (6, .int .i64 r4), (7, .pointer (some ⟨b2, 0, none⟩)), (50, .int .i64 s), (71, .int .i64 r7), (74, .int .i64 (angle_cross v r6))] (fun w _ => angle_cross_w v r6 w) rfl (by kernel_rfl) (by kernel_rfl) ?_
            generalize hr8 : angle_cross v r6 = r8
            refine TQ.run 8 [] [(1, .pointer (some ⟨b1, 0, none⟩)), (4, .int .i64 r2), (6, .int .i64 r4), (7, .pointer (some ⟨b2, 0, none⟩)), (9, .int .i64 r7), (10, .int .i64 r8), (50, .int .i64 s)] rfl ⟨by kernel_rfl, by kernel_rfl⟩ ?_
            refine TQ.next rfl ?_
            refine TC.seq ?_
            refine TC.region ?_
            refine TL.run 3 [] [(1, .pointer (some ⟨b1, 0, none⟩)), (4, .int .i64 r2), (6, .int .i64 r4), (7, .pointer (some ⟨b2, 0, none⟩)), (9, .int .i64 r7), (10, .int .i64 r8), (50, .int .i64 s), (77, .bool (decide (r7 ≥ 0)))] rfl ⟨by kernel_rfl, by kernel_rfl⟩ ?_
            refine TL.join 77 (decide (r7 ≥ 0)) 6 [] [] (fun β => [(1, .pointer (some ⟨b1, 0, none⟩)), (4, .int .i64 r2), (6, .int .i64 r4), (7, .pointer (some ⟨b2, 0, none⟩)), (9, .int .i64 r7), (10, .int .i64 r8), (50, .int .i64 s), (80, .bool (β && (decide (r8 > 0))))]) (by kernel_rfl) rfl ⟨by kernel_rfl, by kernel_rfl⟩ ⟨by kernel_rfl, by kernel_rfl⟩ ?_
            refine TL.run 7 [] [(1, .pointer (some ⟨b1, 0, none⟩)), (4, .int .i64 r2), (6, .int .i64 r4), (7, .pointer (some ⟨b2, 0, none⟩)), (9, .int .i64 r7), (10, .int .i64 r8), (50, .int .i64 s), (81, .bool ((decide (r7 ≥ 0)) && (decide (r8 > 0))))] rfl ⟨by kernel_rfl, by kernel_rfl⟩ ?_
            refine TL.join 81 ((decide (r7 ≥ 0)) && (decide (r8 > 0))) 20 [1, 2, 1, 2] [] (fun β => [(1, .pointer (some ⟨b1, 0, none⟩)), (4, .int .i64 r2), (6, .int .i64 r4), (9, .int .i64 r7), (10, .int .i64 r8), (50, .int .i64 s), (94, .bool (β && (decide ((w64 ((w64 (r5.X * v.X)) + (w64 (r5.Y * v.Y)))) > 0))))]) (by kernel_rfl) rfl ⟨by kernel_rfl, by kernel_rfl⟩ ⟨by kernel_rfl, by kernel_rfl⟩ ?_
            refine TL.next rfl ?_
            refine TC.cond (((decide (r7 ≥ 0)) && (decide (r8 > 0))) && (decide ((w64 ((w64 (r5.X * v.X)) + (w64 (r5.Y * v.Y)))) > 0))) rfl (by kernel_rfl) (fun h5 => ?_) (fun h5 => ?_)
            · refine TC.seq ?_
              refine TC.seq ?_
              refine TC.region ?_
              refine TL.run 3 [] [(6, .int .i64 r4), (97, .bool (decide (r7 ≤ r8)))] rfl ⟨by kernel_rfl, by kernel_rfl⟩ ?_
              refine TL.next rfl ?_
              refine TC.cond (decide (r7 ≤ r8)) rfl (by kernel_rfl) (fun h6 => ?_) (fun h6 => ?_)
              · refine TC.seq ?_
                refine TC.region ?_
                refine TL.run 3 [] [(2, .int .i64 r4), (3, .int .i64 0)] rfl ⟨by kernel_rfl, by kernel_rfl⟩ ?_
                refine TL.next rfl ?_
                refine TC.ret ?_
                refine TE.ret_then (TE.ret_block (TE.ret_then (TE.ret_then (TE.ret_block (TE.ret_then (TE.ret_then ?_))))))
                exact TE.retM (.inl rfl) (r4, 0) [] (.tuple #[.int .i64 r4, .int .i64 0]) ⟨by kernel_rfl, by kernel_rfl⟩ rfl (fun _ hM => (hM.sub (.cons _ (.cons _ (.cons _ (.slnil))))).fact (by have q0_ := (dec_f (or_f1 (or_f1 (or_f1 h1)))); have q1_ := (dec_f (or_f2 (or_f1 (or_f1 h1)))); have q2_ := (dec_f (or_f2 (or_f1 h1))); have q3_ := (dec_f (or_f2 h1)); have q4_ := ((and_f h2).imp (fun h => (beq_f h)) (fun h => (beq_f h))); have q5_ := (dec_t h3); have q6_ := (beq_t h4); have q7_ := (dec_t (and_t1 (and_t1 h5))); have q8_ := (dec_t (and_t2 (and_t1 h5))); have q9_ := (dec_t (and_t2 h5)); have q10_ := (dec_t h6); (try have bq_ := hp_math_Atan2); (try have n3_ := norm_in hr3); (try have n4_ := norm_in hr4); have hv0_ := hv0.1; (try dsimp only); first | exact of_out (by omega) | exact of_zero (of_inb h1) (by omega) | exact ret_F (of_inb h1) (of_nzb h2) hr4 hr5 hr6 hr7 hr8 h5 h6 hr9 | exact ret_F (of_inb h1) (of_nzb h2) hr3 hr10 hr11 hr12 hr13 h7 h8 hr14 | exact ret_T (of_inb h1) (of_nzb h2) hr4 hr5 hr6 hr7 hr8 h5 h6 | exact ret_T (of_inb h1) (of_nzb h2) hr3 hr10 hr11 hr12 hr13 h7 h8 | exact False.elim ho0))
              · refine TC.skip ?_
                refine TE.next ?_
                refine TC.seq ?_
                refine TC.region ?_
                refine TL.run 2 [] [(100, .int .i64 (w64 (r4 + 1)))] rfl ⟨by kernel_rfl, by kernel_rfl⟩ ?_
                refine TL.rw 100 (.int .i64 (w64 (r4 + 1))) (.int .i64 (r4 + 1)) (by kernel_rfl) (int_eq (by have q0_ := (dec_f (or_f1 (or_f1 (or_f1 h1)))); have q1_ := (dec_f (or_f2 (or_f1 (or_f1 h1)))); have q2_ := (dec_f (or_f2 (or_f1 h1))); have q3_ := (dec_f (or_f2 h1)); have q4_ := ((and_f h2).imp (fun h => (beq_f h)) (fun h => (beq_f h))); have q5_ := (dec_t h3); have q6_ := (beq_t h4); have q7_ := (dec_t (and_t1 (and_t1 h5))); have q8_ := (dec_t (and_t2 (and_t1 h5))); have q9_ := (dec_t (and_t2 h5)); have q10_ := (dec_f h6); (try have bq_ := hp_math_Atan2); (try have n3_ := norm_in hr3); (try have n4_ := norm_in hr4); have hv0_ := hv0.1; rw [w64_id (x := (r4 + 1)) (by omega)])) ?_
                refine TL.call (some 101) [(101, .int .i64 (angle_Norm (r4 + 1)))] (fun w _ => angle_Norm_w (r4 + 1) w) (by kernel_rfl) (by kernel_rfl) ?_
                generalize hr9 : angle_Norm (r4 + 1) = r9
                refine TL.run 5 [] [(2, .int .i64 r9), (3, .int .i64 0)] rfl ⟨by kernel_rfl, by kernel_rfl⟩ ?_
                refine TL.next rfl ?_
                refine TC.ret ?_
                refine TE.ret_block (TE.ret_then (TE.ret_then (TE.ret_block (TE.ret_then (TE.ret_then ?_)))))
                exact TE.retM (.inl rfl) (r9, 0) [] (.tuple #[.int .i64 r9, .int .i64 0]) ⟨by kernel_rfl, by kernel_rfl⟩ rfl (fun _ hM => (hM.sub (.cons _ (.cons _ (.cons _ (.slnil))))).fact (by have q0_ := (dec_f (or_f1 (or_f1 (or_f1 h1)))); have q1_ := (dec_f (or_f2 (or_f1 (or_f1 h1)))); have q2_ := (dec_f (or_f2 (or_f1 h1))); have q3_ := (dec_f (or_f2 h1)); have q4_ := ((and_f h2).imp (fun h => (beq_f h)) (fun h => (beq_f h))); have q5_ := (dec_t h3); have q6_ := (beq_t h4); have q7_ := (dec_t (and_t1 (and_t1 h5))); have q8_ := (dec_t (and_t2 (and_t1 h5))); have q9_ := (dec_t (and_t2 h5)); have q10_ := (dec_f h6); (try have bq_ := hp_math_Atan2); (try have n3_ := norm_in hr3); (try have n4_ := norm_in hr4); have hv0_ := hv0.1; (try dsimp only); first | exact of_out (by omega) | exact of_zero (of_inb h1) (by omega) | exact ret_F (of_inb h1) (of_nzb h2) hr4 hr5 hr6 hr7 hr8 h5 h6 hr9 | exact ret_F (of_inb h1) (of_nzb h2) hr3 hr10 hr11 hr12 hr13 h7 h8 hr14 | exact ret_T (of_inb h1) (of_nzb h2) hr4 hr5 hr6 hr7 hr8 h5 h6 | exact ret_T (of_inb h1) (of_nzb h2) hr3 hr10 hr11 hr12 hr13 h7 h8 | exact False.elim ho0))
            · refine TC.skip ?_
              refine TE.normal_block ?_
              refine TE.next ?_
              refine TC.region ?_
              refine TL.run 2 [] [(1, .pointer (some ⟨b1, 0, none⟩)), (4, .int .i64 r2), (50, .int .i64 (w64 (s + 1)))] rfl ⟨by kernel_rfl, by kernel_rfl⟩ ?_
              refine TL.rw 50 (.int .i64 (w64 (s + 1))) (.int .i64 (s + 1)) (by kernel_rfl) (int_eq (by have q0_ := (dec_f (or_f1 (or_f1 (or_f1 h1)))); have q1_ := (dec_f (or_f2 (or_f1 (or_f1 h1)))); have q2_ := (dec_f (or_f2 (or_f1 h1))); have q3_ := (dec_f (or_f2 h1)); have q4_ := ((and_f h2).imp (fun h => (beq_f h)) (fun h => (beq_f h))); have q5_ := (dec_t h3); have q6_ := (beq_t h4); have q7_ := ((and_f h5).imp (fun h => ((and_f h).imp (fun h => (dec_f h)) (fun h => (dec_f h)))) (fun h => (dec_f h))); (try have bq_ := hp_math_Atan2); (try have n3_ := norm_in hr3); (try have n4_ := norm_in hr4); have hv0_ := hv0.1; rw [w64_id (x := (s + 1)) (by omega)])) ?_
              refine TL.done rfl ?_
              exact TE.again (x := s) (s + 1) (by have q0_ := (dec_f (or_f1 (or_f1 (or_f1 h1)))); have q1_ := (dec_f (or_f2 (or_f1 (or_f1 h1)))); have q2_ := (dec_f (or_f2 (or_f1 h1))); have q3_ := (dec_f (or_f2 h1)); have q4_ := ((and_f h2).imp (fun h => (beq_f h)) (fun h => (beq_f h))); have q5_ := (dec_t h3); have q6_ := (beq_t h4); have q7_ := ((and_f h5).imp (fun h => ((and_f h).imp (fun h => (dec_f h)) (fun h => (dec_f h)))) (fun h => (dec_f h))); (try have bq_ := hp_math_Atan2); (try have n3_ := norm_in hr3); (try have n4_ := norm_in hr4); have hv0_ := hv0.1; first | exact nxt_T (of_inb h1) hv0 (of_decide_eq_true h3) h4 hr4 hr5 hr6 hr7 hr8 h5 | exact nxt_F (of_inb h1) hv0 (of_decide_eq_true h3) h4 hr3 hr10 hr11 hr12 hr13 h7) (by have q0_ := (dec_f (or_f1 (or_f1 (or_f1 h1)))); have q1_ := (dec_f (or_f2 (or_f1 (or_f1 h1)))); have q2_ := (dec_f (or_f2 (or_f1 h1))); have q3_ := (dec_f (or_f2 h1)); have q4_ := ((and_f h2).imp (fun h => (beq_f h)) (fun h => (beq_f h))); have q5_ := (dec_t h3); have q6_ := (beq_t h4); have q7_ := ((and_f h5).imp (fun h => ((and_f h).imp (fun h => (dec_f h)) (fun h => (dec_f h)))) (fun h => (dec_f h))); (try have bq_ := hp_math_Atan2); (try have n3_ := norm_in hr3); (try have n4_ := norm_in hr4); have hv0_ := hv0.1; (try clear hr4); (try clear hr3); (try clear hr5); (try clear hr6); (try clear hr7); (try clear hr8); (try clear hr9); (try clear hr10); (try clear hr11); (try clear hr12); (try clear hr13); (try clear hr14);  omega) (by kernel_rfl) (.cons _ (.cons _ (.cons_cons _ (.slnil))))
          · refine TC.skip ?_
            refine TE.next ?_
            refine TC.seq ?_
            refine TC.region ?_
            refine TL.run 1 [] [(1, .pointer (some ⟨b1, 0, none⟩)), (4, .int .i64 r2), (6, .int .i64 r3), (50, .int .i64 s), (64, .int .i64 r3)] rfl ⟨by kernel_rfl, by kernel_rfl⟩ ?_
            refine TL.call (some 65) [(1, .pointer (some ⟨b1, 0, none⟩)), (4, .int .i64 r2), (6, .int .i64 r3), (50, .int .i64 s), (65, P.v (angle_unit r3))] (fun w hM => angle_unit_w r3 w (hT.sat hM)) (by kernel_rfl) (by kernel_rfl) ?_
            generalize hr10 : angle_unit r3 = r10
            refine TL.run 4 [] [(1, .pointer (some ⟨b1, 0, none⟩)), (4, .int .i64 r2), (6, .int .i64 r3), (50, .int .i64 s), (65, P.v r10), (67, .int .i64 (w64 (r3 + 1)))] rfl ⟨by kernel_rfl, by kernel_rfl⟩ ?_
            refine TL.rw 67 (.int .i64 (w64 (r3 + 1))) (.int .i64 (r3 + 1)) (by kernel_rfl) (int_eq (by have q0_ := (dec_f (or_f1 (or_f1 (or_f1 h1)))); have q1_ := (dec_f (or_f2 (or_f1 (or_f1 h1)))); have q2_ := (dec_f (or_f2 (or_f1 h1))); have q3_ := (dec_f (or_f2 h1)); have q4_ := ((and_f h2).imp (fun h => (beq_f h)) (fun h => (beq_f h))); have q5_ := (dec_t h3); have q6_ := (beq_f h4); (try have bq_ := hp_math_Atan2); (try have n3_ := norm_in hr3); (try have n4_ := norm_in hr4); have hv0_ := hv0.1; rw [w64_id (x := (r3 + 1)) (by omega)])) ?_
            refine TL.call (some 68) [(1, .pointer (some ⟨b1, 0, none⟩)), (4, .int .i64 r2), (6, .int .i64 r3), (50, .int .i64 s), (65, P.v r10), (68, P.v (angle_unit (r3 + 1)))] (fun w hM => angle_unit_w (r3 + 1) w (hT.sat hM)) (by kernel_rfl) (by kernel_rfl) ?_
            generalize hr11 : angle_unit (r3 + 1) = r11
            refine TL.write 0 (fun b4 => [(1, .pointer (some ⟨b1, 0, none⟩)), (4, .int .i64 r2), (6, .int .i64 r3), (7, .pointer (some ⟨b4, 0, none⟩)), (50, .int .i64 s), (65, P.v r10), (68, P.v r11)]) (fun b4 => [.inl (b4, .cells (P.c P.zero) 24 (0, 0)), .inl (b1, .cells (P.c v) 24 (0, 0))]) (fun b4 => ⟨by kernel_rfl, by kernel_rfl⟩) (fun b4 => ?_)
            refine TL.write 0 (fun b5 => [(1, .pointer (some ⟨b1, 0, none⟩)), (4, .int .i64 r2), (6, .int .i64 r3), (7, .pointer (some ⟨b4, 0, none⟩)), (8, .pointer (some ⟨b5, 0, none⟩)), (50, .int .i64 s), (65, P.v r10), (68, P.v r11)]) (fun b5 => [.inl (b5, .cells (P.c P.zero) 24 (0, 0)), .inl (b4, .cells (P.c P.zero) 24 (0, 0)), .inl (b1, .cells (P.c v) 24 (0, 0))]) (fun b5 => ⟨by kernel_rfl, by kernel_rfl⟩) (fun b5 => ?_)
            refine TL.write 1 (fun _ => [(1, .pointer (some ⟨b1, 0, none⟩)), (4, .int .i64 r2), (6, .int .i64 r3), (7, .pointer (some ⟨b4, 0, none⟩)), (8, .pointer (some ⟨b5, 0, none⟩)), (50, .int .i64 s), (68, P.v r11)]) (fun _ => [.inl (b5, .cells (P.c P.zero) 24 (0, 0)), .inl (b4, .cells (P.c r10) 24 (0, 0)), .inl (b1, .cells (P.c v) 24 (0, 0))]) (fun _ => ⟨by kernel_rfl, by kernel_rfl⟩) (fun _ => ?_)
            refine TL.write 0 (fun _ => [(1, .pointer (some ⟨b1, 0, none⟩)), (4, .int .i64 r2), (6, .int .i64 r3), (7, .pointer (some ⟨b4, 0, none⟩)), (8, .pointer (some ⟨b5, 0, none⟩)), (50, .int .i64 s)]) (fun _ => [.inl (b5, .cells (P.c r11) 24 (0, 0)), .inl (b4, .cells (P.c r10) 24 (0, 0)), .inl (b1, .cells (P.c v) 24 (0, 0))]) (fun _ => ⟨by kernel_rfl, by kernel_rfl⟩) (fun _ => ?_)
            refine TL.next rfl ?_
            refine TC.seq ?_
            refine TC.draw 8 (by kernel_rfl) (by kernel_rfl) (by kernel_rfl) ?_
            refine TQ.run 2 [1, 2] [(1, .pointer (some ⟨b1, 0, none⟩)), (4, .int .i64 r2), (6, .int .i64 r3), (7, .pointer (some ⟨b4, 0, none⟩)), (8, .pointer (some ⟨b5, 0, none⟩)), (50, .int .i64 s), (69, P.v r10), (70, P.v v)] rfl ⟨by kernel_rfl, by kernel_rfl⟩ ?_
            refine TQ.call (some 71) [(1, .pointer (some ⟨b1, 0, none⟩)), (4, .int .i64 r2), (6, .int .i64 r3), (7, .pointer (some ⟨b4, 0, none⟩)), (8, .pointer (some ⟨b5, 0, none⟩)), (50, .int .i64 s), (71, .int .i64 (angle_cross r10 v))] (fun w _ => angle_cross_w r10 v w) rfl (by kernel_rfl) (by kernel_rfl) ?_
            generalize hr12 : angle_cross r10 v = r12
            refine TQ.run 5 [2, 0] [(1, .pointer (some ⟨b1, 0, none⟩)), (4, .int .i64 r2), (6, .int .i64 r3), (7, .pointer (some ⟨b4, 0, none⟩)), (50, .int .i64 s), (71, .int .i64 r12), (72, P.v v), (73, P.v r11)] rfl ⟨by kernel_rfl, by kernel_rfl⟩ ?_
            refine TQ.call (some 74) [(1, .pointer (some ⟨b1, 0, none⟩)), (4, .int .i64 r2), (6, .int .i64 r3), (7, .pointer (some ⟨b4, 0, none⟩)), (50, .int .i64 s), (71, .int .i64 r12), (74, .int .i64 (angle_cross v r11))] (fun w _ => angle_cross_w v r11 w) rfl (by kernel_rfl) (by kernel_rfl) ?_
            generalize hr13 : angle_cross v r11 = r13
            refine TQ.run 8 [] [(1, .pointer (some ⟨b1, 0, none⟩)), (4, .int .i64 r2), (6, .int .i64 r3), (7, .pointer (some ⟨b4, 0, none⟩)), (9, .int .i64 r12), (10, .int .i64 r13), (50, .int .i64 s)] rfl ⟨by kernel_rfl, by kernel_rfl⟩ ?_
            refine TQ.next rfl ?_
            refine TC.seq ?_
            refine TC.region ?_
            refine TL.run 3 [] [(1, .pointer (some ⟨b1, 0, none⟩)), (4, .int .i64 r2), (6, .int .i64 r3), (7, .pointer (some ⟨b4, 0, none⟩)), (9, .int .i64 r12), (10, .int .i64 r13), (50, .int .i64 s), (77, .bool (decide (r12 ≥ 0)))] rfl ⟨by kernel_rfl, by kernel_rfl⟩ ?_
            refine TL.join 77 (decide (r12 ≥ 0)) 6 [] [] (fun β => [(1, .pointer (some ⟨b1, 0, none⟩)), (4, .int .i64 r2), (6, .int .i64 r3), (7, .pointer (some ⟨b4, 0, none⟩)), (9, .int .i64 r12), (10, .int .i64 r13), (50, .int .i64 s), (80, .bool (β && (decide (r13 > 0))))]) (by kernel_rfl) rfl ⟨by kernel_rfl, by kernel_rfl⟩ ⟨by kernel_rfl, by kernel_rfl⟩ ?_
            refine TL.run 7 [] [(1, .pointer (some ⟨b1, 0, none⟩)), (4, .int .i64 r2), (6, .int .i64 r3), (7, .pointer (some ⟨b4, 0, none⟩)), (9, .int .i64 r12), (10, .int .i64 r13), (50, .int .i64 s), (81, .bool ((decide (r12 ≥ 0)) && (decide (r13 > 0))))] rfl ⟨by kernel_rfl, by kernel_rfl⟩ ?_
            refine TL.join 81 ((decide (r12 ≥ 0)) && (decide (r13 > 0))) 20 [1, 2, 1, 2] [] (fun β => [(1, .pointer (some ⟨b1, 0, none⟩)), (4, .int .i64 r2), (6, .int .i64 r3), (9, .int .i64 r12), (10, .int .i64 r13), (50, .int .i64 s), (94, .bool (β && (decide ((w64 ((w64 (r10.X * v.X)) + (w64 (r10.Y * v.Y)))) > 0))))]) (by kernel_rfl) rfl ⟨by kernel_rfl, by kernel_rfl⟩ ⟨by kernel_rfl, by kernel_rfl⟩ ?_
            refine TL.next rfl ?_
            refine TC.cond (((decide (r12 ≥ 0)) && (decide (r13 > 0))) && (decide ((w64 ((w64 (r10.X * v.X)) + (w64 (r10.Y * v.Y)))) > 0))) rfl (by kernel_rfl) (fun h7 => ?_) (fun h7 => ?_)
            · refine TC.seq ?_
              refine TC.seq ?_
              refine TC.region ?_
              refine TL.run 3 [] [(6, .int .i64 r3), (97, .bool (decide (r12 ≤ r13)))] rfl ⟨by kernel_rfl, by kernel_rfl⟩ ?_
              refine TL.next rfl ?_
              refine TC.cond (decide (r12 ≤ r13)) rfl (by kernel_rfl) (fun h8 => ?_) (fun h8 => ?_)
              · refine TC.seq ?_
                refine TC.region ?_
                refine TL.run 3 [] [(2, .int .i64 r3), (3, .int .i64 0)] rfl ⟨by kernel_rfl, by kernel_rfl⟩ ?_
                refine TL.next rfl ?_
                refine TC.ret ?_
                refine TE.ret_then (TE.ret_block (TE.ret_then (TE.ret_then (TE.ret_block (TE.ret_then (TE.ret_then ?_))))))
                exact TE.retM (.inl rfl) (r3, 0) [] (.tuple #[.int .i64 r3, .int .i64 0]) ⟨by kernel_rfl, by kernel_rfl⟩ rfl (fun _ hM => (hM.sub (.cons _ (.cons _ (.cons _ (.slnil))))).fact (by have q0_ := (dec_f (or_f1 (or_f1 (or_f1 h1)))); have q1_ := (dec_f (or_f2 (or_f1 (or_f1 h1)))); have q2_ := (dec_f (or_f2 (or_f1 h1))); have q3_ := (dec_f (or_f2 h1)); have q4_ := ((and_f h2).imp (fun h => (beq_f h)) (fun h => (beq_f h))); have q5_ := (dec_t h3); have q6_ := (beq_f h4); have q7_ := (dec_t (and_t1 (and_t1 h7))); have q8_ := (dec_t (and_t2 (and_t1 h7))); have q9_ := (dec_t (and_t2 h7)); have q10_ := (dec_t h8); (try have bq_ := hp_math_Atan2); (try have n3_ := norm_in hr3); (try have n4_ := norm_in hr4); have hv0_ := hv0.1; (try dsimp only); first | exact of_out (by omega) | exact of_zero (of_inb h1) (by omega) | exact ret_F (of_inb h1) (of_nzb h2) hr4 hr5 hr6 hr7 hr8 h5 h6 hr9 | exact ret_F (of_inb h1) (of_nzb h2) hr3 hr10 hr11 hr12 hr13 h7 h8 hr14 | exact ret_T (of_inb h1) (of_nzb h2) hr4 hr5 hr6 hr7 hr8 h5 h6 | exact ret_T (of_inb h1) (of_nzb h2) hr3 hr10 hr11 hr12 hr13 h7 h8 | exact False.elim ho0))
              · refine TC.skip ?_
                refine TE.next ?_
                refine TC.seq ?_
                refine TC.region ?_
                refine TL.run 2 [] [(100, .int .i64 (w64 (r3 + 1)))] rfl ⟨by kernel_rfl, by kernel_rfl⟩ ?_
                refine TL.rw 100 (.int .i64 (w64 (r3 + 1))) (.int .i64 (r3 + 1)) (by kernel_rfl) (int_eq (by have q0_ := (dec_f (or_f1 (or_f1 (or_f1 h1)))); have q1_ := (dec_f (or_f2 (or_f1 (or_f1 h1)))); have q2_ := (dec_f (or_f2 (or_f1 h1))); have q3_ := (dec_f (or_f2 h1)); have q4_ := ((and_f h2).imp (fun h => (beq_f h)) (fun h => (beq_f h))); have q5_ := (dec_t h3); have q6_ := (beq_f h4); have q7_ := (dec_t (and_t1 (and_t1 h7))); have q8_ := (dec_t (and_t2 (and_t1 h7))); have q9_ := (dec_t (and_t2 h7)); have q10_ := (dec_f h8); (try have bq_ := hp_math_Atan2); (try have n3_ := norm_in hr3); (try have n4_ := norm_in hr4); have hv0_ := hv0.1; rw [w64_id (x := (r3 + 1)) (by omega)])) ?_
                refine TL.call (some 101) [(101, .int .i64 (angle_Norm (r3 + 1)))] (fun w _ => angle_Norm_w (r3 + 1) w) (by kernel_rfl) (by kernel_rfl) ?_
                generalize hr14 : angle_Norm (r3 + 1) = r14
                refine TL.run 5 [] [(2, .int .i64 r14), (3, .int .i64 0)] rfl ⟨by kernel_rfl, by kernel_rfl⟩ ?_
                refine TL.next rfl ?_
                refine TC.ret ?_
                refine TE.ret_block (TE.ret_then (TE.ret_then (TE.ret_block (TE.ret_then (TE.ret_then ?_)))))
                exact TE.retM (.inl rfl) (r14, 0) [] (.tuple #[.int .i64 r14, .int .i64 0]) ⟨by kernel_rfl, by kernel_rfl⟩ rfl (fun _ hM => (hM.sub (.cons _ (.cons _ (.cons _ (.slnil))))).fact (by have q0_ := (dec_f (or_f1 (or_f1 (or_f1 h1)))); have q1_ := (dec_f (or_f2 (or_f1 (or_f1 h1)))); have q2_ := (dec_f (or_f2 (or_f1 h1))); have q3_ := (dec_f (or_f2 h1)); have q4_ := ((and_f h2).imp (fun h => (beq_f h)) (fun h => (beq_f h))); have q5_ := (dec_t h3); have q6_ := (beq_f h4); have q7_ := (dec_t (and_t1 (and_t1 h7))); have q8_ := (dec_t (and_t2 (and_t1 h7))); have q9_ := (dec_t (and_t2 h7)); have q10_ := (dec_f h8); (try have bq_ := hp_math_Atan2); (try have n3_ := norm_in hr3); (try have n4_ := norm_in hr4); have hv0_ := hv0.1; (try dsimp only); first | exact of_out (by omega) | exact of_zero (of_inb h1) (by omega) | exact ret_F (of_inb h1) (of_nzb h2) hr4 hr5 hr6 hr7 hr8 h5 h6 hr9 | exact ret_F (of_inb h1) (of_nzb h2) hr3 hr10 hr11 hr12 hr13 h7 h8 hr14 | exact ret_T (of_inb h1) (of_nzb h2) hr4 hr5 hr6 hr7 hr8 h5 h6 | exact ret_T (of_inb h1) (of_nzb h2) hr3 hr10 hr11 hr12 hr13 h7 h8 | exact False.elim ho0))
            · refine TC.skip ?_
              refine TE.normal_block ?_
              refine TE.next ?_
              refine TC.region ?_
              refine TL.run 2 [] [(1, .pointer (some ⟨b1, 0, none⟩)), (4, .int .i64 r2), (50, .int .i64 (w64 (s + 1)))] rfl ⟨by kernel_rfl, by kernel_rfl⟩ ?_
              refine TL.rw 50 (.int .i64 (w64 (s + 1))) (.int .i64 (s + 1)) (by kernel_rfl) (int_eq (by have q0_ := (dec_f (or_f1 (or_f1 (or_f1 h1)))); have q1_ := (dec_f (or_f2 (or_f1 (or_f1 h1)))); have q2_ := (dec_f (or_f2 (or_f1 h1))); have q3_ := (dec_f (or_f2 h1)); have q4_ := ((and_f h2).imp (fun h => (beq_f h)) (fun h => (beq_f h))); have q5_ := (dec_t h3); have q6_ := (beq_f h4); have q7_ := ((and_f h7).imp (fun h => ((and_f h).imp (fun h => (dec_f h)) (fun h => (dec_f h)))) (fun h => (dec_f h))); (try have bq_ := hp_math_Atan2); (try have n3_ := norm_in hr3); (try have n4_ := norm_in hr4); have hv0_ := hv0.1; rw [w64_id (x := (s + 1)) (by omega)])) ?_
              refine TL.done rfl ?_
              exact TE.again (x := s) (s + 1) (by have q0_ := (dec_f (or_f1 (or_f1 (or_f1 h1)))); have q1_ := (dec_f (or_f2 (or_f1 (or_f1 h1)))); have q2_ := (dec_f (or_f2 (or_f1 h1))); have q3_ := (dec_f (or_f2 h1)); have q4_ := ((and_f h2).imp (fun h => (beq_f h)) (fun h => (beq_f h))); have q5_ := (dec_t h3); have q6_ := (beq_f h4); have q7_ := ((and_f h7).imp (fun h => ((and_f h).imp (fun h => (dec_f h)) (fun h => (dec_f h)))) (fun h => (dec_f h))); (try have bq_ := hp_math_Atan2); (try have n3_ := norm_in hr3); (try have n4_ := norm_in hr4); have hv0_ := hv0.1; first | exact nxt_T (of_inb h1) hv0 (of_decide_eq_true h3) h4 hr4 hr5 hr6 hr7 hr8 h5 | exact nxt_F (of_inb h1) hv0 (of_decide_eq_true h3) h4 hr3 hr10 hr11 hr12 hr13 h7) (by have q0_ := (dec_f (or_f1 (or_f1 (or_f1 h1)))); have q1_ := (dec_f (or_f2 (or_f1 (or_f1 h1)))); have q2_ := (dec_f (or_f2 (or_f1 h1))); have q3_ := (dec_f (or_f2 h1)); have q4_ := ((and_f h2).imp (fun h => (beq_f h)) (fun h => (beq_f h))); have q5_ := (dec_t h3); have q6_ := (beq_f h4); have q7_ := ((and_f h7).imp (fun h => ((and_f h).imp (fun h => (dec_f h)) (fun h => (dec_f h)))) (fun h => (dec_f h))); (try have bq_ := hp_math_Atan2); (try have n3_ := norm_in hr3); (try have n4_ := norm_in hr4); have hv0_ := hv0.1; (try clear hr4); (try clear hr3); (try clear hr5); (try clear hr6); (try clear hr7); (try clear hr8); (try clear hr9); (try clear hr10); (try clear hr11); (try clear hr12); (try clear hr13); (try clear hr14);  omega) (by kernel_rfl) (.cons _ (.cons _ (.cons_cons _ (.slnil))))
        · refine TC.exit ?_
          refine TE.exit_then (TE.exit_then (TE.exit_same ?_))
          exact TE.cut () (by have q0_ := (dec_f (or_f1 (or_f1 (or_f1 h1)))); have q1_ := (dec_f (or_f2 (or_f1 (or_f1 h1)))); have q2_ := (dec_f (or_f2 (or_f1 h1))); have q3_ := (dec_f (or_f2 h1)); have q4_ := ((and_f h2).imp (fun h => (beq_f h)) (fun h => (beq_f h))); have q5_ := (dec_f h3); (try have bq_ := hp_math_Atan2); (try have n3_ := norm_in hr3); (try have n4_ := norm_in hr4); have hv0_ := hv0.1; first | exact of_end (of_nzb h2) hv0 (of_decide_eq_false h3)) (by kernel_rfl) (.cons_cons _ (.slnil))
      · intro _ ho0
        refine TE.next ?_
        refine TC.seq ?_
        refine TC.region ?_
        refine TL.run 2 [] [(2, .int .i64 0), (3, .int .i64 0)] rfl ⟨by kernel_rfl, by kernel_rfl⟩ ?_
        refine TL.next rfl ?_
        refine TC.ret ?_
        exact TE.retM (.inl rfl) (0, 0) [] (.tuple #[.int .i64 0, .int .i64 0]) ⟨by kernel_rfl, by kernel_rfl⟩ rfl (fun _ hM => (hM.sub (.cons _ (.slnil))).fact (by have q0_ := (dec_f (or_f1 (or_f1 (or_f1 h1)))); have q1_ := (dec_f (or_f2 (or_f1 (or_f1 h1)))); have q2_ := (dec_f (or_f2 (or_f1 h1))); have q3_ := (dec_f (or_f2 h1)); have q4_ := ((and_f h2).imp (fun h => (beq_f h)) (fun h => (beq_f h))); (try have bq_ := hp_math_Atan2); (try have n3_ := norm_in hr3); (try have n4_ := norm_in hr4); (try dsimp only); first | exact of_out (by omega) | exact of_zero (of_inb h1) (by omega) | exact ret_F (of_inb h1) (of_nzb h2) hr4 hr5 hr6 hr7 hr8 h5 h6 hr9 | exact ret_F (of_inb h1) (of_nzb h2) hr3 hr10 hr11 hr12 hr13 h7 h8 hr14 | exact ret_T (of_inb h1) (of_nzb h2) hr4 hr5 hr6 hr7 hr8 h5 h6 | exact ret_T (of_inb h1) (of_nzb h2) hr3 hr10 hr11 hr12 hr13 h7 h8 | exact False.elim ho0))

end Go.Sky
