/- Functions of the program, each with the Lean function that it computes. Conditions: none. -/
import Derived.Test.YtdfofmhbmnphnaaDoorDirLaw
namespace Go.Sky
open Go Go.Eng Go.Proofs
set_option maxHeartbeats 4000000 in
set_option maxRecDepth 100000 in
theorem skywaylaw1_AngleDirections_w (v : P) (w : World) (hM : Sat ⟨w, feet []⟩ [] w) (hT : Tabs w) : Calls Tryd.prog 3 #[P.v v] w (RetM (Γ := Bool) ⟨w, feet []⟩ (fun g => .bool g) (fun g => [.inr (Fact (g = true))])) := by
  refine calls_introM (w0 := ⟨w, feet []⟩) (vs := [P.v v]) hM Tryd.func3 rfl Tryd.ntmps3 rfl ?_
  refine TC.weak [(0, P.v v)] (by kernel_rfl) ?_
  refine TC.seq ?_
  refine TC.region ?_
  refine TL.write 0 (fun b1 => [(1, .pointer (some ⟨b1, 0, none⟩))]) (fun b1 => [.inl (b1, .cells (P.c v) 23 (0, 0))]) (fun b1 => ⟨by kernel_rfl, by kernel_rfl⟩) (fun b1 => ?_)
  refine TL.run 2 [] [(1, .pointer (some ⟨b1, 0, none⟩))] rfl ⟨by kernel_rfl, by kernel_rfl⟩ ?_
  refine TL.next rfl ?_
  refine TC.seq ?_
  refine TC.seq ?_
  refine TC.region ?_
  refine TL.call (some 9) [(1, .pointer (some ⟨b1, 0, none⟩)), (9, .bool ((skywaylaw1_angleWorks)))] (fun w hM => skywaylaw1_angleWorks_w w (hT.sat hM)) (by kernel_rfl) (by kernel_rfl) ?_
  generalize hr1 : skywaylaw1_angleWorks = r1
  refine TL.run 2 [] [(1, .pointer (some ⟨b1, 0, none⟩)), (10, .bool (!r1))] rfl ⟨by kernel_rfl, by kernel_rfl⟩ ?_
  refine TL.next rfl ?_
  refine TC.cond (!r1) rfl (by kernel_rfl) (fun h1 => ?_) (fun h1 => ?_)
  · exact ((by rw [← hr1, works_true] at h1; cases h1) : False).elim
  · refine TC.skip ?_
    refine TE.next ?_
    refine TC.seq ?_
    refine TC.region ?_
    refine TL.run 1 [0] [(1, .pointer (some ⟨b1, 0, none⟩)), (12, P.v v)] rfl ⟨by kernel_rfl, by kernel_rfl⟩ ?_
    refine TL.callM (Γ := Int × Int) (fun g => .tuple #[.int .i64 g.1, .int .i64 g.2]) (fun g => [.inr (Fact (g.1 = (ofF v).1 ∧ g.2 = (ofF v).2))]) [] [.inl (b1, .cells (P.c v) 23 (0, 0))] (some 13) (fun g => [(1, .pointer (some ⟨b1, 0, none⟩)), (13, .tuple #[.int .i64 g.1, .int .i64 g.2])]) (fun w hM => angle_Of_w v w hM.pass (hT.sat hM)) (by kernel_rfl) (fun g => by kernel_rfl) ?_
    rintro ⟨r_, r__2⟩
    refine TL.conv [.inr (Fact (r_ = (ofF v).1 ∧ r__2 = (ofF v).2)), .inl (b1, .cells (P.c v) 23 (0, 0))] (fun _ hM => hM) ?_
    refine TL.know (fun w hM => hM.fact_at 0 rfl) (fun hp_angle_Of => ?_)
    refine TL.forget [.inl (b1, .cells (P.c v) 23 (0, 0))] (.cons _ (List.Sublist.refl _)) ?_
    refine TL.run 7 [] [(1, .pointer (some ⟨b1, 0, none⟩)), (3, .int .i64 r_), (4, .int .i64 r__2)] rfl ⟨by kernel_rfl, by kernel_rfl⟩ ?_
    refine TL.next rfl ?_
    refine TC.seq ?_
    refine TC.block ?_
    refine TC.seq ?_
    refine TC.region ?_
    refine TL.run 4 [0] [(1, .pointer (some ⟨b1, 0, none⟩)), (3, .int .i64 r_), (4, .int .i64 r__2), (20, .bool (decide (v.X < (-2000000))))] rfl ⟨by kernel_rfl, by kernel_rfl⟩ ?_
    refine TL.join 20 (decide (v.X < (-2000000))) 8 [] [0] (fun β => [(1, .pointer (some ⟨b1, 0, none⟩)), (3, .int .i64 r_), (4, .int .i64 r__2), (24, .bool (β || (decide (v.X > 2000000))))]) (by kernel_rfl) rfl ⟨by kernel_rfl, by kernel_rfl⟩ ⟨by kernel_rfl, by kernel_rfl⟩ ?_
    refine TL.run 9 [] [(1, .pointer (some ⟨b1, 0, none⟩)), (3, .int .i64 r_), (4, .int .i64 r__2), (25, .bool ((decide (v.X < (-2000000))) || (decide (v.X > 2000000))))] rfl ⟨by kernel_rfl, by kernel_rfl⟩ ?_
    refine TL.join 25 ((decide (v.X < (-2000000))) || (decide (v.X > 2000000))) 13 [] [0] (fun β => [(1, .pointer (some ⟨b1, 0, none⟩)), (3, .int .i64 r_), (4, .int .i64 r__2), (29, .bool (β || (decide (v.Y < (-2000000)))))]) (by kernel_rfl) rfl ⟨by kernel_rfl, by kernel_rfl⟩ ⟨by kernel_rfl, by kernel_rfl⟩ ?_
    refine TL.run 14 [] [(1, .pointer (some ⟨b1, 0, none⟩)), (3, .int .i64 r_), (4, .int .i64 r__2), (30, .bool (((decide (v.X < (-2000000))) || (decide (v.X > 2000000))) || (decide (v.Y < (-2000000)))))] rfl ⟨by kernel_rfl, by kernel_rfl⟩ ?_
    refine TL.join 30 (((decide (v.X < (-2000000))) || (decide (v.X > 2000000))) || (decide (v.Y < (-2000000)))) 18 [] [0] (fun β => [(1, .pointer (some ⟨b1, 0, none⟩)), (3, .int .i64 r_), (4, .int .i64 r__2), (34, .bool (β || (decide (v.Y > 2000000))))]) (by kernel_rfl) rfl ⟨by kernel_rfl, by kernel_rfl⟩ ⟨by kernel_rfl, by kernel_rfl⟩ ?_
    refine TL.run 19 [] [(1, .pointer (some ⟨b1, 0, none⟩)), (3, .int .i64 r_), (4, .int .i64 r__2), (16, .bool ((((decide (v.X < (-2000000))) || (decide (v.X > 2000000))) || (decide (v.Y < (-2000000)))) || (decide (v.Y > 2000000))))] rfl ⟨by kernel_rfl, by kernel_rfl⟩ ?_
    refine TL.next rfl ?_
    refine TC.cond ((((decide (v.X < (-2000000))) || (decide (v.X > 2000000))) || (decide (v.Y < (-2000000)))) || (decide (v.Y > 2000000))) rfl (by kernel_rfl) (fun h2 => ?_) (fun h2 => ?_)
    · refine TC.seq ?_
      refine TC.region ?_
      refine TL.run 3 [] [(3, .int .i64 r_), (37, .bool (r__2 == 4))] rfl ⟨by kernel_rfl, by kernel_rfl⟩ ?_
      refine TL.join 37 (r__2 == 4) 6 [] [] (fun β => [(40, .bool (β && (r_ == 0)))]) (by kernel_rfl) rfl ⟨by kernel_rfl, by kernel_rfl⟩ ⟨by kernel_rfl, by kernel_rfl⟩ ?_
      refine TL.run 7 [] [(2, .bool ((r__2 == 4) && (r_ == 0)))] rfl ⟨by kernel_rfl, by kernel_rfl⟩ ?_
      refine TL.next rfl ?_
      refine TC.ret ?_
      refine TE.ret_block (TE.ret_then ?_)
      exact TE.retM (.inl rfl) ((r__2 == 4) && (r_ == 0)) [] (.bool ((r__2 == 4) && (r_ == 0))) ⟨by kernel_rfl, by kernel_rfl⟩ rfl (fun _ hM => (hM.sub (.cons _ (.slnil))).fact (by have q0_ := ((or_t h2).imp (fun h => ((or_t h).imp (fun h => ((or_t h).imp (fun h => (dec_t h)) (fun h => (dec_t h)))) (fun h => (dec_t h)))) (fun h => (dec_t h))); (try dsimp only); first | exact (False.elim ho0) | exact law_bad h2 h3 h4 hp_angle_Of |>.elim | exact law_F ⟨of_inb h2, hv0, of_decide_eq_true h5, hr2, hr3, hr4, hr5, hr6, hr7⟩ h3 hp_angle_Of h6 h7 | exact law_T ⟨of_inb h2, hv0, of_decide_eq_true h5, hr2, hr3, hr4, hr5, hr6, hr7⟩ h3 hp_angle_Of h6 h7 | exact law_zero h2 h3 hp_angle_Of | exact law_out h2 hp_angle_Of))
    · refine TC.seq ?_
      refine TC.region ?_
      refine TL.run 2 [0] [(1, .pointer (some ⟨b1, 0, none⟩)), (3, .int .i64 r_), (4, .int .i64 r__2), (42, P.v v), (43, P.v P.zero)] rfl ⟨by kernel_rfl, by kernel_rfl⟩ ?_
      refine TL.val (sV (do eqGuard .eql 23 (.tmp 42) (.tmp 43) (P.v v) (P.v P.zero); binOp .eql 23 (P.v v) (P.v P.zero))) (some 44) (.bool (P.eqb v P.zero)) [(1, .pointer (some ⟨b1, 0, none⟩)), (3, .int .i64 r_), (4, .int .i64 r__2), (44, .bool (P.eqb v P.zero))] (fun w hM => run_eql (b := P.eqb v P.zero) (by kernel_rfl) (by kernel_rfl) w) (by kernel_rfl) (by kernel_rfl) ?_
      refine TL.run 4 [] [(1, .pointer (some ⟨b1, 0, none⟩)), (3, .int .i64 r_), (4, .int .i64 r__2), (41, .bool (P.eqb v P.zero))] rfl ⟨by kernel_rfl, by kernel_rfl⟩ ?_
      refine TL.next rfl ?_
      refine TC.cond (P.eqb v P.zero) rfl (by kernel_rfl) (fun h3 => ?_) (fun h3 => ?_)
      · refine TC.seq ?_
        refine TC.region ?_
        refine TL.run 3 [] [(3, .int .i64 r_), (47, .bool (r__2 == 10))] rfl ⟨by kernel_rfl, by kernel_rfl⟩ ?_
        refine TL.join 47 (r__2 == 10) 6 [] [] (fun β => [(50, .bool (β && (r_ == 0)))]) (by kernel_rfl) rfl ⟨by kernel_rfl, by kernel_rfl⟩ ⟨by kernel_rfl, by kernel_rfl⟩ ?_
        refine TL.run 7 [] [(2, .bool ((r__2 == 10) && (r_ == 0)))] rfl ⟨by kernel_rfl, by kernel_rfl⟩ ?_
        refine TL.next rfl ?_
        refine TC.ret ?_
        refine TE.ret_block (TE.ret_then ?_)
        exact TE.retM (.inl rfl) ((r__2 == 10) && (r_ == 0)) [] (.bool ((r__2 == 10) && (r_ == 0))) ⟨by kernel_rfl, by kernel_rfl⟩ rfl (fun _ hM => (hM.sub (.cons _ (.slnil))).fact (by have q0_ := (dec_f (or_f1 (or_f1 (or_f1 h2)))); have q1_ := (dec_f (or_f2 (or_f1 (or_f1 h2)))); have q2_ := (dec_f (or_f2 (or_f1 h2))); have q3_ := (dec_f (or_f2 h2)); (try dsimp only); first | exact (False.elim ho0) | exact law_bad h2 h3 h4 hp_angle_Of |>.elim | exact law_F ⟨of_inb h2, hv0, of_decide_eq_true h5, hr2, hr3, hr4, hr5, hr6, hr7⟩ h3 hp_angle_Of h6 h7 | exact law_T ⟨of_inb h2, hv0, of_decide_eq_true h5, hr2, hr3, hr4, hr5, hr6, hr7⟩ h3 hp_angle_Of h6 h7 | exact law_zero h2 h3 hp_angle_Of | exact law_out h2 hp_angle_Of))
      · refine TC.seq ?_
        refine TC.region ?_
        refine TL.run 3 [] [(1, .pointer (some ⟨b1, 0, none⟩)), (3, .int .i64 r_), (51, .bool (r__2 != 0))] rfl ⟨by kernel_rfl, by kernel_rfl⟩ ?_
        refine TL.next rfl ?_
        refine TC.cond (r__2 != 0) rfl (by kernel_rfl) (fun h4 => ?_) (fun h4 => ?_)
        · refine TC.seq ?_
          refine TC.region ?_
          refine TL.run 1 [] [(2, .bool false)] rfl ⟨by kernel_rfl, by kernel_rfl⟩ ?_
          refine TL.next rfl ?_
          refine TC.ret ?_
          refine TE.ret_block (TE.ret_then ?_)
          exact TE.retM (.inl rfl) false [] (.bool false) ⟨by kernel_rfl, by kernel_rfl⟩ rfl (fun _ hM => (hM.sub (.cons _ (.slnil))).fact (by have q0_ := (dec_f (or_f1 (or_f1 (or_f1 h2)))); have q1_ := (dec_f (or_f2 (or_f1 (or_f1 h2)))); have q2_ := (dec_f (or_f2 (or_f1 h2))); have q3_ := (dec_f (or_f2 h2)); have q4_ := (bne_t h4); (try dsimp only); first | exact (False.elim ho0) | exact law_bad h2 h3 h4 hp_angle_Of |>.elim | exact law_F ⟨of_inb h2, hv0, of_decide_eq_true h5, hr2, hr3, hr4, hr5, hr6, hr7⟩ h3 hp_angle_Of h6 h7 | exact law_T ⟨of_inb h2, hv0, of_decide_eq_true h5, hr2, hr3, hr4, hr5, hr6, hr7⟩ h3 hp_angle_Of h6 h7 | exact law_zero h2 h3 hp_angle_Of | exact law_out h2 hp_angle_Of))
        · refine TC.skip ?_
          refine TE.normal_block ?_
          refine TE.next ?_
          refine TC.seq ?_
          refine TC.seq ?_
          refine TC.region ?_
          refine TL.run 1 [] [(1, .pointer (some ⟨b1, 0, none⟩)), (3, .int .i64 r_), (54, .int .i64 0)] rfl ⟨by kernel_rfl, by kernel_rfl⟩ ?_
          refine TL.next rfl ?_
          refine TC.weak [(1, .pointer (some ⟨b1, 0, none⟩)), (3, .int .i64 r_), (54, .int .i64 0)] (by kernel_rfl) ?_
          refine TC.cut (S := Unit) (fun (_ : Unit) => []) (fun (_ : Unit) => [.inl (b1, .cells (P.c v) 23 (0, 0))]) (fun (_ : Unit) => (False)) ?_ ?_
          · refine TC.block ?_
            refine TC.loop (X := Int) (fun s => [(1, .pointer (some ⟨b1, 0, none⟩)), (3, .int .i64 r_), (54, .int .i64 s)]) (fun s => [.inl (b1, .cells (P.c v) 23 (0, 0))]) (fun s => (4096 - s).toNat) (fun s => (LawInv v s)) ?_ 0 (by have q0_ := (dec_f (or_f1 (or_f1 (or_f1 h2)))); have q1_ := (dec_f (or_f2 (or_f1 (or_f1 h2)))); have q2_ := (dec_f (or_f2 (or_f1 h2))); have q3_ := (dec_f (or_f2 h2)); have q4_ := (bne_f h4); first | exact law_start v)
            rintro s hv0
            refine TC.seq ?_
            refine TC.region ?_
            refine TL.run 1 [] [(1, .pointer (some ⟨b1, 0, none⟩)), (3, .int .i64 r_), (54, .int .i64 s), (55, .bool (decide (s < 4096)))] rfl ⟨by kernel_rfl, by kernel_rfl⟩ ?_
            refine TL.next rfl ?_
            refine TC.seq ?_
            refine TC.cond (decide (s < 4096)) rfl (by kernel_rfl) (fun h5 => ?_) (fun h5 => ?_)
            · refine TC.skip ?_
              refine TE.next ?_
              refine TC.seq ?_
              refine TC.block ?_
              refine TC.seq ?_
              refine TC.region ?_
              refine TL.run 2 [] [(1, .pointer (some ⟨b1, 0, none⟩)), (3, .int .i64 r_), (5, .int .i64 s), (54, .int .i64 s)] rfl ⟨by kernel_rfl, by kernel_rfl⟩ ?_
              refine TL.next rfl ?_
              refine TC.seq ?_
              refine TC.draw 12 (by kernel_rfl) (by kernel_rfl) (by kernel_rfl) ?_
              refine TQ.run 1 [] [(1, .pointer (some ⟨b1, 0, none⟩)), (3, .int .i64 r_), (5, .int .i64 s), (54, .int .i64 s), (57, .int .i64 s)] rfl ⟨by kernel_rfl, by kernel_rfl⟩ ?_
              refine TQ.call (some 58) [(1, .pointer (some ⟨b1, 0, none⟩)), (3, .int .i64 r_), (5, .int .i64 s), (54, .int .i64 s), (58, .int .i64 (angle_Cos s))] (fun w hM => angle_Cos_w s w (hT.sat hM)) rfl (by kernel_rfl) (by kernel_rfl) ?_
              generalize hr2 : angle_Cos s = r2
              refine TQ.run 6 [0] [(1, .pointer (some ⟨b1, 0, none⟩)), (3, .int .i64 r_), (5, .int .i64 s), (54, .int .i64 s), (61, .int .i64 (w64 (r2 * v.X))), (62, .int .i64 s)] rfl ⟨by kernel_rfl, by kernel_rfl⟩ ?_
              refine TQ.call (some 63) [(1, .pointer (some ⟨b1, 0, none⟩)), (3, .int .i64 r_), (5, .int .i64 s), (54, .int .i64 s), (61, .int .i64 (w64 (r2 * v.X))), (63, .int .i64 (angle_Sin s))] (fun w hM => angle_Sin_w s w (hT.sat hM)) rfl (by kernel_rfl) (by kernel_rfl) ?_
              generalize hr3 : angle_Sin s = r3
              refine TQ.run 12 [0] [(1, .pointer (some ⟨b1, 0, none⟩)), (3, .int .i64 r_), (5, .int .i64 s), (6, .int .i64 (w64 ((w64 (r2 * v.X)) - (w64 (r3 * v.Y))))), (54, .int .i64 s)] rfl ⟨by kernel_rfl, by kernel_rfl⟩ ?_
              refine TQ.next rfl ?_
              refine TC.seq ?_
              refine TC.draw 14 (by kernel_rfl) (by kernel_rfl) (by kernel_rfl) ?_
              refine TQ.run 2 [] [(1, .pointer (some ⟨b1, 0, none⟩)), (3, .int .i64 r_), (5, .int .i64 s), (6, .int .i64 (w64 ((w64 (r2 * v.X)) - (w64 (r3 * v.Y))))), (54, .int .i64 s), (69, .int .i64 (w64 (s + 1)))] rfl ⟨by kernel_rfl, by kernel_rfl⟩ ?_
              refine TQ.call (some 70) [(1, .pointer (some ⟨b1, 0, none⟩)), (3, .int .i64 r_), (5, .int .i64 s), (6, .int .i64 (w64 ((w64 (r2 * v.X)) - (w64 (r3 * v.Y))))), (54, .int .i64 s), (70, .int .i64 (angle_Sin (w64 (s + 1))))] (fun w hM => angle_Sin_w (w64 (s + 1)) w (hT.sat hM)) rfl (by kernel_rfl) (by kernel_rfl) ?_
              generalize hr4 : angle_Sin (w64 (s + 1)) = r4
              refine TQ.run 8 [0] [(1, .pointer (some ⟨b1, 0, none⟩)), (3, .int .i64 r_), (5, .int .i64 s), (6, .int .i64 (w64 ((w64 (r2 * v.X)) - (w64 (r3 * v.Y))))), (54, .int .i64 s), (73, .int .i64 (w64 (r4 * v.Y))), (75, .int .i64 (w64 (s + 1)))] rfl ⟨by kernel_rfl, by kernel_rfl⟩ ?_
              refine TQ.call (some 76) [(1, .pointer (some ⟨b1, 0, none⟩)), (3, .int .i64 r_), (5, .int .i64 s), (6, .int .i64 (w64 ((w64 (r2 * v.X)) - (w64 (r3 * v.Y))))), (54, .int .i64 s), (73, .int .i64 (w64 (r4 * v.Y))), (76, .int .i64 (angle_Cos (w64 (s + 1))))] (fun w hM => angle_Cos_w (w64 (s + 1)) w (hT.sat hM)) rfl (by kernel_rfl) (by kernel_rfl) ?_
              generalize hr5 : angle_Cos (w64 (s + 1)) = r5
              refine TQ.run 14 [0] [(1, .pointer (some ⟨b1, 0, none⟩)), (3, .int .i64 r_), (5, .int .i64 s), (6, .int .i64 (w64 ((w64 (r2 * v.X)) - (w64 (r3 * v.Y))))), (7, .int .i64 (w64 ((w64 (r4 * v.Y)) - (w64 (r5 * v.X))))), (54, .int .i64 s)] rfl ⟨by kernel_rfl, by kernel_rfl⟩ ?_
              refine TQ.next rfl ?_
              refine TC.seq ?_
              refine TC.draw 12 (by kernel_rfl) (by kernel_rfl) (by kernel_rfl) ?_
              refine TQ.run 1 [] [(1, .pointer (some ⟨b1, 0, none⟩)), (3, .int .i64 r_), (5, .int .i64 s), (6, .int .i64 (w64 ((w64 (r2 * v.X)) - (w64 (r3 * v.Y))))), (7, .int .i64 (w64 ((w64 (r4 * v.Y)) - (w64 (r5 * v.X))))), (54, .int .i64 s), (81, .int .i64 s)] rfl ⟨by kernel_rfl, by kernel_rfl⟩ ?_
              refine TQ.call (some 82) [(1, .pointer (some ⟨b1, 0, none⟩)), (3, .int .i64 r_), (5, .int .i64 s), (6, .int .i64 (w64 ((w64 (r2 * v.X)) - (w64 (r3 * v.Y))))), (7, .int .i64 (w64 ((w64 (r4 * v.Y)) - (w64 (r5 * v.X))))), (54, .int .i64 s), (82, .int .i64 (angle_Sin s))] (fun w hM => angle_Sin_w s w (hT.sat hM)) rfl (by kernel_rfl) (by kernel_rfl) ?_
              generalize hr6 : angle_Sin s = r6
              refine TQ.run 6 [0] [(1, .pointer (some ⟨b1, 0, none⟩)), (3, .int .i64 r_), (5, .int .i64 s), (6, .int .i64 (w64 ((w64 (r2 * v.X)) - (w64 (r3 * v.Y))))), (7, .int .i64 (w64 ((w64 (r4 * v.Y)) - (w64 (r5 * v.X))))), (54, .int .i64 s), (85, .int .i64 (w64 (r6 * v.X))), (86, .int .i64 s)] rfl ⟨by kernel_rfl, by kernel_rfl⟩ ?_
              refine TQ.call (some 87) [(1, .pointer (some ⟨b1, 0, none⟩)), (3, .int .i64 r_), (5, .int .i64 s), (6, .int .i64 (w64 ((w64 (r2 * v.X)) - (w64 (r3 * v.Y))))), (7, .int .i64 (w64 ((w64 (r4 * v.Y)) - (w64 (r5 * v.X))))), (54, .int .i64 s), (85, .int .i64 (w64 (r6 * v.X))), (87, .int .i64 (angle_Cos s))] (fun w hM => angle_Cos_w s w (hT.sat hM)) rfl (by kernel_rfl) (by kernel_rfl) ?_
              generalize hr7 : angle_Cos s = r7
              refine TQ.run 12 [0] [(1, .pointer (some ⟨b1, 0, none⟩)), (3, .int .i64 r_), (5, .int .i64 s), (6, .int .i64 (w64 ((w64 (r2 * v.X)) - (w64 (r3 * v.Y))))), (7, .int .i64 (w64 ((w64 (r4 * v.Y)) - (w64 (r5 * v.X))))), (8, .int .i64 (w64 ((w64 (r6 * v.X)) + (w64 (r7 * v.Y))))), (54, .int .i64 s)] rfl ⟨by kernel_rfl, by kernel_rfl⟩ ?_
              refine TQ.next rfl ?_
              refine TC.seq ?_
              refine TC.seq ?_
              refine TC.region ?_
              refine TL.run 3 [] [(1, .pointer (some ⟨b1, 0, none⟩)), (3, .int .i64 r_), (5, .int .i64 s), (6, .int .i64 (w64 ((w64 (r2 * v.X)) - (w64 (r3 * v.Y))))), (7, .int .i64 (w64 ((w64 (r4 * v.Y)) - (w64 (r5 * v.X))))), (8, .int .i64 (w64 ((w64 (r6 * v.X)) + (w64 (r7 * v.Y))))), (54, .int .i64 s), (94, .bool (decide ((w64 ((w64 (r2 * v.X)) - (w64 (r3 * v.Y)))) < 0)))] rfl ⟨by kernel_rfl, by kernel_rfl⟩ ?_
              refine TL.join 94 (decide ((w64 ((w64 (r2 * v.X)) - (w64 (r3 * v.Y)))) < 0)) 6 [] [] (fun β => [(1, .pointer (some ⟨b1, 0, none⟩)), (3, .int .i64 r_), (5, .int .i64 s), (6, .int .i64 (w64 ((w64 (r2 * v.X)) - (w64 (r3 * v.Y))))), (7, .int .i64 (w64 ((w64 (r4 * v.Y)) - (w64 (r5 * v.X))))), (8, .int .i64 (w64 ((w64 (r6 * v.X)) + (w64 (r7 * v.Y))))), (54, .int .i64 s), (97, .bool (β || (decide ((w64 ((w64 (r4 * v.Y)) - (w64 (r5 * v.X)))) ≤ 0))))]) (by kernel_rfl) rfl ⟨by kernel_rfl, by kernel_rfl⟩ ⟨by kernel_rfl, by kernel_rfl⟩ ?_
              refine TL.run 7 [] [(1, .pointer (some ⟨b1, 0, none⟩)), (3, .int .i64 r_), (5, .int .i64 s), (6, .int .i64 (w64 ((w64 (r2 * v.X)) - (w64 (r3 * v.Y))))), (7, .int .i64 (w64 ((w64 (r4 * v.Y)) - (w64 (r5 * v.X))))), (8, .int .i64 (w64 ((w64 (r6 * v.X)) + (w64 (r7 * v.Y))))), (54, .int .i64 s), (98, .bool ((decide ((w64 ((w64 (r2 * v.X)) - (w64 (r3 * v.Y)))) < 0)) || (decide ((w64 ((w64 (r4 * v.Y)) - (w64 (r5 * v.X)))) ≤ 0))))] rfl ⟨by kernel_rfl, by kernel_rfl⟩ ?_
              refine TL.join 98 ((decide ((w64 ((w64 (r2 * v.X)) - (w64 (r3 * v.Y)))) < 0)) || (decide ((w64 ((w64 (r4 * v.Y)) - (w64 (r5 * v.X)))) ≤ 0))) 10 [] [] (fun β => [(1, .pointer (some ⟨b1, 0, none⟩)), (3, .int .i64 r_), (5, .int .i64 s), (6, .int .i64 (w64 ((w64 (r2 * v.X)) - (w64 (r3 * v.Y))))), (7, .int .i64 (w64 ((w64 (r4 * v.Y)) - (w64 (r5 * v.X))))), (54, .int .i64 s), (101, .bool (β || (decide ((w64 ((w64 (r6 * v.X)) + (w64 (r7 * v.Y)))) ≤ 0))))]) (by kernel_rfl) rfl ⟨by kernel_rfl, by kernel_rfl⟩ ⟨by kernel_rfl, by kernel_rfl⟩ ?_
              refine TL.next rfl ?_
              refine TC.cond (((decide ((w64 ((w64 (r2 * v.X)) - (w64 (r3 * v.Y)))) < 0)) || (decide ((w64 ((w64 (r4 * v.Y)) - (w64 (r5 * v.X)))) ≤ 0))) || (decide ((w64 ((w64 (r6 * v.X)) + (w64 (r7 * v.Y)))) ≤ 0))) rfl (by kernel_rfl) (fun h6 => ?_) (fun h6 => ?_)
              · refine TC.exit ?_
                refine TE.exit_then (TE.exit_same ?_)
                refine TE.next ?_
                refine TC.region ?_
                refine TL.run 2 [] [(1, .pointer (some ⟨b1, 0, none⟩)), (3, .int .i64 r_), (54, .int .i64 (w64 (s + 1)))] rfl ⟨by kernel_rfl, by kernel_rfl⟩ ?_
                refine TL.done rfl ?_
                exact TE.again (x := s) (w64 (s + 1)) (by have q0_ := (dec_f (or_f1 (or_f1 (or_f1 h2)))); have q1_ := (dec_f (or_f2 (or_f1 (or_f1 h2)))); have q2_ := (dec_f (or_f2 (or_f1 h2))); have q3_ := (dec_f (or_f2 h2)); have q4_ := (bne_f h4); have q5_ := (dec_t h5); have q6_ := ((or_t h6).imp (fun h => ((or_t h).imp (fun h => (dec_t h)) (fun h => (dec_t h)))) (fun h => (dec_t h))); first | exact law_next ⟨of_inb h2, hv0, of_decide_eq_true h5, hr2, hr3, hr4, hr5, hr6, hr7⟩ h6) (by have q0_ := (dec_f (or_f1 (or_f1 (or_f1 h2)))); have q1_ := (dec_f (or_f2 (or_f1 (or_f1 h2)))); have q2_ := (dec_f (or_f2 (or_f1 h2))); have q3_ := (dec_f (or_f2 h2)); have q4_ := (bne_f h4); have q5_ := (dec_t h5); have q6_ := ((or_t h6).imp (fun h => ((or_t h).imp (fun h => (dec_t h)) (fun h => (dec_t h)))) (fun h => (dec_t h))); exact law_dec hv0 h5) (by kernel_rfl) (.cons_cons _ (.slnil))
              · refine TC.skip ?_
                refine TE.next ?_
                refine TC.seq ?_
                refine TC.seq ?_
                refine TC.region ?_
                refine TL.run 3 [] [(3, .int .i64 r_), (5, .int .i64 s), (104, .bool (decide ((w64 ((w64 (r2 * v.X)) - (w64 (r3 * v.Y)))) ≤ (w64 ((w64 (r4 * v.Y)) - (w64 (r5 * v.X)))))))] rfl ⟨by kernel_rfl, by kernel_rfl⟩ ?_
                refine TL.next rfl ?_
                refine TC.cond (decide ((w64 ((w64 (r2 * v.X)) - (w64 (r3 * v.Y)))) ≤ (w64 ((w64 (r4 * v.Y)) - (w64 (r5 * v.X)))))) rfl (by kernel_rfl) (fun h7 => ?_) (fun h7 => ?_)
                · refine TC.seq ?_
                  refine TC.region ?_
                  refine TL.run 4 [] [(2, .bool (r_ == s))] rfl ⟨by kernel_rfl, by kernel_rfl⟩ ?_
                  refine TL.next rfl ?_
                  refine TC.ret ?_
                  refine TE.ret_then (TE.ret_block (TE.ret_then (TE.ret_then (TE.ret_block (TE.ret_then (TE.ret_then ?_))))))
                  exact TE.retM (.inl rfl) (r_ == s) [] (.bool (r_ == s)) ⟨by kernel_rfl, by kernel_rfl⟩ rfl (fun _ hM => (hM.sub (.cons _ (.slnil))).fact (by have q0_ := (dec_f (or_f1 (or_f1 (or_f1 h2)))); have q1_ := (dec_f (or_f2 (or_f1 (or_f1 h2)))); have q2_ := (dec_f (or_f2 (or_f1 h2))); have q3_ := (dec_f (or_f2 h2)); have q4_ := (bne_f h4); have q5_ := (dec_t h5); have q6_ := (dec_f (or_f1 (or_f1 h6))); have q7_ := (dec_f (or_f2 (or_f1 h6))); have q8_ := (dec_f (or_f2 h6)); have q9_ := (dec_t h7); (try dsimp only); first | exact (False.elim ho0) | exact law_bad h2 h3 h4 hp_angle_Of |>.elim | exact law_F ⟨of_inb h2, hv0, of_decide_eq_true h5, hr2, hr3, hr4, hr5, hr6, hr7⟩ h3 hp_angle_Of h6 h7 | exact law_T ⟨of_inb h2, hv0, of_decide_eq_true h5, hr2, hr3, hr4, hr5, hr6, hr7⟩ h3 hp_angle_Of h6 h7 | exact law_zero h2 h3 hp_angle_Of | exact law_out h2 hp_angle_Of))
                · refine TC.skip ?_
                  refine TE.next ?_
                  refine TC.seq ?_
                  refine TC.region ?_
                  refine TL.run 6 [] [(2, .bool (r_ == ((w64 (s + 1)).tmod 4096)))] rfl ⟨by kernel_rfl, by kernel_rfl⟩ ?_
                  refine TL.next rfl ?_
                  refine TC.ret ?_
                  refine TE.ret_block (TE.ret_then (TE.ret_then (TE.ret_block (TE.ret_then (TE.ret_then ?_)))))
                  exact TE.retM (.inl rfl) (r_ == ((w64 (s + 1)).tmod 4096)) [] (.bool (r_ == ((w64 (s + 1)).tmod 4096))) ⟨by kernel_rfl, by kernel_rfl⟩ rfl (fun _ hM => (hM.sub (.cons _ (.slnil))).fact (by have q0_ := (dec_f (or_f1 (or_f1 (or_f1 h2)))); have q1_ := (dec_f (or_f2 (or_f1 (or_f1 h2)))); have q2_ := (dec_f (or_f2 (or_f1 h2))); have q3_ := (dec_f (or_f2 h2)); have q4_ := (bne_f h4); have q5_ := (dec_t h5); have q6_ := (dec_f (or_f1 (or_f1 h6))); have q7_ := (dec_f (or_f2 (or_f1 h6))); have q8_ := (dec_f (or_f2 h6)); have q9_ := (dec_f h7); (try dsimp only); first | exact (False.elim ho0) | exact law_bad h2 h3 h4 hp_angle_Of |>.elim | exact law_F ⟨of_inb h2, hv0, of_decide_eq_true h5, hr2, hr3, hr4, hr5, hr6, hr7⟩ h3 hp_angle_Of h6 h7 | exact law_T ⟨of_inb h2, hv0, of_decide_eq_true h5, hr2, hr3, hr4, hr5, hr6, hr7⟩ h3 hp_angle_Of h6 h7 | exact law_zero h2 h3 hp_angle_Of | exact law_out h2 hp_angle_Of))
            · refine TC.exit ?_
              refine TE.exit_then (TE.exit_then (TE.exit_same ?_))
              exact TE.cut () (by have q0_ := (dec_f (or_f1 (or_f1 (or_f1 h2)))); have q1_ := (dec_f (or_f2 (or_f1 (or_f1 h2)))); have q2_ := (dec_f (or_f2 (or_f1 h2))); have q3_ := (dec_f (or_f2 h2)); have q4_ := (bne_f h4); have q5_ := (dec_f h5); first | exact law_end h3 hv0 h5) (by kernel_rfl) (.cons_cons _ (.slnil))
          · intro _ ho0
            refine TE.next ?_
            refine TC.seq ?_
            refine TC.region ?_
            refine TL.run 1 [] [(2, .bool false)] rfl ⟨by kernel_rfl, by kernel_rfl⟩ ?_
            refine TL.next rfl ?_
            refine TC.ret ?_
            exact TE.retM (.inl rfl) false [] (.bool false) ⟨by kernel_rfl, by kernel_rfl⟩ rfl (fun _ hM => (hM.sub (.cons _ (.slnil))).fact (by have q0_ := (dec_f (or_f1 (or_f1 (or_f1 h2)))); have q1_ := (dec_f (or_f2 (or_f1 (or_f1 h2)))); have q2_ := (dec_f (or_f2 (or_f1 h2))); have q3_ := (dec_f (or_f2 h2)); have q4_ := (bne_f h4); (try dsimp only); first | exact (False.elim ho0) | exact law_bad h2 h3 h4 hp_angle_Of |>.elim | exact law_F ⟨of_inb h2, hv0, of_decide_eq_true h5, hr2, hr3, hr4, hr5, hr6, hr7⟩ h3 hp_angle_Of h6 h7 | exact law_T ⟨of_inb h2, hv0, of_decide_eq_true h5, hr2, hr3, hr4, hr5, hr6, hr7⟩ h3 hp_angle_Of h6 h7 | exact law_zero h2 h3 hp_angle_Of | exact law_out h2 hp_angle_Of))

end Go.Sky
