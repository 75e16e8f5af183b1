/- Functions of the program, each with the Lean function that it computes. Conditions: none. -/
import Derived.Test.YtlaealgmaalgfaaWg
namespace Go.Sky
open Go Go.Eng Go.Proofs
def skywaykeep2_ConformLate (l : List TubeNode) (later : Int) (at_ : Int) : Bool :=
  let r1 := skywaykeep2_line 10 300
  let r2 := conform_Late (⟨0, 0, 50, ⟨8000, 0⟩, ⟨0, 0⟩, 5000, 0, 0, 0, 0, 0⟩ : Track) r1
  cond (((r2.2 != 0) || (decide (r2.1 < 9))) || (decide (r2.1 > 11))) (
    false) (
    let r3 := tube_Check l
    cond (r3 != 0) (
      true) (
      let r4 := skywaykeep2_within later (-40) 40
      let r5 := skywaykeep2_within at_ (((l[0]?.getD TubeNode.zero).Node).Time) (((l[(l.length - 1)]?.getD TubeNode.zero).Node).Time)
      let r6 := tube_At l r5
      cond (((r6.2 != 0) || (decide ((w64 (r5 + r4)) < 0))) || (decide ((w64 (r5 + r4)) > 200000))) (
        true) (
        let r7 := conform_Late (⟨0, 0, w64 (r5 + r4), r6.1.Node.At, ⟨0, 0⟩, r6.1.Node.Height, 0, 0, 0, 0, 0⟩ : Track) l
        (r7.2 == 0) && (decide ((imax r7.1 (w64 (0 - r7.1))) ≤ (imax r4 (w64 (0 - r4))))))))

theorem tube_span {l : List TubeNode} {r : Int} (hr : tube_Check l = r) (h : (r != 0) = false) : w64 ((w64 ((((l[(l.length - 1)]?.getD TubeNode.zero).Node).Time) - (((l[0]?.getD TubeNode.zero).Node).Time))) + 1) ≠ 0 := by
  subst hr
  have hk := tube_ok (by simpa using h)
  have h0 := (hk.2.1 0 (by have := hk.1.1; omega)).1
  have h1 := (hk.2.1 (l.length - 1) (by have := hk.1.1; omega)).1
  unfold nd at h0 h1
  have hm : (nd l 0).Node.Time ≤ (nd l (l.length - 1)).Node.Time := by
    by_cases e : l.length - 1 = 0
    · rw [e]; exact Int.le_refl _
    · exact Int.le_of_lt (tube_mono hk (by omega) (by have := hk.1.1; omega))
  unfold nd at hm
  rw [w64_id (x := _ - _) (by omega), w64_id (by omega)]; omega

set_option maxRecDepth 100000 in
theorem skywaykeep2_ConformLate_w (A_l : Option Addr) (c_l : Nat) (l : List TubeNode) (later : Int) (at_ : Int) (w : World) (h_l : Rd w 6 A_l (l.map TubeNode.c)) (hc_l : l.length ≤ c_l) : Calls Try.prog 13 #[.slice A_l l.length c_l, .int .i64 later, .int .i64 at_] w (Ret w (.bool (skywaykeep2_ConformLate l later at_))) := by
  have s_l := h_l.short; rw [List.length_map] at s_l
  refine calls_intro (vs := [.slice A_l l.length c_l, .int .i64 later, .int .i64 at_]) (w := w) Try.func13 rfl Try.ntmps13 rfl ?_
  refine TC.weak [(0, .slice A_l l.length c_l), (1, .int .i64 later), (2, .int .i64 at_)] (by kernel_rfl) ?_
  refine TC.seq ?_
  refine TC.region ?_
  refine TL.run 1 [] [(0, .slice A_l l.length c_l), (1, .int .i64 later), (2, .int .i64 at_)] rfl ⟨by kernel_rfl, by kernel_rfl⟩ ?_
  refine TL.next rfl ?_
  refine TC.seq ?_
  refine TC.region ?_
  refine TL.run 2 [] [(0, .slice A_l l.length c_l), (1, .int .i64 later), (2, .int .i64 at_), (15, .agg #[.int .i64 0, .int .i64 0, .int .i64 50, .int .i64 8000, .int .i64 0, .int .i64 0, .int .i64 0, .int .i64 5000, .int .i64 0, .int .i64 0, .int .i64 0, .int .i64 0, .int .i64 0])] rfl ⟨by kernel_rfl, by kernel_rfl⟩ ?_
  refine TL.write 0 (fun b1 => [(0, .slice A_l l.length c_l), (1, .int .i64 later), (2, .int .i64 at_), (7, .pointer (some ⟨b1, 0, none⟩)), (15, .agg #[.int .i64 0, .int .i64 0, .int .i64 50, .int .i64 8000, .int .i64 0, .int .i64 0, .int .i64 0, .int .i64 5000, .int .i64 0, .int .i64 0, .int .i64 0, .int .i64 0, .int .i64 0])]) (fun b1 => [.inl (b1, .cells (Track.c Track.zero) 33 (0, 0))]) (fun b1 => ⟨by kernel_rfl, by kernel_rfl⟩) (fun b1 => ?_)
  refine TL.write 0 (fun _ => [(0, .slice A_l l.length c_l), (1, .int .i64 later), (2, .int .i64 at_), (7, .pointer (some ⟨b1, 0, none⟩))]) (fun _ => [.inl (b1, .cells #[.int .i64 0, .int .i64 0, .int .i64 50, .int .i64 8000, .int .i64 0, .int .i64 0, .int .i64 0, .int .i64 5000, .int .i64 0, .int .i64 0, .int .i64 0, .int .i64 0, .int .i64 0] 33 (0, 0))]) (fun _ => ⟨by kernel_rfl, by kernel_rfl⟩) (fun _ => ?_)
  refine TL.next rfl ?_
  refine TC.seq ?_
  refine TC.seq ?_
  obtain ⟨r1, hr1⟩ : ∃ r, skywaykeep2_line 10 300 = r := ⟨_, rfl⟩
  obtain ⟨r2, hr2⟩ : ∃ r, conform_Late (⟨0, 0, 50, ⟨8000, 0⟩, ⟨0, 0⟩, 5000, 0, 0, 0, 0, 0⟩ : Track) r1 = r := ⟨_, rfl⟩
  refine TC.plan (G := (Option Addr × Nat)) (base := [(0, .slice A_l l.length c_l), (1, .int .i64 later), (2, .int .i64 at_), (7, .pointer (some ⟨b1, 0, none⟩))]) (vals := fun γ => [.agg #[.int .i64 0, .int .i64 0, .int .i64 50, .int .i64 8000, .int .i64 0, .int .i64 0, .int .i64 0, .int .i64 5000, .int .i64 0, .int .i64 0, .int .i64 0, .int .i64 0, .int .i64 0], .slice (γ.1) r1.length (γ.2), .tuple #[.int .i64 r2.1, .int .i64 r2.2], .tuple #[.int .i64 r2.1, .int .i64 r2.2], .int .i64 r2.1, .int .i64 r2.2, .int .i64 r2.1, .int .i64 r2.2]) (writes := [1]) (mem := fun bs γ => match bs with | [x1_] => (bif x1_ then [.inr (Own (γ.1) (γ.2) 57 6 (r1.map TubeNode.c))] else []) ++ ([.inl (b1, .cells #[.int .i64 0, .int .i64 0, .int .i64 50, .int .i64 8000, .int .i64 0, .int .i64 0, .int .i64 0, .int .i64 5000, .int .i64 0, .int .i64 0, .int .i64 0, .int .i64 0, .int .i64 0] 33 (0, 0))]) | _ => []) ((none, 0)) (fun γ => [(0, .slice A_l l.length c_l), (1, .int .i64 later), (2, .int .i64 at_), (8, .int .i64 r2.1), (9, .int .i64 r2.2)]) (by kernel_rfl) (by kernel_rfl) (by kernel_rfl) (by kernel_rfl) (by kernel_rfl) (fun γ => by kernel_rfl) (fun _ hM => hM) (fun γ => by kernel_rfl) ?_ ?_
  · skip
    refine Steps.run (i := 0) 1 [0] [.inl (b1, .cells #[.int .i64 0, .int .i64 0, .int .i64 50, .int .i64 8000, .int .i64 0, .int .i64 0, .int .i64 0, .int .i64 5000, .int .i64 0, .int .i64 0, .int .i64 0, .int .i64 0, .int .i64 0] 33 (0, 0))] (by kernel_rfl) (by kernel_rfl) (fun S (γ : (Option Addr × Nat)) w hM => by change Sat _ ((bif S 1 then [.inr (Own (γ.1) (γ.2) 57 6 (r1.map TubeNode.c))] else []) ++ ([.inl (b1, .cells #[.int .i64 0, .int .i64 0, .int .i64 50, .int .i64 8000, .int .i64 0, .int .i64 0, .int .i64 0, .int .i64 5000, .int .i64 0, .int .i64 0, .int .i64 0, .int .i64 0, .int .i64 0] 33 (0, 0))])) w at hM; exact hM.sub (sub_skip (List.Sublist.refl _))) (by kernel_rfl) (fun (γ : (Option Addr × Nat)) => ⟨by kernel_rfl, by kernel_rfl⟩) ?_
    refine Steps.callN (i := 1) (Γ := Option Addr × Nat) (fun g (γ : (Option Addr × Nat)) => g) 39 (fun (γ : (Option Addr × Nat)) => #[.int .i64 10, .int .i64 300]) (fun (γ : (Option Addr × Nat)) => [.inl (b1, .cells #[.int .i64 0, .int .i64 0, .int .i64 50, .int .i64 8000, .int .i64 0, .int .i64 0, .int .i64 0, .int .i64 5000, .int .i64 0, .int .i64 0, .int .i64 0, .int .i64 0, .int .i64 0] 33 (0, 0))]) (fun g (γ : (Option Addr × Nat)) => [.inr (Own (g.1) (g.2) 57 6 (r1.map TubeNode.c))]) [1, 2, 3, 4, 5, 6, 7] (some 18) (fun g (γ : (Option Addr × Nat)) => .slice (g.1) r1.length (g.2)) (fun S (γ : (Option Addr × Nat)) w _ hM => by change Sat _ ((bif S 1 then [.inr (Own (γ.1) (γ.2) 57 6 (r1.map TubeNode.c))] else []) ++ ([.inl (b1, .cells #[.int .i64 0, .int .i64 0, .int .i64 50, .int .i64 8000, .int .i64 0, .int .i64 0, .int .i64 0, .int .i64 5000, .int .i64 0, .int .i64 0, .int .i64 0, .int .i64 0, .int .i64 0] 33 (0, 0))])) w at hM; exact hM.sub (sub_skip (List.Sublist.refl _))) (fun S (γ : (Option Addr × Nat)) g hj _ => by change List.Perm (_ ++ (((bif S 1 then [.inr (Own (γ.1) (γ.2) 57 6 (r1.map TubeNode.c))] else []) ++ ([.inl (b1, .cells #[.int .i64 0, .int .i64 0, .int .i64 50, .int .i64 8000, .int .i64 0, .int .i64 0, .int .i64 0, .int .i64 5000, .int .i64 0, .int .i64 0, .int .i64 0, .int .i64 0, .int .i64 0] 33 (0, 0))])) : Mem)) _; rw [hj]; exact (List.Perm.refl _).symm) (fun (γ : (Option Addr × Nat)) w _ => by have h := skywaykeep2_line_w 10 300 w; rw [hr1] at h; exact h) (fun (γ : (Option Addr × Nat)) => by kernel_rfl) (fun (γ : (Option Addr × Nat)) g => by kernel_rfl) (by kernel_rfl) (fun (γ : (Option Addr × Nat)) g => by kernel_rfl) ?_
    refine Steps.call (i := 2) 46 (fun (γ : (Option Addr × Nat)) => #[.agg #[.int .i64 0, .int .i64 0, .int .i64 50, .int .i64 8000, .int .i64 0, .int .i64 0, .int .i64 0, .int .i64 5000, .int .i64 0, .int .i64 0, .int .i64 0, .int .i64 0, .int .i64 0], .slice (γ.1) r1.length (γ.2)]) (some 19) (fun (γ : (Option Addr × Nat)) => .tuple #[.int .i64 r2.1, .int .i64 r2.2]) (fun (γ : (Option Addr × Nat)) => [.inr (Own (γ.1) (γ.2) 57 6 (r1.map TubeNode.c)), .inl (b1, .cells #[.int .i64 0, .int .i64 0, .int .i64 50, .int .i64 8000, .int .i64 0, .int .i64 0, .int .i64 0, .int .i64 5000, .int .i64 0, .int .i64 0, .int .i64 0, .int .i64 0, .int .i64 0] 33 (0, 0))]) (by kernel_rfl) (fun S (γ : (Option Addr × Nat)) w hd hM => by change Sat _ ((bif S 1 then [.inr (Own (γ.1) (γ.2) 57 6 (r1.map TubeNode.c))] else []) ++ ([.inl (b1, .cells #[.int .i64 0, .int .i64 0, .int .i64 50, .int .i64 8000, .int .i64 0, .int .i64 0, .int .i64 0, .int .i64 5000, .int .i64 0, .int .i64 0, .int .i64 0, .int .i64 0, .int .i64 0] 33 (0, 0))])) w at hM; exact hM.sub (sub_keep (by rw [hd 1 (by kernel_rfl)]; rfl) (List.Sublist.refl _))) (fun (γ : (Option Addr × Nat)) w hM => by have h := conform_Late_w (⟨0, 0, 50, ⟨8000, 0⟩, ⟨0, 0⟩, 5000, 0, 0, 0, 0, 0⟩ : Track) (γ.1) (γ.2) r1 w (hM.rd_at 0 rfl) (hM.le_at 0 rfl); rw [hr2] at h; exact h) (fun (γ : (Option Addr × Nat)) => by kernel_rfl) (fun (γ : (Option Addr × Nat)) => by kernel_rfl) ?_
    refine Steps.run (i := 3) 8 [0, 0, 0, 0, 0] [.inl (b1, .cells #[.int .i64 0, .int .i64 0, .int .i64 50, .int .i64 8000, .int .i64 0, .int .i64 0, .int .i64 0, .int .i64 5000, .int .i64 0, .int .i64 0, .int .i64 0, .int .i64 0, .int .i64 0] 33 (0, 0))] (by kernel_rfl) (by kernel_rfl) (fun S (γ : (Option Addr × Nat)) w hM => by change Sat _ ((bif S 1 then [.inr (Own (γ.1) (γ.2) 57 6 (r1.map TubeNode.c))] else []) ++ ([.inl (b1, .cells #[.int .i64 0, .int .i64 0, .int .i64 50, .int .i64 8000, .int .i64 0, .int .i64 0, .int .i64 0, .int .i64 5000, .int .i64 0, .int .i64 0, .int .i64 0, .int .i64 0, .int .i64 0] 33 (0, 0))])) w at hM; exact hM.sub (sub_skip (List.Sublist.refl _))) (by kernel_rfl) (fun (γ : (Option Addr × Nat)) => ⟨by kernel_rfl, by kernel_rfl⟩) ?_
    exact Steps.done (by kernel_rfl)
  · rintro ⟨A, c⟩
    refine TE.conv [.inr (Own A c 57 6 (r1.map TubeNode.c)), .inl (b1, .cells #[.int .i64 0, .int .i64 0, .int .i64 50, .int .i64 8000, .int .i64 0, .int .i64 0, .int .i64 0, .int .i64 5000, .int .i64 0, .int .i64 0, .int .i64 0, .int .i64 0, .int .i64 0] 33 (0, 0))] (fun _ hM => hM) ?_
    refine TE.next ?_
    refine TC.seq ?_
    refine TC.region ?_
    refine TL.run 3 [] [(0, .slice A_l l.length c_l), (1, .int .i64 later), (2, .int .i64 at_), (8, .int .i64 r2.1), (24, .bool (r2.2 != 0))] rfl ⟨by kernel_rfl, by kernel_rfl⟩ ?_
    refine TL.join 24 (r2.2 != 0) 6 [] [] (fun β => [(0, .slice A_l l.length c_l), (1, .int .i64 later), (2, .int .i64 at_), (8, .int .i64 r2.1), (27, .bool (β || (decide (r2.1 < 9))))]) (by kernel_rfl) rfl ⟨by kernel_rfl, by kernel_rfl⟩ ⟨by kernel_rfl, by kernel_rfl⟩ ?_
    refine TL.run 7 [] [(0, .slice A_l l.length c_l), (1, .int .i64 later), (2, .int .i64 at_), (8, .int .i64 r2.1), (28, .bool ((r2.2 != 0) || (decide (r2.1 < 9))))] rfl ⟨by kernel_rfl, by kernel_rfl⟩ ?_
    refine TL.join 28 ((r2.2 != 0) || (decide (r2.1 < 9))) 10 [] [] (fun β => [(0, .slice A_l l.length c_l), (1, .int .i64 later), (2, .int .i64 at_), (31, .bool (β || (decide (r2.1 > 11))))]) (by kernel_rfl) rfl ⟨by kernel_rfl, by kernel_rfl⟩ ⟨by kernel_rfl, by kernel_rfl⟩ ?_
    refine TL.next rfl ?_
    refine TC.cond (((r2.2 != 0) || (decide (r2.1 < 9))) || (decide (r2.1 > 11))) rfl (by kernel_rfl) (fun h1 => ?_) (fun h1 => ?_)
    · refine TC.seq ?_
      refine TC.region ?_
      refine TL.run 1 [] [(6, .bool false)] rfl ⟨by kernel_rfl, by kernel_rfl⟩ ?_
      refine TL.next rfl ?_
      refine TC.ret ?_
      refine TE.ret_then ?_
      have e : skywaykeep2_ConformLate l later at_ = false := by subst hr1 hr2; unfold skywaykeep2_ConformLate; exact cond_t h1 (rfl)
      exact TE.ret [] (.bool false) ⟨by kernel_rfl, by kernel_rfl⟩ (by rw [e]; first | done | kernel_rfl)
    · refine TC.skip ?_
      refine TE.next ?_
      refine TC.seq ?_
      refine TC.seq ?_
      refine TC.region ?_
      refine TL.run 1 [] [(0, .slice A_l l.length c_l), (1, .int .i64 later), (2, .int .i64 at_), (32, .slice A_l l.length c_l)] rfl ⟨by kernel_rfl, by kernel_rfl⟩ ?_
      refine TL.call (some 33) [(0, .slice A_l l.length c_l), (1, .int .i64 later), (2, .int .i64 at_), (33, .int .i64 (tube_Check l))] (fun w hM => tube_Check_w A_l c_l l w (h_l.sat hM) hc_l) (by kernel_rfl) (by kernel_rfl) ?_
      generalize hr3 : tube_Check l = r3
      refine TL.run 3 [] [(0, .slice A_l l.length c_l), (1, .int .i64 later), (2, .int .i64 at_), (34, .bool (r3 != 0))] rfl ⟨by kernel_rfl, by kernel_rfl⟩ ?_
      refine TL.next rfl ?_
      refine TC.cond (r3 != 0) rfl (by kernel_rfl) (fun h2 => ?_) (fun h2 => ?_)
      · refine TC.seq ?_
        refine TC.region ?_
        refine TL.run 1 [] [(6, .bool true)] rfl ⟨by kernel_rfl, by kernel_rfl⟩ ?_
        refine TL.next rfl ?_
        refine TC.ret ?_
        refine TE.ret_then ?_
        have e : skywaykeep2_ConformLate l later at_ = true := by subst hr1 hr2 hr3; unfold skywaykeep2_ConformLate; exact cond_f h1 (cond_t h2 (rfl))
        exact TE.ret [] (.bool true) ⟨by kernel_rfl, by kernel_rfl⟩ (by rw [e]; first | done | kernel_rfl)
      · refine TC.skip ?_
        refine TE.next ?_
        refine TC.seq ?_
        refine TC.region ?_
        refine TL.run 1 [] [(0, .slice A_l l.length c_l), (2, .int .i64 at_), (35, .int .i64 later)] rfl ⟨by kernel_rfl, by kernel_rfl⟩ ?_
        refine TL.call (some 36) [(0, .slice A_l l.length c_l), (2, .int .i64 at_), (36, .int .i64 (skywaykeep2_within later (-40) 40))] (fun w _ => skywaykeep2_within_w later (-40) 40 w (by first | decide | (have u_ := tube_span hr3 ‹(r3 != 0) = false›; exact u_))) (by kernel_rfl) (by kernel_rfl) ?_
        generalize hr4 : skywaykeep2_within later (-40) 40 = r4
        refine TL.run 3 [] [(0, .slice A_l l.length c_l), (1, .int .i64 r4), (2, .int .i64 at_)] rfl ⟨by kernel_rfl, by kernel_rfl⟩ ?_
        refine TL.next rfl ?_
        refine TC.seq ?_
        refine TC.draw 16 (by kernel_rfl) (by kernel_rfl) (by kernel_rfl) ?_
        refine TQ.run 2 [] [(0, .slice A_l l.length c_l), (1, .int .i64 r4), (37, .int .i64 at_), (38, .slice A_l l.length c_l)] rfl ⟨by kernel_rfl, by kernel_rfl⟩ ?_
        refine TQ.val (sV (Instr.indexAt 53 (.slice A_l l.length c_l) (.int .i64 0))) (some 39) (.pointer (some ((A_l.getD noAddr).add (0 * 6)))) [(0, .slice A_l l.length c_l), (1, .int .i64 r4), (37, .int .i64 at_), (39, .pointer (some ((A_l.getD noAddr).add (0 * 6))))] (fun w hM => run_index (h_l.sat hM) (by simp) (by kernel_rfl) (by have q0_ := (bne_f (or_f1 (or_f1 h1))); have q1_ := (dec_f (or_f2 (or_f1 h1))); have q2_ := (dec_f (or_f2 h1)); have q3_ := (bne_f h2); (try have uk_ := tube_len hr3 ‹(r3 != 0) = false›); first | omega | (simp only [List.length_drop]; omega) | (simp only [w64_eq]; omega) | exact (tm_in (by (first | (rw [w64_id (by omega)]; omega) | (simp only [w64_eq]; omega))) (by omega)).1 | exact (tm_in (by (first | (rw [w64_id (by omega)]; omega) | (simp only [w64_eq]; omega))) (by omega)).2.1 | exact (tm_in (by (first | (rw [w64_id (by omega)]; omega) | (simp only [w64_eq]; omega))) (by omega)).2.2 | (simp <;> omega)) (by have q0_ := (bne_f (or_f1 (or_f1 h1))); have q1_ := (dec_f (or_f2 (or_f1 h1))); have q2_ := (dec_f (or_f2 h1)); have q3_ := (bne_f h2); (try have uk_ := tube_len hr3 ‹(r3 != 0) = false›); first | omega | (simp only [List.length_drop]; omega) | (simp only [w64_eq]; omega) | exact (tm_in (by (first | (rw [w64_id (by omega)]; omega) | (simp only [w64_eq]; omega))) (by omega)).1 | exact (tm_in (by (first | (rw [w64_id (by omega)]; omega) | (simp only [w64_eq]; omega))) (by omega)).2.1 | exact (tm_in (by (first | (rw [w64_id (by omega)]; omega) | (simp only [w64_eq]; omega))) (by omega)).2.2 | (simp <;> omega))) rfl (by kernel_rfl) (by kernel_rfl) ?_
        refine TQ.run 5 [] [(0, .slice A_l l.length c_l), (1, .int .i64 r4), (37, .int .i64 at_), (41, .pointer (some ((A_l.getD noAddr).add (0 * 6))))] rfl ⟨by kernel_rfl, by kernel_rfl⟩ ?_
        refine TQ.val (sV (Instr.loadAt 3 (.pointer (some ((A_l.getD noAddr).add (0 * 6)))))) (some 42) (.int .i64 (((l[0]?.getD TubeNode.zero).Node).Time)) [(0, .slice A_l l.length c_l), (1, .int .i64 r4), (37, .int .i64 at_), (42, .int .i64 (((l[0]?.getD TubeNode.zero).Node).Time))] (fun w hM => run_load_one (off := 0) (i := 0) (.int .i64 (((l[0]?.getD TubeNode.zero).Node).Time)) (h_l.sat hM) (map_at (getD_at _ _ TubeNode.zero (by have q0_ := (bne_f (or_f1 (or_f1 h1))); have q1_ := (dec_f (or_f2 (or_f1 h1))); have q2_ := (dec_f (or_f2 h1)); have q3_ := (bne_f h2); (try have uk_ := tube_len hr3 ‹(r3 != 0) = false›); first | omega | (simp only [List.length_drop]; omega) | (simp only [w64_eq]; omega) | exact (tm_in (by (first | (rw [w64_id (by omega)]; omega) | (simp only [w64_eq]; omega))) (by omega)).1 | exact (tm_in (by (first | (rw [w64_id (by omega)]; omega) | (simp only [w64_eq]; omega))) (by omega)).2.1 | exact (tm_in (by (first | (rw [w64_id (by omega)]; omega) | (simp only [w64_eq]; omega))) (by omega)).2.2 | (simp <;> omega)))) (by kernel_rfl) (by kernel_rfl)) rfl (by kernel_rfl) (by kernel_rfl) ?_
        refine TQ.run 10 [] [(0, .slice A_l l.length c_l), (1, .int .i64 r4), (37, .int .i64 at_), (42, .int .i64 (((l[0]?.getD TubeNode.zero).Node).Time)), (43, .slice A_l l.length c_l), (46, .int .i64 (w64 ((l.length : Int) - 1)))] rfl ⟨by kernel_rfl, by kernel_rfl⟩ ?_
        refine TQ.rw 46 (.int .i64 (w64 ((l.length : Int) - 1))) (.int .i64 ((l.length - 1 : Nat) : Int)) (by kernel_rfl) (w64_pred l.length (by have q0_ := (bne_f (or_f1 (or_f1 h1))); have q1_ := (dec_f (or_f2 (or_f1 h1))); have q2_ := (dec_f (or_f2 h1)); have q3_ := (bne_f h2); (try have uk_ := tube_len hr3 ‹(r3 != 0) = false›); first | omega | (simp only [List.length_drop]; omega) | (simp only [w64_eq]; omega) | exact (tm_in (by (first | (rw [w64_id (by omega)]; omega) | (simp only [w64_eq]; omega))) (by omega)).1 | exact (tm_in (by (first | (rw [w64_id (by omega)]; omega) | (simp only [w64_eq]; omega))) (by omega)).2.1 | exact (tm_in (by (first | (rw [w64_id (by omega)]; omega) | (simp only [w64_eq]; omega))) (by omega)).2.2 | (simp <;> omega))) ?_
        refine TQ.val (sV (Instr.indexAt 53 (.slice A_l l.length c_l) (.int .i64 ((l.length - 1 : Nat) : Int)))) (some 47) (.pointer (some ((A_l.getD noAddr).add ((l.length - 1) * 6)))) [(0, .slice A_l l.length c_l), (1, .int .i64 r4), (37, .int .i64 at_), (42, .int .i64 (((l[0]?.getD TubeNode.zero).Node).Time)), (47, .pointer (some ((A_l.getD noAddr).add ((l.length - 1) * 6))))] (fun w hM => run_index (h_l.sat hM) (by simp) (by kernel_rfl) (by have q0_ := (bne_f (or_f1 (or_f1 h1))); have q1_ := (dec_f (or_f2 (or_f1 h1))); have q2_ := (dec_f (or_f2 h1)); have q3_ := (bne_f h2); (try have uk_ := tube_len hr3 ‹(r3 != 0) = false›); first | omega | (simp only [List.length_drop]; omega) | (simp only [w64_eq]; omega) | exact (tm_in (by (first | (rw [w64_id (by omega)]; omega) | (simp only [w64_eq]; omega))) (by omega)).1 | exact (tm_in (by (first | (rw [w64_id (by omega)]; omega) | (simp only [w64_eq]; omega))) (by omega)).2.1 | exact (tm_in (by (first | (rw [w64_id (by omega)]; omega) | (simp only [w64_eq]; omega))) (by omega)).2.2 | (simp <;> omega)) (by have q0_ := (bne_f (or_f1 (or_f1 h1))); have q1_ := (dec_f (or_f2 (or_f1 h1))); have q2_ := (dec_f (or_f2 h1)); have q3_ := (bne_f h2); (try have uk_ := tube_len hr3 ‹(r3 != 0) = false›); first | omega | (simp only [List.length_drop]; omega) | (simp only [w64_eq]; omega) | exact (tm_in (by (first | (rw [w64_id (by omega)]; omega) | (simp only [w64_eq]; omega))) (by omega)).1 | exact (tm_in (by (first | (rw [w64_id (by omega)]; omega) | (simp only [w64_eq]; omega))) (by omega)).2.1 | exact (tm_in (by (first | (rw [w64_id (by omega)]; omega) | (simp only [w64_eq]; omega))) (by omega)).2.2 | (simp <;> omega))) rfl (by kernel_rfl) (by kernel_rfl) ?_
        refine TQ.run 13 [] [(0, .slice A_l l.length c_l), (1, .int .i64 r4), (37, .int .i64 at_), (42, .int .i64 (((l[0]?.getD TubeNode.zero).Node).Time)), (49, .pointer (some ((A_l.getD noAddr).add ((l.length - 1) * 6))))] rfl ⟨by kernel_rfl, by kernel_rfl⟩ ?_
        refine TQ.val (sV (Instr.loadAt 3 (.pointer (some ((A_l.getD noAddr).add ((l.length - 1) * 6)))))) (some 50) (.int .i64 (((l[(l.length - 1)]?.getD TubeNode.zero).Node).Time)) [(0, .slice A_l l.length c_l), (1, .int .i64 r4), (37, .int .i64 at_), (42, .int .i64 (((l[0]?.getD TubeNode.zero).Node).Time)), (50, .int .i64 (((l[(l.length - 1)]?.getD TubeNode.zero).Node).Time))] (fun w hM => run_load_one (off := 0) (i := (l.length - 1)) (.int .i64 (((l[(l.length - 1)]?.getD TubeNode.zero).Node).Time)) (h_l.sat hM) (map_at (getD_at _ _ TubeNode.zero (by have q0_ := (bne_f (or_f1 (or_f1 h1))); have q1_ := (dec_f (or_f2 (or_f1 h1))); have q2_ := (dec_f (or_f2 h1)); have q3_ := (bne_f h2); (try have uk_ := tube_len hr3 ‹(r3 != 0) = false›); first | omega | (simp only [List.length_drop]; omega) | (simp only [w64_eq]; omega) | exact (tm_in (by (first | (rw [w64_id (by omega)]; omega) | (simp only [w64_eq]; omega))) (by omega)).1 | exact (tm_in (by (first | (rw [w64_id (by omega)]; omega) | (simp only [w64_eq]; omega))) (by omega)).2.1 | exact (tm_in (by (first | (rw [w64_id (by omega)]; omega) | (simp only [w64_eq]; omega))) (by omega)).2.2 | (simp <;> omega)))) (by kernel_rfl) (by kernel_rfl)) rfl (by kernel_rfl) (by kernel_rfl) ?_
        refine TQ.call (some 51) [(0, .slice A_l l.length c_l), (1, .int .i64 r4), (51, .int .i64 (skywaykeep2_within at_ (((l[0]?.getD TubeNode.zero).Node).Time) (((l[(l.length - 1)]?.getD TubeNode.zero).Node).Time)))] (fun w _ => skywaykeep2_within_w at_ (((l[0]?.getD TubeNode.zero).Node).Time) (((l[(l.length - 1)]?.getD TubeNode.zero).Node).Time) w (by first | decide | (have u_ := tube_span hr3 ‹(r3 != 0) = false›; exact u_))) rfl (by kernel_rfl) (by kernel_rfl) ?_
        generalize hr5 : skywaykeep2_within at_ (((l[0]?.getD TubeNode.zero).Node).Time) (((l[(l.length - 1)]?.getD TubeNode.zero).Node).Time) = r5
        refine TQ.run 16 [] [(0, .slice A_l l.length c_l), (1, .int .i64 r4), (2, .int .i64 r5)] rfl ⟨by kernel_rfl, by kernel_rfl⟩ ?_
        refine TQ.next rfl ?_
        refine TC.seq ?_
        refine TC.region ?_
        refine TL.run 2 [] [(0, .slice A_l l.length c_l), (1, .int .i64 r4), (2, .int .i64 r5), (53, .slice A_l l.length c_l), (54, .int .i64 r5)] rfl ⟨by kernel_rfl, by kernel_rfl⟩ ?_
        refine TL.call (some 55) [(0, .slice A_l l.length c_l), (1, .int .i64 r4), (2, .int .i64 r5), (55, .tuple #[TubeNode.v ((tube_At l r5).1), .int .i64 ((tube_At l r5).2)])] (fun w hM => tube_At_w A_l c_l l r5 w (h_l.sat hM) hc_l) (by kernel_rfl) (by kernel_rfl) ?_
        generalize hr6 : tube_At l r5 = r6
        refine TL.run 6 [] [(0, .slice A_l l.length c_l), (1, .int .i64 r4), (2, .int .i64 r5), (56, TubeNode.v r6.1), (57, .int .i64 r6.2)] rfl ⟨by kernel_rfl, by kernel_rfl⟩ ?_
        refine TL.write 0 (fun b2 => [(0, .slice A_l l.length c_l), (1, .int .i64 r4), (2, .int .i64 r5), (10, .pointer (some ⟨b2, 0, none⟩)), (56, TubeNode.v r6.1), (57, .int .i64 r6.2)]) (fun b2 => [.inl (b2, .cells (TubeNode.c TubeNode.zero) 57 (0, 0)), .inr (Own A c 57 6 (r1.map TubeNode.c)), .inl (b1, .cells #[.int .i64 0, .int .i64 0, .int .i64 50, .int .i64 8000, .int .i64 0, .int .i64 0, .int .i64 0, .int .i64 5000, .int .i64 0, .int .i64 0, .int .i64 0, .int .i64 0, .int .i64 0] 33 (0, 0))]) (fun b2 => ⟨by kernel_rfl, by kernel_rfl⟩) (fun b2 => ?_)
        refine TL.write 0 (fun _ => [(0, .slice A_l l.length c_l), (1, .int .i64 r4), (2, .int .i64 r5), (10, .pointer (some ⟨b2, 0, none⟩)), (57, .int .i64 r6.2)]) (fun _ => [.inl (b2, .cells (TubeNode.c r6.1) 57 (0, 0)), .inr (Own A c 57 6 (r1.map TubeNode.c)), .inl (b1, .cells #[.int .i64 0, .int .i64 0, .int .i64 50, .int .i64 8000, .int .i64 0, .int .i64 0, .int .i64 0, .int .i64 5000, .int .i64 0, .int .i64 0, .int .i64 0, .int .i64 0, .int .i64 0] 33 (0, 0))]) (fun _ => ⟨by kernel_rfl, by kernel_rfl⟩) (fun _ => ?_)
        refine TL.run 9 [] [(0, .slice A_l l.length c_l), (1, .int .i64 r4), (2, .int .i64 r5), (10, .pointer (some ⟨b2, 0, none⟩)), (11, .int .i64 r6.2)] rfl ⟨by kernel_rfl, by kernel_rfl⟩ ?_
        refine TL.next rfl ?_
        refine TC.seq ?_
        refine TC.seq ?_
        refine TC.region ?_
        refine TL.run 3 [] [(0, .slice A_l l.length c_l), (1, .int .i64 r4), (2, .int .i64 r5), (10, .pointer (some ⟨b2, 0, none⟩)), (60, .bool (r6.2 != 0))] rfl ⟨by kernel_rfl, by kernel_rfl⟩ ?_
        refine TL.join 60 (r6.2 != 0) 8 [] [] (fun β => [(0, .slice A_l l.length c_l), (1, .int .i64 r4), (2, .int .i64 r5), (10, .pointer (some ⟨b2, 0, none⟩)), (65, .bool (β || (decide ((w64 (r5 + r4)) < 0))))]) (by kernel_rfl) rfl ⟨by kernel_rfl, by kernel_rfl⟩ ⟨by kernel_rfl, by kernel_rfl⟩ ?_
        refine TL.run 9 [] [(0, .slice A_l l.length c_l), (1, .int .i64 r4), (2, .int .i64 r5), (10, .pointer (some ⟨b2, 0, none⟩)), (66, .bool ((r6.2 != 0) || (decide ((w64 (r5 + r4)) < 0))))] rfl ⟨by kernel_rfl, by kernel_rfl⟩ ?_
        refine TL.join 66 ((r6.2 != 0) || (decide ((w64 (r5 + r4)) < 0))) 14 [] [] (fun β => [(0, .slice A_l l.length c_l), (1, .int .i64 r4), (2, .int .i64 r5), (10, .pointer (some ⟨b2, 0, none⟩)), (71, .bool (β || (decide ((w64 (r5 + r4)) > 200000))))]) (by kernel_rfl) rfl ⟨by kernel_rfl, by kernel_rfl⟩ ⟨by kernel_rfl, by kernel_rfl⟩ ?_
        refine TL.next rfl ?_
        refine TC.cond (((r6.2 != 0) || (decide ((w64 (r5 + r4)) < 0))) || (decide ((w64 (r5 + r4)) > 200000))) rfl (by kernel_rfl) (fun h3 => ?_) (fun h3 => ?_)
        · refine TC.seq ?_
          refine TC.region ?_
          refine TL.run 1 [] [(6, .bool true)] rfl ⟨by kernel_rfl, by kernel_rfl⟩ ?_
          refine TL.next rfl ?_
          refine TC.ret ?_
          refine TE.ret_then ?_
          have e : skywaykeep2_ConformLate l later at_ = true := by subst hr1 hr2 hr3 hr4 hr5 hr6; unfold skywaykeep2_ConformLate; exact cond_f h1 (cond_f h2 (cond_t h3 (rfl)))
          exact TE.ret [] (.bool true) ⟨by kernel_rfl, by kernel_rfl⟩ (by rw [e]; first | done | kernel_rfl)
        · refine TC.skip ?_
          refine TE.next ?_
          refine TC.seq ?_
          refine TC.region ?_
          refine TL.run 11 [0, 0] [(1, .int .i64 r4), (82, .agg #[.int .i64 0, .int .i64 0, .int .i64 (w64 (r5 + r4)), .int .i64 r6.1.Node.At.X, .int .i64 r6.1.Node.At.Y, .int .i64 0, .int .i64 0, .int .i64 r6.1.Node.Height, .int .i64 0, .int .i64 0, .int .i64 0, .int .i64 0, .int .i64 0]), (83, .slice A_l l.length c_l)] rfl ⟨by kernel_rfl, by kernel_rfl⟩ ?_
          refine TL.call (some 84) [(1, .int .i64 r4), (84, .tuple #[.int .i64 ((conform_Late (⟨0, 0, w64 (r5 + r4), r6.1.Node.At, ⟨0, 0⟩, r6.1.Node.Height, 0, 0, 0, 0, 0⟩ : Track) l).1), .int .i64 ((conform_Late (⟨0, 0, w64 (r5 + r4), r6.1.Node.At, ⟨0, 0⟩, r6.1.Node.Height, 0, 0, 0, 0, 0⟩ : Track) l).2)])] (fun w hM => conform_Late_w (⟨0, 0, w64 (r5 + r4), r6.1.Node.At, ⟨0, 0⟩, r6.1.Node.Height, 0, 0, 0, 0, 0⟩ : Track) A_l c_l l w (h_l.sat hM) hc_l) (by kernel_rfl) (by kernel_rfl) ?_
          generalize hr7 : conform_Late (⟨0, 0, w64 (r5 + r4), r6.1.Node.At, ⟨0, 0⟩, r6.1.Node.Height, 0, 0, 0, 0, 0⟩ : Track) l = r7
          refine TL.run 17 [] [(1, .int .i64 r4), (12, .int .i64 r7.1), (13, .int .i64 r7.2)] rfl ⟨by kernel_rfl, by kernel_rfl⟩ ?_
          refine TL.next rfl ?_
          refine TC.seq ?_
          refine TC.region ?_
          refine TL.run 3 [] [(1, .int .i64 r4), (12, .int .i64 r7.1), (89, .bool (r7.2 == 0))] rfl ⟨by kernel_rfl, by kernel_rfl⟩ ?_
          refine TL.join 89 (r7.2 == 0) 13 [] [] (fun β => [(99, .bool (β && (decide ((imax r7.1 (w64 (0 - r7.1))) ≤ (imax r4 (w64 (0 - r4)))))))]) (by kernel_rfl) rfl ⟨by kernel_rfl, by kernel_rfl⟩ ⟨by kernel_rfl, by kernel_rfl⟩ ?_
          refine TL.run 14 [] [(6, .bool ((r7.2 == 0) && (decide ((imax r7.1 (w64 (0 - r7.1))) ≤ (imax r4 (w64 (0 - r4)))))))] rfl ⟨by kernel_rfl, by kernel_rfl⟩ ?_
          refine TL.next rfl ?_
          refine TC.ret ?_
          have e : skywaykeep2_ConformLate l later at_ = ((r7.2 == 0) && (decide ((imax r7.1 (w64 (0 - r7.1))) ≤ (imax r4 (w64 (0 - r4)))))) := by subst hr1 hr2 hr3 hr4 hr5 hr6 hr7; unfold skywaykeep2_ConformLate; exact cond_f h1 (cond_f h2 (cond_f h3 (rfl)))
          exact TE.ret [] (.bool ((r7.2 == 0) && (decide ((imax r7.1 (w64 (0 - r7.1))) ≤ (imax r4 (w64 (0 - r4))))))) ⟨by kernel_rfl, by kernel_rfl⟩ (by rw [e]; first | done | kernel_rfl)

end Go.Sky
