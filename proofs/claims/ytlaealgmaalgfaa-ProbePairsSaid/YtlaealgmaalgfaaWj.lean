/- Functions of the program, each with the Lean function that it computes. Conditions: none. -/
import Derived.Test.YtlaealgmaalgfaaTube
import Derived.Test.YtlaealgmaalgfaaWd
namespace Go.Sky
open Go Go.Eng Go.Proofs
def tube_at (l : List TubeNode) (t : Int) : TubeNode :=
  let r1 := BinarySearch_tube l t
  cond r1.2 (
    (l[r1.1.toNat]?.getD TubeNode.zero)) (
    let r2 := plane_Toward (((l[(w64 (r1.1 - 1)).toNat]?.getD TubeNode.zero).Node).At) (((l[r1.1.toNat]?.getD TubeNode.zero).Node).At) (w64 (t - (((l[(w64 (r1.1 - 1)).toNat]?.getD TubeNode.zero).Node).Time))) (w64 ((((l[r1.1.toNat]?.getD TubeNode.zero).Node).Time) - (((l[(w64 (r1.1 - 1)).toNat]?.getD TubeNode.zero).Node).Time)))
    let r3 := w64 ((w64 ((((l[r1.1.toNat]?.getD TubeNode.zero).Node).Height) - (((l[(w64 (r1.1 - 1)).toNat]?.getD TubeNode.zero).Node).Height))) * (w64 (t - (((l[(w64 (r1.1 - 1)).toNat]?.getD TubeNode.zero).Node).Time))))
    let r4 := num_DivDown r3 (w64 ((((l[r1.1.toNat]?.getD TubeNode.zero).Node).Time) - (((l[(w64 (r1.1 - 1)).toNat]?.getD TubeNode.zero).Node).Time)))
    let r5 := num_DivUp (w64 ((w64 (((l[r1.1.toNat]?.getD TubeNode.zero).Radius) - ((l[(w64 (r1.1 - 1)).toNat]?.getD TubeNode.zero).Radius))) * (w64 (t - (((l[(w64 (r1.1 - 1)).toNat]?.getD TubeNode.zero).Node).Time))))) (w64 ((((l[r1.1.toNat]?.getD TubeNode.zero).Node).Time) - (((l[(w64 (r1.1 - 1)).toNat]?.getD TubeNode.zero).Node).Time)))
    let r6 := num_DivUp (w64 ((w64 (((l[r1.1.toNat]?.getD TubeNode.zero).Band) - ((l[(w64 (r1.1 - 1)).toNat]?.getD TubeNode.zero).Band))) * (w64 (t - (((l[(w64 (r1.1 - 1)).toNat]?.getD TubeNode.zero).Node).Time))))) (w64 ((((l[r1.1.toNat]?.getD TubeNode.zero).Node).Time) - (((l[(w64 (r1.1 - 1)).toNat]?.getD TubeNode.zero).Node).Time)))
    (⟨⟨t, r2.1, w64 ((((l[(w64 (r1.1 - 1)).toNat]?.getD TubeNode.zero).Node).Height) + r4.1)⟩, w64 (((l[(w64 (r1.1 - 1)).toNat]?.getD TubeNode.zero).Radius) + r5.1), w64 (((l[(w64 (r1.1 - 1)).toNat]?.getD TubeNode.zero).Band) + r6.1)⟩ : TubeNode))

set_option maxRecDepth 100000 in
theorem tube_at_w (A_l : Option Addr) (c_l : Nat) (l : List TubeNode) (t : Int) (w : World) (h_l : Rd w 6 A_l (l.map TubeNode.c)) (hc_l : l.length ≤ c_l) (hok : TubeOk l ∧ TimeIn l t) : Calls Try.prog 69 #[.slice A_l l.length c_l, .int .i64 t] w (Ret w (TubeNode.v (tube_at l t))) := by
  have s_l := h_l.short; rw [List.length_map] at s_l
  refine calls_intro (vs := [.slice A_l l.length c_l, .int .i64 t]) (w := w) Try.func69 rfl Try.ntmps69 rfl ?_
  refine TC.weak [(0, .slice A_l l.length c_l), (1, .int .i64 t)] (by kernel_rfl) ?_
  refine TC.seq ?_
  refine TC.region ?_
  refine TL.write 0 (fun b1 => [(0, .slice A_l l.length c_l), (1, .int .i64 t), (4, .pointer (some ⟨b1, 0, none⟩))]) (fun b1 => [.inl (b1, .cells (TubeNode.c TubeNode.zero) 57 (0, 0))]) (fun b1 => ⟨by kernel_rfl, by kernel_rfl⟩) (fun b1 => ?_)
  refine TL.next rfl ?_
  refine TC.seq ?_
  refine TC.region ?_
  refine TL.run 2 [] [(0, .slice A_l l.length c_l), (1, .int .i64 t), (4, .pointer (some ⟨b1, 0, none⟩)), (20, .slice A_l l.length c_l), (21, .int .i64 t)] rfl ⟨by kernel_rfl, by kernel_rfl⟩ ?_
  refine TL.call (some 22) [(0, .slice A_l l.length c_l), (1, .int .i64 t), (4, .pointer (some ⟨b1, 0, none⟩)), (22, .tuple #[.int .i64 ((BinarySearch_tube l t).1), .bool ((BinarySearch_tube l t).2)])] (fun w hM => BinarySearch_tube_w A_l c_l l t w (h_l.sat hM) hc_l) (by kernel_rfl) (by kernel_rfl) ?_
  generalize hr1 : BinarySearch_tube l t = r1
  refine TL.run 8 [] [(0, .slice A_l l.length c_l), (1, .int .i64 t), (4, .pointer (some ⟨b1, 0, none⟩)), (5, .int .i64 r1.1), (6, .bool r1.2)] rfl ⟨by kernel_rfl, by kernel_rfl⟩ ?_
  refine TL.next rfl ?_
  refine TC.seq ?_
  refine TC.seq ?_
  refine TC.region ?_
  refine TL.run 1 [] [(0, .slice A_l l.length c_l), (1, .int .i64 t), (4, .pointer (some ⟨b1, 0, none⟩)), (5, .int .i64 r1.1), (25, .bool r1.2)] rfl ⟨by kernel_rfl, by kernel_rfl⟩ ?_
  refine TL.next rfl ?_
  refine TC.cond r1.2 rfl (by kernel_rfl) (fun h1 => ?_) (fun h1 => ?_)
  · refine TC.seq ?_
    refine TC.region ?_
    refine TL.run 2 [] [(4, .pointer (some ⟨b1, 0, none⟩)), (26, .slice A_l l.length c_l), (27, .int .i64 r1.1)] rfl ⟨by kernel_rfl, by kernel_rfl⟩ ?_
    refine TL.val (sV (Instr.indexAt 53 (.slice A_l l.length c_l) (.int .i64 r1.1))) (some 28) (.pointer (some ((A_l.getD noAddr).add (r1.1.toNat * 6)))) [(4, .pointer (some ⟨b1, 0, none⟩)), (28, .pointer (some ((A_l.getD noAddr).add (r1.1.toNat * 6))))] (fun w hM => run_index (h_l.sat hM) (by simp) (by kernel_rfl) (by have u_ := bs_at hok hr1; omega) (by have u_ := bs_at hok hr1; omega)) (by kernel_rfl) (by kernel_rfl) ?_
    refine TL.val (sV (Instr.loadAt 57 (.pointer (some ((A_l.getD noAddr).add (r1.1.toNat * 6)))))) (some 29) (TubeNode.v (l[r1.1.toNat]?.getD TubeNode.zero)) [(4, .pointer (some ⟨b1, 0, none⟩)), (29, TubeNode.v (l[r1.1.toNat]?.getD TubeNode.zero))] (fun w hM => run_load_agg (n := 6) (off := 0) (i := r1.1.toNat) (TubeNode.v (l[r1.1.toNat]?.getD TubeNode.zero)) (h_l.sat hM) (map_at (getD_at _ _ TubeNode.zero (by have u_ := bs_at hok hr1; omega))) (by kernel_rfl) (by kernel_rfl) (by kernel_rfl)) (by kernel_rfl) (by kernel_rfl) ?_
    refine TL.write 0 (fun _ => [(4, .pointer (some ⟨b1, 0, none⟩))]) (fun _ => [.inl (b1, .cells (TubeNode.c (l[r1.1.toNat]?.getD TubeNode.zero)) 57 (0, 0))]) (fun _ => ⟨by kernel_rfl, by kernel_rfl⟩) (fun _ => ?_)
    refine TL.next rfl ?_
    refine TC.ret ?_
    refine TE.ret_then ?_
    have e : tube_at l t = (l[r1.1.toNat]?.getD TubeNode.zero) := by subst hr1; unfold tube_at; exact cond_t h1 (rfl)
    exact TE.ret [0] (TubeNode.v (l[r1.1.toNat]?.getD TubeNode.zero)) ⟨by kernel_rfl, by kernel_rfl⟩ (by rw [e]; first | done | kernel_rfl)
  · refine TC.skip ?_
    refine TE.next ?_
    refine TC.seq ?_
    refine TC.plan (G := Nat × Nat) (base := [(0, .slice A_l l.length c_l), (1, .int .i64 t), (4, .pointer (some ⟨b1, 0, none⟩)), (5, .int .i64 r1.1)]) (vals := fun γ => [.slice A_l l.length c_l, .int .i64 r1.1, .int .i64 (w64 (r1.1 - 1)), .pointer (some ((A_l.getD noAddr).add ((w64 (r1.1 - 1)).toNat * 6))), TubeNode.v (l[(w64 (r1.1 - 1)).toNat]?.getD TubeNode.zero), .slice A_l l.length c_l, .int .i64 r1.1, .pointer (some ((A_l.getD noAddr).add (r1.1.toNat * 6))), TubeNode.v (l[r1.1.toNat]?.getD TubeNode.zero), .pointer (some ⟨γ.1, 0, none⟩), .pointer (some ⟨γ.2, 0, none⟩), undef, undef]) (writes := [9, 10, 11, 12]) (mem := fun bs γ => match bs with | [x9_, x10_, x11_, x12_] => (bif x11_ then [.inl (γ.1, .cells (TubeNode.c (l[(w64 (r1.1 - 1)).toNat]?.getD TubeNode.zero)) 57 (0, 0))] else bif x9_ then [.inl (γ.1, .cells (TubeNode.c TubeNode.zero) 57 (0, 0))] else []) ++ ((bif x12_ then [.inl (γ.2, .cells (TubeNode.c (l[r1.1.toNat]?.getD TubeNode.zero)) 57 (0, 0))] else bif x10_ then [.inl (γ.2, .cells (TubeNode.c TubeNode.zero) 57 (0, 0))] else []) ++ ([.inl (b1, .cells (TubeNode.c TubeNode.zero) 57 (0, 0))])) | _ => []) (0, 0) (fun γ => [(1, .int .i64 t), (4, .pointer (some ⟨b1, 0, none⟩)), (7, .pointer (some ⟨γ.1, 0, none⟩)), (8, .pointer (some ⟨γ.2, 0, none⟩))]) (by kernel_rfl) (by kernel_rfl) (by kernel_rfl) (by kernel_rfl) (by kernel_rfl) (fun γ => by kernel_rfl) (fun _ hM => hM) (fun γ => by kernel_rfl) ?_ ?_
    · skip
      refine Steps.run (i := 0) 3 [0, 0, 0] [.inl (b1, .cells (TubeNode.c TubeNode.zero) 57 (0, 0))] (by kernel_rfl) (by kernel_rfl) (fun S (γ : Nat × Nat) w hM => by change Sat _ ((bif S 11 then [.inl (γ.1, .cells (TubeNode.c (l[(w64 (r1.1 - 1)).toNat]?.getD TubeNode.zero)) 57 (0, 0))] else bif S 9 then [.inl (γ.1, .cells (TubeNode.c TubeNode.zero) 57 (0, 0))] else []) ++ ((bif S 12 then [.inl (γ.2, .cells (TubeNode.c (l[r1.1.toNat]?.getD TubeNode.zero)) 57 (0, 0))] else bif S 10 then [.inl (γ.2, .cells (TubeNode.c TubeNode.zero) 57 (0, 0))] else []) ++ ([.inl (b1, .cells (TubeNode.c TubeNode.zero) 57 (0, 0))]))) w at hM; exact hM.sub (sub_skip (sub_skip (List.Sublist.refl _)))) (by kernel_rfl) (fun (γ : Nat × Nat) => ⟨by kernel_rfl, by kernel_rfl⟩) ?_
      refine Steps.val (i := 3) (fun (γ : Nat × Nat) => sV (Instr.indexAt 53 (.slice A_l l.length c_l) (.int .i64 (w64 (r1.1 - 1))))) (some 33) (fun (γ : Nat × Nat) => .pointer (some ((A_l.getD noAddr).add ((w64 (r1.1 - 1)).toNat * 6)))) (fun _ => [.inl (b1, .cells (TubeNode.c TubeNode.zero) 57 (0, 0))]) (by kernel_rfl) (fun S (γ : Nat × Nat) w _ hM => by change Sat _ ((bif S 11 then [.inl (γ.1, .cells (TubeNode.c (l[(w64 (r1.1 - 1)).toNat]?.getD TubeNode.zero)) 57 (0, 0))] else bif S 9 then [.inl (γ.1, .cells (TubeNode.c TubeNode.zero) 57 (0, 0))] else []) ++ ((bif S 12 then [.inl (γ.2, .cells (TubeNode.c (l[r1.1.toNat]?.getD TubeNode.zero)) 57 (0, 0))] else bif S 10 then [.inl (γ.2, .cells (TubeNode.c TubeNode.zero) 57 (0, 0))] else []) ++ ([.inl (b1, .cells (TubeNode.c TubeNode.zero) 57 (0, 0))]))) w at hM; exact hM.sub (sub_skip (sub_skip (List.Sublist.refl _)))) (fun (γ : Nat × Nat) w hM => run_index (h_l.sat hM) (by simp) (by kernel_rfl) (by have u_ := bs_at hok hr1; have v_ := u_.2 h1; omega) (by have u_ := bs_at hok hr1; have v_ := u_.2 h1; omega)) (fun (γ : Nat × Nat) => by kernel_rfl) (fun (γ : Nat × Nat) => by kernel_rfl) ?_
      refine Steps.val (i := 4) (fun (γ : Nat × Nat) => sV (Instr.loadAt 57 (.pointer (some ((A_l.getD noAddr).add ((w64 (r1.1 - 1)).toNat * 6)))))) (some 34) (fun (γ : Nat × Nat) => TubeNode.v (l[(w64 (r1.1 - 1)).toNat]?.getD TubeNode.zero)) (fun _ => [.inl (b1, .cells (TubeNode.c TubeNode.zero) 57 (0, 0))]) (by kernel_rfl) (fun S (γ : Nat × Nat) w _ hM => by change Sat _ ((bif S 11 then [.inl (γ.1, .cells (TubeNode.c (l[(w64 (r1.1 - 1)).toNat]?.getD TubeNode.zero)) 57 (0, 0))] else bif S 9 then [.inl (γ.1, .cells (TubeNode.c TubeNode.zero) 57 (0, 0))] else []) ++ ((bif S 12 then [.inl (γ.2, .cells (TubeNode.c (l[r1.1.toNat]?.getD TubeNode.zero)) 57 (0, 0))] else bif S 10 then [.inl (γ.2, .cells (TubeNode.c TubeNode.zero) 57 (0, 0))] else []) ++ ([.inl (b1, .cells (TubeNode.c TubeNode.zero) 57 (0, 0))]))) w at hM; exact hM.sub (sub_skip (sub_skip (List.Sublist.refl _)))) (fun (γ : Nat × Nat) w hM => run_load_agg (n := 6) (off := 0) (i := (w64 (r1.1 - 1)).toNat) (TubeNode.v (l[(w64 (r1.1 - 1)).toNat]?.getD TubeNode.zero)) (h_l.sat hM) (map_at (getD_at _ _ TubeNode.zero (by have u_ := bs_at hok hr1; have v_ := u_.2 h1; omega))) (by kernel_rfl) (by kernel_rfl) (by kernel_rfl)) (fun (γ : Nat × Nat) => by kernel_rfl) (fun (γ : Nat × Nat) => by kernel_rfl) ?_
      refine Steps.run (i := 5) 7 [0, 0] [.inl (b1, .cells (TubeNode.c TubeNode.zero) 57 (0, 0))] (by kernel_rfl) (by kernel_rfl) (fun S (γ : Nat × Nat) w hM => by change Sat _ ((bif S 11 then [.inl (γ.1, .cells (TubeNode.c (l[(w64 (r1.1 - 1)).toNat]?.getD TubeNode.zero)) 57 (0, 0))] else bif S 9 then [.inl (γ.1, .cells (TubeNode.c TubeNode.zero) 57 (0, 0))] else []) ++ ((bif S 12 then [.inl (γ.2, .cells (TubeNode.c (l[r1.1.toNat]?.getD TubeNode.zero)) 57 (0, 0))] else bif S 10 then [.inl (γ.2, .cells (TubeNode.c TubeNode.zero) 57 (0, 0))] else []) ++ ([.inl (b1, .cells (TubeNode.c TubeNode.zero) 57 (0, 0))]))) w at hM; exact hM.sub (sub_skip (sub_skip (List.Sublist.refl _)))) (by kernel_rfl) (fun (γ : Nat × Nat) => ⟨by kernel_rfl, by kernel_rfl⟩) ?_
      refine Steps.val (i := 7) (fun (γ : Nat × Nat) => sV (Instr.indexAt 53 (.slice A_l l.length c_l) (.int .i64 r1.1))) (some 37) (fun (γ : Nat × Nat) => .pointer (some ((A_l.getD noAddr).add (r1.1.toNat * 6)))) (fun _ => [.inl (b1, .cells (TubeNode.c TubeNode.zero) 57 (0, 0))]) (by kernel_rfl) (fun S (γ : Nat × Nat) w _ hM => by change Sat _ ((bif S 11 then [.inl (γ.1, .cells (TubeNode.c (l[(w64 (r1.1 - 1)).toNat]?.getD TubeNode.zero)) 57 (0, 0))] else bif S 9 then [.inl (γ.1, .cells (TubeNode.c TubeNode.zero) 57 (0, 0))] else []) ++ ((bif S 12 then [.inl (γ.2, .cells (TubeNode.c (l[r1.1.toNat]?.getD TubeNode.zero)) 57 (0, 0))] else bif S 10 then [.inl (γ.2, .cells (TubeNode.c TubeNode.zero) 57 (0, 0))] else []) ++ ([.inl (b1, .cells (TubeNode.c TubeNode.zero) 57 (0, 0))]))) w at hM; exact hM.sub (sub_skip (sub_skip (List.Sublist.refl _)))) (fun (γ : Nat × Nat) w hM => run_index (h_l.sat hM) (by simp) (by kernel_rfl) (by have u_ := bs_at hok hr1; omega) (by have u_ := bs_at hok hr1; omega)) (fun (γ : Nat × Nat) => by kernel_rfl) (fun (γ : Nat × Nat) => by kernel_rfl) ?_
      refine Steps.val (i := 8) (fun (γ : Nat × Nat) => sV (Instr.loadAt 57 (.pointer (some ((A_l.getD noAddr).add (r1.1.toNat * 6)))))) (some 38) (fun (γ : Nat × Nat) => TubeNode.v (l[r1.1.toNat]?.getD TubeNode.zero)) (fun _ => [.inl (b1, .cells (TubeNode.c TubeNode.zero) 57 (0, 0))]) (by kernel_rfl) (fun S (γ : Nat × Nat) w _ hM => by change Sat _ ((bif S 11 then [.inl (γ.1, .cells (TubeNode.c (l[(w64 (r1.1 - 1)).toNat]?.getD TubeNode.zero)) 57 (0, 0))] else bif S 9 then [.inl (γ.1, .cells (TubeNode.c TubeNode.zero) 57 (0, 0))] else []) ++ ((bif S 12 then [.inl (γ.2, .cells (TubeNode.c (l[r1.1.toNat]?.getD TubeNode.zero)) 57 (0, 0))] else bif S 10 then [.inl (γ.2, .cells (TubeNode.c TubeNode.zero) 57 (0, 0))] else []) ++ ([.inl (b1, .cells (TubeNode.c TubeNode.zero) 57 (0, 0))]))) w at hM; exact hM.sub (sub_skip (sub_skip (List.Sublist.refl _)))) (fun (γ : Nat × Nat) w hM => run_load_agg (n := 6) (off := 0) (i := r1.1.toNat) (TubeNode.v (l[r1.1.toNat]?.getD TubeNode.zero)) (h_l.sat hM) (map_at (getD_at _ _ TubeNode.zero (by have u_ := bs_at hok hr1; omega))) (by kernel_rfl) (by kernel_rfl) (by kernel_rfl)) (fun (γ : Nat × Nat) => by kernel_rfl) (fun (γ : Nat × Nat) => by kernel_rfl) ?_
      refine Steps.op (i := 9) (Γ := Nat) (fun g (γ : Nat × Nat) => (g, γ.2)) (fun _ => []) (fun b (γ : Nat × Nat) => [.inl (b, .cells (TubeNode.c TubeNode.zero) 57 (0, 0))]) (fun S (γ : Nat × Nat) => (bif S 12 then [.inl (γ.2, .cells (TubeNode.c (l[r1.1.toNat]?.getD TubeNode.zero)) 57 (0, 0))] else bif S 10 then [.inl (γ.2, .cells (TubeNode.c TubeNode.zero) 57 (0, 0))] else []) ++ ([.inl (b1, .cells (TubeNode.c TubeNode.zero) 57 (0, 0))])) [9, 11, 12] (fun (γ : Nat × Nat) => sV (Instr.alloc 57 true (.tuple #[]))) (some 7) (fun b (γ : Nat × Nat) => .pointer (some ⟨b, 0, none⟩)) (fun S (γ : Nat × Nat) hj hd hl => by change List.Perm (((bif S 11 then [.inl (γ.1, .cells (TubeNode.c (l[(w64 (r1.1 - 1)).toNat]?.getD TubeNode.zero)) 57 (0, 0))] else bif S 9 then [.inl (γ.1, .cells (TubeNode.c TubeNode.zero) 57 (0, 0))] else []) ++ ((bif S 12 then [.inl (γ.2, .cells (TubeNode.c (l[r1.1.toNat]?.getD TubeNode.zero)) 57 (0, 0))] else bif S 10 then [.inl (γ.2, .cells (TubeNode.c TubeNode.zero) 57 (0, 0))] else []) ++ ([.inl (b1, .cells (TubeNode.c TubeNode.zero) 57 (0, 0))]))) : Mem) _; rw [hj, hl 11 (by kernel_rfl)]; exact List.Perm.refl _) (fun S (γ : Nat × Nat) g hl => by change List.Perm _ (((bif S 11 then [.inl (g, .cells (TubeNode.c (l[(w64 (r1.1 - 1)).toNat]?.getD TubeNode.zero)) 57 (0, 0))] else bif true then [.inl (g, .cells (TubeNode.c TubeNode.zero) 57 (0, 0))] else []) ++ ((bif S 12 then [.inl (γ.2, .cells (TubeNode.c (l[r1.1.toNat]?.getD TubeNode.zero)) 57 (0, 0))] else bif S 10 then [.inl (γ.2, .cells (TubeNode.c TubeNode.zero) 57 (0, 0))] else []) ++ ([.inl (b1, .cells (TubeNode.c TubeNode.zero) 57 (0, 0))]))) : Mem); rw [hl 11 (by kernel_rfl)]; exact (List.Perm.refl _).symm) (fun (γ : Nat × Nat) M' w hM => run_new (v := fun b => .pointer (some ⟨b, 0, none⟩)) (fun b M => by kernel_rfl) M' w hM) (fun (γ : Nat × Nat) => by kernel_rfl) (fun (γ : Nat × Nat) g => by kernel_rfl) (by kernel_rfl) (fun (γ : Nat × Nat) g => by kernel_rfl) ?_
      refine Steps.op (i := 10) (Γ := Nat) (fun g (γ : Nat × Nat) => (γ.1, g)) (fun _ => []) (fun b (γ : Nat × Nat) => [.inl (b, .cells (TubeNode.c TubeNode.zero) 57 (0, 0))]) (fun S (γ : Nat × Nat) => (bif S 11 then [.inl (γ.1, .cells (TubeNode.c (l[(w64 (r1.1 - 1)).toNat]?.getD TubeNode.zero)) 57 (0, 0))] else bif S 9 then [.inl (γ.1, .cells (TubeNode.c TubeNode.zero) 57 (0, 0))] else []) ++ ([.inl (b1, .cells (TubeNode.c TubeNode.zero) 57 (0, 0))])) [10, 11, 12] (fun (γ : Nat × Nat) => sV (Instr.alloc 57 true (.tuple #[]))) (some 8) (fun b (γ : Nat × Nat) => .pointer (some ⟨b, 0, none⟩)) (fun S (γ : Nat × Nat) hj hd hl => by change List.Perm (((bif S 11 then [.inl (γ.1, .cells (TubeNode.c (l[(w64 (r1.1 - 1)).toNat]?.getD TubeNode.zero)) 57 (0, 0))] else bif S 9 then [.inl (γ.1, .cells (TubeNode.c TubeNode.zero) 57 (0, 0))] else []) ++ ((bif S 12 then [.inl (γ.2, .cells (TubeNode.c (l[r1.1.toNat]?.getD TubeNode.zero)) 57 (0, 0))] else bif S 10 then [.inl (γ.2, .cells (TubeNode.c TubeNode.zero) 57 (0, 0))] else []) ++ ([.inl (b1, .cells (TubeNode.c TubeNode.zero) 57 (0, 0))]))) : Mem) _; rw [hj, hl 12 (by kernel_rfl)]; exact (List.Perm.append_left _ (List.Perm.refl _)).trans (perm_mid _ _ _)) (fun S (γ : Nat × Nat) g hl => by change List.Perm _ (((bif S 11 then [.inl (γ.1, .cells (TubeNode.c (l[(w64 (r1.1 - 1)).toNat]?.getD TubeNode.zero)) 57 (0, 0))] else bif S 9 then [.inl (γ.1, .cells (TubeNode.c TubeNode.zero) 57 (0, 0))] else []) ++ ((bif S 12 then [.inl (g, .cells (TubeNode.c (l[r1.1.toNat]?.getD TubeNode.zero)) 57 (0, 0))] else bif true then [.inl (g, .cells (TubeNode.c TubeNode.zero) 57 (0, 0))] else []) ++ ([.inl (b1, .cells (TubeNode.c TubeNode.zero) 57 (0, 0))]))) : Mem); rw [hl 12 (by kernel_rfl)]; exact ((List.Perm.append_left _ (List.Perm.refl _)).trans (perm_mid _ _ _)).symm) (fun (γ : Nat × Nat) M' w hM => run_new (v := fun b => .pointer (some ⟨b, 0, none⟩)) (fun b M => by kernel_rfl) M' w hM) (fun (γ : Nat × Nat) => by kernel_rfl) (fun (γ : Nat × Nat) g => by kernel_rfl) (by kernel_rfl) (fun (γ : Nat × Nat) g => by kernel_rfl) ?_
      refine Steps.put (i := 11) (fun (γ : Nat × Nat) => [.inl (γ.1, .cells (TubeNode.c TubeNode.zero) 57 (0, 0))]) (fun (γ : Nat × Nat) => [.inl (γ.1, .cells (TubeNode.c (l[(w64 (r1.1 - 1)).toNat]?.getD TubeNode.zero)) 57 (0, 0))]) (fun S (γ : Nat × Nat) => (bif S 12 then [.inl (γ.2, .cells (TubeNode.c (l[r1.1.toNat]?.getD TubeNode.zero)) 57 (0, 0))] else bif S 10 then [.inl (γ.2, .cells (TubeNode.c TubeNode.zero) 57 (0, 0))] else []) ++ ([.inl (b1, .cells (TubeNode.c TubeNode.zero) 57 (0, 0))])) (fun (γ : Nat × Nat) => sU (Instr.storeAt 57 (.pointer (some ⟨γ.1, 0, none⟩)) (TubeNode.v (l[(w64 (r1.1 - 1)).toNat]?.getD TubeNode.zero)))) none (fun S (γ : Nat × Nat) hj hd hl => by change List.Perm (((bif S 11 then [.inl (γ.1, .cells (TubeNode.c (l[(w64 (r1.1 - 1)).toNat]?.getD TubeNode.zero)) 57 (0, 0))] else bif S 9 then [.inl (γ.1, .cells (TubeNode.c TubeNode.zero) 57 (0, 0))] else []) ++ ((bif S 12 then [.inl (γ.2, .cells (TubeNode.c (l[r1.1.toNat]?.getD TubeNode.zero)) 57 (0, 0))] else bif S 10 then [.inl (γ.2, .cells (TubeNode.c TubeNode.zero) 57 (0, 0))] else []) ++ ([.inl (b1, .cells (TubeNode.c TubeNode.zero) 57 (0, 0))]))) : Mem) _; rw [hj, hd 9 (by kernel_rfl)]; exact List.Perm.refl _) (fun S (γ : Nat × Nat) _ => (List.Perm.refl _).symm) (fun (γ : Nat × Nat) M' w hM => run_put (fun b M => by kernel_rfl) (fun b M => by kernel_rfl) M' w hM) (fun (γ : Nat × Nat) => by kernel_rfl) (fun (γ : Nat × Nat) => by kernel_rfl) ?_
      refine Steps.put (i := 12) (fun (γ : Nat × Nat) => [.inl (γ.2, .cells (TubeNode.c TubeNode.zero) 57 (0, 0))]) (fun (γ : Nat × Nat) => [.inl (γ.2, .cells (TubeNode.c (l[r1.1.toNat]?.getD TubeNode.zero)) 57 (0, 0))]) (fun S (γ : Nat × Nat) => (bif S 11 then [.inl (γ.1, .cells (TubeNode.c (l[(w64 (r1.1 - 1)).toNat]?.getD TubeNode.zero)) 57 (0, 0))] else bif S 9 then [.inl (γ.1, .cells (TubeNode.c TubeNode.zero) 57 (0, 0))] else []) ++ ([.inl (b1, .cells (TubeNode.c TubeNode.zero) 57 (0, 0))])) (fun (γ : Nat × Nat) => sU (Instr.storeAt 57 (.pointer (some ⟨γ.2, 0, none⟩)) (TubeNode.v (l[r1.1.toNat]?.getD TubeNode.zero)))) none (fun S (γ : Nat × Nat) hj hd hl => by change List.Perm (((bif S 11 then [.inl (γ.1, .cells (TubeNode.c (l[(w64 (r1.1 - 1)).toNat]?.getD TubeNode.zero)) 57 (0, 0))] else bif S 9 then [.inl (γ.1, .cells (TubeNode.c TubeNode.zero) 57 (0, 0))] else []) ++ ((bif S 12 then [.inl (γ.2, .cells (TubeNode.c (l[r1.1.toNat]?.getD TubeNode.zero)) 57 (0, 0))] else bif S 10 then [.inl (γ.2, .cells (TubeNode.c TubeNode.zero) 57 (0, 0))] else []) ++ ([.inl (b1, .cells (TubeNode.c TubeNode.zero) 57 (0, 0))]))) : Mem) _; rw [hj, hd 10 (by kernel_rfl)]; exact (List.Perm.append_left _ (List.Perm.refl _)).trans (perm_mid _ _ _)) (fun S (γ : Nat × Nat) _ => ((List.Perm.append_left _ (List.Perm.refl _)).trans (perm_mid _ _ _)).symm) (fun (γ : Nat × Nat) M' w hM => run_put (fun b M => by kernel_rfl) (fun b M => by kernel_rfl) M' w hM) (fun (γ : Nat × Nat) => by kernel_rfl) (fun (γ : Nat × Nat) => by kernel_rfl) ?_
      exact Steps.done (by kernel_rfl)
    · rintro ⟨b2, b3⟩
      refine TE.conv [.inl (b2, .cells (TubeNode.c (l[(w64 (r1.1 - 1)).toNat]?.getD TubeNode.zero)) 57 (0, 0)), .inl (b3, .cells (TubeNode.c (l[r1.1.toNat]?.getD TubeNode.zero)) 57 (0, 0)), .inl (b1, .cells (TubeNode.c TubeNode.zero) 57 (0, 0))] (fun _ hM => hM) ?_
      refine TE.next ?_
      refine TC.seq ?_
      refine TC.draw 14 (by kernel_rfl) (by kernel_rfl) (by kernel_rfl) ?_
      refine TQ.run 14 [0, 1, 0] [(1, .int .i64 t), (4, .pointer (some ⟨b1, 0, none⟩)), (7, .pointer (some ⟨b2, 0, none⟩)), (8, .pointer (some ⟨b3, 0, none⟩)), (9, .int .i64 (w64 (t - (((l[(w64 (r1.1 - 1)).toNat]?.getD TubeNode.zero).Node).Time)))), (10, .int .i64 (w64 ((((l[r1.1.toNat]?.getD TubeNode.zero).Node).Time) - (((l[(w64 (r1.1 - 1)).toNat]?.getD TubeNode.zero).Node).Time))))] rfl ⟨by kernel_rfl, by kernel_rfl⟩ ?_
      refine TQ.next rfl ?_
      refine TC.seq ?_
      refine TC.region ?_
      refine TL.run 8 [0, 1] [(1, .int .i64 t), (4, .pointer (some ⟨b1, 0, none⟩)), (7, .pointer (some ⟨b2, 0, none⟩)), (8, .pointer (some ⟨b3, 0, none⟩)), (9, .int .i64 (w64 (t - (((l[(w64 (r1.1 - 1)).toNat]?.getD TubeNode.zero).Node).Time)))), (10, .int .i64 (w64 ((((l[r1.1.toNat]?.getD TubeNode.zero).Node).Time) - (((l[(w64 (r1.1 - 1)).toNat]?.getD TubeNode.zero).Node).Time)))), (54, P.v (((l[(w64 (r1.1 - 1)).toNat]?.getD TubeNode.zero).Node).At)), (57, P.v (((l[r1.1.toNat]?.getD TubeNode.zero).Node).At)), (58, .int .i64 (w64 (t - (((l[(w64 (r1.1 - 1)).toNat]?.getD TubeNode.zero).Node).Time)))), (59, .int .i64 (w64 ((((l[r1.1.toNat]?.getD TubeNode.zero).Node).Time) - (((l[(w64 (r1.1 - 1)).toNat]?.getD TubeNode.zero).Node).Time))))] rfl ⟨by kernel_rfl, by kernel_rfl⟩ ?_
      refine TL.call (some 60) [(1, .int .i64 t), (4, .pointer (some ⟨b1, 0, none⟩)), (7, .pointer (some ⟨b2, 0, none⟩)), (8, .pointer (some ⟨b3, 0, none⟩)), (9, .int .i64 (w64 (t - (((l[(w64 (r1.1 - 1)).toNat]?.getD TubeNode.zero).Node).Time)))), (10, .int .i64 (w64 ((((l[r1.1.toNat]?.getD TubeNode.zero).Node).Time) - (((l[(w64 (r1.1 - 1)).toNat]?.getD TubeNode.zero).Node).Time)))), (60, .tuple #[P.v ((plane_Toward (((l[(w64 (r1.1 - 1)).toNat]?.getD TubeNode.zero).Node).At) (((l[r1.1.toNat]?.getD TubeNode.zero).Node).At) (w64 (t - (((l[(w64 (r1.1 - 1)).toNat]?.getD TubeNode.zero).Node).Time))) (w64 ((((l[r1.1.toNat]?.getD TubeNode.zero).Node).Time) - (((l[(w64 (r1.1 - 1)).toNat]?.getD TubeNode.zero).Node).Time)))).1), .int .i64 ((plane_Toward (((l[(w64 (r1.1 - 1)).toNat]?.getD TubeNode.zero).Node).At) (((l[r1.1.toNat]?.getD TubeNode.zero).Node).At) (w64 (t - (((l[(w64 (r1.1 - 1)).toNat]?.getD TubeNode.zero).Node).Time))) (w64 ((((l[r1.1.toNat]?.getD TubeNode.zero).Node).Time) - (((l[(w64 (r1.1 - 1)).toNat]?.getD TubeNode.zero).Node).Time)))).2)])] (fun w _ => plane_Toward_w (((l[(w64 (r1.1 - 1)).toNat]?.getD TubeNode.zero).Node).At) (((l[r1.1.toNat]?.getD TubeNode.zero).Node).At) (w64 (t - (((l[(w64 (r1.1 - 1)).toNat]?.getD TubeNode.zero).Node).Time))) (w64 ((((l[r1.1.toNat]?.getD TubeNode.zero).Node).Time) - (((l[(w64 (r1.1 - 1)).toNat]?.getD TubeNode.zero).Node).Time))) w) (by kernel_rfl) (by kernel_rfl) ?_
      generalize hr2 : plane_Toward (((l[(w64 (r1.1 - 1)).toNat]?.getD TubeNode.zero).Node).At) (((l[r1.1.toNat]?.getD TubeNode.zero).Node).At) (w64 (t - (((l[(w64 (r1.1 - 1)).toNat]?.getD TubeNode.zero).Node).Time))) (w64 ((((l[r1.1.toNat]?.getD TubeNode.zero).Node).Time) - (((l[(w64 (r1.1 - 1)).toNat]?.getD TubeNode.zero).Node).Time))) = r2
      refine TL.run 12 [] [(1, .int .i64 t), (4, .pointer (some ⟨b1, 0, none⟩)), (7, .pointer (some ⟨b2, 0, none⟩)), (8, .pointer (some ⟨b3, 0, none⟩)), (9, .int .i64 (w64 (t - (((l[(w64 (r1.1 - 1)).toNat]?.getD TubeNode.zero).Node).Time)))), (10, .int .i64 (w64 ((((l[r1.1.toNat]?.getD TubeNode.zero).Node).Time) - (((l[(w64 (r1.1 - 1)).toNat]?.getD TubeNode.zero).Node).Time)))), (61, P.v r2.1), (62, .int .i64 r2.2)] rfl ⟨by kernel_rfl, by kernel_rfl⟩ ?_
      refine TL.write 0 (fun b4 => [(1, .int .i64 t), (4, .pointer (some ⟨b1, 0, none⟩)), (7, .pointer (some ⟨b2, 0, none⟩)), (8, .pointer (some ⟨b3, 0, none⟩)), (9, .int .i64 (w64 (t - (((l[(w64 (r1.1 - 1)).toNat]?.getD TubeNode.zero).Node).Time)))), (10, .int .i64 (w64 ((((l[r1.1.toNat]?.getD TubeNode.zero).Node).Time) - (((l[(w64 (r1.1 - 1)).toNat]?.getD TubeNode.zero).Node).Time)))), (11, .pointer (some ⟨b4, 0, none⟩)), (61, P.v r2.1), (62, .int .i64 r2.2)]) (fun b4 => [.inl (b4, .cells (P.c P.zero) 25 (0, 0)), .inl (b2, .cells (TubeNode.c (l[(w64 (r1.1 - 1)).toNat]?.getD TubeNode.zero)) 57 (0, 0)), .inl (b3, .cells (TubeNode.c (l[r1.1.toNat]?.getD TubeNode.zero)) 57 (0, 0)), .inl (b1, .cells (TubeNode.c TubeNode.zero) 57 (0, 0))]) (fun b4 => ⟨by kernel_rfl, by kernel_rfl⟩) (fun b4 => ?_)
      refine TL.write 0 (fun _ => [(1, .int .i64 t), (4, .pointer (some ⟨b1, 0, none⟩)), (7, .pointer (some ⟨b2, 0, none⟩)), (8, .pointer (some ⟨b3, 0, none⟩)), (9, .int .i64 (w64 (t - (((l[(w64 (r1.1 - 1)).toNat]?.getD TubeNode.zero).Node).Time)))), (10, .int .i64 (w64 ((((l[r1.1.toNat]?.getD TubeNode.zero).Node).Time) - (((l[(w64 (r1.1 - 1)).toNat]?.getD TubeNode.zero).Node).Time)))), (11, .pointer (some ⟨b4, 0, none⟩)), (62, .int .i64 r2.2)]) (fun _ => [.inl (b4, .cells (P.c r2.1) 25 (0, 0)), .inl (b2, .cells (TubeNode.c (l[(w64 (r1.1 - 1)).toNat]?.getD TubeNode.zero)) 57 (0, 0)), .inl (b3, .cells (TubeNode.c (l[r1.1.toNat]?.getD TubeNode.zero)) 57 (0, 0)), .inl (b1, .cells (TubeNode.c TubeNode.zero) 57 (0, 0))]) (fun _ => ⟨by kernel_rfl, by kernel_rfl⟩) (fun _ => ?_)
      refine TL.run 15 [] [(1, .int .i64 t), (4, .pointer (some ⟨b1, 0, none⟩)), (7, .pointer (some ⟨b2, 0, none⟩)), (8, .pointer (some ⟨b3, 0, none⟩)), (9, .int .i64 (w64 (t - (((l[(w64 (r1.1 - 1)).toNat]?.getD TubeNode.zero).Node).Time)))), (10, .int .i64 (w64 ((((l[r1.1.toNat]?.getD TubeNode.zero).Node).Time) - (((l[(w64 (r1.1 - 1)).toNat]?.getD TubeNode.zero).Node).Time)))), (11, .pointer (some ⟨b4, 0, none⟩))] rfl ⟨by kernel_rfl, by kernel_rfl⟩ ?_
      refine TL.next rfl ?_
      refine TC.seq ?_
      refine TC.region ?_
      refine TL.run 10 [2, 1] [(1, .int .i64 t), (4, .pointer (some ⟨b1, 0, none⟩)), (7, .pointer (some ⟨b2, 0, none⟩)), (8, .pointer (some ⟨b3, 0, none⟩)), (9, .int .i64 (w64 (t - (((l[(w64 (r1.1 - 1)).toNat]?.getD TubeNode.zero).Node).Time)))), (10, .int .i64 (w64 ((((l[r1.1.toNat]?.getD TubeNode.zero).Node).Time) - (((l[(w64 (r1.1 - 1)).toNat]?.getD TubeNode.zero).Node).Time)))), (11, .pointer (some ⟨b4, 0, none⟩)), (72, .int .i64 (w64 ((w64 ((((l[r1.1.toNat]?.getD TubeNode.zero).Node).Height) - (((l[(w64 (r1.1 - 1)).toNat]?.getD TubeNode.zero).Node).Height))) * (w64 (t - (((l[(w64 (r1.1 - 1)).toNat]?.getD TubeNode.zero).Node).Time)))))), (73, .int .i64 (w64 ((((l[r1.1.toNat]?.getD TubeNode.zero).Node).Time) - (((l[(w64 (r1.1 - 1)).toNat]?.getD TubeNode.zero).Node).Time))))] rfl ⟨by kernel_rfl, by kernel_rfl⟩ ?_
      generalize hr3 : w64 ((w64 ((((l[r1.1.toNat]?.getD TubeNode.zero).Node).Height) - (((l[(w64 (r1.1 - 1)).toNat]?.getD TubeNode.zero).Node).Height))) * (w64 (t - (((l[(w64 (r1.1 - 1)).toNat]?.getD TubeNode.zero).Node).Time)))) = r3
      refine TL.call (some 74) [(1, .int .i64 t), (4, .pointer (some ⟨b1, 0, none⟩)), (7, .pointer (some ⟨b2, 0, none⟩)), (8, .pointer (some ⟨b3, 0, none⟩)), (9, .int .i64 (w64 (t - (((l[(w64 (r1.1 - 1)).toNat]?.getD TubeNode.zero).Node).Time)))), (10, .int .i64 (w64 ((((l[r1.1.toNat]?.getD TubeNode.zero).Node).Time) - (((l[(w64 (r1.1 - 1)).toNat]?.getD TubeNode.zero).Node).Time)))), (11, .pointer (some ⟨b4, 0, none⟩)), (74, .tuple #[.int .i64 ((num_DivDown r3 (w64 ((((l[r1.1.toNat]?.getD TubeNode.zero).Node).Time) - (((l[(w64 (r1.1 - 1)).toNat]?.getD TubeNode.zero).Node).Time)))).1), .int .i64 ((num_DivDown r3 (w64 ((((l[r1.1.toNat]?.getD TubeNode.zero).Node).Time) - (((l[(w64 (r1.1 - 1)).toNat]?.getD TubeNode.zero).Node).Time)))).2)])] (fun w _ => num_DivDown_w r3 (w64 ((((l[r1.1.toNat]?.getD TubeNode.zero).Node).Time) - (((l[(w64 (r1.1 - 1)).toNat]?.getD TubeNode.zero).Node).Time))) w) (by kernel_rfl) (by kernel_rfl) ?_
      generalize hr4 : num_DivDown r3 (w64 ((((l[r1.1.toNat]?.getD TubeNode.zero).Node).Time) - (((l[(w64 (r1.1 - 1)).toNat]?.getD TubeNode.zero).Node).Time))) = r4
      refine TL.run 16 [] [(1, .int .i64 t), (4, .pointer (some ⟨b1, 0, none⟩)), (7, .pointer (some ⟨b2, 0, none⟩)), (8, .pointer (some ⟨b3, 0, none⟩)), (9, .int .i64 (w64 (t - (((l[(w64 (r1.1 - 1)).toNat]?.getD TubeNode.zero).Node).Time)))), (10, .int .i64 (w64 ((((l[r1.1.toNat]?.getD TubeNode.zero).Node).Time) - (((l[(w64 (r1.1 - 1)).toNat]?.getD TubeNode.zero).Node).Time)))), (11, .pointer (some ⟨b4, 0, none⟩)), (13, .int .i64 r4.1)] rfl ⟨by kernel_rfl, by kernel_rfl⟩ ?_
      refine TL.next rfl ?_
      refine TC.seq ?_
      refine TC.region ?_
      refine TL.run 8 [2, 1] [(1, .int .i64 t), (4, .pointer (some ⟨b1, 0, none⟩)), (7, .pointer (some ⟨b2, 0, none⟩)), (8, .pointer (some ⟨b3, 0, none⟩)), (9, .int .i64 (w64 (t - (((l[(w64 (r1.1 - 1)).toNat]?.getD TubeNode.zero).Node).Time)))), (10, .int .i64 (w64 ((((l[r1.1.toNat]?.getD TubeNode.zero).Node).Time) - (((l[(w64 (r1.1 - 1)).toNat]?.getD TubeNode.zero).Node).Time)))), (11, .pointer (some ⟨b4, 0, none⟩)), (13, .int .i64 r4.1), (84, .int .i64 (w64 ((w64 (((l[r1.1.toNat]?.getD TubeNode.zero).Radius) - ((l[(w64 (r1.1 - 1)).toNat]?.getD TubeNode.zero).Radius))) * (w64 (t - (((l[(w64 (r1.1 - 1)).toNat]?.getD TubeNode.zero).Node).Time)))))), (85, .int .i64 (w64 ((((l[r1.1.toNat]?.getD TubeNode.zero).Node).Time) - (((l[(w64 (r1.1 - 1)).toNat]?.getD TubeNode.zero).Node).Time))))] rfl ⟨by kernel_rfl, by kernel_rfl⟩ ?_
      refine TL.call (some 86) [(1, .int .i64 t), (4, .pointer (some ⟨b1, 0, none⟩)), (7, .pointer (some ⟨b2, 0, none⟩)), (8, .pointer (some ⟨b3, 0, none⟩)), (9, .int .i64 (w64 (t - (((l[(w64 (r1.1 - 1)).toNat]?.getD TubeNode.zero).Node).Time)))), (10, .int .i64 (w64 ((((l[r1.1.toNat]?.getD TubeNode.zero).Node).Time) - (((l[(w64 (r1.1 - 1)).toNat]?.getD TubeNode.zero).Node).Time)))), (11, .pointer (some ⟨b4, 0, none⟩)), (13, .int .i64 r4.1), (86, .tuple #[.int .i64 ((num_DivUp (w64 ((w64 (((l[r1.1.toNat]?.getD TubeNode.zero).Radius) - ((l[(w64 (r1.1 - 1)).toNat]?.getD TubeNode.zero).Radius))) * (w64 (t - (((l[(w64 (r1.1 - 1)).toNat]?.getD TubeNode.zero).Node).Time))))) (w64 ((((l[r1.1.toNat]?.getD TubeNode.zero).Node).Time) - (((l[(w64 (r1.1 - 1)).toNat]?.getD TubeNode.zero).Node).Time)))).1), .int .i64 ((num_DivUp (w64 ((w64 (((l[r1.1.toNat]?.getD TubeNode.zero).Radius) - ((l[(w64 (r1.1 - 1)).toNat]?.getD TubeNode.zero).Radius))) * (w64 (t - (((l[(w64 (r1.1 - 1)).toNat]?.getD TubeNode.zero).Node).Time))))) (w64 ((((l[r1.1.toNat]?.getD TubeNode.zero).Node).Time) - (((l[(w64 (r1.1 - 1)).toNat]?.getD TubeNode.zero).Node).Time)))).2)])] (fun w _ => num_DivUp_w (w64 ((w64 (((l[r1.1.toNat]?.getD TubeNode.zero).Radius) - ((l[(w64 (r1.1 - 1)).toNat]?.getD TubeNode.zero).Radius))) * (w64 (t - (((l[(w64 (r1.1 - 1)).toNat]?.getD TubeNode.zero).Node).Time))))) (w64 ((((l[r1.1.toNat]?.getD TubeNode.zero).Node).Time) - (((l[(w64 (r1.1 - 1)).toNat]?.getD TubeNode.zero).Node).Time))) w) (by kernel_rfl) (by kernel_rfl) ?_
      generalize hr5 : num_DivUp (w64 ((w64 (((l[r1.1.toNat]?.getD TubeNode.zero).Radius) - ((l[(w64 (r1.1 - 1)).toNat]?.getD TubeNode.zero).Radius))) * (w64 (t - (((l[(w64 (r1.1 - 1)).toNat]?.getD TubeNode.zero).Node).Time))))) (w64 ((((l[r1.1.toNat]?.getD TubeNode.zero).Node).Time) - (((l[(w64 (r1.1 - 1)).toNat]?.getD TubeNode.zero).Node).Time))) = r5
      refine TL.run 14 [] [(1, .int .i64 t), (4, .pointer (some ⟨b1, 0, none⟩)), (7, .pointer (some ⟨b2, 0, none⟩)), (8, .pointer (some ⟨b3, 0, none⟩)), (9, .int .i64 (w64 (t - (((l[(w64 (r1.1 - 1)).toNat]?.getD TubeNode.zero).Node).Time)))), (10, .int .i64 (w64 ((((l[r1.1.toNat]?.getD TubeNode.zero).Node).Time) - (((l[(w64 (r1.1 - 1)).toNat]?.getD TubeNode.zero).Node).Time)))), (11, .pointer (some ⟨b4, 0, none⟩)), (13, .int .i64 r4.1), (15, .int .i64 r5.1)] rfl ⟨by kernel_rfl, by kernel_rfl⟩ ?_
      refine TL.next rfl ?_
      refine TC.seq ?_
      refine TC.region ?_
      refine TL.run 8 [2, 1] [(1, .int .i64 t), (4, .pointer (some ⟨b1, 0, none⟩)), (7, .pointer (some ⟨b2, 0, none⟩)), (11, .pointer (some ⟨b4, 0, none⟩)), (13, .int .i64 r4.1), (15, .int .i64 r5.1), (96, .int .i64 (w64 ((w64 (((l[r1.1.toNat]?.getD TubeNode.zero).Band) - ((l[(w64 (r1.1 - 1)).toNat]?.getD TubeNode.zero).Band))) * (w64 (t - (((l[(w64 (r1.1 - 1)).toNat]?.getD TubeNode.zero).Node).Time)))))), (97, .int .i64 (w64 ((((l[r1.1.toNat]?.getD TubeNode.zero).Node).Time) - (((l[(w64 (r1.1 - 1)).toNat]?.getD TubeNode.zero).Node).Time))))] rfl ⟨by kernel_rfl, by kernel_rfl⟩ ?_
      refine TL.call (some 98) [(1, .int .i64 t), (4, .pointer (some ⟨b1, 0, none⟩)), (7, .pointer (some ⟨b2, 0, none⟩)), (11, .pointer (some ⟨b4, 0, none⟩)), (13, .int .i64 r4.1), (15, .int .i64 r5.1), (98, .tuple #[.int .i64 ((num_DivUp (w64 ((w64 (((l[r1.1.toNat]?.getD TubeNode.zero).Band) - ((l[(w64 (r1.1 - 1)).toNat]?.getD TubeNode.zero).Band))) * (w64 (t - (((l[(w64 (r1.1 - 1)).toNat]?.getD TubeNode.zero).Node).Time))))) (w64 ((((l[r1.1.toNat]?.getD TubeNode.zero).Node).Time) - (((l[(w64 (r1.1 - 1)).toNat]?.getD TubeNode.zero).Node).Time)))).1), .int .i64 ((num_DivUp (w64 ((w64 (((l[r1.1.toNat]?.getD TubeNode.zero).Band) - ((l[(w64 (r1.1 - 1)).toNat]?.getD TubeNode.zero).Band))) * (w64 (t - (((l[(w64 (r1.1 - 1)).toNat]?.getD TubeNode.zero).Node).Time))))) (w64 ((((l[r1.1.toNat]?.getD TubeNode.zero).Node).Time) - (((l[(w64 (r1.1 - 1)).toNat]?.getD TubeNode.zero).Node).Time)))).2)])] (fun w _ => num_DivUp_w (w64 ((w64 (((l[r1.1.toNat]?.getD TubeNode.zero).Band) - ((l[(w64 (r1.1 - 1)).toNat]?.getD TubeNode.zero).Band))) * (w64 (t - (((l[(w64 (r1.1 - 1)).toNat]?.getD TubeNode.zero).Node).Time))))) (w64 ((((l[r1.1.toNat]?.getD TubeNode.zero).Node).Time) - (((l[(w64 (r1.1 - 1)).toNat]?.getD TubeNode.zero).Node).Time))) w) (by kernel_rfl) (by kernel_rfl) ?_
      generalize hr6 : num_DivUp (w64 ((w64 (((l[r1.1.toNat]?.getD TubeNode.zero).Band) - ((l[(w64 (r1.1 - 1)).toNat]?.getD TubeNode.zero).Band))) * (w64 (t - (((l[(w64 (r1.1 - 1)).toNat]?.getD TubeNode.zero).Node).Time))))) (w64 ((((l[r1.1.toNat]?.getD TubeNode.zero).Node).Time) - (((l[(w64 (r1.1 - 1)).toNat]?.getD TubeNode.zero).Node).Time))) = r6
      refine TL.run 14 [] [(1, .int .i64 t), (4, .pointer (some ⟨b1, 0, none⟩)), (7, .pointer (some ⟨b2, 0, none⟩)), (11, .pointer (some ⟨b4, 0, none⟩)), (13, .int .i64 r4.1), (15, .int .i64 r5.1), (17, .int .i64 r6.1)] rfl ⟨by kernel_rfl, by kernel_rfl⟩ ?_
      refine TL.next rfl ?_
      refine TC.seq ?_
      refine TC.region ?_
      refine TL.run 17 [0, 1, 1, 1] [(4, .pointer (some ⟨b1, 0, none⟩)), (117, .agg #[.int .i64 t, .int .i64 r2.1.X, .int .i64 r2.1.Y, .int .i64 (w64 ((((l[(w64 (r1.1 - 1)).toNat]?.getD TubeNode.zero).Node).Height) + r4.1)), .int .i64 (w64 (((l[(w64 (r1.1 - 1)).toNat]?.getD TubeNode.zero).Radius) + r5.1)), .int .i64 (w64 (((l[(w64 (r1.1 - 1)).toNat]?.getD TubeNode.zero).Band) + r6.1))])] rfl ⟨by kernel_rfl, by kernel_rfl⟩ ?_
      refine TL.write 3 (fun _ => [(4, .pointer (some ⟨b1, 0, none⟩))]) (fun _ => [.inl (b4, .cells (P.c r2.1) 25 (0, 0)), .inl (b2, .cells (TubeNode.c (l[(w64 (r1.1 - 1)).toNat]?.getD TubeNode.zero)) 57 (0, 0)), .inl (b3, .cells (TubeNode.c (l[r1.1.toNat]?.getD TubeNode.zero)) 57 (0, 0)), .inl (b1, .cells #[.int .i64 t, .int .i64 r2.1.X, .int .i64 r2.1.Y, .int .i64 (w64 ((((l[(w64 (r1.1 - 1)).toNat]?.getD TubeNode.zero).Node).Height) + r4.1)), .int .i64 (w64 (((l[(w64 (r1.1 - 1)).toNat]?.getD TubeNode.zero).Radius) + r5.1)), .int .i64 (w64 (((l[(w64 (r1.1 - 1)).toNat]?.getD TubeNode.zero).Band) + r6.1))] 57 (0, 0))]) (fun _ => ⟨by kernel_rfl, by kernel_rfl⟩) (fun _ => ?_)
      refine TL.next rfl ?_
      refine TC.ret ?_
      have e : tube_at l t = (⟨⟨t, r2.1, w64 ((((l[(w64 (r1.1 - 1)).toNat]?.getD TubeNode.zero).Node).Height) + r4.1)⟩, w64 (((l[(w64 (r1.1 - 1)).toNat]?.getD TubeNode.zero).Radius) + r5.1), w64 (((l[(w64 (r1.1 - 1)).toNat]?.getD TubeNode.zero).Band) + r6.1)⟩ : TubeNode) := by subst hr1 hr2 hr3 hr4 hr5 hr6; unfold tube_at; exact cond_f h1 (rfl)
      exact TE.ret [3] (.agg #[.int .i64 t, .int .i64 r2.1.X, .int .i64 r2.1.Y, .int .i64 (w64 ((((l[(w64 (r1.1 - 1)).toNat]?.getD TubeNode.zero).Node).Height) + r4.1)), .int .i64 (w64 (((l[(w64 (r1.1 - 1)).toNat]?.getD TubeNode.zero).Radius) + r5.1)), .int .i64 (w64 (((l[(w64 (r1.1 - 1)).toNat]?.getD TubeNode.zero).Band) + r6.1))]) ⟨by kernel_rfl, by kernel_rfl⟩ (by rw [e]; first | done | kernel_rfl)

def tube_At (l : List TubeNode) (t : Int) : TubeNode × Int :=
  let r1 := tube_Check l
  cond (r1 != 0) (
    ((⟨⟨0, ⟨0, 0⟩, 0⟩, 0, 0⟩ : TubeNode), r1)) (
    let r2 := tube_ends l
    cond ((decide (t < r2.1)) || (decide (t > r2.2))) (
      ((⟨⟨0, ⟨0, 0⟩, 0⟩, 0, 0⟩ : TubeNode), 12)) (
      let r3 := tube_at l t
      (r3, 0)))

set_option maxRecDepth 100000 in
theorem tube_At_w (A_l : Option Addr) (c_l : Nat) (l : List TubeNode) (t : Int) (w : World) (h_l : Rd w 6 A_l (l.map TubeNode.c)) (hc_l : l.length ≤ c_l) : Calls Try.prog 27 #[.slice A_l l.length c_l, .int .i64 t] w (Ret w (.tuple #[TubeNode.v ((tube_At l t).1), .int .i64 ((tube_At l t).2)])) := by
  have s_l := h_l.short; rw [List.length_map] at s_l
  refine calls_intro (vs := [.slice A_l l.length c_l, .int .i64 t]) (w := w) Try.func27 rfl Try.ntmps27 rfl ?_
  refine TC.weak [(0, .slice A_l l.length c_l), (1, .int .i64 t)] (by kernel_rfl) ?_
  refine TC.seq ?_
  refine TC.region ?_
  refine TL.write 0 (fun b1 => [(0, .slice A_l l.length c_l), (1, .int .i64 t), (4, .pointer (some ⟨b1, 0, none⟩))]) (fun b1 => [.inl (b1, .cells (TubeNode.c TubeNode.zero) 57 (0, 0))]) (fun b1 => ⟨by kernel_rfl, by kernel_rfl⟩) (fun b1 => ?_)
  refine TL.run 2 [] [(0, .slice A_l l.length c_l), (1, .int .i64 t), (4, .pointer (some ⟨b1, 0, none⟩))] rfl ⟨by kernel_rfl, by kernel_rfl⟩ ?_
  refine TL.next rfl ?_
  refine TC.seq ?_
  refine TC.seq ?_
  refine TC.region ?_
  refine TL.run 1 [] [(0, .slice A_l l.length c_l), (1, .int .i64 t), (4, .pointer (some ⟨b1, 0, none⟩)), (9, .slice A_l l.length c_l)] rfl ⟨by kernel_rfl, by kernel_rfl⟩ ?_
  refine TL.call (some 10) [(0, .slice A_l l.length c_l), (1, .int .i64 t), (4, .pointer (some ⟨b1, 0, none⟩)), (10, .int .i64 (tube_Check l))] (fun w hM => tube_Check_w A_l c_l l w (h_l.sat hM) hc_l) (by kernel_rfl) (by kernel_rfl) ?_
  generalize hr1 : tube_Check l = r1
  refine TL.run 3 [] [(0, .slice A_l l.length c_l), (1, .int .i64 t), (4, .pointer (some ⟨b1, 0, none⟩)), (6, .int .i64 r1)] rfl ⟨by kernel_rfl, by kernel_rfl⟩ ?_
  refine TL.next rfl ?_
  refine TC.seq ?_
  refine TC.region ?_
  refine TL.run 2 [] [(0, .slice A_l l.length c_l), (1, .int .i64 t), (4, .pointer (some ⟨b1, 0, none⟩)), (6, .int .i64 r1), (12, .bool (r1 != 0))] rfl ⟨by kernel_rfl, by kernel_rfl⟩ ?_
  refine TL.next rfl ?_
  refine TC.cond (r1 != 0) rfl (by kernel_rfl) (fun h1 => ?_) (fun h1 => ?_)
  · refine TC.seq ?_
    refine TC.region ?_
    refine TL.run 2 [] [(4, .pointer (some ⟨b1, 0, none⟩)), (13, TubeNode.v TubeNode.zero), (14, .int .i64 r1)] rfl ⟨by kernel_rfl, by kernel_rfl⟩ ?_
    refine TL.write 0 (fun _ => [(4, .pointer (some ⟨b1, 0, none⟩)), (14, .int .i64 r1)]) (fun _ => [.inl (b1, .cells (TubeNode.c TubeNode.zero) 57 (0, 0))]) (fun _ => ⟨by kernel_rfl, by kernel_rfl⟩) (fun _ => ?_)
    refine TL.run 4 [] [(4, .pointer (some ⟨b1, 0, none⟩)), (5, .int .i64 r1)] rfl ⟨by kernel_rfl, by kernel_rfl⟩ ?_
    refine TL.next rfl ?_
    refine TC.ret ?_
    refine TE.ret_then ?_
    have e : tube_At l t = ((⟨⟨0, ⟨0, 0⟩, 0⟩, 0, 0⟩ : TubeNode), r1) := by subst hr1; unfold tube_At; exact cond_t h1 (rfl)
    exact TE.ret [0] (.tuple #[.agg #[.int .i64 0, .int .i64 0, .int .i64 0, .int .i64 0, .int .i64 0, .int .i64 0], .int .i64 r1]) ⟨by kernel_rfl, by kernel_rfl⟩ (by rw [e]; first | done | kernel_rfl)
  · refine TC.skip ?_
    refine TE.next ?_
    refine TC.seq ?_
    refine TC.seq ?_
    refine TC.region ?_
    refine TL.run 1 [] [(0, .slice A_l l.length c_l), (1, .int .i64 t), (4, .pointer (some ⟨b1, 0, none⟩)), (16, .slice A_l l.length c_l)] rfl ⟨by kernel_rfl, by kernel_rfl⟩ ?_
    refine TL.call (some 17) [(0, .slice A_l l.length c_l), (1, .int .i64 t), (4, .pointer (some ⟨b1, 0, none⟩)), (17, .tuple #[.int .i64 ((tube_ends l).1), .int .i64 ((tube_ends l).2)])] (fun w hM => tube_ends_w A_l c_l l w (h_l.sat hM) hc_l (tube_len hr1 h1)) (by kernel_rfl) (by kernel_rfl) ?_
    generalize hr2 : tube_ends l = r2
    refine TL.run 7 [] [(0, .slice A_l l.length c_l), (1, .int .i64 t), (4, .pointer (some ⟨b1, 0, none⟩)), (7, .int .i64 r2.1), (8, .int .i64 r2.2)] rfl ⟨by kernel_rfl, by kernel_rfl⟩ ?_
    refine TL.next rfl ?_
    refine TC.seq ?_
    refine TC.region ?_
    refine TL.run 4 [] [(0, .slice A_l l.length c_l), (1, .int .i64 t), (4, .pointer (some ⟨b1, 0, none⟩)), (8, .int .i64 r2.2), (23, .bool (decide (t < r2.1)))] rfl ⟨by kernel_rfl, by kernel_rfl⟩ ?_
    refine TL.join 23 (decide (t < r2.1)) 8 [] [] (fun β => [(0, .slice A_l l.length c_l), (1, .int .i64 t), (4, .pointer (some ⟨b1, 0, none⟩)), (27, .bool (β || (decide (t > r2.2))))]) (by kernel_rfl) rfl ⟨by kernel_rfl, by kernel_rfl⟩ ⟨by kernel_rfl, by kernel_rfl⟩ ?_
    refine TL.next rfl ?_
    refine TC.cond ((decide (t < r2.1)) || (decide (t > r2.2))) rfl (by kernel_rfl) (fun h2 => ?_) (fun h2 => ?_)
    · refine TC.seq ?_
      refine TC.region ?_
      refine TL.run 1 [] [(4, .pointer (some ⟨b1, 0, none⟩)), (28, TubeNode.v TubeNode.zero)] rfl ⟨by kernel_rfl, by kernel_rfl⟩ ?_
      refine TL.write 0 (fun _ => [(4, .pointer (some ⟨b1, 0, none⟩))]) (fun _ => [.inl (b1, .cells (TubeNode.c TubeNode.zero) 57 (0, 0))]) (fun _ => ⟨by kernel_rfl, by kernel_rfl⟩) (fun _ => ?_)
      refine TL.run 3 [] [(4, .pointer (some ⟨b1, 0, none⟩)), (5, .int .i64 12)] rfl ⟨by kernel_rfl, by kernel_rfl⟩ ?_
      refine TL.next rfl ?_
      refine TC.ret ?_
      refine TE.ret_then ?_
      have e : tube_At l t = ((⟨⟨0, ⟨0, 0⟩, 0⟩, 0, 0⟩ : TubeNode), 12) := by subst hr1 hr2; unfold tube_At; exact cond_f h1 (cond_t h2 (rfl))
      exact TE.ret [0] (.tuple #[.agg #[.int .i64 0, .int .i64 0, .int .i64 0, .int .i64 0, .int .i64 0, .int .i64 0], .int .i64 12]) ⟨by kernel_rfl, by kernel_rfl⟩ (by rw [e]; first | done | kernel_rfl)
    · refine TC.skip ?_
      refine TE.next ?_
      refine TC.seq ?_
      refine TC.region ?_
      refine TL.run 2 [] [(4, .pointer (some ⟨b1, 0, none⟩)), (29, .slice A_l l.length c_l), (30, .int .i64 t)] rfl ⟨by kernel_rfl, by kernel_rfl⟩ ?_
      refine TL.call (some 31) [(4, .pointer (some ⟨b1, 0, none⟩)), (31, TubeNode.v (tube_at l t))] (fun w hM => tube_at_w A_l c_l l t w (h_l.sat hM) hc_l (ends_in hr1 h1 hr2 h2)) (by kernel_rfl) (by kernel_rfl) ?_
      generalize hr3 : tube_at l t = r3
      refine TL.write 0 (fun _ => [(4, .pointer (some ⟨b1, 0, none⟩))]) (fun _ => [.inl (b1, .cells (TubeNode.c r3) 57 (0, 0))]) (fun _ => ⟨by kernel_rfl, by kernel_rfl⟩) (fun _ => ?_)
      refine TL.run 5 [] [(4, .pointer (some ⟨b1, 0, none⟩)), (5, .int .i64 0)] rfl ⟨by kernel_rfl, by kernel_rfl⟩ ?_
      refine TL.next rfl ?_
      refine TC.ret ?_
      have e : tube_At l t = (r3, 0) := by subst hr1 hr2 hr3; unfold tube_At; exact cond_f h1 (cond_f h2 (rfl))
      exact TE.ret [0] (.tuple #[TubeNode.v r3, .int .i64 0]) ⟨by kernel_rfl, by kernel_rfl⟩ (by rw [e]; first | done | kernel_rfl)

def tube_Has (l : List TubeNode) (t : Int) (p : P) (height : Int) : Bool × Int :=
  let r1 := tube_At l t
  cond (r1.2 != 0) (
    (false, r1.2)) (
    let r2 := plane_Check p
    cond (r2 != 0) (
      (false, r2)) (
      cond ((decide (height < 0)) || (decide (height > 60000))) (
        (false, 4)) (
        let r3 := plane_Within r1.1.Node.At p r1.1.Radius
        (r3 && (decide ((imax (w64 (r1.1.Node.Height - height)) (w64 (height - r1.1.Node.Height))) ≤ r1.1.Band)), 0))))

set_option maxRecDepth 100000 in
theorem tube_Has_w (A_l : Option Addr) (c_l : Nat) (l : List TubeNode) (t : Int) (p : P) (height : Int) (w : World) (h_l : Rd w 6 A_l (l.map TubeNode.c)) (hc_l : l.length ≤ c_l) : Calls Try.prog 41 #[.slice A_l l.length c_l, .int .i64 t, P.v p, .int .i64 height] w (Ret w (.tuple #[.bool ((tube_Has l t p height).1), .int .i64 ((tube_Has l t p height).2)])) := by
  have s_l := h_l.short; rw [List.length_map] at s_l
  refine calls_intro (vs := [.slice A_l l.length c_l, .int .i64 t, P.v p, .int .i64 height]) (w := w) Try.func41 rfl Try.ntmps41 rfl ?_
  refine TC.weak [(0, .slice A_l l.length c_l), (1, .int .i64 t), (2, P.v p), (3, .int .i64 height)] (by kernel_rfl) ?_
  refine TC.seq ?_
  refine TC.region ?_
  refine TL.write 0 (fun b1 => [(0, .slice A_l l.length c_l), (1, .int .i64 t), (3, .int .i64 height), (6, .pointer (some ⟨b1, 0, none⟩))]) (fun b1 => [.inl (b1, .cells (P.c p) 25 (0, 0))]) (fun b1 => ⟨by kernel_rfl, by kernel_rfl⟩) (fun b1 => ?_)
  refine TL.run 3 [] [(0, .slice A_l l.length c_l), (1, .int .i64 t), (3, .int .i64 height), (6, .pointer (some ⟨b1, 0, none⟩))] rfl ⟨by kernel_rfl, by kernel_rfl⟩ ?_
  refine TL.next rfl ?_
  refine TC.seq ?_
  refine TC.region ?_
  refine TL.run 2 [] [(3, .int .i64 height), (6, .pointer (some ⟨b1, 0, none⟩)), (14, .slice A_l l.length c_l), (15, .int .i64 t)] rfl ⟨by kernel_rfl, by kernel_rfl⟩ ?_
  refine TL.call (some 16) [(3, .int .i64 height), (6, .pointer (some ⟨b1, 0, none⟩)), (16, .tuple #[TubeNode.v ((tube_At l t).1), .int .i64 ((tube_At l t).2)])] (fun w hM => tube_At_w A_l c_l l t w (h_l.sat hM) hc_l) (by kernel_rfl) (by kernel_rfl) ?_
  generalize hr1 : tube_At l t = r1
  refine TL.run 6 [] [(3, .int .i64 height), (6, .pointer (some ⟨b1, 0, none⟩)), (17, TubeNode.v r1.1), (18, .int .i64 r1.2)] rfl ⟨by kernel_rfl, by kernel_rfl⟩ ?_
  refine TL.write 0 (fun b2 => [(3, .int .i64 height), (6, .pointer (some ⟨b1, 0, none⟩)), (10, .pointer (some ⟨b2, 0, none⟩)), (17, TubeNode.v r1.1), (18, .int .i64 r1.2)]) (fun b2 => [.inl (b2, .cells (TubeNode.c TubeNode.zero) 57 (0, 0)), .inl (b1, .cells (P.c p) 25 (0, 0))]) (fun b2 => ⟨by kernel_rfl, by kernel_rfl⟩) (fun b2 => ?_)
  refine TL.write 0 (fun _ => [(3, .int .i64 height), (6, .pointer (some ⟨b1, 0, none⟩)), (10, .pointer (some ⟨b2, 0, none⟩)), (18, .int .i64 r1.2)]) (fun _ => [.inl (b2, .cells (TubeNode.c r1.1) 57 (0, 0)), .inl (b1, .cells (P.c p) 25 (0, 0))]) (fun _ => ⟨by kernel_rfl, by kernel_rfl⟩) (fun _ => ?_)
  refine TL.run 9 [] [(3, .int .i64 height), (6, .pointer (some ⟨b1, 0, none⟩)), (10, .pointer (some ⟨b2, 0, none⟩)), (11, .int .i64 r1.2)] rfl ⟨by kernel_rfl, by kernel_rfl⟩ ?_
  refine TL.next rfl ?_
  refine TC.seq ?_
  refine TC.seq ?_
  refine TC.region ?_
  refine TL.run 2 [] [(3, .int .i64 height), (6, .pointer (some ⟨b1, 0, none⟩)), (10, .pointer (some ⟨b2, 0, none⟩)), (11, .int .i64 r1.2), (20, .bool (r1.2 != 0))] rfl ⟨by kernel_rfl, by kernel_rfl⟩ ?_
  refine TL.next rfl ?_
  refine TC.cond (r1.2 != 0) rfl (by kernel_rfl) (fun h1 => ?_) (fun h1 => ?_)
  · refine TC.seq ?_
    refine TC.region ?_
    refine TL.run 3 [] [(8, .bool false), (9, .int .i64 r1.2)] rfl ⟨by kernel_rfl, by kernel_rfl⟩ ?_
    refine TL.next rfl ?_
    refine TC.ret ?_
    refine TE.ret_then ?_
    have e : tube_Has l t p height = (false, r1.2) := by subst hr1; unfold tube_Has; exact cond_t h1 (rfl)
    exact TE.ret [] (.tuple #[.bool false, .int .i64 r1.2]) ⟨by kernel_rfl, by kernel_rfl⟩ (by rw [e]; first | done | kernel_rfl)
  · refine TC.skip ?_
    refine TE.next ?_
    refine TC.seq ?_
    refine TC.seq ?_
    refine TC.region ?_
    refine TL.run 1 [1] [(3, .int .i64 height), (6, .pointer (some ⟨b1, 0, none⟩)), (10, .pointer (some ⟨b2, 0, none⟩)), (22, P.v p)] rfl ⟨by kernel_rfl, by kernel_rfl⟩ ?_
    refine TL.call (some 23) [(3, .int .i64 height), (6, .pointer (some ⟨b1, 0, none⟩)), (10, .pointer (some ⟨b2, 0, none⟩)), (23, .int .i64 (plane_Check p))] (fun w _ => plane_Check_w p w) (by kernel_rfl) (by kernel_rfl) ?_
    generalize hr2 : plane_Check p = r2
    refine TL.run 3 [] [(3, .int .i64 height), (6, .pointer (some ⟨b1, 0, none⟩)), (10, .pointer (some ⟨b2, 0, none⟩)), (12, .int .i64 r2)] rfl ⟨by kernel_rfl, by kernel_rfl⟩ ?_
    refine TL.next rfl ?_
    refine TC.seq ?_
    refine TC.region ?_
    refine TL.run 2 [] [(3, .int .i64 height), (6, .pointer (some ⟨b1, 0, none⟩)), (10, .pointer (some ⟨b2, 0, none⟩)), (12, .int .i64 r2), (25, .bool (r2 != 0))] rfl ⟨by kernel_rfl, by kernel_rfl⟩ ?_
    refine TL.next rfl ?_
    refine TC.cond (r2 != 0) rfl (by kernel_rfl) (fun h2 => ?_) (fun h2 => ?_)
    · refine TC.seq ?_
      refine TC.region ?_
      refine TL.run 3 [] [(8, .bool false), (9, .int .i64 r2)] rfl ⟨by kernel_rfl, by kernel_rfl⟩ ?_
      refine TL.next rfl ?_
      refine TC.ret ?_
      refine TE.ret_then ?_
      have e : tube_Has l t p height = (false, r2) := by subst hr1 hr2; unfold tube_Has; exact cond_f h1 (cond_t h2 (rfl))
      exact TE.ret [] (.tuple #[.bool false, .int .i64 r2]) ⟨by kernel_rfl, by kernel_rfl⟩ (by rw [e]; first | done | kernel_rfl)
    · refine TC.skip ?_
      refine TE.next ?_
      refine TC.seq ?_
      refine TC.seq ?_
      refine TC.region ?_
      refine TL.run 3 [] [(3, .int .i64 height), (6, .pointer (some ⟨b1, 0, none⟩)), (10, .pointer (some ⟨b2, 0, none⟩)), (29, .bool (decide (height < 0)))] rfl ⟨by kernel_rfl, by kernel_rfl⟩ ?_
      refine TL.join 29 (decide (height < 0)) 6 [] [] (fun β => [(3, .int .i64 height), (6, .pointer (some ⟨b1, 0, none⟩)), (10, .pointer (some ⟨b2, 0, none⟩)), (32, .bool (β || (decide (height > 60000))))]) (by kernel_rfl) rfl ⟨by kernel_rfl, by kernel_rfl⟩ ⟨by kernel_rfl, by kernel_rfl⟩ ?_
      refine TL.next rfl ?_
      refine TC.cond ((decide (height < 0)) || (decide (height > 60000))) rfl (by kernel_rfl) (fun h3 => ?_) (fun h3 => ?_)
      · refine TC.seq ?_
        refine TC.region ?_
        refine TL.run 2 [] [(8, .bool false), (9, .int .i64 4)] rfl ⟨by kernel_rfl, by kernel_rfl⟩ ?_
        refine TL.next rfl ?_
        refine TC.ret ?_
        refine TE.ret_then ?_
        have e : tube_Has l t p height = (false, 4) := by subst hr1 hr2; unfold tube_Has; exact cond_f h1 (cond_f h2 (cond_t h3 (rfl)))
        exact TE.ret [] (.tuple #[.bool false, .int .i64 4]) ⟨by kernel_rfl, by kernel_rfl⟩ (by rw [e]; first | done | kernel_rfl)
      · refine TC.skip ?_
        refine TE.next ?_
        refine TC.seq ?_
        refine TC.region ?_
        refine TL.run 6 [0, 1, 0] [(3, .int .i64 height), (10, .pointer (some ⟨b2, 0, none⟩)), (35, P.v r1.1.Node.At), (36, P.v p), (38, .int .i64 r1.1.Radius)] rfl ⟨by kernel_rfl, by kernel_rfl⟩ ?_
        refine TL.call (some 39) [(3, .int .i64 height), (10, .pointer (some ⟨b2, 0, none⟩)), (39, .bool ((plane_Within r1.1.Node.At p r1.1.Radius)))] (fun w _ => plane_Within_w r1.1.Node.At p r1.1.Radius w) (by kernel_rfl) (by kernel_rfl) ?_
        generalize hr3 : plane_Within r1.1.Node.At p r1.1.Radius = r3
        refine TL.run 8 [] [(3, .int .i64 height), (10, .pointer (some ⟨b2, 0, none⟩)), (40, .bool r3)] rfl ⟨by kernel_rfl, by kernel_rfl⟩ ?_
        refine TL.join 40 r3 23 [0, 0, 0] [] (fun β => [(55, .bool (β && (decide ((imax (w64 (r1.1.Node.Height - height)) (w64 (height - r1.1.Node.Height))) ≤ r1.1.Band))))]) (by kernel_rfl) rfl ⟨by kernel_rfl, by kernel_rfl⟩ ⟨by kernel_rfl, by kernel_rfl⟩ ?_
        refine TL.run 25 [] [(8, .bool (r3 && (decide ((imax (w64 (r1.1.Node.Height - height)) (w64 (height - r1.1.Node.Height))) ≤ r1.1.Band)))), (9, .int .i64 0)] rfl ⟨by kernel_rfl, by kernel_rfl⟩ ?_
        refine TL.next rfl ?_
        refine TC.ret ?_
        have e : tube_Has l t p height = (r3 && (decide ((imax (w64 (r1.1.Node.Height - height)) (w64 (height - r1.1.Node.Height))) ≤ r1.1.Band)), 0) := by subst hr1 hr2 hr3; unfold tube_Has; exact cond_f h1 (cond_f h2 (cond_f h3 (rfl)))
        exact TE.ret [] (.tuple #[.bool (r3 && (decide ((imax (w64 (r1.1.Node.Height - height)) (w64 (height - r1.1.Node.Height))) ≤ r1.1.Band))), .int .i64 0]) ⟨by kernel_rfl, by kernel_rfl⟩ (by rw [e]; first | done | kernel_rfl)

end Go.Sky
