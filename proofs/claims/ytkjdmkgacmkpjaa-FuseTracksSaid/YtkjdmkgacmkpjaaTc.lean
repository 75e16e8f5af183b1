/- Functions of the program, each with the Lean function that it computes. Conditions: none. -/
import Derived.Test.YtkjdmkgacmkpjaaTb
import Derived.Test.YtkjdmkgacmkpjaaGrowNil
namespace Go.Sky
open Go Go.Eng Go.Proofs
def fuse_Tracks_1 (i : Int) (k : Int) (x : List FilterTrack) : Bool :=
  let r1 := cmp_Compare_int (((x[i.toNat]?.getD FilterTrack.zero).Track).Radius) (((x[k.toNat]?.getD FilterTrack.zero).Track).Radius)
  let r2 := cmp_Compare_int (((x[k.toNat]?.getD FilterTrack.zero).Track).Hits) (((x[i.toNat]?.getD FilterTrack.zero).Track).Hits)
  let r3 := cmp_Compare_int (((x[i.toNat]?.getD FilterTrack.zero).Track).ID) (((x[k.toNat]?.getD FilterTrack.zero).Track).ID)
  let r4 := cmp_Compare_int i k
  let r5 := cmp_Or_int ([r1, r2, r3, r4])
  decide (r5 < 0)

set_option maxRecDepth 100000 in
theorem fuse_Tracks_1_w (i : Int) (k : Int) (a_x : Addr) (A_x : Option Addr) (c_x : Nat) (x : List FilterTrack) (w : World) (h_x : Rd w 1 (some a_x) [Sl.c (⟨A_x, c_x, x⟩ : Sl FilterTrack)]) (hd_x : (⟨A_x, c_x, x⟩ : Sl FilterTrack).rd w 20 FilterTrack.c) (hi : 0 ≤ i ∧ i < (x.length : Int)) (hk : 0 ≤ k ∧ k < (x.length : Int)) : Calls Try.prog 65 #[.int .i64 i, .int .i64 k, .pointer (some a_x)] w (Ret w (.bool (fuse_Tracks_1 i k x))) := by
  refine calls_intro (vs := [.int .i64 i, .int .i64 k, .pointer (some a_x)]) (w := w) Try.func65 rfl Try.ntmps65 rfl ?_
  refine TC.weak [(0, .int .i64 i), (1, .int .i64 k), (2, .pointer (some a_x))] (by kernel_rfl) ?_
  refine TC.seq ?_
  refine TC.region ?_
  refine TL.run 1 [] [(0, .int .i64 i), (1, .int .i64 k), (2, .pointer (some a_x))] rfl ⟨by kernel_rfl, by kernel_rfl⟩ ?_
  refine TL.next rfl ?_
  refine TC.seq ?_
  refine TC.plan (G := Nat × Nat) (base := [(0, .int .i64 i), (1, .int .i64 k), (2, .pointer (some a_x))]) (vals := fun γ => [.slice A_x x.length c_x, .int .i64 i, .pointer (some ((A_x.getD noAddr).add (i.toNat * 20))), .pointer (some ((A_x.getD noAddr).add (i.toNat * 20))), Track.v ((x[i.toNat]?.getD FilterTrack.zero).Track), .slice A_x x.length c_x, .int .i64 k, .pointer (some ((A_x.getD noAddr).add (k.toNat * 20))), .pointer (some ((A_x.getD noAddr).add (k.toNat * 20))), Track.v ((x[k.toNat]?.getD FilterTrack.zero).Track), .pointer (some ⟨γ.1, 0, none⟩), .pointer (some ⟨γ.2, 0, none⟩), undef, undef]) (writes := [10, 11, 12, 13]) (mem := fun bs γ => match bs with | [x10_, x11_, x12_, x13_] => (bif x12_ then [.inl (γ.1, .cells (Track.c ((x[i.toNat]?.getD FilterTrack.zero).Track)) 25 (0, 0))] else bif x10_ then [.inl (γ.1, .cells (Track.c Track.zero) 25 (0, 0))] else []) ++ ((bif x13_ then [.inl (γ.2, .cells (Track.c ((x[k.toNat]?.getD FilterTrack.zero).Track)) 25 (0, 0))] else bif x11_ then [.inl (γ.2, .cells (Track.c Track.zero) 25 (0, 0))] else []) ++ ([])) | _ => []) (0, 0) (fun γ => [(0, .int .i64 i), (1, .int .i64 k), (6, .pointer (some ⟨γ.1, 0, none⟩)), (7, .pointer (some ⟨γ.2, 0, none⟩))]) (by kernel_rfl) (by kernel_rfl) (by kernel_rfl) (by kernel_rfl) (by kernel_rfl) (fun γ => by kernel_rfl) (fun _ hM => hM) (fun γ => by kernel_rfl) ?_ ?_
  · skip
    refine Steps.val (i := 0) (fun (γ : Nat × Nat) => sV (Instr.loadAt 30 (.pointer (some a_x)))) (some 8) (fun (γ : Nat × Nat) => .slice A_x x.length c_x) (fun _ => []) (by kernel_rfl) (fun S (γ : Nat × Nat) w _ hM => by change Sat _ ((bif S 12 then [.inl (γ.1, .cells (Track.c ((x[i.toNat]?.getD FilterTrack.zero).Track)) 25 (0, 0))] else bif S 10 then [.inl (γ.1, .cells (Track.c Track.zero) 25 (0, 0))] else []) ++ ((bif S 13 then [.inl (γ.2, .cells (Track.c ((x[k.toNat]?.getD FilterTrack.zero).Track)) 25 (0, 0))] else bif S 11 then [.inl (γ.2, .cells (Track.c Track.zero) 25 (0, 0))] else []) ++ ([]))) w at hM; exact hM.sub (sub_skip (sub_skip (List.Sublist.refl _)))) (fun (γ : Nat × Nat) w hM => run_load_one (off := 0) (.slice A_x x.length c_x) (h_x.sat hM) (rows_one _) (by kernel_rfl) (by kernel_rfl)) (fun (γ : Nat × Nat) => by kernel_rfl) (fun (γ : Nat × Nat) => by kernel_rfl) ?_
    refine Steps.run (i := 1) 2 [0] [] (by kernel_rfl) (by kernel_rfl) (fun S (γ : Nat × Nat) w hM => by change Sat _ ((bif S 12 then [.inl (γ.1, .cells (Track.c ((x[i.toNat]?.getD FilterTrack.zero).Track)) 25 (0, 0))] else bif S 10 then [.inl (γ.1, .cells (Track.c Track.zero) 25 (0, 0))] else []) ++ ((bif S 13 then [.inl (γ.2, .cells (Track.c ((x[k.toNat]?.getD FilterTrack.zero).Track)) 25 (0, 0))] else bif S 11 then [.inl (γ.2, .cells (Track.c Track.zero) 25 (0, 0))] else []) ++ ([]))) w at hM; exact hM.sub (sub_skip (sub_skip (List.Sublist.refl _)))) (by kernel_rfl) (fun (γ : Nat × Nat) => ⟨by kernel_rfl, by kernel_rfl⟩) ?_
    refine Steps.val (i := 2) (fun (γ : Nat × Nat) => sV (Instr.indexAt 30 (.slice A_x x.length c_x) (.int .i64 i))) (some 10) (fun (γ : Nat × Nat) => .pointer (some ((A_x.getD noAddr).add (i.toNat * 20)))) (fun _ => []) (by kernel_rfl) (fun S (γ : Nat × Nat) w _ hM => by change Sat _ ((bif S 12 then [.inl (γ.1, .cells (Track.c ((x[i.toNat]?.getD FilterTrack.zero).Track)) 25 (0, 0))] else bif S 10 then [.inl (γ.1, .cells (Track.c Track.zero) 25 (0, 0))] else []) ++ ((bif S 13 then [.inl (γ.2, .cells (Track.c ((x[k.toNat]?.getD FilterTrack.zero).Track)) 25 (0, 0))] else bif S 11 then [.inl (γ.2, .cells (Track.c Track.zero) 25 (0, 0))] else []) ++ ([]))) w at hM; exact hM.sub (sub_skip (sub_skip (List.Sublist.refl _)))) (fun (γ : Nat × Nat) w hM => run_index (hd_x.rd.sat hM) (by simp) (by kernel_rfl) (by first | omega | (rw [List.length_set]; omega) | (rw [w64_id (by omega)]; omega) | (dsimp only; omega) | (rw [List.length_drop]; omega) | (simp only [w64_eq]; omega) | exact (tm_in (by (first | (rw [w64_id (by omega)]; omega) | (simp only [w64_eq]; omega))) (by omega)).1 | exact (tm_in (by (first | (rw [w64_id (by omega)]; omega) | (simp only [w64_eq]; omega))) (by omega)).2.1 | exact (tm_in (by (first | (rw [w64_id (by omega)]; omega) | (simp only [w64_eq]; omega))) (by omega)).2.2 | (simp only [List.length_take] at *; omega) | (simp <;> omega)) (by first | omega | (rw [List.length_set]; omega) | (rw [w64_id (by omega)]; omega) | (dsimp only; omega) | (rw [List.length_drop]; omega) | (simp only [w64_eq]; omega) | exact (tm_in (by (first | (rw [w64_id (by omega)]; omega) | (simp only [w64_eq]; omega))) (by omega)).1 | exact (tm_in (by (first | (rw [w64_id (by omega)]; omega) | (simp only [w64_eq]; omega))) (by omega)).2.1 | exact (tm_in (by (first | (rw [w64_id (by omega)]; omega) | (simp only [w64_eq]; omega))) (by omega)).2.2 | (simp only [List.length_take] at *; omega) | (simp <;> omega))) (fun (γ : Nat × Nat) => by kernel_rfl) (fun (γ : Nat × Nat) => by kernel_rfl) ?_
    refine Steps.run (i := 3) 4 [0] [] (by kernel_rfl) (by kernel_rfl) (fun S (γ : Nat × Nat) w hM => by change Sat _ ((bif S 12 then [.inl (γ.1, .cells (Track.c ((x[i.toNat]?.getD FilterTrack.zero).Track)) 25 (0, 0))] else bif S 10 then [.inl (γ.1, .cells (Track.c Track.zero) 25 (0, 0))] else []) ++ ((bif S 13 then [.inl (γ.2, .cells (Track.c ((x[k.toNat]?.getD FilterTrack.zero).Track)) 25 (0, 0))] else bif S 11 then [.inl (γ.2, .cells (Track.c Track.zero) 25 (0, 0))] else []) ++ ([]))) w at hM; exact hM.sub (sub_skip (sub_skip (List.Sublist.refl _)))) (by kernel_rfl) (fun (γ : Nat × Nat) => ⟨by kernel_rfl, by kernel_rfl⟩) ?_
    refine Steps.val (i := 4) (fun (γ : Nat × Nat) => sV (Instr.loadAt 25 (.pointer (some ((A_x.getD noAddr).add (i.toNat * 20)))))) (some 12) (fun (γ : Nat × Nat) => Track.v ((x[i.toNat]?.getD FilterTrack.zero).Track)) (fun _ => []) (by kernel_rfl) (fun S (γ : Nat × Nat) w _ hM => by change Sat _ ((bif S 12 then [.inl (γ.1, .cells (Track.c ((x[i.toNat]?.getD FilterTrack.zero).Track)) 25 (0, 0))] else bif S 10 then [.inl (γ.1, .cells (Track.c Track.zero) 25 (0, 0))] else []) ++ ((bif S 13 then [.inl (γ.2, .cells (Track.c ((x[k.toNat]?.getD FilterTrack.zero).Track)) 25 (0, 0))] else bif S 11 then [.inl (γ.2, .cells (Track.c Track.zero) 25 (0, 0))] else []) ++ ([]))) w at hM; exact hM.sub (sub_skip (sub_skip (List.Sublist.refl _)))) (fun (γ : Nat × Nat) w hM => run_load_agg (n := 13) (off := 0) (i := i.toNat) (Track.v ((x[i.toNat]?.getD FilterTrack.zero).Track)) (hd_x.rd.sat hM) (map_at (getD_at _ _ FilterTrack.zero (by first | omega | (rw [List.length_set]; omega) | (rw [w64_id (by omega)]; omega) | (dsimp only; omega) | (rw [List.length_drop]; omega) | (simp only [w64_eq]; omega) | exact (tm_in (by (first | (rw [w64_id (by omega)]; omega) | (simp only [w64_eq]; omega))) (by omega)).1 | exact (tm_in (by (first | (rw [w64_id (by omega)]; omega) | (simp only [w64_eq]; omega))) (by omega)).2.1 | exact (tm_in (by (first | (rw [w64_id (by omega)]; omega) | (simp only [w64_eq]; omega))) (by omega)).2.2 | (simp only [List.length_take] at *; omega) | (simp <;> omega)))) (by kernel_rfl) (by kernel_rfl) (by kernel_rfl)) (fun (γ : Nat × Nat) => by kernel_rfl) (fun (γ : Nat × Nat) => by kernel_rfl) ?_
    refine Steps.val (i := 5) (fun (γ : Nat × Nat) => sV (Instr.loadAt 30 (.pointer (some a_x)))) (some 13) (fun (γ : Nat × Nat) => .slice A_x x.length c_x) (fun _ => []) (by kernel_rfl) (fun S (γ : Nat × Nat) w _ hM => by change Sat _ ((bif S 12 then [.inl (γ.1, .cells (Track.c ((x[i.toNat]?.getD FilterTrack.zero).Track)) 25 (0, 0))] else bif S 10 then [.inl (γ.1, .cells (Track.c Track.zero) 25 (0, 0))] else []) ++ ((bif S 13 then [.inl (γ.2, .cells (Track.c ((x[k.toNat]?.getD FilterTrack.zero).Track)) 25 (0, 0))] else bif S 11 then [.inl (γ.2, .cells (Track.c Track.zero) 25 (0, 0))] else []) ++ ([]))) w at hM; exact hM.sub (sub_skip (sub_skip (List.Sublist.refl _)))) (fun (γ : Nat × Nat) w hM => run_load_one (off := 0) (.slice A_x x.length c_x) (h_x.sat hM) (rows_one _) (by kernel_rfl) (by kernel_rfl)) (fun (γ : Nat × Nat) => by kernel_rfl) (fun (γ : Nat × Nat) => by kernel_rfl) ?_
    refine Steps.run (i := 6) 7 [0] [] (by kernel_rfl) (by kernel_rfl) (fun S (γ : Nat × Nat) w hM => by change Sat _ ((bif S 12 then [.inl (γ.1, .cells (Track.c ((x[i.toNat]?.getD FilterTrack.zero).Track)) 25 (0, 0))] else bif S 10 then [.inl (γ.1, .cells (Track.c Track.zero) 25 (0, 0))] else []) ++ ((bif S 13 then [.inl (γ.2, .cells (Track.c ((x[k.toNat]?.getD FilterTrack.zero).Track)) 25 (0, 0))] else bif S 11 then [.inl (γ.2, .cells (Track.c Track.zero) 25 (0, 0))] else []) ++ ([]))) w at hM; exact hM.sub (sub_skip (sub_skip (List.Sublist.refl _)))) (by kernel_rfl) (fun (γ : Nat × Nat) => ⟨by kernel_rfl, by kernel_rfl⟩) ?_
    refine Steps.val (i := 7) (fun (γ : Nat × Nat) => sV (Instr.indexAt 30 (.slice A_x x.length c_x) (.int .i64 k))) (some 15) (fun (γ : Nat × Nat) => .pointer (some ((A_x.getD noAddr).add (k.toNat * 20)))) (fun _ => []) (by kernel_rfl) (fun S (γ : Nat × Nat) w _ hM => by change Sat _ ((bif S 12 then [.inl (γ.1, .cells (Track.c ((x[i.toNat]?.getD FilterTrack.zero).Track)) 25 (0, 0))] else bif S 10 then [.inl (γ.1, .cells (Track.c Track.zero) 25 (0, 0))] else []) ++ ((bif S 13 then [.inl (γ.2, .cells (Track.c ((x[k.toNat]?.getD FilterTrack.zero).Track)) 25 (0, 0))] else bif S 11 then [.inl (γ.2, .cells (Track.c Track.zero) 25 (0, 0))] else []) ++ ([]))) w at hM; exact hM.sub (sub_skip (sub_skip (List.Sublist.refl _)))) (fun (γ : Nat × Nat) w hM => run_index (hd_x.rd.sat hM) (by simp) (by kernel_rfl) (by first | omega | (rw [List.length_set]; omega) | (rw [w64_id (by omega)]; omega) | (dsimp only; omega) | (rw [List.length_drop]; omega) | (simp only [w64_eq]; omega) | exact (tm_in (by (first | (rw [w64_id (by omega)]; omega) | (simp only [w64_eq]; omega))) (by omega)).1 | exact (tm_in (by (first | (rw [w64_id (by omega)]; omega) | (simp only [w64_eq]; omega))) (by omega)).2.1 | exact (tm_in (by (first | (rw [w64_id (by omega)]; omega) | (simp only [w64_eq]; omega))) (by omega)).2.2 | (simp only [List.length_take] at *; omega) | (simp <;> omega)) (by first | omega | (rw [List.length_set]; omega) | (rw [w64_id (by omega)]; omega) | (dsimp only; omega) | (rw [List.length_drop]; omega) | (simp only [w64_eq]; omega) | exact (tm_in (by (first | (rw [w64_id (by omega)]; omega) | (simp only [w64_eq]; omega))) (by omega)).1 | exact (tm_in (by (first | (rw [w64_id (by omega)]; omega) | (simp only [w64_eq]; omega))) (by omega)).2.1 | exact (tm_in (by (first | (rw [w64_id (by omega)]; omega) | (simp only [w64_eq]; omega))) (by omega)).2.2 | (simp only [List.length_take] at *; omega) | (simp <;> omega))) (fun (γ : Nat × Nat) => by kernel_rfl) (fun (γ : Nat × Nat) => by kernel_rfl) ?_
    refine Steps.run (i := 8) 9 [0] [] (by kernel_rfl) (by kernel_rfl) (fun S (γ : Nat × Nat) w hM => by change Sat _ ((bif S 12 then [.inl (γ.1, .cells (Track.c ((x[i.toNat]?.getD FilterTrack.zero).Track)) 25 (0, 0))] else bif S 10 then [.inl (γ.1, .cells (Track.c Track.zero) 25 (0, 0))] else []) ++ ((bif S 13 then [.inl (γ.2, .cells (Track.c ((x[k.toNat]?.getD FilterTrack.zero).Track)) 25 (0, 0))] else bif S 11 then [.inl (γ.2, .cells (Track.c Track.zero) 25 (0, 0))] else []) ++ ([]))) w at hM; exact hM.sub (sub_skip (sub_skip (List.Sublist.refl _)))) (by kernel_rfl) (fun (γ : Nat × Nat) => ⟨by kernel_rfl, by kernel_rfl⟩) ?_
    refine Steps.val (i := 9) (fun (γ : Nat × Nat) => sV (Instr.loadAt 25 (.pointer (some ((A_x.getD noAddr).add (k.toNat * 20)))))) (some 17) (fun (γ : Nat × Nat) => Track.v ((x[k.toNat]?.getD FilterTrack.zero).Track)) (fun _ => []) (by kernel_rfl) (fun S (γ : Nat × Nat) w _ hM => by change Sat _ ((bif S 12 then [.inl (γ.1, .cells (Track.c ((x[i.toNat]?.getD FilterTrack.zero).Track)) 25 (0, 0))] else bif S 10 then [.inl (γ.1, .cells (Track.c Track.zero) 25 (0, 0))] else []) ++ ((bif S 13 then [.inl (γ.2, .cells (Track.c ((x[k.toNat]?.getD FilterTrack.zero).Track)) 25 (0, 0))] else bif S 11 then [.inl (γ.2, .cells (Track.c Track.zero) 25 (0, 0))] else []) ++ ([]))) w at hM; exact hM.sub (sub_skip (sub_skip (List.Sublist.refl _)))) (fun (γ : Nat × Nat) w hM => run_load_agg (n := 13) (off := 0) (i := k.toNat) (Track.v ((x[k.toNat]?.getD FilterTrack.zero).Track)) (hd_x.rd.sat hM) (map_at (getD_at _ _ FilterTrack.zero (by first | omega | (rw [List.length_set]; omega) | (rw [w64_id (by omega)]; omega) | (dsimp only; omega) | (rw [List.length_drop]; omega) | (simp only [w64_eq]; omega) | exact (tm_in (by (first | (rw [w64_id (by omega)]; omega) | (simp only [w64_eq]; omega))) (by omega)).1 | exact (tm_in (by (first | (rw [w64_id (by omega)]; omega) | (simp only [w64_eq]; omega))) (by omega)).2.1 | exact (tm_in (by (first | (rw [w64_id (by omega)]; omega) | (simp only [w64_eq]; omega))) (by omega)).2.2 | (simp only [List.length_take] at *; omega) | (simp <;> omega)))) (by kernel_rfl) (by kernel_rfl) (by kernel_rfl)) (fun (γ : Nat × Nat) => by kernel_rfl) (fun (γ : Nat × Nat) => by kernel_rfl) ?_
    refine Steps.op (i := 10) (Γ := Nat) (fun g (γ : Nat × Nat) => (g, γ.2)) (fun _ => []) (fun b (γ : Nat × Nat) => [.inl (b, .cells (Track.c Track.zero) 25 (0, 0))]) (fun S (γ : Nat × Nat) => (bif S 13 then [.inl (γ.2, .cells (Track.c ((x[k.toNat]?.getD FilterTrack.zero).Track)) 25 (0, 0))] else bif S 11 then [.inl (γ.2, .cells (Track.c Track.zero) 25 (0, 0))] else []) ++ ([])) [10, 12, 13] (fun (γ : Nat × Nat) => sV (Instr.alloc 25 true (.tuple #[]))) (some 6) (fun b (γ : Nat × Nat) => .pointer (some ⟨b, 0, none⟩)) (fun S (γ : Nat × Nat) hj hd hl => by change List.Perm (((bif S 12 then [.inl (γ.1, .cells (Track.c ((x[i.toNat]?.getD FilterTrack.zero).Track)) 25 (0, 0))] else bif S 10 then [.inl (γ.1, .cells (Track.c Track.zero) 25 (0, 0))] else []) ++ ((bif S 13 then [.inl (γ.2, .cells (Track.c ((x[k.toNat]?.getD FilterTrack.zero).Track)) 25 (0, 0))] else bif S 11 then [.inl (γ.2, .cells (Track.c Track.zero) 25 (0, 0))] else []) ++ ([]))) : Mem) _; rw [hj, hl 12 (by kernel_rfl)]; exact List.Perm.refl _) (fun S (γ : Nat × Nat) g hl => by change List.Perm ([.inl (g, .cells (Track.c Track.zero) 25 (0, 0))] ++ ((bif S 13 then [.inl (γ.2, .cells (Track.c ((x[k.toNat]?.getD FilterTrack.zero).Track)) 25 (0, 0))] else bif S 11 then [.inl (γ.2, .cells (Track.c Track.zero) 25 (0, 0))] else []) ++ ([]))) (((bif S 12 then [.inl (g, .cells (Track.c ((x[i.toNat]?.getD FilterTrack.zero).Track)) 25 (0, 0))] else bif true then [.inl (g, .cells (Track.c Track.zero) 25 (0, 0))] else []) ++ ((bif S 13 then [.inl (γ.2, .cells (Track.c ((x[k.toNat]?.getD FilterTrack.zero).Track)) 25 (0, 0))] else bif S 11 then [.inl (γ.2, .cells (Track.c Track.zero) 25 (0, 0))] else []) ++ ([]))) : Mem); rw [hl 12 (by kernel_rfl)]; exact (List.Perm.refl _).symm) (fun (γ : Nat × Nat) M' w hM => run_new (v := fun b => .pointer (some ⟨b, 0, none⟩)) (fun b M => by kernel_rfl) M' w hM) (fun (γ : Nat × Nat) => by kernel_rfl) (fun (γ : Nat × Nat) g => by kernel_rfl) (by kernel_rfl) (fun (γ : Nat × Nat) g => by kernel_rfl) ?_
    refine Steps.op (i := 11) (Γ := Nat) (fun g (γ : Nat × Nat) => (γ.1, g)) (fun _ => []) (fun b (γ : Nat × Nat) => [.inl (b, .cells (Track.c Track.zero) 25 (0, 0))]) (fun S (γ : Nat × Nat) => (bif S 12 then [.inl (γ.1, .cells (Track.c ((x[i.toNat]?.getD FilterTrack.zero).Track)) 25 (0, 0))] else bif S 10 then [.inl (γ.1, .cells (Track.c Track.zero) 25 (0, 0))] else []) ++ ([])) [11, 12, 13] (fun (γ : Nat × Nat) => sV (Instr.alloc 25 true (.tuple #[]))) (some 7) (fun b (γ : Nat × Nat) => .pointer (some ⟨b, 0, none⟩)) (fun S (γ : Nat × Nat) hj hd hl => by change List.Perm (((bif S 12 then [.inl (γ.1, .cells (Track.c ((x[i.toNat]?.getD FilterTrack.zero).Track)) 25 (0, 0))] else bif S 10 then [.inl (γ.1, .cells (Track.c Track.zero) 25 (0, 0))] else []) ++ ((bif S 13 then [.inl (γ.2, .cells (Track.c ((x[k.toNat]?.getD FilterTrack.zero).Track)) 25 (0, 0))] else bif S 11 then [.inl (γ.2, .cells (Track.c Track.zero) 25 (0, 0))] else []) ++ ([]))) : Mem) _; rw [hj, hl 13 (by kernel_rfl)]; exact (List.Perm.append_left _ (List.Perm.refl _)).trans (perm_mid _ _ _)) (fun S (γ : Nat × Nat) g hl => by change List.Perm ([.inl (g, .cells (Track.c Track.zero) 25 (0, 0))] ++ ((bif S 12 then [.inl (γ.1, .cells (Track.c ((x[i.toNat]?.getD FilterTrack.zero).Track)) 25 (0, 0))] else bif S 10 then [.inl (γ.1, .cells (Track.c Track.zero) 25 (0, 0))] else []) ++ ([]))) (((bif S 12 then [.inl (γ.1, .cells (Track.c ((x[i.toNat]?.getD FilterTrack.zero).Track)) 25 (0, 0))] else bif S 10 then [.inl (γ.1, .cells (Track.c Track.zero) 25 (0, 0))] else []) ++ ((bif S 13 then [.inl (g, .cells (Track.c ((x[k.toNat]?.getD FilterTrack.zero).Track)) 25 (0, 0))] else bif true then [.inl (g, .cells (Track.c Track.zero) 25 (0, 0))] else []) ++ ([]))) : Mem); rw [hl 13 (by kernel_rfl)]; exact ((List.Perm.append_left _ (List.Perm.refl _)).trans (perm_mid _ _ _)).symm) (fun (γ : Nat × Nat) M' w hM => run_new (v := fun b => .pointer (some ⟨b, 0, none⟩)) (fun b M => by kernel_rfl) M' w hM) (fun (γ : Nat × Nat) => by kernel_rfl) (fun (γ : Nat × Nat) g => by kernel_rfl) (by kernel_rfl) (fun (γ : Nat × Nat) g => by kernel_rfl) ?_
    refine Steps.put (i := 12) (fun (γ : Nat × Nat) => [.inl (γ.1, .cells (Track.c Track.zero) 25 (0, 0))]) (fun (γ : Nat × Nat) => [.inl (γ.1, .cells (Track.c ((x[i.toNat]?.getD FilterTrack.zero).Track)) 25 (0, 0))]) (fun S (γ : Nat × Nat) => (bif S 13 then [.inl (γ.2, .cells (Track.c ((x[k.toNat]?.getD FilterTrack.zero).Track)) 25 (0, 0))] else bif S 11 then [.inl (γ.2, .cells (Track.c Track.zero) 25 (0, 0))] else []) ++ ([])) (fun (γ : Nat × Nat) => sU (Instr.storeAt 25 (.pointer (some ⟨γ.1, 0, none⟩)) (Track.v ((x[i.toNat]?.getD FilterTrack.zero).Track)))) none (fun S (γ : Nat × Nat) hj hd hl => by change List.Perm (((bif S 12 then [.inl (γ.1, .cells (Track.c ((x[i.toNat]?.getD FilterTrack.zero).Track)) 25 (0, 0))] else bif S 10 then [.inl (γ.1, .cells (Track.c Track.zero) 25 (0, 0))] else []) ++ ((bif S 13 then [.inl (γ.2, .cells (Track.c ((x[k.toNat]?.getD FilterTrack.zero).Track)) 25 (0, 0))] else bif S 11 then [.inl (γ.2, .cells (Track.c Track.zero) 25 (0, 0))] else []) ++ ([]))) : Mem) _; rw [hj, hd 10 (by kernel_rfl)]; exact List.Perm.refl _) (fun S (γ : Nat × Nat) _ => (List.Perm.refl _).symm) (fun (γ : Nat × Nat) M' w hM => run_put (fun b M => by kernel_rfl) (fun b M => by kernel_rfl) M' w hM) (fun (γ : Nat × Nat) => by kernel_rfl) (fun (γ : Nat × Nat) => by kernel_rfl) ?_
    refine Steps.put (i := 13) (fun (γ : Nat × Nat) => [.inl (γ.2, .cells (Track.c Track.zero) 25 (0, 0))]) (fun (γ : Nat × Nat) => [.inl (γ.2, .cells (Track.c ((x[k.toNat]?.getD FilterTrack.zero).Track)) 25 (0, 0))]) (fun S (γ : Nat × Nat) => (bif S 12 then [.inl (γ.1, .cells (Track.c ((x[i.toNat]?.getD FilterTrack.zero).Track)) 25 (0, 0))] else bif S 10 then [.inl (γ.1, .cells (Track.c Track.zero) 25 (0, 0))] else []) ++ ([])) (fun (γ : Nat × Nat) => sU (Instr.storeAt 25 (.pointer (some ⟨γ.2, 0, none⟩)) (Track.v ((x[k.toNat]?.getD FilterTrack.zero).Track)))) none (fun S (γ : Nat × Nat) hj hd hl => by change List.Perm (((bif S 12 then [.inl (γ.1, .cells (Track.c ((x[i.toNat]?.getD FilterTrack.zero).Track)) 25 (0, 0))] else bif S 10 then [.inl (γ.1, .cells (Track.c Track.zero) 25 (0, 0))] else []) ++ ((bif S 13 then [.inl (γ.2, .cells (Track.c ((x[k.toNat]?.getD FilterTrack.zero).Track)) 25 (0, 0))] else bif S 11 then [.inl (γ.2, .cells (Track.c Track.zero) 25 (0, 0))] else []) ++ ([]))) : Mem) _; rw [hj, hd 11 (by kernel_rfl)]; exact (List.Perm.append_left _ (List.Perm.refl _)).trans (perm_mid _ _ _)) (fun S (γ : Nat × Nat) _ => ((List.Perm.append_left _ (List.Perm.refl _)).trans (perm_mid _ _ _)).symm) (fun (γ : Nat × Nat) M' w hM => run_put (fun b M => by kernel_rfl) (fun b M => by kernel_rfl) M' w hM) (fun (γ : Nat × Nat) => by kernel_rfl) (fun (γ : Nat × Nat) => by kernel_rfl) ?_
    exact Steps.done (by kernel_rfl)
  · rintro ⟨b1, b2⟩
    refine TE.conv [.inl (b1, .cells (Track.c ((x[i.toNat]?.getD FilterTrack.zero).Track)) 25 (0, 0)), .inl (b2, .cells (Track.c ((x[k.toNat]?.getD FilterTrack.zero).Track)) 25 (0, 0))] (fun _ hM => hM) ?_
    refine TE.next ?_
    refine TC.seq ?_
    refine TC.drawTail 18 (by kernel_rfl) (by kernel_rfl) ?_
    refine TQ.run 4 [0, 1] [(0, .int .i64 i), (1, .int .i64 k), (6, .pointer (some ⟨b1, 0, none⟩)), (7, .pointer (some ⟨b2, 0, none⟩)), (19, .int .i64 (((x[i.toNat]?.getD FilterTrack.zero).Track).Radius)), (21, .int .i64 (((x[k.toNat]?.getD FilterTrack.zero).Track).Radius))] rfl ⟨by kernel_rfl, by kernel_rfl⟩ ?_
    refine TQ.call (some 22) [(0, .int .i64 i), (1, .int .i64 k), (6, .pointer (some ⟨b1, 0, none⟩)), (7, .pointer (some ⟨b2, 0, none⟩)), (22, .int .i64 (cmp_Compare_int (((x[i.toNat]?.getD FilterTrack.zero).Track).Radius) (((x[k.toNat]?.getD FilterTrack.zero).Track).Radius)))] (fun w _ => cmp_Compare_int_w (((x[i.toNat]?.getD FilterTrack.zero).Track).Radius) (((x[k.toNat]?.getD FilterTrack.zero).Track).Radius) w) rfl (by kernel_rfl) (by kernel_rfl) ?_
    generalize hr1 : cmp_Compare_int (((x[i.toNat]?.getD FilterTrack.zero).Track).Radius) (((x[k.toNat]?.getD FilterTrack.zero).Track).Radius) = r1
    refine TQ.run 9 [1, 0] [(0, .int .i64 i), (1, .int .i64 k), (6, .pointer (some ⟨b1, 0, none⟩)), (7, .pointer (some ⟨b2, 0, none⟩)), (22, .int .i64 r1), (24, .int .i64 (((x[k.toNat]?.getD FilterTrack.zero).Track).Hits)), (26, .int .i64 (((x[i.toNat]?.getD FilterTrack.zero).Track).Hits))] rfl ⟨by kernel_rfl, by kernel_rfl⟩ ?_
    refine TQ.call (some 27) [(0, .int .i64 i), (1, .int .i64 k), (6, .pointer (some ⟨b1, 0, none⟩)), (7, .pointer (some ⟨b2, 0, none⟩)), (22, .int .i64 r1), (27, .int .i64 (cmp_Compare_int (((x[k.toNat]?.getD FilterTrack.zero).Track).Hits) (((x[i.toNat]?.getD FilterTrack.zero).Track).Hits)))] (fun w _ => cmp_Compare_int_w (((x[k.toNat]?.getD FilterTrack.zero).Track).Hits) (((x[i.toNat]?.getD FilterTrack.zero).Track).Hits) w) rfl (by kernel_rfl) (by kernel_rfl) ?_
    generalize hr2 : cmp_Compare_int (((x[k.toNat]?.getD FilterTrack.zero).Track).Hits) (((x[i.toNat]?.getD FilterTrack.zero).Track).Hits) = r2
    refine TQ.run 14 [0, 1] [(0, .int .i64 i), (1, .int .i64 k), (22, .int .i64 r1), (27, .int .i64 r2), (29, .int .i64 (((x[i.toNat]?.getD FilterTrack.zero).Track).ID)), (31, .int .i64 (((x[k.toNat]?.getD FilterTrack.zero).Track).ID))] rfl ⟨by kernel_rfl, by kernel_rfl⟩ ?_
    refine TQ.call (some 32) [(0, .int .i64 i), (1, .int .i64 k), (22, .int .i64 r1), (27, .int .i64 r2), (32, .int .i64 (cmp_Compare_int (((x[i.toNat]?.getD FilterTrack.zero).Track).ID) (((x[k.toNat]?.getD FilterTrack.zero).Track).ID)))] (fun w _ => cmp_Compare_int_w (((x[i.toNat]?.getD FilterTrack.zero).Track).ID) (((x[k.toNat]?.getD FilterTrack.zero).Track).ID) w) rfl (by kernel_rfl) (by kernel_rfl) ?_
    generalize hr3 : cmp_Compare_int (((x[i.toNat]?.getD FilterTrack.zero).Track).ID) (((x[k.toNat]?.getD FilterTrack.zero).Track).ID) = r3
    refine TQ.run 17 [] [(22, .int .i64 r1), (27, .int .i64 r2), (32, .int .i64 r3), (33, .int .i64 i), (34, .int .i64 k)] rfl ⟨by kernel_rfl, by kernel_rfl⟩ ?_
    refine TQ.call (some 35) [(22, .int .i64 r1), (27, .int .i64 r2), (32, .int .i64 r3), (35, .int .i64 (cmp_Compare_int i k))] (fun w _ => cmp_Compare_int_w i k w) rfl (by kernel_rfl) (by kernel_rfl) ?_
    generalize hr4 : cmp_Compare_int i k = r4
    refine TQ.tail rfl ?_
    refine TL.write 0 (fun b3 => [(36, .slice (some ⟨b3, 0, none⟩) 4 4)]) (fun b3 => [.inl (b3, .cells #[.int .i64 r1, .int .i64 r2, .int .i64 r3, .int .i64 r4] 3 (0, 0)), .inl (b1, .cells (Track.c ((x[i.toNat]?.getD FilterTrack.zero).Track)) 25 (0, 0)), .inl (b2, .cells (Track.c ((x[k.toNat]?.getD FilterTrack.zero).Track)) 25 (0, 0))]) (fun b3 => ⟨by kernel_rfl, by kernel_rfl⟩) (fun b3 => ?_)
    refine TL.call (some 37) [(37, .int .i64 (cmp_Or_int ([r1, r2, r3, r4])))] (fun w hM => cmp_Or_int_w (some ⟨b3, 0, none⟩) 4 ([r1, r2, r3, r4]) w (Rd.lit hM 0 _ rfl (by kernel_rfl) (by kernel_rfl) (by kernel_rfl)) (Nat.le_refl _)) (by kernel_rfl) (by kernel_rfl) ?_
    generalize hr5 : cmp_Or_int ([r1, r2, r3, r4]) = r5
    refine TL.run 22 [] [(5, .bool (decide (r5 < 0)))] rfl ⟨by kernel_rfl, by kernel_rfl⟩ ?_
    refine TL.next rfl ?_
    refine TC.ret ?_
    have e : fuse_Tracks_1 i k x = (decide (r5 < 0)) := by subst hr1 hr2 hr3 hr4 hr5; unfold fuse_Tracks_1; exact rfl
    exact TE.ret [] (.bool (decide (r5 < 0))) ⟨by kernel_rfl, by kernel_rfl⟩ (by rw [e]; first | done | kernel_rfl)

def fuse_Tracks_L1 : List FilterTrack → Nat → ((Unit) ⊕ (List FilterTrack × Int))
  | [], _ => .inl ()
  | x :: xs, k => let r1 := filter_Check x
    cond (r1 != 0) (
      .inr ([], r1)) (
      fuse_Tracks_L1 xs (k + 1))
def fuse_Tracks_L3 (l : List FilterTrack) (band : Int) (k_2 : Nat) (x_2 : FilterTrack) : List FilterTrack → Nat → Bool → Bool
  | [], _, keep => keep
  | x_3 :: xs, k_3, keep => cond ((k_3 : Int) != (k_2 : Int)) (
      let r3 := fuse_same x_2 x_3 band
      cond ((r3 && (x_2.Track.Code == x_3.Track.Code)) && (x_2.Track.Code != (-1))) (
        let r4 := fuse_Tracks_1 (k_3 : Int) (k_2 : Int) l
        cond r4 (
          fuse_Tracks_L3 l band k_2 x_2 xs (k_3 + 1) false) (
          fuse_Tracks_L3 l band k_2 x_2 xs (k_3 + 1) keep)) (
        fuse_Tracks_L3 l band k_2 x_2 xs (k_3 + 1) keep)) (
      fuse_Tracks_L3 l band k_2 x_2 xs (k_3 + 1) keep)
def fuse_Tracks_L2 (l : List FilterTrack) (band : Int) : List FilterTrack → Nat → (List FilterTrack) → (List FilterTrack)
  | [], _, out => out
  | x_2 :: xs, k_2, out => bindv (fuse_Tracks_L3 l band k_2 x_2 l 0 true) (fun keep_2 =>
      cond keep_2 (
        fuse_Tracks_L2 l band xs (k_2 + 1) (out ++ ([x_2]))) (
        fuse_Tracks_L2 l band xs (k_2 + 1) out))
def fuse_Tracks (l : List FilterTrack) (band : Int) : List FilterTrack × Int :=
  cond (decide ((l.length : Int) > 32)) (
    ([], 2)) (
    Sum.elim (fun _ =>
      let r2 := fuse_wrong band
      cond r2 (
        ([], 4)) (
        bindv (fuse_Tracks_L2 l band l 0 ([] : List FilterTrack)) (fun out_2 =>
          (out_2, 0)))) (fun r => r) (fuse_Tracks_L1 l 0))

set_option maxHeartbeats 4000000 in
set_option maxRecDepth 100000 in
theorem fuse_Tracks_w (A_l : Option Addr) (c_l : Nat) (l : List FilterTrack) (band : Int) (w : World) (h_l : Rd w 20 A_l (l.map FilterTrack.c)) (hc_l : l.length ≤ c_l) : Calls Try.prog 24 #[.slice A_l l.length c_l, .int .i64 band] w (RetM (Γ := (Option Addr × Nat)) (cx w) (fun g => .tuple #[.slice g.1 ((fuse_Tracks l band).1.length) g.2, .int .i64 ((fuse_Tracks l band).2)]) (fun g => [.inr (Own g.1 g.2 29 20 (((fuse_Tracks l band).1).map FilterTrack.c))])) := by
  have s_l := h_l.short; rw [List.length_map] at s_l
  refine calls_intro (vs := [.slice A_l l.length c_l, .int .i64 band]) (w := w) Try.func24 rfl Try.ntmps24 rfl ?_
  refine TC.weak [(0, .slice A_l l.length c_l), (1, .int .i64 band)] (by kernel_rfl) ?_
  refine TC.seq ?_
  refine TC.region ?_
  refine TL.write 0 (fun b1 => [(1, .int .i64 band), (2, .pointer (some ⟨b1, 0, none⟩))]) (fun b1 => [.inl (b1, .cells #[.slice A_l l.length c_l] 30 (0, 0))]) (fun b1 => ⟨by kernel_rfl, by kernel_rfl⟩) (fun b1 => ?_)
  refine TL.run 3 [] [(1, .int .i64 band), (2, .pointer (some ⟨b1, 0, none⟩))] rfl ⟨by kernel_rfl, by kernel_rfl⟩ ?_
  refine TL.next rfl ?_
  refine TC.seq ?_
  refine TC.seq ?_
  refine TC.region ?_
  refine TL.run 3 [0] [(1, .int .i64 band), (2, .pointer (some ⟨b1, 0, none⟩)), (18, .bool (decide ((l.length : Int) > 32)))] rfl ⟨by kernel_rfl, by kernel_rfl⟩ ?_
  refine TL.next rfl ?_
  refine TC.cond (decide ((l.length : Int) > 32)) rfl (by kernel_rfl) (fun h1 => ?_) (fun h1 => ?_)
  · refine TC.seq ?_
    refine TC.region ?_
    refine TL.run 2 [] [(4, .slice none 0 0), (5, .int .i64 2)] rfl ⟨by kernel_rfl, by kernel_rfl⟩ ?_
    refine TL.next rfl ?_
    refine TC.ret ?_
    refine TE.ret_then ?_
    have e : fuse_Tracks l band = ([], 2) := by unfold fuse_Tracks; exact cond_t h1 (rfl)
    refine TE.conv [.inr (Own none 0 29 20 (([] : List FilterTrack).map FilterTrack.c)), .inl (b1, .cells #[.slice A_l l.length c_l] 30 (0, 0))] (fun _ hM => hM.emptyrow none 29 20) ?_
    rw [e]
    exact TE.retM (.inl rfl) (none, 0) [] (.tuple #[.slice none 0 0, .int .i64 2]) ⟨by kernel_rfl, by kernel_rfl⟩ rfl (fun _ hM => hM.sub (.cons_cons _ (.cons _ (.slnil))))
  · refine TC.skip ?_
    refine TE.next ?_
    refine TC.seq ?_
    refine TC.seq ?_
    refine TC.region ?_
    refine TL.run 3 [0] [(1, .int .i64 band), (2, .pointer (some ⟨b1, 0, none⟩)), (19, .slice A_l l.length c_l), (20, .int .i64 (l.length : Int)), (21, .int .i64 0)] rfl ⟨by kernel_rfl, by kernel_rfl⟩ ?_
    refine TL.next rfl ?_
    refine TC.weak [(1, .int .i64 band), (2, .pointer (some ⟨b1, 0, none⟩)), (19, .slice A_l l.length c_l), (20, .int .i64 (l.length : Int)), (21, .int .i64 0)] (by kernel_rfl) ?_
    obtain ⟨R2, hR⟩ : ∃ R, R = fuse_Tracks_L1 l 0 := ⟨_, rfl⟩
    refine TC.cut (S := Unit) (fun (_ : Unit) => [(1, .int .i64 band), (2, .pointer (some ⟨b1, 0, none⟩))]) (fun (_ : Unit) => [.inl (b1, .cells #[.slice A_l l.length c_l] 30 (0, 0))]) (fun (_ : Unit) => R2 = .inl ()) ?_ ?_
    · refine TC.block ?_
      refine TC.loop (X := Nat) (fun k => [(1, .int .i64 band), (2, .pointer (some ⟨b1, 0, none⟩)), (19, .slice A_l l.length c_l), (20, .int .i64 (l.length : Int)), (21, .int .i64 (k : Int))]) (fun k => [.inl (b1, .cells #[.slice A_l l.length c_l] 30 (0, 0))]) (fun k => l.length - k) (fun k => k ≤ l.length ∧ R2 = fuse_Tracks_L1 (l.drop k) k) ?_ 0 ⟨Nat.zero_le _, hR⟩
      rintro k ⟨hk, hI⟩
      refine TC.seq ?_
      refine TC.region ?_
      refine TL.run 1 [] [(1, .int .i64 band), (2, .pointer (some ⟨b1, 0, none⟩)), (19, .slice A_l l.length c_l), (20, .int .i64 (l.length : Int)), (21, .int .i64 (k : Int)), (22, .bool (decide ((k : Int) < (l.length : Int))))] rfl ⟨by kernel_rfl, by kernel_rfl⟩ ?_
      refine TL.next rfl ?_
      refine TC.seq ?_
      refine TC.cond (decide ((k : Int) < (l.length : Int))) rfl (by kernel_rfl) (fun h2 => ?_) (fun h2 => ?_)
      · have hlt : k < l.length := by have := of_decide_eq_true h2; first | omega | (simp at this; omega)
        obtain ⟨x, hx⟩ : ∃ e_, l[k]? = some e_ := ⟨_, List.getElem?_eq_getElem hlt⟩
        have hd := drop_at hx
        refine TC.skip ?_
        refine TE.next ?_
        refine TC.seq ?_
        refine TC.block ?_
        refine TC.seq ?_
        refine TC.region ?_
        refine TL.val (sV (Instr.indexAt 30 (.slice A_l l.length c_l) (.int .i64 (k : Int)))) (some 23) (.pointer (some ((A_l.getD noAddr).add (k * 20)))) [(1, .int .i64 band), (2, .pointer (some ⟨b1, 0, none⟩)), (19, .slice A_l l.length c_l), (20, .int .i64 (l.length : Int)), (21, .int .i64 (k : Int)), (23, .pointer (some ((A_l.getD noAddr).add (k * 20))))] (fun w hM => run_index (h_l.sat hM) (by simp) (by kernel_rfl) (by have q0_ := (dec_f h1); first | omega | (rw [List.length_set]; omega) | (rw [w64_id (by omega)]; omega) | (dsimp only; omega) | (rw [List.length_drop]; omega) | (simp only [w64_eq]; omega) | exact (tm_in (by (first | (rw [w64_id (by omega)]; omega) | (simp only [w64_eq]; omega))) (by omega)).1 | exact (tm_in (by (first | (rw [w64_id (by omega)]; omega) | (simp only [w64_eq]; omega))) (by omega)).2.1 | exact (tm_in (by (first | (rw [w64_id (by omega)]; omega) | (simp only [w64_eq]; omega))) (by omega)).2.2 | (simp only [List.length_take] at *; omega) | (simp <;> omega)) (by have q0_ := (dec_f h1); first | omega | (rw [List.length_set]; omega) | (rw [w64_id (by omega)]; omega) | (dsimp only; omega) | (rw [List.length_drop]; omega) | (simp only [w64_eq]; omega) | exact (tm_in (by (first | (rw [w64_id (by omega)]; omega) | (simp only [w64_eq]; omega))) (by omega)).1 | exact (tm_in (by (first | (rw [w64_id (by omega)]; omega) | (simp only [w64_eq]; omega))) (by omega)).2.1 | exact (tm_in (by (first | (rw [w64_id (by omega)]; omega) | (simp only [w64_eq]; omega))) (by omega)).2.2 | (simp only [List.length_take] at *; omega) | (simp <;> omega))) (by kernel_rfl) (by kernel_rfl) ?_
        refine TL.val (sV (Instr.loadAt 29 (.pointer (some ((A_l.getD noAddr).add (k * 20)))))) (some 24) (FilterTrack.v x) [(1, .int .i64 band), (2, .pointer (some ⟨b1, 0, none⟩)), (19, .slice A_l l.length c_l), (20, .int .i64 (l.length : Int)), (21, .int .i64 (k : Int)), (24, FilterTrack.v x)] (fun w hM => run_load_agg (n := 20) (off := 0) (i := k) (FilterTrack.v x) (h_l.sat hM) (map_at hx) (by kernel_rfl) (by kernel_rfl) (by kernel_rfl)) (by kernel_rfl) (by kernel_rfl) ?_
        refine TL.write 0 (fun b2 => [(1, .int .i64 band), (2, .pointer (some ⟨b1, 0, none⟩)), (7, .pointer (some ⟨b2, 0, none⟩)), (19, .slice A_l l.length c_l), (20, .int .i64 (l.length : Int)), (21, .int .i64 (k : Int)), (24, FilterTrack.v x)]) (fun b2 => [.inl (b2, .cells (FilterTrack.c FilterTrack.zero) 29 (0, 0)), .inl (b1, .cells #[.slice A_l l.length c_l] 30 (0, 0))]) (fun b2 => ⟨by kernel_rfl, by kernel_rfl⟩) (fun b2 => ?_)
        refine TL.write 0 (fun _ => [(1, .int .i64 band), (2, .pointer (some ⟨b1, 0, none⟩)), (7, .pointer (some ⟨b2, 0, none⟩)), (19, .slice A_l l.length c_l), (20, .int .i64 (l.length : Int)), (21, .int .i64 (k : Int))]) (fun _ => [.inl (b2, .cells (FilterTrack.c x) 29 (0, 0)), .inl (b1, .cells #[.slice A_l l.length c_l] 30 (0, 0))]) (fun _ => ⟨by kernel_rfl, by kernel_rfl⟩) (fun _ => ?_)
        refine TL.next rfl ?_
        refine TC.seq ?_
        refine TC.region ?_
        refine TL.run 1 [0] [(1, .int .i64 band), (2, .pointer (some ⟨b1, 0, none⟩)), (19, .slice A_l l.length c_l), (20, .int .i64 (l.length : Int)), (21, .int .i64 (k : Int)), (25, FilterTrack.v x)] rfl ⟨by kernel_rfl, by kernel_rfl⟩ ?_
        refine TL.call (some 26) [(1, .int .i64 band), (2, .pointer (some ⟨b1, 0, none⟩)), (19, .slice A_l l.length c_l), (20, .int .i64 (l.length : Int)), (21, .int .i64 (k : Int)), (26, .int .i64 (filter_Check x))] (fun w _ => filter_Check_w x w) (by kernel_rfl) (by kernel_rfl) ?_
        generalize hr1 : filter_Check x = r1
        refine TL.run 3 [] [(1, .int .i64 band), (2, .pointer (some ⟨b1, 0, none⟩)), (8, .int .i64 r1), (19, .slice A_l l.length c_l), (20, .int .i64 (l.length : Int)), (21, .int .i64 (k : Int))] rfl ⟨by kernel_rfl, by kernel_rfl⟩ ?_
        refine TL.next rfl ?_
        refine TC.seq ?_
        refine TC.region ?_
        refine TL.run 2 [] [(1, .int .i64 band), (2, .pointer (some ⟨b1, 0, none⟩)), (8, .int .i64 r1), (19, .slice A_l l.length c_l), (20, .int .i64 (l.length : Int)), (21, .int .i64 (k : Int)), (28, .bool (r1 != 0))] rfl ⟨by kernel_rfl, by kernel_rfl⟩ ?_
        refine TL.next rfl ?_
        refine TC.cond (r1 != 0) rfl (by kernel_rfl) (fun h3 => ?_) (fun h3 => ?_)
        · refine TC.seq ?_
          refine TC.region ?_
          refine TL.run 3 [] [(4, .slice none 0 0), (5, .int .i64 r1)] rfl ⟨by kernel_rfl, by kernel_rfl⟩ ?_
          refine TL.next rfl ?_
          refine TC.ret ?_
          refine TE.ret_block (TE.ret_then (TE.ret_then (TE.ret_block (TE.ret_then (TE.ret_then ?_)))))
          have e : fuse_Tracks l band = ([], r1) := by subst hr1; unfold fuse_Tracks; exact cond_f h1 (elim_r (hR.symm.trans (hI.trans (by rw [hd]; exact cond_t h3 (rfl)))) rfl)
          refine TE.conv [.inr (Own none 0 29 20 (([] : List FilterTrack).map FilterTrack.c)), .inl (b2, .cells (FilterTrack.c x) 29 (0, 0)), .inl (b1, .cells #[.slice A_l l.length c_l] 30 (0, 0))] (fun _ hM => hM.emptyrow none 29 20) ?_
          rw [e]
          exact TE.retM (.inl rfl) (none, 0) [] (.tuple #[.slice none 0 0, .int .i64 r1]) ⟨by kernel_rfl, by kernel_rfl⟩ rfl (fun _ hM => hM.sub (.cons_cons _ (.cons _ (.cons _ (.slnil)))))
        · refine TC.skip ?_
          refine TE.normal_block ?_
          refine TE.next ?_
          refine TC.region ?_
          refine TL.run 2 [] [(1, .int .i64 band), (2, .pointer (some ⟨b1, 0, none⟩)), (19, .slice A_l l.length c_l), (20, .int .i64 (l.length : Int)), (21, .int .i64 (w64 ((k : Int) + 1)))] rfl ⟨by kernel_rfl, by kernel_rfl⟩ ?_
          refine TL.done rfl ?_
          refine TE.rw 21 (.int .i64 (w64 ((k : Int) + 1))) (.int .i64 ((k + 1 : Nat) : Int)) (by kernel_rfl) (w64_cast k (by omega)) ?_
          exact TE.again (x := k) (k + 1) ⟨by omega, hI.trans (by subst hr1; rw [hd]; exact cond_f h3 (rfl))⟩ (by show l.length - (k + 1) < l.length - k; omega) (by kernel_rfl) (.cons _ (.cons_cons _ (.slnil)))
      · have hd : l.drop k = [] := List.drop_eq_nil_of_le (by have := of_decide_eq_false h2; first | omega | (simp at this; omega))
        refine TC.exit ?_
        refine TE.exit_then (TE.exit_then (TE.exit_same ?_))
        exact TE.cut () (hI.trans (by rw [hd]; exact rfl)) (by kernel_rfl) (.cons_cons _ (.slnil))
    · intro _ hJ
      refine TE.next ?_
      refine TC.seq ?_
      refine TC.seq ?_
      refine TC.region ?_
      refine TL.run 1 [] [(1, .int .i64 band), (2, .pointer (some ⟨b1, 0, none⟩)), (31, .int .i64 band)] rfl ⟨by kernel_rfl, by kernel_rfl⟩ ?_
      refine TL.call (some 32) [(1, .int .i64 band), (2, .pointer (some ⟨b1, 0, none⟩)), (32, .bool ((fuse_wrong band)))] (fun w _ => fuse_wrong_w band w) (by kernel_rfl) (by kernel_rfl) ?_
      generalize hr2 : fuse_wrong band = r2
      refine TL.next rfl ?_
      refine TC.cond r2 rfl (by kernel_rfl) (fun h4 => ?_) (fun h4 => ?_)
      · refine TC.seq ?_
        refine TC.region ?_
        refine TL.run 2 [] [(4, .slice none 0 0), (5, .int .i64 4)] rfl ⟨by kernel_rfl, by kernel_rfl⟩ ?_
        refine TL.next rfl ?_
        refine TC.ret ?_
        refine TE.ret_then ?_
        have e : fuse_Tracks l band = ([], 4) := by subst hr2; unfold fuse_Tracks; exact cond_f h1 (elim_l (hR.symm.trans hJ) (cond_t h4 (rfl)))
        refine TE.conv [.inr (Own none 0 29 20 (([] : List FilterTrack).map FilterTrack.c)), .inl (b1, .cells #[.slice A_l l.length c_l] 30 (0, 0))] (fun _ hM => hM.emptyrow none 29 20) ?_
        rw [e]
        exact TE.retM (.inl rfl) (none, 0) [] (.tuple #[.slice none 0 0, .int .i64 4]) ⟨by kernel_rfl, by kernel_rfl⟩ rfl (fun _ hM => hM.sub (.cons_cons _ (.cons _ (.slnil))))
      · refine TC.skip ?_
        refine TE.next ?_
        refine TC.seq ?_
        refine TC.region ?_
        refine TL.run 2 [] [(1, .int .i64 band), (2, .pointer (some ⟨b1, 0, none⟩)), (9, .func (.func 65) #[] #[.pointer (some ⟨b1, 0, none⟩)])] rfl ⟨by kernel_rfl, by kernel_rfl⟩ ?_
        refine TL.next rfl ?_
        refine TC.seq ?_
        refine TC.region ?_
        refine TL.run 1 [] [(1, .int .i64 band), (2, .pointer (some ⟨b1, 0, none⟩)), (9, .func (.func 65) #[] #[.pointer (some ⟨b1, 0, none⟩)]), (10, .slice none 0 0)] rfl ⟨by kernel_rfl, by kernel_rfl⟩ ?_
        refine TL.next rfl ?_
        refine TC.seq ?_
        refine TC.seq ?_
        refine TC.region ?_
        refine TL.run 3 [0] [(1, .int .i64 band), (2, .pointer (some ⟨b1, 0, none⟩)), (9, .func (.func 65) #[] #[.pointer (some ⟨b1, 0, none⟩)]), (10, .slice none 0 0), (34, .slice A_l l.length c_l), (35, .int .i64 (l.length : Int)), (36, .int .i64 0)] rfl ⟨by kernel_rfl, by kernel_rfl⟩ ?_
        refine TL.next rfl ?_
        refine TC.conv [.inr (Own none 0 29 20 (([] : List FilterTrack).map FilterTrack.c)), .inl (b1, .cells #[.slice A_l l.length c_l] 30 (0, 0))] (fun _ hM => hM.emptyrow none 29 20) ?_
        refine TC.weak [(1, .int .i64 band), (2, .pointer (some ⟨b1, 0, none⟩)), (9, .func (.func 65) #[] #[.pointer (some ⟨b1, 0, none⟩)]), (10, .slice none (([] : List FilterTrack).length) 0), (34, .slice A_l l.length c_l), (35, .int .i64 (l.length : Int)), (36, .int .i64 0)] (by kernel_rfl) ?_
        obtain ⟨R6, hR_2⟩ : ∃ R, R = fuse_Tracks_L2 l band l 0 ([] : List FilterTrack) := ⟨_, rfl⟩
        refine TC.cut (S := (List FilterTrack) × (Option Addr) × Nat) (fun (out_2, A_out_2, c_out_2) => [(10, .slice A_out_2 out_2.length c_out_2)]) (fun (out_2, A_out_2, c_out_2) => [.inr (Own A_out_2 c_out_2 29 20 (out_2.map FilterTrack.c))]) (fun (out_2, A_out_2, c_out_2) => R6 = out_2 ∧ out_2.length ≤ l.length) ?_ ?_
        · refine TC.block ?_
          refine TC.loop (X := Nat × (List FilterTrack) × (Option Addr) × Nat) (fun (k_2, out, A_out, c_out) => [(1, .int .i64 band), (2, .pointer (some ⟨b1, 0, none⟩)), (9, .func (.func 65) #[] #[.pointer (some ⟨b1, 0, none⟩)]), (10, .slice A_out out.length c_out), (34, .slice A_l l.length c_l), (35, .int .i64 (l.length : Int)), (36, .int .i64 (k_2 : Int))]) (fun (k_2, out, A_out, c_out) => [.inr (Own A_out c_out 29 20 (out.map FilterTrack.c)), .inl (b1, .cells #[.slice A_l l.length c_l] 30 (0, 0))]) (fun (k_2, out, A_out, c_out) => l.length - k_2) (fun (k_2, out, A_out, c_out) => k_2 ≤ l.length ∧ R6 = fuse_Tracks_L2 l band (l.drop k_2) k_2 out ∧ out.length ≤ k_2) ?_ (0, ([] : List FilterTrack), none, 0) ⟨Nat.zero_le _, hR_2, (by first | omega | (simp; omega) | simp)⟩
          rintro ⟨k_2, out, A_out, c_out⟩ ⟨hk_2, hI_2, hl_out⟩
          refine TC.seq ?_
          refine TC.region ?_
          refine TL.run 1 [] [(1, .int .i64 band), (2, .pointer (some ⟨b1, 0, none⟩)), (9, .func (.func 65) #[] #[.pointer (some ⟨b1, 0, none⟩)]), (10, .slice A_out out.length c_out), (34, .slice A_l l.length c_l), (35, .int .i64 (l.length : Int)), (36, .int .i64 (k_2 : Int)), (37, .bool (decide ((k_2 : Int) < (l.length : Int))))] rfl ⟨by kernel_rfl, by kernel_rfl⟩ ?_
          refine TL.next rfl ?_
          refine TC.seq ?_
          refine TC.cond (decide ((k_2 : Int) < (l.length : Int))) rfl (by kernel_rfl) (fun h5 => ?_) (fun h5 => ?_)
          · have hlt_2 : k_2 < l.length := by have := of_decide_eq_true h5; first | omega | (simp at this; omega)
            obtain ⟨x_2, hx_2⟩ : ∃ e_, l[k_2]? = some e_ := ⟨_, List.getElem?_eq_getElem hlt_2⟩
            have hd_2 := drop_at hx_2
            refine TC.skip ?_
            refine TE.next ?_
            refine TC.seq ?_
            refine TC.block ?_
            refine TC.seq ?_
            refine TC.region ?_
            refine TL.run 1 [] [(1, .int .i64 band), (2, .pointer (some ⟨b1, 0, none⟩)), (9, .func (.func 65) #[] #[.pointer (some ⟨b1, 0, none⟩)]), (10, .slice A_out out.length c_out), (34, .slice A_l l.length c_l), (35, .int .i64 (l.length : Int)), (36, .int .i64 (k_2 : Int)), (38, .int .i64 (k_2 : Int))] rfl ⟨by kernel_rfl, by kernel_rfl⟩ ?_
            refine TL.val (sV (Instr.indexAt 30 (.slice A_l l.length c_l) (.int .i64 (k_2 : Int)))) (some 39) (.pointer (some ((A_l.getD noAddr).add (k_2 * 20)))) [(1, .int .i64 band), (2, .pointer (some ⟨b1, 0, none⟩)), (9, .func (.func 65) #[] #[.pointer (some ⟨b1, 0, none⟩)]), (10, .slice A_out out.length c_out), (34, .slice A_l l.length c_l), (35, .int .i64 (l.length : Int)), (36, .int .i64 (k_2 : Int)), (38, .int .i64 (k_2 : Int)), (39, .pointer (some ((A_l.getD noAddr).add (k_2 * 20))))] (fun w hM => run_index (h_l.sat hM) (by simp) (by kernel_rfl) (by have q0_ := (dec_f h1); first | omega | (rw [List.length_set]; omega) | (rw [w64_id (by omega)]; omega) | (dsimp only; omega) | (rw [List.length_drop]; omega) | (simp only [w64_eq]; omega) | exact (tm_in (by (first | (rw [w64_id (by omega)]; omega) | (simp only [w64_eq]; omega))) (by omega)).1 | exact (tm_in (by (first | (rw [w64_id (by omega)]; omega) | (simp only [w64_eq]; omega))) (by omega)).2.1 | exact (tm_in (by (first | (rw [w64_id (by omega)]; omega) | (simp only [w64_eq]; omega))) (by omega)).2.2 | (simp only [List.length_take] at *; omega) | (simp <;> omega)) (by have q0_ := (dec_f h1); first | omega | (rw [List.length_set]; omega) | (rw [w64_id (by omega)]; omega) | (dsimp only; omega) | (rw [List.length_drop]; omega) | (simp only [w64_eq]; omega) | exact (tm_in (by (first | (rw [w64_id (by omega)]; omega) | (simp only [w64_eq]; omega))) (by omega)).1 | exact (tm_in (by (first | (rw [w64_id (by omega)]; omega) | (simp only [w64_eq]; omega))) (by omega)).2.1 | exact (tm_in (by (first | (rw [w64_id (by omega)]; omega) | (simp only [w64_eq]; omega))) (by omega)).2.2 | (simp only [List.length_take] at *; omega) | (simp <;> omega))) (by kernel_rfl) (by kernel_rfl) ?_
            refine TL.val (sV (Instr.loadAt 29 (.pointer (some ((A_l.getD noAddr).add (k_2 * 20)))))) (some 40) (FilterTrack.v x_2) [(1, .int .i64 band), (2, .pointer (some ⟨b1, 0, none⟩)), (9, .func (.func 65) #[] #[.pointer (some ⟨b1, 0, none⟩)]), (10, .slice A_out out.length c_out), (34, .slice A_l l.length c_l), (35, .int .i64 (l.length : Int)), (36, .int .i64 (k_2 : Int)), (38, .int .i64 (k_2 : Int)), (40, FilterTrack.v x_2)] (fun w hM => run_load_agg (n := 20) (off := 0) (i := k_2) (FilterTrack.v x_2) (h_l.sat hM) (map_at hx_2) (by kernel_rfl) (by kernel_rfl) (by kernel_rfl)) (by kernel_rfl) (by kernel_rfl) ?_
            refine TL.write 0 (fun b3 => [(1, .int .i64 band), (2, .pointer (some ⟨b1, 0, none⟩)), (9, .func (.func 65) #[] #[.pointer (some ⟨b1, 0, none⟩)]), (10, .slice A_out out.length c_out), (12, .pointer (some ⟨b3, 0, none⟩)), (34, .slice A_l l.length c_l), (35, .int .i64 (l.length : Int)), (36, .int .i64 (k_2 : Int)), (38, .int .i64 (k_2 : Int)), (40, FilterTrack.v x_2)]) (fun b3 => [.inl (b3, .cells (FilterTrack.c FilterTrack.zero) 29 (0, 0)), .inr (Own A_out c_out 29 20 (out.map FilterTrack.c)), .inl (b1, .cells #[.slice A_l l.length c_l] 30 (0, 0))]) (fun b3 => ⟨by kernel_rfl, by kernel_rfl⟩) (fun b3 => ?_)
            refine TL.run 5 [] [(1, .int .i64 band), (2, .pointer (some ⟨b1, 0, none⟩)), (9, .func (.func 65) #[] #[.pointer (some ⟨b1, 0, none⟩)]), (10, .slice A_out out.length c_out), (11, .int .i64 (k_2 : Int)), (12, .pointer (some ⟨b3, 0, none⟩)), (34, .slice A_l l.length c_l), (35, .int .i64 (l.length : Int)), (36, .int .i64 (k_2 : Int)), (40, FilterTrack.v x_2)] rfl ⟨by kernel_rfl, by kernel_rfl⟩ ?_
            refine TL.write 0 (fun _ => [(1, .int .i64 band), (2, .pointer (some ⟨b1, 0, none⟩)), (9, .func (.func 65) #[] #[.pointer (some ⟨b1, 0, none⟩)]), (10, .slice A_out out.length c_out), (11, .int .i64 (k_2 : Int)), (12, .pointer (some ⟨b3, 0, none⟩)), (34, .slice A_l l.length c_l), (35, .int .i64 (l.length : Int)), (36, .int .i64 (k_2 : Int))]) (fun _ => [.inl (b3, .cells (FilterTrack.c x_2) 29 (0, 0)), .inr (Own A_out c_out 29 20 (out.map FilterTrack.c)), .inl (b1, .cells #[.slice A_l l.length c_l] 30 (0, 0))]) (fun _ => ⟨by kernel_rfl, by kernel_rfl⟩) (fun _ => ?_)
            refine TL.next rfl ?_
            refine TC.seq ?_
            refine TC.region ?_
            refine TL.run 1 [] [(1, .int .i64 band), (2, .pointer (some ⟨b1, 0, none⟩)), (9, .func (.func 65) #[] #[.pointer (some ⟨b1, 0, none⟩)]), (10, .slice A_out out.length c_out), (11, .int .i64 (k_2 : Int)), (12, .pointer (some ⟨b3, 0, none⟩)), (13, .bool true), (34, .slice A_l l.length c_l), (35, .int .i64 (l.length : Int)), (36, .int .i64 (k_2 : Int))] rfl ⟨by kernel_rfl, by kernel_rfl⟩ ?_
            refine TL.next rfl ?_
            refine TC.seq ?_
            refine TC.seq ?_
            refine TC.region ?_
            refine TL.run 3 [2] [(1, .int .i64 band), (2, .pointer (some ⟨b1, 0, none⟩)), (9, .func (.func 65) #[] #[.pointer (some ⟨b1, 0, none⟩)]), (10, .slice A_out out.length c_out), (11, .int .i64 (k_2 : Int)), (12, .pointer (some ⟨b3, 0, none⟩)), (13, .bool true), (34, .slice A_l l.length c_l), (35, .int .i64 (l.length : Int)), (36, .int .i64 (k_2 : Int)), (41, .slice A_l l.length c_l), (42, .int .i64 (l.length : Int)), (43, .int .i64 0)] rfl ⟨by kernel_rfl, by kernel_rfl⟩ ?_
            refine TL.next rfl ?_
            refine TC.weak [(1, .int .i64 band), (2, .pointer (some ⟨b1, 0, none⟩)), (9, .func (.func 65) #[] #[.pointer (some ⟨b1, 0, none⟩)]), (10, .slice A_out out.length c_out), (11, .int .i64 (k_2 : Int)), (12, .pointer (some ⟨b3, 0, none⟩)), (13, .bool true), (34, .slice A_l l.length c_l), (35, .int .i64 (l.length : Int)), (36, .int .i64 (k_2 : Int)), (41, .slice A_l l.length c_l), (42, .int .i64 (l.length : Int)), (43, .int .i64 0)] (by kernel_rfl) ?_
            obtain ⟨R7, hR_3⟩ : ∃ R, R = fuse_Tracks_L3 l band k_2 x_2 l 0 true := ⟨_, rfl⟩
            refine TC.cut (S := Bool) (fun keep_2 => [(1, .int .i64 band), (2, .pointer (some ⟨b1, 0, none⟩)), (9, .func (.func 65) #[] #[.pointer (some ⟨b1, 0, none⟩)]), (10, .slice A_out out.length c_out), (12, .pointer (some ⟨b3, 0, none⟩)), (13, .bool keep_2), (34, .slice A_l l.length c_l), (35, .int .i64 (l.length : Int)), (36, .int .i64 (k_2 : Int))]) (fun keep_2 => [.inl (b3, .cells (FilterTrack.c x_2) 29 (0, 0)), .inr (Own A_out c_out 29 20 (out.map FilterTrack.c)), .inl (b1, .cells #[.slice A_l l.length c_l] 30 (0, 0))]) (fun keep_2 => R7 = keep_2) ?_ ?_
            · refine TC.block ?_
              refine TC.loop (X := Nat × Bool) (fun (k_3, keep) => [(1, .int .i64 band), (2, .pointer (some ⟨b1, 0, none⟩)), (9, .func (.func 65) #[] #[.pointer (some ⟨b1, 0, none⟩)]), (10, .slice A_out out.length c_out), (11, .int .i64 (k_2 : Int)), (12, .pointer (some ⟨b3, 0, none⟩)), (13, .bool keep), (34, .slice A_l l.length c_l), (35, .int .i64 (l.length : Int)), (36, .int .i64 (k_2 : Int)), (41, .slice A_l l.length c_l), (42, .int .i64 (l.length : Int)), (43, .int .i64 (k_3 : Int))]) (fun (k_3, keep) => [.inl (b3, .cells (FilterTrack.c x_2) 29 (0, 0)), .inr (Own A_out c_out 29 20 (out.map FilterTrack.c)), .inl (b1, .cells #[.slice A_l l.length c_l] 30 (0, 0))]) (fun (k_3, keep) => l.length - k_3) (fun (k_3, keep) => k_3 ≤ l.length ∧ R7 = fuse_Tracks_L3 l band k_2 x_2 (l.drop k_3) k_3 keep) ?_ (0, true) ⟨Nat.zero_le _, hR_3⟩
              rintro ⟨k_3, keep⟩ ⟨hk_3, hI_3⟩
              refine TC.seq ?_
              refine TC.region ?_
              refine TL.run 1 [] [(1, .int .i64 band), (2, .pointer (some ⟨b1, 0, none⟩)), (9, .func (.func 65) #[] #[.pointer (some ⟨b1, 0, none⟩)]), (10, .slice A_out out.length c_out), (11, .int .i64 (k_2 : Int)), (12, .pointer (some ⟨b3, 0, none⟩)), (13, .bool keep), (34, .slice A_l l.length c_l), (35, .int .i64 (l.length : Int)), (36, .int .i64 (k_2 : Int)), (41, .slice A_l l.length c_l), (42, .int .i64 (l.length : Int)), (43, .int .i64 (k_3 : Int)), (44, .bool (decide ((k_3 : Int) < (l.length : Int))))] rfl ⟨by kernel_rfl, by kernel_rfl⟩ ?_
              refine TL.next rfl ?_
              refine TC.seq ?_
              refine TC.cond (decide ((k_3 : Int) < (l.length : Int))) rfl (by kernel_rfl) (fun h6 => ?_) (fun h6 => ?_)
              · have hlt_3 : k_3 < l.length := by have := of_decide_eq_true h6; first | omega | (simp at this; omega)
                obtain ⟨x_3, hx_3⟩ : ∃ e_, l[k_3]? = some e_ := ⟨_, List.getElem?_eq_getElem hlt_3⟩
                have hd_3 := drop_at hx_3
                refine TC.skip ?_
                refine TE.next ?_
                refine TC.seq ?_
                refine TC.block ?_
                refine TC.seq ?_
                refine TC.region ?_
                refine TL.run 1 [] [(1, .int .i64 band), (2, .pointer (some ⟨b1, 0, none⟩)), (9, .func (.func 65) #[] #[.pointer (some ⟨b1, 0, none⟩)]), (10, .slice A_out out.length c_out), (11, .int .i64 (k_2 : Int)), (12, .pointer (some ⟨b3, 0, none⟩)), (13, .bool keep), (34, .slice A_l l.length c_l), (35, .int .i64 (l.length : Int)), (36, .int .i64 (k_2 : Int)), (41, .slice A_l l.length c_l), (42, .int .i64 (l.length : Int)), (43, .int .i64 (k_3 : Int)), (45, .int .i64 (k_3 : Int))] rfl ⟨by kernel_rfl, by kernel_rfl⟩ ?_
                refine TL.val (sV (Instr.indexAt 30 (.slice A_l l.length c_l) (.int .i64 (k_3 : Int)))) (some 46) (.pointer (some ((A_l.getD noAddr).add (k_3 * 20)))) [(1, .int .i64 band), (2, .pointer (some ⟨b1, 0, none⟩)), (9, .func (.func 65) #[] #[.pointer (some ⟨b1, 0, none⟩)]), (10, .slice A_out out.length c_out), (11, .int .i64 (k_2 : Int)), (12, .pointer (some ⟨b3, 0, none⟩)), (13, .bool keep), (34, .slice A_l l.length c_l), (35, .int .i64 (l.length : Int)), (36, .int .i64 (k_2 : Int)), (41, .slice A_l l.length c_l), (42, .int .i64 (l.length : Int)), (43, .int .i64 (k_3 : Int)), (45, .int .i64 (k_3 : Int)), (46, .pointer (some ((A_l.getD noAddr).add (k_3 * 20))))] (fun w hM => run_index (h_l.sat hM) (by simp) (by kernel_rfl) (by have q0_ := (dec_f h1); first | omega | (rw [List.length_set]; omega) | (rw [w64_id (by omega)]; omega) | (dsimp only; omega) | (rw [List.length_drop]; omega) | (simp only [w64_eq]; omega) | exact (tm_in (by (first | (rw [w64_id (by omega)]; omega) | (simp only [w64_eq]; omega))) (by omega)).1 | exact (tm_in (by (first | (rw [w64_id (by omega)]; omega) | (simp only [w64_eq]; omega))) (by omega)).2.1 | exact (tm_in (by (first | (rw [w64_id (by omega)]; omega) | (simp only [w64_eq]; omega))) (by omega)).2.2 | (simp only [List.length_take] at *; omega) | (simp <;> omega)) (by have q0_ := (dec_f h1); first | omega | (rw [List.length_set]; omega) | (rw [w64_id (by omega)]; omega) | (dsimp only; omega) | (rw [List.length_drop]; omega) | (simp only [w64_eq]; omega) | exact (tm_in (by (first | (rw [w64_id (by omega)]; omega) | (simp only [w64_eq]; omega))) (by omega)).1 | exact (tm_in (by (first | (rw [w64_id (by omega)]; omega) | (simp only [w64_eq]; omega))) (by omega)).2.1 | exact (tm_in (by (first | (rw [w64_id (by omega)]; omega) | (simp only [w64_eq]; omega))) (by omega)).2.2 | (simp only [List.length_take] at *; omega) | (simp <;> omega))) (by kernel_rfl) (by kernel_rfl) ?_
                refine TL.val (sV (Instr.loadAt 29 (.pointer (some ((A_l.getD noAddr).add (k_3 * 20)))))) (some 47) (FilterTrack.v x_3) [(1, .int .i64 band), (2, .pointer (some ⟨b1, 0, none⟩)), (9, .func (.func 65) #[] #[.pointer (some ⟨b1, 0, none⟩)]), (10, .slice A_out out.length c_out), (11, .int .i64 (k_2 : Int)), (12, .pointer (some ⟨b3, 0, none⟩)), (13, .bool keep), (34, .slice A_l l.length c_l), (35, .int .i64 (l.length : Int)), (36, .int .i64 (k_2 : Int)), (41, .slice A_l l.length c_l), (42, .int .i64 (l.length : Int)), (43, .int .i64 (k_3 : Int)), (45, .int .i64 (k_3 : Int)), (47, FilterTrack.v x_3)] (fun w hM => run_load_agg (n := 20) (off := 0) (i := k_3) (FilterTrack.v x_3) (h_l.sat hM) (map_at hx_3) (by kernel_rfl) (by kernel_rfl) (by kernel_rfl)) (by kernel_rfl) (by kernel_rfl) ?_
                refine TL.write 0 (fun b4 => [(1, .int .i64 band), (2, .pointer (some ⟨b1, 0, none⟩)), (9, .func (.func 65) #[] #[.pointer (some ⟨b1, 0, none⟩)]), (10, .slice A_out out.length c_out), (11, .int .i64 (k_2 : Int)), (12, .pointer (some ⟨b3, 0, none⟩)), (13, .bool keep), (15, .pointer (some ⟨b4, 0, none⟩)), (34, .slice A_l l.length c_l), (35, .int .i64 (l.length : Int)), (36, .int .i64 (k_2 : Int)), (41, .slice A_l l.length c_l), (42, .int .i64 (l.length : Int)), (43, .int .i64 (k_3 : Int)), (45, .int .i64 (k_3 : Int)), (47, FilterTrack.v x_3)]) (fun b4 => [.inl (b4, .cells (FilterTrack.c FilterTrack.zero) 29 (0, 0)), .inl (b3, .cells (FilterTrack.c x_2) 29 (0, 0)), .inr (Own A_out c_out 29 20 (out.map FilterTrack.c)), .inl (b1, .cells #[.slice A_l l.length c_l] 30 (0, 0))]) (fun b4 => ⟨by kernel_rfl, by kernel_rfl⟩) (fun b4 => ?_)
                refine TL.run 5 [] [(1, .int .i64 band), (2, .pointer (some ⟨b1, 0, none⟩)), (9, .func (.func 65) #[] #[.pointer (some ⟨b1, 0, none⟩)]), (10, .slice A_out out.length c_out), (11, .int .i64 (k_2 : Int)), (12, .pointer (some ⟨b3, 0, none⟩)), (13, .bool keep), (14, .int .i64 (k_3 : Int)), (15, .pointer (some ⟨b4, 0, none⟩)), (34, .slice A_l l.length c_l), (35, .int .i64 (l.length : Int)), (36, .int .i64 (k_2 : Int)), (41, .slice A_l l.length c_l), (42, .int .i64 (l.length : Int)), (43, .int .i64 (k_3 : Int)), (47, FilterTrack.v x_3)] rfl ⟨by kernel_rfl, by kernel_rfl⟩ ?_
                refine TL.write 0 (fun _ => [(1, .int .i64 band), (2, .pointer (some ⟨b1, 0, none⟩)), (9, .func (.func 65) #[] #[.pointer (some ⟨b1, 0, none⟩)]), (10, .slice A_out out.length c_out), (11, .int .i64 (k_2 : Int)), (12, .pointer (some ⟨b3, 0, none⟩)), (13, .bool keep), (14, .int .i64 (k_3 : Int)), (15, .pointer (some ⟨b4, 0, none⟩)), (34, .slice A_l l.length c_l), (35, .int .i64 (l.length : Int)), (36, .int .i64 (k_2 : Int)), (41, .slice A_l l.length c_l), (42, .int .i64 (l.length : Int)), (43, .int .i64 (k_3 : Int))]) (fun _ => [.inl (b4, .cells (FilterTrack.c x_3) 29 (0, 0)), .inl (b3, .cells (FilterTrack.c x_2) 29 (0, 0)), .inr (Own A_out c_out 29 20 (out.map FilterTrack.c)), .inl (b1, .cells #[.slice A_l l.length c_l] 30 (0, 0))]) (fun _ => ⟨by kernel_rfl, by kernel_rfl⟩) (fun _ => ?_)
                refine TL.next rfl ?_
                refine TC.seq ?_
                refine TC.region ?_
                refine TL.run 4 [] [(1, .int .i64 band), (2, .pointer (some ⟨b1, 0, none⟩)), (9, .func (.func 65) #[] #[.pointer (some ⟨b1, 0, none⟩)]), (10, .slice A_out out.length c_out), (11, .int .i64 (k_2 : Int)), (12, .pointer (some ⟨b3, 0, none⟩)), (13, .bool keep), (14, .int .i64 (k_3 : Int)), (15, .pointer (some ⟨b4, 0, none⟩)), (34, .slice A_l l.length c_l), (35, .int .i64 (l.length : Int)), (36, .int .i64 (k_2 : Int)), (41, .slice A_l l.length c_l), (42, .int .i64 (l.length : Int)), (43, .int .i64 (k_3 : Int)), (51, .bool ((k_3 : Int) != (k_2 : Int)))] rfl ⟨by kernel_rfl, by kernel_rfl⟩ ?_
                refine TL.split 51 ((k_3 : Int) != (k_2 : Int)) (by kernel_rfl) (fun h7 => ?_) (fun h7 => ?_)
                · refine TL.run 7 [1, 0] [(1, .int .i64 band), (2, .pointer (some ⟨b1, 0, none⟩)), (9, .func (.func 65) #[] #[.pointer (some ⟨b1, 0, none⟩)]), (10, .slice A_out out.length c_out), (11, .int .i64 (k_2 : Int)), (12, .pointer (some ⟨b3, 0, none⟩)), (13, .bool keep), (14, .int .i64 (k_3 : Int)), (15, .pointer (some ⟨b4, 0, none⟩)), (34, .slice A_l l.length c_l), (35, .int .i64 (l.length : Int)), (36, .int .i64 (k_2 : Int)), (41, .slice A_l l.length c_l), (42, .int .i64 (l.length : Int)), (43, .int .i64 (k_3 : Int)), (51, .bool true), (52, FilterTrack.v x_2), (53, FilterTrack.v x_3), (54, .int .i64 band)] rfl ⟨by kernel_rfl, by kernel_rfl⟩ ?_
                  refine TL.call (some 55) [(1, .int .i64 band), (2, .pointer (some ⟨b1, 0, none⟩)), (9, .func (.func 65) #[] #[.pointer (some ⟨b1, 0, none⟩)]), (10, .slice A_out out.length c_out), (11, .int .i64 (k_2 : Int)), (12, .pointer (some ⟨b3, 0, none⟩)), (13, .bool keep), (14, .int .i64 (k_3 : Int)), (15, .pointer (some ⟨b4, 0, none⟩)), (34, .slice A_l l.length c_l), (35, .int .i64 (l.length : Int)), (36, .int .i64 (k_2 : Int)), (41, .slice A_l l.length c_l), (42, .int .i64 (l.length : Int)), (43, .int .i64 (k_3 : Int)), (51, .bool true), (55, .bool ((fuse_same x_2 x_3 band)))] (fun w _ => fuse_same_w x_2 x_3 band w) (by kernel_rfl) (by kernel_rfl) ?_
                  generalize hr3 : fuse_same x_2 x_3 band = r3
                  refine TL.run 10 [] [(1, .int .i64 band), (2, .pointer (some ⟨b1, 0, none⟩)), (9, .func (.func 65) #[] #[.pointer (some ⟨b1, 0, none⟩)]), (10, .slice A_out out.length c_out), (11, .int .i64 (k_2 : Int)), (12, .pointer (some ⟨b3, 0, none⟩)), (13, .bool keep), (14, .int .i64 (k_3 : Int)), (15, .pointer (some ⟨b4, 0, none⟩)), (34, .slice A_l l.length c_l), (35, .int .i64 (l.length : Int)), (36, .int .i64 (k_2 : Int)), (41, .slice A_l l.length c_l), (42, .int .i64 (l.length : Int)), (43, .int .i64 (k_3 : Int)), (57, .bool r3)] rfl ⟨by kernel_rfl, by kernel_rfl⟩ ?_
                  refine TL.join 57 r3 18 [1, 0] [] (fun β => [(1, .int .i64 band), (2, .pointer (some ⟨b1, 0, none⟩)), (9, .func (.func 65) #[] #[.pointer (some ⟨b1, 0, none⟩)]), (10, .slice A_out out.length c_out), (11, .int .i64 (k_2 : Int)), (12, .pointer (some ⟨b3, 0, none⟩)), (13, .bool keep), (14, .int .i64 (k_3 : Int)), (34, .slice A_l l.length c_l), (35, .int .i64 (l.length : Int)), (36, .int .i64 (k_2 : Int)), (41, .slice A_l l.length c_l), (42, .int .i64 (l.length : Int)), (43, .int .i64 (k_3 : Int)), (65, .bool (β && (x_2.Track.Code == x_3.Track.Code)))]) (by kernel_rfl) rfl ⟨by kernel_rfl, by kernel_rfl⟩ ⟨by kernel_rfl, by kernel_rfl⟩ ?_
                  refine TL.run 19 [] [(1, .int .i64 band), (2, .pointer (some ⟨b1, 0, none⟩)), (9, .func (.func 65) #[] #[.pointer (some ⟨b1, 0, none⟩)]), (10, .slice A_out out.length c_out), (11, .int .i64 (k_2 : Int)), (12, .pointer (some ⟨b3, 0, none⟩)), (13, .bool keep), (14, .int .i64 (k_3 : Int)), (34, .slice A_l l.length c_l), (35, .int .i64 (l.length : Int)), (36, .int .i64 (k_2 : Int)), (41, .slice A_l l.length c_l), (42, .int .i64 (l.length : Int)), (43, .int .i64 (k_3 : Int)), (66, .bool (r3 && (x_2.Track.Code == x_3.Track.Code)))] rfl ⟨by kernel_rfl, by kernel_rfl⟩ ?_
                  refine TL.join 66 (r3 && (x_2.Track.Code == x_3.Track.Code)) 24 [1] [] (fun β => [(1, .int .i64 band), (2, .pointer (some ⟨b1, 0, none⟩)), (9, .func (.func 65) #[] #[.pointer (some ⟨b1, 0, none⟩)]), (10, .slice A_out out.length c_out), (11, .int .i64 (k_2 : Int)), (12, .pointer (some ⟨b3, 0, none⟩)), (13, .bool keep), (14, .int .i64 (k_3 : Int)), (34, .slice A_l l.length c_l), (35, .int .i64 (l.length : Int)), (36, .int .i64 (k_2 : Int)), (41, .slice A_l l.length c_l), (42, .int .i64 (l.length : Int)), (43, .int .i64 (k_3 : Int)), (71, .bool (β && (x_2.Track.Code != (-1))))]) (by kernel_rfl) rfl ⟨by kernel_rfl, by kernel_rfl⟩ ⟨by kernel_rfl, by kernel_rfl⟩ ?_
                  refine TL.run 25 [] [(1, .int .i64 band), (2, .pointer (some ⟨b1, 0, none⟩)), (9, .func (.func 65) #[] #[.pointer (some ⟨b1, 0, none⟩)]), (10, .slice A_out out.length c_out), (11, .int .i64 (k_2 : Int)), (12, .pointer (some ⟨b3, 0, none⟩)), (13, .bool keep), (14, .int .i64 (k_3 : Int)), (34, .slice A_l l.length c_l), (35, .int .i64 (l.length : Int)), (36, .int .i64 (k_2 : Int)), (41, .slice A_l l.length c_l), (42, .int .i64 (l.length : Int)), (43, .int .i64 (k_3 : Int)), (72, .bool ((r3 && (x_2.Track.Code == x_3.Track.Code)) && (x_2.Track.Code != (-1))))] rfl ⟨by kernel_rfl, by kernel_rfl⟩ ?_
                  refine TL.split 72 ((r3 && (x_2.Track.Code == x_3.Track.Code)) && (x_2.Track.Code != (-1))) (by kernel_rfl) (fun h8 => ?_) (fun h8 => ?_)
                  · refine TL.run 28 [] [(1, .int .i64 band), (2, .pointer (some ⟨b1, 0, none⟩)), (9, .func (.func 65) #[] #[.pointer (some ⟨b1, 0, none⟩)]), (10, .slice A_out out.length c_out), (11, .int .i64 (k_2 : Int)), (12, .pointer (some ⟨b3, 0, none⟩)), (13, .bool keep), (34, .slice A_l l.length c_l), (35, .int .i64 (l.length : Int)), (36, .int .i64 (k_2 : Int)), (41, .slice A_l l.length c_l), (42, .int .i64 (l.length : Int)), (43, .int .i64 (k_3 : Int)), (72, .bool true), (73, .func (.func 65) #[] #[.pointer (some ⟨b1, 0, none⟩)]), (74, .int .i64 (k_3 : Int)), (75, .int .i64 (k_2 : Int))] rfl ⟨by kernel_rfl, by kernel_rfl⟩ ?_
                    refine TL.call (some 76) [(1, .int .i64 band), (2, .pointer (some ⟨b1, 0, none⟩)), (9, .func (.func 65) #[] #[.pointer (some ⟨b1, 0, none⟩)]), (10, .slice A_out out.length c_out), (11, .int .i64 (k_2 : Int)), (12, .pointer (some ⟨b3, 0, none⟩)), (13, .bool keep), (34, .slice A_l l.length c_l), (35, .int .i64 (l.length : Int)), (36, .int .i64 (k_2 : Int)), (41, .slice A_l l.length c_l), (42, .int .i64 (l.length : Int)), (43, .int .i64 (k_3 : Int)), (72, .bool true), (76, .bool ((fuse_Tracks_1 (k_3 : Int) (k_2 : Int) l)))] (fun w hM => fuse_Tracks_1_w (k_3 : Int) (k_2 : Int) ⟨b1, 0, none⟩ A_l c_l l w (Rd.lit hM 3 _ rfl (by kernel_rfl) (by kernel_rfl) (by kernel_rfl)) ⟨(h_l.sat hM), hc_l⟩ (by have q0_ := (dec_f h1); have q1_ := (bne_t h7); have q2_ := (beq_t (and_t2 (and_t1 h8))); have q3_ := (bne_t (and_t2 h8)); first | omega | (simp only [w64_eq]; omega) | (simp <;> omega)) (by have q0_ := (dec_f h1); have q1_ := (bne_t h7); have q2_ := (beq_t (and_t2 (and_t1 h8))); have q3_ := (bne_t (and_t2 h8)); first | omega | (simp only [w64_eq]; omega) | (simp <;> omega))) (by kernel_rfl) (by kernel_rfl) ?_
                    generalize hr4 : fuse_Tracks_1 (k_3 : Int) (k_2 : Int) l = r4
                    refine TL.run 30 [] [(1, .int .i64 band), (2, .pointer (some ⟨b1, 0, none⟩)), (9, .func (.func 65) #[] #[.pointer (some ⟨b1, 0, none⟩)]), (10, .slice A_out out.length c_out), (11, .int .i64 (k_2 : Int)), (12, .pointer (some ⟨b3, 0, none⟩)), (13, .bool keep), (34, .slice A_l l.length c_l), (35, .int .i64 (l.length : Int)), (36, .int .i64 (k_2 : Int)), (41, .slice A_l l.length c_l), (42, .int .i64 (l.length : Int)), (43, .int .i64 (k_3 : Int)), (77, .bool r4)] rfl ⟨by kernel_rfl, by kernel_rfl⟩ ?_
                    refine TL.next rfl ?_
                    refine TC.cond r4 rfl (by kernel_rfl) (fun h9 => ?_) (fun h9 => ?_)
                    · refine TC.region ?_
                      refine TL.run 1 [] [(1, .int .i64 band), (2, .pointer (some ⟨b1, 0, none⟩)), (9, .func (.func 65) #[] #[.pointer (some ⟨b1, 0, none⟩)]), (10, .slice A_out out.length c_out), (11, .int .i64 (k_2 : Int)), (12, .pointer (some ⟨b3, 0, none⟩)), (13, .bool false), (34, .slice A_l l.length c_l), (35, .int .i64 (l.length : Int)), (36, .int .i64 (k_2 : Int)), (41, .slice A_l l.length c_l), (42, .int .i64 (l.length : Int)), (43, .int .i64 (k_3 : Int))] rfl ⟨by kernel_rfl, by kernel_rfl⟩ ?_
                      refine TL.done rfl ?_
                      refine TE.normal_block ?_
                      refine TE.next ?_
                      refine TC.region ?_
                      refine TL.run 2 [] [(1, .int .i64 band), (2, .pointer (some ⟨b1, 0, none⟩)), (9, .func (.func 65) #[] #[.pointer (some ⟨b1, 0, none⟩)]), (10, .slice A_out out.length c_out), (11, .int .i64 (k_2 : Int)), (12, .pointer (some ⟨b3, 0, none⟩)), (13, .bool false), (34, .slice A_l l.length c_l), (35, .int .i64 (l.length : Int)), (36, .int .i64 (k_2 : Int)), (41, .slice A_l l.length c_l), (42, .int .i64 (l.length : Int)), (43, .int .i64 (w64 ((k_3 : Int) + 1)))] rfl ⟨by kernel_rfl, by kernel_rfl⟩ ?_
                      refine TL.done rfl ?_
                      refine TE.rw 43 (.int .i64 (w64 ((k_3 : Int) + 1))) (.int .i64 ((k_3 + 1 : Nat) : Int)) (by kernel_rfl) (w64_cast k_3 (by omega)) ?_
                      exact TE.again (x := (k_3, keep)) (k_3 + 1, false) ⟨by omega, hI_3.trans (by subst hr2 hr3 hr4; rw [hd_3]; exact cond_t h7 (cond_t h8 (cond_t h9 (rfl))))⟩ (by show l.length - (k_3 + 1) < l.length - k_3; omega) (by kernel_rfl) (.cons _ (.cons_cons _ (.cons_cons _ (.cons_cons _ (.slnil)))))
                    · refine TC.skip ?_
                      refine TE.normal_block ?_
                      refine TE.next ?_
                      refine TC.region ?_
                      refine TL.run 2 [] [(1, .int .i64 band), (2, .pointer (some ⟨b1, 0, none⟩)), (9, .func (.func 65) #[] #[.pointer (some ⟨b1, 0, none⟩)]), (10, .slice A_out out.length c_out), (11, .int .i64 (k_2 : Int)), (12, .pointer (some ⟨b3, 0, none⟩)), (13, .bool keep), (34, .slice A_l l.length c_l), (35, .int .i64 (l.length : Int)), (36, .int .i64 (k_2 : Int)), (41, .slice A_l l.length c_l), (42, .int .i64 (l.length : Int)), (43, .int .i64 (w64 ((k_3 : Int) + 1)))] rfl ⟨by kernel_rfl, by kernel_rfl⟩ ?_
                      refine TL.done rfl ?_
                      refine TE.rw 43 (.int .i64 (w64 ((k_3 : Int) + 1))) (.int .i64 ((k_3 + 1 : Nat) : Int)) (by kernel_rfl) (w64_cast k_3 (by omega)) ?_
                      exact TE.again (x := (k_3, keep)) (k_3 + 1, keep) ⟨by omega, hI_3.trans (by subst hr2 hr3 hr4; rw [hd_3]; exact cond_t h7 (cond_t h8 (cond_f h9 (rfl))))⟩ (by show l.length - (k_3 + 1) < l.length - k_3; omega) (by kernel_rfl) (.cons _ (.cons_cons _ (.cons_cons _ (.cons_cons _ (.slnil)))))
                  · refine TL.run 30 [] [(1, .int .i64 band), (2, .pointer (some ⟨b1, 0, none⟩)), (9, .func (.func 65) #[] #[.pointer (some ⟨b1, 0, none⟩)]), (10, .slice A_out out.length c_out), (11, .int .i64 (k_2 : Int)), (12, .pointer (some ⟨b3, 0, none⟩)), (13, .bool keep), (34, .slice A_l l.length c_l), (35, .int .i64 (l.length : Int)), (36, .int .i64 (k_2 : Int)), (41, .slice A_l l.length c_l), (42, .int .i64 (l.length : Int)), (43, .int .i64 (k_3 : Int)), (77, .bool false)] rfl ⟨by kernel_rfl, by kernel_rfl⟩ ?_
                    refine TL.next rfl ?_
                    refine TC.condF rfl (by kernel_rfl) ?_
                    refine TC.skip ?_
                    refine TE.normal_block ?_
                    refine TE.next ?_
                    refine TC.region ?_
                    refine TL.run 2 [] [(1, .int .i64 band), (2, .pointer (some ⟨b1, 0, none⟩)), (9, .func (.func 65) #[] #[.pointer (some ⟨b1, 0, none⟩)]), (10, .slice A_out out.length c_out), (11, .int .i64 (k_2 : Int)), (12, .pointer (some ⟨b3, 0, none⟩)), (13, .bool keep), (34, .slice A_l l.length c_l), (35, .int .i64 (l.length : Int)), (36, .int .i64 (k_2 : Int)), (41, .slice A_l l.length c_l), (42, .int .i64 (l.length : Int)), (43, .int .i64 (w64 ((k_3 : Int) + 1)))] rfl ⟨by kernel_rfl, by kernel_rfl⟩ ?_
                    refine TL.done rfl ?_
                    refine TE.rw 43 (.int .i64 (w64 ((k_3 : Int) + 1))) (.int .i64 ((k_3 + 1 : Nat) : Int)) (by kernel_rfl) (w64_cast k_3 (by omega)) ?_
                    exact TE.again (x := (k_3, keep)) (k_3 + 1, keep) ⟨by omega, hI_3.trans (by subst hr2 hr3; rw [hd_3]; exact cond_t h7 (cond_f h8 (rfl)))⟩ (by show l.length - (k_3 + 1) < l.length - k_3; omega) (by kernel_rfl) (.cons _ (.cons_cons _ (.cons_cons _ (.cons_cons _ (.slnil)))))
                · refine TL.run 30 [] [(1, .int .i64 band), (2, .pointer (some ⟨b1, 0, none⟩)), (9, .func (.func 65) #[] #[.pointer (some ⟨b1, 0, none⟩)]), (10, .slice A_out out.length c_out), (11, .int .i64 (k_2 : Int)), (12, .pointer (some ⟨b3, 0, none⟩)), (13, .bool keep), (34, .slice A_l l.length c_l), (35, .int .i64 (l.length : Int)), (36, .int .i64 (k_2 : Int)), (41, .slice A_l l.length c_l), (42, .int .i64 (l.length : Int)), (43, .int .i64 (k_3 : Int)), (77, .bool false)] rfl ⟨by kernel_rfl, by kernel_rfl⟩ ?_
                  refine TL.next rfl ?_
                  refine TC.condF rfl (by kernel_rfl) ?_
                  refine TC.skip ?_
                  refine TE.normal_block ?_
                  refine TE.next ?_
                  refine TC.region ?_
                  refine TL.run 2 [] [(1, .int .i64 band), (2, .pointer (some ⟨b1, 0, none⟩)), (9, .func (.func 65) #[] #[.pointer (some ⟨b1, 0, none⟩)]), (10, .slice A_out out.length c_out), (11, .int .i64 (k_2 : Int)), (12, .pointer (some ⟨b3, 0, none⟩)), (13, .bool keep), (34, .slice A_l l.length c_l), (35, .int .i64 (l.length : Int)), (36, .int .i64 (k_2 : Int)), (41, .slice A_l l.length c_l), (42, .int .i64 (l.length : Int)), (43, .int .i64 (w64 ((k_3 : Int) + 1)))] rfl ⟨by kernel_rfl, by kernel_rfl⟩ ?_
                  refine TL.done rfl ?_
                  refine TE.rw 43 (.int .i64 (w64 ((k_3 : Int) + 1))) (.int .i64 ((k_3 + 1 : Nat) : Int)) (by kernel_rfl) (w64_cast k_3 (by omega)) ?_
                  exact TE.again (x := (k_3, keep)) (k_3 + 1, keep) ⟨by omega, hI_3.trans (by subst hr2; rw [hd_3]; exact cond_f h7 (rfl))⟩ (by show l.length - (k_3 + 1) < l.length - k_3; omega) (by kernel_rfl) (.cons _ (.cons_cons _ (.cons_cons _ (.cons_cons _ (.slnil)))))
              · have hd_3 : l.drop k_3 = [] := List.drop_eq_nil_of_le (by have := of_decide_eq_false h6; first | omega | (simp at this; omega))
                refine TC.exit ?_
                refine TE.exit_then (TE.exit_then (TE.exit_same ?_))
                exact TE.cut keep (hI_3.trans (by subst hr2; rw [hd_3]; exact rfl)) (by kernel_rfl) (.cons_cons _ (.cons_cons _ (.cons_cons _ (.slnil))))
            · rintro keep_2 hJ_3
              refine TE.next ?_
              refine TC.seq ?_
              refine TC.region ?_
              refine TL.run 1 [] [(1, .int .i64 band), (2, .pointer (some ⟨b1, 0, none⟩)), (9, .func (.func 65) #[] #[.pointer (some ⟨b1, 0, none⟩)]), (10, .slice A_out out.length c_out), (12, .pointer (some ⟨b3, 0, none⟩)), (34, .slice A_l l.length c_l), (35, .int .i64 (l.length : Int)), (36, .int .i64 (k_2 : Int)), (79, .bool keep_2)] rfl ⟨by kernel_rfl, by kernel_rfl⟩ ?_
              refine TL.next rfl ?_
              refine TC.cond keep_2 rfl (by kernel_rfl) (fun h10 => ?_) (fun h10 => ?_)
              · refine TC.region ?_
                refine TL.run 2 [0] [(1, .int .i64 band), (2, .pointer (some ⟨b1, 0, none⟩)), (9, .func (.func 65) #[] #[.pointer (some ⟨b1, 0, none⟩)]), (34, .slice A_l l.length c_l), (35, .int .i64 (l.length : Int)), (36, .int .i64 (k_2 : Int)), (80, .slice A_out out.length c_out), (81, FilterTrack.v x_2)] rfl ⟨by kernel_rfl, by kernel_rfl⟩ ?_
                refine TL.write 0 (fun b5 => [(1, .int .i64 band), (2, .pointer (some ⟨b1, 0, none⟩)), (9, .func (.func 65) #[] #[.pointer (some ⟨b1, 0, none⟩)]), (34, .slice A_l l.length c_l), (35, .int .i64 (l.length : Int)), (36, .int .i64 (k_2 : Int)), (80, .slice A_out out.length c_out), (82, .slice (some ⟨b5, 0, none⟩) 1 1)]) (fun b5 => [.inl (b5, .cells (FilterTrack.c x_2) 29 (0, 0)), .inl (b3, .cells (FilterTrack.c x_2) 29 (0, 0)), .inr (Own A_out c_out 29 20 (out.map FilterTrack.c)), .inl (b1, .cells #[.slice A_l l.length c_l] 30 (0, 0))]) (fun b5 => ⟨by kernel_rfl, by kernel_rfl⟩) (fun b5 => ?_)
                refine TL.opM (Γ := Option Addr × Nat) (sV (Builtin.append_ #[30, 30] 30 #[.slice A_out out.length c_out, .slice (some ⟨b5, 0, none⟩) 1 1])) (some 83) (fun g => .slice g.1 (out ++ ([x_2])).length g.2) (fun g => [.inl (b5, .cells (FilterTrack.c x_2) 29 (0, 0)), .inl (b3, .cells (FilterTrack.c x_2) 29 (0, 0)), .inr (Own g.1 g.2 29 20 ((out ++ ([x_2])).map FilterTrack.c)), .inl (b1, .cells #[.slice A_l l.length c_l] 30 (0, 0))]) (fun g => [(1, .int .i64 band), (2, .pointer (some ⟨b1, 0, none⟩)), (9, .func (.func 65) #[] #[.pointer (some ⟨b1, 0, none⟩)]), (34, .slice A_l l.length c_l), (35, .int .i64 (l.length : Int)), (36, .int .i64 (k_2 : Int)), (83, .slice g.1 ((out ++ ([x_2])).length) g.2)]) (app_at (bytes := 160) 30 2 ([x_2]) (by kernel_rfl) rfl rfl FilterTrack.one rfl (fun w hM => (Rd.lit hM 0 _ rfl (by kernel_rfl) (by kernel_rfl) (by kernel_rfl))) rfl (by have q0_ := (dec_f h1); first | omega | (simp <;> omega) | (simp at * <;> omega))) (by kernel_rfl) (fun g => by kernel_rfl) ?_
                rintro ⟨A, c⟩
                refine TL.run 5 [] [(1, .int .i64 band), (2, .pointer (some ⟨b1, 0, none⟩)), (9, .func (.func 65) #[] #[.pointer (some ⟨b1, 0, none⟩)]), (10, .slice A ((out ++ ([x_2])).length) c), (34, .slice A_l l.length c_l), (35, .int .i64 (l.length : Int)), (36, .int .i64 (k_2 : Int))] rfl ⟨by kernel_rfl, by kernel_rfl⟩ ?_
                refine TL.done rfl ?_
                refine TE.normal_block ?_
                refine TE.next ?_
                refine TC.region ?_
                refine TL.run 2 [] [(1, .int .i64 band), (2, .pointer (some ⟨b1, 0, none⟩)), (9, .func (.func 65) #[] #[.pointer (some ⟨b1, 0, none⟩)]), (10, .slice A ((out ++ ([x_2])).length) c), (34, .slice A_l l.length c_l), (35, .int .i64 (l.length : Int)), (36, .int .i64 (w64 ((k_2 : Int) + 1)))] rfl ⟨by kernel_rfl, by kernel_rfl⟩ ?_
                refine TL.done rfl ?_
                refine TE.rw 36 (.int .i64 (w64 ((k_2 : Int) + 1))) (.int .i64 ((k_2 + 1 : Nat) : Int)) (by kernel_rfl) (w64_cast k_2 (by omega)) ?_
                exact TE.again (x := (k_2, out, A_out, c_out)) (k_2 + 1, (out ++ ([x_2])), A, c) ⟨by omega, hI_2.trans (by subst hr2; rw [hd_2]; exact bindv_eq (hR_3.symm.trans hJ_3) (cond_t h10 (rfl))), (by have q0_ := (dec_f h1); first | omega | (simp <;> omega) | (simp at * <;> omega) | (simp only [w64_eq] at *; omega) | (simp only [List.length_append, List.length_cons, List.length_nil]; omega))⟩ (by show l.length - (k_2 + 1) < l.length - k_2; omega) (by kernel_rfl) (.cons _ (.cons _ (.cons_cons _ (.cons_cons _ (.slnil)))))
              · refine TC.skip ?_
                refine TE.normal_block ?_
                refine TE.next ?_
                refine TC.region ?_
                refine TL.run 2 [] [(1, .int .i64 band), (2, .pointer (some ⟨b1, 0, none⟩)), (9, .func (.func 65) #[] #[.pointer (some ⟨b1, 0, none⟩)]), (10, .slice A_out out.length c_out), (34, .slice A_l l.length c_l), (35, .int .i64 (l.length : Int)), (36, .int .i64 (w64 ((k_2 : Int) + 1)))] rfl ⟨by kernel_rfl, by kernel_rfl⟩ ?_
                refine TL.done rfl ?_
                refine TE.rw 36 (.int .i64 (w64 ((k_2 : Int) + 1))) (.int .i64 ((k_2 + 1 : Nat) : Int)) (by kernel_rfl) (w64_cast k_2 (by omega)) ?_
                exact TE.again (x := (k_2, out, A_out, c_out)) (k_2 + 1, out, A_out, c_out) ⟨by omega, hI_2.trans (by subst hr2; rw [hd_2]; exact bindv_eq (hR_3.symm.trans hJ_3) (cond_f h10 (rfl))), (by have q0_ := (dec_f h1); first | omega | (simp <;> omega) | (simp at * <;> omega) | (simp only [w64_eq] at *; omega) | (simp only [List.length_append, List.length_cons, List.length_nil]; omega))⟩ (by show l.length - (k_2 + 1) < l.length - k_2; omega) (by kernel_rfl) (.cons _ (.cons_cons _ (.cons_cons _ (.slnil))))
          · have hd_2 : l.drop k_2 = [] := List.drop_eq_nil_of_le (by have := of_decide_eq_false h5; first | omega | (simp at this; omega))
            refine TC.exit ?_
            refine TE.exit_then (TE.exit_then (TE.exit_same ?_))
            exact TE.cut (out, A_out, c_out) (⟨hI_2.trans (by subst hr2; rw [hd_2]; exact rfl), (by have q0_ := (dec_f h1); first | omega | (simp <;> omega) | (simp at * <;> omega) | (simp only [w64_eq] at *; omega) | (simp only [List.length_append, List.length_cons, List.length_nil]; omega))⟩) (by kernel_rfl) (.cons_cons _ (.cons _ (.slnil)))
        · rintro ⟨out_2, A_out_2, c_out_2⟩ ⟨hJ_2, hl_out_2⟩
          refine TE.next ?_
          refine TC.seq ?_
          refine TC.region ?_
          refine TL.run 3 [] [(4, .slice A_out_2 out_2.length c_out_2), (5, .int .i64 0)] rfl ⟨by kernel_rfl, by kernel_rfl⟩ ?_
          refine TL.next rfl ?_
          refine TC.ret ?_
          have e : fuse_Tracks l band = (out_2, 0) := by subst hr2; unfold fuse_Tracks; exact cond_f h1 (elim_l (hR.symm.trans hJ) (cond_f h4 (bindv_eq (hR_2.symm.trans hJ_2) (rfl))))
          rw [e]
          exact TE.retM (.inl rfl) (A_out_2, c_out_2) [] (.tuple #[.slice A_out_2 out_2.length c_out_2, .int .i64 0]) ⟨by kernel_rfl, by kernel_rfl⟩ rfl (fun _ hM => hM.sub (.cons_cons _ (.slnil)))

def fuse_Same_L1 (a : FilterTrack) (b_ : FilterTrack) : Nat → Nat → ((Unit) ⊕ (Bool × Int))
  | 0, _ => .inl ()
  | m + 1, k => let r1 := filter_Check (([a, b_] : List FilterTrack)[k]?.getD FilterTrack.zero)
    cond (r1 != 0) (
      .inr (false, r1)) (
      fuse_Same_L1 a b_ m (k + 1))
def fuse_Same (a : FilterTrack) (b_ : FilterTrack) (band : Int) : Bool × Int :=
  Sum.elim (fun _ =>
    let r2 := fuse_wrong band
    cond r2 (
      (false, 4)) (
      let r3 := fuse_same a b_ band
      (r3, 0))) (fun r => r) (fuse_Same_L1 a b_ ((2 : Int).toNat) 0)

set_option maxRecDepth 100000 in
theorem fuse_Same_w (a : FilterTrack) (b_ : FilterTrack) (band : Int) (w : World) : Calls Try.prog 26 #[FilterTrack.v a, FilterTrack.v b_, .int .i64 band] w (Ret w (.tuple #[.bool ((fuse_Same a b_ band).1), .int .i64 ((fuse_Same a b_ band).2)])) := by
  refine calls_intro (vs := [FilterTrack.v a, FilterTrack.v b_, .int .i64 band]) (w := w) Try.func26 rfl Try.ntmps26 rfl ?_
  refine TC.weak [(0, FilterTrack.v a), (1, FilterTrack.v b_), (2, .int .i64 band)] (by kernel_rfl) ?_
  refine TC.seq ?_
  refine TC.region ?_
  refine TL.write 0 (fun b1 => [(1, FilterTrack.v b_), (2, .int .i64 band), (3, .pointer (some ⟨b1, 0, none⟩))]) (fun b1 => [.inl (b1, .cells (FilterTrack.c a) 29 (0, 0))]) (fun b1 => ⟨by kernel_rfl, by kernel_rfl⟩) (fun b1 => ?_)
  refine TL.write 0 (fun b2 => [(2, .int .i64 band), (3, .pointer (some ⟨b1, 0, none⟩)), (4, .pointer (some ⟨b2, 0, none⟩))]) (fun b2 => [.inl (b2, .cells (FilterTrack.c b_) 29 (0, 0)), .inl (b1, .cells (FilterTrack.c a) 29 (0, 0))]) (fun b2 => ⟨by kernel_rfl, by kernel_rfl⟩) (fun b2 => ?_)
  refine TL.run 4 [] [(2, .int .i64 band), (3, .pointer (some ⟨b1, 0, none⟩)), (4, .pointer (some ⟨b2, 0, none⟩))] rfl ⟨by kernel_rfl, by kernel_rfl⟩ ?_
  refine TL.next rfl ?_
  refine TC.seq ?_
  refine TC.seq ?_
  refine TC.region ?_
  refine TL.run 2 [1, 0] [(2, .int .i64 band), (3, .pointer (some ⟨b1, 0, none⟩)), (4, .pointer (some ⟨b2, 0, none⟩)), (11, FilterTrack.v a), (12, FilterTrack.v b_)] rfl ⟨by kernel_rfl, by kernel_rfl⟩ ?_
  refine TL.write 0 (fun b3 => [(2, .int .i64 band), (3, .pointer (some ⟨b1, 0, none⟩)), (4, .pointer (some ⟨b2, 0, none⟩)), (13, .slice (some ⟨b3, 0, none⟩) 2 2)]) (fun b3 => [.inl (b3, .cells #[.int .i64 a.Track.ID, .int .i64 a.Track.State, .int .i64 a.Track.Time, .int .i64 a.Track.At.X, .int .i64 a.Track.At.Y, .int .i64 a.Track.Speed.X, .int .i64 a.Track.Speed.Y, .int .i64 a.Track.Height, .int .i64 a.Track.Rate, .int .i64 a.Track.Radius, .int .i64 a.Track.Code, .int .i64 a.Track.Hits, .int .i64 a.Track.Misses, .int .i64 a.Slack, .int .i64 a.Last.Time, .int .i64 a.Last.At.X, .int .i64 a.Last.At.Y, .int .i64 a.Last.Height, .int .i64 a.Last.Code, .int .i64 a.Last.Error, .int .i64 b_.Track.ID, .int .i64 b_.Track.State, .int .i64 b_.Track.Time, .int .i64 b_.Track.At.X, .int .i64 b_.Track.At.Y, .int .i64 b_.Track.Speed.X, .int .i64 b_.Track.Speed.Y, .int .i64 b_.Track.Height, .int .i64 b_.Track.Rate, .int .i64 b_.Track.Radius, .int .i64 b_.Track.Code, .int .i64 b_.Track.Hits, .int .i64 b_.Track.Misses, .int .i64 b_.Slack, .int .i64 b_.Last.Time, .int .i64 b_.Last.At.X, .int .i64 b_.Last.At.Y, .int .i64 b_.Last.Height, .int .i64 b_.Last.Code, .int .i64 b_.Last.Error] 29 (0, 0)), .inl (b2, .cells (FilterTrack.c b_) 29 (0, 0)), .inl (b1, .cells (FilterTrack.c a) 29 (0, 0))]) (fun b3 => ⟨by kernel_rfl, by kernel_rfl⟩) (fun b3 => ?_)
  refine TL.run 5 [] [(2, .int .i64 band), (3, .pointer (some ⟨b1, 0, none⟩)), (4, .pointer (some ⟨b2, 0, none⟩)), (13, .slice (some ⟨b3, 0, none⟩) 2 2), (14, .int .i64 2), (15, .int .i64 0)] rfl ⟨by kernel_rfl, by kernel_rfl⟩ ?_
  refine TL.next rfl ?_
  refine TC.conv [.inr (Own (some ⟨b3, 0, none⟩) 2 29 20 (([a, b_] : List FilterTrack).map FilterTrack.c)), .inl (b2, .cells (FilterTrack.c b_) 29 (0, 0)), .inl (b1, .cells (FilterTrack.c a) 29 (0, 0))] (fun _ hM => by exact hM.litrow 0 (([a, b_] : List FilterTrack).map FilterTrack.c) rfl (by kernel_rfl) (by kernel_rfl) (by kernel_rfl) (by kernel_rfl)) ?_
  refine TC.weak [(2, .int .i64 band), (3, .pointer (some ⟨b1, 0, none⟩)), (4, .pointer (some ⟨b2, 0, none⟩)), (13, .slice (some ⟨b3, 0, none⟩) (([a, b_] : List FilterTrack).length) 2), (14, .int .i64 2), (15, .int .i64 0)] (by kernel_rfl) ?_
  obtain ⟨R2, hR⟩ : ∃ R, R = fuse_Same_L1 a b_ ((2 : Int).toNat) 0 := ⟨_, rfl⟩
  refine TC.cut (S := Unit) (fun (_ : Unit) => [(2, .int .i64 band), (3, .pointer (some ⟨b1, 0, none⟩)), (4, .pointer (some ⟨b2, 0, none⟩))]) (fun (_ : Unit) => [.inl (b2, .cells (FilterTrack.c b_) 29 (0, 0)), .inl (b1, .cells (FilterTrack.c a) 29 (0, 0))]) (fun (_ : Unit) => R2 = .inl ()) ?_ ?_
  · refine TC.block ?_
    refine TC.loop (X := Nat) (fun k => [(2, .int .i64 band), (3, .pointer (some ⟨b1, 0, none⟩)), (4, .pointer (some ⟨b2, 0, none⟩)), (13, .slice (some ⟨b3, 0, none⟩) (([a, b_] : List FilterTrack).length) 2), (14, .int .i64 2), (15, .int .i64 (k : Int))]) (fun k => [.inr (Own (some ⟨b3, 0, none⟩) 2 29 20 (([a, b_] : List FilterTrack).map FilterTrack.c)), .inl (b2, .cells (FilterTrack.c b_) 29 (0, 0)), .inl (b1, .cells (FilterTrack.c a) 29 (0, 0))]) (fun k => (2 : Int).toNat - k) (fun k => k ≤ (2 : Int).toNat ∧ R2 = fuse_Same_L1 a b_ ((2 : Int).toNat - k) k) ?_ 0 ⟨Nat.zero_le _, hR⟩
    rintro k ⟨hk, hI⟩
    refine TC.seq ?_
    refine TC.region ?_
    refine TL.run 1 [] [(2, .int .i64 band), (3, .pointer (some ⟨b1, 0, none⟩)), (4, .pointer (some ⟨b2, 0, none⟩)), (13, .slice (some ⟨b3, 0, none⟩) (([a, b_] : List FilterTrack).length) 2), (14, .int .i64 2), (15, .int .i64 (k : Int)), (16, .bool (decide ((k : Int) < 2)))] rfl ⟨by kernel_rfl, by kernel_rfl⟩ ?_
    refine TL.next rfl ?_
    refine TC.seq ?_
    refine TC.cond (decide ((k : Int) < 2)) rfl (by kernel_rfl) (fun h1 => ?_) (fun h1 => ?_)
    · have hlt : k < (2 : Int).toNat := by have := of_decide_eq_true h1; first | omega | (simp at this; omega)
      have hd : (2 : Int).toNat - k = ((2 : Int).toNat - (k + 1)) + 1 := by omega
      refine TC.skip ?_
      refine TE.next ?_
      refine TC.seq ?_
      refine TC.block ?_
      refine TC.seq ?_
      refine TC.region ?_
      refine TL.val (sV (Instr.indexAt 30 (.slice (some ⟨b3, 0, none⟩) (([a, b_] : List FilterTrack).length) 2) (.int .i64 (k : Int)))) (some 17) (.pointer (some (((some ⟨b3, 0, none⟩).getD noAddr).add (k * 20)))) [(2, .int .i64 band), (3, .pointer (some ⟨b1, 0, none⟩)), (4, .pointer (some ⟨b2, 0, none⟩)), (13, .slice (some ⟨b3, 0, none⟩) (([a, b_] : List FilterTrack).length) 2), (14, .int .i64 2), (15, .int .i64 (k : Int)), (17, .pointer (some (((some ⟨b3, 0, none⟩).getD noAddr).add (k * 20))))] (fun w hM => run_index (hM.rd_at 0 rfl) (by simp) (by kernel_rfl) (by first | omega | (rw [List.length_set]; omega) | (rw [w64_id (by omega)]; omega) | (dsimp only; omega) | (rw [List.length_drop]; omega) | (simp only [w64_eq]; omega) | exact (tm_in (by (first | (rw [w64_id (by omega)]; omega) | (simp only [w64_eq]; omega))) (by omega)).1 | exact (tm_in (by (first | (rw [w64_id (by omega)]; omega) | (simp only [w64_eq]; omega))) (by omega)).2.1 | exact (tm_in (by (first | (rw [w64_id (by omega)]; omega) | (simp only [w64_eq]; omega))) (by omega)).2.2 | (simp only [List.length_take] at *; omega) | (simp <;> omega)) (by first | omega | (rw [List.length_set]; omega) | (rw [w64_id (by omega)]; omega) | (dsimp only; omega) | (rw [List.length_drop]; omega) | (simp only [w64_eq]; omega) | exact (tm_in (by (first | (rw [w64_id (by omega)]; omega) | (simp only [w64_eq]; omega))) (by omega)).1 | exact (tm_in (by (first | (rw [w64_id (by omega)]; omega) | (simp only [w64_eq]; omega))) (by omega)).2.1 | exact (tm_in (by (first | (rw [w64_id (by omega)]; omega) | (simp only [w64_eq]; omega))) (by omega)).2.2 | (simp only [List.length_take] at *; omega) | (simp <;> omega))) (by kernel_rfl) (by kernel_rfl) ?_
      refine TL.val (sV (Instr.loadAt 29 (.pointer (some (((some ⟨b3, 0, none⟩).getD noAddr).add (k * 20)))))) (some 18) (FilterTrack.v (([a, b_] : List FilterTrack)[k]?.getD FilterTrack.zero)) [(2, .int .i64 band), (3, .pointer (some ⟨b1, 0, none⟩)), (4, .pointer (some ⟨b2, 0, none⟩)), (13, .slice (some ⟨b3, 0, none⟩) (([a, b_] : List FilterTrack).length) 2), (14, .int .i64 2), (15, .int .i64 (k : Int)), (18, FilterTrack.v (([a, b_] : List FilterTrack)[k]?.getD FilterTrack.zero))] (fun w hM => run_load_agg (n := 20) (off := 0) (i := k) (FilterTrack.v (([a, b_] : List FilterTrack)[k]?.getD FilterTrack.zero)) (hM.rd_at 0 rfl) (map_at (getD_at _ _ FilterTrack.zero (by first | omega | (rw [List.length_set]; omega) | (rw [w64_id (by omega)]; omega) | (dsimp only; omega) | (rw [List.length_drop]; omega) | (simp only [w64_eq]; omega) | exact (tm_in (by (first | (rw [w64_id (by omega)]; omega) | (simp only [w64_eq]; omega))) (by omega)).1 | exact (tm_in (by (first | (rw [w64_id (by omega)]; omega) | (simp only [w64_eq]; omega))) (by omega)).2.1 | exact (tm_in (by (first | (rw [w64_id (by omega)]; omega) | (simp only [w64_eq]; omega))) (by omega)).2.2 | (simp only [List.length_take] at *; omega) | (simp <;> omega)))) (by kernel_rfl) (by kernel_rfl) (by kernel_rfl)) (by kernel_rfl) (by kernel_rfl) ?_
      refine TL.write 0 (fun b4 => [(2, .int .i64 band), (3, .pointer (some ⟨b1, 0, none⟩)), (4, .pointer (some ⟨b2, 0, none⟩)), (9, .pointer (some ⟨b4, 0, none⟩)), (13, .slice (some ⟨b3, 0, none⟩) (([a, b_] : List FilterTrack).length) 2), (14, .int .i64 2), (15, .int .i64 (k : Int)), (18, FilterTrack.v (([a, b_] : List FilterTrack)[k]?.getD FilterTrack.zero))]) (fun b4 => [.inl (b4, .cells (FilterTrack.c FilterTrack.zero) 29 (0, 0)), .inr (Own (some ⟨b3, 0, none⟩) 2 29 20 (([a, b_] : List FilterTrack).map FilterTrack.c)), .inl (b2, .cells (FilterTrack.c b_) 29 (0, 0)), .inl (b1, .cells (FilterTrack.c a) 29 (0, 0))]) (fun b4 => ⟨by kernel_rfl, by kernel_rfl⟩) (fun b4 => ?_)
      refine TL.write 0 (fun _ => [(2, .int .i64 band), (3, .pointer (some ⟨b1, 0, none⟩)), (4, .pointer (some ⟨b2, 0, none⟩)), (9, .pointer (some ⟨b4, 0, none⟩)), (13, .slice (some ⟨b3, 0, none⟩) (([a, b_] : List FilterTrack).length) 2), (14, .int .i64 2), (15, .int .i64 (k : Int))]) (fun _ => [.inl (b4, .cells (FilterTrack.c (([a, b_] : List FilterTrack)[k]?.getD FilterTrack.zero)) 29 (0, 0)), .inr (Own (some ⟨b3, 0, none⟩) 2 29 20 (([a, b_] : List FilterTrack).map FilterTrack.c)), .inl (b2, .cells (FilterTrack.c b_) 29 (0, 0)), .inl (b1, .cells (FilterTrack.c a) 29 (0, 0))]) (fun _ => ⟨by kernel_rfl, by kernel_rfl⟩) (fun _ => ?_)
      refine TL.next rfl ?_
      refine TC.seq ?_
      refine TC.region ?_
      refine TL.run 1 [0] [(2, .int .i64 band), (3, .pointer (some ⟨b1, 0, none⟩)), (4, .pointer (some ⟨b2, 0, none⟩)), (13, .slice (some ⟨b3, 0, none⟩) (([a, b_] : List FilterTrack).length) 2), (14, .int .i64 2), (15, .int .i64 (k : Int)), (19, FilterTrack.v (([a, b_] : List FilterTrack)[k]?.getD FilterTrack.zero))] rfl ⟨by kernel_rfl, by kernel_rfl⟩ ?_
      refine TL.call (some 20) [(2, .int .i64 band), (3, .pointer (some ⟨b1, 0, none⟩)), (4, .pointer (some ⟨b2, 0, none⟩)), (13, .slice (some ⟨b3, 0, none⟩) (([a, b_] : List FilterTrack).length) 2), (14, .int .i64 2), (15, .int .i64 (k : Int)), (20, .int .i64 (filter_Check (([a, b_] : List FilterTrack)[k]?.getD FilterTrack.zero)))] (fun w _ => filter_Check_w (([a, b_] : List FilterTrack)[k]?.getD FilterTrack.zero) w) (by kernel_rfl) (by kernel_rfl) ?_
      generalize hr1 : filter_Check (([a, b_] : List FilterTrack)[k]?.getD FilterTrack.zero) = r1
      refine TL.run 3 [] [(2, .int .i64 band), (3, .pointer (some ⟨b1, 0, none⟩)), (4, .pointer (some ⟨b2, 0, none⟩)), (10, .int .i64 r1), (13, .slice (some ⟨b3, 0, none⟩) (([a, b_] : List FilterTrack).length) 2), (14, .int .i64 2), (15, .int .i64 (k : Int))] rfl ⟨by kernel_rfl, by kernel_rfl⟩ ?_
      refine TL.next rfl ?_
      refine TC.seq ?_
      refine TC.region ?_
      refine TL.run 2 [] [(2, .int .i64 band), (3, .pointer (some ⟨b1, 0, none⟩)), (4, .pointer (some ⟨b2, 0, none⟩)), (10, .int .i64 r1), (13, .slice (some ⟨b3, 0, none⟩) (([a, b_] : List FilterTrack).length) 2), (14, .int .i64 2), (15, .int .i64 (k : Int)), (22, .bool (r1 != 0))] rfl ⟨by kernel_rfl, by kernel_rfl⟩ ?_
      refine TL.next rfl ?_
      refine TC.cond (r1 != 0) rfl (by kernel_rfl) (fun h2 => ?_) (fun h2 => ?_)
      · refine TC.seq ?_
        refine TC.region ?_
        refine TL.run 3 [] [(6, .bool false), (7, .int .i64 r1)] rfl ⟨by kernel_rfl, by kernel_rfl⟩ ?_
        refine TL.next rfl ?_
        refine TC.ret ?_
        refine TE.ret_block (TE.ret_then (TE.ret_then (TE.ret_block (TE.ret_then (TE.ret_then ?_)))))
        have e : fuse_Same a b_ band = (false, r1) := by subst hr1; unfold fuse_Same; exact elim_r (hR.symm.trans (hI.trans (by rw [hd]; exact cond_t h2 (rfl)))) rfl
        exact TE.ret [] (.tuple #[.bool false, .int .i64 r1]) ⟨by kernel_rfl, by kernel_rfl⟩ (by rw [e]; first | done | kernel_rfl)
      · refine TC.skip ?_
        refine TE.normal_block ?_
        refine TE.next ?_
        refine TC.region ?_
        refine TL.run 2 [] [(2, .int .i64 band), (3, .pointer (some ⟨b1, 0, none⟩)), (4, .pointer (some ⟨b2, 0, none⟩)), (13, .slice (some ⟨b3, 0, none⟩) (([a, b_] : List FilterTrack).length) 2), (14, .int .i64 2), (15, .int .i64 (w64 ((k : Int) + 1)))] rfl ⟨by kernel_rfl, by kernel_rfl⟩ ?_
        refine TL.done rfl ?_
        refine TE.rw 15 (.int .i64 (w64 ((k : Int) + 1))) (.int .i64 ((k + 1 : Nat) : Int)) (by kernel_rfl) (w64_cast k (by omega)) ?_
        exact TE.again (x := k) (k + 1) ⟨by omega, hI.trans (by subst hr1; rw [hd]; exact cond_f h2 (rfl))⟩ (by show (2 : Int).toNat - (k + 1) < (2 : Int).toNat - k; omega) (by kernel_rfl) (.cons _ (.cons_cons _ (.cons_cons _ (.cons_cons _ (.slnil)))))
    · have hd : (2 : Int).toNat - k = 0 := by have := of_decide_eq_false h1; first | omega | (simp at this; omega)
      refine TC.exit ?_
      refine TE.exit_then (TE.exit_then (TE.exit_same ?_))
      exact TE.cut () (hI.trans (by rw [hd]; exact rfl)) (by kernel_rfl) (.cons _ (.cons_cons _ (.cons_cons _ (.slnil))))
  · intro _ hJ
    refine TE.next ?_
    refine TC.seq ?_
    refine TC.seq ?_
    refine TC.region ?_
    refine TL.run 1 [] [(2, .int .i64 band), (3, .pointer (some ⟨b1, 0, none⟩)), (4, .pointer (some ⟨b2, 0, none⟩)), (25, .int .i64 band)] rfl ⟨by kernel_rfl, by kernel_rfl⟩ ?_
    refine TL.call (some 26) [(2, .int .i64 band), (3, .pointer (some ⟨b1, 0, none⟩)), (4, .pointer (some ⟨b2, 0, none⟩)), (26, .bool ((fuse_wrong band)))] (fun w _ => fuse_wrong_w band w) (by kernel_rfl) (by kernel_rfl) ?_
    generalize hr2 : fuse_wrong band = r2
    refine TL.next rfl ?_
    refine TC.cond r2 rfl (by kernel_rfl) (fun h3 => ?_) (fun h3 => ?_)
    · refine TC.seq ?_
      refine TC.region ?_
      refine TL.run 2 [] [(6, .bool false), (7, .int .i64 4)] rfl ⟨by kernel_rfl, by kernel_rfl⟩ ?_
      refine TL.next rfl ?_
      refine TC.ret ?_
      refine TE.ret_then ?_
      have e : fuse_Same a b_ band = (false, 4) := by subst hr2; unfold fuse_Same; exact elim_l (hR.symm.trans hJ) (cond_t h3 (rfl))
      exact TE.ret [] (.tuple #[.bool false, .int .i64 4]) ⟨by kernel_rfl, by kernel_rfl⟩ (by rw [e]; first | done | kernel_rfl)
    · refine TC.skip ?_
      refine TE.next ?_
      refine TC.seq ?_
      refine TC.region ?_
      refine TL.run 3 [1, 0] [(27, FilterTrack.v a), (28, FilterTrack.v b_), (29, .int .i64 band)] rfl ⟨by kernel_rfl, by kernel_rfl⟩ ?_
      refine TL.call (some 30) [(30, .bool ((fuse_same a b_ band)))] (fun w _ => fuse_same_w a b_ band w) (by kernel_rfl) (by kernel_rfl) ?_
      generalize hr3 : fuse_same a b_ band = r3
      refine TL.run 6 [] [(6, .bool r3), (7, .int .i64 0)] rfl ⟨by kernel_rfl, by kernel_rfl⟩ ?_
      refine TL.next rfl ?_
      refine TC.ret ?_
      have e : fuse_Same a b_ band = (r3, 0) := by subst hr2 hr3; unfold fuse_Same; exact elim_l (hR.symm.trans hJ) (cond_f h3 (rfl))
      exact TE.ret [] (.tuple #[.bool r3, .int .i64 0]) ⟨by kernel_rfl, by kernel_rfl⟩ (by rw [e]; first | done | kernel_rfl)

def skywaykeep2_FuseTracks_1 (a : FilterTrack) (b_ : FilterTrack) (x : Int) : Bool :=
  let r1 := fuse_Same a b_ x
  (((r1.2 == 0) && r1.1) && (decide (a.Track.Code ≥ 0))) && (a.Track.Code == b_.Track.Code)

set_option maxRecDepth 100000 in
theorem skywaykeep2_FuseTracks_1_w (a : FilterTrack) (b_ : FilterTrack) (a_x : Addr) (x : Int) (w : World) (h_x : Rd w 1 (some a_x) [ic x]) : Calls Try.prog 25 #[FilterTrack.v a, FilterTrack.v b_, .pointer (some a_x)] w (Ret w (.bool (skywaykeep2_FuseTracks_1 a b_ x))) := by
  refine calls_intro (vs := [FilterTrack.v a, FilterTrack.v b_, .pointer (some a_x)]) (w := w) Try.func25 rfl Try.ntmps25 rfl ?_
  refine TC.weak [(0, FilterTrack.v a), (1, FilterTrack.v b_), (2, .pointer (some a_x))] (by kernel_rfl) ?_
  refine TC.seq ?_
  refine TC.region ?_
  refine TL.write 0 (fun b1 => [(1, FilterTrack.v b_), (2, .pointer (some a_x)), (3, .pointer (some ⟨b1, 0, none⟩))]) (fun b1 => [.inl (b1, .cells (FilterTrack.c a) 29 (0, 0))]) (fun b1 => ⟨by kernel_rfl, by kernel_rfl⟩) (fun b1 => ?_)
  refine TL.write 0 (fun b2 => [(2, .pointer (some a_x)), (3, .pointer (some ⟨b1, 0, none⟩)), (4, .pointer (some ⟨b2, 0, none⟩))]) (fun b2 => [.inl (b2, .cells (FilterTrack.c b_) 29 (0, 0)), .inl (b1, .cells (FilterTrack.c a) 29 (0, 0))]) (fun b2 => ⟨by kernel_rfl, by kernel_rfl⟩) (fun b2 => ?_)
  refine TL.run 3 [] [(2, .pointer (some a_x)), (3, .pointer (some ⟨b1, 0, none⟩)), (4, .pointer (some ⟨b2, 0, none⟩))] rfl ⟨by kernel_rfl, by kernel_rfl⟩ ?_
  refine TL.next rfl ?_
  refine TC.seq ?_
  refine TC.region ?_
  refine TL.run 2 [1, 0] [(2, .pointer (some a_x)), (3, .pointer (some ⟨b1, 0, none⟩)), (4, .pointer (some ⟨b2, 0, none⟩)), (9, FilterTrack.v a), (10, FilterTrack.v b_)] rfl ⟨by kernel_rfl, by kernel_rfl⟩ ?_
  refine TL.val (sV (Instr.loadAt 3 (.pointer (some a_x)))) (some 11) (.int .i64 x) [(3, .pointer (some ⟨b1, 0, none⟩)), (4, .pointer (some ⟨b2, 0, none⟩)), (9, FilterTrack.v a), (10, FilterTrack.v b_), (11, .int .i64 x)] (fun w hM => run_load_one (off := 0) (.int .i64 x) (h_x.sat hM) (rows_one _) (by kernel_rfl) (by kernel_rfl)) (by kernel_rfl) (by kernel_rfl) ?_
  refine TL.call (some 12) [(3, .pointer (some ⟨b1, 0, none⟩)), (4, .pointer (some ⟨b2, 0, none⟩)), (12, .tuple #[.bool ((fuse_Same a b_ x).1), .int .i64 ((fuse_Same a b_ x).2)])] (fun w _ => fuse_Same_w a b_ x w) (by kernel_rfl) (by kernel_rfl) ?_
  generalize hr1 : fuse_Same a b_ x = r1
  refine TL.run 9 [] [(3, .pointer (some ⟨b1, 0, none⟩)), (4, .pointer (some ⟨b2, 0, none⟩)), (6, .bool r1.1), (7, .int .i64 r1.2)] rfl ⟨by kernel_rfl, by kernel_rfl⟩ ?_
  refine TL.next rfl ?_
  refine TC.seq ?_
  refine TC.region ?_
  refine TL.run 3 [] [(3, .pointer (some ⟨b1, 0, none⟩)), (4, .pointer (some ⟨b2, 0, none⟩)), (6, .bool r1.1), (17, .bool (r1.2 == 0))] rfl ⟨by kernel_rfl, by kernel_rfl⟩ ?_
  refine TL.join 17 (r1.2 == 0) 5 [] [] (fun β => [(3, .pointer (some ⟨b1, 0, none⟩)), (4, .pointer (some ⟨b2, 0, none⟩)), (19, .bool (β && r1.1))]) (by kernel_rfl) rfl ⟨by kernel_rfl, by kernel_rfl⟩ ⟨by kernel_rfl, by kernel_rfl⟩ ?_
  refine TL.run 6 [] [(3, .pointer (some ⟨b1, 0, none⟩)), (4, .pointer (some ⟨b2, 0, none⟩)), (20, .bool ((r1.2 == 0) && r1.1))] rfl ⟨by kernel_rfl, by kernel_rfl⟩ ?_
  refine TL.join 20 ((r1.2 == 0) && r1.1) 11 [1] [] (fun β => [(3, .pointer (some ⟨b1, 0, none⟩)), (4, .pointer (some ⟨b2, 0, none⟩)), (25, .bool (β && (decide (a.Track.Code ≥ 0))))]) (by kernel_rfl) rfl ⟨by kernel_rfl, by kernel_rfl⟩ ⟨by kernel_rfl, by kernel_rfl⟩ ?_
  refine TL.run 12 [] [(3, .pointer (some ⟨b1, 0, none⟩)), (4, .pointer (some ⟨b2, 0, none⟩)), (26, .bool (((r1.2 == 0) && r1.1) && (decide (a.Track.Code ≥ 0))))] rfl ⟨by kernel_rfl, by kernel_rfl⟩ ?_
  refine TL.join 26 (((r1.2 == 0) && r1.1) && (decide (a.Track.Code ≥ 0))) 20 [1, 0] [] (fun β => [(34, .bool (β && (a.Track.Code == b_.Track.Code)))]) (by kernel_rfl) rfl ⟨by kernel_rfl, by kernel_rfl⟩ ⟨by kernel_rfl, by kernel_rfl⟩ ?_
  refine TL.run 21 [] [(5, .bool ((((r1.2 == 0) && r1.1) && (decide (a.Track.Code ≥ 0))) && (a.Track.Code == b_.Track.Code)))] rfl ⟨by kernel_rfl, by kernel_rfl⟩ ?_
  refine TL.next rfl ?_
  refine TC.ret ?_
  have e : skywaykeep2_FuseTracks_1 a b_ x = ((((r1.2 == 0) && r1.1) && (decide (a.Track.Code ≥ 0))) && (a.Track.Code == b_.Track.Code)) := by subst hr1; unfold skywaykeep2_FuseTracks_1; exact rfl
  exact TE.ret [] (.bool ((((r1.2 == 0) && r1.1) && (decide (a.Track.Code ≥ 0))) && (a.Track.Code == b_.Track.Code))) ⟨by kernel_rfl, by kernel_rfl⟩ (by rw [e]; first | done | kernel_rfl)

def skywaykeep2_FuseTracks_2 (b_ : FilterTrack) (x0 : Int) (x_2 : FilterTrack) : Bool :=
  let r1 := skywaykeep2_FuseTracks_1 x_2 b_ x0
  r1

set_option maxRecDepth 100000 in
theorem skywaykeep2_FuseTracks_2_w (b_ : FilterTrack) (a_x : Addr) (a_x0 : Addr) (x0 : Int) (a_x_2 : Addr) (x_2 : FilterTrack) (w : World) (h_x : Rd w 1 (some a_x) [#[.func (.func 25) #[] #[.pointer (some a_x0)]]]) (h_x0 : Rd w 1 (some a_x0) [ic x0]) (h_x_2 : Rd w 20 (some a_x_2) [FilterTrack.c x_2]) : Calls Try.prog 28 #[FilterTrack.v b_, .pointer (some a_x), .pointer (some a_x_2)] w (Ret w (.bool (skywaykeep2_FuseTracks_2 b_ x0 x_2))) := by
  refine calls_intro (vs := [FilterTrack.v b_, .pointer (some a_x), .pointer (some a_x_2)]) (w := w) Try.func28 rfl Try.ntmps28 rfl ?_
  refine TC.weak [(0, FilterTrack.v b_), (1, .pointer (some a_x)), (2, .pointer (some a_x_2))] (by kernel_rfl) ?_
  refine TC.seq ?_
  refine TC.region ?_
  refine TL.write 0 (fun b1 => [(1, .pointer (some a_x)), (2, .pointer (some a_x_2)), (3, .pointer (some ⟨b1, 0, none⟩))]) (fun b1 => [.inl (b1, .cells (FilterTrack.c b_) 29 (0, 0))]) (fun b1 => ⟨by kernel_rfl, by kernel_rfl⟩) (fun b1 => ?_)
  refine TL.run 2 [] [(1, .pointer (some a_x)), (2, .pointer (some a_x_2)), (3, .pointer (some ⟨b1, 0, none⟩))] rfl ⟨by kernel_rfl, by kernel_rfl⟩ ?_
  refine TL.next rfl ?_
  refine TC.seq ?_
  refine TC.region ?_
  refine TL.val (sV (Instr.loadAt 56 (.pointer (some a_x)))) (some 5) (.func (.func 25) #[] #[.pointer (some a_x0)]) [(2, .pointer (some a_x_2)), (3, .pointer (some ⟨b1, 0, none⟩)), (5, .func (.func 25) #[] #[.pointer (some a_x0)])] (fun w hM => (by have h := run_load_one (P := Try.prog) (T := 56) (off := 0) (i := 0) (A := some a_x) (.func (.func 25) #[] #[.pointer (some a_x0)]) (h_x.sat hM) (rows_one _) (by kernel_rfl) (by kernel_rfl); exact h)) (by kernel_rfl) (by kernel_rfl) ?_
  refine TL.val (sV (Instr.loadAt 29 (.pointer (some a_x_2)))) (some 6) (FilterTrack.v x_2) [(3, .pointer (some ⟨b1, 0, none⟩)), (5, .func (.func 25) #[] #[.pointer (some a_x0)]), (6, FilterTrack.v x_2)] (fun w hM => run_load_agg (n := 20) (off := 0) (FilterTrack.v x_2) (h_x_2.sat hM) (rows_one _) (by kernel_rfl) (by kernel_rfl) (by kernel_rfl)) (by kernel_rfl) (by kernel_rfl) ?_
  refine TL.run 3 [0] [(5, .func (.func 25) #[] #[.pointer (some a_x0)]), (6, FilterTrack.v x_2), (7, FilterTrack.v b_)] rfl ⟨by kernel_rfl, by kernel_rfl⟩ ?_
  refine TL.call (some 8) [(8, .bool ((skywaykeep2_FuseTracks_1 x_2 b_ x0)))] (fun w hM => skywaykeep2_FuseTracks_1_w x_2 b_ a_x0 x0 w (h_x0.sat hM)) (by kernel_rfl) (by kernel_rfl) ?_
  generalize hr1 : skywaykeep2_FuseTracks_1 x_2 b_ x0 = r1
  refine TL.run 5 [] [(4, .bool r1)] rfl ⟨by kernel_rfl, by kernel_rfl⟩ ?_
  refine TL.next rfl ?_
  refine TC.ret ?_
  have e : skywaykeep2_FuseTracks_2 b_ x0 x_2 = r1 := by subst hr1; unfold skywaykeep2_FuseTracks_2; exact rfl
  exact TE.ret [] (.bool r1) ⟨by kernel_rfl, by kernel_rfl⟩ (by rw [e]; first | done | kernel_rfl)

def IndexFunc_two_L1 (c00 : Int) (c1 : FilterTrack) : List FilterTrack → Nat → ((Unit) ⊕ (Int))
  | [], _ => .inl ()
  | x :: xs, k => let r1 := skywaykeep2_FuseTracks_2 x c00 c1
    cond r1 (
      .inr (k : Int)) (
      IndexFunc_two_L1 c00 c1 xs (k + 1))
def IndexFunc_two (s : List FilterTrack) (c00 : Int) (c1 : FilterTrack) : Int :=
  Sum.elim (fun _ =>
    (-1)) (fun r => r) (IndexFunc_two_L1 c00 c1 s 0)

set_option maxRecDepth 100000 in
theorem IndexFunc_two_w (A_s : Option Addr) (c_s : Nat) (s : List FilterTrack) (a_c0 : Addr) (a_c00 : Addr) (c00 : Int) (a_c1 : Addr) (c1 : FilterTrack) (w : World) (h_s : Rd w 20 A_s (s.map FilterTrack.c)) (_hc_s : s.length ≤ c_s) (h_c0 : Rd w 1 (some a_c0) [#[.func (.func 25) #[] #[.pointer (some a_c00)]]]) (h_c00 : Rd w 1 (some a_c00) [ic c00]) (h_c1 : Rd w 20 (some a_c1) [FilterTrack.c c1]) : Calls Try.prog 69 #[.slice A_s s.length c_s, .func (.func 28) #[] #[.pointer (some a_c0), .pointer (some a_c1)]] w (Ret w (.int .i64 (IndexFunc_two s c00 c1))) := by
  have s_s := h_s.short; rw [List.length_map] at s_s
  refine calls_intro (vs := [.slice A_s s.length c_s, .func (.func 28) #[] #[.pointer (some a_c0), .pointer (some a_c1)]]) (w := w) Try.func69 rfl Try.ntmps69 rfl ?_
  refine TC.weak [(0, .slice A_s s.length c_s), (1, .func (.func 28) #[] #[.pointer (some a_c0), .pointer (some a_c1)])] (by kernel_rfl) ?_
  refine TC.seq ?_
  refine TC.region ?_
  refine TL.run 1 [] [(0, .slice A_s s.length c_s), (1, .func (.func 28) #[] #[.pointer (some a_c0), .pointer (some a_c1)])] rfl ⟨by kernel_rfl, by kernel_rfl⟩ ?_
  refine TL.next rfl ?_
  refine TC.seq ?_
  refine TC.seq ?_
  refine TC.region ?_
  refine TL.run 3 [] [(0, .slice A_s s.length c_s), (1, .func (.func 28) #[] #[.pointer (some a_c0), .pointer (some a_c1)]), (7, .int .i64 (s.length : Int)), (8, .int .i64 0)] rfl ⟨by kernel_rfl, by kernel_rfl⟩ ?_
  refine TL.next rfl ?_
  refine TC.weak [(0, .slice A_s s.length c_s), (1, .func (.func 28) #[] #[.pointer (some a_c0), .pointer (some a_c1)]), (7, .int .i64 (s.length : Int)), (8, .int .i64 0)] (by kernel_rfl) ?_
  obtain ⟨R1, hR⟩ : ∃ R, R = IndexFunc_two_L1 c00 c1 s 0 := ⟨_, rfl⟩
  refine TC.cut (S := Unit) (fun (_ : Unit) => []) (fun (_ : Unit) => []) (fun (_ : Unit) => R1 = .inl ()) ?_ ?_
  · refine TC.block ?_
    refine TC.loop (X := Nat) (fun k => [(0, .slice A_s s.length c_s), (1, .func (.func 28) #[] #[.pointer (some a_c0), .pointer (some a_c1)]), (7, .int .i64 (s.length : Int)), (8, .int .i64 (k : Int))]) (fun k => []) (fun k => s.length - k) (fun k => k ≤ s.length ∧ R1 = IndexFunc_two_L1 c00 c1 (s.drop k) k) ?_ 0 ⟨Nat.zero_le _, hR⟩
    rintro k ⟨hk, hI⟩
    refine TC.seq ?_
    refine TC.region ?_
    refine TL.run 1 [] [(0, .slice A_s s.length c_s), (1, .func (.func 28) #[] #[.pointer (some a_c0), .pointer (some a_c1)]), (7, .int .i64 (s.length : Int)), (8, .int .i64 (k : Int)), (9, .bool (decide ((k : Int) < (s.length : Int))))] rfl ⟨by kernel_rfl, by kernel_rfl⟩ ?_
    refine TL.next rfl ?_
    refine TC.seq ?_
    refine TC.cond (decide ((k : Int) < (s.length : Int))) rfl (by kernel_rfl) (fun h1 => ?_) (fun h1 => ?_)
    · have hlt : k < s.length := by have := of_decide_eq_true h1; first | omega | (simp at this; omega)
      obtain ⟨x, hx⟩ : ∃ e_, s[k]? = some e_ := ⟨_, List.getElem?_eq_getElem hlt⟩
      have hd := drop_at hx
      refine TC.skip ?_
      refine TE.next ?_
      refine TC.seq ?_
      refine TC.block ?_
      refine TC.seq ?_
      refine TC.region ?_
      refine TL.run 2 [] [(0, .slice A_s s.length c_s), (1, .func (.func 28) #[] #[.pointer (some a_c0), .pointer (some a_c1)]), (5, .int .i64 (k : Int)), (7, .int .i64 (s.length : Int)), (8, .int .i64 (k : Int))] rfl ⟨by kernel_rfl, by kernel_rfl⟩ ?_
      refine TL.next rfl ?_
      refine TC.seq ?_
      refine TC.region ?_
      refine TL.run 3 [] [(0, .slice A_s s.length c_s), (1, .func (.func 28) #[] #[.pointer (some a_c0), .pointer (some a_c1)]), (5, .int .i64 (k : Int)), (7, .int .i64 (s.length : Int)), (8, .int .i64 (k : Int)), (11, .func (.func 28) #[] #[.pointer (some a_c0), .pointer (some a_c1)]), (12, .slice A_s s.length c_s), (13, .int .i64 (k : Int))] rfl ⟨by kernel_rfl, by kernel_rfl⟩ ?_
      refine TL.val (sV (Instr.indexAt 30 (.slice A_s s.length c_s) (.int .i64 (k : Int)))) (some 14) (.pointer (some ((A_s.getD noAddr).add (k * 20)))) [(0, .slice A_s s.length c_s), (1, .func (.func 28) #[] #[.pointer (some a_c0), .pointer (some a_c1)]), (5, .int .i64 (k : Int)), (7, .int .i64 (s.length : Int)), (8, .int .i64 (k : Int)), (11, .func (.func 28) #[] #[.pointer (some a_c0), .pointer (some a_c1)]), (14, .pointer (some ((A_s.getD noAddr).add (k * 20))))] (fun w hM => run_index (h_s.sat hM) (by simp) (by kernel_rfl) (by first | omega | (rw [List.length_set]; omega) | (rw [w64_id (by omega)]; omega) | (dsimp only; omega) | (rw [List.length_drop]; omega) | (simp only [w64_eq]; omega) | exact (tm_in (by (first | (rw [w64_id (by omega)]; omega) | (simp only [w64_eq]; omega))) (by omega)).1 | exact (tm_in (by (first | (rw [w64_id (by omega)]; omega) | (simp only [w64_eq]; omega))) (by omega)).2.1 | exact (tm_in (by (first | (rw [w64_id (by omega)]; omega) | (simp only [w64_eq]; omega))) (by omega)).2.2 | (simp only [List.length_take] at *; omega) | (simp <;> omega)) (by first | omega | (rw [List.length_set]; omega) | (rw [w64_id (by omega)]; omega) | (dsimp only; omega) | (rw [List.length_drop]; omega) | (simp only [w64_eq]; omega) | exact (tm_in (by (first | (rw [w64_id (by omega)]; omega) | (simp only [w64_eq]; omega))) (by omega)).1 | exact (tm_in (by (first | (rw [w64_id (by omega)]; omega) | (simp only [w64_eq]; omega))) (by omega)).2.1 | exact (tm_in (by (first | (rw [w64_id (by omega)]; omega) | (simp only [w64_eq]; omega))) (by omega)).2.2 | (simp only [List.length_take] at *; omega) | (simp <;> omega))) (by kernel_rfl) (by kernel_rfl) ?_
      refine TL.val (sV (Instr.loadAt 29 (.pointer (some ((A_s.getD noAddr).add (k * 20)))))) (some 15) (FilterTrack.v x) [(0, .slice A_s s.length c_s), (1, .func (.func 28) #[] #[.pointer (some a_c0), .pointer (some a_c1)]), (5, .int .i64 (k : Int)), (7, .int .i64 (s.length : Int)), (8, .int .i64 (k : Int)), (11, .func (.func 28) #[] #[.pointer (some a_c0), .pointer (some a_c1)]), (15, FilterTrack.v x)] (fun w hM => run_load_agg (n := 20) (off := 0) (i := k) (FilterTrack.v x) (h_s.sat hM) (map_at hx) (by kernel_rfl) (by kernel_rfl) (by kernel_rfl)) (by kernel_rfl) (by kernel_rfl) ?_
      refine TL.call (some 16) [(0, .slice A_s s.length c_s), (1, .func (.func 28) #[] #[.pointer (some a_c0), .pointer (some a_c1)]), (5, .int .i64 (k : Int)), (7, .int .i64 (s.length : Int)), (8, .int .i64 (k : Int)), (16, .bool ((skywaykeep2_FuseTracks_2 x c00 c1)))] (fun w hM => skywaykeep2_FuseTracks_2_w x a_c0 a_c00 c00 a_c1 c1 w (h_c0.sat hM) (h_c00.sat hM) (h_c1.sat hM)) (by kernel_rfl) (by kernel_rfl) ?_
      generalize hr1 : skywaykeep2_FuseTracks_2 x c00 c1 = r1
      refine TL.next rfl ?_
      refine TC.cond r1 rfl (by kernel_rfl) (fun h2 => ?_) (fun h2 => ?_)
      · refine TC.seq ?_
        refine TC.region ?_
        refine TL.run 2 [] [(4, .int .i64 (k : Int))] rfl ⟨by kernel_rfl, by kernel_rfl⟩ ?_
        refine TL.next rfl ?_
        refine TC.ret ?_
        refine TE.ret_block (TE.ret_then (TE.ret_then (TE.ret_block (TE.ret_then (TE.ret_then ?_)))))
        have e : IndexFunc_two s c00 c1 = (k : Int) := by subst hr1; unfold IndexFunc_two; exact elim_r (hR.symm.trans (hI.trans (by rw [hd]; exact cond_t h2 (rfl)))) rfl
        exact TE.ret [] (.int .i64 (k : Int)) ⟨by kernel_rfl, by kernel_rfl⟩ (by rw [e]; first | done | kernel_rfl)
      · refine TC.skip ?_
        refine TE.normal_block ?_
        refine TE.next ?_
        refine TC.region ?_
        refine TL.run 2 [] [(0, .slice A_s s.length c_s), (1, .func (.func 28) #[] #[.pointer (some a_c0), .pointer (some a_c1)]), (7, .int .i64 (s.length : Int)), (8, .int .i64 (w64 ((k : Int) + 1)))] rfl ⟨by kernel_rfl, by kernel_rfl⟩ ?_
        refine TL.done rfl ?_
        refine TE.rw 8 (.int .i64 (w64 ((k : Int) + 1))) (.int .i64 ((k + 1 : Nat) : Int)) (by kernel_rfl) (w64_cast k (by omega)) ?_
        exact TE.again (x := k) (k + 1) ⟨by omega, hI.trans (by subst hr1; rw [hd]; exact cond_f h2 (rfl))⟩ (by show s.length - (k + 1) < s.length - k; omega) (by kernel_rfl) (.slnil)
    · have hd : s.drop k = [] := List.drop_eq_nil_of_le (by have := of_decide_eq_false h1; first | omega | (simp at this; omega))
      refine TC.exit ?_
      refine TE.exit_then (TE.exit_then (TE.exit_same ?_))
      exact TE.cut () (hI.trans (by rw [hd]; exact rfl)) (by kernel_rfl) (.slnil)
  · intro _ hJ
    refine TE.next ?_
    refine TC.seq ?_
    refine TC.region ?_
    refine TL.run 1 [] [(4, .int .i64 (-1))] rfl ⟨by kernel_rfl, by kernel_rfl⟩ ?_
    refine TL.next rfl ?_
    refine TC.ret ?_
    have e : IndexFunc_two s c00 c1 = (-1) := by unfold IndexFunc_two; exact elim_l (hR.symm.trans hJ) (rfl)
    exact TE.ret [] (.int .i64 (-1)) ⟨by kernel_rfl, by kernel_rfl⟩ (by rw [e]; first | done | kernel_rfl)

def ContainsFunc_two (s : List FilterTrack) (c00 : Int) (c1 : FilterTrack) : Bool :=
  let r1 := IndexFunc_two s c00 c1
  decide (r1 ≥ 0)

set_option maxRecDepth 100000 in
theorem ContainsFunc_two_w (A_s : Option Addr) (c_s : Nat) (s : List FilterTrack) (a_c0 : Addr) (a_c00 : Addr) (c00 : Int) (a_c1 : Addr) (c1 : FilterTrack) (w : World) (h_s : Rd w 20 A_s (s.map FilterTrack.c)) (hc_s : s.length ≤ c_s) (h_c0 : Rd w 1 (some a_c0) [#[.func (.func 25) #[] #[.pointer (some a_c00)]]]) (h_c00 : Rd w 1 (some a_c00) [ic c00]) (h_c1 : Rd w 20 (some a_c1) [FilterTrack.c c1]) : Calls Try.prog 27 #[.slice A_s s.length c_s, .func (.func 28) #[] #[.pointer (some a_c0), .pointer (some a_c1)]] w (Ret w (.bool (ContainsFunc_two s c00 c1))) := by
  have s_s := h_s.short; rw [List.length_map] at s_s
  refine calls_intro (vs := [.slice A_s s.length c_s, .func (.func 28) #[] #[.pointer (some a_c0), .pointer (some a_c1)]]) (w := w) Try.func27 rfl Try.ntmps27 rfl ?_
  refine TC.weak [(0, .slice A_s s.length c_s), (1, .func (.func 28) #[] #[.pointer (some a_c0), .pointer (some a_c1)])] (by kernel_rfl) ?_
  refine TC.seq ?_
  refine TC.region ?_
  refine TL.run 1 [] [(0, .slice A_s s.length c_s), (1, .func (.func 28) #[] #[.pointer (some a_c0), .pointer (some a_c1)])] rfl ⟨by kernel_rfl, by kernel_rfl⟩ ?_
  refine TL.next rfl ?_
  refine TC.seq ?_
  refine TC.region ?_
  refine TL.run 2 [] [(5, .slice A_s s.length c_s), (6, .func (.func 28) #[] #[.pointer (some a_c0), .pointer (some a_c1)])] rfl ⟨by kernel_rfl, by kernel_rfl⟩ ?_
  refine TL.call (some 7) [(7, .int .i64 (IndexFunc_two s c00 c1))] (fun w hM => IndexFunc_two_w A_s c_s s a_c0 a_c00 c00 a_c1 c1 w (h_s.sat hM) hc_s (h_c0.sat hM) (h_c00.sat hM) (h_c1.sat hM)) (by kernel_rfl) (by kernel_rfl) ?_
  generalize hr1 : IndexFunc_two s c00 c1 = r1
  refine TL.run 5 [] [(4, .bool (decide (r1 ≥ 0)))] rfl ⟨by kernel_rfl, by kernel_rfl⟩ ?_
  refine TL.next rfl ?_
  refine TC.ret ?_
  have e : ContainsFunc_two s c00 c1 = (decide (r1 ≥ 0)) := by subst hr1; unfold ContainsFunc_two; exact rfl
  exact TE.ret [] (.bool (decide (r1 ≥ 0))) ⟨by kernel_rfl, by kernel_rfl⟩ (by rw [e]; first | done | kernel_rfl)

def slices_Index_api_FilterTrack_api_FilterTrack_L1 (v : FilterTrack) : List FilterTrack → Nat → ((Unit) ⊕ (Int))
  | [], _ => .inl ()
  | x :: xs, k => cond (FilterTrack.eqb v x) (
      .inr (k : Int)) (
      slices_Index_api_FilterTrack_api_FilterTrack_L1 v xs (k + 1))
def slices_Index_api_FilterTrack_api_FilterTrack (s : List FilterTrack) (v : FilterTrack) : Int :=
  Sum.elim (fun _ =>
    (-1)) (fun r => r) (slices_Index_api_FilterTrack_api_FilterTrack_L1 v s 0)

set_option maxRecDepth 100000 in
theorem slices_Index_api_FilterTrack_api_FilterTrack_w (A_s : Option Addr) (c_s : Nat) (s : List FilterTrack) (v : FilterTrack) (w : World) (h_s : Rd w 20 A_s (s.map FilterTrack.c)) (_hc_s : s.length ≤ c_s) : Calls Try.prog 70 #[.slice A_s s.length c_s, FilterTrack.v v] w (Ret w (.int .i64 (slices_Index_api_FilterTrack_api_FilterTrack s v))) := by
  have s_s := h_s.short; rw [List.length_map] at s_s
  refine calls_intro (vs := [.slice A_s s.length c_s, FilterTrack.v v]) (w := w) Try.func70 rfl Try.ntmps70 rfl ?_
  refine TC.weak [(0, .slice A_s s.length c_s), (1, FilterTrack.v v)] (by kernel_rfl) ?_
  refine TC.seq ?_
  refine TC.region ?_
  refine TL.write 0 (fun b1 => [(0, .slice A_s s.length c_s), (3, .pointer (some ⟨b1, 0, none⟩))]) (fun b1 => [.inl (b1, .cells (FilterTrack.c v) 29 (0, 0))]) (fun b1 => ⟨by kernel_rfl, by kernel_rfl⟩) (fun b1 => ?_)
  refine TL.run 2 [] [(0, .slice A_s s.length c_s), (3, .pointer (some ⟨b1, 0, none⟩))] rfl ⟨by kernel_rfl, by kernel_rfl⟩ ?_
  refine TL.next rfl ?_
  refine TC.seq ?_
  refine TC.seq ?_
  refine TC.region ?_
  refine TL.run 3 [] [(0, .slice A_s s.length c_s), (3, .pointer (some ⟨b1, 0, none⟩)), (7, .int .i64 (s.length : Int)), (8, .int .i64 0)] rfl ⟨by kernel_rfl, by kernel_rfl⟩ ?_
  refine TL.next rfl ?_
  refine TC.weak [(0, .slice A_s s.length c_s), (3, .pointer (some ⟨b1, 0, none⟩)), (7, .int .i64 (s.length : Int)), (8, .int .i64 0)] (by kernel_rfl) ?_
  obtain ⟨R1, hR⟩ : ∃ R, R = slices_Index_api_FilterTrack_api_FilterTrack_L1 v s 0 := ⟨_, rfl⟩
  refine TC.cut (S := Unit) (fun (_ : Unit) => []) (fun (_ : Unit) => []) (fun (_ : Unit) => R1 = .inl ()) ?_ ?_
  · refine TC.block ?_
    refine TC.loop (X := Nat) (fun k => [(0, .slice A_s s.length c_s), (3, .pointer (some ⟨b1, 0, none⟩)), (7, .int .i64 (s.length : Int)), (8, .int .i64 (k : Int))]) (fun k => [.inl (b1, .cells (FilterTrack.c v) 29 (0, 0))]) (fun k => s.length - k) (fun k => k ≤ s.length ∧ R1 = slices_Index_api_FilterTrack_api_FilterTrack_L1 v (s.drop k) k) ?_ 0 ⟨Nat.zero_le _, hR⟩
    rintro k ⟨hk, hI⟩
    refine TC.seq ?_
    refine TC.region ?_
    refine TL.run 1 [] [(0, .slice A_s s.length c_s), (3, .pointer (some ⟨b1, 0, none⟩)), (7, .int .i64 (s.length : Int)), (8, .int .i64 (k : Int)), (9, .bool (decide ((k : Int) < (s.length : Int))))] rfl ⟨by kernel_rfl, by kernel_rfl⟩ ?_
    refine TL.next rfl ?_
    refine TC.seq ?_
    refine TC.cond (decide ((k : Int) < (s.length : Int))) rfl (by kernel_rfl) (fun h1 => ?_) (fun h1 => ?_)
    · have hlt : k < s.length := by have := of_decide_eq_true h1; first | omega | (simp at this; omega)
      obtain ⟨x, hx⟩ : ∃ e_, s[k]? = some e_ := ⟨_, List.getElem?_eq_getElem hlt⟩
      have hd := drop_at hx
      refine TC.skip ?_
      refine TE.next ?_
      refine TC.seq ?_
      refine TC.block ?_
      refine TC.seq ?_
      refine TC.region ?_
      refine TL.run 2 [] [(0, .slice A_s s.length c_s), (3, .pointer (some ⟨b1, 0, none⟩)), (5, .int .i64 (k : Int)), (7, .int .i64 (s.length : Int)), (8, .int .i64 (k : Int))] rfl ⟨by kernel_rfl, by kernel_rfl⟩ ?_
      refine TL.next rfl ?_
      refine TC.seq ?_
      refine TC.draw 6 (by kernel_rfl) (by kernel_rfl) (by kernel_rfl) ?_
      refine TQ.run 3 [0] [(0, .slice A_s s.length c_s), (3, .pointer (some ⟨b1, 0, none⟩)), (5, .int .i64 (k : Int)), (7, .int .i64 (s.length : Int)), (8, .int .i64 (k : Int)), (11, FilterTrack.v v), (12, .slice A_s s.length c_s), (13, .int .i64 (k : Int))] rfl ⟨by kernel_rfl, by kernel_rfl⟩ ?_
      refine TQ.val (sV (Instr.indexAt 30 (.slice A_s s.length c_s) (.int .i64 (k : Int)))) (some 14) (.pointer (some ((A_s.getD noAddr).add (k * 20)))) [(0, .slice A_s s.length c_s), (3, .pointer (some ⟨b1, 0, none⟩)), (5, .int .i64 (k : Int)), (7, .int .i64 (s.length : Int)), (8, .int .i64 (k : Int)), (11, FilterTrack.v v), (14, .pointer (some ((A_s.getD noAddr).add (k * 20))))] (fun w hM => run_index (h_s.sat hM) (by simp) (by kernel_rfl) (by first | omega | (rw [List.length_set]; omega) | (rw [w64_id (by omega)]; omega) | (dsimp only; omega) | (rw [List.length_drop]; omega) | (simp only [w64_eq]; omega) | exact (tm_in (by (first | (rw [w64_id (by omega)]; omega) | (simp only [w64_eq]; omega))) (by omega)).1 | exact (tm_in (by (first | (rw [w64_id (by omega)]; omega) | (simp only [w64_eq]; omega))) (by omega)).2.1 | exact (tm_in (by (first | (rw [w64_id (by omega)]; omega) | (simp only [w64_eq]; omega))) (by omega)).2.2 | (simp only [List.length_take] at *; omega) | (simp <;> omega)) (by first | omega | (rw [List.length_set]; omega) | (rw [w64_id (by omega)]; omega) | (dsimp only; omega) | (rw [List.length_drop]; omega) | (simp only [w64_eq]; omega) | exact (tm_in (by (first | (rw [w64_id (by omega)]; omega) | (simp only [w64_eq]; omega))) (by omega)).1 | exact (tm_in (by (first | (rw [w64_id (by omega)]; omega) | (simp only [w64_eq]; omega))) (by omega)).2.1 | exact (tm_in (by (first | (rw [w64_id (by omega)]; omega) | (simp only [w64_eq]; omega))) (by omega)).2.2 | (simp only [List.length_take] at *; omega) | (simp <;> omega))) rfl (by kernel_rfl) (by kernel_rfl) ?_
      refine TQ.val (sV (Instr.loadAt 29 (.pointer (some ((A_s.getD noAddr).add (k * 20)))))) (some 15) (FilterTrack.v x) [(0, .slice A_s s.length c_s), (3, .pointer (some ⟨b1, 0, none⟩)), (5, .int .i64 (k : Int)), (7, .int .i64 (s.length : Int)), (8, .int .i64 (k : Int)), (11, FilterTrack.v v), (15, FilterTrack.v x)] (fun w hM => run_load_agg (n := 20) (off := 0) (i := k) (FilterTrack.v x) (h_s.sat hM) (map_at hx) (by kernel_rfl) (by kernel_rfl) (by kernel_rfl)) rfl (by kernel_rfl) (by kernel_rfl) ?_
      refine TQ.val (sV (do eqGuard .eql 29 (.tmp 11) (.tmp 15) (FilterTrack.v v) (FilterTrack.v x); binOp .eql 29 (FilterTrack.v v) (FilterTrack.v x))) (some 16) (.bool (FilterTrack.eqb v x)) [(0, .slice A_s s.length c_s), (3, .pointer (some ⟨b1, 0, none⟩)), (5, .int .i64 (k : Int)), (7, .int .i64 (s.length : Int)), (8, .int .i64 (k : Int)), (16, .bool (FilterTrack.eqb v x))] (fun w hM => run_eql (b := FilterTrack.eqb v x) (by kernel_rfl) (by kernel_rfl) w) rfl (by kernel_rfl) (by kernel_rfl) ?_
      refine TQ.next rfl ?_
      refine TC.cond (FilterTrack.eqb v x) rfl (by kernel_rfl) (fun h2 => ?_) (fun h2 => ?_)
      · refine TC.seq ?_
        refine TC.region ?_
        refine TL.run 2 [] [(4, .int .i64 (k : Int))] rfl ⟨by kernel_rfl, by kernel_rfl⟩ ?_
        refine TL.next rfl ?_
        refine TC.ret ?_
        refine TE.ret_block (TE.ret_then (TE.ret_then (TE.ret_block (TE.ret_then (TE.ret_then ?_)))))
        have e : slices_Index_api_FilterTrack_api_FilterTrack s v = (k : Int) := by unfold slices_Index_api_FilterTrack_api_FilterTrack; exact elim_r (hR.symm.trans (hI.trans (by rw [hd]; exact cond_t h2 (rfl)))) rfl
        exact TE.ret [] (.int .i64 (k : Int)) ⟨by kernel_rfl, by kernel_rfl⟩ (by rw [e]; first | done | kernel_rfl)
      · refine TC.skip ?_
        refine TE.normal_block ?_
        refine TE.next ?_
        refine TC.region ?_
        refine TL.run 2 [] [(0, .slice A_s s.length c_s), (3, .pointer (some ⟨b1, 0, none⟩)), (7, .int .i64 (s.length : Int)), (8, .int .i64 (w64 ((k : Int) + 1)))] rfl ⟨by kernel_rfl, by kernel_rfl⟩ ?_
        refine TL.done rfl ?_
        refine TE.rw 8 (.int .i64 (w64 ((k : Int) + 1))) (.int .i64 ((k + 1 : Nat) : Int)) (by kernel_rfl) (w64_cast k (by omega)) ?_
        exact TE.again (x := k) (k + 1) ⟨by omega, hI.trans (by rw [hd]; exact cond_f h2 (rfl))⟩ (by show s.length - (k + 1) < s.length - k; omega) (by kernel_rfl) (.cons_cons _ (.slnil))
    · have hd : s.drop k = [] := List.drop_eq_nil_of_le (by have := of_decide_eq_false h1; first | omega | (simp at this; omega))
      refine TC.exit ?_
      refine TE.exit_then (TE.exit_then (TE.exit_same ?_))
      exact TE.cut () (hI.trans (by rw [hd]; exact rfl)) (by kernel_rfl) (.cons _ (.slnil))
  · intro _ hJ
    refine TE.next ?_
    refine TC.seq ?_
    refine TC.region ?_
    refine TL.run 1 [] [(4, .int .i64 (-1))] rfl ⟨by kernel_rfl, by kernel_rfl⟩ ?_
    refine TL.next rfl ?_
    refine TC.ret ?_
    have e : slices_Index_api_FilterTrack_api_FilterTrack s v = (-1) := by unfold slices_Index_api_FilterTrack_api_FilterTrack; exact elim_l (hR.symm.trans hJ) (rfl)
    exact TE.ret [] (.int .i64 (-1)) ⟨by kernel_rfl, by kernel_rfl⟩ (by rw [e]; first | done | kernel_rfl)

def slices_Contains_api_FilterTrack_api_FilterTrack (s : List FilterTrack) (v : FilterTrack) : Bool :=
  let r1 := slices_Index_api_FilterTrack_api_FilterTrack s v
  decide (r1 ≥ 0)

set_option maxRecDepth 100000 in
theorem slices_Contains_api_FilterTrack_api_FilterTrack_w (A_s : Option Addr) (c_s : Nat) (s : List FilterTrack) (v : FilterTrack) (w : World) (h_s : Rd w 20 A_s (s.map FilterTrack.c)) (hc_s : s.length ≤ c_s) : Calls Try.prog 29 #[.slice A_s s.length c_s, FilterTrack.v v] w (Ret w (.bool (slices_Contains_api_FilterTrack_api_FilterTrack s v))) := by
  have s_s := h_s.short; rw [List.length_map] at s_s
  refine calls_intro (vs := [.slice A_s s.length c_s, FilterTrack.v v]) (w := w) Try.func29 rfl Try.ntmps29 rfl ?_
  refine TC.weak [(0, .slice A_s s.length c_s), (1, FilterTrack.v v)] (by kernel_rfl) ?_
  refine TC.seq ?_
  refine TC.region ?_
  refine TL.write 0 (fun b1 => [(0, .slice A_s s.length c_s), (3, .pointer (some ⟨b1, 0, none⟩))]) (fun b1 => [.inl (b1, .cells (FilterTrack.c v) 29 (0, 0))]) (fun b1 => ⟨by kernel_rfl, by kernel_rfl⟩) (fun b1 => ?_)
  refine TL.run 2 [] [(0, .slice A_s s.length c_s), (3, .pointer (some ⟨b1, 0, none⟩))] rfl ⟨by kernel_rfl, by kernel_rfl⟩ ?_
  refine TL.next rfl ?_
  refine TC.seq ?_
  refine TC.region ?_
  refine TL.run 2 [0] [(5, .slice A_s s.length c_s), (6, FilterTrack.v v)] rfl ⟨by kernel_rfl, by kernel_rfl⟩ ?_
  refine TL.call (some 7) [(7, .int .i64 (slices_Index_api_FilterTrack_api_FilterTrack s v))] (fun w hM => slices_Index_api_FilterTrack_api_FilterTrack_w A_s c_s s v w (h_s.sat hM) hc_s) (by kernel_rfl) (by kernel_rfl) ?_
  generalize hr1 : slices_Index_api_FilterTrack_api_FilterTrack s v = r1
  refine TL.run 5 [] [(4, .bool (decide (r1 ≥ 0)))] rfl ⟨by kernel_rfl, by kernel_rfl⟩ ?_
  refine TL.next rfl ?_
  refine TC.ret ?_
  have e : slices_Contains_api_FilterTrack_api_FilterTrack s v = (decide (r1 ≥ 0)) := by subst hr1; unfold slices_Contains_api_FilterTrack_api_FilterTrack; exact rfl
  exact TE.ret [] (.bool (decide (r1 ≥ 0))) ⟨by kernel_rfl, by kernel_rfl⟩ (by rw [e]; first | done | kernel_rfl)

def slices_Grow_api_FilterTrack_api_FilterTrack (n : Int) : List FilterTrack :=
  cond (decide (n < 0)) (
    []) (
    cond (decide ((w64 (n - (w64 (0 - 0)))) > 0)) (
      ([] : List FilterTrack)) (
      []))

set_option maxRecDepth 100000 in
theorem slices_Grow_api_FilterTrack_api_FilterTrack_w (n : Int) (w : World) (hn : 0 ≤ n ∧ n ≤ 1000000) : Calls Try.prog 71 #[.slice none 0 0, .int .i64 n] w (RetM (Γ := (Option Addr × Nat)) (cx w) (fun g => .slice g.1 ((slices_Grow_api_FilterTrack_api_FilterTrack n).length) g.2) (fun g => [.inr (Own g.1 g.2 29 20 ((slices_Grow_api_FilterTrack_api_FilterTrack n).map FilterTrack.c))])) := by
  refine calls_intro (vs := [.slice none 0 0, .int .i64 n]) (w := w) Try.func71 rfl Try.ntmps71 rfl ?_
  refine TC.weak [(0, .slice none 0 0), (1, .int .i64 n)] (by kernel_rfl) ?_
  refine TC.seq ?_
  refine TC.region ?_
  refine TL.run 1 [] [(0, .slice none 0 0), (1, .int .i64 n)] rfl ⟨by kernel_rfl, by kernel_rfl⟩ ?_
  refine TL.next rfl ?_
  refine TC.seq ?_
  refine TC.seq ?_
  refine TC.region ?_
  refine TL.run 2 [] [(0, .slice none 0 0), (1, .int .i64 n), (6, .bool (decide (n < 0)))] rfl ⟨by kernel_rfl, by kernel_rfl⟩ ?_
  refine TL.next rfl ?_
  refine TC.cond (decide (n < 0)) rfl (by kernel_rfl) (fun h1 => ?_) (fun h1 => ?_)
  · exact ((by have := dec_t h1; omega) : False).elim
  · refine TC.skip ?_
    refine TE.next ?_
    refine TC.seq ?_
    refine TC.seq ?_
    refine TC.region ?_
    refine TL.run 8 [] [(0, .slice none 0 0), (1, .int .i64 (w64 (n - (w64 (0 - 0)))))] rfl ⟨by kernel_rfl, by kernel_rfl⟩ ?_
    refine TL.next rfl ?_
    refine TC.seq ?_
    refine TC.region ?_
    refine TL.run 2 [] [(0, .slice none 0 0), (1, .int .i64 (w64 (n - (w64 (0 - 0))))), (16, .bool (decide ((w64 (n - (w64 (0 - 0)))) > 0)))] rfl ⟨by kernel_rfl, by kernel_rfl⟩ ?_
    refine TL.next rfl ?_
    refine TC.cond (decide ((w64 (n - (w64 (0 - 0)))) > 0)) rfl (by kernel_rfl) (fun h2 => ?_) (fun h2 => ?_)
    · refine TC.region ?_
      refine TL.run 3 [] [(0, .slice none 0 0), (1, .int .i64 (w64 (n - (w64 (0 - 0))))), (17, .slice none 0 0), (19, .int .i64 0)] rfl ⟨by kernel_rfl, by kernel_rfl⟩ ?_
      refine TL.val (sV (Instr.sliceAt 30 (.slice none 0 0) none (some (.int .i64 0)) none)) (some 20) (.slice none 0 0) [(0, .slice none 0 0), (1, .int .i64 (w64 (n - (w64 (0 - 0))))), (20, .slice none 0 0)] (fun w hM => (run_slice (sz := 20) 0 0 (by kernel_rfl) (.inl ⟨rfl, rfl⟩) (.inr ⟨_, _, rfl, (by decide), rfl⟩) (Nat.le_refl _) (Nat.zero_le _)).trans (by rfl)) (by kernel_rfl) (by kernel_rfl) ?_
      refine TL.run 5 [] [(0, .slice none 0 0), (20, .slice none 0 0), (21, .int .i64 (w64 (n - (w64 (0 - 0)))))] rfl ⟨by kernel_rfl, by kernel_rfl⟩ ?_
      refine TL.rw 21 (.int .i64 (w64 (n - (w64 (0 - 0))))) (.int .i64 (((w64 (n - (w64 (0 - 0)))).toNat : Nat) : Int)) (by kernel_rfl) (int_eq (Int.toNat_of_nonneg (by have q0_ := (dec_f h1); have q1_ := (dec_t h2); first | omega | (rw [List.length_set]; omega) | (rw [w64_id (by omega)]; omega) | (dsimp only; omega) | (rw [List.length_drop]; omega) | (simp only [w64_eq]; omega) | exact (tm_in (by (first | (rw [w64_id (by omega)]; omega) | (simp only [w64_eq]; omega))) (by omega)).1 | exact (tm_in (by (first | (rw [w64_id (by omega)]; omega) | (simp only [w64_eq]; omega))) (by omega)).2.1 | exact (tm_in (by (first | (rw [w64_id (by omega)]; omega) | (simp only [w64_eq]; omega))) (by omega)).2.2 | (simp only [List.length_take] at *; omega) | (simp <;> omega))).symm) ?_
      refine TL.opM (Γ := Option Addr × Nat) (sV (Builtin.append_ #[30, 3] 30 #[.slice none 0 0, .int .i64 (((w64 (n - (w64 (0 - 0)))).toNat : Nat) : Int)])) (some 22) (fun g => .slice g.1 ((w64 (n - (w64 (0 - 0)))).toNat) g.2) (fun g => [.inr (Own g.1 g.2 29 20 (([] : List FilterTrack).map FilterTrack.c))]) (fun g => [(0, .slice none 0 0), (22, .slice g.1 ((w64 (n - (w64 (0 - 0)))).toNat) g.2)]) (appnum_nil (c := FilterTrack.c) (bytes := 160) 30 ((w64 (n - (w64 (0 - 0)))).toNat) (by kernel_rfl) rfl (by kernel_rfl) (by have q0_ := (dec_f h1); have q1_ := (dec_t h2); first | omega | (rw [List.length_set]; omega) | (rw [w64_id (by omega)]; omega) | (dsimp only; omega) | (rw [List.length_drop]; omega) | (simp only [w64_eq]; omega) | exact (tm_in (by (first | (rw [w64_id (by omega)]; omega) | (simp only [w64_eq]; omega))) (by omega)).1 | exact (tm_in (by (first | (rw [w64_id (by omega)]; omega) | (simp only [w64_eq]; omega))) (by omega)).2.1 | exact (tm_in (by (first | (rw [w64_id (by omega)]; omega) | (simp only [w64_eq]; omega))) (by omega)).2.2 | (simp only [List.length_take] at *; omega) | (simp <;> omega)) (by have q0_ := (dec_f h1); have q1_ := (dec_t h2); first | omega | (rw [List.length_set]; omega) | (rw [w64_id (by omega)]; omega) | (dsimp only; omega) | (rw [List.length_drop]; omega) | (simp only [w64_eq]; omega) | exact (tm_in (by (first | (rw [w64_id (by omega)]; omega) | (simp only [w64_eq]; omega))) (by omega)).1 | exact (tm_in (by (first | (rw [w64_id (by omega)]; omega) | (simp only [w64_eq]; omega))) (by omega)).2.1 | exact (tm_in (by (first | (rw [w64_id (by omega)]; omega) | (simp only [w64_eq]; omega))) (by omega)).2.2 | (simp only [List.length_take] at *; omega) | (simp <;> omega))) (by kernel_rfl) (fun g => by kernel_rfl) ?_
      rintro ⟨A, c⟩
      refine TL.run 8 [] [(22, .slice A ((w64 (n - (w64 (0 - 0)))).toNat) c), (24, .int .i64 0)] rfl ⟨by kernel_rfl, by kernel_rfl⟩ ?_
      refine TL.val (sV (Instr.sliceAt 30 (.slice A ((w64 (n - (w64 (0 - 0)))).toNat) c) none (some (.int .i64 0)) none)) (some 25) (.slice A 0 c) [(25, .slice A 0 c)] (fun w hM => (run_slice (sz := 20) 0 0 (by kernel_rfl) (.inl ⟨rfl, rfl⟩) (.inr ⟨_, _, rfl, (by decide), rfl⟩) (Nat.le_refl _) (Nat.zero_le _)).trans (by rw [cut0]; rfl)) (by kernel_rfl) (by kernel_rfl) ?_
      refine TL.run 10 [] [(0, .slice A 0 c)] rfl ⟨by kernel_rfl, by kernel_rfl⟩ ?_
      refine TL.next rfl ?_
      refine TC.seq ?_
      refine TC.region ?_
      refine TL.run 2 [] [(4, .slice A 0 c)] rfl ⟨by kernel_rfl, by kernel_rfl⟩ ?_
      refine TL.next rfl ?_
      refine TC.ret ?_
      have e : slices_Grow_api_FilterTrack_api_FilterTrack n = ([] : List FilterTrack) := by unfold slices_Grow_api_FilterTrack_api_FilterTrack; exact cond_f h1 (cond_t h2 (rfl))
      rw [e]
      exact TE.retM (.inl rfl) (A, c) [] (.slice A 0 c) ⟨by kernel_rfl, by kernel_rfl⟩ rfl (fun _ hM => hM.sub (.cons_cons _ (.slnil)))
    · refine TC.skip ?_
      refine TE.next ?_
      refine TC.seq ?_
      refine TC.region ?_
      refine TL.run 2 [] [(4, .slice none 0 0)] rfl ⟨by kernel_rfl, by kernel_rfl⟩ ?_
      refine TL.next rfl ?_
      refine TC.ret ?_
      have e : slices_Grow_api_FilterTrack_api_FilterTrack n = ([]) := by unfold slices_Grow_api_FilterTrack_api_FilterTrack; exact cond_f h1 (cond_f h2 (rfl))
      refine TE.conv [.inr (Own none 0 29 20 (([] : List FilterTrack).map FilterTrack.c))] (fun _ hM => hM.emptyrow none 29 20) ?_
      rw [e]
      exact TE.retM (.inl rfl) (none, 0) [] (.slice none 0 0) ⟨by kernel_rfl, by kernel_rfl⟩ rfl (fun _ hM => hM.sub (.cons_cons _ (.slnil)))

def slices_Concat_api_FilterTrack_api_FilterTrack_L1 : List (List FilterTrack) → Nat → Int → Int
  | [], _, size => size
  | x :: xs, k, size => cond (decide ((w64 (size + (x.length : Int))) < 0)) (
      default) (
      slices_Concat_api_FilterTrack_api_FilterTrack_L1 xs (k + 1) (w64 (size + (x.length : Int))))
def slices_Concat_api_FilterTrack_api_FilterTrack_L2 : List (List FilterTrack) → Nat → (List FilterTrack) → (List FilterTrack)
  | [], _, newslice => newslice
  | x_2 :: xs, k_2, newslice => slices_Concat_api_FilterTrack_api_FilterTrack_L2 xs (k_2 + 1) (newslice ++ x_2)
def slices_Concat_api_FilterTrack_api_FilterTrack (slices : List (List FilterTrack)) : List FilterTrack :=
  bindv (slices_Concat_api_FilterTrack_api_FilterTrack_L1 slices 0 0) (fun size_2 =>
    let r1 := slices_Grow_api_FilterTrack_api_FilterTrack size_2
    bindv (slices_Concat_api_FilterTrack_api_FilterTrack_L2 slices 0 r1) (fun newslice_2 =>
      newslice_2))

theorem grow_len {n : Int} {r : List FilterTrack} (h : slices_Grow_api_FilterTrack_api_FilterTrack n = r) : r.length = 0 := by
  subst h
  unfold slices_Grow_api_FilterTrack_api_FilterTrack
  cases decide (n < 0) <;> cases decide (w64 (n - (w64 (0 - 0))) > 0) <;> rfl

set_option maxRecDepth 100000 in
theorem slices_Concat_api_FilterTrack_api_FilterTrack_w (A_slices : Option Addr) (c_slices : Nat) (slices : List (List FilterTrack)) (o_slices : List (Sl FilterTrack)) (w : World) (h_slices : Rd w 1 A_slices (o_slices.map Sl.c)) (_hc_slices : slices.length ≤ c_slices) (hd_slices : ∀ s ∈ o_slices, s.rd w 20 FilterTrack.c) (he_slices : slices = o_slices.map Sl.l) (hp : slices.length ≤ 2 ∧ ∀ s ∈ slices, s.length ≤ 100000) : Calls Try.prog 30 #[.slice A_slices slices.length c_slices] w (RetM (Γ := (Option Addr × Nat)) (cx w) (fun g => .slice g.1 ((slices_Concat_api_FilterTrack_api_FilterTrack slices).length) g.2) (fun g => [.inr (Own g.1 g.2 29 20 ((slices_Concat_api_FilterTrack_api_FilterTrack slices).map FilterTrack.c))])) := by
  have s_slices := h_slices.short; rw [← sl_len he_slices] at s_slices
  refine calls_intro (vs := [.slice A_slices slices.length c_slices]) (w := w) Try.func30 rfl Try.ntmps30 rfl ?_
  refine TC.weak [(0, .slice A_slices slices.length c_slices)] (by kernel_rfl) ?_
  refine TC.seq ?_
  refine TC.region ?_
  refine TL.run 1 [] [(0, .slice A_slices slices.length c_slices)] rfl ⟨by kernel_rfl, by kernel_rfl⟩ ?_
  refine TL.next rfl ?_
  refine TC.seq ?_
  refine TC.region ?_
  refine TL.run 1 [] [(0, .slice A_slices slices.length c_slices), (3, .int .i64 0)] rfl ⟨by kernel_rfl, by kernel_rfl⟩ ?_
  refine TL.next rfl ?_
  refine TC.seq ?_
  refine TC.seq ?_
  refine TC.region ?_
  refine TL.run 3 [] [(0, .slice A_slices slices.length c_slices), (3, .int .i64 0), (9, .slice A_slices slices.length c_slices), (10, .int .i64 (slices.length : Int)), (11, .int .i64 0)] rfl ⟨by kernel_rfl, by kernel_rfl⟩ ?_
  refine TL.next rfl ?_
  refine TC.weak [(0, .slice A_slices slices.length c_slices), (3, .int .i64 0), (9, .slice A_slices slices.length c_slices), (10, .int .i64 (slices.length : Int)), (11, .int .i64 0)] (by kernel_rfl) ?_
  obtain ⟨R1, hR⟩ : ∃ R, R = slices_Concat_api_FilterTrack_api_FilterTrack_L1 slices 0 0 := ⟨_, rfl⟩
  refine TC.cut (S := Int) (fun size_2 => [(0, .slice A_slices slices.length c_slices), (3, .int .i64 size_2)]) (fun size_2 => []) (fun size_2 => R1 = size_2 ∧ (0 ≤ size_2 ∧ size_2 ≤ 200000)) ?_ ?_
  · refine TC.block ?_
    refine TC.loop (X := Nat × Int) (fun (k, size) => [(0, .slice A_slices slices.length c_slices), (3, .int .i64 size), (9, .slice A_slices slices.length c_slices), (10, .int .i64 (slices.length : Int)), (11, .int .i64 (k : Int))]) (fun (k, size) => []) (fun (k, size) => slices.length - k) (fun (k, size) => k ≤ slices.length ∧ R1 = slices_Concat_api_FilterTrack_api_FilterTrack_L1 (slices.drop k) k size ∧ (0 ≤ size ∧ size ≤ 100000 * (k : Int))) ?_ (0, 0) ⟨Nat.zero_le _, hR, (by first | omega | (simp; omega) | simp)⟩
    rintro ⟨k, size⟩ ⟨hk, hI, hl_iv0⟩
    refine TC.seq ?_
    refine TC.region ?_
    refine TL.run 1 [] [(0, .slice A_slices slices.length c_slices), (3, .int .i64 size), (9, .slice A_slices slices.length c_slices), (10, .int .i64 (slices.length : Int)), (11, .int .i64 (k : Int)), (12, .bool (decide ((k : Int) < (slices.length : Int))))] rfl ⟨by kernel_rfl, by kernel_rfl⟩ ?_
    refine TL.next rfl ?_
    refine TC.seq ?_
    refine TC.cond (decide ((k : Int) < (slices.length : Int))) rfl (by kernel_rfl) (fun h1 => ?_) (fun h1 => ?_)
    · have hlt : k < slices.length := by have := of_decide_eq_true h1; first | omega | (simp at this; omega)
      obtain ⟨x, hx⟩ : ∃ e_, slices[k]? = some e_ := ⟨_, List.getElem?_eq_getElem hlt⟩
      have hd := drop_at hx
      refine TC.skip ?_
      refine TE.next ?_
      refine TC.seq ?_
      refine TC.block ?_
      refine TC.seq ?_
      refine TC.region ?_
      refine TL.val (sV (Instr.indexAt 120 (.slice A_slices slices.length c_slices) (.int .i64 (k : Int)))) (some 13) (.pointer (some ((A_slices.getD noAddr).add (k * 1)))) [(0, .slice A_slices slices.length c_slices), (3, .int .i64 size), (9, .slice A_slices slices.length c_slices), (10, .int .i64 (slices.length : Int)), (11, .int .i64 (k : Int)), (13, .pointer (some ((A_slices.getD noAddr).add (k * 1))))] (fun w hM => run_index (h_slices.sat hM) (sl_len he_slices) (by kernel_rfl) (by have kp_ := hp.1; (try have kg_ := grow_len hr1); (try have kx_ := hp.2 _ (List.mem_of_getElem? hx)); (try have kx_ := hp.2 _ (List.mem_of_getElem? hx_2)); first | omega | (rw [List.length_set]; omega) | (rw [w64_id (by omega)]; omega) | (dsimp only; omega) | (rw [List.length_drop]; omega) | (simp only [w64_eq]; omega) | exact (tm_in (by (first | (rw [w64_id (by omega)]; omega) | (simp only [w64_eq]; omega))) (by omega)).1 | exact (tm_in (by (first | (rw [w64_id (by omega)]; omega) | (simp only [w64_eq]; omega))) (by omega)).2.1 | exact (tm_in (by (first | (rw [w64_id (by omega)]; omega) | (simp only [w64_eq]; omega))) (by omega)).2.2 | (simp only [List.length_take] at *; omega) | (simp <;> omega)) (by have kp_ := hp.1; (try have kg_ := grow_len hr1); (try have kx_ := hp.2 _ (List.mem_of_getElem? hx)); (try have kx_ := hp.2 _ (List.mem_of_getElem? hx_2)); first | omega | (rw [List.length_set]; omega) | (rw [w64_id (by omega)]; omega) | (dsimp only; omega) | (rw [List.length_drop]; omega) | (simp only [w64_eq]; omega) | exact (tm_in (by (first | (rw [w64_id (by omega)]; omega) | (simp only [w64_eq]; omega))) (by omega)).1 | exact (tm_in (by (first | (rw [w64_id (by omega)]; omega) | (simp only [w64_eq]; omega))) (by omega)).2.1 | exact (tm_in (by (first | (rw [w64_id (by omega)]; omega) | (simp only [w64_eq]; omega))) (by omega)).2.2 | (simp only [List.length_take] at *; omega) | (simp <;> omega))) (by kernel_rfl) (by kernel_rfl) ?_
      have s_s1 := (el_rd (sl_all hd_slices k) (sl_at he_slices hx)).short; rw [List.length_map] at s_s1
      refine TL.val (sV (Instr.loadAt 30 (.pointer (some ((A_slices.getD noAddr).add (k * 1)))))) (some 14) (.slice ((o_slices[k]?.getD Sl.zero).A) x.length ((o_slices[k]?.getD Sl.zero).cap)) [(0, .slice A_slices slices.length c_slices), (3, .int .i64 size), (9, .slice A_slices slices.length c_slices), (10, .int .i64 (slices.length : Int)), (11, .int .i64 (k : Int)), (14, .slice ((o_slices[k]?.getD Sl.zero).A) x.length ((o_slices[k]?.getD Sl.zero).cap))] (fun w hM => (by have h := run_load_one (P := Try.prog) (T := 30) (off := 0) (i := k) (.slice (o_slices[k]?.getD Sl.zero).A (o_slices[k]?.getD Sl.zero).l.length (o_slices[k]?.getD Sl.zero).cap) (h_slices.sat hM) (map_at (getD_at _ _ Sl.zero (sl_lt he_slices (List.getElem?_eq_some_iff.1 hx).1))) (by kernel_rfl) (by kernel_rfl); rw [(sl_at he_slices hx)] at h; exact h)) (by kernel_rfl) (by kernel_rfl) ?_
      refine TL.run 3 [] [(0, .slice A_slices slices.length c_slices), (3, .int .i64 size), (5, .slice ((o_slices[k]?.getD Sl.zero).A) x.length ((o_slices[k]?.getD Sl.zero).cap)), (9, .slice A_slices slices.length c_slices), (10, .int .i64 (slices.length : Int)), (11, .int .i64 (k : Int))] rfl ⟨by kernel_rfl, by kernel_rfl⟩ ?_
      refine TL.next rfl ?_
      refine TC.seq ?_
      refine TC.region ?_
      refine TL.run 5 [] [(0, .slice A_slices slices.length c_slices), (3, .int .i64 (w64 (size + (x.length : Int)))), (9, .slice A_slices slices.length c_slices), (10, .int .i64 (slices.length : Int)), (11, .int .i64 (k : Int))] rfl ⟨by kernel_rfl, by kernel_rfl⟩ ?_
      refine TL.next rfl ?_
      refine TC.seq ?_
      refine TC.region ?_
      refine TL.run 2 [] [(0, .slice A_slices slices.length c_slices), (3, .int .i64 (w64 (size + (x.length : Int)))), (9, .slice A_slices slices.length c_slices), (10, .int .i64 (slices.length : Int)), (11, .int .i64 (k : Int)), (20, .bool (decide ((w64 (size + (x.length : Int))) < 0)))] rfl ⟨by kernel_rfl, by kernel_rfl⟩ ?_
      refine TL.next rfl ?_
      refine TC.cond (decide ((w64 (size + (x.length : Int))) < 0)) rfl (by kernel_rfl) (fun h2 => ?_) (fun h2 => ?_)
      · exact ((by have kx_ := hp.2 _ (List.mem_of_getElem? hx); have h_ := dec_t h2; have := hp.1; rw [w64_id (by omega)] at h_; omega) : False).elim
      · refine TC.skip ?_
        refine TE.normal_block ?_
        refine TE.next ?_
        refine TC.region ?_
        refine TL.run 2 [] [(0, .slice A_slices slices.length c_slices), (3, .int .i64 (w64 (size + (x.length : Int)))), (9, .slice A_slices slices.length c_slices), (10, .int .i64 (slices.length : Int)), (11, .int .i64 (w64 ((k : Int) + 1)))] rfl ⟨by kernel_rfl, by kernel_rfl⟩ ?_
        refine TL.done rfl ?_
        refine TE.rw 11 (.int .i64 (w64 ((k : Int) + 1))) (.int .i64 ((k + 1 : Nat) : Int)) (by kernel_rfl) (w64_cast k (by have kp_ := hp.1; (try have kg_ := grow_len hr1); (try have kx_ := hp.2 _ (List.mem_of_getElem? hx)); (try have kx_ := hp.2 _ (List.mem_of_getElem? hx_2)); omega)) ?_
        exact TE.again (x := (k, size)) (k + 1, w64 (size + (x.length : Int))) ⟨by omega, hI.trans (by rw [hd]; exact cond_f h2 (rfl)), (by have q0_ := (dec_f h2); have kp_ := hp.1; (try have kg_ := grow_len hr1); (try have kx_ := hp.2 _ (List.mem_of_getElem? hx)); (try have kx_ := hp.2 _ (List.mem_of_getElem? hx_2)); first | omega | (simp <;> omega) | (simp at * <;> omega) | (simp only [w64_eq] at *; omega) | (simp only [List.length_append, List.length_cons, List.length_nil]; omega))⟩ (by show slices.length - (k + 1) < slices.length - k; omega) (by kernel_rfl) (.slnil)
    · have hd : slices.drop k = [] := List.drop_eq_nil_of_le (by have := of_decide_eq_false h1; first | omega | (simp at this; omega))
      refine TC.exit ?_
      refine TE.exit_then (TE.exit_then (TE.exit_same ?_))
      exact TE.cut size (⟨hI.trans (by rw [hd]; exact rfl), (by have kp_ := hp.1; (try have kg_ := grow_len hr1); (try have kx_ := hp.2 _ (List.mem_of_getElem? hx)); (try have kx_ := hp.2 _ (List.mem_of_getElem? hx_2)); first | omega | (simp <;> omega) | (simp at * <;> omega) | (simp only [w64_eq] at *; omega) | (simp only [List.length_append, List.length_cons, List.length_nil]; omega))⟩) (by kernel_rfl) (.slnil)
  · rintro size_2 ⟨hJ, hl_ov0_0⟩
    refine TE.next ?_
    refine TC.seq ?_
    refine TC.region ?_
    refine TL.run 1 [] [(0, .slice A_slices slices.length c_slices), (23, .int .i64 size_2)] rfl ⟨by kernel_rfl, by kernel_rfl⟩ ?_
    refine TL.callN (Γ := (Option Addr × Nat)) (fun g => .slice g.1 ((slices_Grow_api_FilterTrack_api_FilterTrack size_2).length) g.2) (fun g => [.inr (Own g.1 g.2 29 20 ((slices_Grow_api_FilterTrack_api_FilterTrack size_2).map FilterTrack.c))]) (fun g => [.inr (Own g.1 g.2 29 20 ((slices_Grow_api_FilterTrack_api_FilterTrack size_2).map FilterTrack.c))]) (fun g => rfl) (some 24) (fun g => [(0, .slice A_slices slices.length c_slices), (24, .slice g.1 ((slices_Grow_api_FilterTrack_api_FilterTrack size_2).length) g.2)]) (fun w _ => slices_Grow_api_FilterTrack_api_FilterTrack_w size_2 w (by have kp_ := hp.1; (try have kg_ := grow_len hr1); (try have kx_ := hp.2 _ (List.mem_of_getElem? hx)); (try have kx_ := hp.2 _ (List.mem_of_getElem? hx_2)); first | omega | (simp only [w64_eq]; omega) | (simp <;> omega))) (by kernel_rfl) (fun g => by kernel_rfl) ?_
    rintro ⟨A, c⟩
    generalize hr1 : slices_Grow_api_FilterTrack_api_FilterTrack size_2 = r1
    refine TL.know (fun w hM => hM.short_at 0 rfl) (fun s_r1_0 => ?_)
    refine TL.run 3 [] [(0, .slice A_slices slices.length c_slices), (6, .slice A r1.length c)] rfl ⟨by kernel_rfl, by kernel_rfl⟩ ?_
    refine TL.next rfl ?_
    refine TC.seq ?_
    refine TC.seq ?_
    refine TC.region ?_
    refine TL.run 3 [] [(6, .slice A r1.length c), (25, .slice A_slices slices.length c_slices), (26, .int .i64 (slices.length : Int)), (27, .int .i64 0)] rfl ⟨by kernel_rfl, by kernel_rfl⟩ ?_
    refine TL.next rfl ?_
    refine TC.weak [(6, .slice A r1.length c), (25, .slice A_slices slices.length c_slices), (26, .int .i64 (slices.length : Int)), (27, .int .i64 0)] (by kernel_rfl) ?_
    obtain ⟨R2, hR_2⟩ : ∃ R, R = slices_Concat_api_FilterTrack_api_FilterTrack_L2 slices 0 r1 := ⟨_, rfl⟩
    refine TC.cut (S := (List FilterTrack) × (Option Addr) × Nat) (fun (newslice_2, A_newslice_2, c_newslice_2) => [(6, .slice A_newslice_2 newslice_2.length c_newslice_2)]) (fun (newslice_2, A_newslice_2, c_newslice_2) => [.inr (Own A_newslice_2 c_newslice_2 29 20 (newslice_2.map FilterTrack.c))]) (fun (newslice_2, A_newslice_2, c_newslice_2) => R2 = newslice_2 ∧ newslice_2.length ≤ r1.length + 100000 * slices.length) ?_ ?_
    · refine TC.block ?_
      refine TC.loop (X := Nat × (List FilterTrack) × (Option Addr) × Nat) (fun (k_2, newslice, A_newslice, c_newslice) => [(6, .slice A_newslice newslice.length c_newslice), (25, .slice A_slices slices.length c_slices), (26, .int .i64 (slices.length : Int)), (27, .int .i64 (k_2 : Int))]) (fun (k_2, newslice, A_newslice, c_newslice) => [.inr (Own A_newslice c_newslice 29 20 (newslice.map FilterTrack.c))]) (fun (k_2, newslice, A_newslice, c_newslice) => slices.length - k_2) (fun (k_2, newslice, A_newslice, c_newslice) => k_2 ≤ slices.length ∧ R2 = slices_Concat_api_FilterTrack_api_FilterTrack_L2 (slices.drop k_2) k_2 newslice ∧ newslice.length ≤ r1.length + 100000 * k_2) ?_ (0, r1, A, c) ⟨Nat.zero_le _, hR_2, (by first | omega | (simp; omega) | simp)⟩
      rintro ⟨k_2, newslice, A_newslice, c_newslice⟩ ⟨hk_2, hI_2, hl_newslice⟩
      refine TC.seq ?_
      refine TC.region ?_
      refine TL.run 1 [] [(6, .slice A_newslice newslice.length c_newslice), (25, .slice A_slices slices.length c_slices), (26, .int .i64 (slices.length : Int)), (27, .int .i64 (k_2 : Int)), (28, .bool (decide ((k_2 : Int) < (slices.length : Int))))] rfl ⟨by kernel_rfl, by kernel_rfl⟩ ?_
      refine TL.next rfl ?_
      refine TC.seq ?_
      refine TC.cond (decide ((k_2 : Int) < (slices.length : Int))) rfl (by kernel_rfl) (fun h3 => ?_) (fun h3 => ?_)
      · have hlt_2 : k_2 < slices.length := by have := of_decide_eq_true h3; first | omega | (simp at this; omega)
        obtain ⟨x_2, hx_2⟩ : ∃ e_, slices[k_2]? = some e_ := ⟨_, List.getElem?_eq_getElem hlt_2⟩
        have hd_2 := drop_at hx_2
        refine TC.skip ?_
        refine TE.next ?_
        refine TC.seq ?_
        refine TC.block ?_
        refine TC.seq ?_
        refine TC.region ?_
        refine TL.val (sV (Instr.indexAt 120 (.slice A_slices slices.length c_slices) (.int .i64 (k_2 : Int)))) (some 29) (.pointer (some ((A_slices.getD noAddr).add (k_2 * 1)))) [(6, .slice A_newslice newslice.length c_newslice), (25, .slice A_slices slices.length c_slices), (26, .int .i64 (slices.length : Int)), (27, .int .i64 (k_2 : Int)), (29, .pointer (some ((A_slices.getD noAddr).add (k_2 * 1))))] (fun w hM => run_index (h_slices.sat hM) (sl_len he_slices) (by kernel_rfl) (by have kp_ := hp.1; (try have kg_ := grow_len hr1); (try have kx_ := hp.2 _ (List.mem_of_getElem? hx)); (try have kx_ := hp.2 _ (List.mem_of_getElem? hx_2)); first | omega | (rw [List.length_set]; omega) | (rw [w64_id (by omega)]; omega) | (dsimp only; omega) | (rw [List.length_drop]; omega) | (simp only [w64_eq]; omega) | exact (tm_in (by (first | (rw [w64_id (by omega)]; omega) | (simp only [w64_eq]; omega))) (by omega)).1 | exact (tm_in (by (first | (rw [w64_id (by omega)]; omega) | (simp only [w64_eq]; omega))) (by omega)).2.1 | exact (tm_in (by (first | (rw [w64_id (by omega)]; omega) | (simp only [w64_eq]; omega))) (by omega)).2.2 | (simp only [List.length_take] at *; omega) | (simp <;> omega)) (by have kp_ := hp.1; (try have kg_ := grow_len hr1); (try have kx_ := hp.2 _ (List.mem_of_getElem? hx)); (try have kx_ := hp.2 _ (List.mem_of_getElem? hx_2)); first | omega | (rw [List.length_set]; omega) | (rw [w64_id (by omega)]; omega) | (dsimp only; omega) | (rw [List.length_drop]; omega) | (simp only [w64_eq]; omega) | exact (tm_in (by (first | (rw [w64_id (by omega)]; omega) | (simp only [w64_eq]; omega))) (by omega)).1 | exact (tm_in (by (first | (rw [w64_id (by omega)]; omega) | (simp only [w64_eq]; omega))) (by omega)).2.1 | exact (tm_in (by (first | (rw [w64_id (by omega)]; omega) | (simp only [w64_eq]; omega))) (by omega)).2.2 | (simp only [List.length_take] at *; omega) | (simp <;> omega))) (by kernel_rfl) (by kernel_rfl) ?_
        have s_s2 := (el_rd (sl_all hd_slices k_2) (sl_at he_slices hx_2)).short; rw [List.length_map] at s_s2
        refine TL.val (sV (Instr.loadAt 30 (.pointer (some ((A_slices.getD noAddr).add (k_2 * 1)))))) (some 30) (.slice ((o_slices[k_2]?.getD Sl.zero).A) x_2.length ((o_slices[k_2]?.getD Sl.zero).cap)) [(6, .slice A_newslice newslice.length c_newslice), (25, .slice A_slices slices.length c_slices), (26, .int .i64 (slices.length : Int)), (27, .int .i64 (k_2 : Int)), (30, .slice ((o_slices[k_2]?.getD Sl.zero).A) x_2.length ((o_slices[k_2]?.getD Sl.zero).cap))] (fun w hM => (by have h := run_load_one (P := Try.prog) (T := 30) (off := 0) (i := k_2) (.slice (o_slices[k_2]?.getD Sl.zero).A (o_slices[k_2]?.getD Sl.zero).l.length (o_slices[k_2]?.getD Sl.zero).cap) (h_slices.sat hM) (map_at (getD_at _ _ Sl.zero (sl_lt he_slices (List.getElem?_eq_some_iff.1 hx_2).1))) (by kernel_rfl) (by kernel_rfl); rw [(sl_at he_slices hx_2)] at h; exact h)) (by kernel_rfl) (by kernel_rfl) ?_
        refine TL.run 3 [] [(6, .slice A_newslice newslice.length c_newslice), (8, .slice ((o_slices[k_2]?.getD Sl.zero).A) x_2.length ((o_slices[k_2]?.getD Sl.zero).cap)), (25, .slice A_slices slices.length c_slices), (26, .int .i64 (slices.length : Int)), (27, .int .i64 (k_2 : Int))] rfl ⟨by kernel_rfl, by kernel_rfl⟩ ?_
        refine TL.next rfl ?_
        refine TC.region ?_
        refine TL.run 2 [] [(25, .slice A_slices slices.length c_slices), (26, .int .i64 (slices.length : Int)), (27, .int .i64 (k_2 : Int)), (31, .slice A_newslice newslice.length c_newslice), (32, .slice ((o_slices[k_2]?.getD Sl.zero).A) x_2.length ((o_slices[k_2]?.getD Sl.zero).cap))] rfl ⟨by kernel_rfl, by kernel_rfl⟩ ?_
        refine TL.opM (Γ := Option Addr × Nat) (sV (Builtin.append_ #[30, 30] 30 #[.slice A_newslice newslice.length c_newslice, .slice ((o_slices[k_2]?.getD Sl.zero).A) x_2.length ((o_slices[k_2]?.getD Sl.zero).cap)])) (some 33) (fun g => .slice g.1 (newslice ++ x_2).length g.2) (fun g => [.inr (Own g.1 g.2 29 20 ((newslice ++ x_2).map FilterTrack.c))]) (fun g => [(25, .slice A_slices slices.length c_slices), (26, .int .i64 (slices.length : Int)), (27, .int .i64 (k_2 : Int)), (33, .slice g.1 ((newslice ++ x_2).length) g.2)]) (app_at (bytes := 160) 30 0 x_2 (by kernel_rfl) rfl rfl FilterTrack.one rfl (fun w hM => (el_rd ((sl_all hd_slices k_2).sat hM) (sl_at he_slices hx_2))) rfl (by have kp_ := hp.1; (try have kg_ := grow_len hr1); (try have kx_ := hp.2 _ (List.mem_of_getElem? hx)); (try have kx_ := hp.2 _ (List.mem_of_getElem? hx_2)); first | omega | (simp <;> omega) | (simp at * <;> omega))) (by kernel_rfl) (fun g => by kernel_rfl) ?_
        rintro ⟨A_2, c_2⟩
        refine TL.run 4 [] [(6, .slice A_2 ((newslice ++ x_2).length) c_2), (25, .slice A_slices slices.length c_slices), (26, .int .i64 (slices.length : Int)), (27, .int .i64 (k_2 : Int))] rfl ⟨by kernel_rfl, by kernel_rfl⟩ ?_
        refine TL.done rfl ?_
        refine TE.normal_block ?_
        refine TE.next ?_
        refine TC.region ?_
        refine TL.run 2 [] [(6, .slice A_2 ((newslice ++ x_2).length) c_2), (25, .slice A_slices slices.length c_slices), (26, .int .i64 (slices.length : Int)), (27, .int .i64 (w64 ((k_2 : Int) + 1)))] rfl ⟨by kernel_rfl, by kernel_rfl⟩ ?_
        refine TL.done rfl ?_
        refine TE.rw 27 (.int .i64 (w64 ((k_2 : Int) + 1))) (.int .i64 ((k_2 + 1 : Nat) : Int)) (by kernel_rfl) (w64_cast k_2 (by have kp_ := hp.1; (try have kg_ := grow_len hr1); (try have kx_ := hp.2 _ (List.mem_of_getElem? hx)); (try have kx_ := hp.2 _ (List.mem_of_getElem? hx_2)); omega)) ?_
        exact TE.again (x := (k_2, newslice, A_newslice, c_newslice)) (k_2 + 1, (newslice ++ x_2), A_2, c_2) ⟨by omega, hI_2.trans (by subst hr1; rw [hd_2]; exact rfl), (by have kp_ := hp.1; (try have kg_ := grow_len hr1); (try have kx_ := hp.2 _ (List.mem_of_getElem? hx)); (try have kx_ := hp.2 _ (List.mem_of_getElem? hx_2)); first | omega | (simp <;> omega) | (simp at * <;> omega) | (simp only [w64_eq] at *; omega) | (simp only [List.length_append, List.length_cons, List.length_nil]; omega))⟩ (by show slices.length - (k_2 + 1) < slices.length - k_2; omega) (by kernel_rfl) (.cons_cons _ (.slnil))
      · have hd_2 : slices.drop k_2 = [] := List.drop_eq_nil_of_le (by have := of_decide_eq_false h3; first | omega | (simp at this; omega))
        refine TC.exit ?_
        refine TE.exit_then (TE.exit_then (TE.exit_same ?_))
        exact TE.cut (newslice, A_newslice, c_newslice) (⟨hI_2.trans (by subst hr1; rw [hd_2]; exact rfl), (by have kp_ := hp.1; (try have kg_ := grow_len hr1); (try have kx_ := hp.2 _ (List.mem_of_getElem? hx)); (try have kx_ := hp.2 _ (List.mem_of_getElem? hx_2)); first | omega | (simp <;> omega) | (simp at * <;> omega) | (simp only [w64_eq] at *; omega) | (simp only [List.length_append, List.length_cons, List.length_nil]; omega))⟩) (by kernel_rfl) (.cons_cons _ (.slnil))
    · rintro ⟨newslice_2, A_newslice_2, c_newslice_2⟩ ⟨hJ_2, hl_newslice_2⟩
      refine TE.next ?_
      refine TC.seq ?_
      refine TC.region ?_
      refine TL.run 2 [] [(2, .slice A_newslice_2 newslice_2.length c_newslice_2)] rfl ⟨by kernel_rfl, by kernel_rfl⟩ ?_
      refine TL.next rfl ?_
      refine TC.ret ?_
      have e : slices_Concat_api_FilterTrack_api_FilterTrack slices = newslice_2 := by subst hr1; unfold slices_Concat_api_FilterTrack_api_FilterTrack; exact bindv_eq (hR.symm.trans hJ) (bindv_eq (hR_2.symm.trans hJ_2) (rfl))
      rw [e]
      exact TE.retM (.inl rfl) (A_newslice_2, c_newslice_2) [] (.slice A_newslice_2 newslice_2.length c_newslice_2) ⟨by kernel_rfl, by kernel_rfl⟩ rfl (fun _ hM => hM.sub (.cons_cons _ (.slnil)))

def skywaykeep2_FuseTracks_3 (b_ : FilterTrack) (x0 : Int) (x_2 : FilterTrack) : Bool :=
  let r1 := skywaykeep2_FuseTracks_1 x_2 b_ x0
  r1

set_option maxRecDepth 100000 in
theorem skywaykeep2_FuseTracks_3_w (b_ : FilterTrack) (a_x : Addr) (a_x0 : Addr) (x0 : Int) (a_x_2 : Addr) (x_2 : FilterTrack) (w : World) (h_x : Rd w 1 (some a_x) [#[.func (.func 25) #[] #[.pointer (some a_x0)]]]) (h_x0 : Rd w 1 (some a_x0) [ic x0]) (h_x_2 : Rd w 20 (some a_x_2) [FilterTrack.c x_2]) : Calls Try.prog 31 #[FilterTrack.v b_, .pointer (some a_x), .pointer (some a_x_2)] w (Ret w (.bool (skywaykeep2_FuseTracks_3 b_ x0 x_2))) := by
  refine calls_intro (vs := [FilterTrack.v b_, .pointer (some a_x), .pointer (some a_x_2)]) (w := w) Try.func31 rfl Try.ntmps31 rfl ?_
  refine TC.weak [(0, FilterTrack.v b_), (1, .pointer (some a_x)), (2, .pointer (some a_x_2))] (by kernel_rfl) ?_
  refine TC.seq ?_
  refine TC.region ?_
  refine TL.write 0 (fun b1 => [(1, .pointer (some a_x)), (2, .pointer (some a_x_2)), (3, .pointer (some ⟨b1, 0, none⟩))]) (fun b1 => [.inl (b1, .cells (FilterTrack.c b_) 29 (0, 0))]) (fun b1 => ⟨by kernel_rfl, by kernel_rfl⟩) (fun b1 => ?_)
  refine TL.run 2 [] [(1, .pointer (some a_x)), (2, .pointer (some a_x_2)), (3, .pointer (some ⟨b1, 0, none⟩))] rfl ⟨by kernel_rfl, by kernel_rfl⟩ ?_
  refine TL.next rfl ?_
  refine TC.seq ?_
  refine TC.region ?_
  refine TL.val (sV (Instr.loadAt 56 (.pointer (some a_x)))) (some 5) (.func (.func 25) #[] #[.pointer (some a_x0)]) [(2, .pointer (some a_x_2)), (3, .pointer (some ⟨b1, 0, none⟩)), (5, .func (.func 25) #[] #[.pointer (some a_x0)])] (fun w hM => (by have h := run_load_one (P := Try.prog) (T := 56) (off := 0) (i := 0) (A := some a_x) (.func (.func 25) #[] #[.pointer (some a_x0)]) (h_x.sat hM) (rows_one _) (by kernel_rfl) (by kernel_rfl); exact h)) (by kernel_rfl) (by kernel_rfl) ?_
  refine TL.val (sV (Instr.loadAt 29 (.pointer (some a_x_2)))) (some 6) (FilterTrack.v x_2) [(3, .pointer (some ⟨b1, 0, none⟩)), (5, .func (.func 25) #[] #[.pointer (some a_x0)]), (6, FilterTrack.v x_2)] (fun w hM => run_load_agg (n := 20) (off := 0) (FilterTrack.v x_2) (h_x_2.sat hM) (rows_one _) (by kernel_rfl) (by kernel_rfl) (by kernel_rfl)) (by kernel_rfl) (by kernel_rfl) ?_
  refine TL.run 3 [0] [(5, .func (.func 25) #[] #[.pointer (some a_x0)]), (6, FilterTrack.v x_2), (7, FilterTrack.v b_)] rfl ⟨by kernel_rfl, by kernel_rfl⟩ ?_
  refine TL.call (some 8) [(8, .bool ((skywaykeep2_FuseTracks_1 x_2 b_ x0)))] (fun w hM => skywaykeep2_FuseTracks_1_w x_2 b_ a_x0 x0 w (h_x0.sat hM)) (by kernel_rfl) (by kernel_rfl) ?_
  generalize hr1 : skywaykeep2_FuseTracks_1 x_2 b_ x0 = r1
  refine TL.run 5 [] [(4, .bool r1)] rfl ⟨by kernel_rfl, by kernel_rfl⟩ ?_
  refine TL.next rfl ?_
  refine TC.ret ?_
  have e : skywaykeep2_FuseTracks_3 b_ x0 x_2 = r1 := by subst hr1; unfold skywaykeep2_FuseTracks_3; exact rfl
  exact TE.ret [] (.bool r1) ⟨by kernel_rfl, by kernel_rfl⟩ (by rw [e]; first | done | kernel_rfl)

def IndexFunc_three_L1 (c00 : Int) (c1 : FilterTrack) : List FilterTrack → Nat → ((Unit) ⊕ (Int))
  | [], _ => .inl ()
  | x :: xs, k => let r1 := skywaykeep2_FuseTracks_3 x c00 c1
    cond r1 (
      .inr (k : Int)) (
      IndexFunc_three_L1 c00 c1 xs (k + 1))
def IndexFunc_three (s : List FilterTrack) (c00 : Int) (c1 : FilterTrack) : Int :=
  Sum.elim (fun _ =>
    (-1)) (fun r => r) (IndexFunc_three_L1 c00 c1 s 0)

set_option maxRecDepth 100000 in
theorem IndexFunc_three_w (A_s : Option Addr) (c_s : Nat) (s : List FilterTrack) (a_c0 : Addr) (a_c00 : Addr) (c00 : Int) (a_c1 : Addr) (c1 : FilterTrack) (w : World) (h_s : Rd w 20 A_s (s.map FilterTrack.c)) (_hc_s : s.length ≤ c_s) (h_c0 : Rd w 1 (some a_c0) [#[.func (.func 25) #[] #[.pointer (some a_c00)]]]) (h_c00 : Rd w 1 (some a_c00) [ic c00]) (h_c1 : Rd w 20 (some a_c1) [FilterTrack.c c1]) : Calls Try.prog 69 #[.slice A_s s.length c_s, .func (.func 31) #[] #[.pointer (some a_c0), .pointer (some a_c1)]] w (Ret w (.int .i64 (IndexFunc_three s c00 c1))) := by
  have s_s := h_s.short; rw [List.length_map] at s_s
  refine calls_intro (vs := [.slice A_s s.length c_s, .func (.func 31) #[] #[.pointer (some a_c0), .pointer (some a_c1)]]) (w := w) Try.func69 rfl Try.ntmps69 rfl ?_
  refine TC.weak [(0, .slice A_s s.length c_s), (1, .func (.func 31) #[] #[.pointer (some a_c0), .pointer (some a_c1)])] (by kernel_rfl) ?_
  refine TC.seq ?_
  refine TC.region ?_
  refine TL.run 1 [] [(0, .slice A_s s.length c_s), (1, .func (.func 31) #[] #[.pointer (some a_c0), .pointer (some a_c1)])] rfl ⟨by kernel_rfl, by kernel_rfl⟩ ?_
  refine TL.next rfl ?_
  refine TC.seq ?_
  refine TC.seq ?_
  refine TC.region ?_
  refine TL.run 3 [] [(0, .slice A_s s.length c_s), (1, .func (.func 31) #[] #[.pointer (some a_c0), .pointer (some a_c1)]), (7, .int .i64 (s.length : Int)), (8, .int .i64 0)] rfl ⟨by kernel_rfl, by kernel_rfl⟩ ?_
  refine TL.next rfl ?_
  refine TC.weak [(0, .slice A_s s.length c_s), (1, .func (.func 31) #[] #[.pointer (some a_c0), .pointer (some a_c1)]), (7, .int .i64 (s.length : Int)), (8, .int .i64 0)] (by kernel_rfl) ?_
  obtain ⟨R1, hR⟩ : ∃ R, R = IndexFunc_three_L1 c00 c1 s 0 := ⟨_, rfl⟩
  refine TC.cut (S := Unit) (fun (_ : Unit) => []) (fun (_ : Unit) => []) (fun (_ : Unit) => R1 = .inl ()) ?_ ?_
  · refine TC.block ?_
    refine TC.loop (X := Nat) (fun k => [(0, .slice A_s s.length c_s), (1, .func (.func 31) #[] #[.pointer (some a_c0), .pointer (some a_c1)]), (7, .int .i64 (s.length : Int)), (8, .int .i64 (k : Int))]) (fun k => []) (fun k => s.length - k) (fun k => k ≤ s.length ∧ R1 = IndexFunc_three_L1 c00 c1 (s.drop k) k) ?_ 0 ⟨Nat.zero_le _, hR⟩
    rintro k ⟨hk, hI⟩
    refine TC.seq ?_
    refine TC.region ?_
    refine TL.run 1 [] [(0, .slice A_s s.length c_s), (1, .func (.func 31) #[] #[.pointer (some a_c0), .pointer (some a_c1)]), (7, .int .i64 (s.length : Int)), (8, .int .i64 (k : Int)), (9, .bool (decide ((k : Int) < (s.length : Int))))] rfl ⟨by kernel_rfl, by kernel_rfl⟩ ?_
    refine TL.next rfl ?_
    refine TC.seq ?_
    refine TC.cond (decide ((k : Int) < (s.length : Int))) rfl (by kernel_rfl) (fun h1 => ?_) (fun h1 => ?_)
    · have hlt : k < s.length := by have := of_decide_eq_true h1; first | omega | (simp at this; omega)
      obtain ⟨x, hx⟩ : ∃ e_, s[k]? = some e_ := ⟨_, List.getElem?_eq_getElem hlt⟩
      have hd := drop_at hx
      refine TC.skip ?_
      refine TE.next ?_
      refine TC.seq ?_
      refine TC.block ?_
      refine TC.seq ?_
      refine TC.region ?_
      refine TL.run 2 [] [(0, .slice A_s s.length c_s), (1, .func (.func 31) #[] #[.pointer (some a_c0), .pointer (some a_c1)]), (5, .int .i64 (k : Int)), (7, .int .i64 (s.length : Int)), (8, .int .i64 (k : Int))] rfl ⟨by kernel_rfl, by kernel_rfl⟩ ?_
      refine TL.next rfl ?_
      refine TC.seq ?_
      refine TC.region ?_
      refine TL.run 3 [] [(0, .slice A_s s.length c_s), (1, .func (.func 31) #[] #[.pointer (some a_c0), .pointer (some a_c1)]), (5, .int .i64 (k : Int)), (7, .int .i64 (s.length : Int)), (8, .int .i64 (k : Int)), (11, .func (.func 31) #[] #[.pointer (some a_c0), .pointer (some a_c1)]), (12, .slice A_s s.length c_s), (13, .int .i64 (k : Int))] rfl ⟨by kernel_rfl, by kernel_rfl⟩ ?_
      refine TL.val (sV (Instr.indexAt 30 (.slice A_s s.length c_s) (.int .i64 (k : Int)))) (some 14) (.pointer (some ((A_s.getD noAddr).add (k * 20)))) [(0, .slice A_s s.length c_s), (1, .func (.func 31) #[] #[.pointer (some a_c0), .pointer (some a_c1)]), (5, .int .i64 (k : Int)), (7, .int .i64 (s.length : Int)), (8, .int .i64 (k : Int)), (11, .func (.func 31) #[] #[.pointer (some a_c0), .pointer (some a_c1)]), (14, .pointer (some ((A_s.getD noAddr).add (k * 20))))] (fun w hM => run_index (h_s.sat hM) (by simp) (by kernel_rfl) (by first | omega | (rw [List.length_set]; omega) | (rw [w64_id (by omega)]; omega) | (dsimp only; omega) | (rw [List.length_drop]; omega) | (simp only [w64_eq]; omega) | exact (tm_in (by (first | (rw [w64_id (by omega)]; omega) | (simp only [w64_eq]; omega))) (by omega)).1 | exact (tm_in (by (first | (rw [w64_id (by omega)]; omega) | (simp only [w64_eq]; omega))) (by omega)).2.1 | exact (tm_in (by (first | (rw [w64_id (by omega)]; omega) | (simp only [w64_eq]; omega))) (by omega)).2.2 | (simp only [List.length_take] at *; omega) | (simp <;> omega)) (by first | omega | (rw [List.length_set]; omega) | (rw [w64_id (by omega)]; omega) | (dsimp only; omega) | (rw [List.length_drop]; omega) | (simp only [w64_eq]; omega) | exact (tm_in (by (first | (rw [w64_id (by omega)]; omega) | (simp only [w64_eq]; omega))) (by omega)).1 | exact (tm_in (by (first | (rw [w64_id (by omega)]; omega) | (simp only [w64_eq]; omega))) (by omega)).2.1 | exact (tm_in (by (first | (rw [w64_id (by omega)]; omega) | (simp only [w64_eq]; omega))) (by omega)).2.2 | (simp only [List.length_take] at *; omega) | (simp <;> omega))) (by kernel_rfl) (by kernel_rfl) ?_
      refine TL.val (sV (Instr.loadAt 29 (.pointer (some ((A_s.getD noAddr).add (k * 20)))))) (some 15) (FilterTrack.v x) [(0, .slice A_s s.length c_s), (1, .func (.func 31) #[] #[.pointer (some a_c0), .pointer (some a_c1)]), (5, .int .i64 (k : Int)), (7, .int .i64 (s.length : Int)), (8, .int .i64 (k : Int)), (11, .func (.func 31) #[] #[.pointer (some a_c0), .pointer (some a_c1)]), (15, FilterTrack.v x)] (fun w hM => run_load_agg (n := 20) (off := 0) (i := k) (FilterTrack.v x) (h_s.sat hM) (map_at hx) (by kernel_rfl) (by kernel_rfl) (by kernel_rfl)) (by kernel_rfl) (by kernel_rfl) ?_
      refine TL.call (some 16) [(0, .slice A_s s.length c_s), (1, .func (.func 31) #[] #[.pointer (some a_c0), .pointer (some a_c1)]), (5, .int .i64 (k : Int)), (7, .int .i64 (s.length : Int)), (8, .int .i64 (k : Int)), (16, .bool ((skywaykeep2_FuseTracks_3 x c00 c1)))] (fun w hM => skywaykeep2_FuseTracks_3_w x a_c0 a_c00 c00 a_c1 c1 w (h_c0.sat hM) (h_c00.sat hM) (h_c1.sat hM)) (by kernel_rfl) (by kernel_rfl) ?_
      generalize hr1 : skywaykeep2_FuseTracks_3 x c00 c1 = r1
      refine TL.next rfl ?_
      refine TC.cond r1 rfl (by kernel_rfl) (fun h2 => ?_) (fun h2 => ?_)
      · refine TC.seq ?_
        refine TC.region ?_
        refine TL.run 2 [] [(4, .int .i64 (k : Int))] rfl ⟨by kernel_rfl, by kernel_rfl⟩ ?_
        refine TL.next rfl ?_
        refine TC.ret ?_
        refine TE.ret_block (TE.ret_then (TE.ret_then (TE.ret_block (TE.ret_then (TE.ret_then ?_)))))
        have e : IndexFunc_three s c00 c1 = (k : Int) := by subst hr1; unfold IndexFunc_three; exact elim_r (hR.symm.trans (hI.trans (by rw [hd]; exact cond_t h2 (rfl)))) rfl
        exact TE.ret [] (.int .i64 (k : Int)) ⟨by kernel_rfl, by kernel_rfl⟩ (by rw [e]; first | done | kernel_rfl)
      · refine TC.skip ?_
        refine TE.normal_block ?_
        refine TE.next ?_
        refine TC.region ?_
        refine TL.run 2 [] [(0, .slice A_s s.length c_s), (1, .func (.func 31) #[] #[.pointer (some a_c0), .pointer (some a_c1)]), (7, .int .i64 (s.length : Int)), (8, .int .i64 (w64 ((k : Int) + 1)))] rfl ⟨by kernel_rfl, by kernel_rfl⟩ ?_
        refine TL.done rfl ?_
        refine TE.rw 8 (.int .i64 (w64 ((k : Int) + 1))) (.int .i64 ((k + 1 : Nat) : Int)) (by kernel_rfl) (w64_cast k (by omega)) ?_
        exact TE.again (x := k) (k + 1) ⟨by omega, hI.trans (by subst hr1; rw [hd]; exact cond_f h2 (rfl))⟩ (by show s.length - (k + 1) < s.length - k; omega) (by kernel_rfl) (.slnil)
    · have hd : s.drop k = [] := List.drop_eq_nil_of_le (by have := of_decide_eq_false h1; first | omega | (simp at this; omega))
      refine TC.exit ?_
      refine TE.exit_then (TE.exit_then (TE.exit_same ?_))
      exact TE.cut () (hI.trans (by rw [hd]; exact rfl)) (by kernel_rfl) (.slnil)
  · intro _ hJ
    refine TE.next ?_
    refine TC.seq ?_
    refine TC.region ?_
    refine TL.run 1 [] [(4, .int .i64 (-1))] rfl ⟨by kernel_rfl, by kernel_rfl⟩ ?_
    refine TL.next rfl ?_
    refine TC.ret ?_
    have e : IndexFunc_three s c00 c1 = (-1) := by unfold IndexFunc_three; exact elim_l (hR.symm.trans hJ) (rfl)
    exact TE.ret [] (.int .i64 (-1)) ⟨by kernel_rfl, by kernel_rfl⟩ (by rw [e]; first | done | kernel_rfl)

def ContainsFunc_three (s : List FilterTrack) (c00 : Int) (c1 : FilterTrack) : Bool :=
  let r1 := IndexFunc_three s c00 c1
  decide (r1 ≥ 0)

set_option maxRecDepth 100000 in
theorem ContainsFunc_three_w (A_s : Option Addr) (c_s : Nat) (s : List FilterTrack) (a_c0 : Addr) (a_c00 : Addr) (c00 : Int) (a_c1 : Addr) (c1 : FilterTrack) (w : World) (h_s : Rd w 20 A_s (s.map FilterTrack.c)) (hc_s : s.length ≤ c_s) (h_c0 : Rd w 1 (some a_c0) [#[.func (.func 25) #[] #[.pointer (some a_c00)]]]) (h_c00 : Rd w 1 (some a_c00) [ic c00]) (h_c1 : Rd w 20 (some a_c1) [FilterTrack.c c1]) : Calls Try.prog 27 #[.slice A_s s.length c_s, .func (.func 31) #[] #[.pointer (some a_c0), .pointer (some a_c1)]] w (Ret w (.bool (ContainsFunc_three s c00 c1))) := by
  have s_s := h_s.short; rw [List.length_map] at s_s
  refine calls_intro (vs := [.slice A_s s.length c_s, .func (.func 31) #[] #[.pointer (some a_c0), .pointer (some a_c1)]]) (w := w) Try.func27 rfl Try.ntmps27 rfl ?_
  refine TC.weak [(0, .slice A_s s.length c_s), (1, .func (.func 31) #[] #[.pointer (some a_c0), .pointer (some a_c1)])] (by kernel_rfl) ?_
  refine TC.seq ?_
  refine TC.region ?_
  refine TL.run 1 [] [(0, .slice A_s s.length c_s), (1, .func (.func 31) #[] #[.pointer (some a_c0), .pointer (some a_c1)])] rfl ⟨by kernel_rfl, by kernel_rfl⟩ ?_
  refine TL.next rfl ?_
  refine TC.seq ?_
  refine TC.region ?_
  refine TL.run 2 [] [(5, .slice A_s s.length c_s), (6, .func (.func 31) #[] #[.pointer (some a_c0), .pointer (some a_c1)])] rfl ⟨by kernel_rfl, by kernel_rfl⟩ ?_
  refine TL.call (some 7) [(7, .int .i64 (IndexFunc_three s c00 c1))] (fun w hM => IndexFunc_three_w A_s c_s s a_c0 a_c00 c00 a_c1 c1 w (h_s.sat hM) hc_s (h_c0.sat hM) (h_c00.sat hM) (h_c1.sat hM)) (by kernel_rfl) (by kernel_rfl) ?_
  generalize hr1 : IndexFunc_three s c00 c1 = r1
  refine TL.run 5 [] [(4, .bool (decide (r1 ≥ 0)))] rfl ⟨by kernel_rfl, by kernel_rfl⟩ ?_
  refine TL.next rfl ?_
  refine TC.ret ?_
  have e : ContainsFunc_three s c00 c1 = (decide (r1 ≥ 0)) := by subst hr1; unfold ContainsFunc_three; exact rfl
  exact TE.ret [] (.bool (decide (r1 ≥ 0))) ⟨by kernel_rfl, by kernel_rfl⟩ (by rw [e]; first | done | kernel_rfl)

def skywaykeep2_FuseTracks_L1 (l : List FilterTrack) (band : Int) (r2 : List FilterTrack × Int) : List FilterTrack → Nat → ((Unit) ⊕ (Bool))
  | [], _ => .inl ()
  | x :: xs, k => let r3 := ContainsFunc_two (r2.1.take k) band x
    cond r3 (
      .inr false) (
      let r4 := slices_Contains_api_FilterTrack_api_FilterTrack (l.take (imin (l.length : Int) 8).toNat) x
      cond (!r4) (
        .inr false) (
        skywaykeep2_FuseTracks_L1 l band r2 xs (k + 1)))
def skywaykeep2_FuseTracks_L2 (l : List FilterTrack) (band : Int) (r2 : List FilterTrack × Int) : List FilterTrack → Nat → ((Unit) ⊕ (Bool))
  | [], _ => .inl ()
  | x_2 :: xs, k_2 => cond (!(slices_Contains_api_FilterTrack_api_FilterTrack r2.1 x_2)) (
      let r6 := slices_Concat_api_FilterTrack_api_FilterTrack ([((l.take (imin (l.length : Int) 8).toNat).take k_2), ((l.take (imin (l.length : Int) 8).toNat).drop (w64 ((k_2 : Int) + 1)).toNat)])
      let r7 := ContainsFunc_three r6 band x_2
      cond (!r7) (
        .inr false) (
        skywaykeep2_FuseTracks_L2 l band r2 xs (k_2 + 1))) (
      skywaykeep2_FuseTracks_L2 l band r2 xs (k_2 + 1))
def skywaykeep2_FuseTracks (l : List FilterTrack) (band : Int) : Bool :=
  let r1 := fuse_Tracks ([(⟨⟨0, 0, 0, ⟨0, 0⟩, ⟨0, 0⟩, 0, 0, 0, 5, 0, 0⟩, 0, ⟨0, ⟨0, 0⟩, 0, 0, 0⟩⟩ : FilterTrack), (⟨⟨0, 0, 0, ⟨0, 0⟩, ⟨0, 0⟩, 0, 0, 0, 5, 0, 0⟩, 0, ⟨0, ⟨0, 0⟩, 0, 0, 0⟩⟩ : FilterTrack)]) 0
  cond ((r1.2 != 0) || ((r1.1.length : Int) != 1)) (
    false) (
    let r2 := fuse_Tracks (l.take (imin (l.length : Int) 8).toNat) band
    cond (r2.2 != 0) (
      (r2.1.length : Int) == 0) (
      Sum.elim (fun _ =>
        Sum.elim (fun _ =>
          (((l.take (imin (l.length : Int) 8).toNat).length : Int) == 0) || (decide ((r2.1.length : Int) > 0))) (fun r => r) (skywaykeep2_FuseTracks_L2 l band r2 (l.take (imin (l.length : Int) 8).toNat) 0)) (fun r => r) (skywaykeep2_FuseTracks_L1 l band r2 r2.1 0)))

theorem take8 {α : Type} (l : List α) : (l.take (imin (l.length : Int) 8).toNat).length ≤ 8 := by
  rw [List.length_take]
  unfold imin
  split <;> omega

set_option maxHeartbeats 4000000 in
set_option maxRecDepth 100000 in
theorem skywaykeep2_FuseTracks_w (A_l : Option Addr) (c_l : Nat) (l : List FilterTrack) (band : Int) (w : World) (h_l : Rd w 20 A_l (l.map FilterTrack.c)) (hc_l : l.length ≤ c_l) : Calls Try.prog 7 #[.slice A_l l.length c_l, .int .i64 band] w (Ret w (.bool (skywaykeep2_FuseTracks l band))) := by
  have s_l := h_l.short; rw [List.length_map] at s_l
  refine calls_intro (vs := [.slice A_l l.length c_l, .int .i64 band]) (w := w) Try.func7 rfl Try.ntmps7 rfl ?_
  refine TC.weak [(0, .slice A_l l.length c_l), (1, .int .i64 band)] (by kernel_rfl) ?_
  refine TC.seq ?_
  refine TC.region ?_
  refine TL.write 0 (fun b1 => [(0, .slice A_l l.length c_l), (3, .pointer (some ⟨b1, 0, none⟩))]) (fun b1 => [.inl (b1, .cells #[.int .i64 band] 3 (0, 0))]) (fun b1 => ⟨by kernel_rfl, by kernel_rfl⟩) (fun b1 => ?_)
  refine TL.run 2 [] [(0, .slice A_l l.length c_l), (3, .pointer (some ⟨b1, 0, none⟩))] rfl ⟨by kernel_rfl, by kernel_rfl⟩ ?_
  refine TL.next rfl ?_
  refine TC.seq ?_
  refine TC.region ?_
  refine TL.run 2 [] [(0, .slice A_l l.length c_l), (3, .pointer (some ⟨b1, 0, none⟩)), (16, .agg #[.int .i64 0, .int .i64 0, .int .i64 0, .int .i64 0, .int .i64 0, .int .i64 0, .int .i64 0, .int .i64 0, .int .i64 0, .int .i64 0, .int .i64 5, .int .i64 0, .int .i64 0, .int .i64 0, .int .i64 0, .int .i64 0, .int .i64 0, .int .i64 0, .int .i64 0, .int .i64 0])] rfl ⟨by kernel_rfl, by kernel_rfl⟩ ?_
  refine TL.write 0 (fun b2 => [(0, .slice A_l l.length c_l), (3, .pointer (some ⟨b1, 0, none⟩)), (5, .pointer (some ⟨b2, 0, none⟩)), (16, .agg #[.int .i64 0, .int .i64 0, .int .i64 0, .int .i64 0, .int .i64 0, .int .i64 0, .int .i64 0, .int .i64 0, .int .i64 0, .int .i64 0, .int .i64 5, .int .i64 0, .int .i64 0, .int .i64 0, .int .i64 0, .int .i64 0, .int .i64 0, .int .i64 0, .int .i64 0, .int .i64 0])]) (fun b2 => [.inl (b2, .cells (FilterTrack.c FilterTrack.zero) 29 (0, 0)), .inl (b1, .cells #[.int .i64 band] 3 (0, 0))]) (fun b2 => ⟨by kernel_rfl, by kernel_rfl⟩) (fun b2 => ?_)
  refine TL.write 0 (fun _ => [(0, .slice A_l l.length c_l), (3, .pointer (some ⟨b1, 0, none⟩)), (5, .pointer (some ⟨b2, 0, none⟩))]) (fun _ => [.inl (b2, .cells #[.int .i64 0, .int .i64 0, .int .i64 0, .int .i64 0, .int .i64 0, .int .i64 0, .int .i64 0, .int .i64 0, .int .i64 0, .int .i64 0, .int .i64 5, .int .i64 0, .int .i64 0, .int .i64 0, .int .i64 0, .int .i64 0, .int .i64 0, .int .i64 0, .int .i64 0, .int .i64 0] 29 (0, 0)), .inl (b1, .cells #[.int .i64 band] 3 (0, 0))]) (fun _ => ⟨by kernel_rfl, by kernel_rfl⟩) (fun _ => ?_)
  refine TL.next rfl ?_
  refine TC.seq ?_
  refine TC.seq ?_
  refine TC.region ?_
  refine TL.run 2 [0, 0] [(0, .slice A_l l.length c_l), (3, .pointer (some ⟨b1, 0, none⟩)), (18, .agg #[.int .i64 0, .int .i64 0, .int .i64 0, .int .i64 0, .int .i64 0, .int .i64 0, .int .i64 0, .int .i64 0, .int .i64 0, .int .i64 0, .int .i64 5, .int .i64 0, .int .i64 0, .int .i64 0, .int .i64 0, .int .i64 0, .int .i64 0, .int .i64 0, .int .i64 0, .int .i64 0]), (19, .agg #[.int .i64 0, .int .i64 0, .int .i64 0, .int .i64 0, .int .i64 0, .int .i64 0, .int .i64 0, .int .i64 0, .int .i64 0, .int .i64 0, .int .i64 5, .int .i64 0, .int .i64 0, .int .i64 0, .int .i64 0, .int .i64 0, .int .i64 0, .int .i64 0, .int .i64 0, .int .i64 0])] rfl ⟨by kernel_rfl, by kernel_rfl⟩ ?_
  refine TL.write 0 (fun b3 => [(0, .slice A_l l.length c_l), (3, .pointer (some ⟨b1, 0, none⟩)), (20, .slice (some ⟨b3, 0, none⟩) 2 2)]) (fun b3 => [.inl (b3, .cells #[.int .i64 0, .int .i64 0, .int .i64 0, .int .i64 0, .int .i64 0, .int .i64 0, .int .i64 0, .int .i64 0, .int .i64 0, .int .i64 0, .int .i64 5, .int .i64 0, .int .i64 0, .int .i64 0, .int .i64 0, .int .i64 0, .int .i64 0, .int .i64 0, .int .i64 0, .int .i64 0, .int .i64 0, .int .i64 0, .int .i64 0, .int .i64 0, .int .i64 0, .int .i64 0, .int .i64 0, .int .i64 0, .int .i64 0, .int .i64 0, .int .i64 5, .int .i64 0, .int .i64 0, .int .i64 0, .int .i64 0, .int .i64 0, .int .i64 0, .int .i64 0, .int .i64 0, .int .i64 0] 29 (0, 0)), .inl (b2, .cells #[.int .i64 0, .int .i64 0, .int .i64 0, .int .i64 0, .int .i64 0, .int .i64 0, .int .i64 0, .int .i64 0, .int .i64 0, .int .i64 0, .int .i64 5, .int .i64 0, .int .i64 0, .int .i64 0, .int .i64 0, .int .i64 0, .int .i64 0, .int .i64 0, .int .i64 0, .int .i64 0] 29 (0, 0)), .inl (b1, .cells #[.int .i64 band] 3 (0, 0))]) (fun b3 => ⟨by kernel_rfl, by kernel_rfl⟩) (fun b3 => ?_)
  refine TL.callN (Γ := (Option Addr × Nat)) (fun g => .tuple #[.slice g.1 (((fuse_Tracks ([(⟨⟨0, 0, 0, ⟨0, 0⟩, ⟨0, 0⟩, 0, 0, 0, 5, 0, 0⟩, 0, ⟨0, ⟨0, 0⟩, 0, 0, 0⟩⟩ : FilterTrack), (⟨⟨0, 0, 0, ⟨0, 0⟩, ⟨0, 0⟩, 0, 0, 0, 5, 0, 0⟩, 0, ⟨0, ⟨0, 0⟩, 0, 0, 0⟩⟩ : FilterTrack)]) 0).1).length) g.2, .int .i64 ((fuse_Tracks ([(⟨⟨0, 0, 0, ⟨0, 0⟩, ⟨0, 0⟩, 0, 0, 0, 5, 0, 0⟩, 0, ⟨0, ⟨0, 0⟩, 0, 0, 0⟩⟩ : FilterTrack), (⟨⟨0, 0, 0, ⟨0, 0⟩, ⟨0, 0⟩, 0, 0, 0, 5, 0, 0⟩, 0, ⟨0, ⟨0, 0⟩, 0, 0, 0⟩⟩ : FilterTrack)]) 0).2)]) (fun g => [.inr (Own g.1 g.2 29 20 (((fuse_Tracks ([(⟨⟨0, 0, 0, ⟨0, 0⟩, ⟨0, 0⟩, 0, 0, 0, 5, 0, 0⟩, 0, ⟨0, ⟨0, 0⟩, 0, 0, 0⟩⟩ : FilterTrack), (⟨⟨0, 0, 0, ⟨0, 0⟩, ⟨0, 0⟩, 0, 0, 0, 5, 0, 0⟩, 0, ⟨0, ⟨0, 0⟩, 0, 0, 0⟩⟩ : FilterTrack)]) 0).1).map FilterTrack.c))]) (fun g => [.inr (Own g.1 g.2 29 20 (((fuse_Tracks ([(⟨⟨0, 0, 0, ⟨0, 0⟩, ⟨0, 0⟩, 0, 0, 0, 5, 0, 0⟩, 0, ⟨0, ⟨0, 0⟩, 0, 0, 0⟩⟩ : FilterTrack), (⟨⟨0, 0, 0, ⟨0, 0⟩, ⟨0, 0⟩, 0, 0, 0, 5, 0, 0⟩, 0, ⟨0, ⟨0, 0⟩, 0, 0, 0⟩⟩ : FilterTrack)]) 0).1).map FilterTrack.c)), .inl (b3, .cells #[.int .i64 0, .int .i64 0, .int .i64 0, .int .i64 0, .int .i64 0, .int .i64 0, .int .i64 0, .int .i64 0, .int .i64 0, .int .i64 0, .int .i64 5, .int .i64 0, .int .i64 0, .int .i64 0, .int .i64 0, .int .i64 0, .int .i64 0, .int .i64 0, .int .i64 0, .int .i64 0, .int .i64 0, .int .i64 0, .int .i64 0, .int .i64 0, .int .i64 0, .int .i64 0, .int .i64 0, .int .i64 0, .int .i64 0, .int .i64 0, .int .i64 5, .int .i64 0, .int .i64 0, .int .i64 0, .int .i64 0, .int .i64 0, .int .i64 0, .int .i64 0, .int .i64 0, .int .i64 0] 29 (0, 0)), .inl (b2, .cells #[.int .i64 0, .int .i64 0, .int .i64 0, .int .i64 0, .int .i64 0, .int .i64 0, .int .i64 0, .int .i64 0, .int .i64 0, .int .i64 0, .int .i64 5, .int .i64 0, .int .i64 0, .int .i64 0, .int .i64 0, .int .i64 0, .int .i64 0, .int .i64 0, .int .i64 0, .int .i64 0] 29 (0, 0)), .inl (b1, .cells #[.int .i64 band] 3 (0, 0))]) (fun g => rfl) (some 21) (fun g => [(0, .slice A_l l.length c_l), (3, .pointer (some ⟨b1, 0, none⟩)), (21, .tuple #[.slice g.1 (((fuse_Tracks ([(⟨⟨0, 0, 0, ⟨0, 0⟩, ⟨0, 0⟩, 0, 0, 0, 5, 0, 0⟩, 0, ⟨0, ⟨0, 0⟩, 0, 0, 0⟩⟩ : FilterTrack), (⟨⟨0, 0, 0, ⟨0, 0⟩, ⟨0, 0⟩, 0, 0, 0, 5, 0, 0⟩, 0, ⟨0, ⟨0, 0⟩, 0, 0, 0⟩⟩ : FilterTrack)]) 0).1).length) g.2, .int .i64 ((fuse_Tracks ([(⟨⟨0, 0, 0, ⟨0, 0⟩, ⟨0, 0⟩, 0, 0, 0, 5, 0, 0⟩, 0, ⟨0, ⟨0, 0⟩, 0, 0, 0⟩⟩ : FilterTrack), (⟨⟨0, 0, 0, ⟨0, 0⟩, ⟨0, 0⟩, 0, 0, 0, 5, 0, 0⟩, 0, ⟨0, ⟨0, 0⟩, 0, 0, 0⟩⟩ : FilterTrack)]) 0).2)])]) (fun w hM => fuse_Tracks_w (some ⟨b3, 0, none⟩) 2 ([(⟨⟨0, 0, 0, ⟨0, 0⟩, ⟨0, 0⟩, 0, 0, 0, 5, 0, 0⟩, 0, ⟨0, ⟨0, 0⟩, 0, 0, 0⟩⟩ : FilterTrack), (⟨⟨0, 0, 0, ⟨0, 0⟩, ⟨0, 0⟩, 0, 0, 0, 5, 0, 0⟩, 0, ⟨0, ⟨0, 0⟩, 0, 0, 0⟩⟩ : FilterTrack)]) 0 w (Rd.lit hM 0 _ rfl (by kernel_rfl) (by kernel_rfl) (by kernel_rfl)) (Nat.le_refl _)) (by kernel_rfl) (fun g => by kernel_rfl) ?_
  rintro ⟨A, c⟩
  generalize hr1 : fuse_Tracks ([(⟨⟨0, 0, 0, ⟨0, 0⟩, ⟨0, 0⟩, 0, 0, 0, 5, 0, 0⟩, 0, ⟨0, ⟨0, 0⟩, 0, 0, 0⟩⟩ : FilterTrack), (⟨⟨0, 0, 0, ⟨0, 0⟩, ⟨0, 0⟩, 0, 0, 0, 5, 0, 0⟩, 0, ⟨0, ⟨0, 0⟩, 0, 0, 0⟩⟩ : FilterTrack)]) 0 = r1
  refine TL.know (fun w hM => hM.short_at 0 rfl) (fun s_r1_0 => ?_)
  refine TL.run 9 [] [(0, .slice A_l l.length c_l), (3, .pointer (some ⟨b1, 0, none⟩)), (6, .slice A r1.1.length c), (7, .int .i64 r1.2)] rfl ⟨by kernel_rfl, by kernel_rfl⟩ ?_
  refine TL.next rfl ?_
  refine TC.seq ?_
  refine TC.region ?_
  refine TL.run 3 [] [(0, .slice A_l l.length c_l), (3, .pointer (some ⟨b1, 0, none⟩)), (6, .slice A r1.1.length c), (26, .bool (r1.2 != 0))] rfl ⟨by kernel_rfl, by kernel_rfl⟩ ?_
  refine TL.join 26 (r1.2 != 0) 7 [] [] (fun β => [(0, .slice A_l l.length c_l), (3, .pointer (some ⟨b1, 0, none⟩)), (30, .bool (β || ((r1.1.length : Int) != 1)))]) (by kernel_rfl) rfl ⟨by kernel_rfl, by kernel_rfl⟩ ⟨by kernel_rfl, by kernel_rfl⟩ ?_
  refine TL.next rfl ?_
  refine TC.cond ((r1.2 != 0) || ((r1.1.length : Int) != 1)) rfl (by kernel_rfl) (fun h1 => ?_) (fun h1 => ?_)
  · refine TC.seq ?_
    refine TC.region ?_
    refine TL.run 1 [] [(4, .bool false)] rfl ⟨by kernel_rfl, by kernel_rfl⟩ ?_
    refine TL.next rfl ?_
    refine TC.ret ?_
    refine TE.ret_then ?_
    have e : skywaykeep2_FuseTracks l band = false := by subst hr1; unfold skywaykeep2_FuseTracks; exact cond_t h1 (rfl)
    exact TE.ret [] (.bool false) ⟨by kernel_rfl, by kernel_rfl⟩ (by rw [e]; first | done | kernel_rfl)
  · refine TC.skip ?_
    refine TE.next ?_
    refine TC.seq ?_
    refine TC.region ?_
    refine TL.run 4 [] [(3, .pointer (some ⟨b1, 0, none⟩)), (31, .slice A_l l.length c_l), (34, .int .i64 (imin (l.length : Int) 8))] rfl ⟨by kernel_rfl, by kernel_rfl⟩ ?_
    obtain ⟨A1, hA1⟩ : ∃ A0_, A0_ = (if c_l = 0 then A_l else A_l.map (fun a => a.add (0 * 20))) := ⟨_, rfl⟩
    have hR1 : Rd w 20 A1 ((l.take (imin (l.length : Int) 8).toNat).map FilterTrack.c) := by rw [hA1]; exact h_l.cutMap 0 _ hc_l
    have hC1 : (l.take (imin (l.length : Int) 8).toNat).length ≤ (c_l - 0) := by have m0_ := imin_l (l.length : Int) 8; have m1_ := imin_r (l.length : Int) 8; have m2_ := imin_or (l.length : Int) 8; simp only [List.length_take]; omega
    have s_hR1 := hR1.short; rw [List.length_map] at s_hR1
    refine TL.val (sV (Instr.sliceAt 30 (.slice A_l l.length c_l) none (some (.int .i64 (imin (l.length : Int) 8))) none)) (some 35) (.slice A1 ((l.take (imin (l.length : Int) 8).toNat).length) (c_l - 0)) [(3, .pointer (some ⟨b1, 0, none⟩)), (35, .slice A1 ((l.take (imin (l.length : Int) 8).toNat).length) (c_l - 0))] (fun w hM => (run_slice 0 (imin (l.length : Int) 8).toNat (by kernel_rfl) (.inl ⟨rfl, rfl⟩) (.inr ⟨_, _, rfl, (by have q0_ := (bne_f (or_f1 h1)); have q1_ := (bne_f (or_f2 h1)); have m0_ := imin_l (l.length : Int) 8; have m1_ := imin_r (l.length : Int) 8; have m2_ := imin_or (l.length : Int) 8; first | omega | (rw [List.length_set]; omega) | (rw [w64_id (by omega)]; omega) | (dsimp only; omega) | (rw [List.length_drop]; omega) | (simp only [w64_eq]; omega) | exact (tm_in (by (first | (rw [w64_id (by omega)]; omega) | (simp only [w64_eq]; omega))) (by omega)).1 | exact (tm_in (by (first | (rw [w64_id (by omega)]; omega) | (simp only [w64_eq]; omega))) (by omega)).2.1 | exact (tm_in (by (first | (rw [w64_id (by omega)]; omega) | (simp only [w64_eq]; omega))) (by omega)).2.2 | (simp only [List.length_take] at *; omega) | (simp <;> omega)), rfl⟩) (by have q0_ := (bne_f (or_f1 h1)); have q1_ := (bne_f (or_f2 h1)); have m0_ := imin_l (l.length : Int) 8; have m1_ := imin_r (l.length : Int) 8; have m2_ := imin_or (l.length : Int) 8; first | omega | (rw [List.length_set]; omega) | (rw [w64_id (by omega)]; omega) | (dsimp only; omega) | (rw [List.length_drop]; omega) | (simp only [w64_eq]; omega) | exact (tm_in (by (first | (rw [w64_id (by omega)]; omega) | (simp only [w64_eq]; omega))) (by omega)).1 | exact (tm_in (by (first | (rw [w64_id (by omega)]; omega) | (simp only [w64_eq]; omega))) (by omega)).2.1 | exact (tm_in (by (first | (rw [w64_id (by omega)]; omega) | (simp only [w64_eq]; omega))) (by omega)).2.2 | (simp only [List.length_take] at *; omega) | (simp <;> omega)) (by have q0_ := (bne_f (or_f1 h1)); have q1_ := (bne_f (or_f2 h1)); have m0_ := imin_l (l.length : Int) 8; have m1_ := imin_r (l.length : Int) 8; have m2_ := imin_or (l.length : Int) 8; first | omega | (rw [List.length_set]; omega) | (rw [w64_id (by omega)]; omega) | (dsimp only; omega) | (rw [List.length_drop]; omega) | (simp only [w64_eq]; omega) | exact (tm_in (by (first | (rw [w64_id (by omega)]; omega) | (simp only [w64_eq]; omega))) (by omega)).1 | exact (tm_in (by (first | (rw [w64_id (by omega)]; omega) | (simp only [w64_eq]; omega))) (by omega)).2.1 | exact (tm_in (by (first | (rw [w64_id (by omega)]; omega) | (simp only [w64_eq]; omega))) (by omega)).2.2 | (simp only [List.length_take] at *; omega) | (simp <;> omega))).trans (by rw [hA1]; have m0_ := imin_l (l.length : Int) 8; have m1_ := imin_r (l.length : Int) 8; have m2_ := imin_or (l.length : Int) 8; have q0_ := (bne_f (or_f1 h1)); have q1_ := (bne_f (or_f2 h1)); congr 3; first | (simp only [List.length_take] <;> omega) | (simp only [List.length_take] at * <;> omega))) (by kernel_rfl) (by kernel_rfl) ?_
    refine TL.run 6 [] [(0, .slice A1 ((l.take (imin (l.length : Int) 8).toNat).length) (c_l - 0)), (3, .pointer (some ⟨b1, 0, none⟩))] rfl ⟨by kernel_rfl, by kernel_rfl⟩ ?_
    refine TL.next rfl ?_
    refine TC.seq ?_
    refine TC.region ?_
    refine TL.run 2 [3] [(0, .slice A1 ((l.take (imin (l.length : Int) 8).toNat).length) (c_l - 0)), (3, .pointer (some ⟨b1, 0, none⟩)), (37, .slice A1 ((l.take (imin (l.length : Int) 8).toNat).length) (c_l - 0)), (38, .int .i64 band)] rfl ⟨by kernel_rfl, by kernel_rfl⟩ ?_
    refine TL.callN (Γ := (Option Addr × Nat)) (fun g => .tuple #[.slice g.1 (((fuse_Tracks (l.take (imin (l.length : Int) 8).toNat) band).1).length) g.2, .int .i64 ((fuse_Tracks (l.take (imin (l.length : Int) 8).toNat) band).2)]) (fun g => [.inr (Own g.1 g.2 29 20 (((fuse_Tracks (l.take (imin (l.length : Int) 8).toNat) band).1).map FilterTrack.c))]) (fun g => [.inr (Own g.1 g.2 29 20 (((fuse_Tracks (l.take (imin (l.length : Int) 8).toNat) band).1).map FilterTrack.c)), .inr (Own A c 29 20 (r1.1.map FilterTrack.c)), .inl (b3, .cells #[.int .i64 0, .int .i64 0, .int .i64 0, .int .i64 0, .int .i64 0, .int .i64 0, .int .i64 0, .int .i64 0, .int .i64 0, .int .i64 0, .int .i64 5, .int .i64 0, .int .i64 0, .int .i64 0, .int .i64 0, .int .i64 0, .int .i64 0, .int .i64 0, .int .i64 0, .int .i64 0, .int .i64 0, .int .i64 0, .int .i64 0, .int .i64 0, .int .i64 0, .int .i64 0, .int .i64 0, .int .i64 0, .int .i64 0, .int .i64 0, .int .i64 5, .int .i64 0, .int .i64 0, .int .i64 0, .int .i64 0, .int .i64 0, .int .i64 0, .int .i64 0, .int .i64 0, .int .i64 0] 29 (0, 0)), .inl (b2, .cells #[.int .i64 0, .int .i64 0, .int .i64 0, .int .i64 0, .int .i64 0, .int .i64 0, .int .i64 0, .int .i64 0, .int .i64 0, .int .i64 0, .int .i64 5, .int .i64 0, .int .i64 0, .int .i64 0, .int .i64 0, .int .i64 0, .int .i64 0, .int .i64 0, .int .i64 0, .int .i64 0] 29 (0, 0)), .inl (b1, .cells #[.int .i64 band] 3 (0, 0))]) (fun g => rfl) (some 39) (fun g => [(0, .slice A1 ((l.take (imin (l.length : Int) 8).toNat).length) (c_l - 0)), (3, .pointer (some ⟨b1, 0, none⟩)), (39, .tuple #[.slice g.1 (((fuse_Tracks (l.take (imin (l.length : Int) 8).toNat) band).1).length) g.2, .int .i64 ((fuse_Tracks (l.take (imin (l.length : Int) 8).toNat) band).2)])]) (fun w hM => fuse_Tracks_w A1 (c_l - 0) (l.take (imin (l.length : Int) 8).toNat) band w (hR1.sat hM) hC1) (by kernel_rfl) (fun g => by kernel_rfl) ?_
    rintro ⟨A_2, c_2⟩
    generalize hr2 : fuse_Tracks (l.take (imin (l.length : Int) 8).toNat) band = r2
    refine TL.know (fun w hM => hM.short_at 0 rfl) (fun s_r2_0 => ?_)
    refine TL.run 8 [] [(0, .slice A1 ((l.take (imin (l.length : Int) 8).toNat).length) (c_l - 0)), (3, .pointer (some ⟨b1, 0, none⟩)), (8, .slice A_2 r2.1.length c_2), (9, .int .i64 r2.2)] rfl ⟨by kernel_rfl, by kernel_rfl⟩ ?_
    refine TL.next rfl ?_
    refine TC.seq ?_
    refine TC.seq ?_
    refine TC.region ?_
    refine TL.run 2 [] [(0, .slice A1 ((l.take (imin (l.length : Int) 8).toNat).length) (c_l - 0)), (3, .pointer (some ⟨b1, 0, none⟩)), (8, .slice A_2 r2.1.length c_2), (43, .bool (r2.2 != 0))] rfl ⟨by kernel_rfl, by kernel_rfl⟩ ?_
    refine TL.next rfl ?_
    refine TC.cond (r2.2 != 0) rfl (by kernel_rfl) (fun h2 => ?_) (fun h2 => ?_)
    · refine TC.seq ?_
      refine TC.region ?_
      refine TL.run 4 [] [(4, .bool ((r2.1.length : Int) == 0))] rfl ⟨by kernel_rfl, by kernel_rfl⟩ ?_
      refine TL.next rfl ?_
      refine TC.ret ?_
      refine TE.ret_then ?_
      have e : skywaykeep2_FuseTracks l band = ((r2.1.length : Int) == 0) := by subst hr1 hr2; unfold skywaykeep2_FuseTracks; exact cond_f h1 (cond_t h2 (rfl))
      exact TE.ret [] (.bool ((r2.1.length : Int) == 0)) ⟨by kernel_rfl, by kernel_rfl⟩ (by rw [e]; first | done | kernel_rfl)
    · refine TC.skip ?_
      refine TE.next ?_
      refine TC.seq ?_
      refine TC.region ?_
      refine TL.run 1 [] [(0, .slice A1 ((l.take (imin (l.length : Int) 8).toNat).length) (c_l - 0)), (8, .slice A_2 r2.1.length c_2), (47, .func (.func 25) #[] #[.pointer (some ⟨b1, 0, none⟩)])] rfl ⟨by kernel_rfl, by kernel_rfl⟩ ?_
      refine TL.write 0 (fun b4 => [(0, .slice A1 ((l.take (imin (l.length : Int) 8).toNat).length) (c_l - 0)), (8, .slice A_2 r2.1.length c_2), (10, .pointer (some ⟨b4, 0, none⟩)), (47, .func (.func 25) #[] #[.pointer (some ⟨b1, 0, none⟩)])]) (fun b4 => [.inl (b4, .cells #[.nilFunc] 56 (0, 0)), .inr (Own A_2 c_2 29 20 (r2.1.map FilterTrack.c)), .inr (Own A c 29 20 (r1.1.map FilterTrack.c)), .inl (b3, .cells #[.int .i64 0, .int .i64 0, .int .i64 0, .int .i64 0, .int .i64 0, .int .i64 0, .int .i64 0, .int .i64 0, .int .i64 0, .int .i64 0, .int .i64 5, .int .i64 0, .int .i64 0, .int .i64 0, .int .i64 0, .int .i64 0, .int .i64 0, .int .i64 0, .int .i64 0, .int .i64 0, .int .i64 0, .int .i64 0, .int .i64 0, .int .i64 0, .int .i64 0, .int .i64 0, .int .i64 0, .int .i64 0, .int .i64 0, .int .i64 0, .int .i64 5, .int .i64 0, .int .i64 0, .int .i64 0, .int .i64 0, .int .i64 0, .int .i64 0, .int .i64 0, .int .i64 0, .int .i64 0] 29 (0, 0)), .inl (b2, .cells #[.int .i64 0, .int .i64 0, .int .i64 0, .int .i64 0, .int .i64 0, .int .i64 0, .int .i64 0, .int .i64 0, .int .i64 0, .int .i64 0, .int .i64 5, .int .i64 0, .int .i64 0, .int .i64 0, .int .i64 0, .int .i64 0, .int .i64 0, .int .i64 0, .int .i64 0, .int .i64 0] 29 (0, 0)), .inl (b1, .cells #[.int .i64 band] 3 (0, 0))]) (fun b4 => ⟨by kernel_rfl, by kernel_rfl⟩) (fun b4 => ?_)
      refine TL.write 0 (fun _ => [(0, .slice A1 ((l.take (imin (l.length : Int) 8).toNat).length) (c_l - 0)), (8, .slice A_2 r2.1.length c_2), (10, .pointer (some ⟨b4, 0, none⟩))]) (fun _ => [.inl (b4, .cells #[.func (.func 25) #[] #[.pointer (some ⟨b1, 0, none⟩)]] 56 (0, 0)), .inr (Own A_2 c_2 29 20 (r2.1.map FilterTrack.c)), .inr (Own A c 29 20 (r1.1.map FilterTrack.c)), .inl (b3, .cells #[.int .i64 0, .int .i64 0, .int .i64 0, .int .i64 0, .int .i64 0, .int .i64 0, .int .i64 0, .int .i64 0, .int .i64 0, .int .i64 0, .int .i64 5, .int .i64 0, .int .i64 0, .int .i64 0, .int .i64 0, .int .i64 0, .int .i64 0, .int .i64 0, .int .i64 0, .int .i64 0, .int .i64 0, .int .i64 0, .int .i64 0, .int .i64 0, .int .i64 0, .int .i64 0, .int .i64 0, .int .i64 0, .int .i64 0, .int .i64 0, .int .i64 5, .int .i64 0, .int .i64 0, .int .i64 0, .int .i64 0, .int .i64 0, .int .i64 0, .int .i64 0, .int .i64 0, .int .i64 0] 29 (0, 0)), .inl (b2, .cells #[.int .i64 0, .int .i64 0, .int .i64 0, .int .i64 0, .int .i64 0, .int .i64 0, .int .i64 0, .int .i64 0, .int .i64 0, .int .i64 0, .int .i64 5, .int .i64 0, .int .i64 0, .int .i64 0, .int .i64 0, .int .i64 0, .int .i64 0, .int .i64 0, .int .i64 0, .int .i64 0] 29 (0, 0)), .inl (b1, .cells #[.int .i64 band] 3 (0, 0))]) (fun _ => ⟨by kernel_rfl, by kernel_rfl⟩) (fun _ => ?_)
      refine TL.next rfl ?_
      refine TC.seq ?_
      refine TC.seq ?_
      refine TC.region ?_
      refine TL.run 3 [] [(0, .slice A1 ((l.take (imin (l.length : Int) 8).toNat).length) (c_l - 0)), (8, .slice A_2 r2.1.length c_2), (10, .pointer (some ⟨b4, 0, none⟩)), (48, .slice A_2 r2.1.length c_2), (49, .int .i64 (r2.1.length : Int)), (50, .int .i64 0)] rfl ⟨by kernel_rfl, by kernel_rfl⟩ ?_
      refine TL.next rfl ?_
      refine TC.weak [(0, .slice A1 ((l.take (imin (l.length : Int) 8).toNat).length) (c_l - 0)), (8, .slice A_2 r2.1.length c_2), (10, .pointer (some ⟨b4, 0, none⟩)), (48, .slice A_2 r2.1.length c_2), (49, .int .i64 (r2.1.length : Int)), (50, .int .i64 0)] (by kernel_rfl) ?_
      refine TC.forget [.inl (b4, .cells #[.func (.func 25) #[] #[.pointer (some ⟨b1, 0, none⟩)]] 56 (0, 0)), .inr (Own A_2 c_2 29 20 (r2.1.map FilterTrack.c)), .inl (b1, .cells #[.int .i64 band] 3 (0, 0))] (.cons_cons _ (.cons_cons _ (.cons _ (.cons _ (.cons _ (.cons_cons _ (.slnil))))))) ?_
      obtain ⟨R1, hR⟩ : ∃ R, R = skywaykeep2_FuseTracks_L1 l band r2 r2.1 0 := ⟨_, rfl⟩
      refine TC.cut (S := Unit) (fun (_ : Unit) => [(0, .slice A1 ((l.take (imin (l.length : Int) 8).toNat).length) (c_l - 0)), (8, .slice A_2 r2.1.length c_2), (10, .pointer (some ⟨b4, 0, none⟩))]) (fun (_ : Unit) => [.inl (b4, .cells #[.func (.func 25) #[] #[.pointer (some ⟨b1, 0, none⟩)]] 56 (0, 0)), .inr (Own A_2 c_2 29 20 (r2.1.map FilterTrack.c)), .inl (b1, .cells #[.int .i64 band] 3 (0, 0))]) (fun (_ : Unit) => R1 = .inl ()) ?_ ?_
      · refine TC.block ?_
        refine TC.loop (X := Nat) (fun k => [(0, .slice A1 ((l.take (imin (l.length : Int) 8).toNat).length) (c_l - 0)), (8, .slice A_2 r2.1.length c_2), (10, .pointer (some ⟨b4, 0, none⟩)), (48, .slice A_2 r2.1.length c_2), (49, .int .i64 (r2.1.length : Int)), (50, .int .i64 (k : Int))]) (fun k => [.inl (b4, .cells #[.func (.func 25) #[] #[.pointer (some ⟨b1, 0, none⟩)]] 56 (0, 0)), .inr (Own A_2 c_2 29 20 (r2.1.map FilterTrack.c)), .inl (b1, .cells #[.int .i64 band] 3 (0, 0))]) (fun k => r2.1.length - k) (fun k => k ≤ r2.1.length ∧ R1 = skywaykeep2_FuseTracks_L1 l band r2 (r2.1.drop k) k) ?_ 0 ⟨Nat.zero_le _, hR⟩
        rintro k ⟨hk, hI⟩
        refine TC.seq ?_
        refine TC.region ?_
        refine TL.run 1 [] [(0, .slice A1 ((l.take (imin (l.length : Int) 8).toNat).length) (c_l - 0)), (8, .slice A_2 r2.1.length c_2), (10, .pointer (some ⟨b4, 0, none⟩)), (48, .slice A_2 r2.1.length c_2), (49, .int .i64 (r2.1.length : Int)), (50, .int .i64 (k : Int)), (51, .bool (decide ((k : Int) < (r2.1.length : Int))))] rfl ⟨by kernel_rfl, by kernel_rfl⟩ ?_
        refine TL.next rfl ?_
        refine TC.seq ?_
        refine TC.cond (decide ((k : Int) < (r2.1.length : Int))) rfl (by kernel_rfl) (fun h3 => ?_) (fun h3 => ?_)
        · have hlt : k < r2.1.length := by have := of_decide_eq_true h3; first | omega | (simp at this; omega)
          obtain ⟨x, hx⟩ : ∃ e_, r2.1[k]? = some e_ := ⟨_, List.getElem?_eq_getElem hlt⟩
          have hd := drop_at hx
          refine TC.skip ?_
          refine TE.next ?_
          refine TC.seq ?_
          refine TC.block ?_
          refine TC.seq ?_
          refine TC.region ?_
          refine TL.run 1 [] [(0, .slice A1 ((l.take (imin (l.length : Int) 8).toNat).length) (c_l - 0)), (8, .slice A_2 r2.1.length c_2), (10, .pointer (some ⟨b4, 0, none⟩)), (48, .slice A_2 r2.1.length c_2), (49, .int .i64 (r2.1.length : Int)), (50, .int .i64 (k : Int)), (52, .int .i64 (k : Int))] rfl ⟨by kernel_rfl, by kernel_rfl⟩ ?_
          refine TL.val (sV (Instr.indexAt 30 (.slice A_2 r2.1.length c_2) (.int .i64 (k : Int)))) (some 53) (.pointer (some ((A_2.getD noAddr).add (k * 20)))) [(0, .slice A1 ((l.take (imin (l.length : Int) 8).toNat).length) (c_l - 0)), (8, .slice A_2 r2.1.length c_2), (10, .pointer (some ⟨b4, 0, none⟩)), (48, .slice A_2 r2.1.length c_2), (49, .int .i64 (r2.1.length : Int)), (50, .int .i64 (k : Int)), (52, .int .i64 (k : Int)), (53, .pointer (some ((A_2.getD noAddr).add (k * 20))))] (fun w hM => run_index (hM.rd_at 1 rfl) (by simp) (by kernel_rfl) (by have q0_ := (bne_f (or_f1 h1)); have q1_ := (bne_f (or_f2 h1)); have q2_ := (bne_f h2); first | omega | (rw [List.length_set]; omega) | (rw [w64_id (by omega)]; omega) | (dsimp only; omega) | (rw [List.length_drop]; omega) | (simp only [w64_eq]; omega) | exact (tm_in (by (first | (rw [w64_id (by omega)]; omega) | (simp only [w64_eq]; omega))) (by omega)).1 | exact (tm_in (by (first | (rw [w64_id (by omega)]; omega) | (simp only [w64_eq]; omega))) (by omega)).2.1 | exact (tm_in (by (first | (rw [w64_id (by omega)]; omega) | (simp only [w64_eq]; omega))) (by omega)).2.2 | (simp only [List.length_take] at *; omega) | (simp <;> omega)) (by have q0_ := (bne_f (or_f1 h1)); have q1_ := (bne_f (or_f2 h1)); have q2_ := (bne_f h2); first | omega | (rw [List.length_set]; omega) | (rw [w64_id (by omega)]; omega) | (dsimp only; omega) | (rw [List.length_drop]; omega) | (simp only [w64_eq]; omega) | exact (tm_in (by (first | (rw [w64_id (by omega)]; omega) | (simp only [w64_eq]; omega))) (by omega)).1 | exact (tm_in (by (first | (rw [w64_id (by omega)]; omega) | (simp only [w64_eq]; omega))) (by omega)).2.1 | exact (tm_in (by (first | (rw [w64_id (by omega)]; omega) | (simp only [w64_eq]; omega))) (by omega)).2.2 | (simp only [List.length_take] at *; omega) | (simp <;> omega))) (by kernel_rfl) (by kernel_rfl) ?_
          refine TL.val (sV (Instr.loadAt 29 (.pointer (some ((A_2.getD noAddr).add (k * 20)))))) (some 54) (FilterTrack.v x) [(0, .slice A1 ((l.take (imin (l.length : Int) 8).toNat).length) (c_l - 0)), (8, .slice A_2 r2.1.length c_2), (10, .pointer (some ⟨b4, 0, none⟩)), (48, .slice A_2 r2.1.length c_2), (49, .int .i64 (r2.1.length : Int)), (50, .int .i64 (k : Int)), (52, .int .i64 (k : Int)), (54, FilterTrack.v x)] (fun w hM => run_load_agg (n := 20) (off := 0) (i := k) (FilterTrack.v x) (hM.rd_at 1 rfl) (map_at hx) (by kernel_rfl) (by kernel_rfl) (by kernel_rfl)) (by kernel_rfl) (by kernel_rfl) ?_
          refine TL.write 0 (fun b5 => [(0, .slice A1 ((l.take (imin (l.length : Int) 8).toNat).length) (c_l - 0)), (8, .slice A_2 r2.1.length c_2), (10, .pointer (some ⟨b4, 0, none⟩)), (12, .pointer (some ⟨b5, 0, none⟩)), (48, .slice A_2 r2.1.length c_2), (49, .int .i64 (r2.1.length : Int)), (50, .int .i64 (k : Int)), (52, .int .i64 (k : Int)), (54, FilterTrack.v x)]) (fun b5 => [.inl (b5, .cells (FilterTrack.c FilterTrack.zero) 29 (0, 0)), .inl (b4, .cells #[.func (.func 25) #[] #[.pointer (some ⟨b1, 0, none⟩)]] 56 (0, 0)), .inr (Own A_2 c_2 29 20 (r2.1.map FilterTrack.c)), .inl (b1, .cells #[.int .i64 band] 3 (0, 0))]) (fun b5 => ⟨by kernel_rfl, by kernel_rfl⟩) (fun b5 => ?_)
          refine TL.run 5 [] [(0, .slice A1 ((l.take (imin (l.length : Int) 8).toNat).length) (c_l - 0)), (8, .slice A_2 r2.1.length c_2), (10, .pointer (some ⟨b4, 0, none⟩)), (11, .int .i64 (k : Int)), (12, .pointer (some ⟨b5, 0, none⟩)), (48, .slice A_2 r2.1.length c_2), (49, .int .i64 (r2.1.length : Int)), (50, .int .i64 (k : Int)), (54, FilterTrack.v x)] rfl ⟨by kernel_rfl, by kernel_rfl⟩ ?_
          refine TL.write 0 (fun _ => [(0, .slice A1 ((l.take (imin (l.length : Int) 8).toNat).length) (c_l - 0)), (8, .slice A_2 r2.1.length c_2), (10, .pointer (some ⟨b4, 0, none⟩)), (11, .int .i64 (k : Int)), (12, .pointer (some ⟨b5, 0, none⟩)), (48, .slice A_2 r2.1.length c_2), (49, .int .i64 (r2.1.length : Int)), (50, .int .i64 (k : Int))]) (fun _ => [.inl (b5, .cells (FilterTrack.c x) 29 (0, 0)), .inl (b4, .cells #[.func (.func 25) #[] #[.pointer (some ⟨b1, 0, none⟩)]] 56 (0, 0)), .inr (Own A_2 c_2 29 20 (r2.1.map FilterTrack.c)), .inl (b1, .cells #[.int .i64 band] 3 (0, 0))]) (fun _ => ⟨by kernel_rfl, by kernel_rfl⟩) (fun _ => ?_)
          refine TL.next rfl ?_
          refine TC.seq ?_
          refine TC.region ?_
          refine TL.run 2 [] [(0, .slice A1 ((l.take (imin (l.length : Int) 8).toNat).length) (c_l - 0)), (8, .slice A_2 r2.1.length c_2), (10, .pointer (some ⟨b4, 0, none⟩)), (12, .pointer (some ⟨b5, 0, none⟩)), (48, .slice A_2 r2.1.length c_2), (49, .int .i64 (r2.1.length : Int)), (50, .int .i64 (k : Int)), (55, .slice A_2 r2.1.length c_2), (56, .int .i64 (k : Int))] rfl ⟨by kernel_rfl, by kernel_rfl⟩ ?_
          obtain ⟨A1_2, hA1_2⟩ : ∃ A0_, A0_ = (if c_2 = 0 then A_2 else A_2.map (fun a => a.add (0 * 20))) := ⟨_, rfl⟩
          refine TL.val (sV (Instr.sliceAt 30 (.slice A_2 r2.1.length c_2) none (some (.int .i64 (k : Int))) none)) (some 57) (.slice A1_2 ((r2.1.take k).length) (c_2 - 0)) [(0, .slice A1 ((l.take (imin (l.length : Int) 8).toNat).length) (c_l - 0)), (8, .slice A_2 r2.1.length c_2), (10, .pointer (some ⟨b4, 0, none⟩)), (12, .pointer (some ⟨b5, 0, none⟩)), (48, .slice A_2 r2.1.length c_2), (49, .int .i64 (r2.1.length : Int)), (50, .int .i64 (k : Int)), (57, .slice A1_2 ((r2.1.take k).length) (c_2 - 0))] (fun w hM => (run_slice 0 k (by kernel_rfl) (.inl ⟨rfl, rfl⟩) (.inr ⟨_, _, rfl, (by have q0_ := (bne_f (or_f1 h1)); have q1_ := (bne_f (or_f2 h1)); have q2_ := (bne_f h2); first | omega | (rw [List.length_set]; omega) | (rw [w64_id (by omega)]; omega) | (dsimp only; omega) | (rw [List.length_drop]; omega) | (simp only [w64_eq]; omega) | exact (tm_in (by (first | (rw [w64_id (by omega)]; omega) | (simp only [w64_eq]; omega))) (by omega)).1 | exact (tm_in (by (first | (rw [w64_id (by omega)]; omega) | (simp only [w64_eq]; omega))) (by omega)).2.1 | exact (tm_in (by (first | (rw [w64_id (by omega)]; omega) | (simp only [w64_eq]; omega))) (by omega)).2.2 | (simp only [List.length_take] at *; omega) | (simp <;> omega)), rfl⟩) (by have q0_ := (bne_f (or_f1 h1)); have q1_ := (bne_f (or_f2 h1)); have q2_ := (bne_f h2); first | omega | (rw [List.length_set]; omega) | (rw [w64_id (by omega)]; omega) | (dsimp only; omega) | (rw [List.length_drop]; omega) | (simp only [w64_eq]; omega) | exact (tm_in (by (first | (rw [w64_id (by omega)]; omega) | (simp only [w64_eq]; omega))) (by omega)).1 | exact (tm_in (by (first | (rw [w64_id (by omega)]; omega) | (simp only [w64_eq]; omega))) (by omega)).2.1 | exact (tm_in (by (first | (rw [w64_id (by omega)]; omega) | (simp only [w64_eq]; omega))) (by omega)).2.2 | (simp only [List.length_take] at *; omega) | (simp <;> omega)) (Nat.le_trans (by have q0_ := (bne_f (or_f1 h1)); have q1_ := (bne_f (or_f2 h1)); have q2_ := (bne_f h2); first | omega | (rw [List.length_set]; omega) | (rw [w64_id (by omega)]; omega) | (dsimp only; omega) | (rw [List.length_drop]; omega) | (simp only [w64_eq]; omega) | exact (tm_in (by (first | (rw [w64_id (by omega)]; omega) | (simp only [w64_eq]; omega))) (by omega)).1 | exact (tm_in (by (first | (rw [w64_id (by omega)]; omega) | (simp only [w64_eq]; omega))) (by omega)).2.1 | exact (tm_in (by (first | (rw [w64_id (by omega)]; omega) | (simp only [w64_eq]; omega))) (by omega)).2.2 | (simp only [List.length_take] at *; omega) | (simp <;> omega)) (hM.le_at 2 rfl))).trans (by rw [hA1_2]; have q0_ := (bne_f (or_f1 h1)); have q1_ := (bne_f (or_f2 h1)); have q2_ := (bne_f h2); congr 3; first | (simp only [List.length_take] <;> omega) | (simp only [List.length_take] at * <;> omega))) (by kernel_rfl) (by kernel_rfl) ?_
          refine TL.run 4 [] [(0, .slice A1 ((l.take (imin (l.length : Int) 8).toNat).length) (c_l - 0)), (8, .slice A_2 r2.1.length c_2), (10, .pointer (some ⟨b4, 0, none⟩)), (12, .pointer (some ⟨b5, 0, none⟩)), (48, .slice A_2 r2.1.length c_2), (49, .int .i64 (r2.1.length : Int)), (50, .int .i64 (k : Int)), (57, .slice A1_2 ((r2.1.take k).length) (c_2 - 0)), (58, .func (.func 28) #[] #[.pointer (some ⟨b4, 0, none⟩), .pointer (some ⟨b5, 0, none⟩)])] rfl ⟨by kernel_rfl, by kernel_rfl⟩ ?_
          refine TL.call (some 59) [(0, .slice A1 ((l.take (imin (l.length : Int) 8).toNat).length) (c_l - 0)), (8, .slice A_2 r2.1.length c_2), (10, .pointer (some ⟨b4, 0, none⟩)), (12, .pointer (some ⟨b5, 0, none⟩)), (48, .slice A_2 r2.1.length c_2), (49, .int .i64 (r2.1.length : Int)), (50, .int .i64 (k : Int)), (59, .bool ((ContainsFunc_two (r2.1.take k) band x)))] (fun w hM => ContainsFunc_two_w A1_2 (c_2 - 0) (r2.1.take k) ⟨b4, 0, none⟩ ⟨b1, 0, none⟩ band ⟨b5, 0, none⟩ x w (by have hR0_ := hM.rd_at 2 rfl; have hC0_ := hM.le_at 2 rfl; rw [hA1_2]; exact hR0_.cutMap 0 k hC0_) (by have hC0_ := hM.le_at 2 rfl; simp only [List.length_take]; omega) (Rd.lit hM 1 _ rfl (by kernel_rfl) (by kernel_rfl) (by kernel_rfl)) (Rd.lit hM 3 _ rfl (by kernel_rfl) (by kernel_rfl) (by kernel_rfl)) (Rd.lit hM 0 _ rfl (by kernel_rfl) (by kernel_rfl) (by kernel_rfl))) (by kernel_rfl) (by kernel_rfl) ?_
          generalize hr3 : ContainsFunc_two (r2.1.take k) band x = r3
          refine TL.run 6 [] [(0, .slice A1 ((l.take (imin (l.length : Int) 8).toNat).length) (c_l - 0)), (8, .slice A_2 r2.1.length c_2), (10, .pointer (some ⟨b4, 0, none⟩)), (12, .pointer (some ⟨b5, 0, none⟩)), (48, .slice A_2 r2.1.length c_2), (49, .int .i64 (r2.1.length : Int)), (50, .int .i64 (k : Int)), (60, .bool r3)] rfl ⟨by kernel_rfl, by kernel_rfl⟩ ?_
          refine TL.split 60 r3 (by kernel_rfl) (fun h4 => ?_) (fun h4 => ?_)
          · refine TL.run 11 [] [(0, .slice A1 ((l.take (imin (l.length : Int) 8).toNat).length) (c_l - 0)), (8, .slice A_2 r2.1.length c_2), (10, .pointer (some ⟨b4, 0, none⟩)), (48, .slice A_2 r2.1.length c_2), (49, .int .i64 (r2.1.length : Int)), (50, .int .i64 (k : Int)), (65, .bool true)] rfl ⟨by kernel_rfl, by kernel_rfl⟩ ?_
            refine TL.next rfl ?_
            refine TC.condT rfl (by kernel_rfl) ?_
            refine TC.seq ?_
            refine TC.region ?_
            refine TL.run 1 [] [(4, .bool false)] rfl ⟨by kernel_rfl, by kernel_rfl⟩ ?_
            refine TL.next rfl ?_
            refine TC.ret ?_
            refine TE.ret_block (TE.ret_then (TE.ret_then (TE.ret_block (TE.ret_then (TE.ret_then ?_)))))
            have e : skywaykeep2_FuseTracks l band = false := by subst hr1 hr2 hr3; unfold skywaykeep2_FuseTracks; exact cond_f h1 (cond_f h2 (elim_r (hR.symm.trans (hI.trans (by rw [hd]; exact cond_t h4 (rfl)))) rfl))
            exact TE.ret [] (.bool false) ⟨by kernel_rfl, by kernel_rfl⟩ (by rw [e]; first | done | kernel_rfl)
          · refine TL.run 8 [0] [(0, .slice A1 ((l.take (imin (l.length : Int) 8).toNat).length) (c_l - 0)), (8, .slice A_2 r2.1.length c_2), (10, .pointer (some ⟨b4, 0, none⟩)), (48, .slice A_2 r2.1.length c_2), (49, .int .i64 (r2.1.length : Int)), (50, .int .i64 (k : Int)), (60, .bool false), (61, .slice A1 ((l.take (imin (l.length : Int) 8).toNat).length) (c_l - 0)), (62, FilterTrack.v x)] rfl ⟨by kernel_rfl, by kernel_rfl⟩ ?_
            refine TL.call (some 63) [(0, .slice A1 ((l.take (imin (l.length : Int) 8).toNat).length) (c_l - 0)), (8, .slice A_2 r2.1.length c_2), (10, .pointer (some ⟨b4, 0, none⟩)), (48, .slice A_2 r2.1.length c_2), (49, .int .i64 (r2.1.length : Int)), (50, .int .i64 (k : Int)), (60, .bool false), (63, .bool ((slices_Contains_api_FilterTrack_api_FilterTrack (l.take (imin (l.length : Int) 8).toNat) x)))] (fun w hM => slices_Contains_api_FilterTrack_api_FilterTrack_w A1 (c_l - 0) (l.take (imin (l.length : Int) 8).toNat) x w (hR1.sat hM) hC1) (by kernel_rfl) (by kernel_rfl) ?_
            generalize hr4 : slices_Contains_api_FilterTrack_api_FilterTrack (l.take (imin (l.length : Int) 8).toNat) x = r4
            refine TL.run 11 [] [(0, .slice A1 ((l.take (imin (l.length : Int) 8).toNat).length) (c_l - 0)), (8, .slice A_2 r2.1.length c_2), (10, .pointer (some ⟨b4, 0, none⟩)), (48, .slice A_2 r2.1.length c_2), (49, .int .i64 (r2.1.length : Int)), (50, .int .i64 (k : Int)), (65, .bool (!r4))] rfl ⟨by kernel_rfl, by kernel_rfl⟩ ?_
            refine TL.next rfl ?_
            refine TC.cond (!r4) rfl (by kernel_rfl) (fun h5 => ?_) (fun h5 => ?_)
            · refine TC.seq ?_
              refine TC.region ?_
              refine TL.run 1 [] [(4, .bool false)] rfl ⟨by kernel_rfl, by kernel_rfl⟩ ?_
              refine TL.next rfl ?_
              refine TC.ret ?_
              refine TE.ret_block (TE.ret_then (TE.ret_then (TE.ret_block (TE.ret_then (TE.ret_then ?_)))))
              have e : skywaykeep2_FuseTracks l band = false := by subst hr1 hr2 hr3 hr4; unfold skywaykeep2_FuseTracks; exact cond_f h1 (cond_f h2 (elim_r (hR.symm.trans (hI.trans (by rw [hd]; exact cond_f h4 (cond_t h5 (rfl))))) rfl))
              exact TE.ret [] (.bool false) ⟨by kernel_rfl, by kernel_rfl⟩ (by rw [e]; first | done | kernel_rfl)
            · refine TC.skip ?_
              refine TE.normal_block ?_
              refine TE.next ?_
              refine TC.region ?_
              refine TL.run 2 [] [(0, .slice A1 ((l.take (imin (l.length : Int) 8).toNat).length) (c_l - 0)), (8, .slice A_2 r2.1.length c_2), (10, .pointer (some ⟨b4, 0, none⟩)), (48, .slice A_2 r2.1.length c_2), (49, .int .i64 (r2.1.length : Int)), (50, .int .i64 (w64 ((k : Int) + 1)))] rfl ⟨by kernel_rfl, by kernel_rfl⟩ ?_
              refine TL.done rfl ?_
              refine TE.rw 50 (.int .i64 (w64 ((k : Int) + 1))) (.int .i64 ((k + 1 : Nat) : Int)) (by kernel_rfl) (w64_cast k (by omega)) ?_
              exact TE.again (x := k) (k + 1) ⟨by omega, hI.trans (by subst hr1 hr2 hr3 hr4; rw [hd]; exact cond_f h4 (cond_f h5 (rfl)))⟩ (by show r2.1.length - (k + 1) < r2.1.length - k; omega) (by kernel_rfl) (.cons _ (.cons_cons _ (.cons_cons _ (.cons_cons _ (.slnil)))))
        · have hd : r2.1.drop k = [] := List.drop_eq_nil_of_le (by have := of_decide_eq_false h3; first | omega | (simp at this; omega))
          refine TC.exit ?_
          refine TE.exit_then (TE.exit_then (TE.exit_same ?_))
          exact TE.cut () (hI.trans (by subst hr1 hr2; rw [hd]; exact rfl)) (by kernel_rfl) (.cons_cons _ (.cons_cons _ (.cons_cons _ (.slnil))))
      · intro _ hJ
        refine TE.next ?_
        refine TC.seq ?_
        refine TC.seq ?_
        refine TC.region ?_
        refine TL.run 3 [] [(0, .slice A1 ((l.take (imin (l.length : Int) 8).toNat).length) (c_l - 0)), (8, .slice A_2 r2.1.length c_2), (10, .pointer (some ⟨b4, 0, none⟩)), (67, .slice A1 ((l.take (imin (l.length : Int) 8).toNat).length) (c_l - 0)), (68, .int .i64 ((l.take (imin (l.length : Int) 8).toNat).length : Int)), (69, .int .i64 0)] rfl ⟨by kernel_rfl, by kernel_rfl⟩ ?_
        refine TL.next rfl ?_
        refine TC.weak [(0, .slice A1 ((l.take (imin (l.length : Int) 8).toNat).length) (c_l - 0)), (8, .slice A_2 r2.1.length c_2), (10, .pointer (some ⟨b4, 0, none⟩)), (67, .slice A1 ((l.take (imin (l.length : Int) 8).toNat).length) (c_l - 0)), (68, .int .i64 ((l.take (imin (l.length : Int) 8).toNat).length : Int)), (69, .int .i64 0)] (by kernel_rfl) ?_
        obtain ⟨R2, hR_2⟩ : ∃ R, R = skywaykeep2_FuseTracks_L2 l band r2 (l.take (imin (l.length : Int) 8).toNat) 0 := ⟨_, rfl⟩
        refine TC.cut (S := Unit) (fun (_ : Unit) => [(0, .slice A1 ((l.take (imin (l.length : Int) 8).toNat).length) (c_l - 0)), (8, .slice A_2 r2.1.length c_2)]) (fun (_ : Unit) => [.inr (Own A_2 c_2 29 20 (r2.1.map FilterTrack.c))]) (fun (_ : Unit) => R2 = .inl ()) ?_ ?_
        · refine TC.block ?_
          refine TC.loop (X := Nat) (fun k_2 => [(0, .slice A1 ((l.take (imin (l.length : Int) 8).toNat).length) (c_l - 0)), (8, .slice A_2 r2.1.length c_2), (10, .pointer (some ⟨b4, 0, none⟩)), (67, .slice A1 ((l.take (imin (l.length : Int) 8).toNat).length) (c_l - 0)), (68, .int .i64 ((l.take (imin (l.length : Int) 8).toNat).length : Int)), (69, .int .i64 (k_2 : Int))]) (fun k_2 => [.inl (b4, .cells #[.func (.func 25) #[] #[.pointer (some ⟨b1, 0, none⟩)]] 56 (0, 0)), .inr (Own A_2 c_2 29 20 (r2.1.map FilterTrack.c)), .inl (b1, .cells #[.int .i64 band] 3 (0, 0))]) (fun k_2 => (l.take (imin (l.length : Int) 8).toNat).length - k_2) (fun k_2 => k_2 ≤ (l.take (imin (l.length : Int) 8).toNat).length ∧ R2 = skywaykeep2_FuseTracks_L2 l band r2 ((l.take (imin (l.length : Int) 8).toNat).drop k_2) k_2) ?_ 0 ⟨Nat.zero_le _, hR_2⟩
          rintro k_2 ⟨hk_2, hI_2⟩
          refine TC.seq ?_
          refine TC.region ?_
          refine TL.run 1 [] [(0, .slice A1 ((l.take (imin (l.length : Int) 8).toNat).length) (c_l - 0)), (8, .slice A_2 r2.1.length c_2), (10, .pointer (some ⟨b4, 0, none⟩)), (67, .slice A1 ((l.take (imin (l.length : Int) 8).toNat).length) (c_l - 0)), (68, .int .i64 ((l.take (imin (l.length : Int) 8).toNat).length : Int)), (69, .int .i64 (k_2 : Int)), (70, .bool (decide ((k_2 : Int) < ((l.take (imin (l.length : Int) 8).toNat).length : Int))))] rfl ⟨by kernel_rfl, by kernel_rfl⟩ ?_
          refine TL.next rfl ?_
          refine TC.seq ?_
          refine TC.cond (decide ((k_2 : Int) < ((l.take (imin (l.length : Int) 8).toNat).length : Int))) rfl (by kernel_rfl) (fun h6 => ?_) (fun h6 => ?_)
          · have hlt_2 : k_2 < (l.take (imin (l.length : Int) 8).toNat).length := by have := of_decide_eq_true h6; first | omega | (simp at this; omega)
            obtain ⟨x_2, hx_2⟩ : ∃ e_, (l.take (imin (l.length : Int) 8).toNat)[k_2]? = some e_ := ⟨_, List.getElem?_eq_getElem hlt_2⟩
            have hd_2 := drop_at hx_2
            refine TC.skip ?_
            refine TE.next ?_
            refine TC.seq ?_
            refine TC.block ?_
            refine TC.seq ?_
            refine TC.region ?_
            refine TL.run 1 [] [(0, .slice A1 ((l.take (imin (l.length : Int) 8).toNat).length) (c_l - 0)), (8, .slice A_2 r2.1.length c_2), (10, .pointer (some ⟨b4, 0, none⟩)), (67, .slice A1 ((l.take (imin (l.length : Int) 8).toNat).length) (c_l - 0)), (68, .int .i64 ((l.take (imin (l.length : Int) 8).toNat).length : Int)), (69, .int .i64 (k_2 : Int)), (71, .int .i64 (k_2 : Int))] rfl ⟨by kernel_rfl, by kernel_rfl⟩ ?_
            refine TL.val (sV (Instr.indexAt 30 (.slice A1 ((l.take (imin (l.length : Int) 8).toNat).length) (c_l - 0)) (.int .i64 (k_2 : Int)))) (some 72) (.pointer (some ((A1.getD noAddr).add (k_2 * 20)))) [(0, .slice A1 ((l.take (imin (l.length : Int) 8).toNat).length) (c_l - 0)), (8, .slice A_2 r2.1.length c_2), (10, .pointer (some ⟨b4, 0, none⟩)), (67, .slice A1 ((l.take (imin (l.length : Int) 8).toNat).length) (c_l - 0)), (68, .int .i64 ((l.take (imin (l.length : Int) 8).toNat).length : Int)), (69, .int .i64 (k_2 : Int)), (71, .int .i64 (k_2 : Int)), (72, .pointer (some ((A1.getD noAddr).add (k_2 * 20))))] (fun w hM => run_index (hR1.sat hM) (by simp) (by kernel_rfl) (by have q0_ := (bne_f (or_f1 h1)); have q1_ := (bne_f (or_f2 h1)); have q2_ := (bne_f h2); first | omega | (rw [List.length_set]; omega) | (rw [w64_id (by omega)]; omega) | (dsimp only; omega) | (rw [List.length_drop]; omega) | (simp only [w64_eq]; omega) | exact (tm_in (by (first | (rw [w64_id (by omega)]; omega) | (simp only [w64_eq]; omega))) (by omega)).1 | exact (tm_in (by (first | (rw [w64_id (by omega)]; omega) | (simp only [w64_eq]; omega))) (by omega)).2.1 | exact (tm_in (by (first | (rw [w64_id (by omega)]; omega) | (simp only [w64_eq]; omega))) (by omega)).2.2 | (simp only [List.length_take] at *; omega) | (simp <;> omega)) (by have q0_ := (bne_f (or_f1 h1)); have q1_ := (bne_f (or_f2 h1)); have q2_ := (bne_f h2); first | omega | (rw [List.length_set]; omega) | (rw [w64_id (by omega)]; omega) | (dsimp only; omega) | (rw [List.length_drop]; omega) | (simp only [w64_eq]; omega) | exact (tm_in (by (first | (rw [w64_id (by omega)]; omega) | (simp only [w64_eq]; omega))) (by omega)).1 | exact (tm_in (by (first | (rw [w64_id (by omega)]; omega) | (simp only [w64_eq]; omega))) (by omega)).2.1 | exact (tm_in (by (first | (rw [w64_id (by omega)]; omega) | (simp only [w64_eq]; omega))) (by omega)).2.2 | (simp only [List.length_take] at *; omega) | (simp <;> omega))) (by kernel_rfl) (by kernel_rfl) ?_
            refine TL.val (sV (Instr.loadAt 29 (.pointer (some ((A1.getD noAddr).add (k_2 * 20)))))) (some 73) (FilterTrack.v x_2) [(0, .slice A1 ((l.take (imin (l.length : Int) 8).toNat).length) (c_l - 0)), (8, .slice A_2 r2.1.length c_2), (10, .pointer (some ⟨b4, 0, none⟩)), (67, .slice A1 ((l.take (imin (l.length : Int) 8).toNat).length) (c_l - 0)), (68, .int .i64 ((l.take (imin (l.length : Int) 8).toNat).length : Int)), (69, .int .i64 (k_2 : Int)), (71, .int .i64 (k_2 : Int)), (73, FilterTrack.v x_2)] (fun w hM => run_load_agg (n := 20) (off := 0) (i := k_2) (FilterTrack.v x_2) (hR1.sat hM) (map_at hx_2) (by kernel_rfl) (by kernel_rfl) (by kernel_rfl)) (by kernel_rfl) (by kernel_rfl) ?_
            refine TL.write 0 (fun b6 => [(0, .slice A1 ((l.take (imin (l.length : Int) 8).toNat).length) (c_l - 0)), (8, .slice A_2 r2.1.length c_2), (10, .pointer (some ⟨b4, 0, none⟩)), (14, .pointer (some ⟨b6, 0, none⟩)), (67, .slice A1 ((l.take (imin (l.length : Int) 8).toNat).length) (c_l - 0)), (68, .int .i64 ((l.take (imin (l.length : Int) 8).toNat).length : Int)), (69, .int .i64 (k_2 : Int)), (71, .int .i64 (k_2 : Int)), (73, FilterTrack.v x_2)]) (fun b6 => [.inl (b6, .cells (FilterTrack.c FilterTrack.zero) 29 (0, 0)), .inl (b4, .cells #[.func (.func 25) #[] #[.pointer (some ⟨b1, 0, none⟩)]] 56 (0, 0)), .inr (Own A_2 c_2 29 20 (r2.1.map FilterTrack.c)), .inl (b1, .cells #[.int .i64 band] 3 (0, 0))]) (fun b6 => ⟨by kernel_rfl, by kernel_rfl⟩) (fun b6 => ?_)
            refine TL.run 5 [] [(0, .slice A1 ((l.take (imin (l.length : Int) 8).toNat).length) (c_l - 0)), (8, .slice A_2 r2.1.length c_2), (10, .pointer (some ⟨b4, 0, none⟩)), (13, .int .i64 (k_2 : Int)), (14, .pointer (some ⟨b6, 0, none⟩)), (67, .slice A1 ((l.take (imin (l.length : Int) 8).toNat).length) (c_l - 0)), (68, .int .i64 ((l.take (imin (l.length : Int) 8).toNat).length : Int)), (69, .int .i64 (k_2 : Int)), (73, FilterTrack.v x_2)] rfl ⟨by kernel_rfl, by kernel_rfl⟩ ?_
            refine TL.write 0 (fun _ => [(0, .slice A1 ((l.take (imin (l.length : Int) 8).toNat).length) (c_l - 0)), (8, .slice A_2 r2.1.length c_2), (10, .pointer (some ⟨b4, 0, none⟩)), (13, .int .i64 (k_2 : Int)), (14, .pointer (some ⟨b6, 0, none⟩)), (67, .slice A1 ((l.take (imin (l.length : Int) 8).toNat).length) (c_l - 0)), (68, .int .i64 ((l.take (imin (l.length : Int) 8).toNat).length : Int)), (69, .int .i64 (k_2 : Int))]) (fun _ => [.inl (b6, .cells (FilterTrack.c x_2) 29 (0, 0)), .inl (b4, .cells #[.func (.func 25) #[] #[.pointer (some ⟨b1, 0, none⟩)]] 56 (0, 0)), .inr (Own A_2 c_2 29 20 (r2.1.map FilterTrack.c)), .inl (b1, .cells #[.int .i64 band] 3 (0, 0))]) (fun _ => ⟨by kernel_rfl, by kernel_rfl⟩) (fun _ => ?_)
            refine TL.next rfl ?_
            refine TC.seq ?_
            refine TC.bsplit (!(slices_Contains_api_FilterTrack_api_FilterTrack r2.1 x_2)) (fun h7 => ?_) (fun h7 => ?_)
            · obtain ⟨r5, hr5⟩ : ∃ r, slices_Contains_api_FilterTrack_api_FilterTrack r2.1 x_2 = r := ⟨_, rfl⟩
              obtain ⟨A1_3, hA1_3⟩ : ∃ A0_, A0_ = (if (c_l - 0) = 0 then A1 else A1.map (fun a => a.add (0 * 20))) := ⟨_, rfl⟩
              have hR1_2 : Rd w 20 A1_3 (((l.take (imin (l.length : Int) 8).toNat).take k_2).map FilterTrack.c) := by rw [hA1_3]; exact hR1.cutMap 0 _ hC1
              have hC1_2 : ((l.take (imin (l.length : Int) 8).toNat).take k_2).length ≤ ((c_l - 0) - 0) := by simp only [List.length_take]; omega
              have s_hR1_2 := hR1_2.short; rw [List.length_map] at s_hR1_2
              obtain ⟨A1_4, hA1_4⟩ : ∃ A0_, A0_ = (if (c_l - 0) = (w64 ((k_2 : Int) + 1)).toNat then A1 else A1.map (fun a => a.add ((w64 ((k_2 : Int) + 1)).toNat * 20))) := ⟨_, rfl⟩
              have hR1_3 : Rd w 20 A1_4 (((l.take (imin (l.length : Int) 8).toNat).drop (w64 ((k_2 : Int) + 1)).toNat).map FilterTrack.c) := by rw [hA1_4]; exact hR1.dropMap _ hC1
              have hC1_3 : ((l.take (imin (l.length : Int) 8).toNat).drop (w64 ((k_2 : Int) + 1)).toNat).length ≤ ((c_l - 0) - (w64 ((k_2 : Int) + 1)).toNat) := by simp only [List.length_drop]; omega
              have s_hR1_3 := hR1_3.short; rw [List.length_map] at s_hR1_3
              obtain ⟨r6, hr6⟩ : ∃ r, slices_Concat_api_FilterTrack_api_FilterTrack ([((l.take (imin (l.length : Int) 8).toNat).take k_2), ((l.take (imin (l.length : Int) 8).toNat).drop (w64 ((k_2 : Int) + 1)).toNat)]) = r := ⟨_, rfl⟩
              obtain ⟨r7, hr7⟩ : ∃ r, ContainsFunc_three r6 band x_2 = r := ⟨_, rfl⟩
              refine TC.plan (G := Nat × (Option Addr × Nat)) (base := [(0, .slice A1 ((l.take (imin (l.length : Int) 8).toNat).length) (c_l - 0)), (8, .slice A_2 r2.1.length c_2), (10, .pointer (some ⟨b4, 0, none⟩)), (13, .int .i64 (k_2 : Int)), (14, .pointer (some ⟨b6, 0, none⟩)), (67, .slice A1 ((l.take (imin (l.length : Int) 8).toNat).length) (c_l - 0)), (68, .int .i64 ((l.take (imin (l.length : Int) 8).toNat).length : Int)), (69, .int .i64 (k_2 : Int))]) (vals := fun γ => [.slice A_2 r2.1.length c_2, FilterTrack.v x_2, .bool r5, .bool (!r5), .bool true, .slice A1 ((l.take (imin (l.length : Int) 8).toNat).length) (c_l - 0), .int .i64 (k_2 : Int), .slice A1_3 (((l.take (imin (l.length : Int) 8).toNat).take k_2).length) ((c_l - 0) - 0), .slice A1 ((l.take (imin (l.length : Int) 8).toNat).length) (c_l - 0), .int .i64 (k_2 : Int), .int .i64 (w64 ((k_2 : Int) + 1)), .slice A1_4 (((l.take (imin (l.length : Int) 8).toNat).drop (w64 ((k_2 : Int) + 1)).toNat).length) ((c_l - 0) - (w64 ((k_2 : Int) + 1)).toNat), .slice (some ⟨γ.1, 0, none⟩) 2 2, .slice (γ.2.1) r6.length (γ.2.2), .func (.func 31) #[] #[.pointer (some ⟨b4, 0, none⟩), .pointer (some ⟨b6, 0, none⟩)], .bool r7, .bool (!r7), .bool (!r7)]) (writes := [12, 13]) (mem := fun bs γ => match bs with | [x12_, x13_] => (bif x12_ then [.inl (γ.1, .cells #[.slice A1_3 (((l.take (imin (l.length : Int) 8).toNat).take k_2).length) ((c_l - 0) - 0), .slice A1_4 (((l.take (imin (l.length : Int) 8).toNat).drop (w64 ((k_2 : Int) + 1)).toNat).length) ((c_l - 0) - (w64 ((k_2 : Int) + 1)).toNat)] 30 (0, 0))] else []) ++ ((bif x13_ then [.inr (Own (γ.2.1) (γ.2.2) 29 20 (r6.map FilterTrack.c))] else []) ++ ([.inl (b6, .cells (FilterTrack.c x_2) 29 (0, 0)), .inl (b4, .cells #[.func (.func 25) #[] #[.pointer (some ⟨b1, 0, none⟩)]] 56 (0, 0)), .inr (Own A_2 c_2 29 20 (r2.1.map FilterTrack.c)), .inl (b1, .cells #[.int .i64 band] 3 (0, 0))])) | _ => []) (0, (none, 0)) (fun γ => [(0, .slice A1 ((l.take (imin (l.length : Int) 8).toNat).length) (c_l - 0)), (8, .slice A_2 r2.1.length c_2), (10, .pointer (some ⟨b4, 0, none⟩)), (67, .slice A1 ((l.take (imin (l.length : Int) 8).toNat).length) (c_l - 0)), (68, .int .i64 ((l.take (imin (l.length : Int) 8).toNat).length : Int)), (69, .int .i64 (k_2 : Int)), (91, .bool (!r7))]) (by kernel_rfl) (by kernel_rfl) (by kernel_rfl) (by kernel_rfl) (by kernel_rfl) (fun γ => by kernel_rfl) (fun _ hM => hM) (fun γ => by kernel_rfl) ?_ ?_
              · skip
                refine Steps.run (i := 0) 2 [0, 0] [.inl (b6, .cells (FilterTrack.c x_2) 29 (0, 0)), .inl (b4, .cells #[.func (.func 25) #[] #[.pointer (some ⟨b1, 0, none⟩)]] 56 (0, 0)), .inr (Own A_2 c_2 29 20 (r2.1.map FilterTrack.c)), .inl (b1, .cells #[.int .i64 band] 3 (0, 0))] (by kernel_rfl) (by kernel_rfl) (fun S (γ : Nat × (Option Addr × Nat)) w hM => by change Sat _ ((bif S 12 then [.inl (γ.1, .cells #[.slice A1_3 (((l.take (imin (l.length : Int) 8).toNat).take k_2).length) ((c_l - 0) - 0), .slice A1_4 (((l.take (imin (l.length : Int) 8).toNat).drop (w64 ((k_2 : Int) + 1)).toNat).length) ((c_l - 0) - (w64 ((k_2 : Int) + 1)).toNat)] 30 (0, 0))] else []) ++ ((bif S 13 then [.inr (Own (γ.2.1) (γ.2.2) 29 20 (r6.map FilterTrack.c))] else []) ++ ([.inl (b6, .cells (FilterTrack.c x_2) 29 (0, 0)), .inl (b4, .cells #[.func (.func 25) #[] #[.pointer (some ⟨b1, 0, none⟩)]] 56 (0, 0)), .inr (Own A_2 c_2 29 20 (r2.1.map FilterTrack.c)), .inl (b1, .cells #[.int .i64 band] 3 (0, 0))]))) w at hM; exact hM.sub (sub_skip (sub_skip (List.Sublist.refl _)))) (by kernel_rfl) (fun (γ : Nat × (Option Addr × Nat)) => ⟨by kernel_rfl, by kernel_rfl⟩) ?_
                refine Steps.call (i := 2) 29 (fun (γ : Nat × (Option Addr × Nat)) => #[.slice A_2 r2.1.length c_2, FilterTrack.v x_2]) (some 76) (fun (γ : Nat × (Option Addr × Nat)) => .bool r5) (fun (γ : Nat × (Option Addr × Nat)) => [.inl (b6, .cells (FilterTrack.c x_2) 29 (0, 0)), .inl (b4, .cells #[.func (.func 25) #[] #[.pointer (some ⟨b1, 0, none⟩)]] 56 (0, 0)), .inr (Own A_2 c_2 29 20 (r2.1.map FilterTrack.c)), .inl (b1, .cells #[.int .i64 band] 3 (0, 0))]) (by kernel_rfl) (fun S (γ : Nat × (Option Addr × Nat)) w _ hM => by change Sat _ ((bif S 12 then [.inl (γ.1, .cells #[.slice A1_3 (((l.take (imin (l.length : Int) 8).toNat).take k_2).length) ((c_l - 0) - 0), .slice A1_4 (((l.take (imin (l.length : Int) 8).toNat).drop (w64 ((k_2 : Int) + 1)).toNat).length) ((c_l - 0) - (w64 ((k_2 : Int) + 1)).toNat)] 30 (0, 0))] else []) ++ ((bif S 13 then [.inr (Own (γ.2.1) (γ.2.2) 29 20 (r6.map FilterTrack.c))] else []) ++ ([.inl (b6, .cells (FilterTrack.c x_2) 29 (0, 0)), .inl (b4, .cells #[.func (.func 25) #[] #[.pointer (some ⟨b1, 0, none⟩)]] 56 (0, 0)), .inr (Own A_2 c_2 29 20 (r2.1.map FilterTrack.c)), .inl (b1, .cells #[.int .i64 band] 3 (0, 0))]))) w at hM; exact hM.sub (sub_skip (sub_skip (List.Sublist.refl _)))) (fun (γ : Nat × (Option Addr × Nat)) w hM => by have h := slices_Contains_api_FilterTrack_api_FilterTrack_w A_2 c_2 r2.1 x_2 w (hM.rd_at 2 rfl) (hM.le_at 2 rfl); rw [hr5] at h; exact h) (fun (γ : Nat × (Option Addr × Nat)) => by kernel_rfl) (fun (γ : Nat × (Option Addr × Nat)) => by kernel_rfl) ?_
                refine Steps.run (i := 3) 4 [0] [.inl (b6, .cells (FilterTrack.c x_2) 29 (0, 0)), .inl (b4, .cells #[.func (.func 25) #[] #[.pointer (some ⟨b1, 0, none⟩)]] 56 (0, 0)), .inr (Own A_2 c_2 29 20 (r2.1.map FilterTrack.c)), .inl (b1, .cells #[.int .i64 band] 3 (0, 0))] (by kernel_rfl) (by kernel_rfl) (fun S (γ : Nat × (Option Addr × Nat)) w hM => by change Sat _ ((bif S 12 then [.inl (γ.1, .cells #[.slice A1_3 (((l.take (imin (l.length : Int) 8).toNat).take k_2).length) ((c_l - 0) - 0), .slice A1_4 (((l.take (imin (l.length : Int) 8).toNat).drop (w64 ((k_2 : Int) + 1)).toNat).length) ((c_l - 0) - (w64 ((k_2 : Int) + 1)).toNat)] 30 (0, 0))] else []) ++ ((bif S 13 then [.inr (Own (γ.2.1) (γ.2.2) 29 20 (r6.map FilterTrack.c))] else []) ++ ([.inl (b6, .cells (FilterTrack.c x_2) 29 (0, 0)), .inl (b4, .cells #[.func (.func 25) #[] #[.pointer (some ⟨b1, 0, none⟩)]] 56 (0, 0)), .inr (Own A_2 c_2 29 20 (r2.1.map FilterTrack.c)), .inl (b1, .cells #[.int .i64 band] 3 (0, 0))]))) w at hM; exact hM.sub (sub_skip (sub_skip (List.Sublist.refl _)))) (by kernel_rfl) (fun (γ : Nat × (Option Addr × Nat)) => ⟨by kernel_rfl, by kernel_rfl⟩) ?_
                refine Steps.val (i := 4) (fun (γ : Nat × (Option Addr × Nat)) => .pure (.value (.bool (!r5)))) (some 78) (fun (γ : Nat × (Option Addr × Nat)) => .bool true) (fun _ => [.inl (b6, .cells (FilterTrack.c x_2) 29 (0, 0)), .inl (b4, .cells #[.func (.func 25) #[] #[.pointer (some ⟨b1, 0, none⟩)]] 56 (0, 0)), .inr (Own A_2 c_2 29 20 (r2.1.map FilterTrack.c)), .inl (b1, .cells #[.int .i64 band] 3 (0, 0))]) (by kernel_rfl) (fun S (γ : Nat × (Option Addr × Nat)) w _ hM => by change Sat _ ((bif S 12 then [.inl (γ.1, .cells #[.slice A1_3 (((l.take (imin (l.length : Int) 8).toNat).take k_2).length) ((c_l - 0) - 0), .slice A1_4 (((l.take (imin (l.length : Int) 8).toNat).drop (w64 ((k_2 : Int) + 1)).toNat).length) ((c_l - 0) - (w64 ((k_2 : Int) + 1)).toNat)] 30 (0, 0))] else []) ++ ((bif S 13 then [.inr (Own (γ.2.1) (γ.2.2) 29 20 (r6.map FilterTrack.c))] else []) ++ ([.inl (b6, .cells (FilterTrack.c x_2) 29 (0, 0)), .inl (b4, .cells #[.func (.func 25) #[] #[.pointer (some ⟨b1, 0, none⟩)]] 56 (0, 0)), .inr (Own A_2 c_2 29 20 (r2.1.map FilterTrack.c)), .inl (b1, .cells #[.int .i64 band] 3 (0, 0))]))) w at hM; exact hM.sub (sub_skip (sub_skip (List.Sublist.refl _)))) (fun (γ : Nat × (Option Addr × Nat)) w _ => by have hh_ := h7; rw [hr5] at hh_; rw [hh_]; rfl) (fun (γ : Nat × (Option Addr × Nat)) => by kernel_rfl) (fun (γ : Nat × (Option Addr × Nat)) => by kernel_rfl) ?_
                refine Steps.run (i := 5) 7 [0, 0] [.inl (b6, .cells (FilterTrack.c x_2) 29 (0, 0)), .inl (b4, .cells #[.func (.func 25) #[] #[.pointer (some ⟨b1, 0, none⟩)]] 56 (0, 0)), .inr (Own A_2 c_2 29 20 (r2.1.map FilterTrack.c)), .inl (b1, .cells #[.int .i64 band] 3 (0, 0))] (by kernel_rfl) (by kernel_rfl) (fun S (γ : Nat × (Option Addr × Nat)) w hM => by change Sat _ ((bif S 12 then [.inl (γ.1, .cells #[.slice A1_3 (((l.take (imin (l.length : Int) 8).toNat).take k_2).length) ((c_l - 0) - 0), .slice A1_4 (((l.take (imin (l.length : Int) 8).toNat).drop (w64 ((k_2 : Int) + 1)).toNat).length) ((c_l - 0) - (w64 ((k_2 : Int) + 1)).toNat)] 30 (0, 0))] else []) ++ ((bif S 13 then [.inr (Own (γ.2.1) (γ.2.2) 29 20 (r6.map FilterTrack.c))] else []) ++ ([.inl (b6, .cells (FilterTrack.c x_2) 29 (0, 0)), .inl (b4, .cells #[.func (.func 25) #[] #[.pointer (some ⟨b1, 0, none⟩)]] 56 (0, 0)), .inr (Own A_2 c_2 29 20 (r2.1.map FilterTrack.c)), .inl (b1, .cells #[.int .i64 band] 3 (0, 0))]))) w at hM; exact hM.sub (sub_skip (sub_skip (List.Sublist.refl _)))) (by kernel_rfl) (fun (γ : Nat × (Option Addr × Nat)) => ⟨by kernel_rfl, by kernel_rfl⟩) ?_
                refine Steps.val (i := 7) (fun (γ : Nat × (Option Addr × Nat)) => sV (Instr.sliceAt 30 (.slice A1 ((l.take (imin (l.length : Int) 8).toNat).length) (c_l - 0)) none (some (.int .i64 (k_2 : Int))) none)) (some 81) (fun (γ : Nat × (Option Addr × Nat)) => .slice A1_3 (((l.take (imin (l.length : Int) 8).toNat).take k_2).length) ((c_l - 0) - 0)) (fun _ => [.inl (b6, .cells (FilterTrack.c x_2) 29 (0, 0)), .inl (b4, .cells #[.func (.func 25) #[] #[.pointer (some ⟨b1, 0, none⟩)]] 56 (0, 0)), .inr (Own A_2 c_2 29 20 (r2.1.map FilterTrack.c)), .inl (b1, .cells #[.int .i64 band] 3 (0, 0))]) (by kernel_rfl) (fun S (γ : Nat × (Option Addr × Nat)) w _ hM => by change Sat _ ((bif S 12 then [.inl (γ.1, .cells #[.slice A1_3 (((l.take (imin (l.length : Int) 8).toNat).take k_2).length) ((c_l - 0) - 0), .slice A1_4 (((l.take (imin (l.length : Int) 8).toNat).drop (w64 ((k_2 : Int) + 1)).toNat).length) ((c_l - 0) - (w64 ((k_2 : Int) + 1)).toNat)] 30 (0, 0))] else []) ++ ((bif S 13 then [.inr (Own (γ.2.1) (γ.2.2) 29 20 (r6.map FilterTrack.c))] else []) ++ ([.inl (b6, .cells (FilterTrack.c x_2) 29 (0, 0)), .inl (b4, .cells #[.func (.func 25) #[] #[.pointer (some ⟨b1, 0, none⟩)]] 56 (0, 0)), .inr (Own A_2 c_2 29 20 (r2.1.map FilterTrack.c)), .inl (b1, .cells #[.int .i64 band] 3 (0, 0))]))) w at hM; exact hM.sub (sub_skip (sub_skip (List.Sublist.refl _)))) (fun (γ : Nat × (Option Addr × Nat)) w hM => (run_slice 0 k_2 (by kernel_rfl) (.inl ⟨rfl, rfl⟩) (.inr ⟨_, _, rfl, (by have q0_ := (bne_f (or_f1 h1)); have q1_ := (bne_f (or_f2 h1)); have q2_ := (bne_f h2); first | omega | (rw [List.length_set]; omega) | (rw [w64_id (by omega)]; omega) | (dsimp only; omega) | (rw [List.length_drop]; omega) | (simp only [w64_eq]; omega) | exact (tm_in (by (first | (rw [w64_id (by omega)]; omega) | (simp only [w64_eq]; omega))) (by omega)).1 | exact (tm_in (by (first | (rw [w64_id (by omega)]; omega) | (simp only [w64_eq]; omega))) (by omega)).2.1 | exact (tm_in (by (first | (rw [w64_id (by omega)]; omega) | (simp only [w64_eq]; omega))) (by omega)).2.2 | (simp only [List.length_take] at *; omega) | (simp <;> omega)), rfl⟩) (by have q0_ := (bne_f (or_f1 h1)); have q1_ := (bne_f (or_f2 h1)); have q2_ := (bne_f h2); first | omega | (rw [List.length_set]; omega) | (rw [w64_id (by omega)]; omega) | (dsimp only; omega) | (rw [List.length_drop]; omega) | (simp only [w64_eq]; omega) | exact (tm_in (by (first | (rw [w64_id (by omega)]; omega) | (simp only [w64_eq]; omega))) (by omega)).1 | exact (tm_in (by (first | (rw [w64_id (by omega)]; omega) | (simp only [w64_eq]; omega))) (by omega)).2.1 | exact (tm_in (by (first | (rw [w64_id (by omega)]; omega) | (simp only [w64_eq]; omega))) (by omega)).2.2 | (simp only [List.length_take] at *; omega) | (simp <;> omega)) (by have q0_ := (bne_f (or_f1 h1)); have q1_ := (bne_f (or_f2 h1)); have q2_ := (bne_f h2); first | omega | (rw [List.length_set]; omega) | (rw [w64_id (by omega)]; omega) | (dsimp only; omega) | (rw [List.length_drop]; omega) | (simp only [w64_eq]; omega) | exact (tm_in (by (first | (rw [w64_id (by omega)]; omega) | (simp only [w64_eq]; omega))) (by omega)).1 | exact (tm_in (by (first | (rw [w64_id (by omega)]; omega) | (simp only [w64_eq]; omega))) (by omega)).2.1 | exact (tm_in (by (first | (rw [w64_id (by omega)]; omega) | (simp only [w64_eq]; omega))) (by omega)).2.2 | (simp only [List.length_take] at *; omega) | (simp <;> omega))).trans (by rw [hA1_3]; have q0_ := (bne_f (or_f1 h1)); have q1_ := (bne_f (or_f2 h1)); have q2_ := (bne_f h2); congr 3; first | (simp only [List.length_take] <;> omega) | (simp only [List.length_take] at * <;> omega))) (fun (γ : Nat × (Option Addr × Nat)) => by kernel_rfl) (fun (γ : Nat × (Option Addr × Nat)) => by kernel_rfl) ?_
                refine Steps.run (i := 8) 11 [0, 0, 0] [.inl (b6, .cells (FilterTrack.c x_2) 29 (0, 0)), .inl (b4, .cells #[.func (.func 25) #[] #[.pointer (some ⟨b1, 0, none⟩)]] 56 (0, 0)), .inr (Own A_2 c_2 29 20 (r2.1.map FilterTrack.c)), .inl (b1, .cells #[.int .i64 band] 3 (0, 0))] (by kernel_rfl) (by kernel_rfl) (fun S (γ : Nat × (Option Addr × Nat)) w hM => by change Sat _ ((bif S 12 then [.inl (γ.1, .cells #[.slice A1_3 (((l.take (imin (l.length : Int) 8).toNat).take k_2).length) ((c_l - 0) - 0), .slice A1_4 (((l.take (imin (l.length : Int) 8).toNat).drop (w64 ((k_2 : Int) + 1)).toNat).length) ((c_l - 0) - (w64 ((k_2 : Int) + 1)).toNat)] 30 (0, 0))] else []) ++ ((bif S 13 then [.inr (Own (γ.2.1) (γ.2.2) 29 20 (r6.map FilterTrack.c))] else []) ++ ([.inl (b6, .cells (FilterTrack.c x_2) 29 (0, 0)), .inl (b4, .cells #[.func (.func 25) #[] #[.pointer (some ⟨b1, 0, none⟩)]] 56 (0, 0)), .inr (Own A_2 c_2 29 20 (r2.1.map FilterTrack.c)), .inl (b1, .cells #[.int .i64 band] 3 (0, 0))]))) w at hM; exact hM.sub (sub_skip (sub_skip (List.Sublist.refl _)))) (by kernel_rfl) (fun (γ : Nat × (Option Addr × Nat)) => ⟨by kernel_rfl, by kernel_rfl⟩) ?_
                refine Steps.val (i := 11) (fun (γ : Nat × (Option Addr × Nat)) => sV (Instr.sliceAt 30 (.slice A1 ((l.take (imin (l.length : Int) 8).toNat).length) (c_l - 0)) (some (.int .i64 (w64 ((k_2 : Int) + 1)))) none none)) (some 85) (fun (γ : Nat × (Option Addr × Nat)) => .slice A1_4 (((l.take (imin (l.length : Int) 8).toNat).drop (w64 ((k_2 : Int) + 1)).toNat).length) ((c_l - 0) - (w64 ((k_2 : Int) + 1)).toNat)) (fun _ => [.inl (b6, .cells (FilterTrack.c x_2) 29 (0, 0)), .inl (b4, .cells #[.func (.func 25) #[] #[.pointer (some ⟨b1, 0, none⟩)]] 56 (0, 0)), .inr (Own A_2 c_2 29 20 (r2.1.map FilterTrack.c)), .inl (b1, .cells #[.int .i64 band] 3 (0, 0))]) (by kernel_rfl) (fun S (γ : Nat × (Option Addr × Nat)) w _ hM => by change Sat _ ((bif S 12 then [.inl (γ.1, .cells #[.slice A1_3 (((l.take (imin (l.length : Int) 8).toNat).take k_2).length) ((c_l - 0) - 0), .slice A1_4 (((l.take (imin (l.length : Int) 8).toNat).drop (w64 ((k_2 : Int) + 1)).toNat).length) ((c_l - 0) - (w64 ((k_2 : Int) + 1)).toNat)] 30 (0, 0))] else []) ++ ((bif S 13 then [.inr (Own (γ.2.1) (γ.2.2) 29 20 (r6.map FilterTrack.c))] else []) ++ ([.inl (b6, .cells (FilterTrack.c x_2) 29 (0, 0)), .inl (b4, .cells #[.func (.func 25) #[] #[.pointer (some ⟨b1, 0, none⟩)]] 56 (0, 0)), .inr (Own A_2 c_2 29 20 (r2.1.map FilterTrack.c)), .inl (b1, .cells #[.int .i64 band] 3 (0, 0))]))) w at hM; exact hM.sub (sub_skip (sub_skip (List.Sublist.refl _)))) (fun (γ : Nat × (Option Addr × Nat)) w hM => (run_slice (w64 ((k_2 : Int) + 1)).toNat (l.take (imin (l.length : Int) 8).toNat).length (by kernel_rfl) (.inr ⟨_, _, rfl, (by have q0_ := (bne_f (or_f1 h1)); have q1_ := (bne_f (or_f2 h1)); have q2_ := (bne_f h2); first | omega | (rw [List.length_set]; omega) | (rw [w64_id (by omega)]; omega) | (dsimp only; omega) | (rw [List.length_drop]; omega) | (simp only [w64_eq]; omega) | exact (tm_in (by (first | (rw [w64_id (by omega)]; omega) | (simp only [w64_eq]; omega))) (by omega)).1 | exact (tm_in (by (first | (rw [w64_id (by omega)]; omega) | (simp only [w64_eq]; omega))) (by omega)).2.1 | exact (tm_in (by (first | (rw [w64_id (by omega)]; omega) | (simp only [w64_eq]; omega))) (by omega)).2.2 | (simp only [List.length_take] at *; omega) | (simp <;> omega)), rfl⟩) (.inl ⟨rfl, rfl⟩) (by have q0_ := (bne_f (or_f1 h1)); have q1_ := (bne_f (or_f2 h1)); have q2_ := (bne_f h2); first | omega | (rw [List.length_set]; omega) | (rw [w64_id (by omega)]; omega) | (dsimp only; omega) | (rw [List.length_drop]; omega) | (simp only [w64_eq]; omega) | exact (tm_in (by (first | (rw [w64_id (by omega)]; omega) | (simp only [w64_eq]; omega))) (by omega)).1 | exact (tm_in (by (first | (rw [w64_id (by omega)]; omega) | (simp only [w64_eq]; omega))) (by omega)).2.1 | exact (tm_in (by (first | (rw [w64_id (by omega)]; omega) | (simp only [w64_eq]; omega))) (by omega)).2.2 | (simp only [List.length_take] at *; omega) | (simp <;> omega)) (by omega)).trans (by rw [hA1_4]; congr 3; simp only [List.length_drop])) (fun (γ : Nat × (Option Addr × Nat)) => by kernel_rfl) (fun (γ : Nat × (Option Addr × Nat)) => by kernel_rfl) ?_
                refine Steps.op (i := 12) (Γ := Nat) (fun g (γ : Nat × (Option Addr × Nat)) => (g, γ.2)) (fun _ => []) (fun b (γ : Nat × (Option Addr × Nat)) => [.inl (b, .cells #[.slice A1_3 (((l.take (imin (l.length : Int) 8).toNat).take k_2).length) ((c_l - 0) - 0), .slice A1_4 (((l.take (imin (l.length : Int) 8).toNat).drop (w64 ((k_2 : Int) + 1)).toNat).length) ((c_l - 0) - (w64 ((k_2 : Int) + 1)).toNat)] 30 (0, 0))]) (fun S (γ : Nat × (Option Addr × Nat)) => (bif S 13 then [.inr (Own (γ.2.1) (γ.2.2) 29 20 (r6.map FilterTrack.c))] else []) ++ ([.inl (b6, .cells (FilterTrack.c x_2) 29 (0, 0)), .inl (b4, .cells #[.func (.func 25) #[] #[.pointer (some ⟨b1, 0, none⟩)]] 56 (0, 0)), .inr (Own A_2 c_2 29 20 (r2.1.map FilterTrack.c)), .inl (b1, .cells #[.int .i64 band] 3 (0, 0))])) [12, 13, 15, 16, 17] (fun (γ : Nat × (Option Addr × Nat)) => sV (Instr.buildSlice 120 2 #[(0, .slice A1_3 (((l.take (imin (l.length : Int) 8).toNat).take k_2).length) ((c_l - 0) - 0)), (1, .slice A1_4 (((l.take (imin (l.length : Int) 8).toNat).drop (w64 ((k_2 : Int) + 1)).toNat).length) ((c_l - 0) - (w64 ((k_2 : Int) + 1)).toNat))])) (some 86) (fun b (γ : Nat × (Option Addr × Nat)) => .slice (some ⟨b, 0, none⟩) 2 2) (fun S (γ : Nat × (Option Addr × Nat)) hj hd hl => by change List.Perm (((bif S 12 then [.inl (γ.1, .cells #[.slice A1_3 (((l.take (imin (l.length : Int) 8).toNat).take k_2).length) ((c_l - 0) - 0), .slice A1_4 (((l.take (imin (l.length : Int) 8).toNat).drop (w64 ((k_2 : Int) + 1)).toNat).length) ((c_l - 0) - (w64 ((k_2 : Int) + 1)).toNat)] 30 (0, 0))] else []) ++ ((bif S 13 then [.inr (Own (γ.2.1) (γ.2.2) 29 20 (r6.map FilterTrack.c))] else []) ++ ([.inl (b6, .cells (FilterTrack.c x_2) 29 (0, 0)), .inl (b4, .cells #[.func (.func 25) #[] #[.pointer (some ⟨b1, 0, none⟩)]] 56 (0, 0)), .inr (Own A_2 c_2 29 20 (r2.1.map FilterTrack.c)), .inl (b1, .cells #[.int .i64 band] 3 (0, 0))]))) : Mem) _; rw [hj]; exact List.Perm.refl _) (fun S (γ : Nat × (Option Addr × Nat)) g _ => (List.Perm.refl _).symm) (fun (γ : Nat × (Option Addr × Nat)) M' w hM => run_new (v := fun b => .slice (some ⟨b, 0, none⟩) 2 2) (fun b M => by kernel_rfl) M' w hM) (fun (γ : Nat × (Option Addr × Nat)) => by kernel_rfl) (fun (γ : Nat × (Option Addr × Nat)) g => by kernel_rfl) (by kernel_rfl) (fun (γ : Nat × (Option Addr × Nat)) g => by kernel_rfl) ?_
                refine Steps.callN (i := 13) (Γ := Option Addr × Nat) (fun g (γ : Nat × (Option Addr × Nat)) => (γ.1, g)) 30 (fun (γ : Nat × (Option Addr × Nat)) => #[.slice (some ⟨γ.1, 0, none⟩) 2 2]) (fun (γ : Nat × (Option Addr × Nat)) => [.inl (γ.1, .cells #[.slice A1_3 (((l.take (imin (l.length : Int) 8).toNat).take k_2).length) ((c_l - 0) - 0), .slice A1_4 (((l.take (imin (l.length : Int) 8).toNat).drop (w64 ((k_2 : Int) + 1)).toNat).length) ((c_l - 0) - (w64 ((k_2 : Int) + 1)).toNat)] 30 (0, 0)), .inl (b6, .cells (FilterTrack.c x_2) 29 (0, 0)), .inl (b4, .cells #[.func (.func 25) #[] #[.pointer (some ⟨b1, 0, none⟩)]] 56 (0, 0)), .inr (Own A_2 c_2 29 20 (r2.1.map FilterTrack.c)), .inl (b1, .cells #[.int .i64 band] 3 (0, 0))]) (fun g (γ : Nat × (Option Addr × Nat)) => [.inr (Own (g.1) (g.2) 29 20 (r6.map FilterTrack.c))]) [13, 15, 16, 17] (some 87) (fun g (γ : Nat × (Option Addr × Nat)) => .slice (g.1) r6.length (g.2)) (fun S (γ : Nat × (Option Addr × Nat)) w hd hM => by change Sat _ ((bif S 12 then [.inl (γ.1, .cells #[.slice A1_3 (((l.take (imin (l.length : Int) 8).toNat).take k_2).length) ((c_l - 0) - 0), .slice A1_4 (((l.take (imin (l.length : Int) 8).toNat).drop (w64 ((k_2 : Int) + 1)).toNat).length) ((c_l - 0) - (w64 ((k_2 : Int) + 1)).toNat)] 30 (0, 0))] else []) ++ ((bif S 13 then [.inr (Own (γ.2.1) (γ.2.2) 29 20 (r6.map FilterTrack.c))] else []) ++ ([.inl (b6, .cells (FilterTrack.c x_2) 29 (0, 0)), .inl (b4, .cells #[.func (.func 25) #[] #[.pointer (some ⟨b1, 0, none⟩)]] 56 (0, 0)), .inr (Own A_2 c_2 29 20 (r2.1.map FilterTrack.c)), .inl (b1, .cells #[.int .i64 band] 3 (0, 0))]))) w at hM; exact hM.sub (sub_keep (by rw [hd 12 (by kernel_rfl)]; rfl) (sub_skip (List.Sublist.refl _)))) (fun S (γ : Nat × (Option Addr × Nat)) g hj _ => by change List.Perm (_ ++ (((bif S 12 then [.inl (γ.1, .cells #[.slice A1_3 (((l.take (imin (l.length : Int) 8).toNat).take k_2).length) ((c_l - 0) - 0), .slice A1_4 (((l.take (imin (l.length : Int) 8).toNat).drop (w64 ((k_2 : Int) + 1)).toNat).length) ((c_l - 0) - (w64 ((k_2 : Int) + 1)).toNat)] 30 (0, 0))] else []) ++ ((bif S 13 then [.inr (Own (γ.2.1) (γ.2.2) 29 20 (r6.map FilterTrack.c))] else []) ++ ([.inl (b6, .cells (FilterTrack.c x_2) 29 (0, 0)), .inl (b4, .cells #[.func (.func 25) #[] #[.pointer (some ⟨b1, 0, none⟩)]] 56 (0, 0)), .inr (Own A_2 c_2 29 20 (r2.1.map FilterTrack.c)), .inl (b1, .cells #[.int .i64 band] 3 (0, 0))]))) : Mem)) _; rw [hj]; exact ((List.Perm.append_left _ (List.Perm.refl _)).trans (perm_mid _ _ _)).symm) (fun (γ : Nat × (Option Addr × Nat)) w hM => by have h := slices_Concat_api_FilterTrack_api_FilterTrack_w (some ⟨γ.1, 0, none⟩) 2 ([((l.take (imin (l.length : Int) 8).toNat).take k_2), ((l.take (imin (l.length : Int) 8).toNat).drop (w64 ((k_2 : Int) + 1)).toNat)]) ([(⟨A1_3, ((c_l - 0) - 0), ((l.take (imin (l.length : Int) 8).toNat).take k_2)⟩ : Sl FilterTrack), (⟨A1_4, ((c_l - 0) - (w64 ((k_2 : Int) + 1)).toNat), ((l.take (imin (l.length : Int) 8).toNat).drop (w64 ((k_2 : Int) + 1)).toNat)⟩ : Sl FilterTrack)]) w (Rd.lit hM 0 _ rfl (by kernel_rfl) (by kernel_rfl) (by kernel_rfl)) (Nat.le_refl _) (all_cons ⟨(hR1_2.sat hM), hC1_2⟩ (all_cons ⟨(hR1_3.sat hM), hC1_3⟩ all_nil)) (sl_cons rfl (sl_cons rfl rfl)) (by refine ⟨Nat.le_refl _, ?_⟩; intro s hs; have k_ := take8 l; rcases List.mem_cons.1 hs with rfl | hs; exact Nat.le_trans (Nat.le_trans (List.length_take_le' ..) k_) (by decide); rw [List.mem_singleton.1 hs]; exact Nat.le_trans (Nat.le_trans (by rw [List.length_drop]; exact Nat.sub_le ..) k_) (by decide)); rw [hr6] at h; exact h) (fun (γ : Nat × (Option Addr × Nat)) => by kernel_rfl) (fun (γ : Nat × (Option Addr × Nat)) g => by kernel_rfl) (by kernel_rfl) (fun (γ : Nat × (Option Addr × Nat)) g => by kernel_rfl) ?_
                refine Steps.run (i := 14) 15 [0] [.inl (b6, .cells (FilterTrack.c x_2) 29 (0, 0)), .inl (b4, .cells #[.func (.func 25) #[] #[.pointer (some ⟨b1, 0, none⟩)]] 56 (0, 0)), .inr (Own A_2 c_2 29 20 (r2.1.map FilterTrack.c)), .inl (b1, .cells #[.int .i64 band] 3 (0, 0))] (by kernel_rfl) (by kernel_rfl) (fun S (γ : Nat × (Option Addr × Nat)) w hM => by change Sat _ ((bif S 12 then [.inl (γ.1, .cells #[.slice A1_3 (((l.take (imin (l.length : Int) 8).toNat).take k_2).length) ((c_l - 0) - 0), .slice A1_4 (((l.take (imin (l.length : Int) 8).toNat).drop (w64 ((k_2 : Int) + 1)).toNat).length) ((c_l - 0) - (w64 ((k_2 : Int) + 1)).toNat)] 30 (0, 0))] else []) ++ ((bif S 13 then [.inr (Own (γ.2.1) (γ.2.2) 29 20 (r6.map FilterTrack.c))] else []) ++ ([.inl (b6, .cells (FilterTrack.c x_2) 29 (0, 0)), .inl (b4, .cells #[.func (.func 25) #[] #[.pointer (some ⟨b1, 0, none⟩)]] 56 (0, 0)), .inr (Own A_2 c_2 29 20 (r2.1.map FilterTrack.c)), .inl (b1, .cells #[.int .i64 band] 3 (0, 0))]))) w at hM; exact hM.sub (sub_skip (sub_skip (List.Sublist.refl _)))) (by kernel_rfl) (fun (γ : Nat × (Option Addr × Nat)) => ⟨by kernel_rfl, by kernel_rfl⟩) ?_
                refine Steps.call (i := 15) 27 (fun (γ : Nat × (Option Addr × Nat)) => #[.slice (γ.2.1) r6.length (γ.2.2), .func (.func 31) #[] #[.pointer (some ⟨b4, 0, none⟩), .pointer (some ⟨b6, 0, none⟩)]]) (some 89) (fun (γ : Nat × (Option Addr × Nat)) => .bool r7) (fun (γ : Nat × (Option Addr × Nat)) => [.inr (Own (γ.2.1) (γ.2.2) 29 20 (r6.map FilterTrack.c)), .inl (b6, .cells (FilterTrack.c x_2) 29 (0, 0)), .inl (b4, .cells #[.func (.func 25) #[] #[.pointer (some ⟨b1, 0, none⟩)]] 56 (0, 0)), .inr (Own A_2 c_2 29 20 (r2.1.map FilterTrack.c)), .inl (b1, .cells #[.int .i64 band] 3 (0, 0))]) (by kernel_rfl) (fun S (γ : Nat × (Option Addr × Nat)) w hd hM => by change Sat _ ((bif S 12 then [.inl (γ.1, .cells #[.slice A1_3 (((l.take (imin (l.length : Int) 8).toNat).take k_2).length) ((c_l - 0) - 0), .slice A1_4 (((l.take (imin (l.length : Int) 8).toNat).drop (w64 ((k_2 : Int) + 1)).toNat).length) ((c_l - 0) - (w64 ((k_2 : Int) + 1)).toNat)] 30 (0, 0))] else []) ++ ((bif S 13 then [.inr (Own (γ.2.1) (γ.2.2) 29 20 (r6.map FilterTrack.c))] else []) ++ ([.inl (b6, .cells (FilterTrack.c x_2) 29 (0, 0)), .inl (b4, .cells #[.func (.func 25) #[] #[.pointer (some ⟨b1, 0, none⟩)]] 56 (0, 0)), .inr (Own A_2 c_2 29 20 (r2.1.map FilterTrack.c)), .inl (b1, .cells #[.int .i64 band] 3 (0, 0))]))) w at hM; exact hM.sub (sub_skip (sub_keep (by rw [hd 13 (by kernel_rfl)]; rfl) (List.Sublist.refl _)))) (fun (γ : Nat × (Option Addr × Nat)) w hM => by have h := ContainsFunc_three_w (γ.2.1) (γ.2.2) r6 ⟨b4, 0, none⟩ ⟨b1, 0, none⟩ band ⟨b6, 0, none⟩ x_2 w (hM.rd_at 0 rfl) (hM.le_at 0 rfl) (Rd.lit hM 2 _ rfl (by kernel_rfl) (by kernel_rfl) (by kernel_rfl)) (Rd.lit hM 4 _ rfl (by kernel_rfl) (by kernel_rfl) (by kernel_rfl)) (Rd.lit hM 1 _ rfl (by kernel_rfl) (by kernel_rfl) (by kernel_rfl)); rw [hr7] at h; exact h) (fun (γ : Nat × (Option Addr × Nat)) => by kernel_rfl) (fun (γ : Nat × (Option Addr × Nat)) => by kernel_rfl) ?_
                refine Steps.run (i := 16) 18 [0, 0] [.inl (b6, .cells (FilterTrack.c x_2) 29 (0, 0)), .inl (b4, .cells #[.func (.func 25) #[] #[.pointer (some ⟨b1, 0, none⟩)]] 56 (0, 0)), .inr (Own A_2 c_2 29 20 (r2.1.map FilterTrack.c)), .inl (b1, .cells #[.int .i64 band] 3 (0, 0))] (by kernel_rfl) (by kernel_rfl) (fun S (γ : Nat × (Option Addr × Nat)) w hM => by change Sat _ ((bif S 12 then [.inl (γ.1, .cells #[.slice A1_3 (((l.take (imin (l.length : Int) 8).toNat).take k_2).length) ((c_l - 0) - 0), .slice A1_4 (((l.take (imin (l.length : Int) 8).toNat).drop (w64 ((k_2 : Int) + 1)).toNat).length) ((c_l - 0) - (w64 ((k_2 : Int) + 1)).toNat)] 30 (0, 0))] else []) ++ ((bif S 13 then [.inr (Own (γ.2.1) (γ.2.2) 29 20 (r6.map FilterTrack.c))] else []) ++ ([.inl (b6, .cells (FilterTrack.c x_2) 29 (0, 0)), .inl (b4, .cells #[.func (.func 25) #[] #[.pointer (some ⟨b1, 0, none⟩)]] 56 (0, 0)), .inr (Own A_2 c_2 29 20 (r2.1.map FilterTrack.c)), .inl (b1, .cells #[.int .i64 band] 3 (0, 0))]))) w at hM; exact hM.sub (sub_skip (sub_skip (List.Sublist.refl _)))) (by kernel_rfl) (fun (γ : Nat × (Option Addr × Nat)) => ⟨by kernel_rfl, by kernel_rfl⟩) ?_
                exact Steps.done (by kernel_rfl)
              · rintro ⟨b7, ⟨A_3, c_3⟩⟩
                refine TE.conv [.inl (b7, .cells #[.slice A1_3 (((l.take (imin (l.length : Int) 8).toNat).take k_2).length) ((c_l - 0) - 0), .slice A1_4 (((l.take (imin (l.length : Int) 8).toNat).drop (w64 ((k_2 : Int) + 1)).toNat).length) ((c_l - 0) - (w64 ((k_2 : Int) + 1)).toNat)] 30 (0, 0)), .inr (Own A_3 c_3 29 20 (r6.map FilterTrack.c)), .inl (b6, .cells (FilterTrack.c x_2) 29 (0, 0)), .inl (b4, .cells #[.func (.func 25) #[] #[.pointer (some ⟨b1, 0, none⟩)]] 56 (0, 0)), .inr (Own A_2 c_2 29 20 (r2.1.map FilterTrack.c)), .inl (b1, .cells #[.int .i64 band] 3 (0, 0))] (fun _ hM => hM) ?_
                refine TE.next ?_
                refine TC.cond (!r7) rfl (by kernel_rfl) (fun h8 => ?_) (fun h8 => ?_)
                · refine TC.seq ?_
                  refine TC.region ?_
                  refine TL.run 1 [] [(4, .bool false)] rfl ⟨by kernel_rfl, by kernel_rfl⟩ ?_
                  refine TL.next rfl ?_
                  refine TC.ret ?_
                  refine TE.ret_block (TE.ret_then (TE.ret_then (TE.ret_block (TE.ret_then (TE.ret_then ?_)))))
                  have e : skywaykeep2_FuseTracks l band = false := by subst hr1 hr2 hr5 hr6 hr7; unfold skywaykeep2_FuseTracks; exact cond_f h1 (cond_f h2 (elim_l (hR.symm.trans hJ) (elim_r (hR_2.symm.trans (hI_2.trans (by rw [hd_2]; exact cond_t h7 (cond_t h8 (rfl))))) rfl)))
                  exact TE.ret [] (.bool false) ⟨by kernel_rfl, by kernel_rfl⟩ (by rw [e]; first | done | kernel_rfl)
                · refine TC.skip ?_
                  refine TE.normal_block ?_
                  refine TE.next ?_
                  refine TC.region ?_
                  refine TL.run 2 [] [(0, .slice A1 ((l.take (imin (l.length : Int) 8).toNat).length) (c_l - 0)), (8, .slice A_2 r2.1.length c_2), (10, .pointer (some ⟨b4, 0, none⟩)), (67, .slice A1 ((l.take (imin (l.length : Int) 8).toNat).length) (c_l - 0)), (68, .int .i64 ((l.take (imin (l.length : Int) 8).toNat).length : Int)), (69, .int .i64 (w64 ((k_2 : Int) + 1)))] rfl ⟨by kernel_rfl, by kernel_rfl⟩ ?_
                  refine TL.done rfl ?_
                  refine TE.rw 69 (.int .i64 (w64 ((k_2 : Int) + 1))) (.int .i64 ((k_2 + 1 : Nat) : Int)) (by kernel_rfl) (w64_cast k_2 (by omega)) ?_
                  exact TE.again (x := k_2) (k_2 + 1) ⟨by omega, hI_2.trans (by subst hr1 hr2 hr5 hr6 hr7; rw [hd_2]; exact cond_t h7 (cond_f h8 (rfl)))⟩ (by show (l.take (imin (l.length : Int) 8).toNat).length - (k_2 + 1) < (l.take (imin (l.length : Int) 8).toNat).length - k_2; omega) (by kernel_rfl) (.cons _ (.cons _ (.cons _ (.cons_cons _ (.cons_cons _ (.cons_cons _ (.slnil)))))))
            · obtain ⟨r8, hr8⟩ : ∃ r, slices_Contains_api_FilterTrack_api_FilterTrack r2.1 x_2 = r := ⟨_, rfl⟩
              refine TC.plan (G := Unit) (base := [(0, .slice A1 ((l.take (imin (l.length : Int) 8).toNat).length) (c_l - 0)), (8, .slice A_2 r2.1.length c_2), (10, .pointer (some ⟨b4, 0, none⟩)), (13, .int .i64 (k_2 : Int)), (14, .pointer (some ⟨b6, 0, none⟩)), (67, .slice A1 ((l.take (imin (l.length : Int) 8).toNat).length) (c_l - 0)), (68, .int .i64 ((l.take (imin (l.length : Int) 8).toNat).length : Int)), (69, .int .i64 (k_2 : Int))]) (vals := fun γ => [.slice A_2 r2.1.length c_2, FilterTrack.v x_2, .bool r8, .bool (!r8), .bool false, undef, undef, undef, undef, undef, undef, undef, undef, undef, undef, undef, undef, .bool false]) (writes := []) (mem := fun bs γ => match bs with | [] => [.inl (b6, .cells (FilterTrack.c x_2) 29 (0, 0)), .inl (b4, .cells #[.func (.func 25) #[] #[.pointer (some ⟨b1, 0, none⟩)]] 56 (0, 0)), .inr (Own A_2 c_2 29 20 (r2.1.map FilterTrack.c)), .inl (b1, .cells #[.int .i64 band] 3 (0, 0))] | _ => []) () (fun γ => [(0, .slice A1 ((l.take (imin (l.length : Int) 8).toNat).length) (c_l - 0)), (8, .slice A_2 r2.1.length c_2), (10, .pointer (some ⟨b4, 0, none⟩)), (67, .slice A1 ((l.take (imin (l.length : Int) 8).toNat).length) (c_l - 0)), (68, .int .i64 ((l.take (imin (l.length : Int) 8).toNat).length : Int)), (69, .int .i64 (k_2 : Int)), (91, .bool false)]) (by kernel_rfl) (by kernel_rfl) (by kernel_rfl) (by kernel_rfl) (by kernel_rfl) (fun γ => by kernel_rfl) (fun _ hM => hM) (fun γ => by kernel_rfl) ?_ ?_
              · skip
                refine Steps.run (i := 0) 2 [0, 0] [.inl (b6, .cells (FilterTrack.c x_2) 29 (0, 0)), .inl (b4, .cells #[.func (.func 25) #[] #[.pointer (some ⟨b1, 0, none⟩)]] 56 (0, 0)), .inr (Own A_2 c_2 29 20 (r2.1.map FilterTrack.c)), .inl (b1, .cells #[.int .i64 band] 3 (0, 0))] (by kernel_rfl) (by kernel_rfl) (fun S (γ : Unit) w hM => by change Sat _ ([.inl (b6, .cells (FilterTrack.c x_2) 29 (0, 0)), .inl (b4, .cells #[.func (.func 25) #[] #[.pointer (some ⟨b1, 0, none⟩)]] 56 (0, 0)), .inr (Own A_2 c_2 29 20 (r2.1.map FilterTrack.c)), .inl (b1, .cells #[.int .i64 band] 3 (0, 0))]) w at hM; exact hM.sub (List.Sublist.refl _)) (by kernel_rfl) (fun (γ : Unit) => ⟨by kernel_rfl, by kernel_rfl⟩) ?_
                refine Steps.call (i := 2) 29 (fun (γ : Unit) => #[.slice A_2 r2.1.length c_2, FilterTrack.v x_2]) (some 76) (fun (γ : Unit) => .bool r8) (fun (γ : Unit) => [.inl (b6, .cells (FilterTrack.c x_2) 29 (0, 0)), .inl (b4, .cells #[.func (.func 25) #[] #[.pointer (some ⟨b1, 0, none⟩)]] 56 (0, 0)), .inr (Own A_2 c_2 29 20 (r2.1.map FilterTrack.c)), .inl (b1, .cells #[.int .i64 band] 3 (0, 0))]) (by kernel_rfl) (fun S (γ : Unit) w _ hM => by change Sat _ ([.inl (b6, .cells (FilterTrack.c x_2) 29 (0, 0)), .inl (b4, .cells #[.func (.func 25) #[] #[.pointer (some ⟨b1, 0, none⟩)]] 56 (0, 0)), .inr (Own A_2 c_2 29 20 (r2.1.map FilterTrack.c)), .inl (b1, .cells #[.int .i64 band] 3 (0, 0))]) w at hM; exact hM.sub (List.Sublist.refl _)) (fun (γ : Unit) w hM => by have h := slices_Contains_api_FilterTrack_api_FilterTrack_w A_2 c_2 r2.1 x_2 w (hM.rd_at 2 rfl) (hM.le_at 2 rfl); rw [hr8] at h; exact h) (fun (γ : Unit) => by kernel_rfl) (fun (γ : Unit) => by kernel_rfl) ?_
                refine Steps.run (i := 3) 4 [0] [.inl (b6, .cells (FilterTrack.c x_2) 29 (0, 0)), .inl (b4, .cells #[.func (.func 25) #[] #[.pointer (some ⟨b1, 0, none⟩)]] 56 (0, 0)), .inr (Own A_2 c_2 29 20 (r2.1.map FilterTrack.c)), .inl (b1, .cells #[.int .i64 band] 3 (0, 0))] (by kernel_rfl) (by kernel_rfl) (fun S (γ : Unit) w hM => by change Sat _ ([.inl (b6, .cells (FilterTrack.c x_2) 29 (0, 0)), .inl (b4, .cells #[.func (.func 25) #[] #[.pointer (some ⟨b1, 0, none⟩)]] 56 (0, 0)), .inr (Own A_2 c_2 29 20 (r2.1.map FilterTrack.c)), .inl (b1, .cells #[.int .i64 band] 3 (0, 0))]) w at hM; exact hM.sub (List.Sublist.refl _)) (by kernel_rfl) (fun (γ : Unit) => ⟨by kernel_rfl, by kernel_rfl⟩) ?_
                refine Steps.val (i := 4) (fun (γ : Unit) => .pure (.value (.bool (!r8)))) (some 78) (fun (γ : Unit) => .bool false) (fun _ => [.inl (b6, .cells (FilterTrack.c x_2) 29 (0, 0)), .inl (b4, .cells #[.func (.func 25) #[] #[.pointer (some ⟨b1, 0, none⟩)]] 56 (0, 0)), .inr (Own A_2 c_2 29 20 (r2.1.map FilterTrack.c)), .inl (b1, .cells #[.int .i64 band] 3 (0, 0))]) (by kernel_rfl) (fun S (γ : Unit) w _ hM => by change Sat _ ([.inl (b6, .cells (FilterTrack.c x_2) 29 (0, 0)), .inl (b4, .cells #[.func (.func 25) #[] #[.pointer (some ⟨b1, 0, none⟩)]] 56 (0, 0)), .inr (Own A_2 c_2 29 20 (r2.1.map FilterTrack.c)), .inl (b1, .cells #[.int .i64 band] 3 (0, 0))]) w at hM; exact hM.sub (List.Sublist.refl _)) (fun (γ : Unit) w _ => by have hh_ := h7; rw [hr8] at hh_; rw [hh_]; rfl) (fun (γ : Unit) => by kernel_rfl) (fun (γ : Unit) => by kernel_rfl) ?_
                refine Steps.run (i := 5) 18 [0, 0, 0, 0, 0, 0, 0, 0, 0, 0, 0, 0, 0] [.inl (b6, .cells (FilterTrack.c x_2) 29 (0, 0)), .inl (b4, .cells #[.func (.func 25) #[] #[.pointer (some ⟨b1, 0, none⟩)]] 56 (0, 0)), .inr (Own A_2 c_2 29 20 (r2.1.map FilterTrack.c)), .inl (b1, .cells #[.int .i64 band] 3 (0, 0))] (by kernel_rfl) (by kernel_rfl) (fun S (γ : Unit) w hM => by change Sat _ ([.inl (b6, .cells (FilterTrack.c x_2) 29 (0, 0)), .inl (b4, .cells #[.func (.func 25) #[] #[.pointer (some ⟨b1, 0, none⟩)]] 56 (0, 0)), .inr (Own A_2 c_2 29 20 (r2.1.map FilterTrack.c)), .inl (b1, .cells #[.int .i64 band] 3 (0, 0))]) w at hM; exact hM.sub (List.Sublist.refl _)) (by kernel_rfl) (fun (γ : Unit) => ⟨by kernel_rfl, by kernel_rfl⟩) ?_
                exact Steps.done (by kernel_rfl)
              · intro _
                refine TE.conv [.inl (b6, .cells (FilterTrack.c x_2) 29 (0, 0)), .inl (b4, .cells #[.func (.func 25) #[] #[.pointer (some ⟨b1, 0, none⟩)]] 56 (0, 0)), .inr (Own A_2 c_2 29 20 (r2.1.map FilterTrack.c)), .inl (b1, .cells #[.int .i64 band] 3 (0, 0))] (fun _ hM => hM) ?_
                refine TE.next ?_
                refine TC.condF rfl (by kernel_rfl) ?_
                refine TC.skip ?_
                refine TE.normal_block ?_
                refine TE.next ?_
                refine TC.region ?_
                refine TL.run 2 [] [(0, .slice A1 ((l.take (imin (l.length : Int) 8).toNat).length) (c_l - 0)), (8, .slice A_2 r2.1.length c_2), (10, .pointer (some ⟨b4, 0, none⟩)), (67, .slice A1 ((l.take (imin (l.length : Int) 8).toNat).length) (c_l - 0)), (68, .int .i64 ((l.take (imin (l.length : Int) 8).toNat).length : Int)), (69, .int .i64 (w64 ((k_2 : Int) + 1)))] rfl ⟨by kernel_rfl, by kernel_rfl⟩ ?_
                refine TL.done rfl ?_
                refine TE.rw 69 (.int .i64 (w64 ((k_2 : Int) + 1))) (.int .i64 ((k_2 + 1 : Nat) : Int)) (by kernel_rfl) (w64_cast k_2 (by omega)) ?_
                exact TE.again (x := k_2) (k_2 + 1) ⟨by omega, hI_2.trans (by subst hr1 hr2 hr8; rw [hd_2]; exact cond_f h7 (rfl))⟩ (by show (l.take (imin (l.length : Int) 8).toNat).length - (k_2 + 1) < (l.take (imin (l.length : Int) 8).toNat).length - k_2; omega) (by kernel_rfl) (.cons _ (.cons_cons _ (.cons_cons _ (.cons_cons _ (.slnil)))))
          · have hd_2 : (l.take (imin (l.length : Int) 8).toNat).drop k_2 = [] := List.drop_eq_nil_of_le (by have := of_decide_eq_false h6; first | omega | (simp at this; omega))
            refine TC.exit ?_
            refine TE.exit_then (TE.exit_then (TE.exit_same ?_))
            exact TE.cut () (hI_2.trans (by subst hr1 hr2; rw [hd_2]; exact rfl)) (by kernel_rfl) (.cons _ (.cons_cons _ (.cons _ (.slnil))))
        · intro _ hJ_2
          refine TE.next ?_
          refine TC.seq ?_
          refine TC.region ?_
          refine TL.run 4 [] [(8, .slice A_2 r2.1.length c_2), (96, .bool (((l.take (imin (l.length : Int) 8).toNat).length : Int) == 0))] rfl ⟨by kernel_rfl, by kernel_rfl⟩ ?_
          refine TL.join 96 (((l.take (imin (l.length : Int) 8).toNat).length : Int) == 0) 8 [] [] (fun β => [(100, .bool (β || (decide ((r2.1.length : Int) > 0))))]) (by kernel_rfl) rfl ⟨by kernel_rfl, by kernel_rfl⟩ ⟨by kernel_rfl, by kernel_rfl⟩ ?_
          refine TL.run 9 [] [(4, .bool ((((l.take (imin (l.length : Int) 8).toNat).length : Int) == 0) || (decide ((r2.1.length : Int) > 0))))] rfl ⟨by kernel_rfl, by kernel_rfl⟩ ?_
          refine TL.next rfl ?_
          refine TC.ret ?_
          have e : skywaykeep2_FuseTracks l band = ((((l.take (imin (l.length : Int) 8).toNat).length : Int) == 0) || (decide ((r2.1.length : Int) > 0))) := by subst hr1 hr2; unfold skywaykeep2_FuseTracks; exact cond_f h1 (cond_f h2 (elim_l (hR.symm.trans hJ) (elim_l (hR_2.symm.trans hJ_2) (rfl))))
          exact TE.ret [] (.bool ((((l.take (imin (l.length : Int) 8).toNat).length : Int) == 0) || (decide ((r2.1.length : Int) > 0)))) ⟨by kernel_rfl, by kernel_rfl⟩ (by rw [e]; first | done | kernel_rfl)

end Go.Sky
