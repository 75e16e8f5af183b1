/- Functions of the program, each with the Lean function that it computes. Conditions: none. -/
import Derived.Test.YtfjchccilkgcnaaSb
import Derived.Test.YtfjchccilkgcnaaSortPart
namespace Go.Sky
open Go Go.Eng Go.Proofs
open Go.Srt
set_option maxRecDepth 100000 in
theorem revP_w (A_data : Option Addr) (c_data : Nat) (data : List Plot) (a : Int) (b_ : Int) (w : World) (hM : Sat ⟨w, feet [.inr (Own A_data c_data 58 6 (data.map Plot.c))]⟩ [.inr (Own A_data c_data 58 6 (data.map Plot.c))] w) (hp : 0 ≤ a ∧ a ≤ b_ ∧ b_ ≤ (data.length : Int)) : Calls Try.prog 129 #[.slice A_data data.length c_data, .int .i64 a, .int .i64 b_, .func (.func 33) #[] #[]] w (RetM (Γ := (List Plot)) ⟨w, feet [.inr (Own A_data c_data 58 6 (data.map Plot.c))]⟩ (fun _ => .tuple #[]) (fun g => [.inr (Fact (g.length = data.length ∧ Same Plot.zero a b_ data g)), .inr (Own A_data c_data 58 6 (g.map Plot.c))])) := by
  refine calls_introM (w0 := ⟨w, feet [.inr (Own A_data c_data 58 6 (data.map Plot.c))]⟩) (vs := [.slice A_data data.length c_data, .int .i64 a, .int .i64 b_, .func (.func 33) #[] #[]]) hM Try.func129 rfl Try.ntmps129 rfl ?_
  refine TC.weak [(0, .slice A_data data.length c_data), (1, .int .i64 a), (2, .int .i64 b_), (3, .func (.func 33) #[] #[])] (by kernel_rfl) ?_
  refine TC.know (fun w hM => hM.short_at 0 rfl) (fun s_data => ?_)
  refine TC.seq ?_
  refine TC.region ?_
  refine TL.run 2 [] [(0, .slice A_data data.length c_data), (2, .int .i64 b_), (8, .int .i64 a)] rfl ⟨by kernel_rfl, by kernel_rfl⟩ ?_
  refine TL.next rfl ?_
  refine TC.seq ?_
  refine TC.region ?_
  refine TL.run 3 [] [(0, .slice A_data data.length c_data), (8, .int .i64 a), (9, .int .i64 (w64 (b_ - 1)))] rfl ⟨by kernel_rfl, by kernel_rfl⟩ ?_
  refine TL.rw 9 (.int .i64 (w64 (b_ - 1))) (.int .i64 (b_ - 1)) (by kernel_rfl) (int_eq (by rw [w64_id (x := (b_ - 1)) (by omega)])) ?_
  refine TL.next rfl ?_
  refine TC.weak [(0, .slice A_data data.length c_data), (8, .int .i64 a), (9, .int .i64 (b_ - 1))] (by kernel_rfl) ?_
  refine TC.cut (S := (List Plot)) (fun data_3 => []) (fun data_3 => [.inr (Own A_data c_data 58 6 (data_3.map Plot.c))]) (fun data_3 => (Same Plot.zero a b_ data data_3) ∧ data_3.length = data.length) ?_ ?_
  · refine TC.block ?_
    refine TC.loop (X := Int × Int × (List Plot)) (fun (i, j, data_2) => [(0, .slice A_data data_2.length c_data), (8, .int .i64 i), (9, .int .i64 j)]) (fun (i, j, data_2) => [.inr (Own A_data c_data 58 6 (data_2.map Plot.c))]) (fun (i, j, data_2) => (j - i).toNat) (fun (i, j, data_2) => ((a ≤ i ∧ j < b_ ∧ -1 ≤ j ∧ i ≤ b_) ∧ Same Plot.zero a b_ data data_2) ∧ data_2.length = data.length) ?_ (a, (b_ - 1), data) ⟨(by first | exact ⟨by omega, Same.refl _ _ _ _⟩), (by simp)⟩
    rintro ⟨i, j, data_2⟩ ⟨hv0, hl_data_2⟩
    refine TC.seq ?_
    refine TC.seq ?_
    refine TC.region ?_
    refine TL.run 3 [] [(0, .slice A_data data_2.length c_data), (8, .int .i64 i), (9, .int .i64 j), (15, .bool (decide (i < j)))] rfl ⟨by kernel_rfl, by kernel_rfl⟩ ?_
    refine TL.next rfl ?_
    refine TC.cond (decide (i < j)) rfl (by kernel_rfl) (fun h1 => ?_) (fun h1 => ?_)
    · refine TC.skip ?_
      refine TE.next ?_
      refine TC.block ?_
      refine TC.seq ?_
      refine TC.plan (G := Unit) (base := [(0, .slice A_data data_2.length c_data), (8, .int .i64 i), (9, .int .i64 j)]) (vals := fun γ => [.slice A_data data_2.length c_data, .int .i64 i, .slice A_data data_2.length c_data, .int .i64 j, .slice A_data data_2.length c_data, .int .i64 j, .pointer (some ((A_data.getD noAddr).add (j.toNat * 6))), Plot.v (data_2[j.toNat]?.getD Plot.zero), .slice A_data data_2.length c_data, .int .i64 i, .pointer (some ((A_data.getD noAddr).add (i.toNat * 6))), Plot.v (data_2[i.toNat]?.getD Plot.zero), .pointer (some ((A_data.getD noAddr).add (i.toNat * 6))), undef, .pointer (some ((A_data.getD noAddr).add (j.toNat * 6))), undef]) (writes := [13, 15]) (mem := fun bs γ => match bs with | [x13_, x15_] => (bif x15_ then [.inr (Own A_data c_data 58 6 (((data_2.set i.toNat (data_2[j.toNat]?.getD Plot.zero)).set j.toNat (data_2[i.toNat]?.getD Plot.zero)).map Plot.c))] else bif x13_ then [.inr (Own A_data c_data 58 6 ((data_2.set i.toNat (data_2[j.toNat]?.getD Plot.zero)).map Plot.c))] else [.inr (Own A_data c_data 58 6 (data_2.map Plot.c))]) ++ ([]) | _ => []) () (fun γ => [(0, .slice A_data data_2.length c_data), (8, .int .i64 i), (9, .int .i64 j)]) (by kernel_rfl) (by kernel_rfl) (by kernel_rfl) (by kernel_rfl) (by kernel_rfl) (fun γ => by kernel_rfl) (fun _ hM => hM) (fun γ => by kernel_rfl) ?_ ?_
      · skip
        refine Steps.run (i := 0) 6 [0, 0, 0, 0, 0, 0] [] (by kernel_rfl) (by kernel_rfl) (fun S (γ : Unit) w hM => by change Sat _ ((bif S 15 then [.inr (Own A_data c_data 58 6 (((data_2.set i.toNat (data_2[j.toNat]?.getD Plot.zero)).set j.toNat (data_2[i.toNat]?.getD Plot.zero)).map Plot.c))] else bif S 13 then [.inr (Own A_data c_data 58 6 ((data_2.set i.toNat (data_2[j.toNat]?.getD Plot.zero)).map Plot.c))] else [.inr (Own A_data c_data 58 6 (data_2.map Plot.c))]) ++ ([])) w at hM; exact hM.sub (sub_skip (List.Sublist.refl _))) (by kernel_rfl) (fun (γ : Unit) => ⟨by kernel_rfl, by kernel_rfl⟩) ?_
        refine Steps.valL (i := 6) (fun (γ : Unit) => sV (Instr.indexAt 41 (.slice A_data data_2.length c_data) (.int .i64 j))) (some 22) (fun (γ : Unit) => .pointer (some ((A_data.getD noAddr).add (j.toNat * 6)))) (fun _ => [.inr (Own A_data c_data 58 6 (data_2.map Plot.c))] ++ []) (by kernel_rfl) (fun S (γ : Unit) w hi hd hu hM => by change Sat _ ((bif S 15 then [.inr (Own A_data c_data 58 6 (((data_2.set i.toNat (data_2[j.toNat]?.getD Plot.zero)).set j.toNat (data_2[i.toNat]?.getD Plot.zero)).map Plot.c))] else bif S 13 then [.inr (Own A_data c_data 58 6 ((data_2.set i.toNat (data_2[j.toNat]?.getD Plot.zero)).map Plot.c))] else [.inr (Own A_data c_data 58 6 (data_2.map Plot.c))]) ++ ([])) w at hM; rw [(lat (hu 6 15 (by kernel_rfl)) hi), (lat (hu 6 13 (by kernel_rfl)) hi)] at hM; exact hM.sub (sub_one (List.Sublist.refl _))) (fun (γ : Unit) w hM => run_index (hM.rd_at 0 rfl) (by simp) (by kernel_rfl) (by have q0_ := (dec_t h1); have kv0_ := hv0.1; first | omega | (rw [List.length_set]; omega) | (rw [w64_id (by omega)]; omega) | (dsimp only; omega) | (rw [List.length_drop]; omega) | (simp only [w64_eq]; omega) | (simp only [List.length_take] at *; omega) | (simp <;> omega)) (by have q0_ := (dec_t h1); have kv0_ := hv0.1; first | omega | (rw [List.length_set]; omega) | (rw [w64_id (by omega)]; omega) | (dsimp only; omega) | (rw [List.length_drop]; omega) | (simp only [w64_eq]; omega) | (simp only [List.length_take] at *; omega) | (simp <;> omega))) (fun (γ : Unit) => by kernel_rfl) (fun (γ : Unit) => by kernel_rfl) ?_
        refine Steps.valL (i := 7) (fun (γ : Unit) => sV (Instr.loadAt 58 (.pointer (some ((A_data.getD noAddr).add (j.toNat * 6)))))) (some 23) (fun (γ : Unit) => Plot.v (data_2[j.toNat]?.getD Plot.zero)) (fun _ => [.inr (Own A_data c_data 58 6 (data_2.map Plot.c))] ++ []) (by kernel_rfl) (fun S (γ : Unit) w hi hd hu hM => by change Sat _ ((bif S 15 then [.inr (Own A_data c_data 58 6 (((data_2.set i.toNat (data_2[j.toNat]?.getD Plot.zero)).set j.toNat (data_2[i.toNat]?.getD Plot.zero)).map Plot.c))] else bif S 13 then [.inr (Own A_data c_data 58 6 ((data_2.set i.toNat (data_2[j.toNat]?.getD Plot.zero)).map Plot.c))] else [.inr (Own A_data c_data 58 6 (data_2.map Plot.c))]) ++ ([])) w at hM; rw [(lat (hu 7 15 (by kernel_rfl)) hi), (lat (hu 7 13 (by kernel_rfl)) hi)] at hM; exact hM.sub (sub_one (List.Sublist.refl _))) (fun (γ : Unit) w hM => run_load_agg (n := 6) (off := 0) (i := j.toNat) (Plot.v (data_2[j.toNat]?.getD Plot.zero)) (hM.rd_at 0 rfl) (map_at (getD_at _ _ Plot.zero (by have q0_ := (dec_t h1); have kv0_ := hv0.1; first | omega | (rw [List.length_set]; omega) | (rw [w64_id (by omega)]; omega) | (dsimp only; omega) | (rw [List.length_drop]; omega) | (simp only [w64_eq]; omega) | (simp only [List.length_take] at *; omega) | (simp <;> omega)))) (by kernel_rfl) (by kernel_rfl) (by kernel_rfl)) (fun (γ : Unit) => by kernel_rfl) (fun (γ : Unit) => by kernel_rfl) ?_
        refine Steps.run (i := 8) 10 [0, 0] [] (by kernel_rfl) (by kernel_rfl) (fun S (γ : Unit) w hM => by change Sat _ ((bif S 15 then [.inr (Own A_data c_data 58 6 (((data_2.set i.toNat (data_2[j.toNat]?.getD Plot.zero)).set j.toNat (data_2[i.toNat]?.getD Plot.zero)).map Plot.c))] else bif S 13 then [.inr (Own A_data c_data 58 6 ((data_2.set i.toNat (data_2[j.toNat]?.getD Plot.zero)).map Plot.c))] else [.inr (Own A_data c_data 58 6 (data_2.map Plot.c))]) ++ ([])) w at hM; exact hM.sub (sub_skip (List.Sublist.refl _))) (by kernel_rfl) (fun (γ : Unit) => ⟨by kernel_rfl, by kernel_rfl⟩) ?_
        refine Steps.valL (i := 10) (fun (γ : Unit) => sV (Instr.indexAt 41 (.slice A_data data_2.length c_data) (.int .i64 i))) (some 26) (fun (γ : Unit) => .pointer (some ((A_data.getD noAddr).add (i.toNat * 6)))) (fun _ => [.inr (Own A_data c_data 58 6 (data_2.map Plot.c))] ++ []) (by kernel_rfl) (fun S (γ : Unit) w hi hd hu hM => by change Sat _ ((bif S 15 then [.inr (Own A_data c_data 58 6 (((data_2.set i.toNat (data_2[j.toNat]?.getD Plot.zero)).set j.toNat (data_2[i.toNat]?.getD Plot.zero)).map Plot.c))] else bif S 13 then [.inr (Own A_data c_data 58 6 ((data_2.set i.toNat (data_2[j.toNat]?.getD Plot.zero)).map Plot.c))] else [.inr (Own A_data c_data 58 6 (data_2.map Plot.c))]) ++ ([])) w at hM; rw [(lat (hu 10 15 (by kernel_rfl)) hi), (lat (hu 11 13 (by kernel_rfl)) (lat (hu 10 11 (by kernel_rfl)) hi))] at hM; exact hM.sub (sub_one (List.Sublist.refl _))) (fun (γ : Unit) w hM => run_index (hM.rd_at 0 rfl) (by simp) (by kernel_rfl) (by have q0_ := (dec_t h1); have kv0_ := hv0.1; first | omega | (rw [List.length_set]; omega) | (rw [w64_id (by omega)]; omega) | (dsimp only; omega) | (rw [List.length_drop]; omega) | (simp only [w64_eq]; omega) | (simp only [List.length_take] at *; omega) | (simp <;> omega)) (by have q0_ := (dec_t h1); have kv0_ := hv0.1; first | omega | (rw [List.length_set]; omega) | (rw [w64_id (by omega)]; omega) | (dsimp only; omega) | (rw [List.length_drop]; omega) | (simp only [w64_eq]; omega) | (simp only [List.length_take] at *; omega) | (simp <;> omega))) (fun (γ : Unit) => by kernel_rfl) (fun (γ : Unit) => by kernel_rfl) ?_
        refine Steps.valL (i := 11) (fun (γ : Unit) => sV (Instr.loadAt 58 (.pointer (some ((A_data.getD noAddr).add (i.toNat * 6)))))) (some 27) (fun (γ : Unit) => Plot.v (data_2[i.toNat]?.getD Plot.zero)) (fun _ => [.inr (Own A_data c_data 58 6 (data_2.map Plot.c))] ++ []) (by kernel_rfl) (fun S (γ : Unit) w hi hd hu hM => by change Sat _ ((bif S 15 then [.inr (Own A_data c_data 58 6 (((data_2.set i.toNat (data_2[j.toNat]?.getD Plot.zero)).set j.toNat (data_2[i.toNat]?.getD Plot.zero)).map Plot.c))] else bif S 13 then [.inr (Own A_data c_data 58 6 ((data_2.set i.toNat (data_2[j.toNat]?.getD Plot.zero)).map Plot.c))] else [.inr (Own A_data c_data 58 6 (data_2.map Plot.c))]) ++ ([])) w at hM; rw [(lat (hu 11 15 (by kernel_rfl)) hi), (lat (hu 11 13 (by kernel_rfl)) hi)] at hM; exact hM.sub (sub_one (List.Sublist.refl _))) (fun (γ : Unit) w hM => run_load_agg (n := 6) (off := 0) (i := i.toNat) (Plot.v (data_2[i.toNat]?.getD Plot.zero)) (hM.rd_at 0 rfl) (map_at (getD_at _ _ Plot.zero (by have q0_ := (dec_t h1); have kv0_ := hv0.1; first | omega | (rw [List.length_set]; omega) | (rw [w64_id (by omega)]; omega) | (dsimp only; omega) | (rw [List.length_drop]; omega) | (simp only [w64_eq]; omega) | (simp only [List.length_take] at *; omega) | (simp <;> omega)))) (by kernel_rfl) (by kernel_rfl) (by kernel_rfl)) (fun (γ : Unit) => by kernel_rfl) (fun (γ : Unit) => by kernel_rfl) ?_
        refine Steps.valL (i := 12) (fun (γ : Unit) => sV (Instr.indexAt 41 (.slice A_data data_2.length c_data) (.int .i64 i))) (some 28) (fun (γ : Unit) => .pointer (some ((A_data.getD noAddr).add (i.toNat * 6)))) (fun _ => [.inr (Own A_data c_data 58 6 (data_2.map Plot.c))] ++ []) (by kernel_rfl) (fun S (γ : Unit) w hi hd hu hM => by change Sat _ ((bif S 15 then [.inr (Own A_data c_data 58 6 (((data_2.set i.toNat (data_2[j.toNat]?.getD Plot.zero)).set j.toNat (data_2[i.toNat]?.getD Plot.zero)).map Plot.c))] else bif S 13 then [.inr (Own A_data c_data 58 6 ((data_2.set i.toNat (data_2[j.toNat]?.getD Plot.zero)).map Plot.c))] else [.inr (Own A_data c_data 58 6 (data_2.map Plot.c))]) ++ ([])) w at hM; rw [(lat (hu 12 15 (by kernel_rfl)) hi), (lat (hu 12 13 (by kernel_rfl)) hi)] at hM; exact hM.sub (sub_one (List.Sublist.refl _))) (fun (γ : Unit) w hM => run_index (hM.rd_at 0 rfl) (by simp) (by kernel_rfl) (by have q0_ := (dec_t h1); have kv0_ := hv0.1; first | omega | (rw [List.length_set]; omega) | (rw [w64_id (by omega)]; omega) | (dsimp only; omega) | (rw [List.length_drop]; omega) | (simp only [w64_eq]; omega) | (simp only [List.length_take] at *; omega) | (simp <;> omega)) (by have q0_ := (dec_t h1); have kv0_ := hv0.1; first | omega | (rw [List.length_set]; omega) | (rw [w64_id (by omega)]; omega) | (dsimp only; omega) | (rw [List.length_drop]; omega) | (simp only [w64_eq]; omega) | (simp only [List.length_take] at *; omega) | (simp <;> omega))) (fun (γ : Unit) => by kernel_rfl) (fun (γ : Unit) => by kernel_rfl) ?_
        refine Steps.put (i := 13) (fun (γ : Unit) => [.inr (Own A_data c_data 58 6 (data_2.map Plot.c))]) (fun (γ : Unit) => [.inr (Own A_data c_data 58 6 ((data_2.set i.toNat (data_2[j.toNat]?.getD Plot.zero)).map Plot.c))]) (fun S (γ : Unit) => []) (fun (γ : Unit) => sU (Instr.storeAt 58 (.pointer (some (((A_data.getD noAddr).add (i.toNat * 6)).add 0))) (Plot.v (data_2[j.toNat]?.getD Plot.zero)))) none (fun S (γ : Unit) hj hd hl => by change List.Perm (((bif S 15 then [.inr (Own A_data c_data 58 6 (((data_2.set i.toNat (data_2[j.toNat]?.getD Plot.zero)).set j.toNat (data_2[i.toNat]?.getD Plot.zero)).map Plot.c))] else bif S 13 then [.inr (Own A_data c_data 58 6 ((data_2.set i.toNat (data_2[j.toNat]?.getD Plot.zero)).map Plot.c))] else [.inr (Own A_data c_data 58 6 (data_2.map Plot.c))]) ++ ([])) : Mem) _; rw [hj, hl 15 (by kernel_rfl)]; exact List.Perm.refl _) (fun S (γ : Unit) hl => by change List.Perm _ (((bif S 15 then [.inr (Own A_data c_data 58 6 (((data_2.set i.toNat (data_2[j.toNat]?.getD Plot.zero)).set j.toNat (data_2[i.toNat]?.getD Plot.zero)).map Plot.c))] else bif true then [.inr (Own A_data c_data 58 6 ((data_2.set i.toNat (data_2[j.toNat]?.getD Plot.zero)).map Plot.c))] else [.inr (Own A_data c_data 58 6 (data_2.map Plot.c))]) ++ ([])) : Mem); rw [hl 15 (by kernel_rfl)]; exact (List.Perm.refl _).symm) (fun (γ : Unit) M' w hM => (by obtain ⟨_, w2_, h1_, h2_⟩ := run_store_at (n := 6) (off := 0) (Plot.v (data_2[j.toNat]?.getD Plot.zero)) 0 ((data_2.set i.toNat (data_2[j.toNat]?.getD Plot.zero)).map Plot.c) rfl (map_at (getD_at _ _ Plot.zero (by have q0_ := (dec_t h1); have kv0_ := hv0.1; first | omega | (rw [List.length_set]; omega) | (rw [w64_id (by omega)]; omega) | (dsimp only; omega) | (rw [List.length_drop]; omega) | (simp only [w64_eq]; omega) | (simp only [List.length_take] at *; omega) | (simp <;> omega)))) (by kernel_rfl) (by kernel_rfl) (by kernel_rfl) (by kernel_rfl) (set_map_at (by kernel_rfl)) w hM; exact ⟨w2_, h1_, h2_⟩)) (fun (γ : Unit) => by kernel_rfl) (fun (γ : Unit) => by kernel_rfl) ?_
        refine Steps.valL (i := 14) (fun (γ : Unit) => sV (Instr.indexAt 41 (.slice A_data data_2.length c_data) (.int .i64 j))) (some 29) (fun (γ : Unit) => .pointer (some ((A_data.getD noAddr).add (j.toNat * 6)))) (fun _ => [.inr (Own A_data c_data 58 6 ((data_2.set i.toNat (data_2[j.toNat]?.getD Plot.zero)).map Plot.c))] ++ []) (by kernel_rfl) (fun S (γ : Unit) w hi hd hu hM => by change Sat _ ((bif S 15 then [.inr (Own A_data c_data 58 6 (((data_2.set i.toNat (data_2[j.toNat]?.getD Plot.zero)).set j.toNat (data_2[i.toNat]?.getD Plot.zero)).map Plot.c))] else bif S 13 then [.inr (Own A_data c_data 58 6 ((data_2.set i.toNat (data_2[j.toNat]?.getD Plot.zero)).map Plot.c))] else [.inr (Own A_data c_data 58 6 (data_2.map Plot.c))]) ++ ([])) w at hM; rw [(lat (hu 14 15 (by kernel_rfl)) hi), (hd 13 (by kernel_rfl))] at hM; exact hM.sub (sub_one (List.Sublist.refl _))) (fun (γ : Unit) w hM => run_index (hM.rd_at 0 rfl) (by simp) (by kernel_rfl) (by have q0_ := (dec_t h1); have kv0_ := hv0.1; first | omega | (rw [List.length_set]; omega) | (rw [w64_id (by omega)]; omega) | (dsimp only; omega) | (rw [List.length_drop]; omega) | (simp only [w64_eq]; omega) | (simp only [List.length_take] at *; omega) | (simp <;> omega)) (by have q0_ := (dec_t h1); have kv0_ := hv0.1; first | omega | (rw [List.length_set]; omega) | (rw [w64_id (by omega)]; omega) | (dsimp only; omega) | (rw [List.length_drop]; omega) | (simp only [w64_eq]; omega) | (simp only [List.length_take] at *; omega) | (simp <;> omega))) (fun (γ : Unit) => by kernel_rfl) (fun (γ : Unit) => by kernel_rfl) ?_
        refine Steps.put (i := 15) (fun (γ : Unit) => [.inr (Own A_data c_data 58 6 ((data_2.set i.toNat (data_2[j.toNat]?.getD Plot.zero)).map Plot.c))]) (fun (γ : Unit) => [.inr (Own A_data c_data 58 6 (((data_2.set i.toNat (data_2[j.toNat]?.getD Plot.zero)).set j.toNat (data_2[i.toNat]?.getD Plot.zero)).map Plot.c))]) (fun S (γ : Unit) => []) (fun (γ : Unit) => sU (Instr.storeAt 58 (.pointer (some (((A_data.getD noAddr).add (j.toNat * 6)).add 0))) (Plot.v (data_2[i.toNat]?.getD Plot.zero)))) none (fun S (γ : Unit) hj hd hl => by change List.Perm (((bif S 15 then [.inr (Own A_data c_data 58 6 (((data_2.set i.toNat (data_2[j.toNat]?.getD Plot.zero)).set j.toNat (data_2[i.toNat]?.getD Plot.zero)).map Plot.c))] else bif S 13 then [.inr (Own A_data c_data 58 6 ((data_2.set i.toNat (data_2[j.toNat]?.getD Plot.zero)).map Plot.c))] else [.inr (Own A_data c_data 58 6 (data_2.map Plot.c))]) ++ ([])) : Mem) _; rw [hj, hd 13 (by kernel_rfl)]; exact List.Perm.refl _) (fun S (γ : Unit) _ => (List.Perm.refl _).symm) (fun (γ : Unit) M' w hM => (by obtain ⟨_, w2_, h1_, h2_⟩ := run_store_at (n := 6) (off := 0) (Plot.v (data_2[i.toNat]?.getD Plot.zero)) 0 (((data_2.set i.toNat (data_2[j.toNat]?.getD Plot.zero)).set j.toNat (data_2[i.toNat]?.getD Plot.zero)).map Plot.c) rfl (map_at (getD_at _ _ Plot.zero (by rw [List.length_set]; exact (by have q0_ := (dec_t h1); have kv0_ := hv0.1; first | omega | (rw [List.length_set]; omega) | (rw [w64_id (by omega)]; omega) | (dsimp only; omega) | (rw [List.length_drop]; omega) | (simp only [w64_eq]; omega) | (simp only [List.length_take] at *; omega) | (simp <;> omega))))) (by kernel_rfl) (by kernel_rfl) (by kernel_rfl) (by kernel_rfl) (set_map_at (by kernel_rfl)) w hM; exact ⟨w2_, h1_, h2_⟩)) (fun (γ : Unit) => by kernel_rfl) (fun (γ : Unit) => by kernel_rfl) ?_
        exact Steps.done (by kernel_rfl)
      · intro _
        refine TE.conv [.inr (Own A_data c_data 58 6 (((data_2.set i.toNat (data_2[j.toNat]?.getD Plot.zero)).set j.toNat (data_2[i.toNat]?.getD Plot.zero)).map Plot.c))] (fun _ hM => hM) ?_
        refine TE.rw 0 (.slice A_data data_2.length c_data) (.slice A_data (((data_2.set i.toNat (data_2[j.toNat]?.getD Plot.zero)).set j.toNat (data_2[i.toNat]?.getD Plot.zero)).length) c_data) (by kernel_rfl) (by simp only [List.length_set]) ?_
        refine TE.next ?_
        refine TC.seq ?_
        refine TC.region ?_
        refine TL.run 3 [] [(0, .slice A_data (((data_2.set i.toNat (data_2[j.toNat]?.getD Plot.zero)).set j.toNat (data_2[i.toNat]?.getD Plot.zero)).length) c_data), (8, .int .i64 (w64 (i + 1))), (9, .int .i64 j)] rfl ⟨by kernel_rfl, by kernel_rfl⟩ ?_
        refine TL.rw 8 (.int .i64 (w64 (i + 1))) (.int .i64 (i + 1)) (by kernel_rfl) (int_eq (by have q0_ := (dec_t h1); have kv0_ := hv0.1; rw [w64_id (x := (i + 1)) (by omega)])) ?_
        refine TL.next rfl ?_
        refine TC.region ?_
        refine TL.run 3 [] [(0, .slice A_data (((data_2.set i.toNat (data_2[j.toNat]?.getD Plot.zero)).set j.toNat (data_2[i.toNat]?.getD Plot.zero)).length) c_data), (8, .int .i64 (i + 1)), (9, .int .i64 (w64 (j - 1)))] rfl ⟨by kernel_rfl, by kernel_rfl⟩ ?_
        refine TL.rw 9 (.int .i64 (w64 (j - 1))) (.int .i64 (j - 1)) (by kernel_rfl) (int_eq (by have q0_ := (dec_t h1); have kv0_ := hv0.1; rw [w64_id (x := (j - 1)) (by omega)])) ?_
        refine TL.done rfl ?_
        refine TE.normal_block ?_
        exact TE.again (x := (i, j, data_2)) ((i + 1), (j - 1), ((data_2.set i.toNat (data_2[j.toNat]?.getD Plot.zero)).set j.toNat (data_2[i.toNat]?.getD Plot.zero))) ⟨(by have q0_ := (dec_t h1); have kv0_ := hv0.1; first | exact ⟨by omega, hv0.2.swp (by omega) (by omega) (by omega) (by omega)⟩), (by first | rfl | omega | (simp only [List.length_set]; omega))⟩ (by have q0_ := (dec_t h1); have kv0_ := hv0.1; (try dsimp only); omega) (by kernel_rfl) (.cons_cons _ (.slnil))
    · refine TC.exit ?_
      refine TE.exit_then (TE.exit_then (TE.exit_same ?_))
      exact TE.cut data_2 ⟨(by have q0_ := (dec_f h1); have kv0_ := hv0.1; first | exact hv0.2), (by first | rfl | omega | (simp only [List.length_set]; omega))⟩ (by kernel_rfl) (.cons_cons _ (.slnil))
  · rintro data_3 ⟨ho0, hl_data_3⟩
    exact TE.retM (.inr rfl) data_3 [] (.tuple #[]) ⟨by kernel_rfl, by kernel_rfl⟩ rfl (fun _ hM => (hM.sub (.cons_cons _ (.slnil))).fact (by (try dsimp only); first | exact ⟨ho0.1, ho0⟩))

set_option maxRecDepth 100000 in
theorem ord2P_w (A_data : Option Addr) (c_data : Nat) (data : List Plot) (a : Int) (b_ : Int) (b_swaps : Nat) (swaps : Int) (w : World) (hM : Sat ⟨w, feet [.inr (Own A_data c_data 58 6 (data.map Plot.c)), .inl (b_swaps, .cells #[.int .i64 swaps] 3 (0, 0))]⟩ [.inr (Own A_data c_data 58 6 (data.map Plot.c)), .inl (b_swaps, .cells #[.int .i64 swaps] 3 (0, 0))] w) (hp : (0 ≤ a ∧ a < (data.length : Int)) ∧ 0 ≤ b_ ∧ b_ < (data.length : Int)) (hw : 0 ≤ swaps ∧ swaps ≤ 1000) : Calls Try.prog 190 #[.slice A_data data.length c_data, .int .i64 a, .int .i64 b_, .pointer (some ⟨b_swaps, 0, none⟩), .func (.func 33) #[] #[]] w (RetM (Γ := Int × Int × Int) ⟨w, feet [.inr (Own A_data c_data 58 6 (data.map Plot.c)), .inl (b_swaps, .cells #[.int .i64 swaps] 3 (0, 0))]⟩ (fun g => .tuple #[.int .i64 g.2.1, .int .i64 g.2.2]) (fun g => [.inr (Fact ((g.2.1 = a ∧ g.2.2 = b_ ∨ g.2.1 = b_ ∧ g.2.2 = a) ∧ swaps ≤ g.1 ∧ g.1 ≤ swaps + 1)), .inr (Own A_data c_data 58 6 (data.map Plot.c)), .inl (b_swaps, .cells #[.int .i64 g.1] 3 (0, 0))])) := by
  refine calls_introM (w0 := ⟨w, feet [.inr (Own A_data c_data 58 6 (data.map Plot.c)), .inl (b_swaps, .cells #[.int .i64 swaps] 3 (0, 0))]⟩) (vs := [.slice A_data data.length c_data, .int .i64 a, .int .i64 b_, .pointer (some ⟨b_swaps, 0, none⟩), .func (.func 33) #[] #[]]) hM Try.func190 rfl Try.ntmps190 rfl ?_
  refine TC.weak [(0, .slice A_data data.length c_data), (1, .int .i64 a), (2, .int .i64 b_), (3, .pointer (some ⟨b_swaps, 0, none⟩)), (4, .func (.func 33) #[] #[])] (by kernel_rfl) ?_
  refine TC.know (fun w hM => hM.short_at 0 rfl) (fun s_data => ?_)
  refine TC.seq ?_
  refine TC.region ?_
  refine TL.run 2 [] [(0, .slice A_data data.length c_data), (1, .int .i64 a), (2, .int .i64 b_), (3, .pointer (some ⟨b_swaps, 0, none⟩)), (4, .func (.func 33) #[] #[])] rfl ⟨by kernel_rfl, by kernel_rfl⟩ ?_
  refine TL.next rfl ?_
  refine TC.seq ?_
  refine TC.seq ?_
  refine TC.draw 11 (by kernel_rfl) (by kernel_rfl) (by kernel_rfl) ?_
  refine TQ.run 3 [] [(0, .slice A_data data.length c_data), (1, .int .i64 a), (2, .int .i64 b_), (3, .pointer (some ⟨b_swaps, 0, none⟩)), (12, .func (.func 33) #[] #[]), (13, .slice A_data data.length c_data), (14, .int .i64 b_)] rfl ⟨by kernel_rfl, by kernel_rfl⟩ ?_
  refine TQ.val (sV (Instr.indexAt 41 (.slice A_data data.length c_data) (.int .i64 b_))) (some 15) (.pointer (some ((A_data.getD noAddr).add (b_.toNat * 6)))) [(0, .slice A_data data.length c_data), (1, .int .i64 a), (2, .int .i64 b_), (3, .pointer (some ⟨b_swaps, 0, none⟩)), (12, .func (.func 33) #[] #[]), (15, .pointer (some ((A_data.getD noAddr).add (b_.toNat * 6))))] (fun w hM => run_index (hM.rd_at 0 rfl) (by simp) (by kernel_rfl) (by first | omega | (rw [List.length_set]; omega) | (rw [w64_id (by omega)]; omega) | (dsimp only; omega) | (rw [List.length_drop]; omega) | (simp only [w64_eq]; omega) | (simp only [List.length_take] at *; omega) | (simp <;> omega)) (by first | omega | (rw [List.length_set]; omega) | (rw [w64_id (by omega)]; omega) | (dsimp only; omega) | (rw [List.length_drop]; omega) | (simp only [w64_eq]; omega) | (simp only [List.length_take] at *; omega) | (simp <;> omega))) rfl (by kernel_rfl) (by kernel_rfl) ?_
  refine TQ.val (sV (Instr.loadAt 58 (.pointer (some ((A_data.getD noAddr).add (b_.toNat * 6)))))) (some 16) (Plot.v (data[b_.toNat]?.getD Plot.zero)) [(0, .slice A_data data.length c_data), (1, .int .i64 a), (2, .int .i64 b_), (3, .pointer (some ⟨b_swaps, 0, none⟩)), (12, .func (.func 33) #[] #[]), (16, Plot.v (data[b_.toNat]?.getD Plot.zero))] (fun w hM => run_load_agg (n := 6) (off := 0) (i := b_.toNat) (Plot.v (data[b_.toNat]?.getD Plot.zero)) (hM.rd_at 0 rfl) (map_at (getD_at _ _ Plot.zero (by first | omega | (rw [List.length_set]; omega) | (rw [w64_id (by omega)]; omega) | (dsimp only; omega) | (rw [List.length_drop]; omega) | (simp only [w64_eq]; omega) | (simp only [List.length_take] at *; omega) | (simp <;> omega)))) (by kernel_rfl) (by kernel_rfl) (by kernel_rfl)) rfl (by kernel_rfl) (by kernel_rfl) ?_
  refine TQ.run 7 [] [(1, .int .i64 a), (2, .int .i64 b_), (3, .pointer (some ⟨b_swaps, 0, none⟩)), (12, .func (.func 33) #[] #[]), (16, Plot.v (data[b_.toNat]?.getD Plot.zero)), (17, .slice A_data data.length c_data), (18, .int .i64 a)] rfl ⟨by kernel_rfl, by kernel_rfl⟩ ?_
  refine TQ.val (sV (Instr.indexAt 41 (.slice A_data data.length c_data) (.int .i64 a))) (some 19) (.pointer (some ((A_data.getD noAddr).add (a.toNat * 6)))) [(1, .int .i64 a), (2, .int .i64 b_), (3, .pointer (some ⟨b_swaps, 0, none⟩)), (12, .func (.func 33) #[] #[]), (16, Plot.v (data[b_.toNat]?.getD Plot.zero)), (19, .pointer (some ((A_data.getD noAddr).add (a.toNat * 6))))] (fun w hM => run_index (hM.rd_at 0 rfl) (by simp) (by kernel_rfl) (by first | omega | (rw [List.length_set]; omega) | (rw [w64_id (by omega)]; omega) | (dsimp only; omega) | (rw [List.length_drop]; omega) | (simp only [w64_eq]; omega) | (simp only [List.length_take] at *; omega) | (simp <;> omega)) (by first | omega | (rw [List.length_set]; omega) | (rw [w64_id (by omega)]; omega) | (dsimp only; omega) | (rw [List.length_drop]; omega) | (simp only [w64_eq]; omega) | (simp only [List.length_take] at *; omega) | (simp <;> omega))) rfl (by kernel_rfl) (by kernel_rfl) ?_
  refine TQ.val (sV (Instr.loadAt 58 (.pointer (some ((A_data.getD noAddr).add (a.toNat * 6)))))) (some 20) (Plot.v (data[a.toNat]?.getD Plot.zero)) [(1, .int .i64 a), (2, .int .i64 b_), (3, .pointer (some ⟨b_swaps, 0, none⟩)), (12, .func (.func 33) #[] #[]), (16, Plot.v (data[b_.toNat]?.getD Plot.zero)), (20, Plot.v (data[a.toNat]?.getD Plot.zero))] (fun w hM => run_load_agg (n := 6) (off := 0) (i := a.toNat) (Plot.v (data[a.toNat]?.getD Plot.zero)) (hM.rd_at 0 rfl) (map_at (getD_at _ _ Plot.zero (by first | omega | (rw [List.length_set]; omega) | (rw [w64_id (by omega)]; omega) | (dsimp only; omega) | (rw [List.length_drop]; omega) | (simp only [w64_eq]; omega) | (simp only [List.length_take] at *; omega) | (simp <;> omega)))) (by kernel_rfl) (by kernel_rfl) (by kernel_rfl)) rfl (by kernel_rfl) (by kernel_rfl) ?_
  refine TQ.call (some 21) [(1, .int .i64 a), (2, .int .i64 b_), (3, .pointer (some ⟨b_swaps, 0, none⟩)), (21, .int .i64 (mosaic_Compare (data[b_.toNat]?.getD Plot.zero) (data[a.toNat]?.getD Plot.zero)))] (fun w _ => mosaic_Compare_w (data[b_.toNat]?.getD Plot.zero) (data[a.toNat]?.getD Plot.zero) w) rfl (by kernel_rfl) (by kernel_rfl) ?_
  generalize hr1 : mosaic_Compare (data[b_.toNat]?.getD Plot.zero) (data[a.toNat]?.getD Plot.zero) = r1
  refine TQ.run 11 [] [(1, .int .i64 a), (2, .int .i64 b_), (3, .pointer (some ⟨b_swaps, 0, none⟩)), (22, .bool (decide (r1 < 0)))] rfl ⟨by kernel_rfl, by kernel_rfl⟩ ?_
  refine TQ.next rfl ?_
  refine TC.cond (decide (r1 < 0)) rfl (by kernel_rfl) (fun h1 => ?_) (fun h1 => ?_)
  · refine TC.seq ?_
    refine TC.region ?_
    refine TL.run 5 [1] [(1, .int .i64 a), (2, .int .i64 b_), (26, .int .i64 (w64 (swaps + 1))), (27, .pointer (some ⟨b_swaps, 0, none⟩))] rfl ⟨by kernel_rfl, by kernel_rfl⟩ ?_
    refine TL.rw 26 (.int .i64 (w64 (swaps + 1))) (.int .i64 (swaps + 1)) (by kernel_rfl) (int_eq (by have q0_ := (dec_t h1); rw [w64_id (x := (swaps + 1)) (by omega)])) ?_
    refine TL.write 1 (fun _ => [(1, .int .i64 a), (2, .int .i64 b_)]) (fun _ => [.inr (Own A_data c_data 58 6 (data.map Plot.c)), .inl (b_swaps, .cells #[.int .i64 (swaps + 1)] 3 (0, 0))]) (fun _ => ⟨by kernel_rfl, by kernel_rfl⟩) (fun _ => ?_)
    refine TL.next rfl ?_
    refine TC.seq ?_
    refine TC.region ?_
    refine TL.run 4 [] [(10, .int .i64 b_), (11, .int .i64 a)] rfl ⟨by kernel_rfl, by kernel_rfl⟩ ?_
    refine TL.next rfl ?_
    refine TC.ret ?_
    refine TE.ret_then ?_
    exact TE.retM (.inl rfl) ((swaps + 1), b_, a) [] (.tuple #[.int .i64 b_, .int .i64 a]) ⟨by kernel_rfl, by kernel_rfl⟩ rfl (fun _ hM => (hM.sub (.cons_cons _ (.cons_cons _ (.slnil)))).fact (by have q0_ := (dec_t h1); subst hr1; (try dsimp only); first | exact ⟨.inl ⟨rfl, rfl⟩, by omega, by omega⟩ | exact ⟨.inr ⟨rfl, rfl⟩, by omega, by omega⟩))
  · refine TC.skip ?_
    refine TE.next ?_
    refine TC.seq ?_
    refine TC.region ?_
    refine TL.run 4 [] [(10, .int .i64 a), (11, .int .i64 b_)] rfl ⟨by kernel_rfl, by kernel_rfl⟩ ?_
    refine TL.next rfl ?_
    refine TC.ret ?_
    exact TE.retM (.inl rfl) (swaps, a, b_) [] (.tuple #[.int .i64 a, .int .i64 b_]) ⟨by kernel_rfl, by kernel_rfl⟩ rfl (fun _ hM => (hM.sub (.cons_cons _ (.cons_cons _ (.slnil)))).fact (by have q0_ := (dec_f h1); subst hr1; (try dsimp only); first | exact ⟨.inl ⟨rfl, rfl⟩, by omega, by omega⟩ | exact ⟨.inr ⟨rfl, rfl⟩, by omega, by omega⟩))

set_option maxRecDepth 100000 in
theorem medP_w (A_data : Option Addr) (c_data : Nat) (data : List Plot) (a : Int) (b_ : Int) (c : Int) (b_swaps : Nat) (swaps : Int) (w : World) (hM : Sat ⟨w, feet [.inr (Own A_data c_data 58 6 (data.map Plot.c)), .inl (b_swaps, .cells #[.int .i64 swaps] 3 (0, 0))]⟩ [.inr (Own A_data c_data 58 6 (data.map Plot.c)), .inl (b_swaps, .cells #[.int .i64 swaps] 3 (0, 0))] w) (hp : (0 ≤ a ∧ a < (data.length : Int)) ∧ (0 ≤ b_ ∧ b_ < (data.length : Int)) ∧ 0 ≤ c ∧ c < (data.length : Int)) (hw : 0 ≤ swaps ∧ swaps ≤ 900) : Calls Try.prog 173 #[.slice A_data data.length c_data, .int .i64 a, .int .i64 b_, .int .i64 c, .pointer (some ⟨b_swaps, 0, none⟩), .func (.func 33) #[] #[]] w (RetM (Γ := Int × Int) ⟨w, feet [.inr (Own A_data c_data 58 6 (data.map Plot.c)), .inl (b_swaps, .cells #[.int .i64 swaps] 3 (0, 0))]⟩ (fun g => .int .i64 g.2) (fun g => [.inr (Fact ((g.2 = a ∨ g.2 = b_ ∨ g.2 = c) ∧ swaps ≤ g.1 ∧ g.1 ≤ swaps + 3)), .inr (Own A_data c_data 58 6 (data.map Plot.c)), .inl (b_swaps, .cells #[.int .i64 g.1] 3 (0, 0))])) := by
  refine calls_introM (w0 := ⟨w, feet [.inr (Own A_data c_data 58 6 (data.map Plot.c)), .inl (b_swaps, .cells #[.int .i64 swaps] 3 (0, 0))]⟩) (vs := [.slice A_data data.length c_data, .int .i64 a, .int .i64 b_, .int .i64 c, .pointer (some ⟨b_swaps, 0, none⟩), .func (.func 33) #[] #[]]) hM Try.func173 rfl Try.ntmps173 rfl ?_
  refine TC.weak [(0, .slice A_data data.length c_data), (1, .int .i64 a), (2, .int .i64 b_), (3, .int .i64 c), (4, .pointer (some ⟨b_swaps, 0, none⟩)), (5, .func (.func 33) #[] #[])] (by kernel_rfl) ?_
  refine TC.know (fun w hM => hM.short_at 0 rfl) (fun s_data => ?_)
  refine TC.seq ?_
  refine TC.region ?_
  refine TL.run 1 [] [(0, .slice A_data data.length c_data), (1, .int .i64 a), (2, .int .i64 b_), (3, .int .i64 c), (4, .pointer (some ⟨b_swaps, 0, none⟩)), (5, .func (.func 33) #[] #[])] rfl ⟨by kernel_rfl, by kernel_rfl⟩ ?_
  refine TL.next rfl ?_
  refine TC.seq ?_
  refine TC.region ?_
  refine TL.run 5 [] [(0, .slice A_data data.length c_data), (3, .int .i64 c), (4, .pointer (some ⟨b_swaps, 0, none⟩)), (5, .func (.func 33) #[] #[]), (14, .slice A_data data.length c_data), (15, .int .i64 a), (16, .int .i64 b_), (17, .pointer (some ⟨b_swaps, 0, none⟩)), (18, .func (.func 33) #[] #[])] rfl ⟨by kernel_rfl, by kernel_rfl⟩ ?_
  refine TL.callM (Γ := Int × Int × Int) (fun g => .tuple #[.int .i64 g.2.1, .int .i64 g.2.2]) (fun g => [.inr (Fact ((g.2.1 = a ∧ g.2.2 = b_ ∨ g.2.1 = b_ ∧ g.2.2 = a) ∧ swaps ≤ g.1 ∧ g.1 ≤ swaps + 1)), .inr (Own A_data c_data 58 6 (data.map Plot.c)), .inl (b_swaps, .cells #[.int .i64 g.1] 3 (0, 0))]) [.inr (Own A_data c_data 58 6 (data.map Plot.c)), .inl (b_swaps, .cells #[.int .i64 swaps] 3 (0, 0))] [] (some 19) (fun g => [(0, .slice A_data data.length c_data), (3, .int .i64 c), (4, .pointer (some ⟨b_swaps, 0, none⟩)), (5, .func (.func 33) #[] #[]), (19, .tuple #[.int .i64 g.2.1, .int .i64 g.2.2])]) (fun w hM => ord2P_w A_data c_data data a b_ b_swaps swaps w hM.pass (by first | omega | (simp only [w64_eq]; omega) | (simp <;> omega)) (by first | omega | (simp only [w64_eq]; omega) | (simp <;> omega))) (by kernel_rfl) (fun g => by kernel_rfl) ?_
  rintro ⟨swaps_2, r_, r__2⟩
  refine TL.conv [.inr (Fact ((r_ = a ∧ r__2 = b_ ∨ r_ = b_ ∧ r__2 = a) ∧ swaps ≤ swaps_2 ∧ swaps_2 ≤ swaps + 1)), .inr (Own A_data c_data 58 6 (data.map Plot.c)), .inl (b_swaps, .cells #[.int .i64 swaps_2] 3 (0, 0))] (fun _ hM => hM) ?_
  refine TL.know (fun w hM => hM.fact_at 0 rfl) (fun hp_ord2P => ?_)
  refine TL.forget [.inr (Own A_data c_data 58 6 (data.map Plot.c)), .inl (b_swaps, .cells #[.int .i64 swaps_2] 3 (0, 0))] (.cons _ (List.Sublist.refl _)) ?_
  refine TL.run 11 [] [(0, .slice A_data data.length c_data), (1, .int .i64 r_), (2, .int .i64 r__2), (3, .int .i64 c), (4, .pointer (some ⟨b_swaps, 0, none⟩)), (5, .func (.func 33) #[] #[])] rfl ⟨by kernel_rfl, by kernel_rfl⟩ ?_
  refine TL.next rfl ?_
  refine TC.seq ?_
  refine TC.region ?_
  refine TL.run 5 [] [(0, .slice A_data data.length c_data), (1, .int .i64 r_), (4, .pointer (some ⟨b_swaps, 0, none⟩)), (5, .func (.func 33) #[] #[]), (23, .slice A_data data.length c_data), (24, .int .i64 r__2), (25, .int .i64 c), (26, .pointer (some ⟨b_swaps, 0, none⟩)), (27, .func (.func 33) #[] #[])] rfl ⟨by kernel_rfl, by kernel_rfl⟩ ?_
  refine TL.callM (Γ := Int × Int × Int) (fun g => .tuple #[.int .i64 g.2.1, .int .i64 g.2.2]) (fun g => [.inr (Fact ((g.2.1 = r__2 ∧ g.2.2 = c ∨ g.2.1 = c ∧ g.2.2 = r__2) ∧ swaps_2 ≤ g.1 ∧ g.1 ≤ swaps_2 + 1)), .inr (Own A_data c_data 58 6 (data.map Plot.c)), .inl (b_swaps, .cells #[.int .i64 g.1] 3 (0, 0))]) [.inr (Own A_data c_data 58 6 (data.map Plot.c)), .inl (b_swaps, .cells #[.int .i64 swaps_2] 3 (0, 0))] [] (some 28) (fun g => [(0, .slice A_data data.length c_data), (1, .int .i64 r_), (4, .pointer (some ⟨b_swaps, 0, none⟩)), (5, .func (.func 33) #[] #[]), (28, .tuple #[.int .i64 g.2.1, .int .i64 g.2.2])]) (fun w hM => ord2P_w A_data c_data data r__2 c b_swaps swaps_2 w hM.pass (by first | omega | (simp only [w64_eq]; omega) | (simp <;> omega)) (by first | omega | (simp only [w64_eq]; omega) | (simp <;> omega))) (by kernel_rfl) (fun g => by kernel_rfl) ?_
  rintro ⟨swaps_3, r__3, r__4⟩
  refine TL.conv [.inr (Fact ((r__3 = r__2 ∧ r__4 = c ∨ r__3 = c ∧ r__4 = r__2) ∧ swaps_2 ≤ swaps_3 ∧ swaps_3 ≤ swaps_2 + 1)), .inr (Own A_data c_data 58 6 (data.map Plot.c)), .inl (b_swaps, .cells #[.int .i64 swaps_3] 3 (0, 0))] (fun _ hM => hM) ?_
  refine TL.know (fun w hM => hM.fact_at 0 rfl) (fun hp_ord2P => ?_)
  refine TL.forget [.inr (Own A_data c_data 58 6 (data.map Plot.c)), .inl (b_swaps, .cells #[.int .i64 swaps_3] 3 (0, 0))] (.cons _ (List.Sublist.refl _)) ?_
  refine TL.run 11 [] [(0, .slice A_data data.length c_data), (1, .int .i64 r_), (2, .int .i64 r__3), (4, .pointer (some ⟨b_swaps, 0, none⟩)), (5, .func (.func 33) #[] #[])] rfl ⟨by kernel_rfl, by kernel_rfl⟩ ?_
  refine TL.next rfl ?_
  refine TC.seq ?_
  refine TC.region ?_
  refine TL.run 5 [] [(32, .slice A_data data.length c_data), (33, .int .i64 r_), (34, .int .i64 r__3), (35, .pointer (some ⟨b_swaps, 0, none⟩)), (36, .func (.func 33) #[] #[])] rfl ⟨by kernel_rfl, by kernel_rfl⟩ ?_
  refine TL.callM (Γ := Int × Int × Int) (fun g => .tuple #[.int .i64 g.2.1, .int .i64 g.2.2]) (fun g => [.inr (Fact ((g.2.1 = r_ ∧ g.2.2 = r__3 ∨ g.2.1 = r__3 ∧ g.2.2 = r_) ∧ swaps_3 ≤ g.1 ∧ g.1 ≤ swaps_3 + 1)), .inr (Own A_data c_data 58 6 (data.map Plot.c)), .inl (b_swaps, .cells #[.int .i64 g.1] 3 (0, 0))]) [.inr (Own A_data c_data 58 6 (data.map Plot.c)), .inl (b_swaps, .cells #[.int .i64 swaps_3] 3 (0, 0))] [] (some 37) (fun g => [(37, .tuple #[.int .i64 g.2.1, .int .i64 g.2.2])]) (fun w hM => ord2P_w A_data c_data data r_ r__3 b_swaps swaps_3 w hM.pass (by first | omega | (simp only [w64_eq]; omega) | (simp <;> omega)) (by first | omega | (simp only [w64_eq]; omega) | (simp <;> omega))) (by kernel_rfl) (fun g => by kernel_rfl) ?_
  rintro ⟨swaps_4, r__5, r__6⟩
  refine TL.conv [.inr (Fact ((r__5 = r_ ∧ r__6 = r__3 ∨ r__5 = r__3 ∧ r__6 = r_) ∧ swaps_3 ≤ swaps_4 ∧ swaps_4 ≤ swaps_3 + 1)), .inr (Own A_data c_data 58 6 (data.map Plot.c)), .inl (b_swaps, .cells #[.int .i64 swaps_4] 3 (0, 0))] (fun _ hM => hM) ?_
  refine TL.know (fun w hM => hM.fact_at 0 rfl) (fun hp_ord2P => ?_)
  refine TL.forget [.inr (Own A_data c_data 58 6 (data.map Plot.c)), .inl (b_swaps, .cells #[.int .i64 swaps_4] 3 (0, 0))] (.cons _ (List.Sublist.refl _)) ?_
  refine TL.run 11 [] [(2, .int .i64 r__6)] rfl ⟨by kernel_rfl, by kernel_rfl⟩ ?_
  refine TL.next rfl ?_
  refine TC.seq ?_
  refine TC.region ?_
  refine TL.run 2 [] [(12, .int .i64 r__6)] rfl ⟨by kernel_rfl, by kernel_rfl⟩ ?_
  refine TL.next rfl ?_
  refine TC.ret ?_
  exact TE.retM (.inl rfl) (swaps_4, r__6) [] (.int .i64 r__6) ⟨by kernel_rfl, by kernel_rfl⟩ rfl (fun _ hM => (hM.sub (.cons_cons _ (.cons_cons _ (.slnil)))).fact (by (try dsimp only); first | exact ⟨by omega, by omega, by omega⟩))

set_option maxRecDepth 100000 in
theorem madjP_w (A_data : Option Addr) (c_data : Nat) (data : List Plot) (a : Int) (b_swaps : Nat) (swaps : Int) (w : World) (hM : Sat ⟨w, feet [.inr (Own A_data c_data 58 6 (data.map Plot.c)), .inl (b_swaps, .cells #[.int .i64 swaps] 3 (0, 0))]⟩ [.inr (Own A_data c_data 58 6 (data.map Plot.c)), .inl (b_swaps, .cells #[.int .i64 swaps] 3 (0, 0))] w) (hp : 1 ≤ a ∧ a + 1 < (data.length : Int)) (hw : 0 ≤ swaps ∧ swaps ≤ 800) : Calls Try.prog 172 #[.slice A_data data.length c_data, .int .i64 a, .pointer (some ⟨b_swaps, 0, none⟩), .func (.func 33) #[] #[]] w (RetM (Γ := Int × Int) ⟨w, feet [.inr (Own A_data c_data 58 6 (data.map Plot.c)), .inl (b_swaps, .cells #[.int .i64 swaps] 3 (0, 0))]⟩ (fun g => .int .i64 g.2) (fun g => [.inr (Fact ((a - 1 ≤ g.2 ∧ g.2 ≤ a + 1) ∧ swaps ≤ g.1 ∧ g.1 ≤ swaps + 3)), .inr (Own A_data c_data 58 6 (data.map Plot.c)), .inl (b_swaps, .cells #[.int .i64 g.1] 3 (0, 0))])) := by
  refine calls_introM (w0 := ⟨w, feet [.inr (Own A_data c_data 58 6 (data.map Plot.c)), .inl (b_swaps, .cells #[.int .i64 swaps] 3 (0, 0))]⟩) (vs := [.slice A_data data.length c_data, .int .i64 a, .pointer (some ⟨b_swaps, 0, none⟩), .func (.func 33) #[] #[]]) hM Try.func172 rfl Try.ntmps172 rfl ?_
  refine TC.weak [(0, .slice A_data data.length c_data), (1, .int .i64 a), (2, .pointer (some ⟨b_swaps, 0, none⟩)), (3, .func (.func 33) #[] #[])] (by kernel_rfl) ?_
  refine TC.know (fun w hM => hM.short_at 0 rfl) (fun s_data => ?_)
  refine TC.seq ?_
  refine TC.region ?_
  refine TL.run 1 [] [(0, .slice A_data data.length c_data), (1, .int .i64 a), (2, .pointer (some ⟨b_swaps, 0, none⟩)), (3, .func (.func 33) #[] #[])] rfl ⟨by kernel_rfl, by kernel_rfl⟩ ?_
  refine TL.next rfl ?_
  refine TC.seq ?_
  refine TC.region ?_
  refine TL.run 8 [] [(9, .slice A_data data.length c_data), (11, .int .i64 (w64 (a - 1))), (12, .int .i64 a), (14, .int .i64 (w64 (a + 1))), (15, .pointer (some ⟨b_swaps, 0, none⟩)), (16, .func (.func 33) #[] #[])] rfl ⟨by kernel_rfl, by kernel_rfl⟩ ?_
  refine TL.rw 11 (.int .i64 (w64 (a - 1))) (.int .i64 (a - 1)) (by kernel_rfl) (int_eq (by rw [w64_id (x := (a - 1)) (by omega)])) ?_
  refine TL.rw 14 (.int .i64 (w64 (a + 1))) (.int .i64 (a + 1)) (by kernel_rfl) (int_eq (by rw [w64_id (x := (a + 1)) (by omega)])) ?_
  refine TL.callM (Γ := Int × Int) (fun g => .int .i64 g.2) (fun g => [.inr (Fact ((g.2 = (a - 1) ∨ g.2 = a ∨ g.2 = (a + 1)) ∧ swaps ≤ g.1 ∧ g.1 ≤ swaps + 3)), .inr (Own A_data c_data 58 6 (data.map Plot.c)), .inl (b_swaps, .cells #[.int .i64 g.1] 3 (0, 0))]) [.inr (Own A_data c_data 58 6 (data.map Plot.c)), .inl (b_swaps, .cells #[.int .i64 swaps] 3 (0, 0))] [] (some 17) (fun g => [(17, .int .i64 g.2)]) (fun w hM => medP_w A_data c_data data (a - 1) a (a + 1) b_swaps swaps w hM.pass (by first | omega | (simp only [w64_eq]; omega) | (simp <;> omega)) (by first | omega | (simp only [w64_eq]; omega) | (simp <;> omega))) (by kernel_rfl) (fun g => by kernel_rfl) ?_
  rintro ⟨swaps_2, r_⟩
  refine TL.conv [.inr (Fact ((r_ = (a - 1) ∨ r_ = a ∨ r_ = (a + 1)) ∧ swaps ≤ swaps_2 ∧ swaps_2 ≤ swaps + 3)), .inr (Own A_data c_data 58 6 (data.map Plot.c)), .inl (b_swaps, .cells #[.int .i64 swaps_2] 3 (0, 0))] (fun _ hM => hM) ?_
  refine TL.know (fun w hM => hM.fact_at 0 rfl) (fun hp_medP => ?_)
  refine TL.forget [.inr (Own A_data c_data 58 6 (data.map Plot.c)), .inl (b_swaps, .cells #[.int .i64 swaps_2] 3 (0, 0))] (.cons _ (List.Sublist.refl _)) ?_
  refine TL.run 10 [] [(8, .int .i64 r_)] rfl ⟨by kernel_rfl, by kernel_rfl⟩ ?_
  refine TL.next rfl ?_
  refine TC.ret ?_
  exact TE.retM (.inl rfl) (swaps_2, r_) [] (.int .i64 r_) ⟨by kernel_rfl, by kernel_rfl⟩ rfl (fun _ hM => (hM.sub (.cons_cons _ (.cons_cons _ (.slnil)))).fact (by (try dsimp only); first | exact ⟨by omega, by omega, by omega⟩))

set_option maxRecDepth 100000 in
theorem chpP_w (A_data : Option Addr) (c_data : Nat) (data : List Plot) (a : Int) (b_ : Int) (w : World) (hM : Sat ⟨w, feet [.inr (Own A_data c_data 58 6 (data.map Plot.c))]⟩ [.inr (Own A_data c_data 58 6 (data.map Plot.c))] w) (hp : 0 ≤ a ∧ a + 9 ≤ b_ ∧ b_ ≤ (data.length : Int)) : Calls Try.prog 128 #[.slice A_data data.length c_data, .int .i64 a, .int .i64 b_, .func (.func 33) #[] #[]] w (RetM (Γ := Int × Int) ⟨w, feet [.inr (Own A_data c_data 58 6 (data.map Plot.c))]⟩ (fun g => .tuple #[.int .i64 g.1, .int .i64 g.2]) (fun g => [.inr (Fact ((a ≤ g.1 ∧ g.1 < b_) ∧ 0 ≤ g.2 ∧ g.2 ≤ 2)), .inr (Own A_data c_data 58 6 (data.map Plot.c))])) := by
  refine calls_introM (w0 := ⟨w, feet [.inr (Own A_data c_data 58 6 (data.map Plot.c))]⟩) (vs := [.slice A_data data.length c_data, .int .i64 a, .int .i64 b_, .func (.func 33) #[] #[]]) hM Try.func128 rfl Try.ntmps128 rfl ?_
  refine TC.weak [(0, .slice A_data data.length c_data), (1, .int .i64 a), (2, .int .i64 b_), (3, .func (.func 33) #[] #[])] (by kernel_rfl) ?_
  refine TC.know (fun w hM => hM.short_at 0 rfl) (fun s_data => ?_)
  refine TC.seq ?_
  refine TC.region ?_
  refine TL.run 2 [] [(0, .slice A_data data.length c_data), (1, .int .i64 a), (2, .int .i64 b_), (3, .func (.func 33) #[] #[])] rfl ⟨by kernel_rfl, by kernel_rfl⟩ ?_
  refine TL.next rfl ?_
  refine TC.seq ?_
  refine TC.region ?_
  refine TL.run 4 [] [(0, .slice A_data data.length c_data), (1, .int .i64 a), (3, .func (.func 33) #[] #[]), (10, .int .i64 (w64 (b_ - a)))] rfl ⟨by kernel_rfl, by kernel_rfl⟩ ?_
  refine TL.rw 10 (.int .i64 (w64 (b_ - a))) (.int .i64 (b_ - a)) (by kernel_rfl) (int_eq (by rw [w64_id (x := (b_ - a)) (by omega)])) ?_
  refine TL.next rfl ?_
  refine TC.seq ?_
  refine TC.region ?_
  refine TL.write 0 (fun b1 => [(0, .slice A_data data.length c_data), (1, .int .i64 a), (3, .func (.func 33) #[] #[]), (10, .int .i64 (b_ - a)), (11, .pointer (some ⟨b1, 0, none⟩))]) (fun b1 => [.inl (b1, .cells #[.int .i64 0] 3 (0, 0)), .inr (Own A_data c_data 58 6 (data.map Plot.c))]) (fun b1 => ⟨by kernel_rfl, by kernel_rfl⟩) (fun b1 => ?_)
  refine TL.next rfl ?_
  refine TC.seq ?_
  refine TC.region ?_
  refine TL.run 6 [] [(0, .slice A_data data.length c_data), (1, .int .i64 a), (3, .func (.func 33) #[] #[]), (10, .int .i64 (b_ - a)), (11, .pointer (some ⟨b1, 0, none⟩)), (12, .int .i64 (w64 (a + (w64 ((w64 ((b_ - a).tdiv 4)) * 1)))))] rfl ⟨by kernel_rfl, by kernel_rfl⟩ ?_
  refine TL.rw 12 (.int .i64 (w64 (a + (w64 ((w64 ((b_ - a).tdiv 4)) * 1))))) (.int .i64 (a + ((((((b_ - a) / 4))) * 1)))) (by kernel_rfl) (int_eq (by rw [tdiv_pos (a := (b_ - a)) 4 (by omega), w64_id (x := (((b_ - a) / 4))) (by omega), w64_id (x := (((((b_ - a) / 4))) * 1)) (by omega), w64_id (x := (a + ((((((b_ - a) / 4))) * 1)))) (by omega)])) ?_
  refine TL.next rfl ?_
  refine TC.seq ?_
  refine TC.region ?_
  refine TL.run 6 [] [(0, .slice A_data data.length c_data), (1, .int .i64 a), (3, .func (.func 33) #[] #[]), (10, .int .i64 (b_ - a)), (11, .pointer (some ⟨b1, 0, none⟩)), (12, .int .i64 (a + ((((((b_ - a) / 4))) * 1)))), (13, .int .i64 (w64 (a + (w64 ((w64 ((b_ - a).tdiv 4)) * 2)))))] rfl ⟨by kernel_rfl, by kernel_rfl⟩ ?_
  refine TL.rw 13 (.int .i64 (w64 (a + (w64 ((w64 ((b_ - a).tdiv 4)) * 2))))) (.int .i64 (a + ((((((b_ - a) / 4))) * 2)))) (by kernel_rfl) (int_eq (by rw [tdiv_pos (a := (b_ - a)) 4 (by omega), w64_id (x := (((b_ - a) / 4))) (by omega), w64_id (x := (((((b_ - a) / 4))) * 2)) (by omega), w64_id (x := (a + ((((((b_ - a) / 4))) * 2)))) (by omega)])) ?_
  refine TL.next rfl ?_
  refine TC.seq ?_
  refine TC.region ?_
  refine TL.run 6 [] [(0, .slice A_data data.length c_data), (3, .func (.func 33) #[] #[]), (10, .int .i64 (b_ - a)), (11, .pointer (some ⟨b1, 0, none⟩)), (12, .int .i64 (a + ((((((b_ - a) / 4))) * 1)))), (13, .int .i64 (a + ((((((b_ - a) / 4))) * 2)))), (14, .int .i64 (w64 (a + (w64 ((w64 ((b_ - a).tdiv 4)) * 3)))))] rfl ⟨by kernel_rfl, by kernel_rfl⟩ ?_
  refine TL.rw 14 (.int .i64 (w64 (a + (w64 ((w64 ((b_ - a).tdiv 4)) * 3))))) (.int .i64 (a + ((((((b_ - a) / 4))) * 3)))) (by kernel_rfl) (int_eq (by rw [tdiv_pos (a := (b_ - a)) 4 (by omega), w64_id (x := (((b_ - a) / 4))) (by omega), w64_id (x := (((((b_ - a) / 4))) * 3)) (by omega), w64_id (x := (a + ((((((b_ - a) / 4))) * 3)))) (by omega)])) ?_
  refine TL.next rfl ?_
  refine TC.seq ?_
  refine TC.seq ?_
  refine TC.region ?_
  refine TL.run 2 [] [(0, .slice A_data data.length c_data), (3, .func (.func 33) #[] #[]), (10, .int .i64 (b_ - a)), (11, .pointer (some ⟨b1, 0, none⟩)), (12, .int .i64 (a + ((((((b_ - a) / 4))) * 1)))), (13, .int .i64 (a + ((((((b_ - a) / 4))) * 2)))), (14, .int .i64 (a + ((((((b_ - a) / 4))) * 3)))), (34, .bool (decide ((b_ - a) ≥ 8)))] rfl ⟨by kernel_rfl, by kernel_rfl⟩ ?_
  refine TL.next rfl ?_
  refine TC.cond (decide ((b_ - a) ≥ 8)) rfl (by kernel_rfl) (fun h1 => ?_) (fun h1 => ?_)
  · refine TC.seq ?_
    refine TC.seq ?_
    refine TC.region ?_
    refine TL.run 2 [] [(0, .slice A_data data.length c_data), (3, .func (.func 33) #[] #[]), (11, .pointer (some ⟨b1, 0, none⟩)), (12, .int .i64 (a + ((((((b_ - a) / 4))) * 1)))), (13, .int .i64 (a + ((((((b_ - a) / 4))) * 2)))), (14, .int .i64 (a + ((((((b_ - a) / 4))) * 3)))), (36, .bool (decide ((b_ - a) ≥ 50)))] rfl ⟨by kernel_rfl, by kernel_rfl⟩ ?_
    refine TL.next rfl ?_
    refine TC.cond (decide ((b_ - a) ≥ 50)) rfl (by kernel_rfl) (fun h2 => ?_) (fun h2 => ?_)
    · refine TC.seq ?_
      refine TC.region ?_
      refine TL.run 3 [] [(0, .slice A_data data.length c_data), (3, .func (.func 33) #[] #[]), (11, .pointer (some ⟨b1, 0, none⟩)), (13, .int .i64 (a + ((((((b_ - a) / 4))) * 2)))), (14, .int .i64 (a + ((((((b_ - a) / 4))) * 3)))), (37, .slice A_data data.length c_data), (38, .int .i64 (a + ((((((b_ - a) / 4))) * 1)))), (39, .func (.func 33) #[] #[])] rfl ⟨by kernel_rfl, by kernel_rfl⟩ ?_
      refine TL.conv [.inr (Own A_data c_data 58 6 (data.map Plot.c)), .inl (b1, .cells #[.int .i64 0] 3 (0, 0))] (fun _ hM => hM.perm (((List.Perm.cons _ (List.Perm.refl _)).trans (List.Perm.swap _ _ _)).trans (List.Perm.cons _ (List.Perm.refl _)))) ?_
      refine TL.callM (Γ := Int × Int) (fun g => .int .i64 g.2) (fun g => [.inr (Fact (((a + ((((((b_ - a) / 4))) * 1))) - 1 ≤ g.2 ∧ g.2 ≤ (a + ((((((b_ - a) / 4))) * 1))) + 1) ∧ 0 ≤ g.1 ∧ g.1 ≤ 0 + 3)), .inr (Own A_data c_data 58 6 (data.map Plot.c)), .inl (b1, .cells #[.int .i64 g.1] 3 (0, 0))]) [.inr (Own A_data c_data 58 6 (data.map Plot.c)), .inl (b1, .cells #[.int .i64 0] 3 (0, 0))] [] (some 40) (fun g => [(0, .slice A_data data.length c_data), (3, .func (.func 33) #[] #[]), (11, .pointer (some ⟨b1, 0, none⟩)), (13, .int .i64 (a + ((((((b_ - a) / 4))) * 2)))), (14, .int .i64 (a + ((((((b_ - a) / 4))) * 3)))), (40, .int .i64 g.2)]) (fun w hM => madjP_w A_data c_data data (a + ((((((b_ - a) / 4))) * 1))) b1 0 w hM.pass (by have q0_ := (dec_t h1); have q1_ := (dec_t h2); first | omega | (simp only [w64_eq]; omega) | (simp <;> omega)) (by have q0_ := (dec_t h1); have q1_ := (dec_t h2); first | omega | (simp only [w64_eq]; omega) | (simp <;> omega))) (by kernel_rfl) (fun g => by kernel_rfl) ?_
      rintro ⟨swaps, r_⟩
      refine TL.conv [.inr (Fact (((a + ((((((b_ - a) / 4))) * 1))) - 1 ≤ r_ ∧ r_ ≤ (a + ((((((b_ - a) / 4))) * 1))) + 1) ∧ 0 ≤ swaps ∧ swaps ≤ 0 + 3)), .inr (Own A_data c_data 58 6 (data.map Plot.c)), .inl (b1, .cells #[.int .i64 swaps] 3 (0, 0))] (fun _ hM => hM) ?_
      refine TL.know (fun w hM => hM.fact_at 0 rfl) (fun hp_madjP => ?_)
      refine TL.forget [.inr (Own A_data c_data 58 6 (data.map Plot.c)), .inl (b1, .cells #[.int .i64 swaps] 3 (0, 0))] (.cons _ (List.Sublist.refl _)) ?_
      refine TL.run 5 [] [(0, .slice A_data data.length c_data), (3, .func (.func 33) #[] #[]), (11, .pointer (some ⟨b1, 0, none⟩)), (12, .int .i64 r_), (13, .int .i64 (a + ((((((b_ - a) / 4))) * 2)))), (14, .int .i64 (a + ((((((b_ - a) / 4))) * 3))))] rfl ⟨by kernel_rfl, by kernel_rfl⟩ ?_
      refine TL.next rfl ?_
      refine TC.seq ?_
      refine TC.region ?_
      refine TL.run 3 [] [(0, .slice A_data data.length c_data), (3, .func (.func 33) #[] #[]), (11, .pointer (some ⟨b1, 0, none⟩)), (12, .int .i64 r_), (14, .int .i64 (a + ((((((b_ - a) / 4))) * 3)))), (41, .slice A_data data.length c_data), (42, .int .i64 (a + ((((((b_ - a) / 4))) * 2)))), (43, .func (.func 33) #[] #[])] rfl ⟨by kernel_rfl, by kernel_rfl⟩ ?_
      refine TL.callM (Γ := Int × Int) (fun g => .int .i64 g.2) (fun g => [.inr (Fact (((a + ((((((b_ - a) / 4))) * 2))) - 1 ≤ g.2 ∧ g.2 ≤ (a + ((((((b_ - a) / 4))) * 2))) + 1) ∧ swaps ≤ g.1 ∧ g.1 ≤ swaps + 3)), .inr (Own A_data c_data 58 6 (data.map Plot.c)), .inl (b1, .cells #[.int .i64 g.1] 3 (0, 0))]) [.inr (Own A_data c_data 58 6 (data.map Plot.c)), .inl (b1, .cells #[.int .i64 swaps] 3 (0, 0))] [] (some 44) (fun g => [(0, .slice A_data data.length c_data), (3, .func (.func 33) #[] #[]), (11, .pointer (some ⟨b1, 0, none⟩)), (12, .int .i64 r_), (14, .int .i64 (a + ((((((b_ - a) / 4))) * 3)))), (44, .int .i64 g.2)]) (fun w hM => madjP_w A_data c_data data (a + ((((((b_ - a) / 4))) * 2))) b1 swaps w hM.pass (by have q0_ := (dec_t h1); have q1_ := (dec_t h2); first | omega | (simp only [w64_eq]; omega) | (simp <;> omega)) (by have q0_ := (dec_t h1); have q1_ := (dec_t h2); first | omega | (simp only [w64_eq]; omega) | (simp <;> omega))) (by kernel_rfl) (fun g => by kernel_rfl) ?_
      rintro ⟨swaps_2, r__2⟩
      refine TL.conv [.inr (Fact (((a + ((((((b_ - a) / 4))) * 2))) - 1 ≤ r__2 ∧ r__2 ≤ (a + ((((((b_ - a) / 4))) * 2))) + 1) ∧ swaps ≤ swaps_2 ∧ swaps_2 ≤ swaps + 3)), .inr (Own A_data c_data 58 6 (data.map Plot.c)), .inl (b1, .cells #[.int .i64 swaps_2] 3 (0, 0))] (fun _ hM => hM) ?_
      refine TL.know (fun w hM => hM.fact_at 0 rfl) (fun hp_madjP => ?_)
      refine TL.forget [.inr (Own A_data c_data 58 6 (data.map Plot.c)), .inl (b1, .cells #[.int .i64 swaps_2] 3 (0, 0))] (.cons _ (List.Sublist.refl _)) ?_
      refine TL.run 5 [] [(0, .slice A_data data.length c_data), (3, .func (.func 33) #[] #[]), (11, .pointer (some ⟨b1, 0, none⟩)), (12, .int .i64 r_), (13, .int .i64 r__2), (14, .int .i64 (a + ((((((b_ - a) / 4))) * 3))))] rfl ⟨by kernel_rfl, by kernel_rfl⟩ ?_
      refine TL.next rfl ?_
      refine TC.region ?_
      refine TL.run 3 [] [(0, .slice A_data data.length c_data), (3, .func (.func 33) #[] #[]), (11, .pointer (some ⟨b1, 0, none⟩)), (12, .int .i64 r_), (13, .int .i64 r__2), (45, .slice A_data data.length c_data), (46, .int .i64 (a + ((((((b_ - a) / 4))) * 3)))), (47, .func (.func 33) #[] #[])] rfl ⟨by kernel_rfl, by kernel_rfl⟩ ?_
      refine TL.callM (Γ := Int × Int) (fun g => .int .i64 g.2) (fun g => [.inr (Fact (((a + ((((((b_ - a) / 4))) * 3))) - 1 ≤ g.2 ∧ g.2 ≤ (a + ((((((b_ - a) / 4))) * 3))) + 1) ∧ swaps_2 ≤ g.1 ∧ g.1 ≤ swaps_2 + 3)), .inr (Own A_data c_data 58 6 (data.map Plot.c)), .inl (b1, .cells #[.int .i64 g.1] 3 (0, 0))]) [.inr (Own A_data c_data 58 6 (data.map Plot.c)), .inl (b1, .cells #[.int .i64 swaps_2] 3 (0, 0))] [] (some 48) (fun g => [(0, .slice A_data data.length c_data), (3, .func (.func 33) #[] #[]), (11, .pointer (some ⟨b1, 0, none⟩)), (12, .int .i64 r_), (13, .int .i64 r__2), (48, .int .i64 g.2)]) (fun w hM => madjP_w A_data c_data data (a + ((((((b_ - a) / 4))) * 3))) b1 swaps_2 w hM.pass (by have q0_ := (dec_t h1); have q1_ := (dec_t h2); first | omega | (simp only [w64_eq]; omega) | (simp <;> omega)) (by have q0_ := (dec_t h1); have q1_ := (dec_t h2); first | omega | (simp only [w64_eq]; omega) | (simp <;> omega))) (by kernel_rfl) (fun g => by kernel_rfl) ?_
      rintro ⟨swaps_3, r__3⟩
      refine TL.conv [.inr (Fact (((a + ((((((b_ - a) / 4))) * 3))) - 1 ≤ r__3 ∧ r__3 ≤ (a + ((((((b_ - a) / 4))) * 3))) + 1) ∧ swaps_2 ≤ swaps_3 ∧ swaps_3 ≤ swaps_2 + 3)), .inr (Own A_data c_data 58 6 (data.map Plot.c)), .inl (b1, .cells #[.int .i64 swaps_3] 3 (0, 0))] (fun _ hM => hM) ?_
      refine TL.know (fun w hM => hM.fact_at 0 rfl) (fun hp_madjP => ?_)
      refine TL.forget [.inr (Own A_data c_data 58 6 (data.map Plot.c)), .inl (b1, .cells #[.int .i64 swaps_3] 3 (0, 0))] (.cons _ (List.Sublist.refl _)) ?_
      refine TL.run 5 [] [(0, .slice A_data data.length c_data), (3, .func (.func 33) #[] #[]), (11, .pointer (some ⟨b1, 0, none⟩)), (12, .int .i64 r_), (13, .int .i64 r__2), (14, .int .i64 r__3)] rfl ⟨by kernel_rfl, by kernel_rfl⟩ ?_
      refine TL.next rfl ?_
      refine TC.region ?_
      refine TL.run 5 [] [(11, .pointer (some ⟨b1, 0, none⟩)), (49, .slice A_data data.length c_data), (50, .int .i64 r_), (51, .int .i64 r__2), (52, .int .i64 r__3), (53, .func (.func 33) #[] #[])] rfl ⟨by kernel_rfl, by kernel_rfl⟩ ?_
      refine TL.callM (Γ := Int × Int) (fun g => .int .i64 g.2) (fun g => [.inr (Fact ((g.2 = r_ ∨ g.2 = r__2 ∨ g.2 = r__3) ∧ swaps_3 ≤ g.1 ∧ g.1 ≤ swaps_3 + 3)), .inr (Own A_data c_data 58 6 (data.map Plot.c)), .inl (b1, .cells #[.int .i64 g.1] 3 (0, 0))]) [.inr (Own A_data c_data 58 6 (data.map Plot.c)), .inl (b1, .cells #[.int .i64 swaps_3] 3 (0, 0))] [] (some 54) (fun g => [(11, .pointer (some ⟨b1, 0, none⟩)), (54, .int .i64 g.2)]) (fun w hM => medP_w A_data c_data data r_ r__2 r__3 b1 swaps_3 w hM.pass (by have q0_ := (dec_t h1); have q1_ := (dec_t h2); first | omega | (simp only [w64_eq]; omega) | (simp <;> omega)) (by have q0_ := (dec_t h1); have q1_ := (dec_t h2); first | omega | (simp only [w64_eq]; omega) | (simp <;> omega))) (by kernel_rfl) (fun g => by kernel_rfl) ?_
      rintro ⟨swaps_4, r__4⟩
      refine TL.conv [.inr (Fact ((r__4 = r_ ∨ r__4 = r__2 ∨ r__4 = r__3) ∧ swaps_3 ≤ swaps_4 ∧ swaps_4 ≤ swaps_3 + 3)), .inr (Own A_data c_data 58 6 (data.map Plot.c)), .inl (b1, .cells #[.int .i64 swaps_4] 3 (0, 0))] (fun _ hM => hM) ?_
      refine TL.know (fun w hM => hM.fact_at 0 rfl) (fun hp_medP => ?_)
      refine TL.forget [.inr (Own A_data c_data 58 6 (data.map Plot.c)), .inl (b1, .cells #[.int .i64 swaps_4] 3 (0, 0))] (.cons _ (List.Sublist.refl _)) ?_
      refine TL.run 7 [] [(11, .pointer (some ⟨b1, 0, none⟩)), (13, .int .i64 r__4)] rfl ⟨by kernel_rfl, by kernel_rfl⟩ ?_
      refine TL.next rfl ?_
      refine TC.seq ?_
      refine TC.region ?_
      refine TL.run 1 [1] [(13, .int .i64 r__4), (55, .int .i64 swaps_4)] rfl ⟨by kernel_rfl, by kernel_rfl⟩ ?_
      refine TL.next rfl ?_
      refine TC.block ?_
      refine TC.seq ?_
      refine TC.region ?_
      refine TL.run 2 [] [(13, .int .i64 r__4), (55, .int .i64 swaps_4), (57, .bool (swaps_4 == 0))] rfl ⟨by kernel_rfl, by kernel_rfl⟩ ?_
      refine TL.next rfl ?_
      refine TC.cond (swaps_4 == 0) rfl (by kernel_rfl) (fun h3 => ?_) (fun h3 => ?_)
      · refine TC.seq ?_
        refine TC.region ?_
        refine TL.run 3 [] [(8, .int .i64 r__4), (9, .int .i64 1)] rfl ⟨by kernel_rfl, by kernel_rfl⟩ ?_
        refine TL.next rfl ?_
        refine TC.ret ?_
        refine TE.ret_block ?_
        exact TE.retM (.inl rfl) (r__4, 1) [] (.tuple #[.int .i64 r__4, .int .i64 1]) ⟨by kernel_rfl, by kernel_rfl⟩ rfl (fun _ hM => (hM.sub (.cons_cons _ (.cons _ (.slnil)))).fact (by have q0_ := (dec_t h1); have q1_ := (dec_t h2); have q2_ := (beq_t h3); (try dsimp only); first | exact ⟨by omega, by omega⟩))
      · refine TC.seq ?_
        refine TC.region ?_
        refine TL.run 2 [] [(13, .int .i64 r__4), (60, .bool (swaps_4 == 12))] rfl ⟨by kernel_rfl, by kernel_rfl⟩ ?_
        refine TL.next rfl ?_
        refine TC.cond (swaps_4 == 12) rfl (by kernel_rfl) (fun h4 => ?_) (fun h4 => ?_)
        · refine TC.seq ?_
          refine TC.region ?_
          refine TL.run 3 [] [(8, .int .i64 r__4), (9, .int .i64 2)] rfl ⟨by kernel_rfl, by kernel_rfl⟩ ?_
          refine TL.next rfl ?_
          refine TC.ret ?_
          refine TE.ret_block ?_
          exact TE.retM (.inl rfl) (r__4, 2) [] (.tuple #[.int .i64 r__4, .int .i64 2]) ⟨by kernel_rfl, by kernel_rfl⟩ rfl (fun _ hM => (hM.sub (.cons_cons _ (.cons _ (.slnil)))).fact (by have q0_ := (dec_t h1); have q1_ := (dec_t h2); have q2_ := (beq_f h3); have q3_ := (beq_t h4); (try dsimp only); first | exact ⟨by omega, by omega⟩))
        · refine TC.seq ?_
          refine TC.region ?_
          refine TL.run 3 [] [(8, .int .i64 r__4), (9, .int .i64 0)] rfl ⟨by kernel_rfl, by kernel_rfl⟩ ?_
          refine TL.next rfl ?_
          refine TC.ret ?_
          refine TE.ret_block ?_
          exact TE.retM (.inl rfl) (r__4, 0) [] (.tuple #[.int .i64 r__4, .int .i64 0]) ⟨by kernel_rfl, by kernel_rfl⟩ rfl (fun _ hM => (hM.sub (.cons_cons _ (.cons _ (.slnil)))).fact (by have q0_ := (dec_t h1); have q1_ := (dec_t h2); have q2_ := (beq_f h3); have q3_ := (beq_f h4); (try dsimp only); first | exact ⟨by omega, by omega⟩))
    · refine TC.skip ?_
      refine TE.next ?_
      refine TC.region ?_
      refine TL.run 5 [] [(11, .pointer (some ⟨b1, 0, none⟩)), (49, .slice A_data data.length c_data), (50, .int .i64 (a + ((((((b_ - a) / 4))) * 1)))), (51, .int .i64 (a + ((((((b_ - a) / 4))) * 2)))), (52, .int .i64 (a + ((((((b_ - a) / 4))) * 3)))), (53, .func (.func 33) #[] #[])] rfl ⟨by kernel_rfl, by kernel_rfl⟩ ?_
      refine TL.conv [.inr (Own A_data c_data 58 6 (data.map Plot.c)), .inl (b1, .cells #[.int .i64 0] 3 (0, 0))] (fun _ hM => hM.perm (((List.Perm.cons _ (List.Perm.refl _)).trans (List.Perm.swap _ _ _)).trans (List.Perm.cons _ (List.Perm.refl _)))) ?_
      refine TL.callM (Γ := Int × Int) (fun g => .int .i64 g.2) (fun g => [.inr (Fact ((g.2 = (a + ((((((b_ - a) / 4))) * 1))) ∨ g.2 = (a + ((((((b_ - a) / 4))) * 2))) ∨ g.2 = (a + ((((((b_ - a) / 4))) * 3)))) ∧ 0 ≤ g.1 ∧ g.1 ≤ 0 + 3)), .inr (Own A_data c_data 58 6 (data.map Plot.c)), .inl (b1, .cells #[.int .i64 g.1] 3 (0, 0))]) [.inr (Own A_data c_data 58 6 (data.map Plot.c)), .inl (b1, .cells #[.int .i64 0] 3 (0, 0))] [] (some 54) (fun g => [(11, .pointer (some ⟨b1, 0, none⟩)), (54, .int .i64 g.2)]) (fun w hM => medP_w A_data c_data data (a + ((((((b_ - a) / 4))) * 1))) (a + ((((((b_ - a) / 4))) * 2))) (a + ((((((b_ - a) / 4))) * 3))) b1 0 w hM.pass (by have q0_ := (dec_t h1); have q1_ := (dec_f h2); first | omega | (simp only [w64_eq]; omega) | (simp <;> omega)) (by have q0_ := (dec_t h1); have q1_ := (dec_f h2); first | omega | (simp only [w64_eq]; omega) | (simp <;> omega))) (by kernel_rfl) (fun g => by kernel_rfl) ?_
      rintro ⟨swaps_5, r__5⟩
      refine TL.conv [.inr (Fact ((r__5 = (a + ((((((b_ - a) / 4))) * 1))) ∨ r__5 = (a + ((((((b_ - a) / 4))) * 2))) ∨ r__5 = (a + ((((((b_ - a) / 4))) * 3)))) ∧ 0 ≤ swaps_5 ∧ swaps_5 ≤ 0 + 3)), .inr (Own A_data c_data 58 6 (data.map Plot.c)), .inl (b1, .cells #[.int .i64 swaps_5] 3 (0, 0))] (fun _ hM => hM) ?_
      refine TL.know (fun w hM => hM.fact_at 0 rfl) (fun hp_medP => ?_)
      refine TL.forget [.inr (Own A_data c_data 58 6 (data.map Plot.c)), .inl (b1, .cells #[.int .i64 swaps_5] 3 (0, 0))] (.cons _ (List.Sublist.refl _)) ?_
      refine TL.run 7 [] [(11, .pointer (some ⟨b1, 0, none⟩)), (13, .int .i64 r__5)] rfl ⟨by kernel_rfl, by kernel_rfl⟩ ?_
      refine TL.next rfl ?_
      refine TC.seq ?_
      refine TC.region ?_
      refine TL.run 1 [1] [(13, .int .i64 r__5), (55, .int .i64 swaps_5)] rfl ⟨by kernel_rfl, by kernel_rfl⟩ ?_
      refine TL.next rfl ?_
      refine TC.block ?_
      refine TC.seq ?_
      refine TC.region ?_
      refine TL.run 2 [] [(13, .int .i64 r__5), (55, .int .i64 swaps_5), (57, .bool (swaps_5 == 0))] rfl ⟨by kernel_rfl, by kernel_rfl⟩ ?_
      refine TL.next rfl ?_
      refine TC.cond (swaps_5 == 0) rfl (by kernel_rfl) (fun h5 => ?_) (fun h5 => ?_)
      · refine TC.seq ?_
        refine TC.region ?_
        refine TL.run 3 [] [(8, .int .i64 r__5), (9, .int .i64 1)] rfl ⟨by kernel_rfl, by kernel_rfl⟩ ?_
        refine TL.next rfl ?_
        refine TC.ret ?_
        refine TE.ret_block ?_
        exact TE.retM (.inl rfl) (r__5, 1) [] (.tuple #[.int .i64 r__5, .int .i64 1]) ⟨by kernel_rfl, by kernel_rfl⟩ rfl (fun _ hM => (hM.sub (.cons_cons _ (.cons _ (.slnil)))).fact (by have q0_ := (dec_t h1); have q1_ := (dec_f h2); have q2_ := (beq_t h5); (try dsimp only); first | exact ⟨by omega, by omega⟩))
      · refine TC.seq ?_
        refine TC.region ?_
        refine TL.run 2 [] [(13, .int .i64 r__5), (60, .bool (swaps_5 == 12))] rfl ⟨by kernel_rfl, by kernel_rfl⟩ ?_
        refine TL.next rfl ?_
        refine TC.cond (swaps_5 == 12) rfl (by kernel_rfl) (fun h6 => ?_) (fun h6 => ?_)
        · refine TC.seq ?_
          refine TC.region ?_
          refine TL.run 3 [] [(8, .int .i64 r__5), (9, .int .i64 2)] rfl ⟨by kernel_rfl, by kernel_rfl⟩ ?_
          refine TL.next rfl ?_
          refine TC.ret ?_
          refine TE.ret_block ?_
          exact TE.retM (.inl rfl) (r__5, 2) [] (.tuple #[.int .i64 r__5, .int .i64 2]) ⟨by kernel_rfl, by kernel_rfl⟩ rfl (fun _ hM => (hM.sub (.cons_cons _ (.cons _ (.slnil)))).fact (by have q0_ := (dec_t h1); have q1_ := (dec_f h2); have q2_ := (beq_f h5); have q3_ := (beq_t h6); (try dsimp only); first | exact ⟨by omega, by omega⟩))
        · refine TC.seq ?_
          refine TC.region ?_
          refine TL.run 3 [] [(8, .int .i64 r__5), (9, .int .i64 0)] rfl ⟨by kernel_rfl, by kernel_rfl⟩ ?_
          refine TL.next rfl ?_
          refine TC.ret ?_
          refine TE.ret_block ?_
          exact TE.retM (.inl rfl) (r__5, 0) [] (.tuple #[.int .i64 r__5, .int .i64 0]) ⟨by kernel_rfl, by kernel_rfl⟩ rfl (fun _ hM => (hM.sub (.cons_cons _ (.cons _ (.slnil)))).fact (by have q0_ := (dec_t h1); have q1_ := (dec_f h2); have q2_ := (beq_f h5); have q3_ := (beq_f h6); (try dsimp only); first | exact ⟨by omega, by omega⟩))
  · refine TC.skip ?_
    refine TE.next ?_
    refine TC.seq ?_
    refine TC.region ?_
    refine TL.run 1 [0] [(13, .int .i64 (a + ((((((b_ - a) / 4))) * 2)))), (55, .int .i64 0)] rfl ⟨by kernel_rfl, by kernel_rfl⟩ ?_
    refine TL.next rfl ?_
    refine TC.block ?_
    refine TC.seq ?_
    refine TC.region ?_
    refine TL.run 2 [] [(13, .int .i64 (a + ((((((b_ - a) / 4))) * 2)))), (55, .int .i64 0), (57, .bool (0 == 0))] rfl ⟨by kernel_rfl, by kernel_rfl⟩ ?_
    refine TL.next rfl ?_
    refine TC.cond (0 == 0) rfl (by kernel_rfl) (fun h7 => ?_) (fun h7 => ?_)
    · refine TC.seq ?_
      refine TC.region ?_
      refine TL.run 3 [] [(8, .int .i64 (a + ((((((b_ - a) / 4))) * 2)))), (9, .int .i64 1)] rfl ⟨by kernel_rfl, by kernel_rfl⟩ ?_
      refine TL.next rfl ?_
      refine TC.ret ?_
      refine TE.ret_block ?_
      exact TE.retM (.inl rfl) ((a + ((((((b_ - a) / 4))) * 2))), 1) [] (.tuple #[.int .i64 (a + ((((((b_ - a) / 4))) * 2))), .int .i64 1]) ⟨by kernel_rfl, by kernel_rfl⟩ rfl (fun _ hM => (hM.sub (.cons _ (.cons_cons _ (.slnil)))).fact (by have q0_ := (dec_f h1); (try dsimp only); first | exact ⟨by omega, by omega⟩))
    · refine TC.seq ?_
      refine TC.region ?_
      refine TL.run 2 [] [(13, .int .i64 (a + ((((((b_ - a) / 4))) * 2)))), (60, .bool (0 == 12))] rfl ⟨by kernel_rfl, by kernel_rfl⟩ ?_
      refine TL.next rfl ?_
      refine TC.cond (0 == 12) rfl (by kernel_rfl) (fun h8 => ?_) (fun h8 => ?_)
      · refine TC.seq ?_
        refine TC.region ?_
        refine TL.run 3 [] [(8, .int .i64 (a + ((((((b_ - a) / 4))) * 2)))), (9, .int .i64 2)] rfl ⟨by kernel_rfl, by kernel_rfl⟩ ?_
        refine TL.next rfl ?_
        refine TC.ret ?_
        refine TE.ret_block ?_
        exact TE.retM (.inl rfl) ((a + ((((((b_ - a) / 4))) * 2))), 2) [] (.tuple #[.int .i64 (a + ((((((b_ - a) / 4))) * 2))), .int .i64 2]) ⟨by kernel_rfl, by kernel_rfl⟩ rfl (fun _ hM => (hM.sub (.cons _ (.cons_cons _ (.slnil)))).fact (by have q0_ := (dec_f h1); (try dsimp only); first | exact ⟨by omega, by omega⟩))
      · refine TC.seq ?_
        refine TC.region ?_
        refine TL.run 3 [] [(8, .int .i64 (a + ((((((b_ - a) / 4))) * 2)))), (9, .int .i64 0)] rfl ⟨by kernel_rfl, by kernel_rfl⟩ ?_
        refine TL.next rfl ?_
        refine TC.ret ?_
        refine TE.ret_block ?_
        exact TE.retM (.inl rfl) ((a + ((((((b_ - a) / 4))) * 2))), 0) [] (.tuple #[.int .i64 (a + ((((((b_ - a) / 4))) * 2))), .int .i64 0]) ⟨by kernel_rfl, by kernel_rfl⟩ rfl (fun _ hM => (hM.sub (.cons _ (.cons_cons _ (.slnil)))).fact (by have q0_ := (dec_f h1); (try dsimp only); first | exact ⟨by omega, by omega⟩))

end Go.Sky
