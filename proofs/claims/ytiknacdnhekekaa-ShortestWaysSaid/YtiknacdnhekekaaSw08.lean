/- Lemmas toward the given statement (part 8 of 16): Me HeapL NetInv. Each theorem states its own conditions; nothing is assumed beyond them. -/
import Derived.Test.YtiknacdnhekekaaSw06
import Derived.Test.YtiknacdnhekekaaSw07
section
namespace Go.Sky
open Go Go.Eng Go.Proofs
open Go.Srt
set_option maxRecDepth 100000 in
theorem sortSt_w (A_x : Option Addr) (c_x : Nat) (x : List ByteArray) (w : World) (hM : Sat ⟨w, feet [.inr (Own A_x c_x 9 1 (x.map sc))]⟩ [.inr (Own A_x c_x 9 1 (x.map sc))] w) : Calls Try.prog 41 #[.slice A_x x.length c_x] w (RetM (Γ := (List ByteArray)) ⟨w, feet [.inr (Own A_x c_x 9 1 (x.map sc))]⟩ (fun _ => .tuple #[]) (fun g => [.inr (Fact (g.length = x.length ∧ g = sortT x)), .inr (Own A_x c_x 9 1 (g.map sc))])) := by
  exact strs_sort Try.laysSortT A_x c_x 9 x w hM
set_option maxRecDepth 100000 in
theorem cmpctS_w (A_s : Option Addr) (c_s : Nat) (s : List ByteArray) (w : World) (hM : Sat ⟨w, feet [.inr (Own A_s c_s 9 1 (s.map sc))]⟩ [.inr (Own A_s c_s 9 1 (s.map sc))] w) : Calls Try.prog 53 #[.slice A_s s.length c_s] w (RetM (Γ := (List ByteArray)) ⟨w, feet [.inr (Own A_s c_s 9 1 (s.map sc))]⟩ (fun g => .slice A_s g.length c_s) (fun g => [.inr (Fact (g = cpt seq s)), .inr (Own A_s c_s 9 1 (g.map sc))])) := by
  refine calls_introM (w0 := ⟨w, feet [Ow A_s c_s 9 1 (s.map sc)]⟩) (vs := [.slice A_s s.length c_s]) hM Try.func53 rfl Try.ntmps53 rfl (TC.weak [(0, .slice A_s s.length c_s)] Kr (TC.know (fun w hM => hM.short_at 0 rfl) (fun s_s => TC.sr (TL.run 1 [] [(0, .slice A_s s.length c_s)] rfl {} (TL.ns (TC.sr (TL.run 3 [] [(0, .slice A_s s.length c_s), (8, .b (decide ((s.length : Int) < 2)))] rfl {} (TL.next rfl (TC.cond (decide ((s.length : Int) < 2)) rfl Kr (fun h1 => ?_) (fun h1 => ?_))))))))))
  · exact TC.sr (TL.run 2 [] [(2, .slice A_s s.length c_s)] rfl {} (TL.next rfl (TC.ret (TE.rt (TE.retM (.inl rfl) s [] (.slice A_s s.length c_s) {} rfl (fun _ hM => (hM.sub (sb 1)).fact (by have q0_ := (dec_t h1); (try dsimp only); first | exact cpt_short (by omega) | exact (by rw [hclr]; exact (take_clear (by omega)).trans ho1.2) | exact ho0)))))))
  · refine TC.sn (TC.seq (TC.sr (TL.run 1 [] [(0, .slice A_s s.length c_s), (3, .i 1)] rfl {} (TL.next rfl (TC.weak [(0, .slice A_s s.length c_s), (3, .i 1)] Kr (TC.cut (S := Unit) (fun (_ : Unit) => [(0, .slice A_s s.length c_s)]) (fun (_ : Unit) => [Ow A_s c_s 9 1 (s.map sc)]) (fun (_ : Unit) => (s = cpt seq s)) ?_ ?_))))))
    · refine TC.block (TC.loop (X := Int) (fun k_2 => [(0, .slice A_s s.length c_s), (3, .i k_2)]) (fun k_2 => [Ow A_s c_s 9 1 (s.map sc)]) (fun k_2 => ((s.length : Int) - k_2).toNat) (fun k_2 => ((1 ≤ k_2 ∧ k_2 ≤ (s.length : Int)) ∧ cpt seq (s.take k_2.toNat) = s.take k_2.toNat)) ?_ 1 (by have q0_ := (dec_f h1); first | exact ⟨by omega, cpt_one (by omega)⟩))
      rintro k_2 hv0
      refine TC.seq (TC.sr (TL.run 4 [] [(0, .slice A_s s.length c_s), (3, .i k_2), (13, .b (decide (k_2 < (s.length : Int))))] rfl {} (TL.next rfl (TC.cond (decide (k_2 < (s.length : Int))) rfl Kr (fun h2 => ?_) (fun h2 => ?_)))))
      · refine TC.sn (TC.seq (TC.block (TC.seq (TC.draw 10 Kr Kr Kr (TQ.run 2 [] [(0, .slice A_s s.length c_s), (3, .i k_2), (16, .slice A_s s.length c_s), (17, .i k_2)] rfl {} (TQ.val (sV (Instr.indexAt 29 (.slice A_s s.length c_s) (.i k_2))) (some 18) (.pointer (some (Ix A_s (k_2.toNat * 1)))) [(0, .slice A_s s.length c_s), (3, .i k_2), (18, .pointer (some (Ix A_s (k_2.toNat * 1))))] (fun w hM => run_index (hM.rd_at 0 rfl) (by simp) Kr (by have q0_ := (dec_f h1); have q1_ := (dec_t h2); have kv0_ := hv0.1; exact sd) (by have q0_ := (dec_f h1); have q1_ := (dec_t h2); have kv0_ := hv0.1; exact sd)) rfl Kr Kr (TQ.val (sV (Instr.loadAt 9 (.pointer (some (Ix A_s (k_2.toNat * 1)))))) (some 19) (.string (s[k_2.toNat]?.getD (⟨#[]⟩ : ByteArray))) [(0, .slice A_s s.length c_s), (3, .i k_2), (19, .string (s[k_2.toNat]?.getD (⟨#[]⟩ : ByteArray)))] (fun w hM => run_load_one (off := 0) (i := k_2.toNat) (.string (s[k_2.toNat]?.getD (⟨#[]⟩ : ByteArray))) (hM.rd_at 0 rfl) (map_at (getD_at _ _ (⟨#[]⟩ : ByteArray) (by have q0_ := (dec_f h1); have q1_ := (dec_t h2); have kv0_ := hv0.1; exact sd))) Kr Kr) rfl Kr Kr (TQ.run 7 [] [(0, .slice A_s s.length c_s), (3, .i k_2), (19, .string (s[k_2.toNat]?.getD (⟨#[]⟩ : ByteArray))), (20, .slice A_s s.length c_s), (22, .i (w64 (k_2 - 1)))] rfl {} (TQ.rw 22 (.i (w64 (k_2 - 1))) (.i (k_2 - 1)) Kr (int_eq (by have q0_ := (dec_f h1); have q1_ := (dec_t h2); have kv0_ := hv0.1; rw [w64_id (x := (k_2 - 1)) (by omega)])) (TQ.val (sV (Instr.indexAt 29 (.slice A_s s.length c_s) (.i (k_2 - 1)))) (some 23) (.pointer (some (Ix A_s ((k_2 - 1).toNat * 1)))) [(0, .slice A_s s.length c_s), (3, .i k_2), (19, .string (s[k_2.toNat]?.getD (⟨#[]⟩ : ByteArray))), (23, .pointer (some (Ix A_s ((k_2 - 1).toNat * 1))))] (fun w hM => run_index (hM.rd_at 0 rfl) (by simp) Kr (by have q0_ := (dec_f h1); have q1_ := (dec_t h2); have kv0_ := hv0.1; exact sd) (by have q0_ := (dec_f h1); have q1_ := (dec_t h2); have kv0_ := hv0.1; exact sd)) rfl Kr Kr (TQ.val (sV (Instr.loadAt 9 (.pointer (some (Ix A_s ((k_2 - 1).toNat * 1)))))) (some 24) (.string (s[(k_2 - 1).toNat]?.getD (⟨#[]⟩ : ByteArray))) [(0, .slice A_s s.length c_s), (3, .i k_2), (19, .string (s[k_2.toNat]?.getD (⟨#[]⟩ : ByteArray))), (24, .string (s[(k_2 - 1).toNat]?.getD (⟨#[]⟩ : ByteArray)))] (fun w hM => run_load_one (off := 0) (i := (k_2 - 1).toNat) (.string (s[(k_2 - 1).toNat]?.getD (⟨#[]⟩ : ByteArray))) (hM.rd_at 0 rfl) (map_at (getD_at _ _ (⟨#[]⟩ : ByteArray) (by have q0_ := (dec_f h1); have q1_ := (dec_t h2); have kv0_ := hv0.1; exact sd))) Kr Kr) rfl Kr Kr (TQ.run 10 [] [(0, .slice A_s s.length c_s), (3, .i k_2), (25, .b (seq (s[k_2.toNat]?.getD (⟨#[]⟩ : ByteArray)) (s[(k_2 - 1).toNat]?.getD (⟨#[]⟩ : ByteArray))))] rfl {} (TQ.next rfl (TC.cond (seq (s[k_2.toNat]?.getD (⟨#[]⟩ : ByteArray)) (s[(k_2 - 1).toNat]?.getD (⟨#[]⟩ : ByteArray))) rfl Kr (fun h3 => ?_) (fun h3 => ?_)))))))))))))))
        · refine TC.sr (TL.run 2 [] [(0, .slice A_s s.length c_s), (3, .i k_2), (26, .slice A_s s.length c_s), (27, .i k_2)] rfl {} ?_)
          obtain ⟨A1, hA1⟩ : ∃ A0_, A0_ = (if c_s = k_2.toNat then A_s else A_s.map (fun a => a.add (k_2.toNat * 1))) := ⟨_, rfl⟩
          refine TL.val (sV (Instr.sliceAt 29 (.slice A_s s.length c_s) (some (.i k_2)) none none)) (some 28) (.slice A1 ((s.drop k_2.toNat).length) (c_s - k_2.toNat)) [(0, .slice A_s s.length c_s), (3, .i k_2), (28, .slice A1 ((s.drop k_2.toNat).length) (c_s - k_2.toNat))] (fun w hM => (run_slice k_2.toNat s.length Kr (.inr ⟨_, _, rfl, (by have q0_ := (dec_f h1); have q1_ := (dec_t h2); have kv0_ := hv0.1; exact sd), rfl⟩) (.inl ⟨rfl, rfl⟩) (by have q0_ := (dec_f h1); have q1_ := (dec_t h2); have kv0_ := hv0.1; exact sd) (Nat.le_trans (Nat.le_refl _) (hM.le_at 0 rfl))).trans (by rw [hA1]; have q0_ := (dec_f h1); have q1_ := (dec_t h2); have kv0_ := hv0.1; congr 3; simp only [List.length_drop])) Kr Kr (TL.run 4 [] [(0, .slice A_s s.length c_s), (3, .i k_2), (4, .slice A1 ((s.drop k_2.toNat).length) (c_s - k_2.toNat))] rfl {} (TL.ns (TC.sr (TL.run 1 [] [(0, .slice A_s s.length c_s), (3, .i k_2), (4, .slice A1 ((s.drop k_2.toNat).length) (c_s - k_2.toNat)), (5, .i 1)] rfl {} (TL.next rfl (TC.weak [(0, .slice A_s s.length c_s), (3, .i k_2), (4, .slice A1 ((s.drop k_2.toNat).length) (c_s - k_2.toNat)), (5, .i 1)] Kr (TC.cut (S := Int × (List ByteArray)) (fun (k_5, s_3) => [(0, .slice A_s s_3.length c_s), (3, .i k_5)]) (fun (k_5, s_3) => [Ow A_s c_s 9 1 (s_3.map sc)]) (fun (k_5, s_3) => ((0 ≤ k_5 ∧ k_5 ≤ (s.length : Int)) ∧ s_3.take k_5.toNat = cpt seq s) ∧ s_3.length = s.length) ?_ ?_)))))))
          · refine TC.block (TC.loop (X := Int × Int × (List ByteArray)) (fun (k_4, k2, s_2) => [(0, .slice A_s s_2.length c_s), (3, .i k_4), (4, .slice A1 ((s.drop k_2.toNat).length) (c_s - k_2.toNat)), (5, .i k2)]) (fun (k_4, k2, s_2) => [Ow A_s c_s 9 1 (s_2.map sc)]) (fun (k_4, k2, s_2) => ((s.length : Int) - k2).toNat) (fun (k_4, k2, s_2) => ((1 ≤ k2 ∧ k_2 + k2 ≤ (s.length : Int) ∧ k_2 ≤ k_4 ∧ k_4 + 1 ≤ k_2 + k2) ∧ Cin seq s k_2 k2 k_4 s_2) ∧ s_2.length = s.length) ?_ (k_2, 1, s) ⟨(by have q0_ := (dec_f h1); have q1_ := (dec_t h2); have kv0_ := hv0.1; first | exact ⟨by omega, cin_start hv0.2 (by omega) (by omega) (by first | assumption | exact not_t (by assumption) | exact not_f (by assumption))⟩), (by simp)⟩)
            rintro ⟨k_4, k2, s_2⟩ ⟨hv1, hl_s_2⟩
            refine TC.seq (TC.sr (TL.run 4 [] [(0, .slice A_s s_2.length c_s), (3, .i k_4), (4, .slice A1 ((s.drop k_2.toNat).length) (c_s - k_2.toNat)), (5, .i k2), (32, .b (decide (k2 < ((s.drop k_2.toNat).length : Int))))] rfl {} (TL.next rfl (TC.cond (decide (k2 < ((s.drop k_2.toNat).length : Int))) rfl Kr (fun h4 => ?_) (fun h4 => ?_)))))
            · refine TC.sn (TC.seq (TC.block (TC.seq (TC.draw 10 Kr Kr Kr (TQ.run 2 [] [(0, .slice A_s s_2.length c_s), (3, .i k_4), (4, .slice A1 ((s.drop k_2.toNat).length) (c_s - k_2.toNat)), (5, .i k2), (35, .slice A1 ((s.drop k_2.toNat).length) (c_s - k_2.toNat)), (36, .i k2)] rfl {} (TQ.val (sV (Instr.indexAt 29 (.slice A1 ((s.drop k_2.toNat).length) (c_s - k_2.toNat)) (.i k2))) (some 37) (.pointer (some (Ix A1 (k2.toNat * 1)))) [(0, .slice A_s s_2.length c_s), (3, .i k_4), (4, .slice A1 ((s.drop k_2.toNat).length) (c_s - k_2.toNat)), (5, .i k2), (37, .pointer (some (Ix A1 (k2.toNat * 1))))] (fun w hM => run_index (by have hR0_ := hM.rd_at 0 rfl; have hC0_ := hM.le_at 0 rfl; rw [hA1]; exact hR0_.dropMap k_2.toNat hC0_) (by simp only [List.length_map, List.length_drop]; first | rfl | omega) Kr (by have q0_ := (dec_f h1); have q1_ := (dec_t h2); have q2_ := (dec_t h4); have kv0_ := hv0.1; have kv1_ := hv1.1; have kd_ := List.length_drop (i := (k_2).toNat) (l := s); have ke_ := List.length_drop (i := (k_2).toNat) (l := s_2); exact sd) (by have q0_ := (dec_f h1); have q1_ := (dec_t h2); have q2_ := (dec_t h4); have kv0_ := hv0.1; have kv1_ := hv1.1; have kd_ := List.length_drop (i := (k_2).toNat) (l := s); have ke_ := List.length_drop (i := (k_2).toNat) (l := s_2); exact sd)) rfl Kr Kr (TQ.val (sV (Instr.loadAt 9 (.pointer (some (Ix A1 (k2.toNat * 1)))))) (some 38) (.string ((s_2.drop k_2.toNat)[k2.toNat]?.getD (⟨#[]⟩ : ByteArray))) [(0, .slice A_s s_2.length c_s), (3, .i k_4), (4, .slice A1 ((s.drop k_2.toNat).length) (c_s - k_2.toNat)), (5, .i k2), (38, .string ((s_2.drop k_2.toNat)[k2.toNat]?.getD (⟨#[]⟩ : ByteArray)))] (fun w hM => run_load_one (off := 0) (i := k2.toNat) (.string ((s_2.drop k_2.toNat)[k2.toNat]?.getD (⟨#[]⟩ : ByteArray))) (by have hR0_ := hM.rd_at 0 rfl; have hC0_ := hM.le_at 0 rfl; rw [hA1]; exact hR0_.dropMap k_2.toNat hC0_) (map_at (getD_at _ _ (⟨#[]⟩ : ByteArray) (by have q0_ := (dec_f h1); have q1_ := (dec_t h2); have q2_ := (dec_t h4); have kv0_ := hv0.1; have kv1_ := hv1.1; have kd_ := List.length_drop (i := (k_2).toNat) (l := s); have ke_ := List.length_drop (i := (k_2).toNat) (l := s_2); exact sd))) Kr Kr) rfl Kr Kr (TQ.run 7 [] [(0, .slice A_s s_2.length c_s), (3, .i k_4), (4, .slice A1 ((s.drop k_2.toNat).length) (c_s - k_2.toNat)), (5, .i k2), (38, .string ((s_2.drop k_2.toNat)[k2.toNat]?.getD (⟨#[]⟩ : ByteArray))), (39, .slice A1 ((s.drop k_2.toNat).length) (c_s - k_2.toNat)), (41, .i (w64 (k2 - 1)))] rfl {} (TQ.rw 41 (.i (w64 (k2 - 1))) (.i (k2 - 1)) Kr (int_eq (by have q0_ := (dec_f h1); have q1_ := (dec_t h2); have q2_ := (dec_t h4); have kv0_ := hv0.1; have kv1_ := hv1.1; have kd_ := List.length_drop (i := (k_2).toNat) (l := s); have ke_ := List.length_drop (i := (k_2).toNat) (l := s_2); rw [w64_id (x := (k2 - 1)) (by omega)])) (TQ.val (sV (Instr.indexAt 29 (.slice A1 ((s.drop k_2.toNat).length) (c_s - k_2.toNat)) (.i (k2 - 1)))) (some 42) (.pointer (some (Ix A1 ((k2 - 1).toNat * 1)))) [(0, .slice A_s s_2.length c_s), (3, .i k_4), (4, .slice A1 ((s.drop k_2.toNat).length) (c_s - k_2.toNat)), (5, .i k2), (38, .string ((s_2.drop k_2.toNat)[k2.toNat]?.getD (⟨#[]⟩ : ByteArray))), (42, .pointer (some (Ix A1 ((k2 - 1).toNat * 1))))] (fun w hM => run_index (by have hR0_ := hM.rd_at 0 rfl; have hC0_ := hM.le_at 0 rfl; rw [hA1]; exact hR0_.dropMap k_2.toNat hC0_) (by simp only [List.length_map, List.length_drop]; first | rfl | omega) Kr (by have q0_ := (dec_f h1); have q1_ := (dec_t h2); have q2_ := (dec_t h4); have kv0_ := hv0.1; have kv1_ := hv1.1; have kd_ := List.length_drop (i := (k_2).toNat) (l := s); have ke_ := List.length_drop (i := (k_2).toNat) (l := s_2); exact sd) (by have q0_ := (dec_f h1); have q1_ := (dec_t h2); have q2_ := (dec_t h4); have kv0_ := hv0.1; have kv1_ := hv1.1; have kd_ := List.length_drop (i := (k_2).toNat) (l := s); have ke_ := List.length_drop (i := (k_2).toNat) (l := s_2); exact sd)) rfl Kr Kr (TQ.val (sV (Instr.loadAt 9 (.pointer (some (Ix A1 ((k2 - 1).toNat * 1)))))) (some 43) (.string ((s_2.drop k_2.toNat)[(k2 - 1).toNat]?.getD (⟨#[]⟩ : ByteArray))) [(0, .slice A_s s_2.length c_s), (3, .i k_4), (4, .slice A1 ((s.drop k_2.toNat).length) (c_s - k_2.toNat)), (5, .i k2), (38, .string ((s_2.drop k_2.toNat)[k2.toNat]?.getD (⟨#[]⟩ : ByteArray))), (43, .string ((s_2.drop k_2.toNat)[(k2 - 1).toNat]?.getD (⟨#[]⟩ : ByteArray)))] (fun w hM => run_load_one (off := 0) (i := (k2 - 1).toNat) (.string ((s_2.drop k_2.toNat)[(k2 - 1).toNat]?.getD (⟨#[]⟩ : ByteArray))) (by have hR0_ := hM.rd_at 0 rfl; have hC0_ := hM.le_at 0 rfl; rw [hA1]; exact hR0_.dropMap k_2.toNat hC0_) (map_at (getD_at _ _ (⟨#[]⟩ : ByteArray) (by have q0_ := (dec_f h1); have q1_ := (dec_t h2); have q2_ := (dec_t h4); have kv0_ := hv0.1; have kv1_ := hv1.1; have kd_ := List.length_drop (i := (k_2).toNat) (l := s); have ke_ := List.length_drop (i := (k_2).toNat) (l := s_2); exact sd))) Kr Kr) rfl Kr Kr (TQ.run 10 [] [(0, .slice A_s s_2.length c_s), (3, .i k_4), (4, .slice A1 ((s.drop k_2.toNat).length) (c_s - k_2.toNat)), (5, .i k2), (44, .b (!(seq ((s_2.drop k_2.toNat)[k2.toNat]?.getD (⟨#[]⟩ : ByteArray)) ((s_2.drop k_2.toNat)[(k2 - 1).toNat]?.getD (⟨#[]⟩ : ByteArray)))))] rfl {} (TQ.next rfl (TC.cond (!(seq ((s_2.drop k_2.toNat)[k2.toNat]?.getD (⟨#[]⟩ : ByteArray)) ((s_2.drop k_2.toNat)[(k2 - 1).toNat]?.getD (⟨#[]⟩ : ByteArray)))) rfl Kr (fun h5 => ?_) (fun h5 => ?_)))))))))))))))
              · exact TC.sr (TL.run 4 [] [(0, .slice A_s s_2.length c_s), (3, .i k_4), (4, .slice A1 ((s.drop k_2.toNat).length) (c_s - k_2.toNat)), (5, .i k2), (45, .slice A_s s_2.length c_s), (46, .i k_4), (47, .slice A1 ((s.drop k_2.toNat).length) (c_s - k_2.toNat)), (48, .i k2)] rfl {} (TL.val (sV (Instr.indexAt 29 (.slice A1 ((s.drop k_2.toNat).length) (c_s - k_2.toNat)) (.i k2))) (some 49) (.pointer (some (Ix A1 (k2.toNat * 1)))) [(0, .slice A_s s_2.length c_s), (3, .i k_4), (4, .slice A1 ((s.drop k_2.toNat).length) (c_s - k_2.toNat)), (5, .i k2), (45, .slice A_s s_2.length c_s), (46, .i k_4), (49, .pointer (some (Ix A1 (k2.toNat * 1))))] (fun w hM => run_index (by have hR0_ := hM.rd_at 0 rfl; have hC0_ := hM.le_at 0 rfl; rw [hA1]; exact hR0_.dropMap k_2.toNat hC0_) (by simp only [List.length_map, List.length_drop]; first | rfl | omega) Kr (by have q0_ := (dec_f h1); have q1_ := (dec_t h2); have q2_ := (dec_t h4); have kv0_ := hv0.1; have kv1_ := hv1.1; have kd_ := List.length_drop (i := (k_2).toNat) (l := s); have ke_ := List.length_drop (i := (k_2).toNat) (l := s_2); exact sd) (by have q0_ := (dec_f h1); have q1_ := (dec_t h2); have q2_ := (dec_t h4); have kv0_ := hv0.1; have kv1_ := hv1.1; have kd_ := List.length_drop (i := (k_2).toNat) (l := s); have ke_ := List.length_drop (i := (k_2).toNat) (l := s_2); exact sd)) Kr Kr (TL.val (sV (Instr.loadAt 9 (.pointer (some (Ix A1 (k2.toNat * 1)))))) (some 50) (.string ((s_2.drop k_2.toNat)[k2.toNat]?.getD (⟨#[]⟩ : ByteArray))) [(0, .slice A_s s_2.length c_s), (3, .i k_4), (4, .slice A1 ((s.drop k_2.toNat).length) (c_s - k_2.toNat)), (5, .i k2), (45, .slice A_s s_2.length c_s), (46, .i k_4), (50, .string ((s_2.drop k_2.toNat)[k2.toNat]?.getD (⟨#[]⟩ : ByteArray)))] (fun w hM => run_load_one (off := 0) (i := k2.toNat) (.string ((s_2.drop k_2.toNat)[k2.toNat]?.getD (⟨#[]⟩ : ByteArray))) (by have hR0_ := hM.rd_at 0 rfl; have hC0_ := hM.le_at 0 rfl; rw [hA1]; exact hR0_.dropMap k_2.toNat hC0_) (map_at (getD_at _ _ (⟨#[]⟩ : ByteArray) (by have q0_ := (dec_f h1); have q1_ := (dec_t h2); have q2_ := (dec_t h4); have kv0_ := hv0.1; have kv1_ := hv1.1; have kd_ := List.length_drop (i := (k_2).toNat) (l := s); have ke_ := List.length_drop (i := (k_2).toNat) (l := s_2); exact sd))) Kr Kr) Kr Kr (TL.val (sV (Instr.indexAt 29 (.slice A_s s_2.length c_s) (.i k_4))) (some 51) (.pointer (some (Ix A_s (k_4.toNat * 1)))) [(0, .slice A_s s_2.length c_s), (3, .i k_4), (4, .slice A1 ((s.drop k_2.toNat).length) (c_s - k_2.toNat)), (5, .i k2), (50, .string ((s_2.drop k_2.toNat)[k2.toNat]?.getD (⟨#[]⟩ : ByteArray))), (51, .pointer (some (Ix A_s (k_4.toNat * 1))))] (fun w hM => run_index (hM.rd_at 0 rfl) (by simp) Kr (by have q0_ := (dec_f h1); have q1_ := (dec_t h2); have q2_ := (dec_t h4); have kv0_ := hv0.1; have kv1_ := hv1.1; have kd_ := List.length_drop (i := (k_2).toNat) (l := s); have ke_ := List.length_drop (i := (k_2).toNat) (l := s_2); exact sd) (by have q0_ := (dec_f h1); have q1_ := (dec_t h2); have q2_ := (dec_t h4); have kv0_ := hv0.1; have kv1_ := hv1.1; have kd_ := List.length_drop (i := (k_2).toNat) (l := s); have ke_ := List.length_drop (i := (k_2).toNat) (l := s_2); exact sd)) Kr Kr (TL.skipM (Γ := Unit) (sU (Instr.storeAt 9 (.pointer (some ((Ix A_s (k_4.toNat * 1)).add 0))) (.string ((s_2.drop k_2.toNat)[k2.toNat]?.getD (⟨#[]⟩ : ByteArray))))) none (fun _ => [Ow A_s c_s 9 1 ((s_2.set k_4.toNat ((s_2.drop k_2.toNat)[k2.toNat]?.getD (⟨#[]⟩ : ByteArray))).map sc)]) (fun _ => [(0, .slice A_s s_2.length c_s), (3, .i k_4), (4, .slice A1 ((s.drop k_2.toNat).length) (c_s - k_2.toNat)), (5, .i k2)]) (run_store_at (n := 1) (off := 0) (.string ((s_2.drop k_2.toNat)[k2.toNat]?.getD (⟨#[]⟩ : ByteArray))) 0 ((s_2.set k_4.toNat ((s_2.drop k_2.toNat)[k2.toNat]?.getD (⟨#[]⟩ : ByteArray))).map sc) rfl (map_at (getD_at _ _ (⟨#[]⟩ : ByteArray) (by have q0_ := (dec_f h1); have q1_ := (dec_t h2); have q2_ := (dec_t h4); have kv0_ := hv0.1; have kv1_ := hv1.1; have kd_ := List.length_drop (i := (k_2).toNat) (l := s); have ke_ := List.length_drop (i := (k_2).toNat) (l := s_2); exact sd))) Kr Kr Kr Kr (set_map_at Kr)) Kr (fun _ => Kr) (fun _ => TL.rw 0 (.slice A_s s_2.length c_s) (.slice A_s ((s_2.set k_4.toNat ((s_2.drop k_2.toNat)[k2.toNat]?.getD (⟨#[]⟩ : ByteArray))).length) c_s) Kr (by simp only [List.length_set]) (TL.next rfl (TC.region (TL.run 3 [] [(0, .slice A_s ((s_2.set k_4.toNat ((s_2.drop k_2.toNat)[k2.toNat]?.getD (⟨#[]⟩ : ByteArray))).length) c_s), (3, .i (w64 (k_4 + 1))), (4, .slice A1 ((s.drop k_2.toNat).length) (c_s - k_2.toNat)), (5, .i k2)] rfl {} (TL.rw 3 (.i (w64 (k_4 + 1))) (.i (k_4 + 1)) Kr (int_eq (by have q0_ := (dec_f h1); have q1_ := (dec_t h2); have q2_ := (dec_t h4); have kv0_ := hv0.1; have kv1_ := hv1.1; have kd_ := List.length_drop (i := (k_2).toNat) (l := s); have ke_ := List.length_drop (i := (k_2).toNat) (l := s_2); rw [w64_id (x := (k_4 + 1)) (by omega)])) (TL.done rfl (TE.nb (TE.next (TC.region (TL.run 3 [] [(0, .slice A_s ((s_2.set k_4.toNat ((s_2.drop k_2.toNat)[k2.toNat]?.getD (⟨#[]⟩ : ByteArray))).length) c_s), (3, .i (k_4 + 1)), (4, .slice A1 ((s.drop k_2.toNat).length) (c_s - k_2.toNat)), (5, .i (w64 (k2 + 1)))] rfl {} (TL.rw 5 (.i (w64 (k2 + 1))) (.i (k2 + 1)) Kr (int_eq (by have q0_ := (dec_f h1); have q1_ := (dec_t h2); have q2_ := (dec_t h4); have kv0_ := hv0.1; have kv1_ := hv1.1; have kd_ := List.length_drop (i := (k_2).toNat) (l := s); have ke_ := List.length_drop (i := (k_2).toNat) (l := s_2); rw [w64_id (x := (k2 + 1)) (by omega)])) (TL.done rfl (TE.again (x := (k_4, k2, s_2)) ((k_4 + 1), (k2 + 1), (s_2.set k_4.toNat ((s_2.drop k_2.toNat)[k2.toNat]?.getD (⟨#[]⟩ : ByteArray)))) ⟨(by have q0_ := (dec_f h1); have q1_ := (dec_t h2); have q2_ := (dec_t h4); have kv0_ := hv0.1; have kv1_ := hv1.1; have kd_ := List.length_drop (i := (k_2).toNat) (l := s); have ke_ := List.length_drop (i := (k_2).toNat) (l := s_2); first | exact ⟨by omega, cin_ne hv1.2 (by omega) (by omega) (by omega) (by omega) (by omega) (by omega) (by first | assumption | exact not_t (by assumption) | exact not_f (by assumption))⟩ | exact ⟨by omega, cin_eq hv1.2 (by omega) (by omega) (by omega) (by first | assumption | exact not_t (by assumption) | exact not_f (by assumption))⟩), (by first | rfl | omega | (simp only [List.length_set]; omega))⟩ (by have q0_ := (dec_f h1); have q1_ := (dec_t h2); have q2_ := (dec_t h4); have kv0_ := hv0.1; have kv1_ := hv1.1; have kd_ := List.length_drop (i := (k_2).toNat) (l := s); have ke_ := List.length_drop (i := (k_2).toNat) (l := s_2); (try dsimp only); omega) Kr (sb 1)))))))))))))))))))
              · exact TC.skip (TE.nb (TE.next (TC.region (TL.run 3 [] [(0, .slice A_s s_2.length c_s), (3, .i k_4), (4, .slice A1 ((s.drop k_2.toNat).length) (c_s - k_2.toNat)), (5, .i (w64 (k2 + 1)))] rfl {} (TL.rw 5 (.i (w64 (k2 + 1))) (.i (k2 + 1)) Kr (int_eq (by have q0_ := (dec_f h1); have q1_ := (dec_t h2); have q2_ := (dec_t h4); have kv0_ := hv0.1; have kv1_ := hv1.1; have kd_ := List.length_drop (i := (k_2).toNat) (l := s); have ke_ := List.length_drop (i := (k_2).toNat) (l := s_2); rw [w64_id (x := (k2 + 1)) (by omega)])) (TL.done rfl (TE.again (x := (k_4, k2, s_2)) (k_4, (k2 + 1), s_2) ⟨(by have q0_ := (dec_f h1); have q1_ := (dec_t h2); have q2_ := (dec_t h4); have kv0_ := hv0.1; have kv1_ := hv1.1; have kd_ := List.length_drop (i := (k_2).toNat) (l := s); have ke_ := List.length_drop (i := (k_2).toNat) (l := s_2); first | exact ⟨by omega, cin_ne hv1.2 (by omega) (by omega) (by omega) (by omega) (by omega) (by omega) (by first | assumption | exact not_t (by assumption) | exact not_f (by assumption))⟩ | exact ⟨by omega, cin_eq hv1.2 (by omega) (by omega) (by omega) (by first | assumption | exact not_t (by assumption) | exact not_f (by assumption))⟩), (by first | rfl | omega | (simp only [List.length_set]; omega))⟩ (by have q0_ := (dec_f h1); have q1_ := (dec_t h2); have q2_ := (dec_t h4); have kv0_ := hv0.1; have kv1_ := hv1.1; have kd_ := List.length_drop (i := (k_2).toNat) (l := s); have ke_ := List.length_drop (i := (k_2).toNat) (l := s_2); (try dsimp only); omega) Kr (sb 1))))))))
            · refine TC.exit (TE.et (TE.et (TE.exit_same ?_)))
              exact TE.cut (k_4, s_2) ⟨(by have q0_ := (dec_f h1); have q1_ := (dec_t h2); have q2_ := (dec_f h4); have kv0_ := hv0.1; have kv1_ := hv1.1; have kd_ := List.length_drop (i := (k_2).toNat) (l := s); have ke_ := List.length_drop (i := (k_2).toNat) (l := s_2); first | exact ⟨by omega, cin_end hv1.2 (by omega)⟩), (by first | rfl | omega | (simp only [List.length_set]; omega))⟩ Kr (sb 1)
          · rintro ⟨k_5, s_3⟩ ⟨ho1, hl_s_3⟩
            refine TE.nr (TL.run 2 [] [(0, .slice A_s s_3.length c_s), (3, .i k_5), (54, .slice A_s s_3.length c_s), (55, .i k_5)] rfl {} ?_)
            obtain ⟨A1_2, hA1_2⟩ : ∃ A0_, A0_ = (if c_s = k_5.toNat then A_s else A_s.map (fun a => a.add (k_5.toNat * 1))) := ⟨_, rfl⟩
            refine TL.val (sV (Instr.sliceAt 29 (.slice A_s s_3.length c_s) (some (.i k_5)) none none)) (some 56) (.slice A1_2 ((s_3.drop k_5.toNat).length) (c_s - k_5.toNat)) [(0, .slice A_s s_3.length c_s), (3, .i k_5), (56, .slice A1_2 ((s_3.drop k_5.toNat).length) (c_s - k_5.toNat))] (fun w hM => (run_slice k_5.toNat s_3.length Kr (.inr ⟨_, _, rfl, (by have q0_ := (dec_f h1); have q1_ := (dec_t h2); have kv0_ := hv0.1; have ko1_ := ho1.1; exact sd), rfl⟩) (.inl ⟨rfl, rfl⟩) (by have q0_ := (dec_f h1); have q1_ := (dec_t h2); have kv0_ := hv0.1; have ko1_ := ho1.1; exact sd) (Nat.le_trans (Nat.le_refl _) (hM.le_at 0 rfl))).trans (by rw [hA1_2]; have q0_ := (dec_f h1); have q1_ := (dec_t h2); have kv0_ := hv0.1; have ko1_ := ho1.1; congr 3; simp only [List.length_drop])) Kr Kr ?_
            obtain ⟨s_4, hclr⟩ : ∃ x_, x_ = (s_3.take k_5.toNat ++ List.replicate (s_3.length - k_5.toNat) (⟨#[]⟩ : ByteArray)) := ⟨_, rfl⟩
            have hlclr : s_4.length = s_3.length := by have k_ : k_5.toNat ≤ s_3.length := (by have q0_ := (dec_f h1); have q1_ := (dec_t h2); have kv0_ := hv0.1; have ko1_ := ho1.1; exact sd); rw [hclr]; simp only [List.length_append, List.length_take, List.length_replicate]; omega
            refine TL.opM (Γ := Unit) (sV (Builtin.clear_ #[29] 0 #[.slice A1_2 ((s_3.drop k_5.toNat).length) (c_s - k_5.toNat)])) none (fun _ => .tuple #[]) (fun _ => [Ow A_s c_s 9 1 (s_4.map sc)]) (fun _ => [(0, .slice A_s s_3.length c_s), (3, .i k_5)]) (by rw [hclr]; exact run_clear_at (c := sc) (bytes := 16) (sz := 1) (⟨#[]⟩ : ByteArray) 0 k_5.toNat ((c_s - k_5.toNat)) ((s_3.drop k_5.toNat).length) 0 Kr Kr sc_one rfl hA1_2 (by simp only [List.length_drop]) (by have q0_ := (dec_f h1); have q1_ := (dec_t h2); have kv0_ := hv0.1; have ko1_ := ho1.1; exact sd)) Kr (fun _ => Kr) (fun _ => TL.rw 0 (.slice A_s s_3.length c_s) (.slice A_s s_4.length c_s) Kr (by rw [hlclr]) (TL.nr (TL.run 2 [] [(57, .slice A_s s_4.length c_s), (58, .i k_5)] rfl {} ?_)))
            obtain ⟨A1_3, hA1_3⟩ : ∃ A0_, A0_ = (if c_s = 0 then A_s else A_s.map (fun a => a.add (0 * 1))) := ⟨_, rfl⟩
            refine TL.val (sV (Instr.sliceAt 29 (.slice A_s s_4.length c_s) none (some (.i k_5)) none)) (some 59) (.slice A1_3 ((s_4.take k_5.toNat).length) (c_s - 0)) [(59, .slice A1_3 ((s_4.take k_5.toNat).length) (c_s - 0))] (fun w hM => (run_slice 0 k_5.toNat Kr (.inl ⟨rfl, rfl⟩) (.inr ⟨_, _, rfl, (by have q0_ := (dec_f h1); have q1_ := (dec_t h2); have kv0_ := hv0.1; have ko1_ := ho1.1; exact sd), rfl⟩) (by have q0_ := (dec_f h1); have q1_ := (dec_t h2); have kv0_ := hv0.1; have ko1_ := ho1.1; exact sd) (Nat.le_trans (by have q0_ := (dec_f h1); have q1_ := (dec_t h2); have kv0_ := hv0.1; have ko1_ := ho1.1; exact sd) (hM.le_at 0 rfl))).trans (by rw [hA1_3]; have q0_ := (dec_f h1); have q1_ := (dec_t h2); have kv0_ := hv0.1; have ko1_ := ho1.1; congr 3; first | (simp only [List.length_take] <;> omega) | (simp only [List.length_take] at * <;> omega))) Kr Kr (TL.run 4 [] [(2, .slice A1_3 ((s_4.take k_5.toNat).length) (c_s - 0))] rfl {} (TL.next rfl (TC.ret (TE.rb (TE.rt (TE.rt (TE.rb (TE.rt (TE.rt ?_)))))))))
            exact TE.conv [Ow A_s c_s 9 1 ((s_4.take k_5.toNat).map sc)] (fun _ hM => by have h_ := hM.takerow k_5.toNat 0 rfl (by simp only [List.length_map]; exact (by have q0_ := (dec_f h1); have q1_ := (dec_t h2); have kv0_ := hv0.1; have ko1_ := ho1.1; exact sg)); rw [← List.map_take] at h_; exact h_) (TE.retM (.inl rfl) (s_4.take k_5.toNat) [] (.slice A1_3 ((s_4.take k_5.toNat).length) (c_s - 0)) {} (by rw [hA1_3, cut0]; rfl) (fun _ hM => (hM.sub (sb 1)).fact (by have q0_ := (dec_f h1); have q1_ := (dec_t h2); have kv0_ := hv0.1; have ko1_ := ho1.1; (try dsimp only); first | exact cpt_short (by omega) | exact (by rw [hclr]; exact (take_clear (by omega)).trans ho1.2) | exact ho0)))
        · exact TC.skip (TE.nb (TE.next (TC.region (TL.run 3 [] [(0, .slice A_s s.length c_s), (3, .i (w64 (k_2 + 1)))] rfl {} (TL.rw 3 (.i (w64 (k_2 + 1))) (.i (k_2 + 1)) Kr (int_eq (by have q0_ := (dec_f h1); have q1_ := (dec_t h2); have kv0_ := hv0.1; rw [w64_id (x := (k_2 + 1)) (by omega)])) (TL.done rfl (TE.again (x := k_2) (k_2 + 1) (by have q0_ := (dec_f h1); have q1_ := (dec_t h2); have kv0_ := hv0.1; first | exact ⟨by omega, cpt_step hv0.2 (by omega) (by omega) (by first | assumption | exact not_t (by assumption) | exact not_f (by assumption))⟩) (by have q0_ := (dec_f h1); have q1_ := (dec_t h2); have kv0_ := hv0.1; (try dsimp only); omega) Kr (sb 1))))))))
      · refine TC.exit (TE.et (TE.et (TE.exit_same ?_)))
        exact TE.cut () (by have q0_ := (dec_f h1); have q1_ := (dec_f h2); have kv0_ := hv0.1; first | exact cpt_all hv0.2 (by omega)) Kr (sb 1)
    · intro _ ho0
      exact TE.nr (TL.run 2 [] [(2, .slice A_s s.length c_s)] rfl {} (TL.next rfl (TC.ret (TE.retM (.inl rfl) s [] (.slice A_s s.length c_s) {} rfl (fun _ hM => (hM.sub (sb 1)).fact (by have q0_ := (dec_f h1); (try dsimp only); first | exact cpt_short (by omega) | exact (by rw [hclr]; exact (take_clear (by omega)).trans ho1.2) | exact ho0))))))
def cmp_isNaN_string (x : ByteArray) : Bool :=
  !(seq x x)
set_option maxRecDepth 100000 in
theorem cmp_isNaN_string_w (x : ByteArray) (w : World) : Calls Try.prog 69 #[.string x] w (Ret w (.bool (cmp_isNaN_string x))) := by
  exact calls_intro (vs := [.string x]) (w := w) Try.func69 rfl Try.ntmps69 rfl (TC.sr (TL.r 1 [] [(2, .b false)] {} (TL.nr (TL.r 4 [] [(2, .b (!(seq x x)))] {} (TL.next rfl (TC.ret (TE.ret [] (.b (!(seq x x))) {} (by unfold cmp_isNaN_string; refine eS (fun z => (.b z : Value)) ?_; exact rfl))))))))
def slices_isNaN_string (x : ByteArray) : Bool :=
  !(seq x x)
set_option maxRecDepth 100000 in
theorem slices_isNaN_string_w (x : ByteArray) (w : World) : Calls Try.prog 55 #[.string x] w (Ret w (.bool (slices_isNaN_string x))) := by
  exact calls_intro (vs := [.string x]) (w := w) Try.func55 rfl Try.ntmps55 rfl (TC.sr (TL.r 1 [] [(2, .b false)] {} (TL.nr (TL.r 4 [] [(2, .b (!(seq x x)))] {} (TL.next rfl (TC.ret (TE.ret [] (.b (!(seq x x))) {} (by unfold slices_isNaN_string; refine eS (fun z => (.b z : Value)) ?_; exact rfl))))))))
def cmp_Less_string (x : ByteArray) (y : ByteArray) : Bool :=
  let r1 := cmp_isNaN_string x
  cond r1 (
    let r2 := cmp_isNaN_string y
    (!r2) || (slt x y)) (
    slt x y)
set_option maxRecDepth 100000 in
theorem cmp_Less_string_w (x : ByteArray) (y : ByteArray) (w : World) : Calls Try.prog 54 #[.string x, .string y] w (Ret w (.bool (cmp_Less_string x y))) := by
  refine calls_intro (vs := [.string x, .string y]) (w := w) Try.func54 rfl Try.ntmps54 rfl (TC.sr (TL.r 1 [] [(4, .b false)] {} (TL.nr (TL.r 1 [] [(5, .string x)] {} (TL.c 6 (cmp_isNaN_string x) (fun r1 => .b r1) (fun w _ => cmp_isNaN_string_w x w) {} (fun r1 hr1 => TL.r 3 [] [(7, .b r1)] {} (TL.split 7 r1 Kr (fun h1 => ?_) (fun h1 => ?_))))))))
  · exact TL.r 4 [] [(8, .string y)] {} (TL.c 9 (cmp_isNaN_string y) (fun r2 => .b r2) (fun w _ => cmp_isNaN_string_w y w) {} (fun r2 hr2 => TL.r 8 [] [(12, .b (!r2))] {} (TL.j 12 (!r2) 12 [] [] (fun β => [(16, .b (β || (slt x y)))]) Kr {} {} (TL.r 13 [] [(4, .b ((!r2) || (slt x y)))] {} (TL.next rfl (TC.ret (TE.ret [] (.b ((!r2) || (slt x y))) {} (by unfold cmp_Less_string; refine eS (fun z => (.b z : Value)) ?_; subst hr1 hr2; exact cond_t h1 (rfl)))))))))
  · exact TL.r 13 [] [(4, .b (slt x y))] {} (TL.next rfl (TC.ret (TE.ret [] (.b (slt x y)) {} (by unfold cmp_Less_string; refine eS (fun z => (.b z : Value)) ?_; subst hr1; exact cond_f h1 (rfl)))))
def slices_BinarySearch_string_string_L1 (x : List ByteArray) (target : ByteArray) : Nat → Int → Int → Option Int
  | 0, _, _ => none
  | m + 1, i, j => cond (decide (i < j)) (
      let r1 := cmp_Less_string (x[(w64 ((wu64 (w64 (i + j))).fdiv (2 ^ 1))).toNat]?.getD (⟨#[]⟩ : ByteArray)) target
      cond r1 (
        slices_BinarySearch_string_string_L1 x target m (w64 ((w64 ((wu64 (w64 (i + j))).fdiv (2 ^ 1))) + 1)) j) (
        slices_BinarySearch_string_string_L1 x target m i (w64 ((wu64 (w64 (i + j))).fdiv (2 ^ 1))))) (
      some (i))
def slices_BinarySearch_string_string (x : List ByteArray) (target : ByteArray) : Int × Bool :=
  bindv ((slices_BinarySearch_string_string_L1 x target (x.length + 1) 0 (x.length : Int)).getD 0) (fun i_2 =>
    cond (decide (i_2 < (x.length : Int))) (
      cond (seq (x[i_2.toNat]?.getD (⟨#[]⟩ : ByteArray)) target) (
        (i_2, true)) (
        let r2 := slices_isNaN_string (x[i_2.toNat]?.getD (⟨#[]⟩ : ByteArray))
        cond r2 (
          let r3 := slices_isNaN_string target
          (i_2, r3)) (
          (i_2, false)))) (
      (i_2, false)))
theorem mid_in {i j : Int} {n : Nat} (h : 0 ≤ i ∧ i ≤ j ∧ j ≤ (n : Int)) (hlt : i < j) (hn : n < 4611686018427387904) : w64 ((wu64 (w64 (i + j))).fdiv (2 ^ 1)) = (i + j) / 2 ∧ 0 ≤ (i + j) / 2 ∧ i ≤ (i + j) / 2 ∧ (i + j) / 2 < j ∧ w64 (w64 ((wu64 (w64 (i + j))).fdiv (2 ^ 1)) + 1) = (i + j) / 2 + 1 := by
  have e1 : w64 (i + j) = i + j := w64_id (by omega)
  have e2 : wu64 (i + j) = i + j := IntWalk.u64_in _ (by omega)
  have e3 : (i + j).fdiv (2 ^ 1) = (i + j) / 2 := Int.fdiv_eq_ediv_of_nonneg _ (by decide)
  rw [e1, e2, e3, w64_id (x := (i + j) / 2) (by omega), w64_id (x := (i + j) / 2 + 1) (by omega)]
  omega
theorem bs_total (x : List ByteArray) (target : ByteArray) (hn : x.length < 4611686018427387904) : ∀ (m : Nat) (i j : Int), 0 ≤ i ∧ i ≤ j ∧ j ≤ (x.length : Int) ∧ j - i < (m : Int) → ∃ R, slices_BinarySearch_string_string_L1 x target m i j = some R
  | 0, i, j, h => by omega
  | m + 1, i, j, h => by
    unfold slices_BinarySearch_string_string_L1
    by_cases hk : i < j
    · have u := mid_in (n := x.length) ⟨h.1, h.2.1, h.2.2.1⟩ hk hn
      rw [decide_eq_true hk, cond_true, u.2.2.2.2, u.1]
      show ∃ R, cond (cmp_Less_string (x[((i + j) / 2).toNat]?.getD (⟨#[]⟩ : ByteArray)) target) _ _ = some R
      cases cmp_Less_string (x[((i + j) / 2).toNat]?.getD (⟨#[]⟩ : ByteArray)) target
      · exact bs_total x target hn m i ((i + j) / 2) (by omega)
      · exact bs_total x target hn m ((i + j) / 2 + 1) j (by omega)
    · rw [decide_eq_false hk]; exact ⟨i, rfl⟩
set_option maxRecDepth 100000 in
theorem slices_BinarySearch_string_string_w (A_x : Option Addr) (c_x : Nat) (x : List ByteArray) (target : ByteArray) (w : World) (h_x : Rd w 1 A_x (x.map sc)) (_hc_x : x.length ≤ c_x) : Calls Try.prog 43 #[.slice A_x x.length c_x, .string target] w (Ret w (.tuple #[.int .i64 ((slices_BinarySearch_string_string x target).1), .bool ((slices_BinarySearch_string_string x target).2)])) := by
  have s_x := h_x.short; rw [List.length_map] at s_x
  refine calls_intro (vs := [.slice A_x x.length c_x, .string target]) (w := w) Try.func43 rfl Try.ntmps43 rfl (TC.sr (TL.r 2 [] [(4, .i 0), (5, .b false)] {} (TL.nr (TL.r 3 [] [(6, .i (x.length : Int))] {} (TL.nr (TL.r 3 [] [(7, .i 0), (8, .i (x.length : Int))] {} (TL.ns ?_)))))))
  obtain ⟨R1, hR⟩ : ∃ R, slices_BinarySearch_string_string_L1 x target (x.length + 1) 0 (x.length : Int) = some R := bs_total x target (by omega) (x.length + 1) 0 (x.length : Int) (by omega)
  refine TC.cut (S := Int) (fun i_2 => [(0, .slice A_x x.length c_x), (1, .string target), (6, .i (x.length : Int)), (7, .i i_2)]) (fun i_2 => []) (fun i_2 => R1 = i_2 ∧ (0 ≤ i_2 ∧ i_2 ≤ (x.length : Int))) ?_ ?_
  · refine TC.block (TC.lw (X := Nat × Int × Int) (fun (m, i, j) => [(0, .slice A_x x.length c_x), (1, .string target), (6, .i (x.length : Int)), (7, .i i), (8, .i j)]) (fun (m, i, j) => []) (fun (m, i, j) => m) (fun (m, i, j) => m ≤ (x.length + 1) ∧ slices_BinarySearch_string_string_L1 x target m i j = some R1 ∧ (0 ≤ i ∧ i ≤ j ∧ j ≤ (x.length : Int))) ?_ ((x.length + 1), 0, (x.length : Int)) ⟨Nat.le_refl _, hR, sz⟩ Kr (sb 0))
    rintro ⟨m, i, j⟩ ⟨hk, hI, hl_iv0⟩
    rcases m with _ | m
    · cases hI
    refine TC.seq (TC.sr (TL.r 3 [] [(15, .b (decide (i < j)))] {} (TL.next rfl (TC.cond (decide (i < j)) rfl Kr (fun h1 => ?_) (fun h1 => ?_)))))
    · have q1_0 := (dec_t h1)
      refine TC.sn (TC.block (TC.sr (TL.r 7 [] [(9, .i (w64 ((wu64 (w64 (i + j))).fdiv (2 ^ 1))))] {} (TL.nr (TL.r 2 [] [(22, .slice A_x x.length c_x), (23, .i (w64 ((wu64 (w64 (i + j))).fdiv (2 ^ 1))))] {} (TL.v (sV (Instr.indexAt 29 (.slice A_x x.length c_x) (.i (w64 ((wu64 (w64 (i + j))).fdiv (2 ^ 1)))))) 24 (.pointer (some ((A_x.getD noAddr).add ((w64 ((wu64 (w64 (i + j))).fdiv (2 ^ 1))).toNat * 1)))) (fun w hM => run_index (h_x.sat hM) (by simp) Kr (by (try have um_ := mid_in hl_iv0 (dec_t h1) (by omega)); exact sd) (by (try have um_ := mid_in hl_iv0 (dec_t h1) (by omega)); exact sd)) {} (TL.v (sV (Instr.loadAt 9 (.pointer (some ((A_x.getD noAddr).add ((w64 ((wu64 (w64 (i + j))).fdiv (2 ^ 1))).toNat * 1)))))) 25 (.string (x[(w64 ((wu64 (w64 (i + j))).fdiv (2 ^ 1))).toNat]?.getD (⟨#[]⟩ : ByteArray))) (fun w hM => run_load_one (off := 0) (i := (w64 ((wu64 (w64 (i + j))).fdiv (2 ^ 1))).toNat) (.string (x[(w64 ((wu64 (w64 (i + j))).fdiv (2 ^ 1))).toNat]?.getD (⟨#[]⟩ : ByteArray))) (h_x.sat hM) (map_at (getD_at _ _ (⟨#[]⟩ : ByteArray) (by (try have um_ := mid_in hl_iv0 (dec_t h1) (by omega)); exact sd))) Kr Kr) {} (TL.r 5 [] [(26, .string target)] {} (TL.c 27 (cmp_Less_string (x[(w64 ((wu64 (w64 (i + j))).fdiv (2 ^ 1))).toNat]?.getD (⟨#[]⟩ : ByteArray)) target) (fun r1 => .b r1) (fun w _ => cmp_Less_string_w (x[(w64 ((wu64 (w64 (i + j))).fdiv (2 ^ 1))).toNat]?.getD (⟨#[]⟩ : ByteArray)) target w) {} (fun r1 hr1 => TL.next rfl (TC.cond r1 rfl Kr (fun h2 => ?_) (fun h2 => ?_))))))))))))
      · exact TC.region (TL.r 3 [] [(7, .i (w64 ((w64 ((wu64 (w64 (i + j))).fdiv (2 ^ 1))) + 1)))] {} (TL.done rfl (TE.nb (TE.again (x := (m + 1, i, j)) (m, w64 ((w64 ((wu64 (w64 (i + j))).fdiv (2 ^ 1))) + 1), j) ⟨by omega, (by subst hr1; refine Eq.trans (Eq.symm ?_) hI; exact cond_t h1 (cond_t h2 (rfl))), (by (try have um_ := mid_in hl_iv0 (dec_t h1) (by omega)); exact sl)⟩ (Nat.lt_succ_self _) Kr (sb 0)))))
      · exact TC.region (TL.r 2 [] [(8, .i (w64 ((wu64 (w64 (i + j))).fdiv (2 ^ 1))))] {} (TL.done rfl (TE.nb (TE.again (x := (m + 1, i, j)) (m, i, w64 ((wu64 (w64 (i + j))).fdiv (2 ^ 1))) ⟨by omega, (by subst hr1; refine Eq.trans (Eq.symm ?_) hI; exact cond_t h1 (cond_f h2 (rfl))), (by (try have um_ := mid_in hl_iv0 (dec_t h1) (by omega)); exact sl)⟩ (Nat.lt_succ_self _) Kr (sb 0)))))
    · have q1_0 := (dec_f h1)
      refine TC.exit (TE.et (TE.et (TE.exit_same ?_)))
      exact TE.cut i (⟨Option.some.inj (hI.symm.trans (by exact cond_f h1 (rfl))), (by (try have um_ := mid_in hl_iv0 (dec_t h1) (by omega)); exact sl)⟩) Kr (sb 0)
  · rintro i_2 ⟨hJ, hl_ov0_0⟩
    refine TE.nr (TL.r 5 [] [(31, .i i_2), (35, .b (decide (i_2 < (x.length : Int))))] {} (TL.split 35 (decide (i_2 < (x.length : Int))) Kr (fun h3 => ?_) (fun h3 => ?_)))
    · have q3_0 := (dec_t h3)
      refine TL.r 7 [] [(36, .slice A_x x.length c_x), (37, .i i_2)] {} (TL.v (sV (Instr.indexAt 29 (.slice A_x x.length c_x) (.i i_2))) 38 (.pointer (some (Ix A_x (i_2.toNat * 1)))) (fun w hM => run_index (h_x.sat hM) (by simp) Kr sd sd) {} (TL.v (sV (Instr.loadAt 9 (.pointer (some (Ix A_x (i_2.toNat * 1)))))) 39 (.string (x[i_2.toNat]?.getD (⟨#[]⟩ : ByteArray))) (fun w hM => run_load_one (off := 0) (i := i_2.toNat) (.string (x[i_2.toNat]?.getD (⟨#[]⟩ : ByteArray))) (h_x.sat hM) (map_at (getD_at _ _ (⟨#[]⟩ : ByteArray) sd)) Kr Kr) {} (TL.r 12 [] [(42, .b (seq (x[i_2.toNat]?.getD (⟨#[]⟩ : ByteArray)) target))] {} (TL.split 42 (seq (x[i_2.toNat]?.getD (⟨#[]⟩ : ByteArray)) target) Kr (fun h4 => ?_) (fun h4 => ?_)))))
      · exact TL.r 25 [] [(4, .i i_2), (5, .b true)] {} (TL.next rfl (TC.ret (TE.ret [] (.tuple #[.i i_2, .b true]) {} (by unfold slices_BinarySearch_string_string; refine eS (a := (i_2, true)) (fun (z : Int × Bool) => (.tuple #[.i z.1, .b z.2] : Value)) ?_; exact bindv_eq ((congrArg (Option.getD · _) hR).trans hJ) (cond_t h3 (cond_t h4 (rfl)))))))
      · refine TL.r 14 [] [(43, .slice A_x x.length c_x), (44, .i i_2)] {} (TL.v (sV (Instr.indexAt 29 (.slice A_x x.length c_x) (.i i_2))) 45 (.pointer (some (Ix A_x (i_2.toNat * 1)))) (fun w hM => run_index (h_x.sat hM) (by simp) Kr sd sd) {} (TL.v (sV (Instr.loadAt 9 (.pointer (some (Ix A_x (i_2.toNat * 1)))))) 46 (.string (x[i_2.toNat]?.getD (⟨#[]⟩ : ByteArray))) (fun w hM => run_load_one (off := 0) (i := i_2.toNat) (.string (x[i_2.toNat]?.getD (⟨#[]⟩ : ByteArray))) (h_x.sat hM) (map_at (getD_at _ _ (⟨#[]⟩ : ByteArray) sd)) Kr Kr) {} (TL.c 47 (slices_isNaN_string (x[i_2.toNat]?.getD (⟨#[]⟩ : ByteArray))) (fun r2 => .b r2) (fun w _ => slices_isNaN_string_w (x[i_2.toNat]?.getD (⟨#[]⟩ : ByteArray)) w) {} (fun r2 hr2 => TL.r 18 [] [(48, .b r2)] {} (TL.split 48 r2 Kr (fun h5 => ?_) (fun h5 => ?_))))))
        · exact TL.r 19 [] [(49, .string target)] {} (TL.c 50 (slices_isNaN_string target) (fun r3 => .b r3) (fun w _ => slices_isNaN_string_w target w) {} (fun r3 hr3 => TL.r 25 [] [(4, .i i_2), (5, .b r3)] {} (TL.next rfl (TC.ret (TE.ret [] (.tuple #[.i i_2, .b r3]) {} (by unfold slices_BinarySearch_string_string; refine eS (a := (i_2, r3)) (fun (z : Int × Bool) => (.tuple #[.i z.1, .b z.2] : Value)) ?_; subst hr2 hr3; exact bindv_eq ((congrArg (Option.getD · _) hR).trans hJ) (cond_t h3 (cond_f h4 (cond_t h5 (rfl))))))))))
        · exact TL.r 25 [] [(4, .i i_2), (5, .b false)] {} (TL.next rfl (TC.ret (TE.ret [] (.tuple #[.i i_2, .b false]) {} (by unfold slices_BinarySearch_string_string; refine eS (a := (i_2, false)) (fun (z : Int × Bool) => (.tuple #[.i z.1, .b z.2] : Value)) ?_; subst hr2; exact bindv_eq ((congrArg (Option.getD · _) hR).trans hJ) (cond_t h3 (cond_f h4 (cond_f h5 (rfl))))))))
    · exact TL.r 25 [] [(4, .i i_2), (5, .b false)] {} (TL.next rfl (TC.ret (TE.ret [] (.tuple #[.i i_2, .b false]) {} (by unfold slices_BinarySearch_string_string; refine eS (a := (i_2, false)) (fun (z : Int × Bool) => (.tuple #[.i z.1, .b z.2] : Value)) ?_; exact bindv_eq ((congrArg (Option.getD · _) hR).trans hJ) (cond_f h3 (rfl))))))
def chart_Links_L1 (fix : ByteArray) : List Airway → Nat → (List ByteArray) → (List ByteArray)
  | [], _, out => out
  | x :: xs, k, out => let r3 := slices_Index_string_string x.Fixes fix
    cond (decide (r3 ≥ 0)) (
      cond (decide (r3 > 0)) (
        cond (decide ((w64 (r3 + 1)) < (x.Fixes.length : Int))) (
          chart_Links_L1 fix xs (k + 1) ((out ++ ([(x.Fixes[(w64 (r3 - 1)).toNat]?.getD (⟨#[]⟩ : ByteArray))])) ++ ([(x.Fixes[(w64 (r3 + 1)).toNat]?.getD (⟨#[]⟩ : ByteArray))]))) (
          chart_Links_L1 fix xs (k + 1) (out ++ ([(x.Fixes[(w64 (r3 - 1)).toNat]?.getD (⟨#[]⟩ : ByteArray))])))) (
        cond (decide ((w64 (r3 + 1)) < (x.Fixes.length : Int))) (
          chart_Links_L1 fix xs (k + 1) (out ++ ([(x.Fixes[(w64 (r3 + 1)).toNat]?.getD (⟨#[]⟩ : ByteArray))]))) (
          chart_Links_L1 fix xs (k + 1) out))) (
      chart_Links_L1 fix xs (k + 1) out)
def chart_Links (c : Chart) (fix : ByteArray) : List ByteArray × Int :=
  let r1 := chart_Check c
  cond (r1 != 0) (
    ([], r1)) (
    let r2 := chart_index c fix
    cond (decide (r2 < 0)) (
      ([], 6)) (
      bindv (chart_Links_L1 fix c.Airways 0 ([] : List ByteArray)) (fun out_2 =>
        let r4 := sortT out_2
        let r5 := cpt seq r4
        (r5, 0))))
theorem tiL {n : ByteArray} : ∀ (xs : List ByteArray) (k : Nat), slices_Index_string_string_L1 n xs k = .inl () ∨ ∃ j : Nat, slices_Index_string_string_L1 n xs k = .inr ((k + j : Nat) : Int) ∧ j < xs.length
  | [], _ => .inl rfl
  | y :: xs, k => by
    unfold slices_Index_string_string_L1
    cases seq n y with
    | true => exact .inr ⟨0, rfl, Nat.zero_lt_succ _⟩
    | false =>
      rcases tiL xs (k + 1) with h | ⟨j, h, h2⟩
      · exact .inl h
      · exact .inr ⟨j + 1, by rw [cond_false, h]; congr 2; omega, Nat.succ_lt_succ h2⟩
theorem ti_lt {l : List ByteArray} {n : ByteArray} {r : Int} (h : slices_Index_string_string l n = r) : r < (l.length : Int) ∧ -1 ≤ r := by
  subst h
  unfold slices_Index_string_string
  rcases tiL (n := n) l 0 with h | ⟨j, h, h2⟩
  · rw [h]; show (-1 : Int) < _ ∧ -1 ≤ (-1 : Int); omega
  · rw [h]; show ((0 + j : Nat) : Int) < _ ∧ -1 ≤ ((0 + j : Nat) : Int); omega
theorem chk_len {c : Chart} {r : Int} (h : chart_Check c = r) (h1 : (r != 0) = false) : c.Fixes.length ≤ 64 ∧ c.Airways.length ≤ 16 := by
  subst h
  unfold chart_Check at h1
  cases h2 : (decide ((c.Fixes.length : Int) > 64) || decide ((c.Airways.length : Int) > 16)) with
  | true => rw [h2, cond_true] at h1; cases h1
  | false =>
    rw [Bool.or_eq_false_iff] at h2
    have a := of_decide_eq_false h2.1
    have b := of_decide_eq_false h2.2
    omega
set_option maxHeartbeats 4000000 in
set_option maxRecDepth 100000 in
theorem chart_Links_w (c : Chart) (A_c_Fixes : Option Addr) (c_c_Fixes : Nat) (A_c_Airways : Option Addr) (c_c_Airways : Nat) (o_c_Airways : List (AirwayR)) (fix : ByteArray) (w : World) (h_c_Fixes : Rd w 3 A_c_Fixes (c.Fixes.map Fix.c)) (hc_c_Fixes : c.Fixes.length ≤ c_c_Fixes) (h_c_Airways : Rd w 2 A_c_Airways (o_c_Airways.map AirwayR.c)) (hc_c_Airways : c.Airways.length ≤ c_c_Airways) (hd_c_Airways : ∀ s ∈ (o_c_Airways.map AirwayR.Fixes), s.rd w 1 sc) (_he_c_Airways : c.Airways = o_c_Airways.map AirwayR.p) : Calls Try.prog 42 #[.agg #[.slice A_c_Fixes c.Fixes.length c_c_Fixes, .slice A_c_Airways c.Airways.length c_c_Airways], .string fix] w (RetM (Γ := (Option Addr × Nat)) (cx w) (fun g => .tuple #[.slice g.1 ((chart_Links c fix).1.length) g.2, .int .i64 ((chart_Links c fix).2)]) (fun g => [.inr (Own g.1 g.2 9 1 (((chart_Links c fix).1).map sc))])) := by
  have s_c_Fixes := h_c_Fixes.short; rw [List.length_map] at s_c_Fixes
  have s_c_Airways := h_c_Airways.short; rw [← dl_len _he_c_Airways] at s_c_Airways
  refine calls_intro (vs := [.agg #[.slice A_c_Fixes c.Fixes.length c_c_Fixes, .slice A_c_Airways c.Airways.length c_c_Airways], .string fix]) (w := w) Try.func42 rfl Try.ntmps42 rfl (TC.sr (TL.nw 2 (fun b1 => .p0 b1) (fun b1 => Bk b1 #[.slice A_c_Fixes c.Fixes.length c_c_Fixes, .slice A_c_Airways c.Airways.length c_c_Airways] 25) (fun b1 => {}) (fun b1 => TL.r 3 [] [(4, .slice none 0 0), (5, .i 0)] {} (TL.ns (TC.sr (TL.r 1 [0] [(11, .agg #[.slice A_c_Fixes c.Fixes.length c_c_Fixes, .slice A_c_Airways c.Airways.length c_c_Airways])] {} (TL.c 12 (chart_Check c) (fun r1 => .i r1) (fun w hM => chart_Check_w c A_c_Fixes c_c_Fixes A_c_Airways c_c_Airways o_c_Airways w (h_c_Fixes.sat hM) hc_c_Fixes (h_c_Airways.sat hM) hc_c_Airways (fun s hs => (hd_c_Airways s hs).sat hM) _he_c_Airways) {} (fun r1 hr1 => TL.r 3 [] [(6, .i r1)] {} (TL.nr (TL.r 2 [] [(14, .b (r1 != 0))] {} (TL.next rfl (TC.cond (r1 != 0) rfl Kr (fun h1 => ?_) (fun h1 => ?_)))))))))))))
  · refine TC.sr (TL.r 3 [] [(4, .slice none 0 0), (5, .i r1)] {} (TL.next rfl (TC.ret (TE.rt ?_))))
    have e : chart_Links c fix = ([], r1) := by subst hr1; unfold chart_Links; exact cond_t h1 (rfl)
    refine TE.conv [Ow none 0 9 1 (([] : List ByteArray).map sc), Bk b1 #[.slice A_c_Fixes c.Fixes.length c_c_Fixes, .slice A_c_Airways c.Airways.length c_c_Airways] 25] (fun _ hM => hM.emptyrow none 9 1) ?_
    rw [e]
    exact TE.retM (.inl rfl) (none, 0) [] (.tuple #[.slice none 0 0, .i r1]) {} rfl (fun _ hM => hM.sub (sb 1))
  · have q1_0 := (bne_f h1)
    refine TC.sn (TC.seq (TC.sr (TL.r 2 [0] [(16, .agg #[.slice A_c_Fixes c.Fixes.length c_c_Fixes, .slice A_c_Airways c.Airways.length c_c_Airways]), (17, .string fix)] {} (TL.c 18 (chart_index c fix) (fun r2 => .i r2) (fun w hM => chart_index_w c A_c_Fixes c_c_Fixes A_c_Airways c_c_Airways o_c_Airways fix w (h_c_Fixes.sat hM) hc_c_Fixes (h_c_Airways.sat hM) hc_c_Airways (fun s hs => (hd_c_Airways s hs).sat hM) _he_c_Airways) {} (fun r2 hr2 => TL.r 4 [] [(19, .b (decide (r2 < 0)))] {} (TL.next rfl (TC.cond (decide (r2 < 0)) rfl Kr (fun h2 => ?_) (fun h2 => ?_))))))))
    · refine TC.sr (TL.r 2 [] [(4, .slice none 0 0), (5, .i 6)] {} (TL.next rfl (TC.ret (TE.rt ?_))))
      have e : chart_Links c fix = ([], 6) := by subst hr1 hr2; unfold chart_Links; exact cond_f h1 (cond_t h2 (rfl))
      refine TE.conv [Ow none 0 9 1 (([] : List ByteArray).map sc), Bk b1 #[.slice A_c_Fixes c.Fixes.length c_c_Fixes, .slice A_c_Airways c.Airways.length c_c_Airways] 25] (fun _ hM => hM.emptyrow none 9 1) ?_
      rw [e]
      exact TE.retM (.inl rfl) (none, 0) [] (.tuple #[.slice none 0 0, .i 6]) {} rfl (fun _ hM => hM.sub (sb 1))
    · have q2_0 := (dec_f h2)
      refine TC.snr (TL.r 1 [] [(7, .slice none 0 0)] {} (TL.ns (TC.sr (TL.r 4 [0] [(21, .slice A_c_Airways c.Airways.length c_c_Airways), (22, .i (c.Airways.length : Int)), (23, .i 0)] {} (TL.next rfl (TC.conv [Ow none 0 9 1 (([] : List ByteArray).map sc), Bk b1 #[.slice A_c_Fixes c.Fixes.length c_c_Fixes, .slice A_c_Airways c.Airways.length c_c_Airways] 25] (fun _ hM => hM.emptyrow none 9 1) ?_))))))
      obtain ⟨R4, hR⟩ : ∃ R, R = chart_Links_L1 fix c.Airways 0 ([] : List ByteArray) := ⟨_, rfl⟩
      refine TC.cut (S := (List ByteArray) × (Option Addr) × Nat) (fun (out_2, A_out_2, c_out_2) => [(7, .slice A_out_2 out_2.length c_out_2)]) (fun (out_2, A_out_2, c_out_2) => [Ow A_out_2 c_out_2 9 1 (out_2.map sc)]) (fun (out_2, A_out_2, c_out_2) => R4 = out_2 ∧ out_2.length ≤ 2 * c.Airways.length) ?_ ?_
      · refine TC.block (TC.lw (X := Nat × (List ByteArray) × (Option Addr) × Nat) (fun (k, out, A_out, c_out) => [(1, .string fix), (7, .slice A_out out.length c_out), (21, .slice A_c_Airways c.Airways.length c_c_Airways), (22, .i (c.Airways.length : Int)), (23, .i (k : Int))]) (fun (k, out, A_out, c_out) => [Ow A_out c_out 9 1 (out.map sc)]) (fun (k, out, A_out, c_out) => c.Airways.length - k) (fun (k, out, A_out, c_out) => k ≤ c.Airways.length ∧ R4 = chart_Links_L1 fix (c.Airways.drop k) k out ∧ out.length ≤ 2 * k) ?_ (0, ([] : List ByteArray), none, 0) ⟨Nat.zero_le _, hR, sz⟩ Kr (sb 1))
        rintro ⟨k, out, A_out, c_out⟩ ⟨hk, hI, hl_out⟩
        refine TC.sr (TL.r 1 [] [(24, .b (decide ((k : Int) < (c.Airways.length : Int))))] {} (TL.ns (TC.cond (decide ((k : Int) < (c.Airways.length : Int))) rfl Kr (fun h3 => ?_) (fun h3 => ?_))))
        · have hlt := ltN h3
          obtain ⟨x, hx⟩ := elN hlt
          have hd := drop_at hx
          refine TC.sn (TC.seq (TC.block (TC.sr (TL.v (sV (Instr.indexAt 23 (.slice A_c_Airways c.Airways.length c_c_Airways) (.i (k : Int)))) 25 (.pointer (some (Ix A_c_Airways (k * 2)))) (fun w hM => run_index (h_c_Airways.sat hM) (dl_len _he_c_Airways) Kr (by (try have kc_ := chk_len hr1 h1); (try have ki_ := ti_lt hr3); (try have kw1_ : w64 (r3 + 1) = r3 + 1 := w64_id (by omega)); (try have kw2_ : w64 (r3 - 1) = r3 - 1 := w64_id (by omega)); exact sd) (by (try have kc_ := chk_len hr1 h1); (try have ki_ := ti_lt hr3); (try have kw1_ : w64 (r3 + 1) = r3 + 1 := w64_id (by omega)); (try have kw2_ : w64 (r3 - 1) = r3 - 1 := w64_id (by omega)); exact sd)) {} ?_))))
          have s_s1 := (el_rd (dl_all (S := AirwayR.Fixes) (z := AirwayR.zero) rfl hd_c_Airways k) (congrArg Airway.Fixes (dl_at (z := AirwayR.zero) _he_c_Airways hx))).short; rw [List.length_map] at s_s1
          refine TL.v (sV (Instr.loadAt 43 (.pointer (some (Ix A_c_Airways (k * 2)))))) 26 (.agg #[.string x.Name, .slice ((o_c_Airways[k]?.getD AirwayR.zero).Fixes.A) x.Fixes.length ((o_c_Airways[k]?.getD AirwayR.zero).Fixes.cap)]) (fun w hM => run_load_agg (n := 2) (off := 0) (i := k) (.agg #[.string x.Name, .slice ((o_c_Airways[k]?.getD AirwayR.zero).Fixes.A) x.Fixes.length ((o_c_Airways[k]?.getD AirwayR.zero).Fixes.cap)]) (h_c_Airways.sat hM) ((map_at (getD_at _ _ AirwayR.zero (dl_lt _he_c_Airways (List.getElem?_eq_some_iff.1 hx).1))).trans (congrArg some (AirwayR.c_at (dl_at (z := AirwayR.zero) _he_c_Airways hx)))) Kr Kr Kr) {} ?_
          refine TL.nw 9 (fun b2 => .p0 b2) (fun b2 => Bk b2 #[.string ByteArray.empty, .slice none 0 0] 43) (fun b2 => {}) (fun b2 => TL.s 0 (Bk b2 #[.string x.Name, .slice ((o_c_Airways[k]?.getD AirwayR.zero).Fixes.A) x.Fixes.length ((o_c_Airways[k]?.getD AirwayR.zero).Fixes.cap)] 43) (fun _ => {}) (TL.nr (TL.r 3 [0] [(28, .slice ((o_c_Airways[k]?.getD AirwayR.zero).Fixes.A) x.Fixes.length ((o_c_Airways[k]?.getD AirwayR.zero).Fixes.cap)), (29, .string fix)] {} (TL.c 30 (slices_Index_string_string x.Fixes fix) (fun r3 => .i r3) (fun w hM => slices_Index_string_string_w ((o_c_Airways[k]?.getD AirwayR.zero).Fixes.A) ((o_c_Airways[k]?.getD AirwayR.zero).Fixes.cap) x.Fixes fix w (el_rd ((dl_all (S := AirwayR.Fixes) (z := AirwayR.zero) rfl hd_c_Airways k).sat hM) (congrArg Airway.Fixes (dl_at (z := AirwayR.zero) _he_c_Airways hx))) (el_le ((dl_all (S := AirwayR.Fixes) (z := AirwayR.zero) rfl hd_c_Airways k).sat hM) (congrArg Airway.Fixes (dl_at (z := AirwayR.zero) _he_c_Airways hx)))) {} (fun r3 hr3 => TL.r 5 [] [(10, .i r3)] {} (TL.nr (TL.r 2 [] [(32, .b (decide (r3 ≥ 0)))] {} (TL.next rfl (TC.cond (decide (r3 ≥ 0)) rfl Kr (fun h4 => ?_) (fun h4 => ?_))))))))))
          · have q4_0 := (dec_t h4)
            refine TC.seq (TC.sr (TL.r 2 [] [(34, .b (decide (r3 > 0)))] {} (TL.next rfl (TC.cond (decide (r3 > 0)) rfl Kr (fun h5 => ?_) (fun h5 => ?_)))))
            · have q5_0 := (dec_t h5)
              refine TC.region (TL.r 5 [0] [(35, .slice A_out out.length c_out), (37, .slice ((o_c_Airways[k]?.getD AirwayR.zero).Fixes.A) x.Fixes.length ((o_c_Airways[k]?.getD AirwayR.zero).Fixes.cap)), (39, .i (w64 (r3 - 1)))] {} (TL.v (sV (Instr.indexAt 29 (.slice ((o_c_Airways[k]?.getD AirwayR.zero).Fixes.A) x.Fixes.length ((o_c_Airways[k]?.getD AirwayR.zero).Fixes.cap)) (.i (w64 (r3 - 1))))) 40 (.pointer (some ((((o_c_Airways[k]?.getD AirwayR.zero).Fixes.A).getD noAddr).add ((w64 (r3 - 1)).toNat * 1)))) (fun w hM => run_index (el_rd ((dl_all (S := AirwayR.Fixes) (z := AirwayR.zero) rfl hd_c_Airways k).sat hM) (congrArg Airway.Fixes (dl_at (z := AirwayR.zero) _he_c_Airways hx))) (by simp) Kr (by (try have kc_ := chk_len hr1 h1); (try have ki_ := ti_lt hr3); (try have kw1_ : w64 (r3 + 1) = r3 + 1 := w64_id (by omega)); (try have kw2_ : w64 (r3 - 1) = r3 - 1 := w64_id (by omega)); exact sd) (by (try have kc_ := chk_len hr1 h1); (try have ki_ := ti_lt hr3); (try have kw1_ : w64 (r3 + 1) = r3 + 1 := w64_id (by omega)); (try have kw2_ : w64 (r3 - 1) = r3 - 1 := w64_id (by omega)); exact sd)) {} (TL.v (sV (Instr.loadAt 9 (.pointer (some ((((o_c_Airways[k]?.getD AirwayR.zero).Fixes.A).getD noAddr).add ((w64 (r3 - 1)).toNat * 1)))))) 41 (.string (x.Fixes[(w64 (r3 - 1)).toNat]?.getD (⟨#[]⟩ : ByteArray))) (fun w hM => run_load_one (off := 0) (i := (w64 (r3 - 1)).toNat) (.string (x.Fixes[(w64 (r3 - 1)).toNat]?.getD (⟨#[]⟩ : ByteArray))) (el_rd ((dl_all (S := AirwayR.Fixes) (z := AirwayR.zero) rfl hd_c_Airways k).sat hM) (congrArg Airway.Fixes (dl_at (z := AirwayR.zero) _he_c_Airways hx))) (map_at (getD_at _ _ (⟨#[]⟩ : ByteArray) (by (try have kc_ := chk_len hr1 h1); (try have ki_ := ti_lt hr3); (try have kw1_ : w64 (r3 + 1) = r3 + 1 := w64_id (by omega)); (try have kw2_ : w64 (r3 - 1) = r3 - 1 := w64_id (by omega)); exact sd))) Kr Kr) {} (TL.nw 42 (fun b3 => .slice (Pa b3) 1 1) (fun b3 => Bk b3 #[.string (x.Fixes[(w64 (r3 - 1)).toNat]?.getD (⟨#[]⟩ : ByteArray))] 9) (fun b3 => {}) (fun b3 => TL.os (Γ := AN) (sV (Builtin.append_ #[29, 29] 29 #[.slice A_out out.length c_out, .slice (Pa b3) 1 1])) 43 (fun g => .slice g.1 (out ++ ([(x.Fixes[(w64 (r3 - 1)).toNat]?.getD (⟨#[]⟩ : ByteArray))])).length g.2) 2 (fun g => Ow g.1 g.2 9 1 ((out ++ ([(x.Fixes[(w64 (r3 - 1)).toNat]?.getD (⟨#[]⟩ : ByteArray))])).map sc)) (app_at (bytes := 16) 29 2 ([(x.Fixes[(w64 (r3 - 1)).toNat]?.getD (⟨#[]⟩ : ByteArray))]) Kr rfl rfl sc_one rfl (fun w hM => (Rd.lit hM 0 _ rfl Kr Kr Kr)) rfl (by (try have kc_ := chk_len hr1 h1); (try have ki_ := ti_lt hr3); (try have kw1_ : w64 (r3 + 1) = r3 + 1 := w64_id (by omega)); (try have kw2_ : w64 (r3 - 1) = r3 - 1 := w64_id (by omega)); exact sa)) {} ?_)))))
              rintro ⟨A, c_2⟩
              refine TL.r 10 [] [(7, .slice A ((out ++ ([(x.Fixes[(w64 (r3 - 1)).toNat]?.getD (⟨#[]⟩ : ByteArray))])).length) c_2)] {} (TL.nr (TL.r 6 [1] [(49, .b (decide ((w64 (r3 + 1)) < (x.Fixes.length : Int))))] {} (TL.next rfl (TC.cond (decide ((w64 (r3 + 1)) < (x.Fixes.length : Int))) rfl Kr (fun h6 => ?_) (fun h6 => ?_)))))
              · have q6_0 := (dec_t h6)
                refine TC.region (TL.r 5 [1] [(50, .slice A ((out ++ ([(x.Fixes[(w64 (r3 - 1)).toNat]?.getD (⟨#[]⟩ : ByteArray))])).length) c_2), (52, .slice ((o_c_Airways[k]?.getD AirwayR.zero).Fixes.A) x.Fixes.length ((o_c_Airways[k]?.getD AirwayR.zero).Fixes.cap)), (54, .i (w64 (r3 + 1)))] {} (TL.v (sV (Instr.indexAt 29 (.slice ((o_c_Airways[k]?.getD AirwayR.zero).Fixes.A) x.Fixes.length ((o_c_Airways[k]?.getD AirwayR.zero).Fixes.cap)) (.i (w64 (r3 + 1))))) 55 (.pointer (some ((((o_c_Airways[k]?.getD AirwayR.zero).Fixes.A).getD noAddr).add ((w64 (r3 + 1)).toNat * 1)))) (fun w hM => run_index (el_rd ((dl_all (S := AirwayR.Fixes) (z := AirwayR.zero) rfl hd_c_Airways k).sat hM) (congrArg Airway.Fixes (dl_at (z := AirwayR.zero) _he_c_Airways hx))) (by simp) Kr (by (try have kc_ := chk_len hr1 h1); (try have ki_ := ti_lt hr3); (try have kw1_ : w64 (r3 + 1) = r3 + 1 := w64_id (by omega)); (try have kw2_ : w64 (r3 - 1) = r3 - 1 := w64_id (by omega)); exact sd) (by (try have kc_ := chk_len hr1 h1); (try have ki_ := ti_lt hr3); (try have kw1_ : w64 (r3 + 1) = r3 + 1 := w64_id (by omega)); (try have kw2_ : w64 (r3 - 1) = r3 - 1 := w64_id (by omega)); exact sd)) {} (TL.v (sV (Instr.loadAt 9 (.pointer (some ((((o_c_Airways[k]?.getD AirwayR.zero).Fixes.A).getD noAddr).add ((w64 (r3 + 1)).toNat * 1)))))) 56 (.string (x.Fixes[(w64 (r3 + 1)).toNat]?.getD (⟨#[]⟩ : ByteArray))) (fun w hM => run_load_one (off := 0) (i := (w64 (r3 + 1)).toNat) (.string (x.Fixes[(w64 (r3 + 1)).toNat]?.getD (⟨#[]⟩ : ByteArray))) (el_rd ((dl_all (S := AirwayR.Fixes) (z := AirwayR.zero) rfl hd_c_Airways k).sat hM) (congrArg Airway.Fixes (dl_at (z := AirwayR.zero) _he_c_Airways hx))) (map_at (getD_at _ _ (⟨#[]⟩ : ByteArray) (by (try have kc_ := chk_len hr1 h1); (try have ki_ := ti_lt hr3); (try have kw1_ : w64 (r3 + 1) = r3 + 1 := w64_id (by omega)); (try have kw2_ : w64 (r3 - 1) = r3 - 1 := w64_id (by omega)); exact sd))) Kr Kr) {} (TL.nw 57 (fun b4 => .slice (Pa b4) 1 1) (fun b4 => Bk b4 #[.string (x.Fixes[(w64 (r3 + 1)).toNat]?.getD (⟨#[]⟩ : ByteArray))] 9) (fun b4 => {}) (fun b4 => TL.os (Γ := AN) (sV (Builtin.append_ #[29, 29] 29 #[.slice A ((out ++ ([(x.Fixes[(w64 (r3 - 1)).toNat]?.getD (⟨#[]⟩ : ByteArray))])).length) c_2, .slice (Pa b4) 1 1])) 58 (fun g => .slice g.1 ((out ++ ([(x.Fixes[(w64 (r3 - 1)).toNat]?.getD (⟨#[]⟩ : ByteArray))])) ++ ([(x.Fixes[(w64 (r3 + 1)).toNat]?.getD (⟨#[]⟩ : ByteArray))])).length g.2) 3 (fun g => Ow g.1 g.2 9 1 (((out ++ ([(x.Fixes[(w64 (r3 - 1)).toNat]?.getD (⟨#[]⟩ : ByteArray))])) ++ ([(x.Fixes[(w64 (r3 + 1)).toNat]?.getD (⟨#[]⟩ : ByteArray))])).map sc)) (app_at (bytes := 16) 29 3 ([(x.Fixes[(w64 (r3 + 1)).toNat]?.getD (⟨#[]⟩ : ByteArray))]) Kr rfl rfl sc_one rfl (fun w hM => (Rd.lit hM 0 _ rfl Kr Kr Kr)) rfl (by (try have kc_ := chk_len hr1 h1); (try have ki_ := ti_lt hr3); (try have kw1_ : w64 (r3 + 1) = r3 + 1 := w64_id (by omega)); (try have kw2_ : w64 (r3 - 1) = r3 - 1 := w64_id (by omega)); exact sa)) {} ?_)))))
                rintro ⟨A_2, c_3⟩
                exact TL.r 10 [] [(7, .slice A_2 (((out ++ ([(x.Fixes[(w64 (r3 - 1)).toNat]?.getD (⟨#[]⟩ : ByteArray))])) ++ ([(x.Fixes[(w64 (r3 + 1)).toNat]?.getD (⟨#[]⟩ : ByteArray))])).length) c_3)] {} (TL.done rfl (TE.nb (TE.next (TC.region (TL.r 2 [] [(23, .i (w64 ((k : Int) + 1)))] {} (TL.done rfl (TE.rw 23 (.i (w64 ((k : Int) + 1))) (.i ((k + 1 : Nat) : Int)) Kr (w64_cast k (by (try have kc_ := chk_len hr1 h1); (try have ki_ := ti_lt hr3); (try have kw1_ : w64 (r3 + 1) = r3 + 1 := w64_id (by omega)); (try have kw2_ : w64 (r3 - 1) = r3 - 1 := w64_id (by omega)); omega)) (TE.again (x := (k, out, A_out, c_out)) (k + 1, ((out ++ ([(x.Fixes[(w64 (r3 - 1)).toNat]?.getD (⟨#[]⟩ : ByteArray))])) ++ ([(x.Fixes[(w64 (r3 + 1)).toNat]?.getD (⟨#[]⟩ : ByteArray))])), A_2, c_3) ⟨by omega, hI.trans (by subst hr1 hr2 hr3; rw [hd]; exact cond_t h4 (cond_t h5 (cond_t h6 (rfl)))), (by (try have kc_ := chk_len hr1 h1); (try have ki_ := ti_lt hr3); (try have kw1_ : w64 (r3 + 1) = r3 + 1 := w64_id (by omega)); (try have kw2_ : w64 (r3 - 1) = r3 - 1 := w64_id (by omega)); exact sl)⟩ (mN hlt) Kr (sb 8)))))))))
              · have q6_0 := (dec_f h6)
                exact TC.skip (TE.nb (TE.next (TC.region (TL.r 2 [] [(23, .i (w64 ((k : Int) + 1)))] {} (TL.done rfl (TE.rw 23 (.i (w64 ((k : Int) + 1))) (.i ((k + 1 : Nat) : Int)) Kr (w64_cast k (by (try have kc_ := chk_len hr1 h1); (try have ki_ := ti_lt hr3); (try have kw1_ : w64 (r3 + 1) = r3 + 1 := w64_id (by omega)); (try have kw2_ : w64 (r3 - 1) = r3 - 1 := w64_id (by omega)); omega)) (TE.again (x := (k, out, A_out, c_out)) (k + 1, (out ++ ([(x.Fixes[(w64 (r3 - 1)).toNat]?.getD (⟨#[]⟩ : ByteArray))])), A, c_2) ⟨by omega, hI.trans (by subst hr1 hr2 hr3; rw [hd]; exact cond_t h4 (cond_t h5 (cond_f h6 (rfl)))), (by (try have kc_ := chk_len hr1 h1); (try have ki_ := ti_lt hr3); (try have kw1_ : w64 (r3 + 1) = r3 + 1 := w64_id (by omega)); (try have kw2_ : w64 (r3 - 1) = r3 - 1 := w64_id (by omega)); exact sl)⟩ (mN hlt) Kr (sb 4))))))))
            · have q5_0 := (dec_f h5)
              refine TC.snr (TL.r 6 [0] [(49, .b (decide ((w64 (r3 + 1)) < (x.Fixes.length : Int))))] {} (TL.next rfl (TC.cond (decide ((w64 (r3 + 1)) < (x.Fixes.length : Int))) rfl Kr (fun h7 => ?_) (fun h7 => ?_))))
              · have q7_0 := (dec_t h7)
                refine TC.region (TL.r 5 [0] [(50, .slice A_out out.length c_out), (52, .slice ((o_c_Airways[k]?.getD AirwayR.zero).Fixes.A) x.Fixes.length ((o_c_Airways[k]?.getD AirwayR.zero).Fixes.cap)), (54, .i (w64 (r3 + 1)))] {} (TL.v (sV (Instr.indexAt 29 (.slice ((o_c_Airways[k]?.getD AirwayR.zero).Fixes.A) x.Fixes.length ((o_c_Airways[k]?.getD AirwayR.zero).Fixes.cap)) (.i (w64 (r3 + 1))))) 55 (.pointer (some ((((o_c_Airways[k]?.getD AirwayR.zero).Fixes.A).getD noAddr).add ((w64 (r3 + 1)).toNat * 1)))) (fun w hM => run_index (el_rd ((dl_all (S := AirwayR.Fixes) (z := AirwayR.zero) rfl hd_c_Airways k).sat hM) (congrArg Airway.Fixes (dl_at (z := AirwayR.zero) _he_c_Airways hx))) (by simp) Kr (by (try have kc_ := chk_len hr1 h1); (try have ki_ := ti_lt hr3); (try have kw1_ : w64 (r3 + 1) = r3 + 1 := w64_id (by omega)); (try have kw2_ : w64 (r3 - 1) = r3 - 1 := w64_id (by omega)); exact sd) (by (try have kc_ := chk_len hr1 h1); (try have ki_ := ti_lt hr3); (try have kw1_ : w64 (r3 + 1) = r3 + 1 := w64_id (by omega)); (try have kw2_ : w64 (r3 - 1) = r3 - 1 := w64_id (by omega)); exact sd)) {} (TL.v (sV (Instr.loadAt 9 (.pointer (some ((((o_c_Airways[k]?.getD AirwayR.zero).Fixes.A).getD noAddr).add ((w64 (r3 + 1)).toNat * 1)))))) 56 (.string (x.Fixes[(w64 (r3 + 1)).toNat]?.getD (⟨#[]⟩ : ByteArray))) (fun w hM => run_load_one (off := 0) (i := (w64 (r3 + 1)).toNat) (.string (x.Fixes[(w64 (r3 + 1)).toNat]?.getD (⟨#[]⟩ : ByteArray))) (el_rd ((dl_all (S := AirwayR.Fixes) (z := AirwayR.zero) rfl hd_c_Airways k).sat hM) (congrArg Airway.Fixes (dl_at (z := AirwayR.zero) _he_c_Airways hx))) (map_at (getD_at _ _ (⟨#[]⟩ : ByteArray) (by (try have kc_ := chk_len hr1 h1); (try have ki_ := ti_lt hr3); (try have kw1_ : w64 (r3 + 1) = r3 + 1 := w64_id (by omega)); (try have kw2_ : w64 (r3 - 1) = r3 - 1 := w64_id (by omega)); exact sd))) Kr Kr) {} (TL.nw 57 (fun b5 => .slice (Pa b5) 1 1) (fun b5 => Bk b5 #[.string (x.Fixes[(w64 (r3 + 1)).toNat]?.getD (⟨#[]⟩ : ByteArray))] 9) (fun b5 => {}) (fun b5 => TL.os (Γ := AN) (sV (Builtin.append_ #[29, 29] 29 #[.slice A_out out.length c_out, .slice (Pa b5) 1 1])) 58 (fun g => .slice g.1 (out ++ ([(x.Fixes[(w64 (r3 + 1)).toNat]?.getD (⟨#[]⟩ : ByteArray))])).length g.2) 2 (fun g => Ow g.1 g.2 9 1 ((out ++ ([(x.Fixes[(w64 (r3 + 1)).toNat]?.getD (⟨#[]⟩ : ByteArray))])).map sc)) (app_at (bytes := 16) 29 2 ([(x.Fixes[(w64 (r3 + 1)).toNat]?.getD (⟨#[]⟩ : ByteArray))]) Kr rfl rfl sc_one rfl (fun w hM => (Rd.lit hM 0 _ rfl Kr Kr Kr)) rfl (by (try have kc_ := chk_len hr1 h1); (try have ki_ := ti_lt hr3); (try have kw1_ : w64 (r3 + 1) = r3 + 1 := w64_id (by omega)); (try have kw2_ : w64 (r3 - 1) = r3 - 1 := w64_id (by omega)); exact sa)) {} ?_)))))
                rintro ⟨A_3, c_4⟩
                exact TL.r 10 [] [(7, .slice A_3 ((out ++ ([(x.Fixes[(w64 (r3 + 1)).toNat]?.getD (⟨#[]⟩ : ByteArray))])).length) c_4)] {} (TL.done rfl (TE.nb (TE.next (TC.region (TL.r 2 [] [(23, .i (w64 ((k : Int) + 1)))] {} (TL.done rfl (TE.rw 23 (.i (w64 ((k : Int) + 1))) (.i ((k + 1 : Nat) : Int)) Kr (w64_cast k (by (try have kc_ := chk_len hr1 h1); (try have ki_ := ti_lt hr3); (try have kw1_ : w64 (r3 + 1) = r3 + 1 := w64_id (by omega)); (try have kw2_ : w64 (r3 - 1) = r3 - 1 := w64_id (by omega)); omega)) (TE.again (x := (k, out, A_out, c_out)) (k + 1, (out ++ ([(x.Fixes[(w64 (r3 + 1)).toNat]?.getD (⟨#[]⟩ : ByteArray))])), A_3, c_4) ⟨by omega, hI.trans (by subst hr1 hr2 hr3; rw [hd]; exact cond_t h4 (cond_f h5 (cond_t h7 (rfl)))), (by (try have kc_ := chk_len hr1 h1); (try have ki_ := ti_lt hr3); (try have kw1_ : w64 (r3 + 1) = r3 + 1 := w64_id (by omega)); (try have kw2_ : w64 (r3 - 1) = r3 - 1 := w64_id (by omega)); exact sl)⟩ (mN hlt) Kr (sb 4)))))))))
              · have q7_0 := (dec_f h7)
                exact TC.skip (TE.nb (TE.next (TC.region (TL.r 2 [] [(23, .i (w64 ((k : Int) + 1)))] {} (TL.done rfl (TE.rw 23 (.i (w64 ((k : Int) + 1))) (.i ((k + 1 : Nat) : Int)) Kr (w64_cast k (by (try have kc_ := chk_len hr1 h1); (try have ki_ := ti_lt hr3); (try have kw1_ : w64 (r3 + 1) = r3 + 1 := w64_id (by omega)); (try have kw2_ : w64 (r3 - 1) = r3 - 1 := w64_id (by omega)); omega)) (TE.again (x := (k, out, A_out, c_out)) (k + 1, out, A_out, c_out) ⟨by omega, hI.trans (by subst hr1 hr2 hr3; rw [hd]; exact cond_t h4 (cond_f h5 (cond_f h7 (rfl)))), (by (try have kc_ := chk_len hr1 h1); (try have ki_ := ti_lt hr3); (try have kw1_ : w64 (r3 + 1) = r3 + 1 := w64_id (by omega)); (try have kw2_ : w64 (r3 - 1) = r3 - 1 := w64_id (by omega)); exact sl)⟩ (mN hlt) Kr (sb 2))))))))
          · have q4_0 := (dec_f h4)
            exact TC.skip (TE.nb (TE.next (TC.region (TL.r 2 [] [(23, .i (w64 ((k : Int) + 1)))] {} (TL.done rfl (TE.rw 23 (.i (w64 ((k : Int) + 1))) (.i ((k + 1 : Nat) : Int)) Kr (w64_cast k (by (try have kc_ := chk_len hr1 h1); (try have ki_ := ti_lt hr3); (try have kw1_ : w64 (r3 + 1) = r3 + 1 := w64_id (by omega)); (try have kw2_ : w64 (r3 - 1) = r3 - 1 := w64_id (by omega)); omega)) (TE.again (x := (k, out, A_out, c_out)) (k + 1, out, A_out, c_out) ⟨by omega, hI.trans (by subst hr1 hr2 hr3; rw [hd]; exact cond_f h4 (rfl)), (by (try have kc_ := chk_len hr1 h1); (try have ki_ := ti_lt hr3); (try have kw1_ : w64 (r3 + 1) = r3 + 1 := w64_id (by omega)); (try have kw2_ : w64 (r3 - 1) = r3 - 1 := w64_id (by omega)); exact sl)⟩ (mN hlt) Kr (sb 2))))))))
        · have hd := dropN h3
          refine TC.exit (TE.et (TE.et (TE.exit_same ?_)))
          exact TE.cut (out, A_out, c_out) (⟨hI.trans (by subst hr1 hr2; rw [hd]; exact rfl), (by (try have kc_ := chk_len hr1 h1); (try have ki_ := ti_lt hr3); (try have kw1_ : w64 (r3 + 1) = r3 + 1 := w64_id (by omega)); (try have kw2_ : w64 (r3 - 1) = r3 - 1 := w64_id (by omega)); exact sl)⟩) Kr (sb 1)
      · rintro ⟨out_2, A_out_2, c_out_2⟩ ⟨hJ, hl_out_2⟩
        refine TE.nr (TL.r 1 [] [(60, .slice A_out_2 out_2.length c_out_2)] {} (TL.callM (Γ := (List ByteArray)) (fun _ => .tuple #[]) (fun g => [.inr (Fact (g.length = out_2.length ∧ g = sortT out_2)), Ow A_out_2 c_out_2 9 1 (g.map sc)]) [Ow A_out_2 c_out_2 9 1 (out_2.map sc)] [] (some 61) (fun _ => [(7, .slice A_out_2 out_2.length c_out_2)]) (fun w hM => sortSt_w A_out_2 c_out_2 out_2 w hM.pass) Kr (fun g => Kr) ?_))
        rintro r4
        refine TL.conv [.inr (Fact (r4.length = out_2.length ∧ r4 = sortT out_2)), Ow A_out_2 c_out_2 9 1 (r4.map sc)] (fun _ hM => hM) (TL.know (fun w hM => hM.fact_at 0 rfl) (fun hp_sortSt => TL.forget [Ow A_out_2 c_out_2 9 1 (r4.map sc)] (.cons _ (List.Sublist.refl _)) ?_))
        have hl_r4 : r4.length = out_2.length := hp_sortSt.1
        refine TL.rw 7 (.slice A_out_2 out_2.length c_out_2) (.slice A_out_2 r4.length c_out_2) Kr (by rw [hl_r4]) ?_
        have hr4 : sortT out_2 = r4 := (hp_sortSt.2).symm
        refine TL.nr (TL.r 1 [] [(62, .slice A_out_2 r4.length c_out_2)] {} (TL.callM (Γ := (List ByteArray)) (fun g => .slice A_out_2 g.length c_out_2) (fun g => [.inr (Fact (g = cpt seq r4)), Ow A_out_2 c_out_2 9 1 (g.map sc)]) [Ow A_out_2 c_out_2 9 1 (r4.map sc)] [] (some 63) (fun g => [(63, .slice A_out_2 g.length c_out_2)]) (fun w hM => cmpctS_w A_out_2 c_out_2 r4 w hM.pass) Kr (fun g => Kr) ?_))
        rintro r5
        refine TL.conv [.inr (Fact (r5 = cpt seq r4)), Ow A_out_2 c_out_2 9 1 (r5.map sc)] (fun _ hM => hM) (TL.know (fun w hM => hM.fact_at 0 rfl) (fun hp_cmpctS => TL.forget [Ow A_out_2 c_out_2 9 1 (r5.map sc)] (.cons _ (List.Sublist.refl _)) ?_))
        have hr5 : cpt seq r4 = r5 := (hp_cmpctS).symm
        refine TL.r 4 [] [(4, .slice A_out_2 r5.length c_out_2), (5, .i 0)] {} (TL.next rfl (TC.ret ?_))
        have e : chart_Links c fix = (r5, 0) := by subst hr1 hr2 hr4 hr5; unfold chart_Links; exact cond_f h1 (cond_f h2 (bindv_eq (hR.symm.trans hJ) (rfl)))
        rw [e]
        exact TE.retM (.inl rfl) (A_out_2, c_out_2) [] (.tuple #[.slice A_out_2 r5.length c_out_2, .i 0]) {} rfl (fun _ hM => hM.sub (sb 1))
def chart_Length_L1 (c : Chart) (names : List ByteArray) : List ByteArray → Nat → Int → ((Int) ⊕ (Int × Int))
  | [], _, n => .inl n
  | x :: xs, k, n => let r2 := chart_index c x
    cond (decide (r2 < 0)) (
      .inr (0, 6)) (
      cond (decide ((k : Int) > 0)) (
        let r3 := chart_index c (names[(k - 1)]?.getD (⟨#[]⟩ : ByteArray))
        let r4 := chart_index c x
        let r5 := plane_Distance ((c.Fixes[r3.toNat]?.getD Fix.zero).At) ((c.Fixes[r4.toNat]?.getD Fix.zero).At)
        chart_Length_L1 c names xs (k + 1) (w64 (n + r5.2))) (
        chart_Length_L1 c names xs (k + 1) n))
def chart_Length (c : Chart) (names : List ByteArray) : Int × Int :=
  let r1 := chart_Check c
  cond (r1 != 0) (
    (0, r1)) (
    cond (decide ((names.length : Int) > 64)) (
      (0, 2)) (
      Sum.elim (fun n_2 =>
        (n_2, 0)) (fun r => r) (chart_Length_L1 c names names 0 0)))
set_option maxRecDepth 100000 in
theorem chart_Length_w (c : Chart) (A_c_Fixes : Option Addr) (c_c_Fixes : Nat) (A_c_Airways : Option Addr) (c_c_Airways : Nat) (o_c_Airways : List (AirwayR)) (A_names : Option Addr) (c_names : Nat) (names : List ByteArray) (w : World) (h_c_Fixes : Rd w 3 A_c_Fixes (c.Fixes.map Fix.c)) (hc_c_Fixes : c.Fixes.length ≤ c_c_Fixes) (h_c_Airways : Rd w 2 A_c_Airways (o_c_Airways.map AirwayR.c)) (hc_c_Airways : c.Airways.length ≤ c_c_Airways) (hd_c_Airways : ∀ s ∈ (o_c_Airways.map AirwayR.Fixes), s.rd w 1 sc) (_he_c_Airways : c.Airways = o_c_Airways.map AirwayR.p) (h_names : Rd w 1 A_names (names.map sc)) (_hc_names : names.length ≤ c_names) : Calls Try.prog 44 #[.agg #[.slice A_c_Fixes c.Fixes.length c_c_Fixes, .slice A_c_Airways c.Airways.length c_c_Airways], .slice A_names names.length c_names] w (Ret w (.tuple #[.int .i64 ((chart_Length c names).1), .int .i64 ((chart_Length c names).2)])) := by
  have s_c_Fixes := h_c_Fixes.short; rw [List.length_map] at s_c_Fixes
  have s_c_Airways := h_c_Airways.short; rw [← dl_len _he_c_Airways] at s_c_Airways
  have s_names := h_names.short; rw [List.length_map] at s_names
  refine calls_intro (vs := [.agg #[.slice A_c_Fixes c.Fixes.length c_c_Fixes, .slice A_c_Airways c.Airways.length c_c_Airways], .slice A_names names.length c_names]) (w := w) Try.func44 rfl Try.ntmps44 rfl (TC.sr (TL.nw 2 (fun b1 => .p0 b1) (fun b1 => Bk b1 #[.slice A_c_Fixes c.Fixes.length c_c_Fixes, .slice A_c_Airways c.Airways.length c_c_Airways] 25) (fun b1 => {}) (fun b1 => TL.r 3 [] [(4, .i 0), (5, .i 0)] {} (TL.ns (TC.sr (TL.r 1 [0] [(12, .agg #[.slice A_c_Fixes c.Fixes.length c_c_Fixes, .slice A_c_Airways c.Airways.length c_c_Airways])] {} (TL.c 13 (chart_Check c) (fun r1 => .i r1) (fun w hM => chart_Check_w c A_c_Fixes c_c_Fixes A_c_Airways c_c_Airways o_c_Airways w (h_c_Fixes.sat hM) hc_c_Fixes (h_c_Airways.sat hM) hc_c_Airways (fun s hs => (hd_c_Airways s hs).sat hM) _he_c_Airways) {} (fun r1 hr1 => TL.r 3 [] [(6, .i r1)] {} (TL.nr (TL.r 2 [] [(15, .b (r1 != 0))] {} (TL.next rfl (TC.cond (r1 != 0) rfl Kr (fun h1 => ?_) (fun h1 => ?_)))))))))))))
  · exact TC.sr (TL.r 3 [] [(4, .i 0), (5, .i r1)] {} (TL.next rfl (TC.ret (TE.rt (TE.ret [] (.tuple #[.i 0, .i r1]) {} (by unfold chart_Length; refine eS (a := (0, r1)) (fun (z : Int × Int) => (.tuple #[.i z.1, .i z.2] : Value)) ?_; subst hr1; exact cond_t h1 (rfl)))))))
  · have q1_0 := (bne_f h1)
    refine TC.sn (TC.seq (TC.sr (TL.r 3 [] [(19, .b (decide ((names.length : Int) > 64)))] {} (TL.next rfl (TC.cond (decide ((names.length : Int) > 64)) rfl Kr (fun h2 => ?_) (fun h2 => ?_))))))
    · exact TC.sr (TL.r 2 [] [(4, .i 0), (5, .i 2)] {} (TL.next rfl (TC.ret (TE.rt (TE.ret [] (.tuple #[.i 0, .i 2]) {} (by unfold chart_Length; refine eS (a := (0, 2)) (fun (z : Int × Int) => (.tuple #[.i z.1, .i z.2] : Value)) ?_; subst hr1; exact cond_f h1 (cond_t h2 (rfl))))))))
    · have q2_0 := (dec_f h2)
      refine TC.snr (TL.r 1 [] [(7, .i 0)] {} (TL.ns (TC.sr (TL.r 3 [] [(20, .slice A_names names.length c_names), (21, .i (names.length : Int)), (22, .i 0)] {} (TL.next rfl ?_)))))
      obtain ⟨R1, hR⟩ : ∃ R, R = chart_Length_L1 c names names 0 0 := ⟨_, rfl⟩
      refine TC.cut (S := Int) (fun n_2 => [(7, .i n_2)]) (fun n_2 => []) (fun n_2 => R1 = .inl n_2) ?_ ?_
      · refine TC.block (TC.lw (X := Nat × Int) (fun (k, n) => [(1, .slice A_names names.length c_names), (2, .p0 b1), (7, .i n), (20, .slice A_names names.length c_names), (21, .i (names.length : Int)), (22, .i (k : Int))]) (fun (k, n) => [Bk b1 #[.slice A_c_Fixes c.Fixes.length c_c_Fixes, .slice A_c_Airways c.Airways.length c_c_Airways] 25]) (fun (k, n) => names.length - k) (fun (k, n) => k ≤ names.length ∧ R1 = chart_Length_L1 c names (names.drop k) k n ∧ (∀ j : Nat, j < k → 0 ≤ chart_index c (names[j]?.getD (⟨#[]⟩ : ByteArray)))) ?_ (0, 0) ⟨Nat.zero_le _, hR, (fun j hj => absurd hj (Nat.not_lt_zero j))⟩ Kr (sb 1))
        rintro ⟨k, n⟩ ⟨hk, hI, hl_ix⟩
        refine TC.sr (TL.r 1 [] [(23, .b (decide ((k : Int) < (names.length : Int))))] {} (TL.ns (TC.cond (decide ((k : Int) < (names.length : Int))) rfl Kr (fun h3 => ?_) (fun h3 => ?_))))
        · have hlt := ltN h3
          obtain ⟨x, hx⟩ := elN hlt
          have hd := drop_at hx
          refine TC.sn (TC.seq (TC.block (TC.sr (TL.r 1 [] [(24, .i (k : Int))] {} (TL.v (sV (Instr.indexAt 29 (.slice A_names names.length c_names) (.i (k : Int)))) 25 (.pointer (some (Ix A_names (k * 1)))) (fun w hM => run_index (h_names.sat hM) (by simp) Kr (by (try have kn2_ := ix_lt hr2); (try have kn3_ := ix_lt hr3); (try have kp_ := ix_pos hl_ix hr3 (by omega)); (try have kn4_ := ix_lt hr4); (try have k42_ := hr4.symm.trans hr2); exact sd) (by (try have kn2_ := ix_lt hr2); (try have kn3_ := ix_lt hr3); (try have kp_ := ix_pos hl_ix hr3 (by omega)); (try have kn4_ := ix_lt hr4); (try have k42_ := hr4.symm.trans hr2); exact sd)) {} (TL.v (sV (Instr.loadAt 9 (.pointer (some (Ix A_names (k * 1)))))) 26 (.string x) (fun w hM => run_load_one (off := 0) (i := k) (.string x) (h_names.sat hM) (map_at hx) Kr Kr) {} (TL.r 5 [] [(8, .i (k : Int)), (9, .string x)] {} (TL.ns (TC.sr (TL.r 2 [0] [(27, .agg #[.slice A_c_Fixes c.Fixes.length c_c_Fixes, .slice A_c_Airways c.Airways.length c_c_Airways]), (28, .string x)] {} (TL.c 29 (chart_index c x) (fun r2 => .i r2) (fun w hM => chart_index_w c A_c_Fixes c_c_Fixes A_c_Airways c_c_Airways o_c_Airways x w (h_c_Fixes.sat hM) hc_c_Fixes (h_c_Airways.sat hM) hc_c_Airways (fun s hs => (hd_c_Airways s hs).sat hM) _he_c_Airways) {} (fun r2 hr2 => TL.r 4 [] [(30, .b (decide (r2 < 0)))] {} (TL.next rfl (TC.cond (decide (r2 < 0)) rfl Kr (fun h4 => ?_) (fun h4 => ?_)))))))))))))))
          · refine TC.sr (TL.r 2 [] [(4, .i 0), (5, .i 6)] {} (TL.next rfl (TC.ret (TE.rt (TE.rb (TE.rt (TE.rt (TE.rb (TE.rt (TE.rt ?_))))))))))
            exact TE.ret [] (.tuple #[.i 0, .i 6]) {} (by unfold chart_Length; refine eS (a := (0, 6)) (fun (z : Int × Int) => (.tuple #[.i z.1, .i z.2] : Value)) ?_; subst hr1 hr2; exact cond_f h1 (cond_f h2 (elim_r (hR.symm.trans (hI.trans (by rw [hd]; exact cond_t h4 (rfl)))) rfl)))
          · have q4_0 := (dec_f h4)
            refine TC.snr (TL.r 2 [] [(32, .b (decide ((k : Int) > 0)))] {} (TL.next rfl (TC.cond (decide ((k : Int) > 0)) rfl Kr (fun h5 => ?_) (fun h5 => ?_))))
            · have q5_0 := (dec_t h5)
              exact TC.seq (TC.draw 26 Kr Kr Kr (TQ.r 6 [0, 0] [(35, .slice A_c_Fixes c.Fixes.length c_c_Fixes), (36, .agg #[.slice A_c_Fixes c.Fixes.length c_c_Fixes, .slice A_c_Airways c.Airways.length c_c_Airways]), (37, .slice A_names names.length c_names), (39, .i (w64 ((k : Int) - 1)))] {} (TQ.rw 39 (.i (w64 ((k : Int) - 1))) (.i ((k - 1 : Nat) : Int)) Kr (w64_pred k (by (try have kn2_ := ix_lt hr2); (try have kn3_ := ix_lt hr3); (try have kp_ := ix_pos hl_ix hr3 (by omega)); (try have kn4_ := ix_lt hr4); (try have k42_ := hr4.symm.trans hr2); exact sd)) (TQ.v (sV (Instr.indexAt 29 (.slice A_names names.length c_names) (.i ((k - 1 : Nat) : Int)))) 40 (.pointer (some (Ix A_names ((k - 1) * 1)))) (fun w hM => run_index (h_names.sat hM) (by simp) Kr (by (try have kn2_ := ix_lt hr2); (try have kn3_ := ix_lt hr3); (try have kp_ := ix_pos hl_ix hr3 (by omega)); (try have kn4_ := ix_lt hr4); (try have k42_ := hr4.symm.trans hr2); exact sd) (by (try have kn2_ := ix_lt hr2); (try have kn3_ := ix_lt hr3); (try have kp_ := ix_pos hl_ix hr3 (by omega)); (try have kn4_ := ix_lt hr4); (try have k42_ := hr4.symm.trans hr2); exact sd)) rfl {} (TQ.v (sV (Instr.loadAt 9 (.pointer (some (Ix A_names ((k - 1) * 1)))))) 41 (.string (names[(k - 1)]?.getD (⟨#[]⟩ : ByteArray))) (fun w hM => run_load_one (off := 0) (i := (k - 1)) (.string (names[(k - 1)]?.getD (⟨#[]⟩ : ByteArray))) (h_names.sat hM) (map_at (getD_at _ _ (⟨#[]⟩ : ByteArray) (by (try have kn2_ := ix_lt hr2); (try have kn3_ := ix_lt hr3); (try have kp_ := ix_pos hl_ix hr3 (by omega)); (try have kn4_ := ix_lt hr4); (try have k42_ := hr4.symm.trans hr2); exact sd))) Kr Kr) rfl {} (TQ.c 42 (chart_index c (names[(k - 1)]?.getD (⟨#[]⟩ : ByteArray))) (fun r3 => .i r3) (fun w hM => chart_index_w c A_c_Fixes c_c_Fixes A_c_Airways c_c_Airways o_c_Airways (names[(k - 1)]?.getD (⟨#[]⟩ : ByteArray)) w (h_c_Fixes.sat hM) hc_c_Fixes (h_c_Airways.sat hM) hc_c_Airways (fun s hs => (hd_c_Airways s hs).sat hM) _he_c_Airways) rfl {} (fun r3 hr3 => TQ.v (sV (Instr.indexAt 22 (.slice A_c_Fixes c.Fixes.length c_c_Fixes) (.i r3))) 43 (.pointer (some (Ix A_c_Fixes (r3.toNat * 3)))) (fun w hM => run_index (h_c_Fixes.sat hM) (by simp) Kr (by (try have kn2_ := ix_lt hr2); (try have kn3_ := ix_lt hr3); (try have kp_ := ix_pos hl_ix hr3 (by omega)); (try have kn4_ := ix_lt hr4); (try have k42_ := hr4.symm.trans hr2); exact sd) (by (try have kn2_ := ix_lt hr2); (try have kn3_ := ix_lt hr3); (try have kp_ := ix_pos hl_ix hr3 (by omega)); (try have kn4_ := ix_lt hr4); (try have k42_ := hr4.symm.trans hr2); exact sd)) rfl {} (TQ.r 11 [] [(44, .pointer (some ((Ix A_c_Fixes (r3.toNat * 3)).add 1)))] {} (TQ.v (sV (Instr.loadAt 33 (.pointer (some ((Ix A_c_Fixes (r3.toNat * 3)).add 1))))) 45 (P.v ((c.Fixes[r3.toNat]?.getD Fix.zero).At)) (fun w hM => run_load_agg (n := 2) (off := 1) (i := r3.toNat) (P.v ((c.Fixes[r3.toNat]?.getD Fix.zero).At)) (h_c_Fixes.sat hM) (map_at (getD_at _ _ Fix.zero (by (try have kn2_ := ix_lt hr2); (try have kn3_ := ix_lt hr3); (try have kp_ := ix_pos hl_ix hr3 (by omega)); (try have kn4_ := ix_lt hr4); (try have k42_ := hr4.symm.trans hr2); exact sd))) Kr Kr Kr) rfl {} (TQ.r 16 [0, 0] [(47, .slice A_c_Fixes c.Fixes.length c_c_Fixes), (48, .agg #[.slice A_c_Fixes c.Fixes.length c_c_Fixes, .slice A_c_Airways c.Airways.length c_c_Airways]), (49, .string x)] {} (TQ.c 50 (chart_index c x) (fun r4 => .i r4) (fun w hM => chart_index_w c A_c_Fixes c_c_Fixes A_c_Airways c_c_Airways o_c_Airways x w (h_c_Fixes.sat hM) hc_c_Fixes (h_c_Airways.sat hM) hc_c_Airways (fun s hs => (hd_c_Airways s hs).sat hM) _he_c_Airways) rfl {} (fun r4 hr4 => TQ.v (sV (Instr.indexAt 22 (.slice A_c_Fixes c.Fixes.length c_c_Fixes) (.i r4))) 51 (.pointer (some (Ix A_c_Fixes (r4.toNat * 3)))) (fun w hM => run_index (h_c_Fixes.sat hM) (by simp) Kr (by (try have kn2_ := ix_lt hr2); (try have kn3_ := ix_lt hr3); (try have kp_ := ix_pos hl_ix hr3 (by omega)); (try have kn4_ := ix_lt hr4); (try have k42_ := hr4.symm.trans hr2); exact sd) (by (try have kn2_ := ix_lt hr2); (try have kn3_ := ix_lt hr3); (try have kp_ := ix_pos hl_ix hr3 (by omega)); (try have kn4_ := ix_lt hr4); (try have k42_ := hr4.symm.trans hr2); exact sd)) rfl {} (TQ.r 19 [] [(52, .pointer (some ((Ix A_c_Fixes (r4.toNat * 3)).add 1)))] {} (TQ.v (sV (Instr.loadAt 33 (.pointer (some ((Ix A_c_Fixes (r4.toNat * 3)).add 1))))) 53 (P.v ((c.Fixes[r4.toNat]?.getD Fix.zero).At)) (fun w hM => run_load_agg (n := 2) (off := 1) (i := r4.toNat) (P.v ((c.Fixes[r4.toNat]?.getD Fix.zero).At)) (h_c_Fixes.sat hM) (map_at (getD_at _ _ Fix.zero (by (try have kn2_ := ix_lt hr2); (try have kn3_ := ix_lt hr3); (try have kp_ := ix_pos hl_ix hr3 (by omega)); (try have kn4_ := ix_lt hr4); (try have k42_ := hr4.symm.trans hr2); exact sd))) Kr Kr Kr) rfl {} (TQ.c 54 (plane_Distance ((c.Fixes[r3.toNat]?.getD Fix.zero).At) ((c.Fixes[r4.toNat]?.getD Fix.zero).At)) (fun r5 => .tuple #[.i r5.1, .i r5.2]) (fun w _ => plane_Distance_w ((c.Fixes[r3.toNat]?.getD Fix.zero).At) ((c.Fixes[r4.toNat]?.getD Fix.zero).At) w) rfl {} (fun r5 hr5 => TQ.r 26 [] [(11, .i r5.2)] {} (TQ.next rfl (TC.region (TL.r 4 [] [(7, .i (w64 (n + r5.2)))] {} (TL.done rfl (TE.nb (TE.next (TC.region (TL.r 2 [] [(22, .i (w64 ((k : Int) + 1)))] {} (TL.done rfl (TE.rw 22 (.i (w64 ((k : Int) + 1))) (.i ((k + 1 : Nat) : Int)) Kr (w64_cast k (by (try have kn2_ := ix_lt hr2); (try have kn3_ := ix_lt hr3); (try have kp_ := ix_pos hl_ix hr3 (by omega)); (try have kn4_ := ix_lt hr4); (try have k42_ := hr4.symm.trans hr2); omega)) (TE.again (x := (k, n)) (k + 1, w64 (n + r5.2)) ⟨by omega, hI.trans (by subst hr1 hr2 hr3 hr4 hr5; rw [hd]; exact cond_f h4 (cond_t h5 (rfl))), (ix_step hl_ix hx hr2 ‹_›)⟩ (mN hlt) Kr (sb 1))))))))))))))))))))))))))))
            · have q5_0 := (dec_f h5)
              exact TC.skip (TE.nb (TE.next (TC.region (TL.r 2 [] [(22, .i (w64 ((k : Int) + 1)))] {} (TL.done rfl (TE.rw 22 (.i (w64 ((k : Int) + 1))) (.i ((k + 1 : Nat) : Int)) Kr (w64_cast k (by (try have kn2_ := ix_lt hr2); (try have kn3_ := ix_lt hr3); (try have kp_ := ix_pos hl_ix hr3 (by omega)); (try have kn4_ := ix_lt hr4); (try have k42_ := hr4.symm.trans hr2); omega)) (TE.again (x := (k, n)) (k + 1, n) ⟨by omega, hI.trans (by subst hr1 hr2; rw [hd]; exact cond_f h4 (cond_f h5 (rfl))), (ix_step hl_ix hx hr2 ‹_›)⟩ (mN hlt) Kr (sb 1))))))))
        · have hd := dropN h3
          refine TC.exit (TE.et (TE.et (TE.exit_same ?_)))
          exact TE.cut n (hI.trans (by subst hr1; rw [hd]; exact rfl)) Kr (sb 0)
      · rintro n_2 hJ
        exact TE.nr (TL.r 3 [] [(4, .i n_2), (5, .i 0)] {} (TL.next rfl (TC.ret (TE.ret [] (.tuple #[.i n_2, .i 0]) {} (by unfold chart_Length; refine eS (a := (n_2, 0)) (fun (z : Int × Int) => (.tuple #[.i z.1, .i z.2] : Value)) ?_; subst hr1; exact cond_f h1 (cond_f h2 (elim_l (hR.symm.trans hJ) (rfl))))))))
end Go.Sky
end
section
namespace Go.Sky
open Go Go.Eng
def kle (a b : item) : Prop := a.priority < b.priority ∨ a.priority = b.priority ∧ a.number ≤ b.number
theorem kle_refl (a : item) : kle a a := .inr ⟨rfl, Int.le_refl _⟩
theorem kle_trans {a b c : item} (h : kle a b) (h2 : kle b c) : kle a c := by unfold kle at *; omega
theorem kle_pri {a b : item} (h : kle a b) : a.priority ≤ b.priority := by unfold kle at h; omega
theorem bef_t {a b : item} (h : heapq_item_int_before a b = true) : kle a b := by
  unfold heapq_item_int_before at h
  unfold kle
  cases h1 : decide (a.priority < b.priority) with
  | true => exact .inl (of_decide_eq_true h1)
  | false =>
    rw [h1, cond_false] at h
    cases h2 : (a.priority == b.priority) with
    | true =>
      rw [h2, cond_true] at h
      have := of_decide_eq_true h
      have e : a.priority = b.priority := by simpa using h2
      omega
    | false => rw [h2, cond_false] at h; cases h
theorem bef_f {a b : item} (h : heapq_item_int_before a b = false) : kle b a := by
  unfold heapq_item_int_before at h
  unfold kle
  cases h1 : decide (a.priority < b.priority) with
  | true => rw [h1, cond_true] at h; cases h
  | false =>
    rw [h1, cond_false] at h
    have g1 := of_decide_eq_false h1
    cases h2 : (a.priority == b.priority) with
    | true =>
      rw [h2, cond_true] at h
      have := of_decide_eq_false h
      have e : a.priority = b.priority := by simpa using h2
      omega
    | false =>
      have e : a.priority ≠ b.priority := by simpa using h2
      omega
abbrev gi (l : List item) (i : Nat) : item := l[i]?.getD item.zero
theorem gi_get {l : List item} {i : Nat} (h : i < l.length) : gi l i = l[i] := by unfold gi; rw [List.getElem?_eq_getElem h]; rfl
def sw (l : List item) (i j : Nat) : List item := (l.set i (gi l j)).set j (gi l i)
theorem sw_length (l : List item) (i j : Nat) : (sw l i j).length = l.length := by unfold sw; simp only [List.length_set]
theorem sw_get {l : List item} {i j : Nat} (hi : i < l.length) (hj : j < l.length) (k : Nat) : gi (sw l i j) k = if k = j then gi l i else if k = i then gi l j else gi l k := by
  unfold sw
  show (((l.set i (gi l j)).set j (gi l i))[k]?).getD item.zero = _
  by_cases h1 : k = j
  · subst h1
    rw [if_pos rfl, List.getElem?_set_self (by rw [List.length_set]; exact hj)]
    rfl
  · rw [if_neg h1, List.getElem?_set_ne (fun e => h1 e.symm)]
    by_cases h2 : k = i
    · subst h2
      rw [if_pos rfl, List.getElem?_set_self hi]
      rfl
    · rw [if_neg h2, List.getElem?_set_ne (fun e => h2 e.symm)]
theorem sw_perm {l : List item} {i j : Nat} (hi : i < l.length) (hj : j < l.length) : (sw l i j).Perm l := by
  rw [List.perm_iff_count]
  intro a
  unfold sw
  rw [List.count_set (by rw [List.length_set]; exact hj), List.count_set hi, gi_get hi, gi_get hj, List.getElem_set]
  have c1 : (l[i] == a) = true → 0 < l.count a := fun h => List.count_pos_iff.2 (by rw [← eq_of_beq h]; exact List.getElem_mem hi)
  have c2 : (l[j] == a) = true → 0 < l.count a := fun h => List.count_pos_iff.2 (by rw [← eq_of_beq h]; exact List.getElem_mem hj)
  by_cases h : i = j
  · subst h
    rw [if_pos rfl]
    cases h1 : (l[i] == a)
    · simp
    · have := c1 h1; simp only [if_true]; omega
  · rw [if_neg h]
    cases h1 : (l[i] == a) <;> cases h2 : (l[j] == a) <;> simp only [if_true, Bool.false_eq_true, if_false]
    · omega
    · have := c2 h2; omega
    · have := c1 h1; omega
    · have := c1 h1; omega
def Hp (l : List item) : Prop := ∀ c, 0 < c → c < l.length → kle (gi l ((c - 1) / 2)) (gi l c)
theorem hp_root {l : List item} (h : Hp l) : ∀ (n c : Nat), c ≤ n → c < l.length → kle (gi l 0) (gi l c)
  | 0, c, hn, hc => by rw [show c = 0 by omega]; exact kle_refl _
  | n + 1, c, hn, hc => by
    by_cases h0 : c = 0
    · subst h0; exact kle_refl _
    · exact kle_trans (hp_root h n ((c - 1) / 2) (by omega) (by omega)) (h c (by omega) hc)
theorem hp_min {l : List item} (h : Hp l) {x : item} (hx : x ∈ l) : kle (gi l 0) x := by
  obtain ⟨c, hc, rfl⟩ := List.mem_iff_getElem.1 hx
  have := hp_root h c c (Nat.le_refl _) hc
  rwa [gi_get hc] at this
structure Up (l : List item) (i : Nat) : Prop where
  lt : i < l.length
  oth : ∀ c, 0 < c → c < l.length → c ≠ i → kle (gi l ((c - 1) / 2)) (gi l c)
  kid : ∀ c, 0 < c → c < l.length → (c - 1) / 2 = i → 0 < i → kle (gi l ((i - 1) / 2)) (gi l c)
theorem up_step {l : List item} {i : Nat} (h : Up l i) (hi : 0 < i) (hb : kle (gi l i) (gi l ((i - 1) / 2))) : Up (sw l i ((i - 1) / 2)) ((i - 1) / 2) := by
  have hu : (i - 1) / 2 < l.length := by have := h.lt; omega
  have hl := h.lt
  refine ⟨by rw [sw_length]; exact hu, fun c h0 hc hne => ?_, fun c h0 hc hp hup => ?_⟩
  · rw [sw_length] at hc
    rw [sw_get hl hu, sw_get hl hu]
    rw [if_neg hne]
    by_cases hci : c = i
    · subst hci
      rw [if_pos rfl, if_pos rfl]
      exact hb
    · rw [if_neg hci]
      by_cases hpu : (c - 1) / 2 = (i - 1) / 2
      · rw [if_pos hpu]
        exact kle_trans hb (by rw [← hpu]; exact h.oth c h0 hc hci)
      · rw [if_neg hpu]
        by_cases hpi : (c - 1) / 2 = i
        · rw [if_pos hpi]
          exact h.kid c h0 hc hpi hi
        · rw [if_neg hpi]
          exact h.oth c h0 hc hci
  · rw [sw_length] at hc
    rw [sw_get hl hu, sw_get hl hu]
    have hne : ((i - 1) / 2 - 1) / 2 ≠ (i - 1) / 2 := by omega
    have hne2 : ((i - 1) / 2 - 1) / 2 ≠ i := by omega
    have hnu : c ≠ (i - 1) / 2 := by omega
    rw [if_neg hne, if_neg hne2, if_neg hnu]
    have hgp := h.oth ((i - 1) / 2) hup hu (by omega)
    by_cases hci : c = i
    · rw [if_pos hci]
      exact hgp
    · rw [if_neg hci]
      exact kle_trans hgp (by rw [← hp]; exact h.oth c h0 hc hci)
theorem up_end {l : List item} {i : Nat} (h : Up l i) (he : i = 0 ∨ kle (gi l ((i - 1) / 2)) (gi l i)) : Hp l := fun c h0 hc => by
  by_cases hci : c = i
  · subst hci
    rcases he with rfl | he
    · omega
    · exact he
  · exact h.oth c h0 hc hci
theorem push_run {q : Queue} : ∀ (m : Nat) (i : Nat) (xs : List item), Up xs i → i ≤ m → xs.length ≤ 1001 →
    ∃ ys : List item, ys.Perm xs ∧ Hp ys ∧ (heapq_Queue_int_Push_L1 q (m + 1) (i : Int) xs = some (.inl ys) ∨ heapq_Queue_int_Push_L1 q (m + 1) (i : Int) xs = some (.inr ⟨ys, w64 (q.next + 1)⟩))
  | m, i, xs, h, hm, hl => by
    have hlt := h.lt
    unfold heapq_Queue_int_Push_L1
    by_cases hi : 0 < i
    · rw [decide_eq_true (show (i : Int) > 0 by omega), cond_true]
      have u := up_in (i := (i : Int)) (by omega)
      have e1 : w64 ((w64 ((i : Int) - 1)).tdiv 2) = (((i - 1) / 2 : Nat) : Int) := by rw [u.1]; omega
      simp only [e1, Int.toNat_natCast]
      cases hb : heapq_item_int_before (xs[i]?.getD item.zero) (xs[(i - 1) / 2]?.getD item.zero) with
      | false =>
        exact ⟨xs, .refl _, up_end h (.inr (bef_f hb)), .inr rfl⟩
      | true =>
        obtain ⟨m, rfl⟩ : ∃ k, m = k + 1 := ⟨m - 1, by omega⟩
        obtain ⟨ys, y1, y2, y3⟩ := push_run (q := q) m ((i - 1) / 2) (sw xs i ((i - 1) / 2)) (up_step h hi (bef_t hb)) (by omega) (by rw [sw_length]; exact hl)
        exact ⟨ys, y1.trans (sw_perm hlt (by omega)), y2, y3⟩
    · rw [decide_eq_false (show ¬ (i : Int) > 0 by omega), cond_false]
      exact ⟨xs, .refl _, up_end h (.inl (by omega)), .inl rfl⟩
theorem push_is {q : Queue} {p v : Int} (hl : q.heap.length ≤ 1000) (hn : 0 ≤ q.next ∧ q.next ≤ 1000) (hp : Hp q.heap) :
    (heapq_Queue_int_Push q p v).next = q.next + 1 ∧ (heapq_Queue_int_Push q p v).heap.Perm (q.heap ++ [⟨p, q.next, v⟩]) ∧ Hp (heapq_Queue_int_Push q p v).heap := by
  have hup : Up (q.heap ++ [(⟨p, q.next, v⟩ : item)]) q.heap.length := by
    refine ⟨by simp, fun c h0 hc hne => ?_, fun c h0 hc hpar _ => ?_⟩
    · rw [List.length_append, List.length_singleton] at hc
      have hc2 : c < q.heap.length := by omega
      have a1 : gi (q.heap ++ [(⟨p, q.next, v⟩ : item)]) c = gi q.heap c := by unfold gi; rw [List.getElem?_append_left hc2]
      have a2 : gi (q.heap ++ [(⟨p, q.next, v⟩ : item)]) ((c - 1) / 2) = gi q.heap ((c - 1) / 2) := by unfold gi; rw [List.getElem?_append_left (by omega)]
      rw [a1, a2]
      exact hp c h0 hc2
    · rw [List.length_append, List.length_singleton] at hc; omega
  obtain ⟨ys, y1, y2, y3⟩ := push_run (q := q) q.heap.length q.heap.length (q.heap ++ [⟨p, q.next, v⟩]) hup (Nat.le_refl _) (by rw [List.length_append, List.length_singleton]; omega)
  have e : heapq_Queue_int_Push q p v = ⟨ys, q.next + 1⟩ := by
    unfold heapq_Queue_int_Push
    rw [push_first hl]
    rcases y3 with y3 | y3 <;> rw [y3] <;> simp only [Option.getD_some, Sum.elim_inl, Sum.elim_inr] <;> rw [w64_id (by omega)]
  rw [e]
  exact ⟨rfl, y1, y2⟩
structure Dn (l : List item) (i : Nat) : Prop where
  oth : ∀ c, 0 < c → c < l.length → (c - 1) / 2 ≠ i → kle (gi l ((c - 1) / 2)) (gi l c)
  kid : ∀ c, 0 < c → c < l.length → (c - 1) / 2 = i → 0 < i → kle (gi l ((i - 1) / 2)) (gi l c)
def stp (xs : List item) (c : Nat) (least : Nat) : Nat := if c < xs.length ∧ heapq_item_int_before (gi xs c) (gi xs least) = true then c else least
theorem pop_L2_is {i : Nat} {xs : List item} (h : i ≤ 1000) : heapq_Queue_int_Pop_L2 (i : Int) xs (2 : Int).toNat 0 (i : Int) = ((stp xs (2 * i + 2) (stp xs (2 * i + 1) i) : Nat) : Int) := by
  have one : ∀ (k c : Nat) (least m : Nat), ([w64 ((w64 (2 * (i : Int))) + 1), w64 ((w64 (2 * (i : Int))) + 2)] : List Int)[k]?.getD 0 = (c : Int) → heapq_Queue_int_Pop_L2 (i : Int) xs (m + 1) k (least : Int) = heapq_Queue_int_Pop_L2 (i : Int) xs m (k + 1) ((stp xs c least : Nat) : Int) := fun k c least m hc => by
    conv => lhs; unfold heapq_Queue_int_Pop_L2
    simp only [hc, Int.toNat_natCast]
    unfold stp gi
    by_cases h1 : c < xs.length
    · rw [decide_eq_true (show (c : Int) < (xs.length : Int) by omega), cond_true]
      cases h2 : heapq_item_int_before (xs[c]?.getD item.zero) (xs[least]?.getD item.zero) with
      | true => rw [if_pos ⟨h1, rfl⟩]; rfl
      | false => rw [if_neg (fun g => by cases g.2)]; rfl
    · rw [decide_eq_false (show ¬ (c : Int) < (xs.length : Int) by omega), cond_false, if_neg (fun g => h1 g.1)]
  have w1 : w64 ((w64 (2 * (i : Int))) + 1) = ((2 * i + 1 : Nat) : Int) := by rw [w64_id (x := 2 * (i : Int)) (by omega), w64_id (by omega)]; omega
  have w2 : w64 ((w64 (2 * (i : Int))) + 2) = ((2 * i + 2 : Nat) : Int) := by rw [w64_id (x := 2 * (i : Int)) (by omega), w64_id (by omega)]; omega
  show heapq_Queue_int_Pop_L2 (i : Int) xs (1 + 1) 0 (i : Int) = _
  rw [one 0 (2 * i + 1) i 1 (by rw [w1]; rfl), one 1 (2 * i + 2) _ 0 (by rw [w2]; rfl)]
  rfl
theorem stp_cases (xs : List item) (c least : Nat) : (stp xs c least = least ∧ (c < xs.length → kle (gi xs least) (gi xs c))) ∨ (stp xs c least = c ∧ c < xs.length ∧ kle (gi xs c) (gi xs least)) := by
  unfold stp
  by_cases h : c < xs.length ∧ heapq_item_int_before (gi xs c) (gi xs least) = true
  · rw [if_pos h]; exact .inr ⟨rfl, h.1, bef_t h.2⟩
  · rw [if_neg h]
    refine .inl ⟨rfl, fun hc => ?_⟩
    cases hb : heapq_item_int_before (gi xs c) (gi xs least) with
    | true => exact absurd ⟨hc, hb⟩ h
    | false => exact bef_f hb
theorem least_is {xs : List item} {i s : Nat} (hs : s = stp xs (2 * i + 2) (stp xs (2 * i + 1) i)) : (s = i ∨ (s = 2 * i + 1 ∨ s = 2 * i + 2) ∧ s < xs.length) ∧ kle (gi xs s) (gi xs i) ∧ ∀ c, 0 < c → c < xs.length → (c - 1) / 2 = i → kle (gi xs s) (gi xs c) := by
  have kids : ∀ c, 0 < c → (c - 1) / 2 = i → c = 2 * i + 1 ∨ c = 2 * i + 2 := fun c h0 hc => by omega
  rcases stp_cases xs (2 * i + 1) i with ⟨e1, a1⟩ | ⟨e1, l1, a1⟩ <;> rw [e1] at hs <;> rcases stp_cases xs (2 * i + 2) (stp xs (2 * i + 1) i) with ⟨e2, a2⟩ | ⟨e2, l2, a2⟩ <;> rw [e1] at e2 a2 <;> rw [e2] at hs <;> subst hs
  · exact ⟨.inl rfl, kle_refl _, fun c h0 hc hp => by rcases kids c h0 hp with rfl | rfl; exact a1 hc; exact a2 hc⟩
  · exact ⟨.inr ⟨.inr rfl, l2⟩, a2, fun c h0 hc hp => by rcases kids c h0 hp with rfl | rfl; exact kle_trans a2 (a1 hc); exact kle_refl _⟩
  · exact ⟨.inr ⟨.inl rfl, l1⟩, a1, fun c h0 hc hp => by rcases kids c h0 hp with rfl | rfl; exact kle_refl _; exact a2 hc⟩
  · exact ⟨.inr ⟨.inr rfl, l2⟩, kle_trans a2 a1, fun c h0 hc hp => by rcases kids c h0 hp with rfl | rfl; exact a2; exact kle_refl _⟩
theorem dn_end {l : List item} {i : Nat} (h : Dn l i) (hk : ∀ c, 0 < c → c < l.length → (c - 1) / 2 = i → kle (gi l i) (gi l c)) : Hp l := fun c h0 hc => by
  by_cases hp : (c - 1) / 2 = i
  · rw [hp]; exact hk c h0 hc hp
  · exact h.oth c h0 hc hp
theorem dn_step {l : List item} {i s : Nat} (h : Dn l i) (hs : s = 2 * i + 1 ∨ s = 2 * i + 2) (hl : s < l.length) (hi : kle (gi l s) (gi l i)) (hk : ∀ c, 0 < c → c < l.length → (c - 1) / 2 = i → kle (gi l s) (gi l c)) : Dn (sw l i s) s := by
  have hil : i < l.length := by omega
  refine ⟨fun c h0 hc hne => ?_, fun c h0 hc hp _ => ?_⟩
  · rw [sw_length] at hc
    rw [sw_get hil hl, sw_get hil hl, if_neg hne]
    by_cases hpi : (c - 1) / 2 = i
    · rw [if_pos hpi]
      by_cases hcs : c = s
      · rw [if_pos hcs]; exact hi
      · rw [if_neg hcs, if_neg (by omega)]; exact hk c h0 hc hpi
    · rw [if_neg hpi, if_neg (by omega)]
      by_cases hci : c = i
      · rw [if_pos hci]
        have := h.kid s (by omega) hl (by omega) (by omega)
        rwa [hci]
      · rw [if_neg hci]
        exact h.oth c h0 hc hpi
  · rw [sw_length] at hc
    have e : (s - 1) / 2 = i := by omega
    rw [sw_get hil hl, sw_get hil hl, e, if_neg (by omega), if_pos rfl, if_neg (by omega), if_neg (by omega)]
    have := h.oth c h0 hc (by omega)
    rwa [hp] at this
theorem pop_run {q : Queue} : ∀ (m : Nat) (i : Nat) (xs : List item), Dn xs i → xs.length - i ≤ m → i ≤ 1000 → xs.length ≤ 1000 →
    ∃ ys : List item, ys.Perm xs ∧ Hp ys ∧ heapq_Queue_int_Pop_L1 q (m + 1) (i : Int) xs = some (.inr ((q.heap[0]?.getD item.zero).priority, (q.heap[0]?.getD item.zero).value, true, ⟨ys, q.next⟩))
  | m, i, xs, h, hm, h1, hl => by
    unfold heapq_Queue_int_Pop_L1 bindv
    rw [pop_L2_is h1]
    obtain ⟨s, hs⟩ : ∃ s, s = stp xs (2 * i + 2) (stp xs (2 * i + 1) i) := ⟨_, rfl⟩
    obtain ⟨c1, c2, c3⟩ := least_is hs
    rw [← hs]
    simp only [Int.toNat_natCast]
    by_cases he : s = i
    · rw [show ((s : Int) == (i : Int)) = true by rw [he]; exact beq_self_eq_true _, cond_true]
      exact ⟨xs, .refl _, dn_end h (by rw [← he]; intro c h0 hc hp; exact c3 c h0 hc (by rw [hp, he])), rfl⟩
    · rw [show ((s : Int) == (i : Int)) = false by simpa using (fun e => he (by omega)), cond_false]
      rcases c1 with c1 | ⟨c1, c4⟩
      · exact absurd c1 he
      · obtain ⟨m, rfl⟩ : ∃ k, m = k + 1 := ⟨m - 1, by omega⟩
        obtain ⟨ys, y1, y2, y3⟩ := pop_run (q := q) m s (sw xs i s) (dn_step h c1 c4 c2 c3) (by rw [sw_length]; omega) (by omega) (by rw [sw_length]; exact hl)
        exact ⟨ys, y1.trans (sw_perm (by omega) c4), y2, y3⟩
theorem pop_first {l : List item} (h : 0 < l.length) : l.Perm (gi l 0 :: (((l.set 0 (gi l (l.length - 1))).set (l.length - 1) item.zero).take (l.length - 1))) := by
  have e : ((l.set 0 (gi l (l.length - 1))).set (l.length - 1) item.zero).take (l.length - 1) = (l.set 0 (gi l (l.length - 1))).take (l.length - 1) := List.take_set_of_le (Nat.le_refl _)
  rw [e]
  cases l with
  | nil => exact absurd h (Nat.lt_irrefl _)
  | cons a t =>
    show (a :: t).Perm (a :: _)
    refine .cons _ ?_
    rw [List.set_cons_zero, List.length_cons, Nat.add_sub_cancel]
    rcases Nat.eq_zero_or_pos t.length with h0 | h0
    · rw [List.length_eq_zero_iff.1 h0]; exact .refl _
    · obtain ⟨b, s, rfl⟩ : ∃ b s, t = s ++ [b] := ⟨_, _, (List.dropLast_concat_getLast (List.ne_nil_of_length_pos h0)).symm⟩
      have eb : gi (a :: (s ++ [b])) (s ++ [b]).length = b := by
        unfold gi
        rw [List.length_append, List.length_singleton, List.getElem?_cons_succ, List.getElem?_append_right (Nat.le_refl _), Nat.sub_self]
        rfl
      rw [eb, List.length_append, List.length_singleton, List.take_succ_cons, List.take_left]
      exact List.perm_append_singleton b s
theorem pop_dn {l : List item} (h : 0 < l.length) (hp : Hp l) : Dn (((l.set 0 (gi l (l.length - 1))).set (l.length - 1) item.zero).take (l.length - 1)) 0 := by
  have e : ((l.set 0 (gi l (l.length - 1))).set (l.length - 1) item.zero).take (l.length - 1) = (l.set 0 (gi l (l.length - 1))).take (l.length - 1) := List.take_set_of_le (Nat.le_refl _)
  rw [e]
  refine ⟨fun c h0 hc hne => ?_, fun c h0 hc hp h1 => absurd h1 (Nat.lt_irrefl _)⟩
  rw [List.length_take, List.length_set] at hc
  have g : ∀ k, 0 < k → k < l.length - 1 → gi ((l.set 0 (gi l (l.length - 1))).take (l.length - 1)) k = gi l k := fun k k0 hk => by
    unfold gi
    rw [List.getElem?_take_of_lt hk, List.getElem?_set, if_neg (by omega)]
  rw [g c h0 (by omega), g _ (by omega) (by omega)]
  exact hp c h0 (by omega)
theorem pop_is {q : Queue} (h : 0 < q.heap.length) (hl : q.heap.length ≤ 1000) (hp : Hp q.heap) :
    ∃ (x : item) (ys : List item), heapq_Queue_int_Pop q = (x.priority, x.value, true, ⟨ys, q.next⟩) ∧ q.heap.Perm (x :: ys) ∧ Hp ys ∧ (∀ y ∈ ys, kle x y) := by
  have hf := pop_first h
  have hln : (((q.heap.set 0 (gi q.heap (q.heap.length - 1))).set (q.heap.length - 1) item.zero).take (q.heap.length - 1)).length = q.heap.length - 1 := by simp only [List.length_take, List.length_set]; omega
  obtain ⟨ys, y1, y2, y3⟩ := pop_run (q := q) q.heap.length 0 _ (pop_dn h hp) (by rw [hln]; omega) (by decide) (by rw [hln]; omega)
  refine ⟨gi q.heap 0, ys, ?_, hf.trans (y1.symm.cons _), y2, fun y hy => hp_min hp ?_⟩
  · unfold heapq_Queue_int_Pop
    rw [show ((q.heap.length : Int) == 0) = false from beq_false_of_ne (by omega), cond_false]
    have y4 : heapq_Queue_int_Pop_L1 q (q.heap.length + 1) 0 (((q.heap.set 0 (q.heap[(q.heap.length - 1)]?.getD item.zero)).set (q.heap.length - 1) (⟨0, 0, 0⟩ : item)).take (q.heap.length - 1)) = _ := y3
    rw [y4]
    rfl
  · exact hf.mem_iff.2 (List.mem_cons_of_mem _ (y1.mem_iff.1 hy))
end Go.Sky
end
section
namespace Go.Sky
open Go Go.Eng
abbrev lk (n : net) (k : Nat) : List Int := n.links[k]?.getD []
abbrev lg (n : net) (k : Nat) : List Int := n.long[k]?.getD []
structure NetOk (n : net) : Prop where
  n1 : 1 ≤ n.names.length
  n7 : n.names.length ≤ 7
  ll : n.links.length = n.names.length
  lo : n.long.length = n.names.length
  row : ∀ k, k < n.names.length → (lk n k).length = (lg n k).length ∧ (lk n k).length ≤ 32
  rng : ∀ k, k < n.names.length → ∀ m ∈ lk n k, 0 ≤ m ∧ m < (n.names.length : Int)
  pos : ∀ k, k < n.names.length → ∀ d ∈ lg n k, 1 ≤ d ∧ d ≤ 3000000
def cnt (out : List Int) : Nat := out.countP fun x => decide (0 ≤ x)
theorem cnt_le (out : List Int) : cnt out ≤ out.length := List.countP_le_length
theorem cnt_set {out : List Int} {k : Nat} {d : Int} (hk : k < out.length) (h : out[k]?.getD 0 < 0) (hd : 0 ≤ d) : cnt (out.set k d) = cnt out + 1 := by
  rw [List.getElem?_eq_getElem hk, Option.getD_some] at h
  unfold cnt
  rw [List.countP_set hk, if_neg (by simpa using h), if_pos (by simpa using hd)]
  omega
def ItOk (n : net) (P : Int) (hp : List item) : Prop := ∀ it ∈ hp, 0 ≤ it.value ∧ it.value < (n.names.length : Int) ∧ 0 ≤ it.priority ∧ it.priority ≤ P
structure LenInv (n : net) (out : List Int) (next : Int) (hp : List item) : Prop where
  len : out.length = n.names.length
  ord : Hp hp
  le : (hp.length : Int) ≤ next
  nx : next ≤ 1 + 32 * (cnt out : Int)
  it : ItOk n (3000000 * (cnt out : Int)) hp
structure LenIn (n : net) (out : List Int) (k : Nat) (next : Int) (hp : List item) : Prop where
  len : out.length = n.names.length
  ord : Hp hp
  le : (hp.length : Int) ≤ next
  nx : next ≤ 1 + 32 * ((cnt out : Int) - 1) + (k : Int)
  it : ItOk n (3000000 * (cnt out : Int)) hp
theorem LenInv.small {n : net} (hN : NetOk n) {out : List Int} {next : Int} {hp : List item} (h : LenInv n out next hp) : hp.length ≤ 1000 ∧ 0 ≤ next ∧ next ≤ 1000 := by
  have := cnt_le out
  have := hN.n7
  have := h.len
  have := h.le
  have := h.nx
  omega
theorem LenIn.small {n : net} (hN : NetOk n) {out : List Int} {k : Nat} {next : Int} {hp : List item} (h : LenIn n out k next hp) (hk : k ≤ 32) : hp.length ≤ 1000 ∧ 0 ≤ next ∧ next ≤ 1000 := by
  have := cnt_le out
  have := hN.n7
  have := h.len
  have := h.le
  have := h.nx
  omega
structure LenMid (n : net) (out : List Int) (r : Int × Int × Bool × Queue) : Prop where
  inv : LenInv n out r.2.2.2.next r.2.2.2.heap
  v0 : 0 ≤ r.2.1
  v1 : r.2.1 < (n.names.length : Int)
  p0 : 0 ≤ r.1
  p1 : r.1 ≤ 3000000 * (cnt out : Int)
theorem len_pop {n : net} (hN : NetOk n) {out : List Int} {next : Int} {hp : List item} {r4 : Int} {r : Int × Int × Bool × Queue} (h : LenInv n out next hp) (h4 : heapq_Queue_int_Len ⟨hp, next⟩ = r4) (hg : decide (r4 > 0) = true) (hr : heapq_Queue_int_Pop ⟨hp, next⟩ = r) :
    LenMid n out r ∧ r.2.2.2.next = next ∧ r.2.2.2.heap.length + 1 = hp.length := by
  have hpos : 0 < hp.length := by
    have := of_decide_eq_true hg
    have e : r4 = (hp.length : Int) := h4.symm
    omega
  have hs := h.small hN
  obtain ⟨x, ys, e, p, p2, p3⟩ := pop_is (q := ⟨hp, next⟩) hpos hs.1 h.ord
  rw [e] at hr
  subst hr
  have hl := p.length_eq
  rw [List.length_cons] at hl
  have hx := h.it x (p.mem_iff.2 (List.mem_cons_self ..))
  refine ⟨⟨⟨h.len, p2, ?_, h.nx, fun y hy => h.it y (p.mem_iff.2 (List.mem_cons_of_mem _ hy))⟩, hx.1, hx.2.1, hx.2.2.1, hx.2.2.2⟩, rfl, hl.symm⟩
  have := h.le
  show (ys.length : Int) ≤ next
  have hl2 : hp.length = ys.length + 1 := hl
  omega
theorem LenMid.start {n : net} {out : List Int} {r : Int × Int × Bool × Queue} (h : LenMid n out r) (hn : decide (out[r.2.1.toNat]?.getD 0 ≥ 0) = false) : LenIn n (out.set r.2.1.toNat r.1) 0 r.2.2.2.next r.2.2.2.heap := by
  have hi := h.inv
  have v0 := h.v0; have v1 := h.v1
  have hlen := hi.len
  have hneg := of_decide_eq_false hn
  have hc := cnt_set (out := out) (k := r.2.1.toNat) (d := r.1) (by omega) (by omega) h.p0
  refine ⟨by rw [List.length_set]; exact hi.len, hi.ord, hi.le, ?_, fun y hy => ?_⟩
  · rw [hc]; have := hi.nx; omega
  · have := hi.it y hy
    rw [hc]
    omega
theorem LenIn.skip {n : net} {out : List Int} {k : Nat} {next : Int} {hp : List item} (h : LenIn n out k next hp) : LenIn n out (k + 1) next hp := ⟨h.len, h.ord, h.le, by have := h.nx; omega, h.it⟩
theorem LenIn.push {n : net} (hN : NetOk n) {out : List Int} {k : Nat} {next : Int} {hp : List item} (h : LenIn n out k next hp) (hk : k < 32) {p v : Int} (hv : 0 ≤ v ∧ v < (n.names.length : Int)) (hp0 : 0 ≤ p ∧ p ≤ 3000000 * (cnt out : Int)) :
    LenIn n out (k + 1) (heapq_Queue_int_Push ⟨hp, next⟩ p v).next (heapq_Queue_int_Push ⟨hp, next⟩ p v).heap ∧ (heapq_Queue_int_Push ⟨hp, next⟩ p v).heap.length = hp.length + 1 := by
  have hs := h.small hN (by omega)
  obtain ⟨a, b, c⟩ := push_is (q := ⟨hp, next⟩) (p := p) (v := v) hs.1 hs.2 h.ord
  have hl := b.length_eq
  rw [List.length_append, List.length_singleton] at hl
  refine ⟨⟨h.len, c, ?_, ?_, fun y hy => ?_⟩, hl⟩
  · rw [a, hl]; have := h.le; show ((hp.length + 1 : Nat) : Int) ≤ next + 1; omega
  · rw [a]; have := h.nx; show next + 1 ≤ _; omega
  · rcases List.mem_append.1 (b.mem_iff.1 hy) with hy | hy
    · exact h.it y hy
    · rw [List.mem_singleton.1 hy]
      exact ⟨hv.1, hv.2, hp0.1, hp0.2⟩
theorem LenIn.done {n : net} {out : List Int} {k : Nat} {next : Int} {hp : List item} (h : LenIn n out k next hp) (hk : k ≤ 32) : LenInv n out next hp := ⟨h.len, h.ord, h.le, by have := h.nx; omega, h.it⟩
theorem LenMid.far {n : net} (hN : NetOk n) {out : List Int} {r : Int × Int × Bool × Queue} (h : LenMid n out r) (hn : decide (out[r.2.1.toNat]?.getD 0 ≥ 0) = false) {k : Nat} (hk : k < (lk n r.2.1.toNat).length) :
    w64 (r.1 + (lg n r.2.1.toNat)[k]?.getD 0) = r.1 + (lg n r.2.1.toNat)[k]?.getD 0 ∧ 1 ≤ (lg n r.2.1.toNat)[k]?.getD 0 ∧ 0 ≤ r.1 + (lg n r.2.1.toNat)[k]?.getD 0 ∧ r.1 + (lg n r.2.1.toNat)[k]?.getD 0 ≤ 3000000 * (cnt (out.set r.2.1.toNat r.1) : Int) := by
  have v0 := h.v0; have v1 := h.v1
  have hlen := h.inv.len
  have hneg := of_decide_eq_false hn
  have hc := cnt_set (out := out) (k := r.2.1.toNat) (d := r.1) (by omega) (by omega) h.p0
  have hrow := hN.row r.2.1.toNat (by omega)
  have hk2 : k < (lg n r.2.1.toNat).length := by omega
  have hd := hN.pos r.2.1.toNat (by omega) ((lg n r.2.1.toNat)[k]) (List.getElem_mem hk2)
  rw [List.getElem?_eq_getElem hk2, Option.getD_some]
  have p0 := h.p0; have p1 := h.p1
  have hcl := cnt_le (out.set r.2.1.toNat r.1)
  rw [List.length_set] at hcl
  have := hN.n7
  rw [w64_id (by omega)]
  refine ⟨rfl, hd.1, by omega, ?_⟩
  rw [hc]
  omega
theorem first_inv {n : net} {to : Int} (ht : 0 ≤ to ∧ to < (n.names.length : Int)) {r1 : List Int} (h1 : r1 = List.replicate n.names.length (-1)) :
    LenInv n r1 (heapq_Queue_int_Push heapq_New_int 0 to).next (heapq_Queue_int_Push heapq_New_int 0 to).heap ∧ (heapq_Queue_int_Push heapq_New_int 0 to).heap = [⟨0, 0, to⟩] := by
  have hq : heapq_Queue_int_Push heapq_New_int 0 to = ⟨[⟨0, 0, to⟩], 1⟩ := by rfl
  rw [hq]
  subst h1
  refine ⟨⟨List.length_replicate, fun c h0 hc => ?_, (by show ((1 : Nat) : Int) ≤ 1; decide), by show (1 : Int) ≤ _; omega, fun y hy => ?_⟩, rfl⟩
  · have hc2 : c < 1 := hc
    omega
  · rw [List.mem_singleton.1 hy]
    exact ⟨ht.1, ht.2, Int.le_refl _, by show (0 : Int) ≤ _; omega⟩
end Go.Sky
end
