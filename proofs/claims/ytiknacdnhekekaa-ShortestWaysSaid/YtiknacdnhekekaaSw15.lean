/- Lemmas toward the given statement (part 15 of 16): Wk Wy Mg. Each theorem states its own conditions; nothing is assumed beyond them. -/
import Derived.Test.YtiknacdnhekekaaSw14
import Derived.Lib.Strings
section
namespace Go.Sky
open Go Go.Eng Go.Proofs
structure WG (res : List Way) where
  A : Option Addr
  cap : Nat
  rows : List WayR
  o : List WayR
  eq : rows.map WayR.p = res
  sub : ∀ r ∈ rows, r ∈ o
  two : rows.length ≤ 2
theorem insK_step {W : Way} {rows : List WayR} {k : Nat} {x : WayR} (h : rows[k]? = some x) : insK W (rows.map WayR.p) (k + 1) = cond (skywayref1_less W x.p) (insK W (rows.map WayR.p) k) (k + 1) := by
  have e : (rows.map WayR.p)[k]?.getD Way.zero = x.p := by rw [List.getElem?_map, h]; rfl
  show cond (skywayref1_less W ((rows.map WayR.p)[k]?.getD Way.zero)) _ _ = _
  rw [e]
theorem ins_eq {W : Way} {rows : List WayR} {k : Nat} {y : WayR} (hy : y.p = W) (hk : k = insK W (rows.map WayR.p) rows.length) : ((rows.take k ++ ([y] ++ rows.drop k)).take 2).map WayR.p = ins_ W (rows.map WayR.p) := by
  unfold ins_
  rw [List.length_map, ← hk, List.map_take, List.map_append, List.map_append, List.map_take, List.map_drop]
  simp [hy]
theorem fix_pos {c : Chart} {x : Fix} (h : x ∈ c.Fixes) : 0 ≤ skywayref1_fix c x.Name := by
  have key : ∀ (xs : List Fix) (k : Nat), x ∈ xs → ∃ j : Nat, skywayref1_fix_L1 x.Name xs k = .inr (j : Int) := by
    intro xs
    induction xs with
    | nil => intro k h; cases h
    | cons y xs ih =>
      intro k h
      unfold skywayref1_fix_L1
      cases e : seq y.Name x.Name with
      | true => exact ⟨k, rfl⟩
      | false =>
        rw [cond_false]
        rcases List.mem_cons.1 h with rfl | h
        · have e2 : seq x.Name x.Name = true := by simp [seq]
          rw [e2] at e; cases e
        · exact ih (k + 1) h
  obtain ⟨j, hj⟩ := key c.Fixes 0 h
  unfold skywayref1_fix
  rw [hj]
  show (0 : Int) ≤ (j : Int)
  omega
theorem sq_iff {a b : ByteArray} : seq a b = true ↔ a = b := by
  unfold seq
  rw [beq_iff_eq, Go.Lib.toList_data, Go.Lib.toList_data]
  exact ⟨fun h => ByteArray.ext (Array.toList_inj.1 h), fun h => by rw [h]⟩
theorem txL {s : ByteArray} : ∀ (l : List ByteArray) (k : Nat), s ∈ l → skywayref1_HasText_L1 s l k = .inr true
  | [], _, h => by cases h
  | y :: l, k, h => by
    unfold skywayref1_HasText_L1
    cases e : seq y s with
    | true => rfl
    | false =>
      rw [cond_false]
      rcases List.mem_cons.1 h with rfl | h
      · rw [sq_iff.2 rfl] at e; cases e
      · exact txL l (k + 1) h
theorem tx_no {l : List ByteArray} {s : ByteArray} (h : skywayref1_HasText l s = false) : s ∉ l := fun hm => by
  unfold skywayref1_HasText at h
  rw [txL l 0 hm] at h
  cases h
theorem nd_le {α : Type} [DecidableEq α] : ∀ (l r : List α), l.Nodup → (∀ s ∈ l, s ∈ r) → l.length ≤ r.length
  | [], _, _, _ => Nat.zero_le _
  | a :: l, r, hn, hs => by
    have ha := hs a (List.mem_cons_self ..)
    have := nd_le l (r.erase a) (List.nodup_cons.1 hn).2 fun s h => (List.mem_erase_of_ne fun e => (List.nodup_cons.1 hn).1 (by rw [← e]; exact h)).2 (hs s (List.mem_cons_of_mem _ h))
    rw [List.length_erase_of_mem ha] at this
    have := List.length_pos_of_mem ha
    rw [List.length_cons]
    omega
theorem names_lt {c : Chart} {l : List ByteArray} (hd : l.Nodup) (hin : ∀ s ∈ l, ∃ x ∈ c.Fixes, x.Name = s) : l.length ≤ c.Fixes.length := by
  have h := nd_le l (c.Fixes.map Fix.Name) hd fun s hs => by
    obtain ⟨x, hx, e⟩ := hin s hs
    exact List.mem_map.2 ⟨x, hx, e⟩
  rwa [List.length_map] at h
set_option maxRecDepth 100000 in
set_option maxHeartbeats 4000000 in
theorem ways_rec {w0 : Ctx} {c : Chart} {to : ByteArray} {at_ ac ak : Addr} {bb : Nat} {A_f : Option Addr} {c_f : Nat} {A_a : Option Addr} {c_a : Nat} {oa : List AirwayR}
    (hto : SRd w0 1 (some at_) [#[.string to]]) (hcb : SRd w0 2 (some ac) [#[.slice A_f c.Fixes.length c_f, .slice A_a c.Airways.length c_a]])
    (hkb : SRd w0 1 (some ak) [#[.func (.func 20) #[] #[.pointer (some at_), .pointer (some ⟨bb, 0, none⟩), .pointer (some ac), .pointer (some ak)]]])
    (hf : SRd w0 3 A_f (c.Fixes.map Fix.c)) (hfl : c.Fixes.length ≤ c_f) (ha : SRd w0 2 A_a (oa.map AirwayR.c)) (hal : c.Airways.length ≤ c_a)
    (hd : ∀ {M : Mem} {w : World}, Sat w0 M w → ∀ s ∈ (oa.map AirwayR.Fixes), s.rd w 1 sc) (he : c.Airways = oa.map AirwayR.p) (h7 : c.Fixes.length ≤ 7) :
    ∀ (m : Nat) (R : Res) (A_w : Option Addr) (c_w : Nat) (W : Way) (A : Option Addr) (cap : Nat) (rows o : List WayR) (w : World), W.Names.length + m = 9 → 1 ≤ W.Names.length → W.Names.Nodup → (∀ s ∈ W.Names, ∃ x ∈ c.Fixes, x.Name = s) →
      (∀ r ∈ rows, r ∈ o) → rows.length ≤ 2 → Sat w0 [.inr (Own A_w c_w 9 1 (W.Names.map sc)), .inl (bb, .cells #[.slice A rows.length cap] 36 (0, 0)), .inr (Own A cap 39 2 (rows.map WayR.c)), .inr (Bag 9 1 sc (o.map WayR.Names)), .inr R] w →
      Calls Try.prog 20 #[.agg #[.slice A_w W.Names.length c_w, .int .i64 W.Length], .pointer (some at_), .pointer (some ⟨bb, 0, none⟩), .pointer (some ac), .pointer (some ak)] w (RetM (Γ := WG (ways1 c to m W (rows.map WayR.p))) w0 (fun _ => .tuple #[]) (fun g => [.inr (Own A_w c_w 9 1 (W.Names.map sc)), .inl (bb, .cells #[.slice g.A g.rows.length g.cap] 36 (0, 0)), .inr (Own g.A g.cap 39 2 (g.rows.map WayR.c)), .inr (Bag 9 1 sc (g.o.map WayR.Names)), .inr R])) := by
  intro m
  induction m with
  | zero =>
    intro R A_w c_w W A cap rows o w hlen _ hnd hin _ _ _
    have := names_lt hnd hin
    omega
  | succ m ih =>
  intro R A_w c_w W A cap rows o w hlen h1w hnd hin hro hr2 hM
  obtain ⟨last, hget⟩ : ∃ s, W.Names[W.Names.length - 1]? = some s := ⟨_, List.getElem?_eq_getElem (by omega)⟩
  have hlast : W.Names[W.Names.length - 1]?.getD (⟨#[]⟩ : ByteArray) = last := by rw [hget]; rfl
  have hmem : last ∈ W.Names := List.mem_of_getElem? hget
  have hw1 : ways1 c to (m + 1) W (rows.map WayR.p) = cond (seq last to) (ins_ W (rows.map WayR.p)) (waysF c W last (ways1 c to m) c.Fixes (rows.map WayR.p)) := by
    unfold ways1; rw [hlast]
  refine calls_introW (vs := [.agg #[.slice A_w W.Names.length c_w, .int .i64 W.Length], .pointer (some at_), .pointer (some ⟨bb, 0, none⟩), .pointer (some ac), .pointer (some ak)]) hM Try.func20 rfl Try.ntmps20 rfl ?_
  refine TC.know (fun w hM => hM.le_at 2 rfl) (fun hcap => ?_)
  refine TC.seq ?_
  refine TC.region ?_
  refine TL.nw 5 (fun b5 => .pointer (some ⟨b5, 0, none⟩)) (fun b5 => .inl (b5, .cells #[.slice A_w W.Names.length c_w, .int .i64 W.Length] 39 (0, 0))) (fun b5 => {}) (fun b5 => ?_)
  refine TL.next rfl ?_
  refine TC.seq ?_
  refine TC.region ?_
  refine TL.r 6 [0, 0] [(12, .slice A_w W.Names.length c_w), (16, .int .i64 (w64 ((W.Names.length : Int) - 1)))] {} ?_
  refine TL.rw 16 (.int .i64 (w64 ((W.Names.length : Int) - 1))) (.int .i64 ((W.Names.length - 1 : Nat) : Int)) (by kernel_rfl) (w64_pred _ ⟨h1w, by omega⟩) ?_
  refine TL.v (sV (Instr.indexAt 29 (.slice A_w W.Names.length c_w) (.int .i64 ((W.Names.length - 1 : Nat) : Int)))) 17 (.pointer (some ((A_w.getD noAddr).add ((W.Names.length - 1) * 1)))) (fun w hM => run_index (hM.rd_at 1 rfl) (by simp) (by kernel_rfl) (by omega) (by omega)) {} ?_
  refine TL.v (sV (Instr.loadAt 9 (.pointer (some ((A_w.getD noAddr).add ((W.Names.length - 1) * 1)))))) 18 (.string last) (fun w hM => run_load_one (off := 0) (i := W.Names.length - 1) (.string last) (hM.rd_at 1 rfl) (map_at hget) (by kernel_rfl) (by kernel_rfl)) {} ?_
  refine TL.r 9 [] [(6, .string last)] {} ?_
  refine TL.next rfl ?_
  refine TC.seq ?_
  refine TC.seq ?_
  refine TC.region ?_
  refine TL.r 1 [] [(19, .string last)] {} ?_
  refine TL.v (sV (Instr.loadAt 9 (.pointer (some at_)))) 20 (.string to) (fun w hM => run_load_one (off := 0) (.string to) (hto.sat hM) (rows_one _) (by kernel_rfl) (by kernel_rfl)) {} ?_
  refine TL.r 3 [] [(21, .bool (seq last to))] {} ?_
  refine TL.next rfl ?_
  refine TC.cond (seq last to) rfl (by kernel_rfl) (fun h1 => ?_) (fun h1 => ?_)
  · refine TC.seq ?_
    refine TC.region ?_
    refine TL.r 3 [2] [(7, .int .i64 (rows.length : Int))] {} ?_
    refine TL.next rfl ?_
    refine TC.seq ?_
    refine TC.cut (S := Nat) (fun k => [(2, .pointer (some ⟨bb, 0, none⟩)), (5, .pointer (some ⟨b5, 0, none⟩)), (7, .int .i64 (k : Int))]) (fun _ => [.inl (b5, .cells #[.slice A_w W.Names.length c_w, .int .i64 W.Length] 39 (0, 0)), .inr (Own A_w c_w 9 1 (W.Names.map sc)), .inl (bb, .cells #[.slice A rows.length cap] 36 (0, 0)), .inr (Own A cap 39 2 (rows.map WayR.c)), .inr (Bag 9 1 sc (o.map WayR.Names)), .inr R]) (fun k => k ≤ rows.length ∧ k = insK W (rows.map WayR.p) rows.length) ?_ ?_
    · refine TC.block ?_
      refine TC.lw (X := Nat) (fun k => [(2, .pointer (some ⟨bb, 0, none⟩)), (5, .pointer (some ⟨b5, 0, none⟩)), (7, .int .i64 (k : Int))]) (fun _ => [.inl (b5, .cells #[.slice A_w W.Names.length c_w, .int .i64 W.Length] 39 (0, 0)), .inr (Own A_w c_w 9 1 (W.Names.map sc)), .inl (bb, .cells #[.slice A rows.length cap] 36 (0, 0)), .inr (Own A cap 39 2 (rows.map WayR.c)), .inr (Bag 9 1 sc (o.map WayR.Names)), .inr R]) (fun k => k) (fun k => k ≤ rows.length ∧ insK W (rows.map WayR.p) k = insK W (rows.map WayR.p) rows.length) ?_ rows.length ⟨Nat.le_refl _, rfl⟩ (by kernel_rfl) (sb 63)
      rintro k ⟨hk, hI⟩
      refine TC.seq ?_
      refine TC.seq ?_
      refine TC.draw 11 (by kernel_rfl) (by kernel_rfl) (by kernel_rfl) ?_
      refine TQ.r 3 [] [(26, .bool (decide ((k : Int) > 0)))] {} ?_
      refine TQ.split 26 (decide ((k : Int) > 0)) (by kernel_rfl) (fun h2 => ?_) (fun h2 => ?_)
      · have hk0 : 0 < k := by have := of_decide_eq_true h2; omega
        obtain ⟨x, hx⟩ := elN (l := rows) (k := k - 1) (by omega)
        refine TQ.r 7 [0, 2] [(27, .agg #[.slice A_w W.Names.length c_w, .int .i64 W.Length]), (28, .slice A rows.length cap), (30, .int .i64 (w64 ((k : Int) - 1)))] {} ?_
        refine TQ.rw 30 (.int .i64 (w64 ((k : Int) - 1))) (.int .i64 ((k - 1 : Nat) : Int)) (by kernel_rfl) (w64_pred k ⟨hk0, by omega⟩) ?_
        refine TQ.v (sV (Instr.indexAt 36 (.slice A rows.length cap) (.int .i64 ((k - 1 : Nat) : Int)))) 31 (.pointer (some ((A.getD noAddr).add ((k - 1) * 2)))) (fun w hM => run_index (hM.rd_at 3 rfl) (by simp) (by kernel_rfl) (by omega) (by omega)) rfl {} ?_
        refine TQ.v (sV (Instr.loadAt 39 (.pointer (some ((A.getD noAddr).add ((k - 1) * 2)))))) 32 (.agg #[.slice x.Names.A x.Names.l.length x.Names.cap, .int .i64 x.Length]) (fun w hM => run_load_agg (n := 2) (off := 0) (i := k - 1) (.agg #[.slice x.Names.A x.Names.l.length x.Names.cap, .int .i64 x.Length]) (hM.rd_at 3 rfl) (map_at hx) (by kernel_rfl) (by kernel_rfl) (by kernel_rfl)) rfl {} ?_
        have hxo : x.Names ∈ o.map WayR.Names := List.mem_map_of_mem (hro x (List.mem_of_getElem? hx))
        refine TQ.c 33 (skywayref1_less W x.p) (fun r1 => .bool r1) (fun w hM => skywayref1_less_w W A_w c_w x.p x.Names.A x.Names.cap w (hM.rd_at 1 rfl) (hM.le_at 1 rfl) ((hM.bag_at 4 rfl) x.Names hxo).rd ((hM.bag_at 4 rfl) x.Names hxo).le) rfl {} (fun r1 hr1 => ?_)
        have hK := insK_step (W := W) hx
        rw [show k - 1 + 1 = k by omega, hr1] at hK
        refine TQ.r 11 [] [(34, .bool r1)] {} ?_
        refine TQ.next rfl ?_
        refine TC.cond r1 rfl (by kernel_rfl) (fun h3 => ?_) (fun h3 => ?_)
        · rw [h3, cond_true] at hK
          refine TC.skip ?_
          refine TE.next ?_
          refine TC.block ?_
          refine TC.region ?_
          refine TL.r 3 [] [(7, .int .i64 (w64 ((k : Int) - 1)))] {} ?_
          refine TL.rw 7 (.int .i64 (w64 ((k : Int) - 1))) (.int .i64 ((k - 1 : Nat) : Int)) (by kernel_rfl) (w64_pred k ⟨hk0, by omega⟩) ?_
          refine TL.done rfl ?_
          refine TE.normal_block ?_
          exact TE.again (x := k) (k - 1) ⟨by omega, hK.symm.trans hI⟩ (by omega) (by kernel_rfl) (sb 63)
        · rw [h3, cond_false] at hK
          refine TC.exit ?_
          refine TE.exit_then (TE.exit_then (TE.exit_same ?_))
          exact TE.cut k ⟨hk, hK.symm.trans hI⟩ (by kernel_rfl) (sb 63)
      · have hk0 : k = 0 := by have := of_decide_eq_false h2; omega
        refine TQ.r 11 [] [(34, .bool false)] {} ?_
        refine TQ.next rfl ?_
        refine TC.condF rfl (by kernel_rfl) ?_
        refine TC.exit ?_
        refine TE.exit_then (TE.exit_then (TE.exit_same ?_))
        exact TE.cut k ⟨hk, by rw [← hI, hk0]; rfl⟩ (by kernel_rfl) (sb 63)
    · rintro k ⟨hk, hK⟩
      refine TE.next ?_
      refine TC.seq ?_
      let M6_ : Mem := [.inl (b5, .cells #[.slice A_w W.Names.length c_w, .int .i64 W.Length] 39 (0, 0)), .inr (Own A_w c_w 9 1 (W.Names.map sc)), .inl (bb, .cells #[.slice A rows.length cap] 36 (0, 0)), .inr (Own A cap 39 2 (rows.map WayR.c)), .inr (Bag 9 1 sc (o.map WayR.Names)), .inr R]
      refine TC.plan (G := (Option Addr × Nat) × Nat × Nat) (base := [(2, .pointer (some ⟨bb, 0, none⟩)), (5, .pointer (some ⟨b5, 0, none⟩)), (7, .int .i64 (k : Int))]) (vals := fun γ => [.slice (some ⟨γ.2.2, 0, none⟩) 0 0, .pointer (some ⟨b5, 0, none⟩), .slice A_w W.Names.length c_w, .slice γ.1.1 W.Names.length γ.1.2, .pointer (some ⟨b5, 1, none⟩), .int .i64 W.Length, .agg #[.slice γ.1.1 W.Names.length γ.1.2, .int .i64 W.Length], .pointer (some ⟨γ.2.1, 0, none⟩), undef])
        (writes := [3, 7, 8]) (mem := fun bs γ => match bs with | [x3_, x7_, x8_] => (bif x3_ then [.inr (Own γ.1.1 γ.1.2 9 1 (W.Names.map sc))] else []) ++ ((bif x8_ then [.inl (γ.2.1, .cells #[.slice γ.1.1 W.Names.length γ.1.2, .int .i64 W.Length] 39 (0, 0))] else bif x7_ then [.inl (γ.2.1, .cells #[.slice none 0 0, .int .i64 0] 39 (0, 0))] else []) ++ M6_) | _ => []) ((none, 0), 0, 0)
        (fun γ => [(2, .pointer (some ⟨bb, 0, none⟩)), (7, .int .i64 (k : Int)), (8, .pointer (some ⟨γ.2.1, 0, none⟩))]) (by kernel_rfl) (by kernel_rfl) (by kernel_rfl) (by kernel_rfl) (by kernel_rfl) (fun γ => by kernel_rfl) (fun _ hM => hM) (fun γ => by kernel_rfl) ?_ ?_
      · refine Steps.opX (i := 0) (Γ := Nat) (fun g (γ : (Option Addr × Nat) × Nat × Nat) => (γ.1, γ.2.1, g)) [0, 3, 6, 8] (fun (γ : (Option Addr × Nat) × Nat × Nat) => sV (Instr.buildSlice 29 0 #[])) (some 37) (fun g (γ : (Option Addr × Nat) × Nat × Nat) => .slice (some ⟨g, 0, none⟩) 0 0) (fun S (γ : (Option Addr × Nat) × Nat × Nat) w hi hd hu hM => ?_) (fun (γ : (Option Addr × Nat) × Nat × Nat) => by kernel_rfl) (fun (γ : (Option Addr × Nat) × Nat × Nat) g => by kernel_rfl) (by kernel_rfl) (fun (γ : (Option Addr × Nat) × Nat × Nat) g => by kernel_rfl) ?_
        · obtain ⟨b, w', h1_, h2_⟩ := run_new (P := Try.prog) (w0 := w0) (s := sV (Instr.buildSlice 29 0 #[])) (v := fun b => .slice (some ⟨b, 0, none⟩) 0 0) (o := .cells #[] 9 (0, 0)) (fun b M => by kernel_rfl) _ w hM
          exact ⟨b, w', h1_, h2_.sub (List.sublist_cons_self ..)⟩
        refine Steps.run (i := 1) 3 [0, 0] M6_ (by kernel_rfl) (by kernel_rfl) (fun S (γ : (Option Addr × Nat) × Nat × Nat) w hM => by rw [mS3 rfl rfl rfl] at hM; exact hM.sub (sub_skip (sub_skip (List.Sublist.refl _)))) (by kernel_rfl) (fun (γ : (Option Addr × Nat) × Nat × Nat) => ⟨by kernel_rfl, by kernel_rfl⟩) ?_
        refine Steps.opX (i := 3) (Γ := Option Addr × Nat) (fun g (γ : (Option Addr × Nat) × Nat × Nat) => (g, γ.2)) [3, 6, 8] (fun (γ : (Option Addr × Nat) × Nat × Nat) => sV (Builtin.append_ #[29, 29] 29 #[.slice (some ⟨γ.2.2, 0, none⟩) 0 0, .slice A_w W.Names.length c_w])) (some 40) (fun g (γ : (Option Addr × Nat) × Nat × Nat) => .slice g.1 W.Names.length g.2) (fun S (γ : (Option Addr × Nat) × Nat × Nat) w hi hd hu hM => ?_) (fun (γ : (Option Addr × Nat) × Nat × Nat) => by kernel_rfl) (fun (γ : (Option Addr × Nat) × Nat × Nat) g => by kernel_rfl) (by kernel_rfl) (fun (γ : (Option Addr × Nat) × Nat × Nat) g => by kernel_rfl) ?_
        · have h8 := lat (hu 3 8 (by kernel_rfl)) hi
          rw [mS3 hi rfl h8] at hM
          obtain ⟨g, w', e1, e2⟩ := app_fresh (P := Try.prog) (c := sc) (t := 29) (e := 9) (sz := 1) (bytes := 16) (A := some ⟨γ.2.2, 0, none⟩) (B := A_w) (cap2 := c_w) (m := W.Names.length) (M := (bif S 7 then [.inl (γ.2.1, .cells #[.slice none 0 0, .int .i64 0] 39 (0, 0))] else []) ++ M6_) 29 W.Names (by kernel_rfl) rfl rfl sc_one (fun w hM => (hM.sub (sub_skip (List.Sublist.refl M6_))).rd_at 1 rfl) rfl (by omega) w hM
          refine ⟨g, w', e1, ?_⟩
          rw [mS3 (S := upS S 3) (a0 := 3) (a1 := 7) (a2 := 8) rfl rfl h8]
          exact e2
        refine Steps.run (i := 4) 7 [0, 0, 0] M6_ (by kernel_rfl) (by kernel_rfl) (fun S (γ : (Option Addr × Nat) × Nat × Nat) w hM => by rw [mS3 rfl rfl rfl] at hM; exact hM.sub (sub_skip (sub_skip (List.Sublist.refl _)))) (by kernel_rfl) (fun (γ : (Option Addr × Nat) × Nat × Nat) => ⟨by kernel_rfl, by kernel_rfl⟩) ?_
        refine Steps.opX (i := 7) (Γ := Nat) (fun g (γ : (Option Addr × Nat) × Nat × Nat) => (γ.1, g, γ.2.2)) [7, 8] (fun (γ : (Option Addr × Nat) × Nat × Nat) => sV (Instr.alloc 39 true (.tuple #[]))) (some 8) (fun g (γ : (Option Addr × Nat) × Nat × Nat) => .pointer (some ⟨g, 0, none⟩)) (fun S (γ : (Option Addr × Nat) × Nat × Nat) w hi hd hu hM => ?_) (fun (γ : (Option Addr × Nat) × Nat × Nat) => by kernel_rfl) (fun (γ : (Option Addr × Nat) × Nat × Nat) g => by kernel_rfl) (by kernel_rfl) (fun (γ : (Option Addr × Nat) × Nat × Nat) g => by kernel_rfl) ?_
        · have h8 := lat (hu 7 8 (by kernel_rfl)) hi
          rw [mS3 rfl hi h8] at hM
          obtain ⟨b, w', e1, e2⟩ := run_new (P := Try.prog) (w0 := w0) (s := sV (Instr.alloc 39 true (.tuple #[]))) (v := fun b => .pointer (some ⟨b, 0, none⟩)) (o := .cells #[.slice none 0 0, .int .i64 0] 39 (0, 0)) (fun b M => by kernel_rfl) _ w hM
          refine ⟨b, w', e1, ?_⟩
          rw [mS3 (S := upS S 7) (a0 := 3) (a1 := 7) (a2 := 8) rfl rfl h8]
          exact e2.perm (perm_mid _ _ _)
        refine Steps.putX (i := 8) (fun (γ : (Option Addr × Nat) × Nat × Nat) => sU (Instr.storeAt 39 (.pointer (some ⟨γ.2.1, 0, none⟩)) (.agg #[.slice γ.1.1 W.Names.length γ.1.2, .int .i64 W.Length]))) none (fun S (γ : (Option Addr × Nat) × Nat × Nat) w hi hd hu hM => ?_) (fun (γ : (Option Addr × Nat) × Nat × Nat) => by kernel_rfl) (fun (γ : (Option Addr × Nat) × Nat × Nat) => by kernel_rfl) ?_
        · rw [mS3 rfl (hd 7 (by kernel_rfl)) hi] at hM
          obtain ⟨w', e1, e2⟩ := run_put (P := Try.prog) (s := sU (Instr.storeAt 39 (.pointer (some ⟨γ.2.1, 0, none⟩)) (.agg #[.slice γ.1.1 W.Names.length γ.1.2, .int .i64 W.Length]))) (e := .inl (γ.2.1, .cells #[.slice none 0 0, .int .i64 0] 39 (0, 0))) (e' := .inl (γ.2.1, .cells #[.slice γ.1.1 W.Names.length γ.1.2, .int .i64 W.Length] 39 (0, 0))) (fun b M => by kernel_rfl) (fun b M => by kernel_rfl) ((bif S 3 then [.inr (Own γ.1.1 γ.1.2 9 1 (W.Names.map sc))] else []) ++ M6_) w (hM.perm (perm_mid _ _ _))
          refine ⟨w', e1, ?_⟩
          rw [mS3 (S := upS S 8) (a0 := 3) (a1 := 7) (a2 := 8) rfl rfl rfl]
          exact e2.perm (perm_mid _ _ _)
        exact Steps.done (by kernel_rfl)
      · rintro ⟨⟨A3, c3⟩, b8, b9⟩
        refine TE.conv [.inl (bb, .cells #[.slice A rows.length cap] 36 (0, 0)), .inr (Own A cap 39 2 (rows.map WayR.c)), .inr (Own A3 c3 9 1 (W.Names.map sc)), .inl (b8, .cells #[.slice A3 W.Names.length c3, .int .i64 W.Length] 39 (0, 0)), .inl (b5, .cells #[.slice A_w W.Names.length c_w, .int .i64 W.Length] 39 (0, 0)), .inr (Own A_w c_w 9 1 (W.Names.map sc)), .inr (Bag 9 1 sc (o.map WayR.Names)), .inr R] (fun _ hM => Sat.perm (M := [.inr (Own A3 c3 9 1 (W.Names.map sc)), .inl (b8, .cells #[.slice A3 W.Names.length c3, .int .i64 W.Length] 39 (0, 0)), .inl (b5, .cells #[.slice A_w W.Names.length c_w, .int .i64 W.Length] 39 (0, 0)), .inr (Own A_w c_w 9 1 (W.Names.map sc)), .inl (bb, .cells #[.slice A rows.length cap] 36 (0, 0)), .inr (Own A cap 39 2 (rows.map WayR.c)), .inr (Bag 9 1 sc (o.map WayR.Names)), .inr R]) hM (px [4, 5, 0, 1, 2, 3, 6, 7])) ?_
        refine TE.next ?_
        refine TC.seq ?_
        have hkc : k ≤ cap := by omega
        have e0 : (rows.take k).length = k := by rw [List.length_take]; omega
        obtain ⟨A4, hA4⟩ : ∃ a, a = (if cap = k then A else A.map (fun a => a.add (k * 2))) := ⟨_, rfl⟩
        let M7_ : Mem := [.inr (Own A3 c3 9 1 (W.Names.map sc)), .inl (b8, .cells #[.slice A3 W.Names.length c3, .int .i64 W.Length] 39 (0, 0)), .inl (b5, .cells #[.slice A_w W.Names.length c_w, .int .i64 W.Length] 39 (0, 0)), .inr (Own A_w c_w 9 1 (W.Names.map sc)), .inr (Bag 9 1 sc (o.map WayR.Names)), .inr R]
        refine TC.plan (G := Nat × (Option Addr × Nat) × (Option Addr × Nat)) (base := [(2, .pointer (some ⟨bb, 0, none⟩)), (7, .int .i64 (k : Int)), (8, .pointer (some ⟨b8, 0, none⟩))]) (vals := fun γ => [.slice A rows.length cap, .int .i64 (k : Int), .slice A (rows.take k).length cap, .agg #[.slice A3 W.Names.length c3, .int .i64 W.Length], .slice (some ⟨γ.1, 0, none⟩) 1 1, .slice A rows.length cap, .int .i64 (k : Int), .slice A4 (rows.drop k).length (cap - k), .slice γ.2.1.1 ([(⟨⟨A3, c3, W.Names⟩, W.Length⟩ : WayR)] ++ rows.drop k).length γ.2.1.2, .slice γ.2.2.1 (rows.take k ++ ([(⟨⟨A3, c3, W.Names⟩, W.Length⟩ : WayR)] ++ rows.drop k)).length γ.2.2.2, undef])
          (writes := [4, 8, 9, 10]) (mem := fun bs γ => match bs with | [x4_, x8_, x9_, x10_] => (bif x8_ then [.inr (Own γ.2.1.1 γ.2.1.2 39 2 (([(⟨⟨A3, c3, W.Names⟩, W.Length⟩ : WayR)] ++ rows.drop k).map WayR.c))] else bif x4_ then [.inr (Own (some ⟨γ.1, 0, none⟩) 1 39 2 ([(⟨⟨A3, c3, W.Names⟩, W.Length⟩ : WayR)].map WayR.c))] else []) ++ ((bif x9_ then [.inr (Own γ.2.2.1 γ.2.2.2 39 2 ((rows.take k ++ ([(⟨⟨A3, c3, W.Names⟩, W.Length⟩ : WayR)] ++ rows.drop k)).map WayR.c))] else [.inr (Own A cap 39 2 (rows.map WayR.c))]) ++ ((bif x10_ then [.inl (bb, .cells #[.slice γ.2.2.1 (rows.take k ++ ([(⟨⟨A3, c3, W.Names⟩, W.Length⟩ : WayR)] ++ rows.drop k)).length γ.2.2.2] 36 (0, 0))] else [.inl (bb, .cells #[.slice A rows.length cap] 36 (0, 0))]) ++ M7_)) | _ => []) (0, (none, 0), (none, 0))
          (fun γ => [(2, .pointer (some ⟨bb, 0, none⟩))]) (by kernel_rfl) (by kernel_rfl) (by kernel_rfl) (by kernel_rfl) (by kernel_rfl) (fun γ => by kernel_rfl) (fun _ hM => hM.perm (px [1, 0, 2, 3, 4, 5, 6, 7])) (fun γ => by kernel_rfl) ?_ ?_
        · refine Steps.valL (i := 0) (fun (γ : Nat × (Option Addr × Nat) × (Option Addr × Nat)) => sV (Instr.loadAt 36 (.pointer (some ⟨bb, 0, none⟩)))) (some 44) (fun (γ : Nat × (Option Addr × Nat) × (Option Addr × Nat)) => .slice A rows.length cap) (fun _ => [.inl (bb, .cells #[.slice A rows.length cap] 36 (0, 0))] ++ M7_) (by kernel_rfl) (fun S (γ : Nat × (Option Addr × Nat) × (Option Addr × Nat)) w hi hd hu hM => by rw [mS4 rfl rfl rfl (lat (hu 0 10 (by kernel_rfl)) hi)] at hM; exact hM.sub (sub_skip (sub_skip (sub_one (List.Sublist.refl _))))) (fun (γ : Nat × (Option Addr × Nat) × (Option Addr × Nat)) w hM => mr_sound (j := 0) hM _ _ [(bb, bb)] (by kernel_rfl) (by intro p hp; rw [List.mem_singleton.1 hp])) (fun (γ : Nat × (Option Addr × Nat) × (Option Addr × Nat)) => by kernel_rfl) (fun (γ : Nat × (Option Addr × Nat) × (Option Addr × Nat)) => by kernel_rfl) ?_
          refine Steps.run (i := 1) 2 [0] M7_ (by kernel_rfl) (by kernel_rfl) (fun S (γ : Nat × (Option Addr × Nat) × (Option Addr × Nat)) w hM => by rw [mS4 rfl rfl rfl rfl] at hM; exact hM.sub (sub_skip (sub_skip (sub_skip (List.Sublist.refl _))))) (by kernel_rfl) (fun (γ : Nat × (Option Addr × Nat) × (Option Addr × Nat)) => ⟨by kernel_rfl, by kernel_rfl⟩) ?_
          refine Steps.val (i := 2) (fun (γ : Nat × (Option Addr × Nat) × (Option Addr × Nat)) => sV (Instr.sliceAt 36 (.slice A rows.length cap) none (some (.int .i64 (k : Int))) none)) (some 46) (fun (γ : Nat × (Option Addr × Nat) × (Option Addr × Nat)) => .slice A (rows.take k).length cap) (fun _ => M7_) (by kernel_rfl) (fun S (γ : Nat × (Option Addr × Nat) × (Option Addr × Nat)) w _ hM => by rw [mS4 rfl rfl rfl rfl] at hM; exact hM.sub (sub_skip (sub_skip (sub_skip (List.Sublist.refl _))))) (fun (γ : Nat × (Option Addr × Nat) × (Option Addr × Nat)) w hM => ?_) (fun (γ : Nat × (Option Addr × Nat) × (Option Addr × Nat)) => by kernel_rfl) (fun (γ : Nat × (Option Addr × Nat) × (Option Addr × Nat)) => by kernel_rfl) ?_
          · have h_ := run_slice (P := Try.prog) (w := w) (t := 36) (sz := 2) (len := rows.length) (cap := cap) (A := A) (lo := none) (hi := some (.int .i64 (k : Int))) 0 k (by kernel_rfl) (.inl ⟨rfl, rfl⟩) (.inr ⟨_, _, rfl, Int.natCast_nonneg k, rfl⟩) (Nat.zero_le _) hkc
            rw [cut0] at h_
            rw [e0]
            exact h_
          refine Steps.run (i := 3) 4 [1] M7_ (by kernel_rfl) (by kernel_rfl) (fun S (γ : Nat × (Option Addr × Nat) × (Option Addr × Nat)) w hM => by rw [mS4 rfl rfl rfl rfl] at hM; exact hM.sub (sub_skip (sub_skip (sub_skip (List.Sublist.refl _))))) (by kernel_rfl) (fun (γ : Nat × (Option Addr × Nat) × (Option Addr × Nat)) => ⟨by kernel_rfl, by kernel_rfl⟩) ?_
          refine Steps.opX (i := 4) (Γ := Nat) (fun g (γ : Nat × (Option Addr × Nat) × (Option Addr × Nat)) => (g, γ.2)) [4, 8, 9, 10] (fun (γ : Nat × (Option Addr × Nat) × (Option Addr × Nat)) => sV (Instr.buildSlice 36 1 #[(0, .agg #[.slice A3 W.Names.length c3, .int .i64 W.Length])])) (some 48) (fun g (γ : Nat × (Option Addr × Nat) × (Option Addr × Nat)) => .slice (some ⟨g, 0, none⟩) 1 1) (fun S (γ : Nat × (Option Addr × Nat) × (Option Addr × Nat)) w hi hd hu hM => ?_) (fun (γ : Nat × (Option Addr × Nat) × (Option Addr × Nat)) => by kernel_rfl) (fun (γ : Nat × (Option Addr × Nat) × (Option Addr × Nat)) g => by kernel_rfl) (by kernel_rfl) (fun (γ : Nat × (Option Addr × Nat) × (Option Addr × Nat)) g => by kernel_rfl) ?_
          · have h8 := lat (hu 4 8 (by kernel_rfl)) hi
            rw [mS4 hi h8 rfl rfl] at hM
            obtain ⟨b, w', e1, e2⟩ := run_new (P := Try.prog) (w0 := w0) (s := sV (Instr.buildSlice 36 1 #[(0, .agg #[.slice A3 W.Names.length c3, .int .i64 W.Length])])) (v := fun b => .slice (some ⟨b, 0, none⟩) 1 1) (o := .cells #[.slice A3 W.Names.length c3, .int .i64 W.Length] 39 (0, 0)) (fun b M => by kernel_rfl) _ w hM
            refine ⟨b, w', e1, ?_⟩
            rw [mS4 (S := upS S 4) (a0 := 4) (a1 := 8) (a2 := 9) (a3 := 10) rfl h8 rfl rfl]
            exact Sat.litrow (e := 39) (sz := 2) (n := 1) e2 0 ([(⟨⟨A3, c3, W.Names⟩, W.Length⟩ : WayR)].map WayR.c) rfl rfl rfl rfl rfl
          refine Steps.valL (i := 5) (fun (γ : Nat × (Option Addr × Nat) × (Option Addr × Nat)) => sV (Instr.loadAt 36 (.pointer (some ⟨bb, 0, none⟩)))) (some 49) (fun (γ : Nat × (Option Addr × Nat) × (Option Addr × Nat)) => .slice A rows.length cap) (fun _ => [.inl (bb, .cells #[.slice A rows.length cap] 36 (0, 0))] ++ M7_) (by kernel_rfl) (fun S (γ : Nat × (Option Addr × Nat) × (Option Addr × Nat)) w hi hd hu hM => by rw [mS4 rfl rfl rfl (lat (hu 5 10 (by kernel_rfl)) hi)] at hM; exact hM.sub (sub_skip (sub_skip (sub_one (List.Sublist.refl _))))) (fun (γ : Nat × (Option Addr × Nat) × (Option Addr × Nat)) w hM => mr_sound (j := 0) hM _ _ [(bb, bb)] (by kernel_rfl) (by intro p hp; rw [List.mem_singleton.1 hp])) (fun (γ : Nat × (Option Addr × Nat) × (Option Addr × Nat)) => by kernel_rfl) (fun (γ : Nat × (Option Addr × Nat) × (Option Addr × Nat)) => by kernel_rfl) ?_
          refine Steps.run (i := 6) 7 [0] M7_ (by kernel_rfl) (by kernel_rfl) (fun S (γ : Nat × (Option Addr × Nat) × (Option Addr × Nat)) w hM => by rw [mS4 rfl rfl rfl rfl] at hM; exact hM.sub (sub_skip (sub_skip (sub_skip (List.Sublist.refl _))))) (by kernel_rfl) (fun (γ : Nat × (Option Addr × Nat) × (Option Addr × Nat)) => ⟨by kernel_rfl, by kernel_rfl⟩) ?_
          refine Steps.val (i := 7) (fun (γ : Nat × (Option Addr × Nat) × (Option Addr × Nat)) => sV (Instr.sliceAt 36 (.slice A rows.length cap) (some (.int .i64 (k : Int))) none none)) (some 51) (fun (γ : Nat × (Option Addr × Nat) × (Option Addr × Nat)) => .slice A4 (rows.drop k).length (cap - k)) (fun _ => M7_) (by kernel_rfl) (fun S (γ : Nat × (Option Addr × Nat) × (Option Addr × Nat)) w _ hM => by rw [mS4 rfl rfl rfl rfl] at hM; exact hM.sub (sub_skip (sub_skip (sub_skip (List.Sublist.refl _))))) (fun (γ : Nat × (Option Addr × Nat) × (Option Addr × Nat)) w hM => ?_) (fun (γ : Nat × (Option Addr × Nat) × (Option Addr × Nat)) => by kernel_rfl) (fun (γ : Nat × (Option Addr × Nat) × (Option Addr × Nat)) => by kernel_rfl) ?_
          · have h_ := run_slice (P := Try.prog) (w := w) (t := 36) (sz := 2) (len := rows.length) (cap := cap) (A := A) (lo := some (.int .i64 (k : Int))) (hi := none) k rows.length (by kernel_rfl) (.inr ⟨_, _, rfl, Int.natCast_nonneg k, rfl⟩) (.inl ⟨rfl, rfl⟩) hk hcap
            rw [← hA4] at h_
            rw [List.length_drop]
            exact h_
          refine Steps.opX (i := 8) (Γ := Option Addr × Nat) (fun g (γ : Nat × (Option Addr × Nat) × (Option Addr × Nat)) => (γ.1, g, γ.2.2)) [8, 9, 10] (fun (γ : Nat × (Option Addr × Nat) × (Option Addr × Nat)) => sV (Builtin.append_ #[36, 36] 36 #[.slice (some ⟨γ.1, 0, none⟩) 1 1, .slice A4 (rows.drop k).length (cap - k)])) (some 52) (fun g (γ : Nat × (Option Addr × Nat) × (Option Addr × Nat)) => .slice g.1 ([(⟨⟨A3, c3, W.Names⟩, W.Length⟩ : WayR)] ++ rows.drop k).length g.2) (fun S (γ : Nat × (Option Addr × Nat) × (Option Addr × Nat)) w hi hd hu hM => ?_) (fun (γ : Nat × (Option Addr × Nat) × (Option Addr × Nat)) => by kernel_rfl) (fun (γ : Nat × (Option Addr × Nat) × (Option Addr × Nat)) g => by kernel_rfl) (by kernel_rfl) (fun (γ : Nat × (Option Addr × Nat) × (Option Addr × Nat)) g => by kernel_rfl) ?_
          · have h9 := lat (hu 8 9 (by kernel_rfl)) hi
            have h10 := lat (hu 9 10 (by kernel_rfl)) h9
            rw [mS4 (hd 4 (by kernel_rfl)) hi h9 h10] at hM
            obtain ⟨g, w', e1, e2⟩ := app_at (P := Try.prog) (c := WayR.c) (t := 36) (e := 39) (sz := 2) (bytes := 32) (cap := 1) (cap2 := cap - k) (m := (rows.drop k).length) (A := some ⟨γ.1, 0, none⟩) (B := A4) (l := [(⟨⟨A3, c3, W.Names⟩, W.Length⟩ : WayR)]) 36 0 (rows.drop k) (by kernel_rfl) rfl rfl WayR.one rfl (fun w hM => by rw [hA4]; exact (hM.rd_at 1 rfl).dropMap k hcap) rfl (by rw [List.length_singleton, List.length_drop]; omega) w hM
            refine ⟨g, w', e1, ?_⟩
            rw [mS4 (S := upS S 8) (a0 := 4) (a1 := 8) (a2 := 9) (a3 := 10) rfl rfl h9 h10]
            exact e2
          refine Steps.opX (i := 9) (Γ := Option Addr × Nat) (fun g (γ : Nat × (Option Addr × Nat) × (Option Addr × Nat)) => (γ.1, γ.2.1, g)) [9, 10] (fun (γ : Nat × (Option Addr × Nat) × (Option Addr × Nat)) => sV (Builtin.append_ #[36, 36] 36 #[.slice A (rows.take k).length cap, .slice γ.2.1.1 ([(⟨⟨A3, c3, W.Names⟩, W.Length⟩ : WayR)] ++ rows.drop k).length γ.2.1.2])) (some 53) (fun g (γ : Nat × (Option Addr × Nat) × (Option Addr × Nat)) => .slice g.1 (rows.take k ++ ([(⟨⟨A3, c3, W.Names⟩, W.Length⟩ : WayR)] ++ rows.drop k)).length g.2) (fun S (γ : Nat × (Option Addr × Nat) × (Option Addr × Nat)) w hi hd hu hM => ?_) (fun (γ : Nat × (Option Addr × Nat) × (Option Addr × Nat)) => by kernel_rfl) (fun (γ : Nat × (Option Addr × Nat) × (Option Addr × Nat)) g => by kernel_rfl) (by kernel_rfl) (fun (γ : Nat × (Option Addr × Nat) × (Option Addr × Nat)) g => by kernel_rfl) ?_
          · have h10 := lat (hu 9 10 (by kernel_rfl)) hi
            rw [mS4 rfl (hd 8 (by kernel_rfl)) hi h10] at hM
            have hT := hM.takerow k 1 rfl (by rw [List.length_map]; exact hk)
            rw [← List.map_take] at hT
            obtain ⟨g, w', e1, e2⟩ := app_at (P := Try.prog) (c := WayR.c) (t := 36) (e := 39) (sz := 2) (bytes := 32) (cap := cap) (cap2 := γ.2.1.2) (m := ([(⟨⟨A3, c3, W.Names⟩, W.Length⟩ : WayR)] ++ rows.drop k).length) (A := A) (B := γ.2.1.1) (l := rows.take k) 36 1 ([(⟨⟨A3, c3, W.Names⟩, W.Length⟩ : WayR)] ++ rows.drop k) (by kernel_rfl) rfl rfl WayR.one rfl (fun w hM => hM.rd_at 0 rfl) rfl (by rw [e0, List.length_append, List.length_singleton, List.length_drop]; omega) w hT
            refine ⟨g, w', e1, ?_⟩
            rw [mS4 (S := upS S 9) (a0 := 4) (a1 := 8) (a2 := 9) (a3 := 10) rfl (hd 8 (by kernel_rfl)) rfl h10]
            exact e2
          refine Steps.putX (i := 10) (fun (γ : Nat × (Option Addr × Nat) × (Option Addr × Nat)) => sU (Instr.storeAt 36 (.pointer (some ⟨bb, 0, none⟩)) (.slice γ.2.2.1 (rows.take k ++ ([(⟨⟨A3, c3, W.Names⟩, W.Length⟩ : WayR)] ++ rows.drop k)).length γ.2.2.2))) none (fun S (γ : Nat × (Option Addr × Nat) × (Option Addr × Nat)) w hi hd hu hM => ?_) (fun (γ : Nat × (Option Addr × Nat) × (Option Addr × Nat)) => by kernel_rfl) (fun (γ : Nat × (Option Addr × Nat) × (Option Addr × Nat)) => by kernel_rfl) ?_
          · have h9 := hd 9 (by kernel_rfl)
            have h8 := hd 8 (by kernel_rfl)
            rw [mS4 rfl h8 h9 hi] at hM
            obtain ⟨w', e1, e2⟩ := run_put (P := Try.prog) (s := sU (Instr.storeAt 36 (.pointer (some ⟨bb, 0, none⟩)) (.slice γ.2.2.1 (rows.take k ++ ([(⟨⟨A3, c3, W.Names⟩, W.Length⟩ : WayR)] ++ rows.drop k)).length γ.2.2.2))) (e := .inl (bb, .cells #[.slice A rows.length cap] 36 (0, 0))) (e' := .inl (bb, .cells #[.slice γ.2.2.1 (rows.take k ++ ([(⟨⟨A3, c3, W.Names⟩, W.Length⟩ : WayR)] ++ rows.drop k)).length γ.2.2.2] 36 (0, 0))) (fun b M => by kernel_rfl) (fun b M => by kernel_rfl) ([.inr (Own γ.2.1.1 γ.2.1.2 39 2 (([(⟨⟨A3, c3, W.Names⟩, W.Length⟩ : WayR)] ++ rows.drop k).map WayR.c))] ++ ([.inr (Own γ.2.2.1 γ.2.2.2 39 2 ((rows.take k ++ ([(⟨⟨A3, c3, W.Names⟩, W.Length⟩ : WayR)] ++ rows.drop k)).map WayR.c))] ++ M7_)) w (hM.perm (px [2, 0, 1, 3, 4, 5, 6, 7, 8]))
            refine ⟨w', e1, ?_⟩
            rw [mS4 (S := upS S 10) (a0 := 4) (a1 := 8) (a2 := 9) (a3 := 10) rfl h8 h9 rfl]
            exact e2.perm (px [1, 2, 0, 3, 4, 5, 6, 7, 8])
          exact Steps.done (by kernel_rfl)
        · rintro ⟨b4, ⟨A8, c8⟩, ⟨A9, c9⟩⟩
          have hl9 : (rows.take k ++ ([(⟨⟨A3, c3, W.Names⟩, W.Length⟩ : WayR)] ++ rows.drop k)).length = rows.length + 1 := by simp only [List.length_append, List.length_take, List.length_drop, List.length_singleton]; omega
          refine TE.conv [.inr (Own A9 c9 39 2 ((rows.take k ++ ([(⟨⟨A3, c3, W.Names⟩, W.Length⟩ : WayR)] ++ rows.drop k)).map WayR.c)), .inl (bb, .cells #[.slice A9 (rows.take k ++ ([(⟨⟨A3, c3, W.Names⟩, W.Length⟩ : WayR)] ++ rows.drop k)).length c9] 36 (0, 0)), .inr (Own A3 c3 9 1 (W.Names.map sc)), .inr (Bag 9 1 sc (o.map WayR.Names)), .inr (Own A_w c_w 9 1 (W.Names.map sc)), .inr R] (fun _ hM => (Sat.sub (M := [.inr (Own A8 c8 39 2 (([(⟨⟨A3, c3, W.Names⟩, W.Length⟩ : WayR)] ++ rows.drop k).map WayR.c)), .inr (Own A9 c9 39 2 ((rows.take k ++ ([(⟨⟨A3, c3, W.Names⟩, W.Length⟩ : WayR)] ++ rows.drop k)).map WayR.c)), .inl (bb, .cells #[.slice A9 (rows.take k ++ ([(⟨⟨A3, c3, W.Names⟩, W.Length⟩ : WayR)] ++ rows.drop k)).length c9] 36 (0, 0)), .inr (Own A3 c3 9 1 (W.Names.map sc)), .inl (b8, .cells #[.slice A3 W.Names.length c3, .int .i64 W.Length] 39 (0, 0)), .inl (b5, .cells #[.slice A_w W.Names.length c_w, .int .i64 W.Length] 39 (0, 0)), .inr (Own A_w c_w 9 1 (W.Names.map sc)), .inr (Bag 9 1 sc (o.map WayR.Names)), .inr R]) hM (M' := [.inr (Own A9 c9 39 2 ((rows.take k ++ ([(⟨⟨A3, c3, W.Names⟩, W.Length⟩ : WayR)] ++ rows.drop k)).map WayR.c)), .inl (bb, .cells #[.slice A9 (rows.take k ++ ([(⟨⟨A3, c3, W.Names⟩, W.Length⟩ : WayR)] ++ rows.drop k)).length c9] 36 (0, 0)), .inr (Own A3 c3 9 1 (W.Names.map sc)), .inr (Own A_w c_w 9 1 (W.Names.map sc)), .inr (Bag 9 1 sc (o.map WayR.Names)), .inr R]) (sb 462)).perm (px [0, 1, 2, 4, 3, 5])) ?_
          refine TE.next ?_
          refine TC.seq ?_
          refine TC.know (fun w hM => hM.le_at 0 rfl) (fun hc9 => ?_)
          refine TC.region ?_
          have hm : imin 2 ((rows.take k ++ ([(⟨⟨A3, c3, W.Names⟩, W.Length⟩ : WayR)] ++ rows.drop k)).length : Int) = ((((rows.take k ++ ([(⟨⟨A3, c3, W.Names⟩, W.Length⟩ : WayR)] ++ rows.drop k)).take 2).length : Nat) : Int) := by
            rw [List.length_take, hl9]; unfold imin; split <;> omega
          have ht2 : ((rows.take k ++ ([(⟨⟨A3, c3, W.Names⟩, W.Length⟩ : WayR)] ++ rows.drop k)).take 2).length ≤ (rows.take k ++ ([(⟨⟨A3, c3, W.Names⟩, W.Length⟩ : WayR)] ++ rows.drop k)).length := by rw [List.length_take]; omega
          refine TL.r 4 [1, 1] [(54, .slice A9 (rows.take k ++ ([(⟨⟨A3, c3, W.Names⟩, W.Length⟩ : WayR)] ++ rows.drop k)).length c9), (57, .int .i64 (imin 2 ((rows.take k ++ ([(⟨⟨A3, c3, W.Names⟩, W.Length⟩ : WayR)] ++ rows.drop k)).length : Int)))] {} ?_
          refine TL.v (sV (Instr.sliceAt 36 (.slice A9 (rows.take k ++ ([(⟨⟨A3, c3, W.Names⟩, W.Length⟩ : WayR)] ++ rows.drop k)).length c9) none (some (.int .i64 (imin 2 ((rows.take k ++ ([(⟨⟨A3, c3, W.Names⟩, W.Length⟩ : WayR)] ++ rows.drop k)).length : Int)))) none)) 58 (.slice A9 ((rows.take k ++ ([(⟨⟨A3, c3, W.Names⟩, W.Length⟩ : WayR)] ++ rows.drop k)).take 2).length c9) (fun w hM => ?_) {} ?_
          · have h_ := run_slice (P := Try.prog) (w := w) (t := 36) (sz := 2) (len := (rows.take k ++ ([(⟨⟨A3, c3, W.Names⟩, W.Length⟩ : WayR)] ++ rows.drop k)).length) (cap := c9) (A := A9) (lo := none) (hi := some (.int .i64 (imin 2 ((rows.take k ++ ([(⟨⟨A3, c3, W.Names⟩, W.Length⟩ : WayR)] ++ rows.drop k)).length : Int)))) 0 ((rows.take k ++ ([(⟨⟨A3, c3, W.Names⟩, W.Length⟩ : WayR)] ++ rows.drop k)).take 2).length (by kernel_rfl) (.inl ⟨rfl, rfl⟩) (.inr ⟨_, _, rfl, by omega, by omega⟩) (Nat.zero_le _) (by omega)
            rw [cut0] at h_
            exact h_
          refine TL.s 1 (.inl (bb, .cells #[.slice A9 ((rows.take k ++ ([(⟨⟨A3, c3, W.Names⟩, W.Length⟩ : WayR)] ++ rows.drop k)).take 2).length c9] 36 (0, 0))) (fun _ => {}) ?_
          refine TL.next rfl ?_
          refine TC.ret ?_
          refine TE.ret_then ?_
          have e2 : (rows.take k ++ ([(⟨⟨A3, c3, W.Names⟩, W.Length⟩ : WayR)] ++ rows.drop k)).take 2 = (rows.take k ++ ([(⟨⟨A3, c3, W.Names⟩, W.Length⟩ : WayR)] ++ rows.drop k)).take ((rows.take k ++ ([(⟨⟨A3, c3, W.Names⟩, W.Length⟩ : WayR)] ++ rows.drop k)).take 2).length := by rw [List.length_take]; exact List.take_eq_take_min
          refine TE.conv [.inr (Own A_w c_w 9 1 (W.Names.map sc)), .inl (bb, .cells #[.slice A9 ((rows.take k ++ ([(⟨⟨A3, c3, W.Names⟩, W.Length⟩ : WayR)] ++ rows.drop k)).take 2).length c9] 36 (0, 0)), .inr (Own A9 c9 39 2 (((rows.take k ++ ([(⟨⟨A3, c3, W.Names⟩, W.Length⟩ : WayR)] ++ rows.drop k)).take 2).map WayR.c)), .inr (Bag 9 1 sc ((o ++ [(⟨⟨A3, c3, W.Names⟩, W.Length⟩ : WayR)]).map WayR.Names)), .inr R] (fun w hM => ?_) ?_
          · have hT := hM.takerow ((rows.take k ++ ([(⟨⟨A3, c3, W.Names⟩, W.Length⟩ : WayR)] ++ rows.drop k)).take 2).length 0 rfl (by rw [List.length_map]; exact ht2)
            rw [← List.map_take, ← e2] at hT
            have hB := Sat.bag_addm (f := WayR.Names) (e := 9) (sz := 1) (c := sc) (o := o) (M := [.inr (Own A9 c9 39 2 (((rows.take k ++ ([(⟨⟨A3, c3, W.Names⟩, W.Length⟩ : WayR)] ++ rows.drop k)).take 2).map WayR.c)), .inl (bb, .cells #[.slice A9 ((rows.take k ++ ([(⟨⟨A3, c3, W.Names⟩, W.Length⟩ : WayR)] ++ rows.drop k)).take 2).length c9] 36 (0, 0)), .inr (Own A_w c_w 9 1 (W.Names.map sc)), .inr R]) (⟨⟨A3, c3, W.Names⟩, W.Length⟩ : WayR) (hT.perm (px [2, 3, 0, 1, 4, 5]))
            exact hB.perm (px [3, 2, 1, 0, 4])
          exact TE.retM (.inl rfl) ⟨A9, c9, (rows.take k ++ ([(⟨⟨A3, c3, W.Names⟩, W.Length⟩ : WayR)] ++ rows.drop k)).take 2, o ++ [(⟨⟨A3, c3, W.Names⟩, W.Length⟩ : WayR)], by rw [hw1, h1, cond_true]; exact ins_eq rfl hK, fun r hr => by
            rcases List.mem_append.1 (List.mem_of_mem_take hr) with h | h
            · exact List.mem_append_left _ (hro r (List.mem_of_mem_take h))
            · rcases List.mem_append.1 h with h | h
              · exact List.mem_append_right _ h
              · exact List.mem_append_left _ (hro r (List.mem_of_mem_drop h)), by rw [List.length_take]; omega⟩ [] (.tuple #[]) {} rfl (fun _ hM => hM)
  · rw [h1, cond_false] at hw1
    have hfl0 : 0 ≤ skywayref1_fix c last := by
      obtain ⟨x, hx, e⟩ := hin last hmem
      rw [← e]
      exact fix_pos hx
    refine TC.skip ?_
    refine TE.next ?_
    refine TC.seq ?_
    refine TC.region ?_
    refine TL.r 1 [] [(59, .pointer (some ac))] {} ?_
    refine TL.v (sV (Instr.loadAt 22 (.pointer (some ac)))) 60 (.slice A_f c.Fixes.length c_f) (fun w hM => run_load_one (off := 0) (.slice A_f c.Fixes.length c_f) (hcb.sat hM) (rows_one _) (by kernel_rfl) (by kernel_rfl)) {} ?_
    refine TL.r 4 [] [(61, .int .i64 (c.Fixes.length : Int)), (62, .int .i64 0)] {} ?_
    refine TL.next rfl ?_
    refine TC.block ?_
    refine TC.lw (X := Nat × Option Addr × Nat × List WayR × List WayR) (fun (k, A1, cap1, rows1, o1) => [(1, .pointer (some at_)), (2, .pointer (some ⟨bb, 0, none⟩)), (3, .pointer (some ac)), (4, .pointer (some ak)), (5, .pointer (some ⟨b5, 0, none⟩)), (6, .string last), (60, .slice A_f c.Fixes.length c_f), (61, .int .i64 (c.Fixes.length : Int)), (62, .int .i64 (k : Int))]) (fun (k, A1, cap1, rows1, o1) => [.inl (b5, .cells #[.slice A_w W.Names.length c_w, .int .i64 W.Length] 39 (0, 0)), .inr (Own A_w c_w 9 1 (W.Names.map sc)), .inl (bb, .cells #[.slice A1 rows1.length cap1] 36 (0, 0)), .inr (Own A1 cap1 39 2 (rows1.map WayR.c)), .inr (Bag 9 1 sc (o1.map WayR.Names)), .inr R]) (fun (k, A1, cap1, rows1, o1) => c.Fixes.length - k)
      (fun (k, A1, cap1, rows1, o1) => k ≤ c.Fixes.length ∧ (∀ r ∈ rows1, r ∈ o1) ∧ rows1.length ≤ 2 ∧ waysF c W last (ways1 c to m) (c.Fixes.drop k) (rows1.map WayR.p) = ways1 c to (m + 1) W (rows.map WayR.p)) ?_ (0, A, cap, rows, o) ⟨Nat.zero_le _, hro, hr2, hw1.symm⟩ (by kernel_rfl) (sb 63)
    rintro ⟨k, A1, cap1, rows1, o1⟩ ⟨hk, hs1, hl1, hI⟩
    refine TC.seq ?_
    refine TC.region ?_
    refine TL.r 1 [] [(63, .bool (decide ((k : Int) < (c.Fixes.length : Int))))] {} ?_
    refine TL.next rfl ?_
    refine TC.seq ?_
    refine TC.cond (decide ((k : Int) < (c.Fixes.length : Int))) rfl (by kernel_rfl) (fun h2 => ?_) (fun h2 => ?_)
    · have hlt := ltN h2
      obtain ⟨x, hx⟩ := elN hlt
      have hxm := List.mem_of_getElem? hx
      rw [drop_at hx] at hI
      refine TC.skip ?_
      refine TE.next ?_
      refine TC.seq ?_
      refine TC.cut (S := Option Addr × Nat × List WayR × List WayR) (fun (A2, cap2, rows2, o2) => [(1, .pointer (some at_)), (2, .pointer (some ⟨bb, 0, none⟩)), (3, .pointer (some ac)), (4, .pointer (some ak)), (5, .pointer (some ⟨b5, 0, none⟩)), (6, .string last), (60, .slice A_f c.Fixes.length c_f), (61, .int .i64 (c.Fixes.length : Int)), (62, .int .i64 (k : Int))]) (fun (A2, cap2, rows2, o2) => [.inl (b5, .cells #[.slice A_w W.Names.length c_w, .int .i64 W.Length] 39 (0, 0)), .inr (Own A_w c_w 9 1 (W.Names.map sc)), .inl (bb, .cells #[.slice A2 rows2.length cap2] 36 (0, 0)), .inr (Own A2 cap2 39 2 (rows2.map WayR.c)), .inr (Bag 9 1 sc (o2.map WayR.Names)), .inr R])
        (fun (A2, cap2, rows2, o2) => (∀ r ∈ rows2, r ∈ o2) ∧ rows2.length ≤ 2 ∧ waysF c W last (ways1 c to m) (c.Fixes.drop (k + 1)) (rows2.map WayR.p) = ways1 c to (m + 1) W (rows.map WayR.p)) ?_ ?_
      · refine TC.block ?_
        refine TC.seq ?_
        refine TC.region ?_
        refine TL.v (sV (Instr.indexAt 22 (.slice A_f c.Fixes.length c_f) (.int .i64 (k : Int)))) 64 (.pointer (some ((A_f.getD noAddr).add (k * 3)))) (fun w hM => run_index (hf.sat hM) (by simp) (by kernel_rfl) (by omega) (by omega)) {} ?_
        refine TL.v (sV (Instr.loadAt 35 (.pointer (some ((A_f.getD noAddr).add (k * 3)))))) 65 (Fix.v x) (fun w hM => run_load_agg (n := 3) (off := 0) (i := k) (Fix.v x) (hf.sat hM) (map_at hx) (by kernel_rfl) (by kernel_rfl) (by kernel_rfl)) {} ?_
        refine TL.nw 10 (fun b10 => .pointer (some ⟨b10, 0, none⟩)) (fun b10 => .inl (b10, .cells (Fix.c Fix.zero) 35 (0, 0))) (fun b10 => {}) (fun b10 => ?_)
        refine TL.s 0 (.inl (b10, .cells (Fix.c x) 35 (0, 0))) (fun _ => {}) ?_
        refine TL.next rfl ?_
        refine TC.seq ?_
        refine TC.seq ?_
        refine TC.region ?_
        refine TL.v (sV (Instr.loadAt 25 (.pointer (some ac)))) 66 (.agg #[.slice A_f c.Fixes.length c_f, .slice A_a c.Airways.length c_a]) (fun w hM => run_load_agg (n := 2) (off := 0) (.agg #[.slice A_f c.Fixes.length c_f, .slice A_a c.Airways.length c_a]) (hcb.sat hM) (rows_one _) (by kernel_rfl) (by kernel_rfl) (by kernel_rfl)) {} ?_
        refine TL.r 4 [0] [(67, .string last), (69, .string x.Name)] {} ?_
        refine TL.c 70 (skywayref1_linked c last x.Name) (fun r => .bool r) (fun w hM => skywayref1_linked_w c A_f c_f A_a c_a oa last x.Name w (hf.sat hM) hfl (ha.sat hM) hal (hd hM) he) {} (fun r1 hr1 => ?_)
        refine TL.r 7 [] [(72, .bool (!r1))] {} ?_
        unfold waysF at hI
        rw [hr1] at hI
        refine TL.split 72 (!r1) (by kernel_rfl) (fun h3 => ?_) (fun h3 => ?_)
        · rw [h3, Bool.true_or, cond_true] at hI
          refine TL.r 13 [] [(78, .bool true)] {} ?_
          refine TL.next rfl ?_
          refine TC.condT rfl (by kernel_rfl) ?_
          refine TC.exit ?_
          refine TE.exit_then (TE.exit_same ?_)
          exact TE.cut (A1, cap1, rows1, o1) ⟨hs1, hl1, hI⟩ (by kernel_rfl) (sb 126)
        · rw [h3, Bool.false_or] at hI
          refine TL.r 11 [1, 0] [(74, .slice A_w W.Names.length c_w), (76, .string x.Name)] {} ?_
          refine TL.c 77 (skywayref1_HasText W.Names x.Name) (fun r => .bool r) (fun w hM => skywayref1_HasText_w A_w c_w W.Names x.Name w (hM.rd_at 2 rfl) (hM.le_at 2 rfl)) {} (fun r2 hr2 => ?_)
          rw [hr2] at hI
          refine TL.r 13 [] [(78, .bool r2)] {} ?_
          refine TL.next rfl ?_
          refine TC.cond r2 rfl (by kernel_rfl) (fun h4 => ?_) (fun h4 => ?_)
          · rw [h4, cond_true] at hI
            refine TC.exit ?_
            refine TE.exit_then (TE.exit_same ?_)
            exact TE.cut (A1, cap1, rows1, o1) ⟨hs1, hl1, hI⟩ (by kernel_rfl) (sb 126)
          · rw [h4, cond_false] at hI
            obtain ⟨gp, hgp⟩ : ∃ g, skywayref1_gap c last x.Name = g := ⟨_, rfl⟩
            rw [hgp] at hI
            refine TC.skip ?_
            refine TE.next ?_
            have hgn : 0 ≤ skywayref1_fix c x.Name := fix_pos hxm
            have hno : x.Name ∉ W.Names := tx_no (hr2.trans h4)
            let M13_ : Mem := [.inl (b10, .cells (Fix.c x) 35 (0, 0)), .inl (b5, .cells #[.slice A_w W.Names.length c_w, .int .i64 W.Length] 39 (0, 0)), .inr (Own A_w c_w 9 1 (W.Names.map sc)), .inl (bb, .cells #[.slice A1 rows1.length cap1] 36 (0, 0)), .inr (Own A1 cap1 39 2 (rows1.map WayR.c)), .inr (Bag 9 1 sc (o1.map WayR.Names)), .inr R]
            refine TC.planT (G := (Option Addr × Nat) × Nat × (Option Addr × Nat) × Nat) (base := [(1, .pointer (some at_)), (2, .pointer (some ⟨bb, 0, none⟩)), (3, .pointer (some ac)), (4, .pointer (some ak)), (5, .pointer (some ⟨b5, 0, none⟩)), (6, .string last), (60, .slice A_f c.Fixes.length c_f), (61, .int .i64 (c.Fixes.length : Int)), (10, .pointer (some ⟨b10, 0, none⟩)), (62, .int .i64 (k : Int))]) (vals := fun γ => [.func (.func 20) #[] #[.pointer (some at_), .pointer (some ⟨bb, 0, none⟩), .pointer (some ac), .pointer (some ak)], .slice (some ⟨γ.2.2.2, 0, none⟩) 0 0, .pointer (some ⟨b5, 0, none⟩), .slice A_w W.Names.length c_w, .slice γ.1.1 W.Names.length γ.1.2, .pointer (some ⟨b10, 0, none⟩), .string x.Name, .slice (some ⟨γ.2.1, 0, none⟩) 1 1, .slice γ.2.2.1.1 (W.Names ++ [x.Name]).length γ.2.2.1.2, .pointer (some ⟨b5, 1, none⟩), .int .i64 W.Length, .agg #[.slice A_f c.Fixes.length c_f, .slice A_a c.Airways.length c_a], .string last, .pointer (some ⟨b10, 0, none⟩), .string x.Name, .int .i64 gp, .int .i64 (w64 (W.Length + gp)), .agg #[.slice γ.2.2.1.1 (W.Names ++ [x.Name]).length γ.2.2.1.2, .int .i64 (w64 (W.Length + gp))]])
              (writes := [4, 7, 8]) (mem := fun bs γ => match bs with | [x4_, x7_, x8_] => (bif x8_ then [.inr (Own γ.2.2.1.1 γ.2.2.1.2 9 1 ((W.Names ++ [x.Name]).map sc))] else bif x4_ then [.inr (Own γ.1.1 γ.1.2 9 1 (W.Names.map sc))] else []) ++ ((bif x7_ then [.inl (γ.2.1, .cells #[.string x.Name] 9 (0, 0))] else []) ++ M13_) | _ => []) 18 ((none, 0), 0, (none, 0), 0)
              (fun γ => [(1, .pointer (some at_)), (2, .pointer (some ⟨bb, 0, none⟩)), (3, .pointer (some ac)), (4, .pointer (some ak)), (5, .pointer (some ⟨b5, 0, none⟩)), (6, .string last), (60, .slice A_f c.Fixes.length c_f), (61, .int .i64 (c.Fixes.length : Int)), (62, .int .i64 (k : Int)), (79, .func (.func 20) #[] #[.pointer (some at_), .pointer (some ⟨bb, 0, none⟩), .pointer (some ac), .pointer (some ak)]), (96, .agg #[.slice γ.2.2.1.1 (W.Names ++ [x.Name]).length γ.2.2.1.2, .int .i64 (w64 (W.Length + gp))])]) (by kernel_rfl) (by kernel_rfl) (by kernel_rfl) (by kernel_rfl) (by kernel_rfl) (fun γ => by kernel_rfl) (fun _ hM => hM) (fun γ => by kernel_rfl) (by kernel_rfl) ?_ ?_
            · refine Steps.val (i := 0) (fun (γ : (Option Addr × Nat) × Nat × (Option Addr × Nat) × Nat) => sV (Instr.loadAt 61 (.pointer (some ak)))) (some 79) (fun (γ : (Option Addr × Nat) × Nat × (Option Addr × Nat) × Nat) => .func (.func 20) #[] #[.pointer (some at_), .pointer (some ⟨bb, 0, none⟩), .pointer (some ac), .pointer (some ak)]) (fun _ => M13_) (by kernel_rfl) (fun S (γ : (Option Addr × Nat) × Nat × (Option Addr × Nat) × Nat) w _ hM => by rw [mS3 rfl rfl rfl] at hM; exact hM.sub (sub_skip (sub_skip (List.Sublist.refl _)))) (fun (γ : (Option Addr × Nat) × Nat × (Option Addr × Nat) × Nat) w hM => run_load_one (off := 0) (.func (.func 20) #[] #[.pointer (some at_), .pointer (some ⟨bb, 0, none⟩), .pointer (some ac), .pointer (some ak)]) (hkb.sat hM) (rows_one _) (by kernel_rfl) (by kernel_rfl)) (fun (γ : (Option Addr × Nat) × Nat × (Option Addr × Nat) × Nat) => by kernel_rfl) (fun (γ : (Option Addr × Nat) × Nat × (Option Addr × Nat) × Nat) => by kernel_rfl) ?_
              refine Steps.opX (i := 1) (Γ := Nat) (fun g (γ : (Option Addr × Nat) × Nat × (Option Addr × Nat) × Nat) => (γ.1, γ.2.1, γ.2.2.1, g)) [1, 4, 8, 17] (fun (γ : (Option Addr × Nat) × Nat × (Option Addr × Nat) × Nat) => sV (Instr.buildSlice 29 0 #[])) (some 80) (fun g (γ : (Option Addr × Nat) × Nat × (Option Addr × Nat) × Nat) => .slice (some ⟨g, 0, none⟩) 0 0) (fun S (γ : (Option Addr × Nat) × Nat × (Option Addr × Nat) × Nat) w hi hd hu hM => ?_) (fun (γ : (Option Addr × Nat) × Nat × (Option Addr × Nat) × Nat) => by kernel_rfl) (fun (γ : (Option Addr × Nat) × Nat × (Option Addr × Nat) × Nat) g => by kernel_rfl) (by kernel_rfl) (fun (γ : (Option Addr × Nat) × Nat × (Option Addr × Nat) × Nat) g => by kernel_rfl) ?_
              · obtain ⟨b, w', h1_, h2_⟩ := run_new (P := Try.prog) (w0 := w0) (s := sV (Instr.buildSlice 29 0 #[])) (v := fun b => .slice (some ⟨b, 0, none⟩) 0 0) (o := .cells #[] 9 (0, 0)) (fun b M => by kernel_rfl) _ w hM
                exact ⟨b, w', h1_, h2_.sub (List.sublist_cons_self ..)⟩
              refine Steps.run (i := 2) 4 [0, 1] M13_ (by kernel_rfl) (by kernel_rfl) (fun S (γ : (Option Addr × Nat) × Nat × (Option Addr × Nat) × Nat) w hM => by rw [mS3 rfl rfl rfl] at hM; exact hM.sub (sub_skip (sub_skip (List.Sublist.refl _)))) (by kernel_rfl) (fun (γ : (Option Addr × Nat) × Nat × (Option Addr × Nat) × Nat) => ⟨by kernel_rfl, by kernel_rfl⟩) ?_
              refine Steps.opX (i := 4) (Γ := Option Addr × Nat) (fun g (γ : (Option Addr × Nat) × Nat × (Option Addr × Nat) × Nat) => (g, γ.2)) [4, 8, 17] (fun (γ : (Option Addr × Nat) × Nat × (Option Addr × Nat) × Nat) => sV (Builtin.append_ #[29, 29] 29 #[.slice (some ⟨γ.2.2.2, 0, none⟩) 0 0, .slice A_w W.Names.length c_w])) (some 83) (fun g (γ : (Option Addr × Nat) × Nat × (Option Addr × Nat) × Nat) => .slice g.1 W.Names.length g.2) (fun S (γ : (Option Addr × Nat) × Nat × (Option Addr × Nat) × Nat) w hi hd hu hM => ?_) (fun (γ : (Option Addr × Nat) × Nat × (Option Addr × Nat) × Nat) => by kernel_rfl) (fun (γ : (Option Addr × Nat) × Nat × (Option Addr × Nat) × Nat) g => by kernel_rfl) (by kernel_rfl) (fun (γ : (Option Addr × Nat) × Nat × (Option Addr × Nat) × Nat) g => by kernel_rfl) ?_
              · have h8 := lat (hu 4 8 (by kernel_rfl)) hi
                rw [mS3 hi rfl h8] at hM
                obtain ⟨g, w', e1, e2⟩ := app_fresh (P := Try.prog) (c := sc) (t := 29) (e := 9) (sz := 1) (bytes := 16) (A := some ⟨γ.2.2.2, 0, none⟩) (B := A_w) (cap2 := c_w) (m := W.Names.length) (M := (bif S 7 then [.inl (γ.2.1, .cells #[.string x.Name] 9 (0, 0))] else []) ++ M13_) 29 W.Names (by kernel_rfl) rfl rfl sc_one (fun w hM => (hM.sub (sub_skip (List.Sublist.refl M13_))).rd_at 2 rfl) rfl (by omega) w hM
                refine ⟨g, w', e1, ?_⟩
                rw [mS3 (S := upS S 4) (a0 := 4) (a1 := 7) (a2 := 8) rfl rfl h8]
                exact e2
              refine Steps.run (i := 5) 7 [0, 0] M13_ (by kernel_rfl) (by kernel_rfl) (fun S (γ : (Option Addr × Nat) × Nat × (Option Addr × Nat) × Nat) w hM => by rw [mS3 rfl rfl rfl] at hM; exact hM.sub (sub_skip (sub_skip (List.Sublist.refl _)))) (by kernel_rfl) (fun (γ : (Option Addr × Nat) × Nat × (Option Addr × Nat) × Nat) => ⟨by kernel_rfl, by kernel_rfl⟩) ?_
              refine Steps.opX (i := 7) (Γ := Nat) (fun g (γ : (Option Addr × Nat) × Nat × (Option Addr × Nat) × Nat) => (γ.1, g, γ.2.2)) [7, 8, 17] (fun (γ : (Option Addr × Nat) × Nat × (Option Addr × Nat) × Nat) => sV (Instr.buildSlice 29 1 #[(0, .string x.Name)])) (some 86) (fun g (γ : (Option Addr × Nat) × Nat × (Option Addr × Nat) × Nat) => .slice (some ⟨g, 0, none⟩) 1 1) (fun S (γ : (Option Addr × Nat) × Nat × (Option Addr × Nat) × Nat) w hi hd hu hM => ?_) (fun (γ : (Option Addr × Nat) × Nat × (Option Addr × Nat) × Nat) => by kernel_rfl) (fun (γ : (Option Addr × Nat) × Nat × (Option Addr × Nat) × Nat) g => by kernel_rfl) (by kernel_rfl) (fun (γ : (Option Addr × Nat) × Nat × (Option Addr × Nat) × Nat) g => by kernel_rfl) ?_
              · rw [mS3 rfl hi rfl] at hM
                obtain ⟨b, w', e1, e2⟩ := run_new (P := Try.prog) (w0 := w0) (s := sV (Instr.buildSlice 29 1 #[(0, .string x.Name)])) (v := fun b => .slice (some ⟨b, 0, none⟩) 1 1) (o := .cells #[.string x.Name] 9 (0, 0)) (fun b M => by kernel_rfl) _ w hM
                refine ⟨b, w', e1, ?_⟩
                rw [mS3 (S := upS S 7) (a0 := 4) (a1 := 7) (a2 := 8) rfl rfl rfl]
                exact e2.perm (perm_mid _ _ _)
              refine Steps.opX (i := 8) (Γ := Option Addr × Nat) (fun g (γ : (Option Addr × Nat) × Nat × (Option Addr × Nat) × Nat) => (γ.1, γ.2.1, g, γ.2.2.2)) [8, 17] (fun (γ : (Option Addr × Nat) × Nat × (Option Addr × Nat) × Nat) => sV (Builtin.append_ #[29, 29] 29 #[.slice γ.1.1 W.Names.length γ.1.2, .slice (some ⟨γ.2.1, 0, none⟩) 1 1])) (some 87) (fun g (γ : (Option Addr × Nat) × Nat × (Option Addr × Nat) × Nat) => .slice g.1 (W.Names ++ [x.Name]).length g.2) (fun S (γ : (Option Addr × Nat) × Nat × (Option Addr × Nat) × Nat) w hi hd hu hM => ?_) (fun (γ : (Option Addr × Nat) × Nat × (Option Addr × Nat) × Nat) => by kernel_rfl) (fun (γ : (Option Addr × Nat) × Nat × (Option Addr × Nat) × Nat) g => by kernel_rfl) (by kernel_rfl) (fun (γ : (Option Addr × Nat) × Nat × (Option Addr × Nat) × Nat) g => by kernel_rfl) ?_
              · have h7_ := hd 7 (by kernel_rfl)
                rw [mS3 (hd 4 (by kernel_rfl)) h7_ hi] at hM
                obtain ⟨g, w', e1, e2⟩ := app_at (P := Try.prog) (c := sc) (t := 29) (e := 9) (sz := 1) (bytes := 16) (cap := γ.1.2) (cap2 := 1) (m := 1) (A := γ.1.1) (B := some ⟨γ.2.1, 0, none⟩) (l := W.Names) 29 0 [x.Name] (by kernel_rfl) rfl rfl sc_one rfl (fun w hM => Rd.lit hM 1 _ rfl (by kernel_rfl) (by kernel_rfl) (by kernel_rfl)) rfl (by rw [List.length_singleton]; omega) w hM
                refine ⟨g, w', e1, ?_⟩
                rw [mS3 (S := upS S 8) (a0 := 4) (a1 := 7) (a2 := 8) rfl h7_ rfl]
                exact e2
              refine Steps.run (i := 9) 11 [0, 1] M13_ (by kernel_rfl) (by kernel_rfl) (fun S (γ : (Option Addr × Nat) × Nat × (Option Addr × Nat) × Nat) w hM => by rw [mS3 rfl rfl rfl] at hM; exact hM.sub (sub_skip (sub_skip (List.Sublist.refl _)))) (by kernel_rfl) (fun (γ : (Option Addr × Nat) × Nat × (Option Addr × Nat) × Nat) => ⟨by kernel_rfl, by kernel_rfl⟩) ?_
              refine Steps.val (i := 11) (fun (γ : (Option Addr × Nat) × Nat × (Option Addr × Nat) × Nat) => sV (Instr.loadAt 25 (.pointer (some ac)))) (some 90) (fun (γ : (Option Addr × Nat) × Nat × (Option Addr × Nat) × Nat) => .agg #[.slice A_f c.Fixes.length c_f, .slice A_a c.Airways.length c_a]) (fun _ => M13_) (by kernel_rfl) (fun S (γ : (Option Addr × Nat) × Nat × (Option Addr × Nat) × Nat) w _ hM => by rw [mS3 rfl rfl rfl] at hM; exact hM.sub (sub_skip (sub_skip (List.Sublist.refl _)))) (fun (γ : (Option Addr × Nat) × Nat × (Option Addr × Nat) × Nat) w hM => run_load_agg (n := 2) (off := 0) (.agg #[.slice A_f c.Fixes.length c_f, .slice A_a c.Airways.length c_a]) (hcb.sat hM) (rows_one _) (by kernel_rfl) (by kernel_rfl) (by kernel_rfl)) (fun (γ : (Option Addr × Nat) × Nat × (Option Addr × Nat) × Nat) => by kernel_rfl) (fun (γ : (Option Addr × Nat) × Nat × (Option Addr × Nat) × Nat) => by kernel_rfl) ?_
              refine Steps.run (i := 12) 15 [0, 0, 0] M13_ (by kernel_rfl) (by kernel_rfl) (fun S (γ : (Option Addr × Nat) × Nat × (Option Addr × Nat) × Nat) w hM => by rw [mS3 rfl rfl rfl] at hM; exact hM.sub (sub_skip (sub_skip (List.Sublist.refl _)))) (by kernel_rfl) (fun (γ : (Option Addr × Nat) × Nat × (Option Addr × Nat) × Nat) => ⟨by kernel_rfl, by kernel_rfl⟩) ?_
              refine Steps.call (i := 15) 24 (fun (γ : (Option Addr × Nat) × Nat × (Option Addr × Nat) × Nat) => #[.agg #[.slice A_f c.Fixes.length c_f, .slice A_a c.Airways.length c_a], .string last, .string x.Name]) (some 94) (fun (γ : (Option Addr × Nat) × Nat × (Option Addr × Nat) × Nat) => .int .i64 gp) (fun _ => M13_) (by kernel_rfl) (fun S (γ : (Option Addr × Nat) × Nat × (Option Addr × Nat) × Nat) w _ hM => by rw [mS3 rfl rfl rfl] at hM; exact hM.sub (sub_skip (sub_skip (List.Sublist.refl _)))) (fun (γ : (Option Addr × Nat) × Nat × (Option Addr × Nat) × Nat) w hM => by rw [← hgp]; exact skywayref1_gap_w c A_f c_f A_a c_a oa last x.Name w (hf.sat hM) hfl (ha.sat hM) hal (hd hM) he hfl0 hgn) (fun (γ : (Option Addr × Nat) × Nat × (Option Addr × Nat) × Nat) => by kernel_rfl) (fun (γ : (Option Addr × Nat) × Nat × (Option Addr × Nat) × Nat) => by kernel_rfl) ?_
              refine Steps.run (i := 16) 18 [0, 0] M13_ (by kernel_rfl) (by kernel_rfl) (fun S (γ : (Option Addr × Nat) × Nat × (Option Addr × Nat) × Nat) w hM => by rw [mS3 rfl rfl rfl] at hM; exact hM.sub (sub_skip (sub_skip (List.Sublist.refl _)))) (by kernel_rfl) (fun (γ : (Option Addr × Nat) × Nat × (Option Addr × Nat) × Nat) => ⟨by kernel_rfl, by kernel_rfl⟩) ?_
              exact Steps.done (by kernel_rfl)
            · rintro ⟨⟨A4, c4⟩, b7, ⟨A8, c8⟩, b1⟩
              refine TL.conv [.inr (Own A8 c8 9 1 ((W.Names ++ [x.Name]).map sc)), .inl (bb, .cells #[.slice A1 rows1.length cap1] 36 (0, 0)), .inr (Own A1 cap1 39 2 (rows1.map WayR.c)), .inr (Bag 9 1 sc (o1.map WayR.Names)), .inr (Pack [.inl (b7, .cells #[.string x.Name] 9 (0, 0)), .inl (b10, .cells (Fix.c x) 35 (0, 0)), .inl (b5, .cells #[.slice A_w W.Names.length c_w, .int .i64 W.Length] 39 (0, 0)), .inr (Own A_w c_w 9 1 (W.Names.map sc)), .inr R])] (fun _ hM => Sat.pack (M1 := [.inr (Own A8 c8 9 1 ((W.Names ++ [x.Name]).map sc)), .inl (bb, .cells #[.slice A1 rows1.length cap1] 36 (0, 0)), .inr (Own A1 cap1 39 2 (rows1.map WayR.c)), .inr (Bag 9 1 sc (o1.map WayR.Names))]) (M2 := [.inl (b7, .cells #[.string x.Name] 9 (0, 0)), .inl (b10, .cells (Fix.c x) 35 (0, 0)), .inl (b5, .cells #[.slice A_w W.Names.length c_w, .int .i64 W.Length] 39 (0, 0)), .inr (Own A_w c_w 9 1 (W.Names.map sc)), .inr R]) (Sat.perm (M := [.inr (Own A8 c8 9 1 ((W.Names ++ [x.Name]).map sc)), .inl (b7, .cells #[.string x.Name] 9 (0, 0)), .inl (b10, .cells (Fix.c x) 35 (0, 0)), .inl (b5, .cells #[.slice A_w W.Names.length c_w, .int .i64 W.Length] 39 (0, 0)), .inr (Own A_w c_w 9 1 (W.Names.map sc)), .inl (bb, .cells #[.slice A1 rows1.length cap1] 36 (0, 0)), .inr (Own A1 cap1 39 2 (rows1.map WayR.c)), .inr (Bag 9 1 sc (o1.map WayR.Names)), .inr R]) hM (px [0, 5, 6, 7, 1, 2, 3, 4, 8]))) ?_
              refine TL.callF (Γ := WG (ways1 c to m ⟨(W.Names ++ [x.Name]), (w64 (W.Length + gp))⟩ (rows1.map WayR.p))) (fun _ => .tuple #[]) (fun g => [.inr (Own A8 c8 9 1 ((W.Names ++ [x.Name]).map sc)), .inl (bb, .cells #[.slice g.A g.rows.length g.cap] 36 (0, 0)), .inr (Own g.A g.cap 39 2 (g.rows.map WayR.c)), .inr (Bag 9 1 sc (g.o.map WayR.Names)), .inr (Pack [.inl (b7, .cells #[.string x.Name] 9 (0, 0)), .inl (b10, .cells (Fix.c x) 35 (0, 0)), .inl (b5, .cells #[.slice A_w W.Names.length c_w, .int .i64 W.Length] 39 (0, 0)), .inr (Own A_w c_w 9 1 (W.Names.map sc)), .inr R])]) (some 97) (fun _ => [(1, .pointer (some at_)), (2, .pointer (some ⟨bb, 0, none⟩)), (3, .pointer (some ac)), (4, .pointer (some ak)), (5, .pointer (some ⟨b5, 0, none⟩)), (6, .string last), (60, .slice A_f c.Fixes.length c_f), (61, .int .i64 (c.Fixes.length : Int)), (62, .int .i64 (k : Int))])
                (fun w hM => ih (Pack [.inl (b7, .cells #[.string x.Name] 9 (0, 0)), .inl (b10, .cells (Fix.c x) 35 (0, 0)), .inl (b5, .cells #[.slice A_w W.Names.length c_w, .int .i64 W.Length] 39 (0, 0)), .inr (Own A_w c_w 9 1 (W.Names.map sc)), .inr R]) A8 c8 ⟨(W.Names ++ [x.Name]), (w64 (W.Length + gp))⟩ A1 cap1 rows1 o1 w (by rw [List.length_append, List.length_singleton]; omega) (by rw [List.length_append, List.length_singleton]; omega) (List.nodup_append.2 ⟨hnd, by simp, fun a ha b hb e => hno (by rw [← List.mem_singleton.1 hb, ← e]; exact ha)⟩) (fun s hs => by
                  rcases List.mem_append.1 hs with hs | hs
                  · exact hin s hs
                  · exact ⟨x, hxm, (List.mem_singleton.1 hs).symm⟩) hs1 hl1 hM) (by kernel_rfl) (fun g => by kernel_rfl) ?_
              rintro ⟨A2, cap2, rows2, o2, heq, hs2, hl2⟩
              refine TL.conv [.inr (Own A8 c8 9 1 ((W.Names ++ [x.Name]).map sc)), .inl (bb, .cells #[.slice A2 rows2.length cap2] 36 (0, 0)), .inr (Own A2 cap2 39 2 (rows2.map WayR.c)), .inr (Bag 9 1 sc (o2.map WayR.Names)), .inl (b7, .cells #[.string x.Name] 9 (0, 0)), .inl (b10, .cells (Fix.c x) 35 (0, 0)), .inl (b5, .cells #[.slice A_w W.Names.length c_w, .int .i64 W.Length] 39 (0, 0)), .inr (Own A_w c_w 9 1 (W.Names.map sc)), .inr R] (fun _ hM => Sat.unpack (M1 := [.inr (Own A8 c8 9 1 ((W.Names ++ [x.Name]).map sc)), .inl (bb, .cells #[.slice A2 rows2.length cap2] 36 (0, 0)), .inr (Own A2 cap2 39 2 (rows2.map WayR.c)), .inr (Bag 9 1 sc (o2.map WayR.Names))]) (M2 := [.inl (b7, .cells #[.string x.Name] 9 (0, 0)), .inl (b10, .cells (Fix.c x) 35 (0, 0)), .inl (b5, .cells #[.slice A_w W.Names.length c_w, .int .i64 W.Length] 39 (0, 0)), .inr (Own A_w c_w 9 1 (W.Names.map sc)), .inr R]) hM) ?_
              refine TL.conv [.inl (b5, .cells #[.slice A_w W.Names.length c_w, .int .i64 W.Length] 39 (0, 0)), .inr (Own A_w c_w 9 1 (W.Names.map sc)), .inl (bb, .cells #[.slice A2 rows2.length cap2] 36 (0, 0)), .inr (Own A2 cap2 39 2 (rows2.map WayR.c)), .inr (Bag 9 1 sc (o2.map WayR.Names)), .inr R] (fun w hM => ((Sat.sub (M' := [.inl (bb, .cells #[.slice A2 rows2.length cap2] 36 (0, 0)), .inr (Own A2 cap2 39 2 (rows2.map WayR.c)), .inr (Bag 9 1 sc (o2.map WayR.Names)), .inl (b5, .cells #[.slice A_w W.Names.length c_w, .int .i64 W.Length] 39 (0, 0)), .inr (Own A_w c_w 9 1 (W.Names.map sc)), .inr R]) hM (sb 462)).perm (px [3, 4, 0, 1, 2, 5]))) ?_
              refine TL.mid rfl rfl (by kernel_rfl) ?_
              refine TG.done rfl rfl ?_
              refine TE.normal_block ?_
              exact TE.cut (A2, cap2, rows2, o2) ⟨hs2, hl2, by rw [heq]; exact hI⟩ (by kernel_rfl) (sb 63)
      · rintro ⟨A2, cap2, rows2, o2⟩ ⟨hs2, hl2, hI2⟩
        refine TE.next ?_
        refine TC.region ?_
        refine TL.r 2 [] [(62, .int .i64 (w64 ((k : Int) + 1)))] {} ?_
        refine TL.rw 62 (.int .i64 (w64 ((k : Int) + 1))) (.int .i64 ((k + 1 : Nat) : Int)) (by kernel_rfl) (w64_cast k (by omega)) ?_
        refine TL.done rfl ?_
        exact TE.again (x := (k, A1, cap1, rows1, o1)) (k + 1, A2, cap2, rows2, o2) ⟨by omega, hs2, hl2, hI2⟩ (by simp only; omega) (by kernel_rfl) (sb 63)
    · have hk2 : c.Fixes.drop k = [] := dropN h2
      rw [hk2] at hI
      refine TC.exit ?_
      refine TE.exit_then (TE.exit_then (TE.exit_same ?_))
      exact TE.retM (.inr rfl) ⟨A1, cap1, rows1, o1, hI, hs1, hl1⟩ [] (.tuple #[]) {} rfl (fun _ hM => hM.sub (sb 62))
end Go.Sky
end
section
namespace Go.Sky
open Go Go.Eng Go.Proofs
def skywayref1_Ways (c : Chart) (from_ to : ByteArray) : List Way := ways1 c to 8 ⟨[from_], 0⟩ []
set_option maxRecDepth 100000 in
set_option maxHeartbeats 4000000 in
theorem skywayref1_Ways_w (c : Chart) (A_f : Option Addr) (c_f : Nat) (A_a : Option Addr) (c_a : Nat) (oa : List AirwayR) (from_ to : ByteArray) (w : World) (hf : Rd w 3 A_f (c.Fixes.map Fix.c)) (hfl : c.Fixes.length ≤ c_f)
    (ha : Rd w 2 A_a (oa.map AirwayR.c)) (hal : c.Airways.length ≤ c_a) (hd : ∀ s ∈ (oa.map AirwayR.Fixes), s.rd w 1 sc) (he : c.Airways = oa.map AirwayR.p) (h7 : c.Fixes.length ≤ 7) (hx : ∃ x ∈ c.Fixes, x.Name = from_) :
    Calls Try.prog 8 #[.agg #[.slice A_f c.Fixes.length c_f, .slice A_a c.Airways.length c_a], .string from_, .string to] w
      (RetM (Γ := ((Option Addr × Nat) × List (WayR))) (cx w) (fun g => .slice g.1.1 (skywayref1_Ways c from_ to).length g.1.2) (fun g => [.inr (Fact (skywayref1_Ways c from_ to = g.2.map WayR.p)), .inr (Own g.1.1 g.1.2 39 2 (g.2.map WayR.c)), .inr (Bag 9 1 sc (g.2.map WayR.Names))])) := by
  refine calls_intro (vs := [.agg #[.slice A_f c.Fixes.length c_f, .slice A_a c.Airways.length c_a], .string from_, .string to]) (w := w) Try.func8 rfl Try.ntmps8 rfl ?_
  refine TC.seq ?_
  refine TC.region ?_
  refine TL.nw 3 (fun b1 => .pointer (some ⟨b1, 0, none⟩)) (fun b1 => .inl (b1, .cells #[.slice A_f c.Fixes.length c_f, .slice A_a c.Airways.length c_a] 25 (0, 0))) (fun b1 => {}) (fun b1 => ?_)
  refine TL.nw 5 (fun b2 => .pointer (some ⟨b2, 0, none⟩)) (fun b2 => .inl (b2, .cells #[.string to] 9 (0, 0))) (fun b2 => {}) (fun b2 => ?_)
  refine TL.r 3 [] [(6, .slice none 0 0)] {} ?_
  refine TL.next rfl ?_
  refine TC.seq ?_
  refine TC.region ?_
  refine TL.nw 7 (fun b3 => .pointer (some ⟨b3, 0, none⟩)) (fun b3 => .inl (b3, .cells #[.slice none 0 0] 36 (0, 0))) (fun b3 => {}) (fun b3 => ?_)
  refine TL.next rfl ?_
  refine TC.seq ?_
  refine TC.region ?_
  refine TL.nw 8 (fun b4 => .pointer (some ⟨b4, 0, none⟩)) (fun b4 => .inl (b4, .cells #[.nilFunc] 61 (0, 0))) (fun b4 => {}) (fun b4 => ?_)
  refine TL.next rfl ?_
  refine TC.seq ?_
  refine TC.region ?_
  refine TL.r 1 [] [(9, .func (.func 20) #[] #[.pointer (some ⟨b2, 0, none⟩), .pointer (some ⟨b3, 0, none⟩), .pointer (some ⟨b1, 0, none⟩), .pointer (some ⟨b4, 0, none⟩)])] {} ?_
  refine TL.s 0 (.inl (b4, .cells #[.func (.func 20) #[] #[.pointer (some ⟨b2, 0, none⟩), .pointer (some ⟨b3, 0, none⟩), .pointer (some ⟨b1, 0, none⟩), .pointer (some ⟨b4, 0, none⟩)]] 61 (0, 0))) (fun _ => {}) ?_
  refine TL.next rfl ?_
  refine TC.seq ?_
  refine TC.region ?_
  refine TL.r 2 [0] [(10, .func (.func 20) #[] #[.pointer (some ⟨b2, 0, none⟩), .pointer (some ⟨b3, 0, none⟩), .pointer (some ⟨b1, 0, none⟩), .pointer (some ⟨b4, 0, none⟩)]), (11, .string from_)] {} ?_
  refine TL.nw 12 (fun b5 => .slice (some ⟨b5, 0, none⟩) 1 1) (fun b5 => .inl (b5, .cells #[.string from_] 9 (0, 0))) (fun b5 => {}) (fun b5 => ?_)
  refine TL.r 4 [] [(13, .agg #[.slice (some ⟨b5, 0, none⟩) 1 1, .int .i64 0])] {} ?_
  let Mp_ : Mem := [.inr (Own (some ⟨b5, 0, none⟩) 1 9 1 ([from_].map sc)), .inl (b3, .cells #[.slice none 0 0] 36 (0, 0)), .inr (Own none 0 39 2 (([] : List WayR).map WayR.c)), .inr (Bag 9 1 sc (([] : List WayR).map WayR.Names))]
  let Mr_ : Mem := [.inl (b4, .cells #[.func (.func 20) #[] #[.pointer (some ⟨b2, 0, none⟩), .pointer (some ⟨b3, 0, none⟩), .pointer (some ⟨b1, 0, none⟩), .pointer (some ⟨b4, 0, none⟩)]] 61 (0, 0)), .inl (b2, .cells #[.string to] 9 (0, 0)), .inl (b1, .cells #[.slice A_f c.Fixes.length c_f, .slice A_a c.Airways.length c_a] 25 (0, 0))]
  refine TL.conv (Mp_ ++ Mr_) (fun w hM => ?_) ?_
  · have h1 := Sat.litrow (e := 9) (sz := 1) (n := 1) hM 0 ([from_].map sc) rfl rfl rfl rfl rfl
    exact ((h1.emptyrow none 39 2).bag_nil (α := ByteArray) 9 1 sc).perm (px [2, 4, 1, 0, 3, 5, 6])
  refine TL.callM (Γ := WG (ways1 c to 8 ⟨[from_], 0⟩ (([] : List WayR).map WayR.p))) (fun _ => .tuple #[]) (fun g => [.inr (Own (some ⟨b5, 0, none⟩) 1 9 1 ([from_].map sc)), .inl (b3, .cells #[.slice g.A g.rows.length g.cap] 36 (0, 0)), .inr (Own g.A g.cap 39 2 (g.rows.map WayR.c)), .inr (Bag 9 1 sc (g.o.map WayR.Names)), .inr (Pack [])]) Mp_ Mr_ (some 14) (fun _ => [(7, .pointer (some ⟨b3, 0, none⟩))])
    (fun w' hM => ways_rec (w0 := ⟨w', feet Mp_⟩) (c := c) (to := to) (at_ := ⟨b2, 0, none⟩) (ac := ⟨b1, 0, none⟩) (ak := ⟨b4, 0, none⟩) (bb := b3) (A_f := A_f) (c_f := c_f) (A_a := A_a) (c_a := c_a) (oa := oa)
      (SRd.own (Mp := Mp_) (Mr := Mr_) hM (List.mem_of_getElem? (i := 1) rfl) (Rd.lit hM 5 _ rfl (by kernel_rfl) (by kernel_rfl) (by kernel_rfl))) (SRd.own (Mp := Mp_) (Mr := Mr_) hM (List.mem_of_getElem? (i := 2) rfl) (Rd.lit hM 6 _ rfl (by kernel_rfl) (by kernel_rfl) (by kernel_rfl)))
      (SRd.own (Mp := Mp_) (Mr := Mr_) hM (List.mem_of_getElem? (i := 0) rfl) (Rd.lit hM 4 _ rfl (by kernel_rfl) (by kernel_rfl) (by kernel_rfl))) (SRd.old hf hM) hfl (SRd.old ha hM) hal (fun h s hs => ⟨(SRd.old (hd s hs).rd hM).sat h, (hd s hs).le⟩) he h7
      8 (Pack []) (some ⟨b5, 0, none⟩) 1 ⟨[from_], 0⟩ none 0 [] [] w' rfl (Nat.le_refl _) (by simp) (fun s hs => by rw [List.mem_singleton.1 hs]; exact hx) (fun r hr => by cases hr) (Nat.zero_le _) (Sat.pack (M1 := Mp_) (M2 := []) (by rw [List.append_nil]; exact Sat.given hM))) (by kernel_rfl) (fun g => by kernel_rfl) ?_
  rintro ⟨A2, cap2, rows2, o2, heq, hs2, _⟩
  have heq2 : skywayref1_Ways c from_ to = rows2.map WayR.p := heq.symm
  refine TL.next rfl ?_
  refine TC.seq ?_
  refine TC.region ?_
  refine TL.r 2 [1] [(6, .slice A2 rows2.length cap2)] {} ?_
  refine TL.next rfl ?_
  refine TC.ret ?_
  refine TE.conv [.inr (Fact (skywayref1_Ways c from_ to = rows2.map WayR.p)), .inr (Own A2 cap2 39 2 (rows2.map WayR.c)), .inr (Bag 9 1 sc (rows2.map WayR.Names))] (fun w hM => ?_) ?_
  · have h1 := Sat.sub (M' := [.inr (Own A2 cap2 39 2 (rows2.map WayR.c)), .inr (Bag 9 1 sc (o2.map WayR.Names))]) hM (sb 12)
    have h2 := Sat.bag_sub (e := 9) (sz := 1) (c := sc) (l := o2.map WayR.Names) (l' := rows2.map WayR.Names) (M := [.inr (Own A2 cap2 39 2 (rows2.map WayR.c))]) (h1.perm (px [1, 0])) fun s hs => by
      obtain ⟨r, hr, e⟩ := List.mem_map.1 hs
      exact List.mem_map.2 ⟨r, hs2 r hr, e⟩
    exact (h2.perm (px [1, 0])).fact heq2
  exact TE.retM (.inl rfl) ((A2, cap2), rows2) [] (.slice A2 rows2.length cap2) {} (by rw [heq2, List.length_map]) (fun _ hM => hM)
end Go.Sky
end
section
namespace Go.Sky
open Go Go.Eng Go.Proofs
def skywaylaw1_ShortestWays_L1 (from_ : ByteArray) (to : ByteArray) : List Fix → Nat → Int → Int
  | [], _, known => known
  | x :: xs, k, known => cond (seq x.Name from_) (
      cond (seq x.Name to) (
        skywaylaw1_ShortestWays_L1 from_ to xs (k + 1) (w64 ((w64 (known + 1)) + 1))) (
        skywaylaw1_ShortestWays_L1 from_ to xs (k + 1) (w64 (known + 1)))) (
      cond (seq x.Name to) (
        skywaylaw1_ShortestWays_L1 from_ to xs (k + 1) (w64 (known + 1))) (
        skywaylaw1_ShortestWays_L1 from_ to xs (k + 1) known))
def skywaylaw1_ShortestWays (c : Chart) (from_ : ByteArray) (to : ByteArray) : Bool :=
  let r1 := skywaylaw1_shortestWorks
  cond (!r1) (
    false) (
    cond (decide ((c.Fixes.length : Int) > 7)) (
      true) (
      let r2 := chart_Check c
      cond (r2 != 0) (
        true) (
        let r3 := shortest_Path c from_ to
        let r4 := shortest_Second c from_ to
        bindv (skywaylaw1_ShortestWays_L1 from_ to c.Fixes 0 0) (fun known_2 =>
          cond (decide (known_2 < 2)) (
            ((r3.2.2 == 6) && (r4.2.2 == 6)) && ((w64 ((w64 ((w64 ((r3.1.length : Int) + (r4.1.length : Int))) + r3.2.1)) + r4.2.1)) == 0)) (
            let r5 := skywayref1_Ways c from_ to
            cond ((r5.length : Int) == 0) (
              ((r3.2.2 == 8) && (r4.2.2 == 8)) && ((w64 ((w64 ((w64 ((r3.1.length : Int) + (r4.1.length : Int))) + r3.2.1)) + r4.2.1)) == 0)) (
              cond (r3.2.2 != 0) (
                false) (
                cond (r3.2.1 != ((r5[0]?.getD Way.zero).Length)) (
                  false) (
                  let r6 := skywayref1_SameTexts r3.1 ((r5[0]?.getD Way.zero).Names)
                  cond (!r6) (
                    false) (
                    cond ((r5.length : Int) == 1) (
                      (r4.2.2 == 8) && ((w64 ((r4.1.length : Int) + r4.2.1)) == 0)) (
                      cond (r4.2.2 == 0) (
                        cond (r4.2.1 == ((r5[1]?.getD Way.zero).Length)) (
                          let r7 := skywayref1_SameTexts r4.1 ((r5[1]?.getD Way.zero).Names)
                          r7) (
                          false)) (
                        false)))))))))))
def inN (s : ByteArray) (xs : List Fix) : Int := cond (xs.any fun x => seq x.Name s) 1 0
theorem inN_cons {x : Fix} {xs : List Fix} {s : ByteArray} (h : x.Name ∉ xs.map Fix.Name) : inN s (x :: xs) = cond (seq x.Name s) 1 0 + inN s xs := by
  unfold inN
  rw [List.any_cons]
  cases e : seq x.Name s with
  | false => rw [Bool.false_or, cond_false]; omega
  | true =>
    have e2 : (xs.any fun x => seq x.Name s) = false := by
      rw [List.any_eq_false]
      intro y hy g
      exact h (by rw [seq_iff.1 e, ← seq_iff.1 g]; exact List.mem_map_of_mem hy)
    rw [e2]; rfl
theorem inN_is (s : ByteArray) (xs : List Fix) : (inN s xs = 1 ∧ s ∈ xs.map Fix.Name) ∨ (inN s xs = 0 ∧ s ∉ xs.map Fix.Name) := by
  unfold inN
  cases e : (xs.any fun x => seq x.Name s) with
  | true =>
    obtain ⟨y, hy, g⟩ := List.any_eq_true.1 e
    exact .inl ⟨rfl, by rw [← seq_iff.1 g]; exact List.mem_map_of_mem hy⟩
  | false =>
    refine .inr ⟨rfl, fun g => ?_⟩
    obtain ⟨y, hy, g⟩ := List.mem_map.1 g
    exact List.any_eq_false.1 e y hy (seq_iff.2 g)
theorem known_L1 {f t : ByteArray} : ∀ (xs : List Fix) (k : Nat) (v : Int), 0 ≤ v → v + 2 * (xs.length : Int) ≤ 1000 → (xs.map Fix.Name).Nodup → skywaylaw1_ShortestWays_L1 f t xs k v = v + inN f xs + inN t xs
  | [], _, v, _, _, _ => by simp [skywaylaw1_ShortestWays_L1, inN]
  | x :: xs, k, v, h0, h1, hn => by
    have hx := (List.nodup_cons.1 hn).1
    have hn2 := (List.nodup_cons.1 hn).2
    rw [List.length_cons] at h1
    rw [inN_cons hx, inN_cons hx]
    unfold skywaylaw1_ShortestWays_L1
    cases seq x.Name f <;> cases seq x.Name t <;> simp only [cond_true, cond_false]
    · rw [known_L1 xs (k + 1) v h0 (by omega) hn2]; omega
    · rw [w64_id (by omega), known_L1 xs (k + 1) (v + 1) (by omega) (by omega) hn2]; omega
    · rw [w64_id (by omega), known_L1 xs (k + 1) (v + 1) (by omega) (by omega) hn2]; omega
    · rw [w64_id (x := v + 1) (by omega), w64_id (by omega), known_L1 xs (k + 1) (v + 1 + 1) (by omega) (by omega) hn2]; omega
theorem known_both {c : Chart} {f t : ByteArray} {K : Int} (hc : chart_Check c = 0) (h : skywaylaw1_ShortestWays_L1 f t c.Fixes 0 0 = K) : (K < 2 ∧ ¬ (f ∈ c.Fixes.map Fix.Name ∧ t ∈ c.Fixes.map Fix.Name)) ∨ (¬ K < 2 ∧ f ∈ c.Fixes.map Fix.Name ∧ t ∈ c.Fixes.map Fix.Name) := by
  have C := chk_is hc
  have := C.few.1
  rw [known_L1 c.Fixes 0 0 (Int.le_refl _) (by omega) (names_nd C)] at h
  rcases inN_is f c.Fixes with ⟨a, h1⟩ | ⟨a, h1⟩ <;> rcases inN_is t c.Fixes with ⟨b, h2⟩ | ⟨b, h2⟩
  · exact .inr ⟨by omega, h1, h2⟩
  · exact .inl ⟨by omega, fun g => h2 g.2⟩
  · exact .inl ⟨by omega, fun g => h1 g.1⟩
  · exact .inl ⟨by omega, fun g => h1 g.1⟩
theorem known_from {c : Chart} {f t : ByteArray} {K : Int} (hc : chart_Check c = 0) (h : skywaylaw1_ShortestWays_L1 f t c.Fixes 0 0 = K) (h8 : decide (K < 2) = false) : ∃ x ∈ c.Fixes, x.Name = f := by
  rcases known_both hc h with g | g
  · exact absurd g.1 (of_decide_eq_false h8)
  · exact List.mem_map.1 g.2.1
set_option maxHeartbeats 4000000 in
set_option maxRecDepth 100000 in
theorem skywaylaw1_ShortestWays_w (c : Chart) (A_c_Fixes : Option Addr) (c_c_Fixes : Nat) (A_c_Airways : Option Addr) (c_c_Airways : Nat) (o_c_Airways : List (AirwayR)) (from_ : ByteArray) (to : ByteArray) (w : World) (h_c_Fixes : Rd w 3 A_c_Fixes (c.Fixes.map Fix.c)) (hc_c_Fixes : c.Fixes.length ≤ c_c_Fixes) (h_c_Airways : Rd w 2 A_c_Airways (o_c_Airways.map AirwayR.c)) (hc_c_Airways : c.Airways.length ≤ c_c_Airways) (hd_c_Airways : ∀ s ∈ (o_c_Airways.map AirwayR.Fixes), s.rd w 1 sc) (_he_c_Airways : c.Airways = o_c_Airways.map AirwayR.p) : Calls Try.prog 3 #[.agg #[.slice A_c_Fixes c.Fixes.length c_c_Fixes, .slice A_c_Airways c.Airways.length c_c_Airways], .string from_, .string to] w (Ret w (.bool (skywaylaw1_ShortestWays c from_ to))) := by
  have s_c_Fixes := h_c_Fixes.short; rw [List.length_map] at s_c_Fixes
  have s_c_Airways := h_c_Airways.short; rw [← dl_len _he_c_Airways] at s_c_Airways
  refine calls_intro (vs := [.agg #[.slice A_c_Fixes c.Fixes.length c_c_Fixes, .slice A_c_Airways c.Airways.length c_c_Airways], .string from_, .string to]) (w := w) Try.func3 rfl Try.ntmps3 rfl ?_
  refine TC.seq ?_
  refine TC.region ?_
  refine TL.nw 3 (fun b1 => .pointer (some ⟨b1, 0, none⟩)) (fun b1 => .inl (b1, .cells #[.slice A_c_Fixes c.Fixes.length c_c_Fixes, .slice A_c_Airways c.Airways.length c_c_Airways] 25 (0, 0))) (fun b1 => {}) (fun b1 => ?_)
  refine TL.r 2 [] [(6, .bool false)] {} ?_
  refine TL.next rfl ?_
  refine TC.seq ?_
  refine TC.seq ?_
  refine TC.region ?_
  refine TL.c 17 (skywaylaw1_shortestWorks) (fun r1 => .bool r1) (fun w _ => skywaylaw1_shortestWorks_w w) {} (fun r1 hr1 => ?_)
  refine TL.r 2 [] [(18, .bool (!r1))] {} ?_
  refine TL.next rfl ?_
  refine TC.cond (!r1) rfl (by kernel_rfl) (fun h1 => ?_) (fun h1 => ?_)
  · refine TC.seq ?_
    refine TC.region ?_
    refine TL.r 1 [] [(6, .bool false)] {} ?_
    refine TL.next rfl ?_
    refine TC.ret ?_
    refine TE.ret_then ?_
    exact TE.ret [] (.bool false) {} (by unfold skywaylaw1_ShortestWays; refine eS (fun z => (.bool z : Value)) ?_; subst hr1; exact cond_t h1 (rfl))
  · refine TC.skip ?_
    refine TE.next ?_
    refine TC.seq ?_
    refine TC.seq ?_
    refine TC.region ?_
    refine TL.r 5 [0] [(23, .bool (decide ((c.Fixes.length : Int) > 7)))] {} ?_
    refine TL.split 23 (decide ((c.Fixes.length : Int) > 7)) (by kernel_rfl) (fun h2 => ?_) (fun h2 => ?_)
    · refine TL.r 9 [] [(27, .bool true)] {} ?_
      refine TL.next rfl ?_
      refine TC.condT rfl (by kernel_rfl) ?_
      refine TC.seq ?_
      refine TC.region ?_
      refine TL.r 1 [] [(6, .bool true)] {} ?_
      refine TL.next rfl ?_
      refine TC.ret ?_
      refine TE.ret_then ?_
      exact TE.ret [] (.bool true) {} (by unfold skywaylaw1_ShortestWays; refine eS (fun z => (.bool z : Value)) ?_; subst hr1; exact cond_f h1 (cond_t h2 (rfl)))
    · have q2_0 := (dec_f h2)
      refine TL.r 6 [0] [(24, .agg #[.slice A_c_Fixes c.Fixes.length c_c_Fixes, .slice A_c_Airways c.Airways.length c_c_Airways])] {} ?_
      refine TL.c 25 (chart_Check c) (fun r2 => .int .i64 r2) (fun w hM => chart_Check_w c A_c_Fixes c_c_Fixes A_c_Airways c_c_Airways o_c_Airways w (h_c_Fixes.sat hM) hc_c_Fixes (h_c_Airways.sat hM) hc_c_Airways (fun s hs => (hd_c_Airways s hs).sat hM) _he_c_Airways) {} (fun r2 hr2 => ?_)
      refine TL.r 9 [] [(27, .bool (r2 != 0))] {} ?_
      refine TL.next rfl ?_
      refine TC.cond (r2 != 0) rfl (by kernel_rfl) (fun h3 => ?_) (fun h3 => ?_)
      · refine TC.seq ?_
        refine TC.region ?_
        refine TL.r 1 [] [(6, .bool true)] {} ?_
        refine TL.next rfl ?_
        refine TC.ret ?_
        refine TE.ret_then ?_
        exact TE.ret [] (.bool true) {} (by unfold skywaylaw1_ShortestWays; refine eS (fun z => (.bool z : Value)) ?_; subst hr1 hr2; exact cond_f h1 (cond_f h2 (cond_t h3 (rfl))))
      · have q3_0 := (bne_f h3)
        refine TC.skip ?_
        refine TE.next ?_
        refine TC.seq ?_
        refine TC.region ?_
        refine TL.r 3 [0] [(29, .agg #[.slice A_c_Fixes c.Fixes.length c_c_Fixes, .slice A_c_Airways c.Airways.length c_c_Airways]), (30, .string from_), (31, .string to)] {} ?_
        refine TL.cn (Γ := (Option Addr × Nat)) 32 (shortest_Path c from_ to) (fun r3 g => .tuple #[.slice g.1 r3.1.length g.2, .int .i64 r3.2.1, .int .i64 r3.2.2]) (fun r3 g => [.inr (Own g.1 g.2 9 1 (r3.1.map sc))]) (fun w hM => shortest_Path_w c A_c_Fixes c_c_Fixes A_c_Airways c_c_Airways o_c_Airways from_ to w (h_c_Fixes.sat hM) hc_c_Fixes (h_c_Airways.sat hM) hc_c_Airways (fun s hs => (hd_c_Airways s hs).sat hM) _he_c_Airways sg) {} (fun r3 hr3 => ?_)
        rintro ⟨A, c_2⟩
        refine TL.know (fun w hM => hM.short_at 0 rfl) (fun s_r3_0 => ?_)
        refine TL.r 11 [] [(7, .slice A r3.1.length c_2), (8, .int .i64 r3.2.1), (9, .int .i64 r3.2.2)] {} ?_
        refine TL.next rfl ?_
        refine TC.seq ?_
        refine TC.region ?_
        refine TL.r 3 [1] [(37, .agg #[.slice A_c_Fixes c.Fixes.length c_c_Fixes, .slice A_c_Airways c.Airways.length c_c_Airways]), (38, .string from_), (39, .string to)] {} ?_
        refine TL.cn (Γ := (Option Addr × Nat)) 40 (shortest_Second c from_ to) (fun r4 g => .tuple #[.slice g.1 r4.1.length g.2, .int .i64 r4.2.1, .int .i64 r4.2.2]) (fun r4 g => [.inr (Own g.1 g.2 9 1 (r4.1.map sc))]) (fun w hM => shortest_Second_w c A_c_Fixes c_c_Fixes A_c_Airways c_c_Airways o_c_Airways from_ to w (h_c_Fixes.sat hM) hc_c_Fixes (h_c_Airways.sat hM) hc_c_Airways (fun s hs => (hd_c_Airways s hs).sat hM) _he_c_Airways sg) {} (fun r4 hr4 => ?_)
        rintro ⟨A_2, c_3⟩
        refine TL.know (fun w hM => hM.short_at 0 rfl) (fun s_r4_0 => ?_)
        refine TL.r 11 [] [(10, .slice A_2 r4.1.length c_3), (11, .int .i64 r4.2.1), (12, .int .i64 r4.2.2)] {} ?_
        refine TL.next rfl ?_
        refine TC.seq ?_
        refine TC.region ?_
        refine TL.r 1 [] [(13, .int .i64 0)] {} ?_
        refine TL.next rfl ?_
        refine TC.seq ?_
        refine TC.seq ?_
        refine TC.region ?_
        refine TL.r 4 [2] [(45, .slice A_c_Fixes c.Fixes.length c_c_Fixes), (46, .int .i64 (c.Fixes.length : Int)), (47, .int .i64 0)] {} ?_
        refine TL.next rfl ?_
        obtain ⟨R1, hR⟩ : ∃ R, R = skywaylaw1_ShortestWays_L1 from_ to c.Fixes 0 0 := ⟨_, rfl⟩
        refine TC.cut (S := Int) (fun known_2 => [(1, .string from_), (2, .string to), (3, .pointer (some ⟨b1, 0, none⟩)), (7, .slice A r3.1.length c_2), (8, .int .i64 r3.2.1), (9, .int .i64 r3.2.2), (10, .slice A_2 r4.1.length c_3), (11, .int .i64 r4.2.1), (12, .int .i64 r4.2.2), (13, .int .i64 known_2)]) (fun known_2 => [.inr (Own A_2 c_3 9 1 (r4.1.map sc)), .inr (Own A c_2 9 1 (r3.1.map sc)), .inl (b1, .cells #[.slice A_c_Fixes c.Fixes.length c_c_Fixes, .slice A_c_Airways c.Airways.length c_c_Airways] 25 (0, 0))]) (fun known_2 => R1 = known_2) ?_ ?_
        · refine TC.block ?_
          refine TC.lw (X := Nat × Int) (fun (k, known) => [(1, .string from_), (2, .string to), (3, .pointer (some ⟨b1, 0, none⟩)), (7, .slice A r3.1.length c_2), (8, .int .i64 r3.2.1), (9, .int .i64 r3.2.2), (10, .slice A_2 r4.1.length c_3), (11, .int .i64 r4.2.1), (12, .int .i64 r4.2.2), (13, .int .i64 known), (45, .slice A_c_Fixes c.Fixes.length c_c_Fixes), (46, .int .i64 (c.Fixes.length : Int)), (47, .int .i64 (k : Int))]) (fun (k, known) => [.inr (Own A_2 c_3 9 1 (r4.1.map sc)), .inr (Own A c_2 9 1 (r3.1.map sc)), .inl (b1, .cells #[.slice A_c_Fixes c.Fixes.length c_c_Fixes, .slice A_c_Airways c.Airways.length c_c_Airways] 25 (0, 0))]) (fun (k, known) => c.Fixes.length - k) (fun (k, known) => k ≤ c.Fixes.length ∧ R1 = skywaylaw1_ShortestWays_L1 from_ to (c.Fixes.drop k) k known) ?_ (0, 0) ⟨Nat.zero_le _, hR⟩ (by kernel_rfl) (sb 7)
          rintro ⟨k, known⟩ ⟨hk, hI⟩
          refine TC.seq ?_
          refine TC.region ?_
          refine TL.r 1 [] [(48, .bool (decide ((k : Int) < (c.Fixes.length : Int))))] {} ?_
          refine TL.next rfl ?_
          refine TC.seq ?_
          refine TC.cond (decide ((k : Int) < (c.Fixes.length : Int))) rfl (by kernel_rfl) (fun h4 => ?_) (fun h4 => ?_)
          · have hlt := ltN h4
            obtain ⟨x, hx⟩ := elN hlt
            have hd := drop_at hx
            refine TC.skip ?_
            refine TE.next ?_
            refine TC.seq ?_
            refine TC.block ?_
            refine TC.seq ?_
            refine TC.region ?_
            refine TL.v (sV (Instr.indexAt 22 (.slice A_c_Fixes c.Fixes.length c_c_Fixes) (.int .i64 (k : Int)))) 49 (.pointer (some ((A_c_Fixes.getD noAddr).add (k * 3)))) (fun w hM => run_index (h_c_Fixes.sat hM) (by simp) (by kernel_rfl) sd sd) {} ?_
            refine TL.v (sV (Instr.loadAt 35 (.pointer (some ((A_c_Fixes.getD noAddr).add (k * 3)))))) 50 (Fix.v x) (fun w hM => run_load_agg (n := 3) (off := 0) (i := k) (Fix.v x) (h_c_Fixes.sat hM) (map_at hx) (by kernel_rfl) (by kernel_rfl) (by kernel_rfl)) {} ?_
            refine TL.nw 15 (fun b2 => .pointer (some ⟨b2, 0, none⟩)) (fun b2 => .inl (b2, .cells (Fix.c Fix.zero) 35 (0, 0))) (fun b2 => {}) (fun b2 => ?_)
            refine TL.s 0 (.inl (b2, .cells (Fix.c x) 35 (0, 0))) (fun _ => {}) ?_
            refine TL.next rfl ?_
            refine TC.seq ?_
            refine TC.seq ?_
            refine TC.region ?_
            refine TL.r 4 [0] [(54, .bool (seq x.Name from_))] {} ?_
            refine TL.next rfl ?_
            refine TC.cond (seq x.Name from_) rfl (by kernel_rfl) (fun h5 => ?_) (fun h5 => ?_)
            · refine TC.region ?_
              refine TL.r 3 [] [(13, .int .i64 (w64 (known + 1)))] {} ?_
              refine TL.next rfl ?_
              refine TC.seq ?_
              refine TC.region ?_
              refine TL.r 4 [0] [(60, .bool (seq x.Name to))] {} ?_
              refine TL.next rfl ?_
              refine TC.cond (seq x.Name to) rfl (by kernel_rfl) (fun h6 => ?_) (fun h6 => ?_)
              · refine TC.region ?_
                refine TL.r 3 [] [(13, .int .i64 (w64 ((w64 (known + 1)) + 1)))] {} ?_
                refine TL.done rfl ?_
                refine TE.normal_block ?_
                refine TE.next ?_
                refine TC.region ?_
                refine TL.r 2 [] [(47, .int .i64 (w64 ((k : Int) + 1)))] {} ?_
                refine TL.done rfl ?_
                refine TE.rw 47 (.int .i64 (w64 ((k : Int) + 1))) (.int .i64 ((k + 1 : Nat) : Int)) (by kernel_rfl) (w64_cast k (by omega)) ?_
                exact TE.again (x := (k, known)) (k + 1, w64 ((w64 (known + 1)) + 1)) ⟨by omega, hI.trans (by subst hr1 hr2 hr3 hr4; rw [hd]; exact cond_t h5 (cond_t h6 (rfl)))⟩ (mN hlt) (by kernel_rfl) (sb 14)
              · refine TC.skip ?_
                refine TE.normal_block ?_
                refine TE.next ?_
                refine TC.region ?_
                refine TL.r 2 [] [(47, .int .i64 (w64 ((k : Int) + 1)))] {} ?_
                refine TL.done rfl ?_
                refine TE.rw 47 (.int .i64 (w64 ((k : Int) + 1))) (.int .i64 ((k + 1 : Nat) : Int)) (by kernel_rfl) (w64_cast k (by omega)) ?_
                exact TE.again (x := (k, known)) (k + 1, w64 (known + 1)) ⟨by omega, hI.trans (by subst hr1 hr2 hr3 hr4; rw [hd]; exact cond_t h5 (cond_f h6 (rfl)))⟩ (mN hlt) (by kernel_rfl) (sb 14)
            · refine TC.skip ?_
              refine TE.next ?_
              refine TC.seq ?_
              refine TC.region ?_
              refine TL.r 4 [0] [(60, .bool (seq x.Name to))] {} ?_
              refine TL.next rfl ?_
              refine TC.cond (seq x.Name to) rfl (by kernel_rfl) (fun h7 => ?_) (fun h7 => ?_)
              · refine TC.region ?_
                refine TL.r 3 [] [(13, .int .i64 (w64 (known + 1)))] {} ?_
                refine TL.done rfl ?_
                refine TE.normal_block ?_
                refine TE.next ?_
                refine TC.region ?_
                refine TL.r 2 [] [(47, .int .i64 (w64 ((k : Int) + 1)))] {} ?_
                refine TL.done rfl ?_
                refine TE.rw 47 (.int .i64 (w64 ((k : Int) + 1))) (.int .i64 ((k + 1 : Nat) : Int)) (by kernel_rfl) (w64_cast k (by omega)) ?_
                exact TE.again (x := (k, known)) (k + 1, w64 (known + 1)) ⟨by omega, hI.trans (by subst hr1 hr2 hr3 hr4; rw [hd]; exact cond_f h5 (cond_t h7 (rfl)))⟩ (mN hlt) (by kernel_rfl) (sb 14)
              · refine TC.skip ?_
                refine TE.normal_block ?_
                refine TE.next ?_
                refine TC.region ?_
                refine TL.r 2 [] [(47, .int .i64 (w64 ((k : Int) + 1)))] {} ?_
                refine TL.done rfl ?_
                refine TE.rw 47 (.int .i64 (w64 ((k : Int) + 1))) (.int .i64 ((k + 1 : Nat) : Int)) (by kernel_rfl) (w64_cast k (by omega)) ?_
                exact TE.again (x := (k, known)) (k + 1, known) ⟨by omega, hI.trans (by subst hr1 hr2 hr3 hr4; rw [hd]; exact cond_f h5 (cond_f h7 (rfl)))⟩ (mN hlt) (by kernel_rfl) (sb 14)
          · have hd := dropN h4
            refine TC.exit ?_
            refine TE.exit_then (TE.exit_then (TE.exit_same ?_))
            exact TE.cut known (hI.trans (by subst hr1 hr2 hr3 hr4; rw [hd]; exact rfl)) (by kernel_rfl) (sb 7)
        · rintro known_2 hJ
          refine TE.next ?_
          refine TC.seq ?_
          refine TC.seq ?_
          refine TC.region ?_
          refine TL.r 2 [] [(65, .bool (decide (known_2 < 2)))] {} ?_
          refine TL.next rfl ?_
          refine TC.cond (decide (known_2 < 2)) rfl (by kernel_rfl) (fun h8 => ?_) (fun h8 => ?_)
          · refine TC.seq ?_
            refine TC.region ?_
            refine TL.r 3 [] [(68, .bool (r3.2.2 == 6))] {} ?_
            refine TL.j 68 (r3.2.2 == 6) 6 [] [] (fun β => [(71, .bool (β && (r4.2.2 == 6)))]) (by kernel_rfl) {} {} ?_
            refine TL.r 7 [] [(72, .bool ((r3.2.2 == 6) && (r4.2.2 == 6)))] {} ?_
            refine TL.j 72 ((r3.2.2 == 6) && (r4.2.2 == 6)) 18 [] [] (fun β => [(83, .bool (β && ((w64 ((w64 ((w64 ((r3.1.length : Int) + (r4.1.length : Int))) + r3.2.1)) + r4.2.1)) == 0)))]) (by kernel_rfl) {} {} ?_
            refine TL.r 19 [] [(6, .bool (((r3.2.2 == 6) && (r4.2.2 == 6)) && ((w64 ((w64 ((w64 ((r3.1.length : Int) + (r4.1.length : Int))) + r3.2.1)) + r4.2.1)) == 0)))] {} ?_
            refine TL.next rfl ?_
            refine TC.ret ?_
            refine TE.ret_then ?_
            exact TE.ret [] (.bool (((r3.2.2 == 6) && (r4.2.2 == 6)) && ((w64 ((w64 ((w64 ((r3.1.length : Int) + (r4.1.length : Int))) + r3.2.1)) + r4.2.1)) == 0))) {} (by unfold skywaylaw1_ShortestWays; refine eS (fun z => (.bool z : Value)) ?_; subst hr1 hr2 hr3 hr4; exact cond_f h1 (cond_f h2 (cond_f h3 (bindv_eq (hR.symm.trans hJ) (cond_t h8 (rfl))))))
          · have q8_0 := (dec_f h8)
            refine TC.skip ?_
            refine TE.next ?_
            refine TC.seq ?_
            refine TC.region ?_
            refine TL.r 3 [2] [(84, .agg #[.slice A_c_Fixes c.Fixes.length c_c_Fixes, .slice A_c_Airways c.Airways.length c_c_Airways]), (85, .string from_), (86, .string to)] {} ?_
            refine TL.cn (Γ := ((Option Addr × Nat) × List (WayR))) 87 (skywayref1_Ways c from_ to) (fun r5 g => .slice g.1.1 r5.length g.1.2) (fun r5 g => [.inr (Fact (r5 = g.2.map WayR.p)), .inr (Own g.1.1 g.1.2 39 2 (g.2.map WayR.c)), .inr (Bag 9 1 sc (g.2.map WayR.Names))]) (fun w hM => skywayref1_Ways_w c A_c_Fixes c_c_Fixes A_c_Airways c_c_Airways o_c_Airways from_ to w (h_c_Fixes.sat hM) hc_c_Fixes (h_c_Airways.sat hM) hc_c_Airways (fun s hs => (hd_c_Airways s hs).sat hM) _he_c_Airways sg (known_from (hr2.trans (bne_f h3)) (hR.symm.trans hJ) h8)) {} (fun r5 hr5 => ?_)
            rintro ⟨⟨A_3, c_4⟩, o⟩
            refine TL.know (fun w hM => hM.fact_at 0 rfl) (fun he_r5_0 => ?_)
            refine TL.forget [.inr (Own A_3 c_4 39 2 (o.map WayR.c)), .inr (Bag 9 1 sc (o.map WayR.Names)), .inr (Own A_2 c_3 9 1 (r4.1.map sc)), .inr (Own A c_2 9 1 (r3.1.map sc)), .inl (b1, .cells #[.slice A_c_Fixes c.Fixes.length c_c_Fixes, .slice A_c_Airways c.Airways.length c_c_Airways] 25 (0, 0))] (.cons _ (List.Sublist.refl _)) ?_
            refine TL.know (fun w hM => hM.short_at 0 rfl) (fun s_r5_0 => ?_)
            have sl_he_r5_0 := dl_len' he_r5_0
            refine TL.r 5 [] [(16, .slice A_3 r5.length c_4)] {} ?_
            refine TL.next rfl ?_
            refine TC.seq ?_
            refine TC.seq ?_
            refine TC.region ?_
            refine TL.r 3 [] [(90, .bool ((r5.length : Int) == 0))] {} ?_
            refine TL.next rfl ?_
            refine TC.cond ((r5.length : Int) == 0) rfl (by kernel_rfl) (fun h9 => ?_) (fun h9 => ?_)
            · refine TC.seq ?_
              refine TC.region ?_
              refine TL.r 3 [] [(93, .bool (r3.2.2 == 8))] {} ?_
              refine TL.j 93 (r3.2.2 == 8) 6 [] [] (fun β => [(96, .bool (β && (r4.2.2 == 8)))]) (by kernel_rfl) {} {} ?_
              refine TL.r 7 [] [(97, .bool ((r3.2.2 == 8) && (r4.2.2 == 8)))] {} ?_
              refine TL.j 97 ((r3.2.2 == 8) && (r4.2.2 == 8)) 18 [] [] (fun β => [(108, .bool (β && ((w64 ((w64 ((w64 ((r3.1.length : Int) + (r4.1.length : Int))) + r3.2.1)) + r4.2.1)) == 0)))]) (by kernel_rfl) {} {} ?_
              refine TL.r 19 [] [(6, .bool (((r3.2.2 == 8) && (r4.2.2 == 8)) && ((w64 ((w64 ((w64 ((r3.1.length : Int) + (r4.1.length : Int))) + r3.2.1)) + r4.2.1)) == 0)))] {} ?_
              refine TL.next rfl ?_
              refine TC.ret ?_
              refine TE.ret_then ?_
              exact TE.ret [] (.bool (((r3.2.2 == 8) && (r4.2.2 == 8)) && ((w64 ((w64 ((w64 ((r3.1.length : Int) + (r4.1.length : Int))) + r3.2.1)) + r4.2.1)) == 0))) {} (by unfold skywaylaw1_ShortestWays; refine eS (fun z => (.bool z : Value)) ?_; subst hr1 hr2 hr3 hr4 hr5; exact cond_f h1 (cond_f h2 (cond_f h3 (bindv_eq (hR.symm.trans hJ) (cond_f h8 (cond_t h9 (rfl)))))))
            · have q9_0 := (beq_f h9)
              refine TC.skip ?_
              refine TE.next ?_
              refine TC.seq ?_
              refine TC.seq ?_
              refine TC.region ?_
              refine TL.r 3 [] [(111, .bool (r3.2.2 != 0))] {} ?_
              refine TL.split 111 (r3.2.2 != 0) (by kernel_rfl) (fun h10 => ?_) (fun h10 => ?_)
              · refine TL.r 19 [] [(127, .bool true)] {} ?_
                refine TL.next rfl ?_
                refine TC.condT rfl (by kernel_rfl) ?_
                refine TC.seq ?_
                refine TC.region ?_
                refine TL.r 1 [] [(6, .bool false)] {} ?_
                refine TL.next rfl ?_
                refine TC.ret ?_
                refine TE.ret_then ?_
                exact TE.ret [] (.bool false) {} (by unfold skywaylaw1_ShortestWays; refine eS (fun z => (.bool z : Value)) ?_; subst hr1 hr2 hr3 hr4 hr5; exact cond_f h1 (cond_f h2 (cond_f h3 (bindv_eq (hR.symm.trans hJ) (cond_f h8 (cond_f h9 (cond_t h10 (rfl))))))))
              · have q10_0 := (bne_f h10)
                refine TL.r 5 [] [(112, .int .i64 r3.2.1), (113, .slice A_3 r5.length c_4)] {} ?_
                refine TL.v (sV (Instr.indexAt 36 (.slice A_3 r5.length c_4) (.int .i64 0))) 114 (.pointer (some ((A_3.getD noAddr).add (0 * 2)))) (fun w hM => run_index (hM.rd_at 0 rfl) (dl_len he_r5_0) (by kernel_rfl) sd sd) {} ?_
                refine TL.r 7 [] [(115, .pointer (some (((A_3.getD noAddr).add (0 * 2)).add 1)))] {} ?_
                refine TL.v (sV (Instr.loadAt 3 (.pointer (some (((A_3.getD noAddr).add (0 * 2)).add 1))))) 116 (.int .i64 ((r5[0]?.getD Way.zero).Length)) (fun w hM => (by have h := run_load_one (P := Try.prog) (T := 3) (off := 1) (i := 0) (.int .i64 ((o[0]?.getD WayR.zero).Length)) (hM.rd_at 0 rfl) (map_at (getD_at _ _ WayR.zero (dl_lt he_r5_0 sd))) (by kernel_rfl) (by kernel_rfl); have e_ : (o[0]?.getD WayR.zero).Length = ((r5[0]?.getD Way.zero).Length) := congrArg Way.Length (show WayR.p (o[0]?.getD WayR.zero) = (r5[0]?.getD Way.zero) from dl_get (z := WayR.zero) he_r5_0 0); rw [e_] at h; exact h)) {} ?_
                refine TL.r 11 [] [(119, .bool (r3.2.1 != ((r5[0]?.getD Way.zero).Length)))] {} ?_
                refine TL.split 119 (r3.2.1 != ((r5[0]?.getD Way.zero).Length)) (by kernel_rfl) (fun h11 => ?_) (fun h11 => ?_)
                · refine TL.r 19 [] [(127, .bool true)] {} ?_
                  refine TL.next rfl ?_
                  refine TC.condT rfl (by kernel_rfl) ?_
                  refine TC.seq ?_
                  refine TC.region ?_
                  refine TL.r 1 [] [(6, .bool false)] {} ?_
                  refine TL.next rfl ?_
                  refine TC.ret ?_
                  refine TE.ret_then ?_
                  exact TE.ret [] (.bool false) {} (by unfold skywaylaw1_ShortestWays; refine eS (fun z => (.bool z : Value)) ?_; subst hr1 hr2 hr3 hr4 hr5; exact cond_f h1 (cond_f h2 (cond_f h3 (bindv_eq (hR.symm.trans hJ) (cond_f h8 (cond_f h9 (cond_f h10 (cond_t h11 (rfl)))))))))
                · have q11_0 := (bne_f h11)
                  refine TL.r 13 [] [(120, .slice A r3.1.length c_2), (121, .slice A_3 r5.length c_4)] {} ?_
                  refine TL.v (sV (Instr.indexAt 36 (.slice A_3 r5.length c_4) (.int .i64 0))) 122 (.pointer (some ((A_3.getD noAddr).add (0 * 2)))) (fun w hM => run_index (hM.rd_at 0 rfl) (dl_len he_r5_0) (by kernel_rfl) sd sd) {} ?_
                  refine TL.r 15 [] [(123, .pointer (some ((A_3.getD noAddr).add (0 * 2))))] {} ?_
                  refine TL.v (sV (Instr.loadAt 29 (.pointer (some ((A_3.getD noAddr).add (0 * 2)))))) 124 (.slice ((o[0]?.getD WayR.zero).Names.A) ((r5[0]?.getD Way.zero).Names.length) ((o[0]?.getD WayR.zero).Names.cap)) (fun w hM => (by have h := run_load_one (P := Try.prog) (T := 29) (off := 0) (i := 0) (.slice (o[0]?.getD WayR.zero).Names.A (o[0]?.getD WayR.zero).Names.l.length (o[0]?.getD WayR.zero).Names.cap) (hM.rd_at 0 rfl) (map_at (getD_at _ _ WayR.zero (dl_lt he_r5_0 sd))) (by kernel_rfl) (by kernel_rfl); have e_ : (o[0]?.getD WayR.zero).Names.l.length = (r5[0]?.getD Way.zero).Names.length := congrArg List.length (congrArg Way.Names (show WayR.p (o[0]?.getD WayR.zero) = (r5[0]?.getD Way.zero) from dl_get (z := WayR.zero) he_r5_0 0)); rw [e_] at h; exact h)) {} ?_
                  refine TL.c 125 (skywayref1_SameTexts r3.1 ((r5[0]?.getD Way.zero).Names)) (fun r6 => .bool r6) (fun w hM => skywayref1_SameTexts_w A c_2 r3.1 ((o[0]?.getD WayR.zero).Names.A) ((o[0]?.getD WayR.zero).Names.cap) ((r5[0]?.getD Way.zero).Names) w (hM.rd_at 3 rfl) (hM.le_at 3 rfl) (el_rd (s := (o[0]?.getD WayR.zero).Names) (dl_all (S := WayR.Names) (z := WayR.zero) rfl (hM.bag_at 1 rfl) 0) (congrArg Way.Names (show WayR.p (o[0]?.getD WayR.zero) = (r5[0]?.getD Way.zero) from dl_get (z := WayR.zero) he_r5_0 0))) (el_le (s := (o[0]?.getD WayR.zero).Names) (dl_all (S := WayR.Names) (z := WayR.zero) rfl (hM.bag_at 1 rfl) 0) (congrArg Way.Names (show WayR.p (o[0]?.getD WayR.zero) = (r5[0]?.getD Way.zero) from dl_get (z := WayR.zero) he_r5_0 0)))) {} (fun r6 hr6 => ?_)
                  refine TL.r 19 [] [(127, .bool (!r6))] {} ?_
                  refine TL.next rfl ?_
                  refine TC.cond (!r6) rfl (by kernel_rfl) (fun h12 => ?_) (fun h12 => ?_)
                  · refine TC.seq ?_
                    refine TC.region ?_
                    refine TL.r 1 [] [(6, .bool false)] {} ?_
                    refine TL.next rfl ?_
                    refine TC.ret ?_
                    refine TE.ret_then ?_
                    exact TE.ret [] (.bool false) {} (by unfold skywaylaw1_ShortestWays; refine eS (fun z => (.bool z : Value)) ?_; subst hr1 hr2 hr3 hr4 hr5 hr6; exact cond_f h1 (cond_f h2 (cond_f h3 (bindv_eq (hR.symm.trans hJ) (cond_f h8 (cond_f h9 (cond_f h10 (cond_f h11 (cond_t h12 (rfl))))))))))
                  · refine TC.skip ?_
                    refine TE.next ?_
                    refine TC.seq ?_
                    refine TC.seq ?_
                    refine TC.region ?_
                    refine TL.r 3 [] [(130, .bool ((r5.length : Int) == 1))] {} ?_
                    refine TL.next rfl ?_
                    refine TC.cond ((r5.length : Int) == 1) rfl (by kernel_rfl) (fun h13 => ?_) (fun h13 => ?_)
                    · refine TC.seq ?_
                      refine TC.region ?_
                      refine TL.r 3 [] [(133, .bool (r4.2.2 == 8))] {} ?_
                      refine TL.j 133 (r4.2.2 == 8) 9 [] [] (fun β => [(139, .bool (β && ((w64 ((r4.1.length : Int) + r4.2.1)) == 0)))]) (by kernel_rfl) {} {} ?_
                      refine TL.r 10 [] [(6, .bool ((r4.2.2 == 8) && ((w64 ((r4.1.length : Int) + r4.2.1)) == 0)))] {} ?_
                      refine TL.next rfl ?_
                      refine TC.ret ?_
                      refine TE.ret_then ?_
                      exact TE.ret [] (.bool ((r4.2.2 == 8) && ((w64 ((r4.1.length : Int) + r4.2.1)) == 0))) {} (by unfold skywaylaw1_ShortestWays; refine eS (fun z => (.bool z : Value)) ?_; subst hr1 hr2 hr3 hr4 hr5 hr6; exact cond_f h1 (cond_f h2 (cond_f h3 (bindv_eq (hR.symm.trans hJ) (cond_f h8 (cond_f h9 (cond_f h10 (cond_f h11 (cond_f h12 (cond_t h13 (rfl)))))))))))
                    · have q13_0 := (beq_f h13)
                      refine TC.skip ?_
                      refine TE.next ?_
                      refine TC.seq ?_
                      refine TC.region ?_
                      refine TL.r 3 [] [(142, .bool (r4.2.2 == 0))] {} ?_
                      refine TL.split 142 (r4.2.2 == 0) (by kernel_rfl) (fun h14 => ?_) (fun h14 => ?_)
                      · have q14_0 := (beq_t h14)
                        refine TL.r 5 [] [(143, .int .i64 r4.2.1), (144, .slice A_3 r5.length c_4)] {} ?_
                        refine TL.v (sV (Instr.indexAt 36 (.slice A_3 r5.length c_4) (.int .i64 1))) 145 (.pointer (some ((A_3.getD noAddr).add (1 * 2)))) (fun w hM => run_index (hM.rd_at 0 rfl) (dl_len he_r5_0) (by kernel_rfl) sd sd) {} ?_
                        refine TL.r 7 [] [(146, .pointer (some (((A_3.getD noAddr).add (1 * 2)).add 1)))] {} ?_
                        refine TL.v (sV (Instr.loadAt 3 (.pointer (some (((A_3.getD noAddr).add (1 * 2)).add 1))))) 147 (.int .i64 ((r5[1]?.getD Way.zero).Length)) (fun w hM => (by have h := run_load_one (P := Try.prog) (T := 3) (off := 1) (i := 1) (.int .i64 ((o[1]?.getD WayR.zero).Length)) (hM.rd_at 0 rfl) (map_at (getD_at _ _ WayR.zero (dl_lt he_r5_0 sd))) (by kernel_rfl) (by kernel_rfl); have e_ : (o[1]?.getD WayR.zero).Length = ((r5[1]?.getD Way.zero).Length) := congrArg Way.Length (show WayR.p (o[1]?.getD WayR.zero) = (r5[1]?.getD Way.zero) from dl_get (z := WayR.zero) he_r5_0 1); rw [e_] at h; exact h)) {} ?_
                        refine TL.r 11 [] [(150, .bool (r4.2.1 == ((r5[1]?.getD Way.zero).Length)))] {} ?_
                        refine TL.split 150 (r4.2.1 == ((r5[1]?.getD Way.zero).Length)) (by kernel_rfl) (fun h15 => ?_) (fun h15 => ?_)
                        · have q15_0 := (beq_t h15)
                          refine TL.r 13 [] [(151, .slice A_2 r4.1.length c_3), (152, .slice A_3 r5.length c_4)] {} ?_
                          refine TL.v (sV (Instr.indexAt 36 (.slice A_3 r5.length c_4) (.int .i64 1))) 153 (.pointer (some ((A_3.getD noAddr).add (1 * 2)))) (fun w hM => run_index (hM.rd_at 0 rfl) (dl_len he_r5_0) (by kernel_rfl) sd sd) {} ?_
                          refine TL.r 15 [] [(154, .pointer (some ((A_3.getD noAddr).add (1 * 2))))] {} ?_
                          refine TL.v (sV (Instr.loadAt 29 (.pointer (some ((A_3.getD noAddr).add (1 * 2)))))) 155 (.slice ((o[1]?.getD WayR.zero).Names.A) ((r5[1]?.getD Way.zero).Names.length) ((o[1]?.getD WayR.zero).Names.cap)) (fun w hM => (by have h := run_load_one (P := Try.prog) (T := 29) (off := 0) (i := 1) (.slice (o[1]?.getD WayR.zero).Names.A (o[1]?.getD WayR.zero).Names.l.length (o[1]?.getD WayR.zero).Names.cap) (hM.rd_at 0 rfl) (map_at (getD_at _ _ WayR.zero (dl_lt he_r5_0 sd))) (by kernel_rfl) (by kernel_rfl); have e_ : (o[1]?.getD WayR.zero).Names.l.length = (r5[1]?.getD Way.zero).Names.length := congrArg List.length (congrArg Way.Names (show WayR.p (o[1]?.getD WayR.zero) = (r5[1]?.getD Way.zero) from dl_get (z := WayR.zero) he_r5_0 1)); rw [e_] at h; exact h)) {} ?_
                          refine TL.c 156 (skywayref1_SameTexts r4.1 ((r5[1]?.getD Way.zero).Names)) (fun r7 => .bool r7) (fun w hM => skywayref1_SameTexts_w A_2 c_3 r4.1 ((o[1]?.getD WayR.zero).Names.A) ((o[1]?.getD WayR.zero).Names.cap) ((r5[1]?.getD Way.zero).Names) w (hM.rd_at 2 rfl) (hM.le_at 2 rfl) (el_rd (s := (o[1]?.getD WayR.zero).Names) (dl_all (S := WayR.Names) (z := WayR.zero) rfl (hM.bag_at 1 rfl) 1) (congrArg Way.Names (show WayR.p (o[1]?.getD WayR.zero) = (r5[1]?.getD Way.zero) from dl_get (z := WayR.zero) he_r5_0 1))) (el_le (s := (o[1]?.getD WayR.zero).Names) (dl_all (S := WayR.Names) (z := WayR.zero) rfl (hM.bag_at 1 rfl) 1) (congrArg Way.Names (show WayR.p (o[1]?.getD WayR.zero) = (r5[1]?.getD Way.zero) from dl_get (z := WayR.zero) he_r5_0 1)))) {} (fun r7 hr7 => ?_)
                          refine TL.r 19 [] [(6, .bool r7)] {} ?_
                          refine TL.next rfl ?_
                          refine TC.ret ?_
                          exact TE.ret [] (.bool r7) {} (by unfold skywaylaw1_ShortestWays; refine eS (fun z => (.bool z : Value)) ?_; subst hr1 hr2 hr3 hr4 hr5 hr6 hr7; exact cond_f h1 (cond_f h2 (cond_f h3 (bindv_eq (hR.symm.trans hJ) (cond_f h8 (cond_f h9 (cond_f h10 (cond_f h11 (cond_f h12 (cond_f h13 (cond_t h14 (cond_t h15 (rfl)))))))))))))
                        · refine TL.r 19 [] [(6, .bool false)] {} ?_
                          refine TL.next rfl ?_
                          refine TC.ret ?_
                          exact TE.ret [] (.bool false) {} (by unfold skywaylaw1_ShortestWays; refine eS (fun z => (.bool z : Value)) ?_; subst hr1 hr2 hr3 hr4 hr5 hr6; exact cond_f h1 (cond_f h2 (cond_f h3 (bindv_eq (hR.symm.trans hJ) (cond_f h8 (cond_f h9 (cond_f h10 (cond_f h11 (cond_f h12 (cond_f h13 (cond_t h14 (cond_f h15 (rfl)))))))))))))
                      · refine TL.r 19 [] [(6, .bool false)] {} ?_
                        refine TL.next rfl ?_
                        refine TC.ret ?_
                        exact TE.ret [] (.bool false) {} (by unfold skywaylaw1_ShortestWays; refine eS (fun z => (.bool z : Value)) ?_; subst hr1 hr2 hr3 hr4 hr5 hr6; exact cond_f h1 (cond_f h2 (cond_f h3 (bindv_eq (hR.symm.trans hJ) (cond_f h8 (cond_f h9 (cond_f h10 (cond_f h11 (cond_f h12 (cond_f h13 (cond_f h14 (rfl))))))))))))
end Go.Sky
end
