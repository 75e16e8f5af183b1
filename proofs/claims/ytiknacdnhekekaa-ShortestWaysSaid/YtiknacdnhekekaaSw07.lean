/- Lemmas toward the given statement (part 7 of 16): Md StrSort LaysT Compact Clear. Each theorem states its own conditions; nothing is assumed beyond them. -/
import Derived.Test.YtiknacdnhekekaaSw05
import Derived.Test.YtiknacdnhekekaaSw03
import Derived.Shelf.Sort.Plain
import Derived.Shelf.Slices.In.SortNone
import Derived.Sort.OwnSorted
import Derived.Shelf.Lays
import Derived.Test.YtiknacdnhekekaaRows
section
namespace Go.Sky
open Go Go.Eng Go.Proofs
def heapq_item_int_before (a : item) (b_ : item) : Bool :=
  cond (decide (a.priority < b_.priority)) (
    true) (
    cond (a.priority == b_.priority) (
      decide (a.number < b_.number)) (
      false))
set_option maxRecDepth 100000 in
theorem heapq_item_int_before_w (a : item) (b_ : item) (w : World) : Calls Try.prog 58 #[item.v a, item.v b_] w (Ret w (.bool (heapq_item_int_before a b_))) := by
  refine calls_intro (vs := [item.v a, item.v b_]) (w := w) Try.func58 rfl Try.ntmps58 rfl (TC.sr (TL.nw 2 (fun b1 => .p0 b1) (fun b1 => Bk b1 (item.c a) 107) (fun b1 => {}) (fun b1 => TL.nw 3 (fun b2 => .p0 b2) (fun b2 => Bk b2 (item.c b_) 107) (fun b2 => {}) (fun b2 => TL.r 3 [] [(4, .b false)] {} (TL.nr (TL.r 6 [1, 0] [(10, .b (decide (a.priority < b_.priority)))] {} (TL.split 10 (decide (a.priority < b_.priority)) Kr (fun h1 => ?_) (fun h1 => ?_))))))))
  · exact TL.r 20 [] [(4, .b true)] {} (TL.next rfl (TC.ret (TE.ret [] (.b true) {} (by unfold heapq_item_int_before; refine eS (fun z => (.b z : Value)) ?_; exact cond_t h1 (rfl)))))
  · refine TL.r 12 [1, 0] [(16, .b (a.priority == b_.priority))] {} (TL.split 16 (a.priority == b_.priority) Kr (fun h2 => ?_) (fun h2 => ?_))
    · exact TL.r 20 [1, 0] [(4, .b (decide (a.number < b_.number)))] {} (TL.next rfl (TC.ret (TE.ret [] (.b (decide (a.number < b_.number))) {} (by unfold heapq_item_int_before; refine eS (fun z => (.b z : Value)) ?_; exact cond_f h1 (cond_t h2 (rfl))))))
    · exact TL.r 20 [] [(4, .b false)] {} (TL.next rfl (TC.ret (TE.ret [] (.b false) {} (by unfold heapq_item_int_before; refine eS (fun z => (.b z : Value)) ?_; exact cond_f h1 (cond_f h2 (rfl))))))
def heapq_New_int : Queue :=
  (⟨([] : List item), 0⟩ : Queue)
set_option maxRecDepth 100000 in
theorem heapq_New_int_w (w : World) (hM : Sat ⟨w, feet []⟩ [] w) : Calls Try.prog 46 #[] w (RetM (Γ := Nat × (Option Addr × Nat)) ⟨w, feet []⟩ (fun g => .pointer (some ⟨g.1, 0, none⟩)) (fun g => [.inl (g.1, .cells #[.slice g.2.1 heapq_New_int.heap.length g.2.2, .int .i64 heapq_New_int.next] 105 (0, 0)), .inr (Own g.2.1 g.2.2 107 3 (heapq_New_int.heap.map item.c))])) := by
  refine calls_introM (w0 := ⟨w, feet []⟩) (vs := []) hM Try.func46 rfl Try.ntmps46 rfl (TC.sr (TL.r 1 [] [(0, .pointer none)] {} (TL.nr (TL.r 1 [] [(1, .agg #[.slice none 0 0, .i 0])] {} (TL.nw 2 (fun b1 => .p0 b1) (fun b1 => Bk b1 #[.slice none 0 0, .i 0] 105) (fun b1 => {}) (fun b1 => TL.r 3 [] [(0, .p0 b1)] {} (TL.next rfl (TC.ret (TE.conv [Ow none 0 107 3 (([] : List item).map item.c), Bk b1 #[.slice none 0 0, .i 0] 105] (fun _ hM => hM.emptyrow none 107 3) (TE.conv [Ow none 0 107 3 (([] : List item).map item.c), Bk b1 #[.slice none (([] : List item).length) 0, .i 0] 105] (fun _ hM => hM) ?_))))))))))
  have e : heapq_New_int = (⟨([] : List item), 0⟩ : Queue) := by unfold heapq_New_int; exact rfl
  refine TE.conv [Bk b1 #[.slice none (([] : List item).length) 0, .i 0] 105, Ow none 0 107 3 (([] : List item).map item.c)] (fun _ hM => hM.perm (px [1, 0])) ?_
  rw [e]
  exact TE.retM (.inl rfl) (b1, (none, 0)) [] (.p0 b1) {} rfl (fun _ hM => hM.sub (sb 3))
def heapq_Queue_int_Len (q : Queue) : Int :=
  (q.heap.length : Int)
set_option maxRecDepth 100000 in
theorem heapq_Queue_int_Len_w (a_q : Addr) (q : Queue) (A_q_heap : Option Addr) (c_q_heap : Nat) (w : World) (h_q : Rd w 2 (some a_q) [#[.slice A_q_heap q.heap.length c_q_heap, .int .i64 q.next]]) (hr_q_heap : Rd w 3 A_q_heap (q.heap.map item.c)) (_hl_q_heap : q.heap.length ≤ c_q_heap) : Calls Try.prog 48 #[.pointer (some a_q)] w (Ret w (.int .i64 (heapq_Queue_int_Len q))) := by
  have s_q_heap := hr_q_heap.short; rw [List.length_map] at s_q_heap
  exact calls_intro (vs := [.pointer (some a_q)]) (w := w) Try.func48 rfl Try.ntmps48 rfl (TC.sr (TL.r 1 [] [(2, .i 0)] {} (TL.nr (TL.r 3 [] [(5, .pointer (some a_q))] {} (TL.v (sV (Instr.loadAt 103 (.pointer (some a_q)))) 6 (.slice A_q_heap q.heap.length c_q_heap) (fun w hM => run_load_one (off := 0) (.slice A_q_heap q.heap.length c_q_heap) (h_q.sat hM) (rows_one _) Kr Kr) {} (TL.r 6 [] [(2, .i (q.heap.length : Int))] {} (TL.next rfl (TC.ret (TE.ret [] (.i (q.heap.length : Int)) {} (by unfold heapq_Queue_int_Len; refine eS (fun z => (.i z : Value)) ?_; exact rfl))))))))))
def heapq_Queue_int_Push_L1 (q : Queue) : Nat → Int → (List item) → Option ((List item) ⊕ (Queue))
  | 0, _, _ => none
  | m + 1, i, xs_ => cond (decide (i > 0)) (
      let r1 := heapq_item_int_before (xs_[i.toNat]?.getD item.zero) (xs_[(w64 ((w64 (i - 1)).tdiv 2)).toNat]?.getD item.zero)
      cond (!r1) (
        some (.inr (⟨xs_, w64 (q.next + 1)⟩ : Queue))) (
        heapq_Queue_int_Push_L1 q m (w64 ((w64 (i - 1)).tdiv 2)) ((xs_.set i.toNat (xs_[(w64 ((w64 (i - 1)).tdiv 2)).toNat]?.getD item.zero)).set ((w64 ((w64 (i - 1)).tdiv 2)).toNat) (xs_[i.toNat]?.getD item.zero)))) (
      some (.inl xs_))
def heapq_Queue_int_Push (q : Queue) (priority : Int) (value : Int) : Queue :=
  Sum.elim (fun xs__2 =>
    (⟨xs__2, w64 (q.next + 1)⟩ : Queue)) (fun r => r) ((heapq_Queue_int_Push_L1 q (q.heap.length + 1) (w64 (((q.heap ++ ([(⟨priority, q.next, value⟩ : item)])).length : Int) - 1)) (q.heap ++ ([(⟨priority, q.next, value⟩ : item)]))).getD (.inl []))
theorem up_in {i : Int} (h : 0 < i ∧ i ≤ 1001) : w64 ((w64 (i - 1)).tdiv 2) = (i - 1) / 2 ∧ 0 ≤ (i - 1) / 2 ∧ (i - 1) / 2 < i := by
  have d1 : (i - 1).tdiv 2 = (i - 1) / 2 := Int.tdiv_eq_ediv_of_nonneg (by omega)
  rw [w64_id (x := i - 1) (by omega), d1, w64_id (by omega)]
  omega
theorem push_total {q : Queue} : ∀ (m : Nat) (i : Int) (xs : List item), 0 ≤ i → i ≤ 1001 → i ≤ (m : Int) → ∃ R, heapq_Queue_int_Push_L1 q (m + 1) i xs = some R
  | m, i, xs, h0, h1, hm => by
    unfold heapq_Queue_int_Push_L1
    cases h : decide (i > 0) with
    | false => exact ⟨_, rfl⟩
    | true =>
      have hi := of_decide_eq_true h
      obtain ⟨m, rfl⟩ : ∃ k, m = k + 1 := ⟨m - 1, by omega⟩
      have u := up_in (i := i) (by omega)
      rw [cond_true]
      simp only
      cases (!heapq_item_int_before (xs[i.toNat]?.getD item.zero) (xs[(w64 ((w64 (i - 1)).tdiv 2)).toNat]?.getD item.zero)) with
      | true => exact ⟨_, rfl⟩
      | false => exact push_total m _ _ (by omega) (by omega) (by omega)
theorem push_first {q : Queue} {x : item} (h : q.heap.length ≤ 1000) : w64 (((q.heap ++ [x]).length : Int) - 1) = (q.heap.length : Int) := by
  rw [List.length_append, List.length_singleton, w64_id (by omega)]
  omega
set_option maxRecDepth 100000 in
theorem heapq_Queue_int_Push_w (b_q : Nat) (q : Queue) (A_q_heap : Option Addr) (c_q_heap : Nat) (priority : Int) (value : Int) (w : World) (hM : Sat ⟨w, feet [.inl (b_q, .cells #[.slice A_q_heap q.heap.length c_q_heap, .int .i64 q.next] 105 (0, 0)), .inr (Own A_q_heap c_q_heap 107 3 (q.heap.map item.c))]⟩ [.inl (b_q, .cells #[.slice A_q_heap q.heap.length c_q_heap, .int .i64 q.next] 105 (0, 0)), .inr (Own A_q_heap c_q_heap 107 3 (q.heap.map item.c))] w) (hn : q.heap.length ≤ 1000 ∧ 0 ≤ q.next ∧ q.next ≤ 1000) : Calls Try.prog 47 #[.pointer (some ⟨b_q, 0, none⟩), .int .i64 priority, .int .i64 value] w (RetM (Γ := (Option Addr × Nat)) ⟨w, feet [.inl (b_q, .cells #[.slice A_q_heap q.heap.length c_q_heap, .int .i64 q.next] 105 (0, 0)), .inr (Own A_q_heap c_q_heap 107 3 (q.heap.map item.c))]⟩ (fun _ => .tuple #[]) (fun g => [.inl (b_q, .cells #[.slice g.1 (((heapq_Queue_int_Push q priority value).heap).length) g.2, .int .i64 ((heapq_Queue_int_Push q priority value).next)] 105 (0, 0)), .inr (Own g.1 g.2 107 3 (((heapq_Queue_int_Push q priority value).heap).map item.c))])) := by
  refine calls_introM (w0 := ⟨w, feet [Bk b_q #[.slice A_q_heap q.heap.length c_q_heap, .i q.next] 105, Ow A_q_heap c_q_heap 107 3 (q.heap.map item.c)]⟩) (vs := [.p0 b_q, .i priority, .i value]) hM Try.func47 rfl Try.ntmps47 rfl (TC.know (fun w hM => hM.short_at 1 rfl) (fun s_q_heap => TC.seq (TC.plan (G := Nat × AN) (base := [(0, .p0 b_q), (1, .i priority), (2, .i value)]) (vals := fun γ => [.p0 b_q, .p0 b_q, .p0 b_q, .p0 b_q, .slice A_q_heap q.heap.length c_q_heap, .i priority, .p0 b_q, .p0 b_q, .pt b_q 1, .i q.next, .i value, item.v (⟨priority, q.next, value⟩ : item), .slice (Pa γ.1) 1 1, .slice (γ.2.1) ((q.heap ++ ([(⟨priority, q.next, value⟩ : item)])).length) (γ.2.2), .p0 b_q, .p0 b_q, undef]) (writes := [12, 13, 16]) (mem := fun bs γ => match bs with | [x12_, x13_, x16_] => (bif x12_ then [Bk γ.1 (item.c (⟨priority, q.next, value⟩ : item)) 107] else []) ++ ((bif x13_ then [Ow (γ.2.1) (γ.2.2) 107 3 ((q.heap ++ ([(⟨priority, q.next, value⟩ : item)])).map item.c)] else [Ow A_q_heap c_q_heap 107 3 (q.heap.map item.c)]) ++ ((bif x16_ then [Bk b_q #[.slice (γ.2.1) ((q.heap ++ ([(⟨priority, q.next, value⟩ : item)])).length) (γ.2.2), .i q.next] 105] else [Bk b_q #[.slice A_q_heap q.heap.length c_q_heap, .i q.next] 105]) ++ ([]))) | _ => []) (0, (none, 0)) (fun γ => [(0, .p0 b_q)]) Kr Kr Kr Kr Kr (fun γ => Kr) (fun _ hM => hM.perm (px [1, 0])) (fun γ => Kr) ?_ ?_)))
  · skip
    exact Steps.run (i := 0) 4 [0, 0, 0, 0] [] Kr Kr (fun S (γ : Nat × AN) w hM => by rw [mS3 rfl rfl rfl] at hM; exact hM.sub (sub_skip (sub_skip (sub_skip (List.Sublist.refl _))))) Kr (fun (γ : Nat × AN) => {}) (Steps.valL (i := 4) (fun (γ : Nat × AN) => sV (Instr.loadAt 103 (.p0 b_q))) (some 12) (fun (γ : Nat × AN) => .slice A_q_heap q.heap.length c_q_heap) (fun _ => [Bk b_q #[.slice A_q_heap q.heap.length c_q_heap, .i q.next] 105] ++ []) Kr (fun S (γ : Nat × AN) w hi hd hu hM => by rw [mS3 rfl rfl (lat (hu 4 16 Kr) hi)] at hM; exact hM.sub (sub_skip (sub_skip (sub_one (List.Sublist.refl _))))) (fun (γ : Nat × AN) w hM => mr_sound (j := 0) hM _ _ [(b_q, b_q)] Kr (by intro p hp; rw [List.mem_singleton.1 hp])) (fun (γ : Nat × AN) => Kr) (fun (γ : Nat × AN) => Kr) (Steps.run (i := 5) 9 [0, 0, 0, 0] [] Kr Kr (fun S (γ : Nat × AN) w hM => by rw [mS3 rfl rfl rfl] at hM; exact hM.sub (sub_skip (sub_skip (sub_skip (List.Sublist.refl _))))) Kr (fun (γ : Nat × AN) => {}) (Steps.valL (i := 9) (fun (γ : Nat × AN) => sV (Instr.loadAt 3 (.pt b_q 1))) (some 17) (fun (γ : Nat × AN) => .i q.next) (fun _ => [Bk b_q #[.slice A_q_heap q.heap.length c_q_heap, .i q.next] 105] ++ []) Kr (fun S (γ : Nat × AN) w hi hd hu hM => by rw [mS3 rfl rfl (lat (hu 9 16 Kr) hi)] at hM; exact hM.sub (sub_skip (sub_skip (sub_one (List.Sublist.refl _))))) (fun (γ : Nat × AN) w hM => mr_sound (j := 0) hM _ _ [(b_q, b_q)] Kr (by intro p hp; rw [List.mem_singleton.1 hp])) (fun (γ : Nat × AN) => Kr) (fun (γ : Nat × AN) => Kr) (Steps.run (i := 10) 12 [0, 0] [] Kr Kr (fun S (γ : Nat × AN) w hM => by rw [mS3 rfl rfl rfl] at hM; exact hM.sub (sub_skip (sub_skip (sub_skip (List.Sublist.refl _))))) Kr (fun (γ : Nat × AN) => {}) (Steps.op (i := 12) (Γ := Nat) (fun g (γ : Nat × AN) => (g, γ.2)) (fun _ => []) (fun b (γ : Nat × AN) => [Bk b (item.c (⟨priority, q.next, value⟩ : item)) 107]) (fun S (γ : Nat × AN) => (bif S 13 then [Ow (γ.2.1) (γ.2.2) 107 3 ((q.heap ++ ([(⟨priority, q.next, value⟩ : item)])).map item.c)] else [Ow A_q_heap c_q_heap 107 3 (q.heap.map item.c)]) ++ ((bif S 16 then [Bk b_q #[.slice (γ.2.1) ((q.heap ++ ([(⟨priority, q.next, value⟩ : item)])).length) (γ.2.2), .i q.next] 105] else [Bk b_q #[.slice A_q_heap q.heap.length c_q_heap, .i q.next] 105]) ++ ([]))) [12, 13, 14, 15, 16] (fun (γ : Nat × AN) => sV (Instr.buildSlice 103 1 #[(0, item.v (⟨priority, q.next, value⟩ : item))])) (some 20) (fun b (γ : Nat × AN) => .slice (Pa b) 1 1) (fun S (γ : Nat × AN) hj hd hl => by rw [mS3 hj rfl rfl]; exact List.Perm.refl _) (fun S (γ : Nat × AN) g _ => (List.Perm.refl _).symm) (fun (γ : Nat × AN) M' w hM => run_new (v := fun b => .slice (Pa b) 1 1) (fun b M => Kr) M' w hM) (fun (γ : Nat × AN) => Kr) (fun (γ : Nat × AN) g => Kr) Kr (fun (γ : Nat × AN) g => Kr) (Steps.opL (i := 13) (Γ := AN) (fun g (γ : Nat × AN) => (γ.1, g)) (fun (γ : Nat × AN) => [Ow A_q_heap c_q_heap 107 3 (q.heap.map item.c), Bk γ.1 (item.c (⟨priority, q.next, value⟩ : item)) 107]) (fun g (γ : Nat × AN) => [Ow (g.1) (g.2) 107 3 ((q.heap ++ ([(⟨priority, q.next, value⟩ : item)])).map item.c), Bk γ.1 (item.c (⟨priority, q.next, value⟩ : item)) 107]) (fun S (γ : Nat × AN) => (bif S 16 then [Bk b_q #[.slice (γ.2.1) ((q.heap ++ ([(⟨priority, q.next, value⟩ : item)])).length) (γ.2.2), .i q.next] 105] else [Bk b_q #[.slice A_q_heap q.heap.length c_q_heap, .i q.next] 105]) ++ ([])) [13, 14, 15, 16] (fun (γ : Nat × AN) => sV (Builtin.append_ #[103, 103] 103 #[.slice A_q_heap q.heap.length c_q_heap, .slice (Pa γ.1) 1 1])) (some 21) (fun g (γ : Nat × AN) => .slice (g.1) ((q.heap ++ ([(⟨priority, q.next, value⟩ : item)])).length) (g.2)) (fun S (γ : Nat × AN) hj hd hl => by change List.Perm (((bif S 12 then [Bk γ.1 (item.c (⟨priority, q.next, value⟩ : item)) 107] else []) ++ ((bif S 13 then [Ow (γ.2.1) (γ.2.2) 107 3 ((q.heap ++ ([(⟨priority, q.next, value⟩ : item)])).map item.c)] else [Ow A_q_heap c_q_heap 107 3 (q.heap.map item.c)]) ++ ((bif S 16 then [Bk b_q #[.slice (γ.2.1) ((q.heap ++ ([(⟨priority, q.next, value⟩ : item)])).length) (γ.2.2), .i q.next] 105] else [Bk b_q #[.slice A_q_heap q.heap.length c_q_heap, .i q.next] 105]) ++ ([])))) : Mem) _; rw [hj, hd 12 Kr]; exact ((List.Perm.append_left _ (List.Perm.refl _)).trans (perm_mid _ _ _)).trans (List.Perm.append_left _ ((List.Perm.refl _).trans (List.Perm.append_left _ (List.Perm.refl _))))) (fun S (γ : Nat × AN) g _ hd hl => by change List.Perm ([Ow (g.1) (g.2) 107 3 ((q.heap ++ ([(⟨priority, q.next, value⟩ : item)])).map item.c)] ++ ([Bk γ.1 (item.c (⟨priority, q.next, value⟩ : item)) 107] ++ ((bif S 16 then [Bk b_q #[.slice (γ.2.1) ((q.heap ++ ([(⟨priority, q.next, value⟩ : item)])).length) (γ.2.2), .i q.next] 105] else [Bk b_q #[.slice A_q_heap q.heap.length c_q_heap, .i q.next] 105]) ++ ([])))) (((bif S 12 then [Bk γ.1 (item.c (⟨priority, q.next, value⟩ : item)) 107] else []) ++ ((bif true then [Ow (g.1) (g.2) 107 3 ((q.heap ++ ([(⟨priority, q.next, value⟩ : item)])).map item.c)] else [Ow A_q_heap c_q_heap 107 3 (q.heap.map item.c)]) ++ ((bif S 16 then [Bk b_q #[.slice (g.1) ((q.heap ++ ([(⟨priority, q.next, value⟩ : item)])).length) (g.2), .i q.next] 105] else [Bk b_q #[.slice A_q_heap q.heap.length c_q_heap, .i q.next] 105]) ++ ([])))) : Mem); rw [hd 12 Kr, hl 16 Kr]; exact (((List.Perm.append_left _ (List.Perm.refl _)).trans (perm_mid _ _ _)).trans (List.Perm.append_left _ ((List.Perm.refl _).trans (List.Perm.append_left _ (List.Perm.refl _))))).symm) (fun (γ : Nat × AN) M' w hM => app_at (bytes := 24) 103 0 ([(⟨priority, q.next, value⟩ : item)]) Kr rfl rfl item.one rfl (fun w hM => (Rd.lit hM 1 _ rfl Kr Kr Kr)) rfl (by (try have kf_ := push_first (x := (⟨priority, q.next, value⟩ : item)) hn.1); (try have ku_ := up_in (i := i) (by omega)); exact sa) w hM) (fun (γ : Nat × AN) => Kr) (fun (γ : Nat × AN) g => Kr) Kr (fun (γ : Nat × AN) g => Kr) (Steps.run (i := 14) 16 [0, 0] [] Kr Kr (fun S (γ : Nat × AN) w hM => by rw [mS3 rfl rfl rfl] at hM; exact hM.sub (sub_skip (sub_skip (sub_skip (List.Sublist.refl _))))) Kr (fun (γ : Nat × AN) => {}) (Steps.put (i := 16) (fun (γ : Nat × AN) => [Bk b_q #[.slice A_q_heap q.heap.length c_q_heap, .i q.next] 105]) (fun (γ : Nat × AN) => [Bk b_q #[.slice (γ.2.1) ((q.heap ++ ([(⟨priority, q.next, value⟩ : item)])).length) (γ.2.2), .i q.next] 105]) (fun S (γ : Nat × AN) => (bif S 12 then [Bk γ.1 (item.c (⟨priority, q.next, value⟩ : item)) 107] else []) ++ ((bif S 13 then [Ow (γ.2.1) (γ.2.2) 107 3 ((q.heap ++ ([(⟨priority, q.next, value⟩ : item)])).map item.c)] else [Ow A_q_heap c_q_heap 107 3 (q.heap.map item.c)]) ++ ([]))) (fun (γ : Nat × AN) => sU (Instr.storeAt 103 (.p0 b_q) (.slice (γ.2.1) ((q.heap ++ ([(⟨priority, q.next, value⟩ : item)])).length) (γ.2.2)))) none (fun S (γ : Nat × AN) hj hd hl => by rw [mS3 rfl rfl hj]; exact (List.Perm.append_left _ ((List.Perm.append_left _ (List.Perm.refl _)).trans (perm_mid _ _ _))).trans (perm_mid _ _ _)) (fun S (γ : Nat × AN) _ => ((List.Perm.append_left _ ((List.Perm.append_left _ (List.Perm.refl _)).trans (perm_mid _ _ _))).trans (perm_mid _ _ _)).symm) (fun (γ : Nat × AN) M' w hM => run_put (fun b M => Kr) (fun b M => Kr) M' w hM) (fun (γ : Nat × AN) => Kr) (fun (γ : Nat × AN) => Kr) (Steps.done Kr)))))))))
  · rintro ⟨b1, ⟨A, c⟩⟩
    refine TE.conv [Bk b1 (item.c (⟨priority, q.next, value⟩ : item)) 107, Ow A c 107 3 ((q.heap ++ ([(⟨priority, q.next, value⟩ : item)])).map item.c), Bk b_q #[.slice A ((q.heap ++ ([(⟨priority, q.next, value⟩ : item)])).length) c, .i q.next] 105] (fun _ hM => hM) (TE.nr (TL.r 7 [2] [(28, .i (w64 (q.next + 1))), (30, .pt b_q 1)] {} (TL.s 2 (Bk b_q #[.slice A ((q.heap ++ ([(⟨priority, q.next, value⟩ : item)])).length) c, .i (w64 (q.next + 1))] 105) (fun _ => {}) (TL.nr (TL.r 7 [2] [(6, .i (w64 (((q.heap ++ ([(⟨priority, q.next, value⟩ : item)])).length : Int) - 1)))] {} (TL.next rfl ?_))))))
    obtain ⟨R2, hR⟩ : ∃ R, heapq_Queue_int_Push_L1 q (q.heap.length + 1) (w64 (((q.heap ++ ([(⟨priority, q.next, value⟩ : item)])).length : Int) - 1)) (q.heap ++ ([(⟨priority, q.next, value⟩ : item)])) = some R := (push_total q.heap.length _ _ (by rw [push_first hn.1]; omega) (by rw [push_first hn.1]; omega) (by rw [push_first hn.1]; omega))
    refine TC.cut (S := (List item) × (Option Addr) × Nat) (fun (xs__2, A_xs__2, c_xs__2) => []) (fun (xs__2, A_xs__2, c_xs__2) => [Ow A_xs__2 c_xs__2 107 3 (xs__2.map item.c), Bk b_q #[.slice A_xs__2 xs__2.length c_xs__2, .i (w64 (q.next + 1))] 105]) (fun (xs__2, A_xs__2, c_xs__2) => R2 = .inl xs__2 ∧ xs__2.length ≤ (q.heap ++ ([(⟨priority, q.next, value⟩ : item)])).length + (q.heap.length + 1)) ?_ ?_
    · refine TC.block (TC.lw (X := Nat × Int × (List item) × (Option Addr) × Nat) (fun (m, i, xs_, A_xs_, c_xs_) => [(0, .p0 b_q), (6, .i i)]) (fun (m, i, xs_, A_xs_, c_xs_) => [Ow A_xs_ c_xs_ 107 3 (xs_.map item.c), Bk b_q #[.slice A_xs_ xs_.length c_xs_, .i (w64 (q.next + 1))] 105]) (fun (m, i, xs_, A_xs_, c_xs_) => m) (fun (m, i, xs_, A_xs_, c_xs_) => m ≤ (q.heap.length + 1) ∧ heapq_Queue_int_Push_L1 q m i xs_ = some R2 ∧ xs_.length ≤ (q.heap ++ ([(⟨priority, q.next, value⟩ : item)])).length + ((q.heap.length + 1) - m) ∧ (0 ≤ i ∧ i < (xs_.length : Int) ∧ xs_.length ≤ 1001)) ?_ ((q.heap.length + 1), w64 (((q.heap ++ ([(⟨priority, q.next, value⟩ : item)])).length : Int) - 1), (q.heap ++ ([(⟨priority, q.next, value⟩ : item)])), A, c) ⟨Nat.le_refl _, hR, sz, (by rw [push_first hn.1, List.length_append, List.length_singleton]; omega)⟩ Kr (sb 6))
      rintro ⟨m, i, xs_, A_xs_, c_xs_⟩ ⟨hk, hI, hl_xs_, hl_iv0⟩
      rcases m with _ | m
      · cases hI
      refine TC.seq (TC.sr (TL.r 2 [] [(38, .b (decide (i > 0)))] {} (TL.next rfl (TC.cond (decide (i > 0)) rfl Kr (fun h1 => ?_) (fun h1 => ?_)))))
      · have q1_0 := (dec_t h1)
        refine TC.sn (TC.block (TC.sr (TL.r 4 [] [(7, .i (w64 ((w64 (i - 1)).tdiv 2)))] {} (TL.ns (TC.seq (TC.draw 16 Kr Kr Kr (TQ.r 5 [1] [(45, .slice A_xs_ xs_.length c_xs_), (46, .i i)] {} (TQ.v (sV (Instr.indexAt 103 (.slice A_xs_ xs_.length c_xs_) (.i i))) 47 (.pointer (some (Ix A_xs_ (i.toNat * 3)))) (fun w hM => run_index (hM.rd_at 0 rfl) (by simp) Kr (by (try have kf_ := push_first (x := (⟨priority, q.next, value⟩ : item)) hn.1); (try have ku_ := up_in (i := i) (by omega)); exact sd) (by (try have kf_ := push_first (x := (⟨priority, q.next, value⟩ : item)) hn.1); (try have ku_ := up_in (i := i) (by omega)); exact sd)) rfl {} (TQ.v (sV (Instr.loadAt 107 (.pointer (some (Ix A_xs_ (i.toNat * 3)))))) 48 (item.v (xs_[i.toNat]?.getD item.zero)) (fun w hM => run_load_agg (n := 3) (off := 0) (i := i.toNat) (item.v (xs_[i.toNat]?.getD item.zero)) (hM.rd_at 0 rfl) (map_at (getD_at _ _ item.zero (by (try have kf_ := push_first (x := (⟨priority, q.next, value⟩ : item)) hn.1); (try have ku_ := up_in (i := i) (by omega)); exact sd))) Kr Kr Kr) rfl {} (TQ.r 12 [1] [(52, .slice A_xs_ xs_.length c_xs_), (53, .i (w64 ((w64 (i - 1)).tdiv 2)))] {} (TQ.v (sV (Instr.indexAt 103 (.slice A_xs_ xs_.length c_xs_) (.i (w64 ((w64 (i - 1)).tdiv 2))))) 54 (.pointer (some ((A_xs_.getD noAddr).add ((w64 ((w64 (i - 1)).tdiv 2)).toNat * 3)))) (fun w hM => run_index (hM.rd_at 0 rfl) (by simp) Kr (by (try have kf_ := push_first (x := (⟨priority, q.next, value⟩ : item)) hn.1); (try have ku_ := up_in (i := i) (by omega)); exact sd) (by (try have kf_ := push_first (x := (⟨priority, q.next, value⟩ : item)) hn.1); (try have ku_ := up_in (i := i) (by omega)); exact sd)) rfl {} (TQ.v (sV (Instr.loadAt 107 (.pointer (some ((A_xs_.getD noAddr).add ((w64 ((w64 (i - 1)).tdiv 2)).toNat * 3)))))) 55 (item.v (xs_[(w64 ((w64 (i - 1)).tdiv 2)).toNat]?.getD item.zero)) (fun w hM => run_load_agg (n := 3) (off := 0) (i := (w64 ((w64 (i - 1)).tdiv 2)).toNat) (item.v (xs_[(w64 ((w64 (i - 1)).tdiv 2)).toNat]?.getD item.zero)) (hM.rd_at 0 rfl) (map_at (getD_at _ _ item.zero (by (try have kf_ := push_first (x := (⟨priority, q.next, value⟩ : item)) hn.1); (try have ku_ := up_in (i := i) (by omega)); exact sd))) Kr Kr Kr) rfl {} (TQ.c 56 (heapq_item_int_before (xs_[i.toNat]?.getD item.zero) (xs_[(w64 ((w64 (i - 1)).tdiv 2)).toNat]?.getD item.zero)) (fun r1 => .b r1) (fun w _ => heapq_item_int_before_w (xs_[i.toNat]?.getD item.zero) (xs_[(w64 ((w64 (i - 1)).tdiv 2)).toNat]?.getD item.zero) w) rfl {} (fun r1 hr1 => TQ.r 16 [] [(57, .b (!r1))] {} (TQ.next rfl (TC.cond (!r1) rfl Kr (fun h2 => ?_) (fun h2 => ?_)))))))))))))))))
        · refine TC.ret (TE.rt (TE.rb (TE.rt (TE.rb (TE.rt ?_)))))
          have e : heapq_Queue_int_Push q priority value = (⟨xs_, w64 (q.next + 1)⟩ : Queue) := by subst hr1; unfold heapq_Queue_int_Push; exact elim_r ((congrArg (Option.getD · _) hR).trans (Option.some.inj (hI.symm.trans (cond_t h1 (cond_t h2 (rfl)))))) rfl
          refine TE.conv [Bk b_q #[.slice A_xs_ xs_.length c_xs_, .i (w64 (q.next + 1))] 105, Ow A_xs_ c_xs_ 107 3 (xs_.map item.c)] (fun _ hM => hM.perm (px [1, 0])) ?_
          rw [e]
          exact TE.retM (.inl rfl) (A_xs_, c_xs_) [] (.tuple #[]) {} rfl (fun _ hM => hM.sub (sb 3))
        · refine TC.sn (TC.seq ?_)
          let Mr6_ : Mem := [Bk b_q #[.slice A_xs_ xs_.length c_xs_, .i (w64 (q.next + 1))] 105]
          refine TC.plan (G := Unit) (base := [(0, .p0 b_q), (6, .i i), (7, .i (w64 ((w64 (i - 1)).tdiv 2)))]) (vals := fun γ => [.p0 b_q, .p0 b_q, .p0 b_q, .slice A_xs_ xs_.length c_xs_, .i i, .p0 b_q, .p0 b_q, .p0 b_q, .slice A_xs_ xs_.length c_xs_, .i (w64 ((w64 (i - 1)).tdiv 2)), .p0 b_q, .p0 b_q, .p0 b_q, .slice A_xs_ xs_.length c_xs_, .i (w64 ((w64 (i - 1)).tdiv 2)), .pointer (some ((A_xs_.getD noAddr).add ((w64 ((w64 (i - 1)).tdiv 2)).toNat * 3))), item.v (xs_[(w64 ((w64 (i - 1)).tdiv 2)).toNat]?.getD item.zero), .p0 b_q, .p0 b_q, .p0 b_q, .slice A_xs_ xs_.length c_xs_, .i i, .pointer (some (Ix A_xs_ (i.toNat * 3))), item.v (xs_[i.toNat]?.getD item.zero), .pointer (some (Ix A_xs_ (i.toNat * 3))), undef, .pointer (some ((A_xs_.getD noAddr).add ((w64 ((w64 (i - 1)).tdiv 2)).toNat * 3))), undef]) (writes := [25, 27]) (mem := fun bs γ => match bs with | [x25_, x27_] => (bif x27_ then [Ow A_xs_ c_xs_ 107 3 (((xs_.set i.toNat (xs_[(w64 ((w64 (i - 1)).tdiv 2)).toNat]?.getD item.zero)).set ((w64 ((w64 (i - 1)).tdiv 2)).toNat) (xs_[i.toNat]?.getD item.zero)).map item.c)] else bif x25_ then [Ow A_xs_ c_xs_ 107 3 ((xs_.set i.toNat (xs_[(w64 ((w64 (i - 1)).tdiv 2)).toNat]?.getD item.zero)).map item.c)] else [Ow A_xs_ c_xs_ 107 3 (xs_.map item.c)]) ++ (Mr6_) | _ => []) () (fun γ => [(0, .p0 b_q), (7, .i (w64 ((w64 (i - 1)).tdiv 2)))]) Kr Kr Kr Kr Kr (fun γ => Kr) (fun _ hM => hM) (fun γ => Kr) ?_ ?_
          · skip
            exact Steps.run (i := 0) 15 [0, 0, 0, 0, 0, 0, 0, 0, 0, 0, 0, 0, 0, 0, 0] Mr6_ Kr Kr (fun S (γ : Unit) w hM => by rw [mS2 rfl rfl] at hM; exact hM.sub (sub_skip (List.Sublist.refl _))) Kr (fun (γ : Unit) => {}) (Steps.valL (i := 15) (fun (γ : Unit) => sV (Instr.indexAt 103 (.slice A_xs_ xs_.length c_xs_) (.i (w64 ((w64 (i - 1)).tdiv 2))))) (some 73) (fun (γ : Unit) => .pointer (some ((A_xs_.getD noAddr).add ((w64 ((w64 (i - 1)).tdiv 2)).toNat * 3)))) (fun _ => [Ow A_xs_ c_xs_ 107 3 (xs_.map item.c)] ++ Mr6_) Kr (fun S (γ : Unit) w hi hd hu hM => by rw [mS2 (lat (hu 15 25 Kr) hi) (lat (hu 15 27 Kr) hi)] at hM; exact hM.sub (sub_one (List.Sublist.refl _))) (fun (γ : Unit) w hM => run_index (hM.rd_at 0 rfl) (by simp) Kr (by (try have kf_ := push_first (x := (⟨priority, q.next, value⟩ : item)) hn.1); (try have ku_ := up_in (i := i) (by omega)); exact sd) (by (try have kf_ := push_first (x := (⟨priority, q.next, value⟩ : item)) hn.1); (try have ku_ := up_in (i := i) (by omega)); exact sd)) (fun (γ : Unit) => Kr) (fun (γ : Unit) => Kr) (Steps.valL (i := 16) (fun (γ : Unit) => sV (Instr.loadAt 107 (.pointer (some ((A_xs_.getD noAddr).add ((w64 ((w64 (i - 1)).tdiv 2)).toNat * 3)))))) (some 74) (fun (γ : Unit) => item.v (xs_[(w64 ((w64 (i - 1)).tdiv 2)).toNat]?.getD item.zero)) (fun _ => [Ow A_xs_ c_xs_ 107 3 (xs_.map item.c)] ++ Mr6_) Kr (fun S (γ : Unit) w hi hd hu hM => by rw [mS2 (lat (hu 16 25 Kr) hi) (lat (hu 16 27 Kr) hi)] at hM; exact hM.sub (sub_one (List.Sublist.refl _))) (fun (γ : Unit) w hM => run_load_agg (n := 3) (off := 0) (i := (w64 ((w64 (i - 1)).tdiv 2)).toNat) (item.v (xs_[(w64 ((w64 (i - 1)).tdiv 2)).toNat]?.getD item.zero)) (hM.rd_at 0 rfl) (map_at (getD_at _ _ item.zero (by (try have kf_ := push_first (x := (⟨priority, q.next, value⟩ : item)) hn.1); (try have ku_ := up_in (i := i) (by omega)); exact sd))) Kr Kr Kr) (fun (γ : Unit) => Kr) (fun (γ : Unit) => Kr) (Steps.run (i := 17) 22 [0, 0, 0, 0, 0] Mr6_ Kr Kr (fun S (γ : Unit) w hM => by rw [mS2 rfl rfl] at hM; exact hM.sub (sub_skip (List.Sublist.refl _))) Kr (fun (γ : Unit) => {}) (Steps.valL (i := 22) (fun (γ : Unit) => sV (Instr.indexAt 103 (.slice A_xs_ xs_.length c_xs_) (.i i))) (some 80) (fun (γ : Unit) => .pointer (some (Ix A_xs_ (i.toNat * 3)))) (fun _ => [Ow A_xs_ c_xs_ 107 3 (xs_.map item.c)] ++ Mr6_) Kr (fun S (γ : Unit) w hi hd hu hM => by rw [mS2 (lat (hu 23 25 Kr) (lat (hu 22 23 Kr) hi)) (lat (hu 22 27 Kr) hi)] at hM; exact hM.sub (sub_one (List.Sublist.refl _))) (fun (γ : Unit) w hM => run_index (hM.rd_at 0 rfl) (by simp) Kr (by (try have kf_ := push_first (x := (⟨priority, q.next, value⟩ : item)) hn.1); (try have ku_ := up_in (i := i) (by omega)); exact sd) (by (try have kf_ := push_first (x := (⟨priority, q.next, value⟩ : item)) hn.1); (try have ku_ := up_in (i := i) (by omega)); exact sd)) (fun (γ : Unit) => Kr) (fun (γ : Unit) => Kr) (Steps.valL (i := 23) (fun (γ : Unit) => sV (Instr.loadAt 107 (.pointer (some (Ix A_xs_ (i.toNat * 3)))))) (some 81) (fun (γ : Unit) => item.v (xs_[i.toNat]?.getD item.zero)) (fun _ => [Ow A_xs_ c_xs_ 107 3 (xs_.map item.c)] ++ Mr6_) Kr (fun S (γ : Unit) w hi hd hu hM => by rw [mS2 (lat (hu 23 25 Kr) hi) (lat (hu 23 27 Kr) hi)] at hM; exact hM.sub (sub_one (List.Sublist.refl _))) (fun (γ : Unit) w hM => run_load_agg (n := 3) (off := 0) (i := i.toNat) (item.v (xs_[i.toNat]?.getD item.zero)) (hM.rd_at 0 rfl) (map_at (getD_at _ _ item.zero (by (try have kf_ := push_first (x := (⟨priority, q.next, value⟩ : item)) hn.1); (try have ku_ := up_in (i := i) (by omega)); exact sd))) Kr Kr Kr) (fun (γ : Unit) => Kr) (fun (γ : Unit) => Kr) (Steps.valL (i := 24) (fun (γ : Unit) => sV (Instr.indexAt 103 (.slice A_xs_ xs_.length c_xs_) (.i i))) (some 82) (fun (γ : Unit) => .pointer (some (Ix A_xs_ (i.toNat * 3)))) (fun _ => [Ow A_xs_ c_xs_ 107 3 (xs_.map item.c)] ++ Mr6_) Kr (fun S (γ : Unit) w hi hd hu hM => by rw [mS2 (lat (hu 24 25 Kr) hi) (lat (hu 24 27 Kr) hi)] at hM; exact hM.sub (sub_one (List.Sublist.refl _))) (fun (γ : Unit) w hM => run_index (hM.rd_at 0 rfl) (by simp) Kr (by (try have kf_ := push_first (x := (⟨priority, q.next, value⟩ : item)) hn.1); (try have ku_ := up_in (i := i) (by omega)); exact sd) (by (try have kf_ := push_first (x := (⟨priority, q.next, value⟩ : item)) hn.1); (try have ku_ := up_in (i := i) (by omega)); exact sd)) (fun (γ : Unit) => Kr) (fun (γ : Unit) => Kr) (Steps.put (i := 25) (fun (γ : Unit) => [Ow A_xs_ c_xs_ 107 3 (xs_.map item.c)]) (fun (γ : Unit) => [Ow A_xs_ c_xs_ 107 3 ((xs_.set i.toNat (xs_[(w64 ((w64 (i - 1)).tdiv 2)).toNat]?.getD item.zero)).map item.c)]) (fun S (γ : Unit) => Mr6_) (fun (γ : Unit) => sU (Instr.storeAt 107 (.pointer (some ((Ix A_xs_ (i.toNat * 3)).add 0))) (item.v (xs_[(w64 ((w64 (i - 1)).tdiv 2)).toNat]?.getD item.zero)))) none (fun S (γ : Unit) hj hd hl => by rw [mS2 hj (hl 27 Kr)]; exact List.Perm.refl _) (fun S (γ : Unit) hl => by rw [mS2 (S := upS S 25) (a0 := 25) (a1 := 27) rfl (hl 27 Kr)]; exact (List.Perm.refl _).symm) (fun (γ : Unit) M' w hM => (by obtain ⟨_, w2_, h1_, h2_⟩ := run_store_at (n := 3) (off := 0) (item.v (xs_[(w64 ((w64 (i - 1)).tdiv 2)).toNat]?.getD item.zero)) 0 ((xs_.set i.toNat (xs_[(w64 ((w64 (i - 1)).tdiv 2)).toNat]?.getD item.zero)).map item.c) rfl (map_at (getD_at _ _ item.zero (by (try have kf_ := push_first (x := (⟨priority, q.next, value⟩ : item)) hn.1); (try have ku_ := up_in (i := i) (by omega)); exact sd))) Kr Kr Kr Kr (set_map_at Kr) w hM; exact ⟨w2_, h1_, h2_⟩)) (fun (γ : Unit) => Kr) (fun (γ : Unit) => Kr) (Steps.valL (i := 26) (fun (γ : Unit) => sV (Instr.indexAt 103 (.slice A_xs_ xs_.length c_xs_) (.i (w64 ((w64 (i - 1)).tdiv 2))))) (some 83) (fun (γ : Unit) => .pointer (some ((A_xs_.getD noAddr).add ((w64 ((w64 (i - 1)).tdiv 2)).toNat * 3)))) (fun _ => [Ow A_xs_ c_xs_ 107 3 ((xs_.set i.toNat (xs_[(w64 ((w64 (i - 1)).tdiv 2)).toNat]?.getD item.zero)).map item.c)] ++ Mr6_) Kr (fun S (γ : Unit) w hi hd hu hM => by rw [mS2 (hd 25 Kr) (lat (hu 26 27 Kr) hi)] at hM; exact hM.sub (sub_one (List.Sublist.refl _))) (fun (γ : Unit) w hM => run_index (hM.rd_at 0 rfl) (by simp) Kr (by (try have kf_ := push_first (x := (⟨priority, q.next, value⟩ : item)) hn.1); (try have ku_ := up_in (i := i) (by omega)); exact sd) (by (try have kf_ := push_first (x := (⟨priority, q.next, value⟩ : item)) hn.1); (try have ku_ := up_in (i := i) (by omega)); exact sd)) (fun (γ : Unit) => Kr) (fun (γ : Unit) => Kr) (Steps.put (i := 27) (fun (γ : Unit) => [Ow A_xs_ c_xs_ 107 3 ((xs_.set i.toNat (xs_[(w64 ((w64 (i - 1)).tdiv 2)).toNat]?.getD item.zero)).map item.c)]) (fun (γ : Unit) => [Ow A_xs_ c_xs_ 107 3 (((xs_.set i.toNat (xs_[(w64 ((w64 (i - 1)).tdiv 2)).toNat]?.getD item.zero)).set ((w64 ((w64 (i - 1)).tdiv 2)).toNat) (xs_[i.toNat]?.getD item.zero)).map item.c)]) (fun S (γ : Unit) => Mr6_) (fun (γ : Unit) => sU (Instr.storeAt 107 (.pointer (some (((A_xs_.getD noAddr).add ((w64 ((w64 (i - 1)).tdiv 2)).toNat * 3)).add 0))) (item.v (xs_[i.toNat]?.getD item.zero)))) none (fun S (γ : Unit) hj hd hl => by rw [mS2 (hd 25 Kr) hj]; exact List.Perm.refl _) (fun S (γ : Unit) _ => (List.Perm.refl _).symm) (fun (γ : Unit) M' w hM => (by obtain ⟨_, w2_, h1_, h2_⟩ := run_store_at (n := 3) (off := 0) (item.v (xs_[i.toNat]?.getD item.zero)) 0 (((xs_.set i.toNat (xs_[(w64 ((w64 (i - 1)).tdiv 2)).toNat]?.getD item.zero)).set ((w64 ((w64 (i - 1)).tdiv 2)).toNat) (xs_[i.toNat]?.getD item.zero)).map item.c) rfl (map_at (getD_at _ _ item.zero (by rw [List.length_set]; exact (by (try have kf_ := push_first (x := (⟨priority, q.next, value⟩ : item)) hn.1); (try have ku_ := up_in (i := i) (by omega)); exact sd)))) Kr Kr Kr Kr (set_map_at Kr) w hM; exact ⟨w2_, h1_, h2_⟩)) (fun (γ : Unit) => Kr) (fun (γ : Unit) => Kr) (Steps.done Kr))))))))))
          · intro _
            exact TE.conv [Ow A_xs_ c_xs_ 107 3 (((xs_.set i.toNat (xs_[(w64 ((w64 (i - 1)).tdiv 2)).toNat]?.getD item.zero)).set ((w64 ((w64 (i - 1)).tdiv 2)).toNat) (xs_[i.toNat]?.getD item.zero)).map item.c), Bk b_q #[.slice A_xs_ xs_.length c_xs_, .i (w64 (q.next + 1))] 105] (fun _ hM => hM) (TE.conv [Ow A_xs_ c_xs_ 107 3 (((xs_.set i.toNat (xs_[(w64 ((w64 (i - 1)).tdiv 2)).toNat]?.getD item.zero)).set ((w64 ((w64 (i - 1)).tdiv 2)).toNat) (xs_[i.toNat]?.getD item.zero)).map item.c), Bk b_q #[.slice A_xs_ (((xs_.set i.toNat (xs_[(w64 ((w64 (i - 1)).tdiv 2)).toNat]?.getD item.zero)).set ((w64 ((w64 (i - 1)).tdiv 2)).toNat) (xs_[i.toNat]?.getD item.zero)).length) c_xs_, .i (w64 (q.next + 1))] 105] (fun _ hM => by rw [show ((xs_.set i.toNat (xs_[(w64 ((w64 (i - 1)).tdiv 2)).toNat]?.getD item.zero)).set ((w64 ((w64 (i - 1)).tdiv 2)).toNat) (xs_[i.toNat]?.getD item.zero)).length = xs_.length from by simp only [List.length_set]]; exact hM) (TE.next (TC.region (TL.r 2 [] [(6, .i (w64 ((w64 (i - 1)).tdiv 2)))] {} (TL.done rfl (TE.nb (TE.again (x := (m + 1, i, xs_, A_xs_, c_xs_)) (m, w64 ((w64 (i - 1)).tdiv 2), ((xs_.set i.toNat (xs_[(w64 ((w64 (i - 1)).tdiv 2)).toNat]?.getD item.zero)).set ((w64 ((w64 (i - 1)).tdiv 2)).toNat) (xs_[i.toNat]?.getD item.zero)), A_xs_, c_xs_) ⟨by omega, (by subst hr1; refine Eq.trans (Eq.symm ?_) hI; exact cond_t h1 (cond_f h2 (rfl))), (by (try have kf_ := push_first (x := (⟨priority, q.next, value⟩ : item)) hn.1); (try have ku_ := up_in (i := i) (by omega)); exact sl), (by have ku_ := up_in (i := i) (by omega); simp only [List.length_set]; omega)⟩ (Nat.lt_succ_self _) Kr (sb 3))))))))
      · have q1_0 := (dec_f h1)
        refine TC.exit (TE.et (TE.et (TE.exit_same ?_)))
        exact TE.cut (xs_, A_xs_, c_xs_) (⟨Option.some.inj (hI.symm.trans (by exact cond_f h1 (rfl))), (by (try have kf_ := push_first (x := (⟨priority, q.next, value⟩ : item)) hn.1); (try have ku_ := up_in (i := i) (by omega)); exact sl)⟩) Kr (sb 3)
    · rintro ⟨xs__2, A_xs__2, c_xs__2⟩ ⟨hJ, hl_xs__2⟩
      have e : heapq_Queue_int_Push q priority value = (⟨xs__2, w64 (q.next + 1)⟩ : Queue) := by unfold heapq_Queue_int_Push; exact elim_l ((congrArg (Option.getD · _) hR).trans hJ) (rfl)
      refine TE.conv [Bk b_q #[.slice A_xs__2 xs__2.length c_xs__2, .i (w64 (q.next + 1))] 105, Ow A_xs__2 c_xs__2 107 3 (xs__2.map item.c)] (fun _ hM => hM.perm (px [1, 0])) ?_
      rw [e]
      exact TE.retM (.inr rfl) (A_xs__2, c_xs__2) [] (.tuple #[]) {} rfl (fun _ hM => hM.sub (sb 3))
def heapq_Queue_int_Pop_L2 (i : Int) (xs_ : List item) : Nat → Nat → Int → Int
  | 0, _, least => least
  | m + 1, k, least => cond (decide ((([w64 ((w64 (2 * i)) + 1), w64 ((w64 (2 * i)) + 2)] : List Int)[k]?.getD 0) < (xs_.length : Int))) (
      let r1 := heapq_item_int_before (xs_[(([w64 ((w64 (2 * i)) + 1), w64 ((w64 (2 * i)) + 2)] : List Int)[k]?.getD 0).toNat]?.getD item.zero) (xs_[least.toNat]?.getD item.zero)
      cond r1 (
        heapq_Queue_int_Pop_L2 i xs_ m (k + 1) (([w64 ((w64 (2 * i)) + 1), w64 ((w64 (2 * i)) + 2)] : List Int)[k]?.getD 0)) (
        heapq_Queue_int_Pop_L2 i xs_ m (k + 1) least)) (
      heapq_Queue_int_Pop_L2 i xs_ m (k + 1) least)
def heapq_Queue_int_Pop_L1 (q : Queue) : Nat → Int → (List item) → Option ((List item) ⊕ (Int × Int × Bool × Queue))
  | 0, _, _ => none
  | m + 1, i, xs_ => bindv (heapq_Queue_int_Pop_L2 i xs_ ((2 : Int).toNat) 0 i) (fun least_2 =>
      cond (least_2 == i) (
        some (.inr ((q.heap[0]?.getD item.zero).priority, (q.heap[0]?.getD item.zero).value, true, (⟨xs_, q.next⟩ : Queue)))) (
        heapq_Queue_int_Pop_L1 q m least_2 ((xs_.set i.toNat (xs_[least_2.toNat]?.getD item.zero)).set least_2.toNat (xs_[i.toNat]?.getD item.zero))))
def heapq_Queue_int_Pop (q : Queue) : Int × Int × Bool × Queue :=
  cond ((q.heap.length : Int) == 0) (
    (0, 0, false, q)) (
    Sum.elim (fun _ =>
      default) (fun r => r) ((heapq_Queue_int_Pop_L1 q (q.heap.length + 1) 0 (((q.heap.set 0 (q.heap[(q.heap.length - 1)]?.getD item.zero)).set (q.heap.length - 1) (⟨0, 0, 0⟩ : item)).take (q.heap.length - 1))).getD (.inl [])))
theorem kid_or {i : Int} {k : Nat} (h : 0 ≤ i ∧ i ≤ 1000) (hk : k < 2) : ([w64 ((w64 (2 * i)) + 1), w64 ((w64 (2 * i)) + 2)] : List Int)[k]?.getD 0 = 2 * i + 1 ∨ ([w64 ((w64 (2 * i)) + 1), w64 ((w64 (2 * i)) + 2)] : List Int)[k]?.getD 0 = 2 * i + 2 := by
  rw [w64_id (x := 2 * i) (by omega), w64_id (x := 2 * i + 1) (by omega), w64_id (x := 2 * i + 2) (by omega)]
  obtain rfl | rfl : k = 0 ∨ k = 1 := by omega
  · exact .inl rfl
  · exact .inr rfl
theorem pop_L2 {i : Int} {xs : List item} (h : 0 ≤ i ∧ i ≤ 1000) : ∀ (m k : Nat) (least : Int), k + m ≤ 2 → i ≤ least ∧ (least = i ∨ least < (xs.length : Int)) → i ≤ heapq_Queue_int_Pop_L2 i xs m k least ∧ (heapq_Queue_int_Pop_L2 i xs m k least = i ∨ heapq_Queue_int_Pop_L2 i xs m k least < (xs.length : Int))
  | 0, _, _, _, hl => hl
  | m + 1, k, least, hk, hl => by
    unfold heapq_Queue_int_Pop_L2
    have ko := kid_or (k := k) h (by omega)
    generalize ([w64 ((w64 (2 * i)) + 1), w64 ((w64 (2 * i)) + 2)] : List Int)[k]?.getD 0 = c at ko ⊢
    cases hc : decide (c < (xs.length : Int)) with
    | false => exact pop_L2 h m (k + 1) least (by omega) hl
    | true =>
      have := of_decide_eq_true hc
      simp only [cond_true]
      cases heapq_item_int_before (xs[c.toNat]?.getD item.zero) (xs[least.toNat]?.getD item.zero) with
      | true => exact pop_L2 h m (k + 1) c (by omega) (by omega)
      | false => exact pop_L2 h m (k + 1) least (by omega) hl
theorem pop_total {q : Queue} : ∀ (m : Nat) (i : Int) (xs : List item), 0 ≤ i → i ≤ 1000 → xs.length ≤ 1000 → (xs.length : Int) - i ≤ (m : Int) → ∃ R, heapq_Queue_int_Pop_L1 q (m + 1) i xs = some R
  | m, i, xs, h0, h1, hl, hm => by
    unfold heapq_Queue_int_Pop_L1 bindv
    have u := pop_L2 (i := i) (xs := xs) ⟨h0, h1⟩ (2 : Int).toNat 0 i (by decide) ⟨Int.le_refl _, .inl rfl⟩
    generalize heapq_Queue_int_Pop_L2 i xs (2 : Int).toNat 0 i = c at u ⊢
    simp only
    cases hc : (c == i) with
    | true => exact ⟨_, rfl⟩
    | false =>
      have hne : c ≠ i := by simpa using hc
      obtain ⟨m, rfl⟩ : ∃ k, m = k + 1 := ⟨m - 1, by omega⟩
      rw [cond_false]
      exact pop_total m _ _ (by omega) (by omega) (by simp only [List.length_set]; exact hl) (by simp only [List.length_set]; omega)
set_option maxHeartbeats 4000000 in
set_option maxRecDepth 100000 in
theorem heapq_Queue_int_Pop_w (b_q : Nat) (q : Queue) (A_q_heap : Option Addr) (c_q_heap : Nat) (w : World) (hM : Sat ⟨w, feet [.inl (b_q, .cells #[.slice A_q_heap q.heap.length c_q_heap, .int .i64 q.next] 105 (0, 0)), .inr (Own A_q_heap c_q_heap 107 3 (q.heap.map item.c))]⟩ [.inl (b_q, .cells #[.slice A_q_heap q.heap.length c_q_heap, .int .i64 q.next] 105 (0, 0)), .inr (Own A_q_heap c_q_heap 107 3 (q.heap.map item.c))] w) (hn : q.heap.length ≤ 1000) : Calls Try.prog 49 #[.pointer (some ⟨b_q, 0, none⟩)] w (RetM (Γ := (Option Addr × Nat)) ⟨w, feet [.inl (b_q, .cells #[.slice A_q_heap q.heap.length c_q_heap, .int .i64 q.next] 105 (0, 0)), .inr (Own A_q_heap c_q_heap 107 3 (q.heap.map item.c))]⟩ (fun _ => .tuple #[.int .i64 ((heapq_Queue_int_Pop q).1), .int .i64 ((heapq_Queue_int_Pop q).2.1), .bool ((heapq_Queue_int_Pop q).2.2.1)]) (fun g => [.inl (b_q, .cells #[.slice g.1 ((((heapq_Queue_int_Pop q).2.2.2).heap).length) g.2, .int .i64 (((heapq_Queue_int_Pop q).2.2.2).next)] 105 (0, 0)), .inr (Own g.1 g.2 107 3 ((((heapq_Queue_int_Pop q).2.2.2).heap).map item.c))])) := by
  refine calls_introM (w0 := ⟨w, feet [Bk b_q #[.slice A_q_heap q.heap.length c_q_heap, .i q.next] 105, Ow A_q_heap c_q_heap 107 3 (q.heap.map item.c)]⟩) (vs := [.p0 b_q]) hM Try.func49 rfl Try.ntmps49 rfl (TC.know (fun w hM => hM.short_at 1 rfl) (fun s_q_heap => TC.sr (TL.r 3 [] [(2, .i 0), (3, .i 0), (4, .b false)] {} (TL.nr (TL.r 6 [0] [(5, .i (q.heap.length : Int))] {} (TL.ns (TC.sr (TL.r 2 [] [(18, .b ((q.heap.length : Int) == 0))] {} (TL.next rfl (TC.cond ((q.heap.length : Int) == 0) rfl Kr (fun h1 => ?_) (fun h1 => ?_)))))))))))
  · refine TC.sr (TL.r 1 [] [(6, .i 0)] {} (TL.nr (TL.r 4 [] [(2, .i 0), (3, .i 0), (4, .b false)] {} (TL.next rfl (TC.ret (TE.rt ?_))))))
    have e : heapq_Queue_int_Pop q = (0, 0, false, q) := by unfold heapq_Queue_int_Pop; exact cond_t h1 (rfl)
    rw [e]
    exact TE.retM (.inl rfl) (A_q_heap, c_q_heap) [] (.tuple #[.i 0, .i 0, .b false]) {} rfl (fun _ hM => hM.sub (sb 3))
  · have q1_0 := (beq_f h1)
    refine TC.snr (TL.r 4 [0] [(23, .slice A_q_heap q.heap.length c_q_heap)] {} (TL.v (sV (Instr.indexAt 103 (.slice A_q_heap q.heap.length c_q_heap) (.i 0))) 24 (.pointer (some (Ix A_q_heap (0 * 3)))) (fun w hM => run_index (hM.rd_at 1 rfl) (by simp) Kr (by (try have ko_ := kid_or (i := i) (k := k) (by omega) (by omega)); have kl_ : ((q.heap.set 0 (q.heap[(q.heap.length - 1)]?.getD item.zero)).set (q.heap.length - 1) (⟨0, 0, 0⟩ : item)).length = q.heap.length := (by simp only [List.length_set]); exact sd) (by (try have ko_ := kid_or (i := i) (k := k) (by omega) (by omega)); have kl_ : ((q.heap.set 0 (q.heap[(q.heap.length - 1)]?.getD item.zero)).set (q.heap.length - 1) (⟨0, 0, 0⟩ : item)).length = q.heap.length := (by simp only [List.length_set]); exact sd)) {} (TL.v (sV (Instr.loadAt 107 (.pointer (some (Ix A_q_heap (0 * 3)))))) 25 (item.v (q.heap[0]?.getD item.zero)) (fun w hM => run_load_agg (n := 3) (off := 0) (i := 0) (item.v (q.heap[0]?.getD item.zero)) (hM.rd_at 1 rfl) (map_at (getD_at _ _ item.zero (by (try have ko_ := kid_or (i := i) (k := k) (by omega) (by omega)); have kl_ : ((q.heap.set 0 (q.heap[(q.heap.length - 1)]?.getD item.zero)).set (q.heap.length - 1) (⟨0, 0, 0⟩ : item)).length = q.heap.length := (by simp only [List.length_set]); exact sd))) Kr Kr Kr) {} (TL.nw 7 (fun b1 => .p0 b1) (fun b1 => Bk b1 (item.c item.zero) 107) (fun b1 => {}) (fun b1 => TL.s 0 (Bk b1 (item.c (q.heap[0]?.getD item.zero)) 107) (fun _ => {}) (TL.ns (TC.drawTail 13 Kr Kr (TQ.r 10 [1, 1] [(29, .slice A_q_heap q.heap.length c_q_heap), (33, .slice A_q_heap q.heap.length c_q_heap), (35, .i (w64 ((q.heap.length : Int) - 1)))] {} (TQ.rw 35 (.i (w64 ((q.heap.length : Int) - 1))) (.i ((q.heap.length - 1 : Nat) : Int)) Kr (w64_pred q.heap.length (by (try have ko_ := kid_or (i := i) (k := k) (by omega) (by omega)); have kl_ : ((q.heap.set 0 (q.heap[(q.heap.length - 1)]?.getD item.zero)).set (q.heap.length - 1) (⟨0, 0, 0⟩ : item)).length = q.heap.length := (by simp only [List.length_set]); exact sd)) (TQ.v (sV (Instr.indexAt 103 (.slice A_q_heap q.heap.length c_q_heap) (.i ((q.heap.length - 1 : Nat) : Int)))) 36 (.pointer (some (Ix A_q_heap ((q.heap.length - 1) * 3)))) (fun w hM => run_index (hM.rd_at 2 rfl) (by simp) Kr (by (try have ko_ := kid_or (i := i) (k := k) (by omega) (by omega)); have kl_ : ((q.heap.set 0 (q.heap[(q.heap.length - 1)]?.getD item.zero)).set (q.heap.length - 1) (⟨0, 0, 0⟩ : item)).length = q.heap.length := (by simp only [List.length_set]); exact sd) (by (try have ko_ := kid_or (i := i) (k := k) (by omega) (by omega)); have kl_ : ((q.heap.set 0 (q.heap[(q.heap.length - 1)]?.getD item.zero)).set (q.heap.length - 1) (⟨0, 0, 0⟩ : item)).length = q.heap.length := (by simp only [List.length_set]); exact sd)) rfl {} (TQ.v (sV (Instr.loadAt 107 (.pointer (some (Ix A_q_heap ((q.heap.length - 1) * 3)))))) 37 (item.v (q.heap[(q.heap.length - 1)]?.getD item.zero)) (fun w hM => run_load_agg (n := 3) (off := 0) (i := (q.heap.length - 1)) (item.v (q.heap[(q.heap.length - 1)]?.getD item.zero)) (hM.rd_at 2 rfl) (map_at (getD_at _ _ item.zero (by (try have ko_ := kid_or (i := i) (k := k) (by omega) (by omega)); have kl_ : ((q.heap.set 0 (q.heap[(q.heap.length - 1)]?.getD item.zero)).set (q.heap.length - 1) (⟨0, 0, 0⟩ : item)).length = q.heap.length := (by simp only [List.length_set]); exact sd))) Kr Kr Kr) rfl {} (TQ.v (sV (Instr.indexAt 103 (.slice A_q_heap q.heap.length c_q_heap) (.i 0))) 38 (.pointer (some (Ix A_q_heap (0 * 3)))) (fun w hM => run_index (hM.rd_at 2 rfl) (by simp) Kr (by (try have ko_ := kid_or (i := i) (k := k) (by omega) (by omega)); have kl_ : ((q.heap.set 0 (q.heap[(q.heap.length - 1)]?.getD item.zero)).set (q.heap.length - 1) (⟨0, 0, 0⟩ : item)).length = q.heap.length := (by simp only [List.length_set]); exact sd) (by (try have ko_ := kid_or (i := i) (k := k) (by omega) (by omega)); have kl_ : ((q.heap.set 0 (q.heap[(q.heap.length - 1)]?.getD item.zero)).set (q.heap.length - 1) (⟨0, 0, 0⟩ : item)).length = q.heap.length := (by simp only [List.length_set]); exact sd)) rfl {} (TQ.tail rfl (TL.ks (Γ := Unit) (sU (Instr.storeAt 107 (.pointer (some ((Ix A_q_heap (0 * 3)).add 0))) (item.v (q.heap[(q.heap.length - 1)]?.getD item.zero)))) 2 (Ow A_q_heap c_q_heap 107 3 ((q.heap.set 0 (q.heap[(q.heap.length - 1)]?.getD item.zero)).map item.c)) (run_store_at (n := 3) (off := 0) (item.v (q.heap[(q.heap.length - 1)]?.getD item.zero)) 2 ((q.heap.set 0 (q.heap[(q.heap.length - 1)]?.getD item.zero)).map item.c) rfl (map_at (getD_at _ _ item.zero (by (try have ko_ := kid_or (i := i) (k := k) (by omega) (by omega)); have kl_ : ((q.heap.set 0 (q.heap[(q.heap.length - 1)]?.getD item.zero)).set (q.heap.length - 1) (⟨0, 0, 0⟩ : item)).length = q.heap.length := (by simp only [List.length_set]); exact sd))) Kr Kr Kr Kr (set_map_at Kr)) Kr (TL.conv [Bk b1 (item.c (q.heap[0]?.getD item.zero)) 107, Bk b_q #[.slice A_q_heap ((q.heap.set 0 (q.heap[(q.heap.length - 1)]?.getD item.zero)).length) c_q_heap, .i q.next] 105, Ow A_q_heap c_q_heap 107 3 ((q.heap.set 0 (q.heap[(q.heap.length - 1)]?.getD item.zero)).map item.c)] (fun _ hM => by rw [show (q.heap.set 0 (q.heap[(q.heap.length - 1)]?.getD item.zero)).length = q.heap.length from by simp only [List.length_set]]; exact hM) (TL.nr (TL.r 7 [1] [(42, .slice A_q_heap ((q.heap.set 0 (q.heap[(q.heap.length - 1)]?.getD item.zero)).length) c_q_heap), (44, .i (w64 ((q.heap.length : Int) - 1))), (45, item.v item.zero)] {} (TL.rw 44 (.i (w64 ((q.heap.length : Int) - 1))) (.i ((q.heap.length - 1 : Nat) : Int)) Kr (w64_pred q.heap.length (by (try have ko_ := kid_or (i := i) (k := k) (by omega) (by omega)); have kl_ : ((q.heap.set 0 (q.heap[(q.heap.length - 1)]?.getD item.zero)).set (q.heap.length - 1) (⟨0, 0, 0⟩ : item)).length = q.heap.length := (by simp only [List.length_set]); exact sd)) (TL.v (sV (Instr.indexAt 103 (.slice A_q_heap ((q.heap.set 0 (q.heap[(q.heap.length - 1)]?.getD item.zero)).length) c_q_heap) (.i ((q.heap.length - 1 : Nat) : Int)))) 46 (.pointer (some (Ix A_q_heap ((q.heap.length - 1) * 3)))) (fun w hM => run_index (hM.rd_at 2 rfl) (by simp) Kr (by (try have ko_ := kid_or (i := i) (k := k) (by omega) (by omega)); have kl_ : ((q.heap.set 0 (q.heap[(q.heap.length - 1)]?.getD item.zero)).set (q.heap.length - 1) (⟨0, 0, 0⟩ : item)).length = q.heap.length := (by simp only [List.length_set]); exact sd) (by (try have ko_ := kid_or (i := i) (k := k) (by omega) (by omega)); have kl_ : ((q.heap.set 0 (q.heap[(q.heap.length - 1)]?.getD item.zero)).set (q.heap.length - 1) (⟨0, 0, 0⟩ : item)).length = q.heap.length := (by simp only [List.length_set]); exact sd)) {} (TL.ks (Γ := Unit) (sU (Instr.storeAt 107 (.pointer (some ((Ix A_q_heap ((q.heap.length - 1) * 3)).add 0))) (item.v item.zero))) 2 (Ow A_q_heap c_q_heap 107 3 (((q.heap.set 0 (q.heap[(q.heap.length - 1)]?.getD item.zero)).set (q.heap.length - 1) (⟨0, 0, 0⟩ : item)).map item.c)) (run_store_at (n := 3) (off := 0) (item.v item.zero) 2 (((q.heap.set 0 (q.heap[(q.heap.length - 1)]?.getD item.zero)).set (q.heap.length - 1) (⟨0, 0, 0⟩ : item)).map item.c) rfl (map_at (getD_at _ _ item.zero (by (try have ko_ := kid_or (i := i) (k := k) (by omega) (by omega)); have kl_ : ((q.heap.set 0 (q.heap[(q.heap.length - 1)]?.getD item.zero)).set (q.heap.length - 1) (⟨0, 0, 0⟩ : item)).length = q.heap.length := (by simp only [List.length_set]); exact sd))) Kr Kr Kr Kr (set_map_at Kr)) Kr (TL.conv [Bk b1 (item.c (q.heap[0]?.getD item.zero)) 107, Bk b_q #[.slice A_q_heap (((q.heap.set 0 (q.heap[(q.heap.length - 1)]?.getD item.zero)).set (q.heap.length - 1) (⟨0, 0, 0⟩ : item)).length) c_q_heap, .i q.next] 105, Ow A_q_heap c_q_heap 107 3 (((q.heap.set 0 (q.heap[(q.heap.length - 1)]?.getD item.zero)).set (q.heap.length - 1) (⟨0, 0, 0⟩ : item)).map item.c)] (fun _ hM => by rw [show ((q.heap.set 0 (q.heap[(q.heap.length - 1)]?.getD item.zero)).set (q.heap.length - 1) (⟨0, 0, 0⟩ : item)).length = (q.heap.set 0 (q.heap[(q.heap.length - 1)]?.getD item.zero)).length from by simp only [List.length_set]]; exact hM) (TL.nr (TL.r 7 [1] [(47, .p0 b_q), (51, .slice A_q_heap (((q.heap.set 0 (q.heap[(q.heap.length - 1)]?.getD item.zero)).set (q.heap.length - 1) (⟨0, 0, 0⟩ : item)).length) c_q_heap), (53, .i (w64 ((q.heap.length : Int) - 1)))] {} (TL.rw 53 (.i (w64 ((q.heap.length : Int) - 1))) (.i ((q.heap.length - 1 : Nat) : Int)) Kr (w64_pred q.heap.length (by (try have ko_ := kid_or (i := i) (k := k) (by omega) (by omega)); have kl_ : ((q.heap.set 0 (q.heap[(q.heap.length - 1)]?.getD item.zero)).set (q.heap.length - 1) (⟨0, 0, 0⟩ : item)).length = q.heap.length := (by simp only [List.length_set]); exact sd)) ?_))))))))))))))))))))))))
    obtain ⟨A1, hA1⟩ : ∃ A0_, A0_ = (if c_q_heap = 0 then A_q_heap else A_q_heap.map (fun a => a.add (0 * 3))) := ⟨_, rfl⟩
    refine TL.v (sV (Instr.sliceAt 103 (.slice A_q_heap (((q.heap.set 0 (q.heap[(q.heap.length - 1)]?.getD item.zero)).set (q.heap.length - 1) (⟨0, 0, 0⟩ : item)).length) c_q_heap) none (some (.i ((q.heap.length - 1 : Nat) : Int))) none)) 54 (.slice A1 ((((q.heap.set 0 (q.heap[(q.heap.length - 1)]?.getD item.zero)).set (q.heap.length - 1) (⟨0, 0, 0⟩ : item)).take (q.heap.length - 1)).length) (c_q_heap - 0)) (fun w hM => (run_slice 0 (q.heap.length - 1) Kr (.inl ⟨rfl, rfl⟩) (.inr ⟨_, _, rfl, (by (try have ko_ := kid_or (i := i) (k := k) (by omega) (by omega)); have kl_ : ((q.heap.set 0 (q.heap[(q.heap.length - 1)]?.getD item.zero)).set (q.heap.length - 1) (⟨0, 0, 0⟩ : item)).length = q.heap.length := (by simp only [List.length_set]); exact sd), rfl⟩) (by (try have ko_ := kid_or (i := i) (k := k) (by omega) (by omega)); have kl_ : ((q.heap.set 0 (q.heap[(q.heap.length - 1)]?.getD item.zero)).set (q.heap.length - 1) (⟨0, 0, 0⟩ : item)).length = q.heap.length := (by simp only [List.length_set]); exact sd) (Nat.le_trans (by (try have ko_ := kid_or (i := i) (k := k) (by omega) (by omega)); have kl_ : ((q.heap.set 0 (q.heap[(q.heap.length - 1)]?.getD item.zero)).set (q.heap.length - 1) (⟨0, 0, 0⟩ : item)).length = q.heap.length := (by simp only [List.length_set]); exact sd) (hM.le_at 2 rfl))).trans (by rw [hA1]; (try have ko_ := kid_or (i := i) (k := k) (by omega) (by omega)); have kl_ : ((q.heap.set 0 (q.heap[(q.heap.length - 1)]?.getD item.zero)).set (q.heap.length - 1) (⟨0, 0, 0⟩ : item)).length = q.heap.length := (by simp only [List.length_set]); congr 3; first | (simp only [List.length_take] <;> omega) | (simp only [List.length_take] at * <;> omega))) {} (TL.r 10 [] [(56, .p0 b_q)] {} (TL.conv [Bk b1 (item.c (q.heap[0]?.getD item.zero)) 107, Bk b_q #[.slice A_q_heap (((q.heap.set 0 (q.heap[(q.heap.length - 1)]?.getD item.zero)).set (q.heap.length - 1) (⟨0, 0, 0⟩ : item)).length) c_q_heap, .i q.next] 105, Ow A_q_heap c_q_heap 107 3 ((((q.heap.set 0 (q.heap[(q.heap.length - 1)]?.getD item.zero)).set (q.heap.length - 1) (⟨0, 0, 0⟩ : item)).take (q.heap.length - 1)).map item.c)] (fun _ hM => by have h_ := hM.takerow (q.heap.length - 1) 2 rfl (by simp only [List.length_map]; exact (by (try have ko_ := kid_or (i := i) (k := k) (by omega) (by omega)); have kl_ : ((q.heap.set 0 (q.heap[(q.heap.length - 1)]?.getD item.zero)).set (q.heap.length - 1) (⟨0, 0, 0⟩ : item)).length = q.heap.length := (by simp only [List.length_set]); exact sg)); rw [← List.map_take] at h_; exact h_) (TL.rw 54 (.slice A1 ((((q.heap.set 0 (q.heap[(q.heap.length - 1)]?.getD item.zero)).set (q.heap.length - 1) (⟨0, 0, 0⟩ : item)).take (q.heap.length - 1)).length) (c_q_heap - 0)) (.slice A_q_heap ((((q.heap.set 0 (q.heap[(q.heap.length - 1)]?.getD item.zero)).set (q.heap.length - 1) (⟨0, 0, 0⟩ : item)).take (q.heap.length - 1)).length) c_q_heap) Kr (by rw [hA1, cut0]; rfl) (TL.s 1 (Bk b_q #[.slice A_q_heap ((((q.heap.set 0 (q.heap[(q.heap.length - 1)]?.getD item.zero)).set (q.heap.length - 1) (⟨0, 0, 0⟩ : item)).take (q.heap.length - 1)).length) c_q_heap, .i q.next] 105) (fun _ => {}) (TL.nr (TL.r 1 [] [(8, .i 0)] {} (TL.next rfl ?_)))))))
    obtain ⟨R1, hR⟩ : ∃ R, heapq_Queue_int_Pop_L1 q (q.heap.length + 1) 0 (((q.heap.set 0 (q.heap[(q.heap.length - 1)]?.getD item.zero)).set (q.heap.length - 1) (⟨0, 0, 0⟩ : item)).take (q.heap.length - 1)) = some R := (pop_total q.heap.length _ _ (Int.le_refl _) (by decide) (by simp only [List.length_take, List.length_set]; omega) (by simp only [List.length_take, List.length_set]; omega))
    refine TC.cut (S := Unit) (fun _ => []) (fun _ => []) (fun _ => False) ?_ ?_
    · refine TC.block (TC.lw (X := Nat × Int × (List item) × (Option Addr) × Nat) (fun (m, i, xs_, A_xs_, c_xs_) => [(0, .p0 b_q), (7, .p0 b1), (8, .i i)]) (fun (m, i, xs_, A_xs_, c_xs_) => [Bk b1 (item.c (q.heap[0]?.getD item.zero)) 107, Bk b_q #[.slice A_xs_ xs_.length c_xs_, .i q.next] 105, Ow A_xs_ c_xs_ 107 3 (xs_.map item.c)]) (fun (m, i, xs_, A_xs_, c_xs_) => m) (fun (m, i, xs_, A_xs_, c_xs_) => m ≤ (q.heap.length + 1) ∧ heapq_Queue_int_Pop_L1 q m i xs_ = some R1 ∧ xs_.length ≤ (((q.heap.set 0 (q.heap[(q.heap.length - 1)]?.getD item.zero)).set (q.heap.length - 1) (⟨0, 0, 0⟩ : item)).take (q.heap.length - 1)).length + ((q.heap.length + 1) - m) ∧ (0 ≤ i ∧ i ≤ 1000 ∧ xs_.length ≤ 1000)) ?_ ((q.heap.length + 1), 0, (((q.heap.set 0 (q.heap[(q.heap.length - 1)]?.getD item.zero)).set (q.heap.length - 1) (⟨0, 0, 0⟩ : item)).take (q.heap.length - 1)), A_q_heap, c_q_heap) ⟨Nat.le_refl _, hR, sz, (by (try have ko_ := kid_or (i := i) (k := k) (by omega) (by omega)); have kl_ : ((q.heap.set 0 (q.heap[(q.heap.length - 1)]?.getD item.zero)).set (q.heap.length - 1) (⟨0, 0, 0⟩ : item)).length = q.heap.length := (by simp only [List.length_set]); exact sz)⟩ Kr (sb 7))
      rintro ⟨m, i, xs_, A_xs_, c_xs_⟩ ⟨hk, hI, hl_xs_, hl_iv0⟩
      rcases m with _ | m
      · cases hI
      refine TC.block (TC.sr (TL.r 2 [] [(9, .i i)] {} (TL.ns (TC.sr (TL.r 6 [] [(60, .i (w64 ((w64 (2 * i)) + 1))), (63, .i (w64 ((w64 (2 * i)) + 2)))] {} (TL.nw 64 (fun b2 => .slice (Pa b2) 2 2) (fun b2 => Bk b2 #[.i (w64 ((w64 (2 * i)) + 1)), .i (w64 ((w64 (2 * i)) + 2))] 3) (fun b2 => {}) (fun b2 => TL.r 9 [] [(65, .i 2), (66, .i 0)] {} (TL.next rfl (TC.conv [Ow (Pa b2) 2 3 1 (([w64 ((w64 (2 * i)) + 1), w64 ((w64 (2 * i)) + 2)] : List Int).map ic), Bk b1 (item.c (q.heap[0]?.getD item.zero)) 107, Bk b_q #[.slice A_xs_ xs_.length c_xs_, .i q.next] 105, Ow A_xs_ c_xs_ 107 3 (xs_.map item.c)] (fun _ hM => by exact hM.litrow 0 (([w64 ((w64 (2 * i)) + 1), w64 ((w64 (2 * i)) + 2)] : List Int).map ic) rfl Kr Kr Kr Kr) ?_)))))))))
      obtain ⟨R3, hR_2⟩ : ∃ R, R = heapq_Queue_int_Pop_L2 i xs_ ((2 : Int).toNat) 0 i := ⟨_, rfl⟩
      refine TC.cut (S := Int) (fun least_2 => [(0, .p0 b_q), (7, .p0 b1), (8, .i i), (9, .i least_2)]) (fun least_2 => [Bk b1 (item.c (q.heap[0]?.getD item.zero)) 107, Bk b_q #[.slice A_xs_ xs_.length c_xs_, .i q.next] 105, Ow A_xs_ c_xs_ 107 3 (xs_.map item.c)]) (fun least_2 => R3 = least_2 ∧ (i ≤ least_2 ∧ (least_2 = i ∨ least_2 < (xs_.length : Int)))) ?_ ?_
      · refine TC.block (TC.lw (X := Nat × Int) (fun (k, least) => [(0, .p0 b_q), (7, .p0 b1), (8, .i i), (9, .i least), (64, .slice (Pa b2) (([w64 ((w64 (2 * i)) + 1), w64 ((w64 (2 * i)) + 2)] : List Int).length) 2), (65, .i 2), (66, .i (k : Int))]) (fun (k, least) => [Ow (Pa b2) 2 3 1 (([w64 ((w64 (2 * i)) + 1), w64 ((w64 (2 * i)) + 2)] : List Int).map ic), Bk b1 (item.c (q.heap[0]?.getD item.zero)) 107, Bk b_q #[.slice A_xs_ xs_.length c_xs_, .i q.next] 105, Ow A_xs_ c_xs_ 107 3 (xs_.map item.c)]) (fun (k, least) => (2 : Int).toNat - k) (fun (k, least) => k ≤ (2 : Int).toNat ∧ R3 = heapq_Queue_int_Pop_L2 i xs_ ((2 : Int).toNat - k) k least ∧ (i ≤ least ∧ (least = i ∨ least < (xs_.length : Int)))) ?_ (0, i) ⟨Nat.zero_le _, hR_2, (by (try have ko_ := kid_or (i := i) (k := k) (by omega) (by omega)); have kl_ : ((q.heap.set 0 (q.heap[(q.heap.length - 1)]?.getD item.zero)).set (q.heap.length - 1) (⟨0, 0, 0⟩ : item)).length = q.heap.length := (by simp only [List.length_set]); exact sz)⟩ Kr (sb 15))
        rintro ⟨k, least⟩ ⟨hk_2, hI_2, hl_iv0⟩
        refine TC.sr (TL.r 1 [] [(67, .b (decide ((k : Int) < 2)))] {} (TL.ns (TC.cond (decide ((k : Int) < 2)) rfl Kr (fun h2 => ?_) (fun h2 => ?_))))
        · have hlt_2 : k < (2 : Int).toNat := by have := of_decide_eq_true h2; first | omega | (simp at this; omega)
          have hd_2 : (2 : Int).toNat - k = ((2 : Int).toNat - (k + 1)) + 1 := by omega
          refine TC.sn (TC.seq (TC.block (TC.sr (TL.v (sV (Instr.indexAt 53 (.slice (Pa b2) (([w64 ((w64 (2 * i)) + 1), w64 ((w64 (2 * i)) + 2)] : List Int).length) 2) (.i (k : Int)))) 68 (.pointer (some (((Pa b2).getD noAddr).add (k * 1)))) (fun w hM => run_index (hM.rd_at 0 rfl) (by simp) Kr (by (try have ko_ := kid_or (i := i) (k := k) (by omega) (by omega)); have kl_ : ((q.heap.set 0 (q.heap[(q.heap.length - 1)]?.getD item.zero)).set (q.heap.length - 1) (⟨0, 0, 0⟩ : item)).length = q.heap.length := (by simp only [List.length_set]); exact sd) (by (try have ko_ := kid_or (i := i) (k := k) (by omega) (by omega)); have kl_ : ((q.heap.set 0 (q.heap[(q.heap.length - 1)]?.getD item.zero)).set (q.heap.length - 1) (⟨0, 0, 0⟩ : item)).length = q.heap.length := (by simp only [List.length_set]); exact sd)) {} (TL.v (sV (Instr.loadAt 3 (.pointer (some (((Pa b2).getD noAddr).add (k * 1)))))) 69 (.i (([w64 ((w64 (2 * i)) + 1), w64 ((w64 (2 * i)) + 2)] : List Int)[k]?.getD 0)) (fun w hM => run_load_one (off := 0) (i := k) (.i (([w64 ((w64 (2 * i)) + 1), w64 ((w64 (2 * i)) + 2)] : List Int)[k]?.getD 0)) (hM.rd_at 0 rfl) (map_at (getD_at _ _ 0 (by (try have ko_ := kid_or (i := i) (k := k) (by omega) (by omega)); have kl_ : ((q.heap.set 0 (q.heap[(q.heap.length - 1)]?.getD item.zero)).set (q.heap.length - 1) (⟨0, 0, 0⟩ : item)).length = q.heap.length := (by simp only [List.length_set]); exact sd))) Kr Kr) {} (TL.r 3 [] [(11, .i (([w64 ((w64 (2 * i)) + 1), w64 ((w64 (2 * i)) + 2)] : List Int)[k]?.getD 0))] {} (TL.ns (TC.draw 24 Kr Kr Kr (TQ.r 8 [2] [(77, .b (decide ((([w64 ((w64 (2 * i)) + 1), w64 ((w64 (2 * i)) + 2)] : List Int)[k]?.getD 0) < (xs_.length : Int))))] {} (TQ.split 77 (decide ((([w64 ((w64 (2 * i)) + 1), w64 ((w64 (2 * i)) + 2)] : List Int)[k]?.getD 0) < (xs_.length : Int))) Kr (fun h3 => ?_) (fun h3 => ?_)))))))))))
          · have q3_0 := (dec_t h3)
            refine TQ.r 13 [2] [(81, .slice A_xs_ xs_.length c_xs_), (82, .i (([w64 ((w64 (2 * i)) + 1), w64 ((w64 (2 * i)) + 2)] : List Int)[k]?.getD 0))] {} (TQ.v (sV (Instr.indexAt 103 (.slice A_xs_ xs_.length c_xs_) (.i (([w64 ((w64 (2 * i)) + 1), w64 ((w64 (2 * i)) + 2)] : List Int)[k]?.getD 0)))) 83 (.pointer (some ((A_xs_.getD noAddr).add ((([w64 ((w64 (2 * i)) + 1), w64 ((w64 (2 * i)) + 2)] : List Int)[k]?.getD 0).toNat * 3)))) (fun w hM => run_index (hM.rd_at 3 rfl) (by simp) Kr (by (try have ko_ := kid_or (i := i) (k := k) (by omega) (by omega)); have kl_ : ((q.heap.set 0 (q.heap[(q.heap.length - 1)]?.getD item.zero)).set (q.heap.length - 1) (⟨0, 0, 0⟩ : item)).length = q.heap.length := (by simp only [List.length_set]); exact sd) (by (try have ko_ := kid_or (i := i) (k := k) (by omega) (by omega)); have kl_ : ((q.heap.set 0 (q.heap[(q.heap.length - 1)]?.getD item.zero)).set (q.heap.length - 1) (⟨0, 0, 0⟩ : item)).length = q.heap.length := (by simp only [List.length_set]); exact sd)) rfl {} (TQ.v (sV (Instr.loadAt 107 (.pointer (some ((A_xs_.getD noAddr).add ((([w64 ((w64 (2 * i)) + 1), w64 ((w64 (2 * i)) + 2)] : List Int)[k]?.getD 0).toNat * 3)))))) 84 (item.v (xs_[(([w64 ((w64 (2 * i)) + 1), w64 ((w64 (2 * i)) + 2)] : List Int)[k]?.getD 0).toNat]?.getD item.zero)) (fun w hM => run_load_agg (n := 3) (off := 0) (i := (([w64 ((w64 (2 * i)) + 1), w64 ((w64 (2 * i)) + 2)] : List Int)[k]?.getD 0).toNat) (item.v (xs_[(([w64 ((w64 (2 * i)) + 1), w64 ((w64 (2 * i)) + 2)] : List Int)[k]?.getD 0).toNat]?.getD item.zero)) (hM.rd_at 3 rfl) (map_at (getD_at _ _ item.zero (by (try have ko_ := kid_or (i := i) (k := k) (by omega) (by omega)); have kl_ : ((q.heap.set 0 (q.heap[(q.heap.length - 1)]?.getD item.zero)).set (q.heap.length - 1) (⟨0, 0, 0⟩ : item)).length = q.heap.length := (by simp only [List.length_set]); exact sd))) Kr Kr Kr) rfl {} (TQ.r 20 [2] [(88, .slice A_xs_ xs_.length c_xs_), (89, .i least)] {} (TQ.v (sV (Instr.indexAt 103 (.slice A_xs_ xs_.length c_xs_) (.i least))) 90 (.pointer (some (Ix A_xs_ (least.toNat * 3)))) (fun w hM => run_index (hM.rd_at 3 rfl) (by simp) Kr (by (try have ko_ := kid_or (i := i) (k := k) (by omega) (by omega)); have kl_ : ((q.heap.set 0 (q.heap[(q.heap.length - 1)]?.getD item.zero)).set (q.heap.length - 1) (⟨0, 0, 0⟩ : item)).length = q.heap.length := (by simp only [List.length_set]); exact sd) (by (try have ko_ := kid_or (i := i) (k := k) (by omega) (by omega)); have kl_ : ((q.heap.set 0 (q.heap[(q.heap.length - 1)]?.getD item.zero)).set (q.heap.length - 1) (⟨0, 0, 0⟩ : item)).length = q.heap.length := (by simp only [List.length_set]); exact sd)) rfl {} (TQ.v (sV (Instr.loadAt 107 (.pointer (some (Ix A_xs_ (least.toNat * 3)))))) 91 (item.v (xs_[least.toNat]?.getD item.zero)) (fun w hM => run_load_agg (n := 3) (off := 0) (i := least.toNat) (item.v (xs_[least.toNat]?.getD item.zero)) (hM.rd_at 3 rfl) (map_at (getD_at _ _ item.zero (by (try have ko_ := kid_or (i := i) (k := k) (by omega) (by omega)); have kl_ : ((q.heap.set 0 (q.heap[(q.heap.length - 1)]?.getD item.zero)).set (q.heap.length - 1) (⟨0, 0, 0⟩ : item)).length = q.heap.length := (by simp only [List.length_set]); exact sd))) Kr Kr Kr) rfl {} (TQ.c 92 (heapq_item_int_before (xs_[(([w64 ((w64 (2 * i)) + 1), w64 ((w64 (2 * i)) + 2)] : List Int)[k]?.getD 0).toNat]?.getD item.zero) (xs_[least.toNat]?.getD item.zero)) (fun r1 => .b r1) (fun w _ => heapq_item_int_before_w (xs_[(([w64 ((w64 (2 * i)) + 1), w64 ((w64 (2 * i)) + 2)] : List Int)[k]?.getD 0).toNat]?.getD item.zero) (xs_[least.toNat]?.getD item.zero) w) rfl {} (fun r1 hr1 => TQ.r 24 [] [(93, .b r1)] {} (TQ.next rfl (TC.cond r1 rfl Kr (fun h4 => ?_) (fun h4 => ?_))))))))))
            · exact TC.region (TL.r 2 [] [(9, .i (([w64 ((w64 (2 * i)) + 1), w64 ((w64 (2 * i)) + 2)] : List Int)[k]?.getD 0))] {} (TL.done rfl (TE.nb (TE.next (TC.region (TL.r 2 [] [(66, .i (w64 ((k : Int) + 1)))] {} (TL.done rfl (TE.rw 66 (.i (w64 ((k : Int) + 1))) (.i ((k + 1 : Nat) : Int)) Kr (w64_cast k (by (try have ko_ := kid_or (i := i) (k := k) (by omega) (by omega)); have kl_ : ((q.heap.set 0 (q.heap[(q.heap.length - 1)]?.getD item.zero)).set (q.heap.length - 1) (⟨0, 0, 0⟩ : item)).length = q.heap.length := (by simp only [List.length_set]); omega)) (TE.again (x := (k, least)) (k + 1, (([w64 ((w64 (2 * i)) + 1), w64 ((w64 (2 * i)) + 2)] : List Int)[k]?.getD 0)) ⟨by omega, hI_2.trans (by subst hr1; rw [hd_2]; exact cond_t h3 (cond_t h4 (rfl))), (by (try have ko_ := kid_or (i := i) (k := k) (by omega) (by omega)); have kl_ : ((q.heap.set 0 (q.heap[(q.heap.length - 1)]?.getD item.zero)).set (q.heap.length - 1) (⟨0, 0, 0⟩ : item)).length = q.heap.length := (by simp only [List.length_set]); exact sl)⟩ (mN hlt_2) Kr (sb 15))))))))))
            · exact TC.skip (TE.nb (TE.next (TC.region (TL.r 2 [] [(66, .i (w64 ((k : Int) + 1)))] {} (TL.done rfl (TE.rw 66 (.i (w64 ((k : Int) + 1))) (.i ((k + 1 : Nat) : Int)) Kr (w64_cast k (by (try have ko_ := kid_or (i := i) (k := k) (by omega) (by omega)); have kl_ : ((q.heap.set 0 (q.heap[(q.heap.length - 1)]?.getD item.zero)).set (q.heap.length - 1) (⟨0, 0, 0⟩ : item)).length = q.heap.length := (by simp only [List.length_set]); omega)) (TE.again (x := (k, least)) (k + 1, least) ⟨by omega, hI_2.trans (by subst hr1; rw [hd_2]; exact cond_t h3 (cond_f h4 (rfl))), (by (try have ko_ := kid_or (i := i) (k := k) (by omega) (by omega)); have kl_ : ((q.heap.set 0 (q.heap[(q.heap.length - 1)]?.getD item.zero)).set (q.heap.length - 1) (⟨0, 0, 0⟩ : item)).length = q.heap.length := (by simp only [List.length_set]); exact sl)⟩ (mN hlt_2) Kr (sb 15))))))))
          · have q3_0 := (dec_f h3)
            exact TQ.r 24 [] [(93, .b false)] {} (TQ.next rfl (TC.condF rfl Kr (TC.skip (TE.nb (TE.next (TC.region (TL.r 2 [] [(66, .i (w64 ((k : Int) + 1)))] {} (TL.done rfl (TE.rw 66 (.i (w64 ((k : Int) + 1))) (.i ((k + 1 : Nat) : Int)) Kr (w64_cast k (by (try have ko_ := kid_or (i := i) (k := k) (by omega) (by omega)); have kl_ : ((q.heap.set 0 (q.heap[(q.heap.length - 1)]?.getD item.zero)).set (q.heap.length - 1) (⟨0, 0, 0⟩ : item)).length = q.heap.length := (by simp only [List.length_set]); omega)) (TE.again (x := (k, least)) (k + 1, least) ⟨by omega, hI_2.trans (by rw [hd_2]; exact cond_f h3 (rfl)), (by (try have ko_ := kid_or (i := i) (k := k) (by omega) (by omega)); have kl_ : ((q.heap.set 0 (q.heap[(q.heap.length - 1)]?.getD item.zero)).set (q.heap.length - 1) (⟨0, 0, 0⟩ : item)).length = q.heap.length := (by simp only [List.length_set]); exact sl)⟩ (mN hlt_2) Kr (sb 15)))))))))))
        · have hd_2 : (2 : Int).toNat - k = 0 := by have := of_decide_eq_false h2; first | omega | (simp at this; omega)
          refine TC.exit (TE.et (TE.et (TE.exit_same ?_)))
          exact TE.cut least (⟨hI_2.trans (by rw [hd_2]; exact rfl), (by (try have ko_ := kid_or (i := i) (k := k) (by omega) (by omega)); have kl_ : ((q.heap.set 0 (q.heap[(q.heap.length - 1)]?.getD item.zero)).set (q.heap.length - 1) (⟨0, 0, 0⟩ : item)).length = q.heap.length := (by simp only [List.length_set]); exact sl)⟩) Kr (sb 14)
      · rintro least_2 ⟨hJ_2, hl_ov1_0⟩
        refine TE.next (TC.seq (TC.sr (TL.r 3 [] [(98, .b (least_2 == i))] {} (TL.next rfl (TC.cond (least_2 == i) rfl Kr (fun h5 => ?_) (fun h5 => ?_))))))
        · refine TC.seq (TC.draw 7 Kr Kr Kr (TQ.r 7 [0, 0] [(2, .i ((q.heap[0]?.getD item.zero).priority)), (3, .i ((q.heap[0]?.getD item.zero).value)), (4, .b true)] {} (TQ.next rfl (TC.ret (TE.rt (TE.rb (TE.rt (TE.rb (TE.rt ?_)))))))))
          have e : heapq_Queue_int_Pop q = ((q.heap[0]?.getD item.zero).priority, (q.heap[0]?.getD item.zero).value, true, (⟨xs_, q.next⟩ : Queue)) := by unfold heapq_Queue_int_Pop; exact cond_f h1 (elim_r ((congrArg (Option.getD · _) hR).trans (Option.some.inj (hI.symm.trans (bindv_eq (hR_2.symm.trans hJ_2) (cond_t h5 (rfl)))))) rfl)
          rw [e]
          exact TE.retM (.inl rfl) (A_xs_, c_xs_) [] (.tuple #[.i ((q.heap[0]?.getD item.zero).priority), .i ((q.heap[0]?.getD item.zero).value), .b true]) {} rfl (fun _ hM => hM.sub (sb 6))
        · have q5_0 := (beq_f h5)
          refine TC.sn (TC.seq ?_)
          let Mr19_ : Mem := [Bk b1 (item.c (q.heap[0]?.getD item.zero)) 107, Bk b_q #[.slice A_xs_ xs_.length c_xs_, .i q.next] 105]
          refine TC.plan (G := Unit) (base := [(0, .p0 b_q), (7, .p0 b1), (8, .i i), (9, .i least_2)]) (vals := fun γ => [.p0 b_q, .p0 b_q, .p0 b_q, .slice A_xs_ xs_.length c_xs_, .i i, .p0 b_q, .p0 b_q, .p0 b_q, .slice A_xs_ xs_.length c_xs_, .i least_2, .p0 b_q, .p0 b_q, .p0 b_q, .slice A_xs_ xs_.length c_xs_, .i least_2, .pointer (some (Ix A_xs_ (least_2.toNat * 3))), item.v (xs_[least_2.toNat]?.getD item.zero), .p0 b_q, .p0 b_q, .p0 b_q, .slice A_xs_ xs_.length c_xs_, .i i, .pointer (some (Ix A_xs_ (i.toNat * 3))), item.v (xs_[i.toNat]?.getD item.zero), .pointer (some (Ix A_xs_ (i.toNat * 3))), undef, .pointer (some (Ix A_xs_ (least_2.toNat * 3))), undef]) (writes := [25, 27]) (mem := fun bs γ => match bs with | [x25_, x27_] => (bif x27_ then [Ow A_xs_ c_xs_ 107 3 (((xs_.set i.toNat (xs_[least_2.toNat]?.getD item.zero)).set least_2.toNat (xs_[i.toNat]?.getD item.zero)).map item.c)] else bif x25_ then [Ow A_xs_ c_xs_ 107 3 ((xs_.set i.toNat (xs_[least_2.toNat]?.getD item.zero)).map item.c)] else [Ow A_xs_ c_xs_ 107 3 (xs_.map item.c)]) ++ (Mr19_) | _ => []) () (fun γ => [(0, .p0 b_q), (7, .p0 b1), (9, .i least_2)]) Kr Kr Kr Kr Kr (fun γ => Kr) (fun _ hM => hM.perm (px [2, 0, 1])) (fun γ => Kr) ?_ ?_
          · skip
            exact Steps.run (i := 0) 15 [0, 0, 0, 1, 0, 0, 0, 0, 1, 0, 0, 0, 0, 1, 0] Mr19_ Kr Kr (fun S (γ : Unit) w hM => by rw [mS2 rfl rfl] at hM; exact hM.sub (sub_skip (List.Sublist.refl _))) Kr (fun (γ : Unit) => {}) (Steps.valL (i := 15) (fun (γ : Unit) => sV (Instr.indexAt 103 (.slice A_xs_ xs_.length c_xs_) (.i least_2))) (some 118) (fun (γ : Unit) => .pointer (some (Ix A_xs_ (least_2.toNat * 3)))) (fun _ => [Ow A_xs_ c_xs_ 107 3 (xs_.map item.c)] ++ Mr19_) Kr (fun S (γ : Unit) w hi hd hu hM => by rw [mS2 (lat (hu 15 25 Kr) hi) (lat (hu 15 27 Kr) hi)] at hM; exact hM.sub (sub_one (List.Sublist.refl _))) (fun (γ : Unit) w hM => run_index (hM.rd_at 0 rfl) (by simp) Kr (by (try have ko_ := kid_or (i := i) (k := k) (by omega) (by omega)); have kl_ : ((q.heap.set 0 (q.heap[(q.heap.length - 1)]?.getD item.zero)).set (q.heap.length - 1) (⟨0, 0, 0⟩ : item)).length = q.heap.length := (by simp only [List.length_set]); exact sd) (by (try have ko_ := kid_or (i := i) (k := k) (by omega) (by omega)); have kl_ : ((q.heap.set 0 (q.heap[(q.heap.length - 1)]?.getD item.zero)).set (q.heap.length - 1) (⟨0, 0, 0⟩ : item)).length = q.heap.length := (by simp only [List.length_set]); exact sd)) (fun (γ : Unit) => Kr) (fun (γ : Unit) => Kr) (Steps.valL (i := 16) (fun (γ : Unit) => sV (Instr.loadAt 107 (.pointer (some (Ix A_xs_ (least_2.toNat * 3)))))) (some 119) (fun (γ : Unit) => item.v (xs_[least_2.toNat]?.getD item.zero)) (fun _ => [Ow A_xs_ c_xs_ 107 3 (xs_.map item.c)] ++ Mr19_) Kr (fun S (γ : Unit) w hi hd hu hM => by rw [mS2 (lat (hu 16 25 Kr) hi) (lat (hu 16 27 Kr) hi)] at hM; exact hM.sub (sub_one (List.Sublist.refl _))) (fun (γ : Unit) w hM => run_load_agg (n := 3) (off := 0) (i := least_2.toNat) (item.v (xs_[least_2.toNat]?.getD item.zero)) (hM.rd_at 0 rfl) (map_at (getD_at _ _ item.zero (by (try have ko_ := kid_or (i := i) (k := k) (by omega) (by omega)); have kl_ : ((q.heap.set 0 (q.heap[(q.heap.length - 1)]?.getD item.zero)).set (q.heap.length - 1) (⟨0, 0, 0⟩ : item)).length = q.heap.length := (by simp only [List.length_set]); exact sd))) Kr Kr Kr) (fun (γ : Unit) => Kr) (fun (γ : Unit) => Kr) (Steps.run (i := 17) 22 [0, 0, 0, 1, 0] Mr19_ Kr Kr (fun S (γ : Unit) w hM => by rw [mS2 rfl rfl] at hM; exact hM.sub (sub_skip (List.Sublist.refl _))) Kr (fun (γ : Unit) => {}) (Steps.valL (i := 22) (fun (γ : Unit) => sV (Instr.indexAt 103 (.slice A_xs_ xs_.length c_xs_) (.i i))) (some 125) (fun (γ : Unit) => .pointer (some (Ix A_xs_ (i.toNat * 3)))) (fun _ => [Ow A_xs_ c_xs_ 107 3 (xs_.map item.c)] ++ Mr19_) Kr (fun S (γ : Unit) w hi hd hu hM => by rw [mS2 (lat (hu 23 25 Kr) (lat (hu 22 23 Kr) hi)) (lat (hu 22 27 Kr) hi)] at hM; exact hM.sub (sub_one (List.Sublist.refl _))) (fun (γ : Unit) w hM => run_index (hM.rd_at 0 rfl) (by simp) Kr (by (try have ko_ := kid_or (i := i) (k := k) (by omega) (by omega)); have kl_ : ((q.heap.set 0 (q.heap[(q.heap.length - 1)]?.getD item.zero)).set (q.heap.length - 1) (⟨0, 0, 0⟩ : item)).length = q.heap.length := (by simp only [List.length_set]); exact sd) (by (try have ko_ := kid_or (i := i) (k := k) (by omega) (by omega)); have kl_ : ((q.heap.set 0 (q.heap[(q.heap.length - 1)]?.getD item.zero)).set (q.heap.length - 1) (⟨0, 0, 0⟩ : item)).length = q.heap.length := (by simp only [List.length_set]); exact sd)) (fun (γ : Unit) => Kr) (fun (γ : Unit) => Kr) (Steps.valL (i := 23) (fun (γ : Unit) => sV (Instr.loadAt 107 (.pointer (some (Ix A_xs_ (i.toNat * 3)))))) (some 126) (fun (γ : Unit) => item.v (xs_[i.toNat]?.getD item.zero)) (fun _ => [Ow A_xs_ c_xs_ 107 3 (xs_.map item.c)] ++ Mr19_) Kr (fun S (γ : Unit) w hi hd hu hM => by rw [mS2 (lat (hu 23 25 Kr) hi) (lat (hu 23 27 Kr) hi)] at hM; exact hM.sub (sub_one (List.Sublist.refl _))) (fun (γ : Unit) w hM => run_load_agg (n := 3) (off := 0) (i := i.toNat) (item.v (xs_[i.toNat]?.getD item.zero)) (hM.rd_at 0 rfl) (map_at (getD_at _ _ item.zero (by (try have ko_ := kid_or (i := i) (k := k) (by omega) (by omega)); have kl_ : ((q.heap.set 0 (q.heap[(q.heap.length - 1)]?.getD item.zero)).set (q.heap.length - 1) (⟨0, 0, 0⟩ : item)).length = q.heap.length := (by simp only [List.length_set]); exact sd))) Kr Kr Kr) (fun (γ : Unit) => Kr) (fun (γ : Unit) => Kr) (Steps.valL (i := 24) (fun (γ : Unit) => sV (Instr.indexAt 103 (.slice A_xs_ xs_.length c_xs_) (.i i))) (some 127) (fun (γ : Unit) => .pointer (some (Ix A_xs_ (i.toNat * 3)))) (fun _ => [Ow A_xs_ c_xs_ 107 3 (xs_.map item.c)] ++ Mr19_) Kr (fun S (γ : Unit) w hi hd hu hM => by rw [mS2 (lat (hu 24 25 Kr) hi) (lat (hu 24 27 Kr) hi)] at hM; exact hM.sub (sub_one (List.Sublist.refl _))) (fun (γ : Unit) w hM => run_index (hM.rd_at 0 rfl) (by simp) Kr (by (try have ko_ := kid_or (i := i) (k := k) (by omega) (by omega)); have kl_ : ((q.heap.set 0 (q.heap[(q.heap.length - 1)]?.getD item.zero)).set (q.heap.length - 1) (⟨0, 0, 0⟩ : item)).length = q.heap.length := (by simp only [List.length_set]); exact sd) (by (try have ko_ := kid_or (i := i) (k := k) (by omega) (by omega)); have kl_ : ((q.heap.set 0 (q.heap[(q.heap.length - 1)]?.getD item.zero)).set (q.heap.length - 1) (⟨0, 0, 0⟩ : item)).length = q.heap.length := (by simp only [List.length_set]); exact sd)) (fun (γ : Unit) => Kr) (fun (γ : Unit) => Kr) (Steps.put (i := 25) (fun (γ : Unit) => [Ow A_xs_ c_xs_ 107 3 (xs_.map item.c)]) (fun (γ : Unit) => [Ow A_xs_ c_xs_ 107 3 ((xs_.set i.toNat (xs_[least_2.toNat]?.getD item.zero)).map item.c)]) (fun S (γ : Unit) => Mr19_) (fun (γ : Unit) => sU (Instr.storeAt 107 (.pointer (some ((Ix A_xs_ (i.toNat * 3)).add 0))) (item.v (xs_[least_2.toNat]?.getD item.zero)))) none (fun S (γ : Unit) hj hd hl => by rw [mS2 hj (hl 27 Kr)]; exact List.Perm.refl _) (fun S (γ : Unit) hl => by rw [mS2 (S := upS S 25) (a0 := 25) (a1 := 27) rfl (hl 27 Kr)]; exact (List.Perm.refl _).symm) (fun (γ : Unit) M' w hM => (by obtain ⟨_, w2_, h1_, h2_⟩ := run_store_at (n := 3) (off := 0) (item.v (xs_[least_2.toNat]?.getD item.zero)) 0 ((xs_.set i.toNat (xs_[least_2.toNat]?.getD item.zero)).map item.c) rfl (map_at (getD_at _ _ item.zero (by (try have ko_ := kid_or (i := i) (k := k) (by omega) (by omega)); have kl_ : ((q.heap.set 0 (q.heap[(q.heap.length - 1)]?.getD item.zero)).set (q.heap.length - 1) (⟨0, 0, 0⟩ : item)).length = q.heap.length := (by simp only [List.length_set]); exact sd))) Kr Kr Kr Kr (set_map_at Kr) w hM; exact ⟨w2_, h1_, h2_⟩)) (fun (γ : Unit) => Kr) (fun (γ : Unit) => Kr) (Steps.valL (i := 26) (fun (γ : Unit) => sV (Instr.indexAt 103 (.slice A_xs_ xs_.length c_xs_) (.i least_2))) (some 128) (fun (γ : Unit) => .pointer (some (Ix A_xs_ (least_2.toNat * 3)))) (fun _ => [Ow A_xs_ c_xs_ 107 3 ((xs_.set i.toNat (xs_[least_2.toNat]?.getD item.zero)).map item.c)] ++ Mr19_) Kr (fun S (γ : Unit) w hi hd hu hM => by rw [mS2 (hd 25 Kr) (lat (hu 26 27 Kr) hi)] at hM; exact hM.sub (sub_one (List.Sublist.refl _))) (fun (γ : Unit) w hM => run_index (hM.rd_at 0 rfl) (by simp) Kr (by (try have ko_ := kid_or (i := i) (k := k) (by omega) (by omega)); have kl_ : ((q.heap.set 0 (q.heap[(q.heap.length - 1)]?.getD item.zero)).set (q.heap.length - 1) (⟨0, 0, 0⟩ : item)).length = q.heap.length := (by simp only [List.length_set]); exact sd) (by (try have ko_ := kid_or (i := i) (k := k) (by omega) (by omega)); have kl_ : ((q.heap.set 0 (q.heap[(q.heap.length - 1)]?.getD item.zero)).set (q.heap.length - 1) (⟨0, 0, 0⟩ : item)).length = q.heap.length := (by simp only [List.length_set]); exact sd)) (fun (γ : Unit) => Kr) (fun (γ : Unit) => Kr) (Steps.put (i := 27) (fun (γ : Unit) => [Ow A_xs_ c_xs_ 107 3 ((xs_.set i.toNat (xs_[least_2.toNat]?.getD item.zero)).map item.c)]) (fun (γ : Unit) => [Ow A_xs_ c_xs_ 107 3 (((xs_.set i.toNat (xs_[least_2.toNat]?.getD item.zero)).set least_2.toNat (xs_[i.toNat]?.getD item.zero)).map item.c)]) (fun S (γ : Unit) => Mr19_) (fun (γ : Unit) => sU (Instr.storeAt 107 (.pointer (some ((Ix A_xs_ (least_2.toNat * 3)).add 0))) (item.v (xs_[i.toNat]?.getD item.zero)))) none (fun S (γ : Unit) hj hd hl => by rw [mS2 (hd 25 Kr) hj]; exact List.Perm.refl _) (fun S (γ : Unit) _ => (List.Perm.refl _).symm) (fun (γ : Unit) M' w hM => (by obtain ⟨_, w2_, h1_, h2_⟩ := run_store_at (n := 3) (off := 0) (item.v (xs_[i.toNat]?.getD item.zero)) 0 (((xs_.set i.toNat (xs_[least_2.toNat]?.getD item.zero)).set least_2.toNat (xs_[i.toNat]?.getD item.zero)).map item.c) rfl (map_at (getD_at _ _ item.zero (by rw [List.length_set]; exact (by (try have ko_ := kid_or (i := i) (k := k) (by omega) (by omega)); have kl_ : ((q.heap.set 0 (q.heap[(q.heap.length - 1)]?.getD item.zero)).set (q.heap.length - 1) (⟨0, 0, 0⟩ : item)).length = q.heap.length := (by simp only [List.length_set]); exact sd)))) Kr Kr Kr Kr (set_map_at Kr) w hM; exact ⟨w2_, h1_, h2_⟩)) (fun (γ : Unit) => Kr) (fun (γ : Unit) => Kr) (Steps.done Kr))))))))))
          · intro _
            exact TE.conv [Ow A_xs_ c_xs_ 107 3 (((xs_.set i.toNat (xs_[least_2.toNat]?.getD item.zero)).set least_2.toNat (xs_[i.toNat]?.getD item.zero)).map item.c), Bk b1 (item.c (q.heap[0]?.getD item.zero)) 107, Bk b_q #[.slice A_xs_ xs_.length c_xs_, .i q.next] 105] (fun _ hM => hM) (TE.conv [Ow A_xs_ c_xs_ 107 3 (((xs_.set i.toNat (xs_[least_2.toNat]?.getD item.zero)).set least_2.toNat (xs_[i.toNat]?.getD item.zero)).map item.c), Bk b1 (item.c (q.heap[0]?.getD item.zero)) 107, Bk b_q #[.slice A_xs_ (((xs_.set i.toNat (xs_[least_2.toNat]?.getD item.zero)).set least_2.toNat (xs_[i.toNat]?.getD item.zero)).length) c_xs_, .i q.next] 105] (fun _ hM => by rw [show ((xs_.set i.toNat (xs_[least_2.toNat]?.getD item.zero)).set least_2.toNat (xs_[i.toNat]?.getD item.zero)).length = xs_.length from by simp only [List.length_set]]; exact hM) (TE.next (TC.region (TL.r 2 [] [(8, .i least_2)] {} (TL.done rfl (TE.nb (TE.conv [Bk b1 (item.c (q.heap[0]?.getD item.zero)) 107, Bk b_q #[.slice A_xs_ (((xs_.set i.toNat (xs_[least_2.toNat]?.getD item.zero)).set least_2.toNat (xs_[i.toNat]?.getD item.zero)).length) c_xs_, .i q.next] 105, Ow A_xs_ c_xs_ 107 3 (((xs_.set i.toNat (xs_[least_2.toNat]?.getD item.zero)).set least_2.toNat (xs_[i.toNat]?.getD item.zero)).map item.c)] (fun _ hM => hM.perm (px [1, 2, 0])) (TE.again (x := (m + 1, i, xs_, A_xs_, c_xs_)) (m, least_2, ((xs_.set i.toNat (xs_[least_2.toNat]?.getD item.zero)).set least_2.toNat (xs_[i.toNat]?.getD item.zero)), A_xs_, c_xs_) ⟨by omega, (by refine Eq.trans (Eq.symm ?_) hI; exact bindv_eq (hR_2.symm.trans hJ_2) (cond_f h5 (rfl))), (by (try have ko_ := kid_or (i := i) (k := k) (by omega) (by omega)); have kl_ : ((q.heap.set 0 (q.heap[(q.heap.length - 1)]?.getD item.zero)).set (q.heap.length - 1) (⟨0, 0, 0⟩ : item)).length = q.heap.length := (by simp only [List.length_set]); exact sl), (by (try have ko_ := kid_or (i := i) (k := k) (by omega) (by omega)); have kl_ : ((q.heap.set 0 (q.heap[(q.heap.length - 1)]?.getD item.zero)).set (q.heap.length - 1) (⟨0, 0, 0⟩ : item)).length = q.heap.length := (by simp only [List.length_set]); exact sl)⟩ (Nat.lt_succ_self _) Kr (sb 7)))))))))
    · exact fun _ hf_ => hf_.elim
end Go.Sky
end
section
namespace Go.Eng
open Go.RowKit Go.Sort Go.Proofs Go.Shelf
def by_ (s : ByteArray) : List UInt8 := s.data.toList
def sortT (l : List ByteArray) : List ByteArray := l.mergeSort fun x y => decide (by_ x ≤ by_ y)
theorem enc_by (s : ByteArray) : encStr (by_ s) = .string s := by
  unfold encStr by_
  rfl
theorem flat_sc (l : List ByteArray) : flat (l.map sc) = (l.map by_).map encStr := by
  induction l with
  | nil => rfl
  | cons x l ih => rw [List.map_cons, flat_cons, ih, List.map_cons, List.map_cons, enc_by]; rfl
theorem sortT_map (l : List ByteArray) : (sortT l).map by_ = (l.map by_).mergeSort fun x y => decide (x ≤ y) := List.map_mergeSort fun _ _ _ _ => rfl
theorem sortT_length (l : List ByteArray) : (sortT l).length = l.length := List.length_mergeSort _
theorem strs_sort {P : Program} {ρ : Ren} (L : Lays.n190 P ρ) (A : Option Addr) (cap e : Nat) (l : List ByteArray) (w : World) (hM : Sat ⟨w, feet [.inr (Own A cap e 1 (l.map sc))]⟩ [.inr (Own A cap e 1 (l.map sc))] w) :
    Calls P (ρ.f 190) #[.slice A l.length cap] w (RetM (Γ := List ByteArray) ⟨w, feet [.inr (Own A cap e 1 (l.map sc))]⟩ (fun _ => .tuple #[])
      (fun g => [.inr (Fact (g.length = l.length ∧ g = sortT l)), .inr (Own A cap e 1 (g.map sc))])) := by
  rcases hM.own_at 0 rfl with ⟨hc, hr⟩ | ⟨g, cur, h⟩
  · have hl : l = [] := by simpa using hr
    subst hl
    refine (Any.slices_Sort_string_none L A cap w).mono ?_
    rintro en w' ⟨rfl, rfl⟩
    exact ⟨[], rfl, hM.fact (by simp [sortT])⟩
  · have hl : (l.map sc).length = l.length := by simp
    have hat := h.at_; subst hat
    have hh := h.heap
    have ht : cur.toList.take (l.map by_).length = (l.map by_).map encStr := by
      have := h.holds
      rwa [hl, Nat.mul_one, flat_sc, ← List.length_map (f := by_)] at this
    have hc := Any.slices_Sort_string L g 0 cap (l.map by_) w (holds_of_block hh ht) (heap_lt hh) (by have := h.short; rwa [hl, ← List.length_map (f := by_)] at this)
    rw [List.length_map] at hc
    refine hc.mono ?_
    rintro en w' ⟨rfl, n, os, rfl⟩
    rw [← sortT_map]
    have hsl := sortT_length l
    generalize hs : sortT l = s at hsl ⊢
    have hle := h.le; rw [hl] at hle
    have hG := grownBy_sorted (w := w) (g := g) (n := n) (os := os) (s.map by_).toArray
    have hB := heap_sorted (w := w) (g := g) (n := n) (os := os) (cur := cur) (e := e) (fr := (0, 0)) (s.map by_).toArray hh
    refine ⟨s, rfl, Sat.fact ?_ ⟨hsl, rfl⟩⟩
    have hsz := h.size
    refine hM.step (j := 0) (e' := .inr (Own (some ⟨g, 0, none⟩) cap e 1 (s.map sc))) rfl ⟨hG.os, hG.tape, hG.output, hG.size, fun k hk hf => hG.block k hk (fun he => hf ?_), Nat.le_add_right _ _⟩ ?_ (fun b hb => .inl hb)
    · simp only [Option.some.injEq] at he
      exact ⟨h.pos, _, rfl, he.symm⟩
    · refine .inr ⟨g, putCells encStr 0 (s.map by_).toArray cur, rfl, h.pos, hB, by simp [hsl, hle], h.max, by simp [putCells, hsz], ?_, ?_, ?_⟩
      · rw [List.length_map, Nat.mul_one, flat_sc]
        have := take_putCells cur (s.map by_) (by rw [List.length_map]; omega)
        rwa [List.length_map] at this
      · intro r hr
        simp only [List.mem_map] at hr
        obtain ⟨x, _, rfl⟩ := hr; rfl
      · rw [List.length_map, hsl]; have := h.short; rwa [hl] at this
end Go.Eng
end
section
namespace Go.Proofs
open Go.Shelf
def Try.laysSortT_ren : Go.Shelf.Ren := ⟨fun | 190 => 41 | 125 => 52 | 258 => 51 | 128 => 67 | 129 => 68 | 302 => 59 | 303 => 60 | 304 => 61 | 305 => 62 | 306 => 63 | 307 => 64 | 308 => 54 | 309 => 65 | 310 => 66 | 333 => 74 | 329 => 75 | 330 => 76 | 334 => 77 | 335 => 78 | 336 => 69 | 344 => 81 | n => n, fun | 31 => 29 | 9 => 9 | 3 => 3 | 46 => 96 | 0 => 0 | 51 => 117 | 53 => 119 | 4 => 4 | 183 => 111 | 182 => 110 | 131 => 83 | 5 => 5 | 218 => 124 | 222 => 128 | 228 => 131 | 229 => 99 | n => n, fun | n => n⟩
theorem Try.laysSortT : Lays.n190 Try.prog Try.laysSortT_ren := {
  mixed := by kernel_rfl,
  f125 := Try.func52.trans (congrArg some (by kernel_rfl)),
  f128 := Try.func67.trans (congrArg some (by kernel_rfl)),
  f129 := Try.func68.trans (congrArg some (by kernel_rfl)),
  f190 := Try.func41.trans (congrArg some (by kernel_rfl)),
  f258 := Try.func51.trans (congrArg some (by kernel_rfl)),
  f302 := Try.func59.trans (congrArg some (by kernel_rfl)),
  f303 := Try.func60.trans (congrArg some (by kernel_rfl)),
  f304 := Try.func61.trans (congrArg some (by kernel_rfl)),
  f305 := Try.func62.trans (congrArg some (by kernel_rfl)),
  f306 := Try.func63.trans (congrArg some (by kernel_rfl)),
  f307 := Try.func64.trans (congrArg some (by kernel_rfl)),
  f308 := Try.func54.trans (congrArg some (by kernel_rfl)),
  f309 := Try.func65.trans (congrArg some (by kernel_rfl)),
  f310 := Try.func66.trans (congrArg some (by kernel_rfl)),
  f329 := Try.func75.trans (congrArg some (by kernel_rfl)),
  f330 := Try.func76.trans (congrArg some (by kernel_rfl)),
  f333 := Try.func74.trans (congrArg some (by kernel_rfl)),
  f334 := Try.func77.trans (congrArg some (by kernel_rfl)),
  f335 := Try.func78.trans (congrArg some (by kernel_rfl)),
  f336 := Try.func69.trans (congrArg some (by kernel_rfl)),
  f344 := Try.func81.trans (congrArg some (by kernel_rfl)),
  t0 := Try.underlying0,
  a0 := Try.isAgg0,
  z0 := Try.sizeOf0,
  v0 := Try.zeroValue0,
  t3 := Try.underlying3,
  a3 := Try.isAgg3,
  z3 := Try.sizeOf3,
  v3 := Try.zeroValue3,
  t4 := Try.underlying4,
  a4 := Try.isAgg4,
  z4 := Try.sizeOf4,
  v4 := Try.zeroValue4,
  t5 := Try.underlying5,
  a5 := Try.isAgg5,
  z5 := Try.sizeOf5,
  v5 := Try.zeroValue5,
  t9 := Try.underlying9,
  a9 := Try.isAgg9,
  z9 := Try.sizeOf9,
  v9 := Try.zeroValue9,
  t31 := Try.underlying29,
  a31 := Try.isAgg29,
  z31 := Try.sizeOf29,
  v31 := Try.zeroValue29,
  t46 := Try.underlying96,
  a46 := Try.isAgg96,
  z46 := Try.sizeOf96,
  v46 := Try.zeroValue96,
  t51 := Try.underlying117,
  a51 := Try.isAgg117,
  z51 := Try.sizeOf117,
  v51 := Try.zeroValue117,
  t53 := Try.underlying119,
  a53 := Try.isAgg119,
  z53 := Try.sizeOf119,
  v53 := Try.zeroValue119,
  t131 := Try.underlying83,
  a131 := Try.isAgg83,
  z131 := Try.sizeOf83,
  v131 := Try.zeroValue83,
  t182 := Try.underlying110,
  a182 := Try.isAgg110,
  z182 := Try.sizeOf110,
  v182 := Try.zeroValue110,
  t183 := Try.underlying111,
  a183 := Try.isAgg111,
  z183 := Try.sizeOf111,
  v183 := Try.zeroValue111,
  t218 := Try.underlying124,
  a218 := Try.isAgg124,
  z218 := Try.sizeOf124,
  v218 := Try.zeroValue124,
  t222 := Try.underlying128,
  a222 := Try.isAgg128,
  z222 := Try.sizeOf128,
  v222 := Try.zeroValue128,
  t228 := Try.underlying131,
  a228 := Try.isAgg131,
  z228 := Try.sizeOf131,
  v228 := Try.zeroValue131,
  t229 := Try.underlying99,
  a229 := Try.isAgg99,
  z229 := Try.sizeOf99,
  v229 := Try.zeroValue99 }
end Go.Proofs
end
section
namespace Go.Srt
open Go Go.Eng
section
variable {T : Type}
def cptA (q : T → T → Bool) (p : T) : List T → List T
  | [] => []
  | b :: l => if q b p = true then cptA q b l else b :: cptA q b l
def cpt (q : T → T → Bool) : List T → List T
  | [] => []
  | a :: l => a :: cptA q a l
variable {q : T → T → Bool} {z : T}
theorem cptA_snoc (b : T) : ∀ (l : List T) (p : T), cptA q p (l ++ [b]) = cptA q p l ++ (if q b ((p :: l)[l.length]?.getD z) = true then [] else [b])
  | [], p => by simp [cptA]
  | a :: l, p => by
    have ih := cptA_snoc b l a
    have e : (p :: a :: l)[(a :: l).length]?.getD z = (a :: l)[l.length]?.getD z := by simp
    rw [e]
    simp only [List.cons_append, cptA]
    rw [ih]
    split <;> simp
theorem cpt_snoc (l : List T) (m : Nat) (h1 : 1 ≤ m) (h2 : m < l.length) :
    cpt q (l.take (m + 1)) = cpt q (l.take m) ++ (if q (l[m]?.getD z) (l[m - 1]?.getD z) = true then [] else [l[m]?.getD z]) := by
  have e : l.take (m + 1) = l.take m ++ [l[m]?.getD z] := by
    rw [List.take_add_one, List.getElem?_eq_getElem h2]; rfl
  rw [e]
  cases l with
  | nil => simp at h2
  | cons a l =>
    obtain ⟨n, rfl⟩ : ∃ n, m = n + 1 := ⟨m - 1, by omega⟩
    simp only [List.length_cons] at h2
    simp only [List.take_succ_cons, List.cons_append, cpt, List.cons.injEq, true_and]
    rw [cptA_snoc (z := z)]
    have hl : (l.take n).length = n := by rw [List.length_take]; omega
    have e2 : (a :: l.take n)[(l.take n).length]?.getD z = (a :: l)[n + 1 - 1]?.getD z := by
      rw [hl, Nat.add_sub_cancel]
      cases n with
      | zero => simp
      | succ n => simp
    rw [e2]
theorem cpt_one {l : List T} (h : 2 ≤ l.length) : cpt q (l.take (1 : Int).toNat) = l.take (1 : Int).toNat := by
  cases l with
  | nil => simp at h
  | cons a l => simp [cpt, cptA]
theorem cpt_short {l : List T} (h : l.length < 2) : l = cpt q l := by
  match l, h with
  | [], _ => rfl
  | [a], _ => rfl
theorem cpt_all {l : List T} {k : Int} (h : cpt q (l.take k.toNat) = l.take k.toNat) (h2 : (l.length : Int) ≤ k) : l = cpt q l := by
  rw [List.take_of_length_le (by omega)] at h; exact h.symm
theorem snoc_ne {l : List T} {k : Int} (h1 : 1 ≤ k) (h2 : k < l.length) (h : q (l[k.toNat]?.getD z) (l[(k - 1).toNat]?.getD z) = false) :
    cpt q (l.take (k + 1).toNat) = cpt q (l.take k.toNat) ++ [l[k.toNat]?.getD z] := by
  have := cpt_snoc (q := q) (z := z) l k.toNat (by omega) (by omega)
  rw [show (k + 1).toNat = k.toNat + 1 by omega, this, show k.toNat - 1 = (k - 1).toNat by omega, h]; simp
theorem snoc_eq {l : List T} {k : Int} (h1 : 1 ≤ k) (h2 : k < l.length) (h : q (l[k.toNat]?.getD z) (l[(k - 1).toNat]?.getD z) = true) :
    cpt q (l.take (k + 1).toNat) = cpt q (l.take k.toNat) := by
  have := cpt_snoc (q := q) (z := z) l k.toNat (by omega) (by omega)
  rw [show (k + 1).toNat = k.toNat + 1 by omega, this, show k.toNat - 1 = (k - 1).toNat by omega, h]; simp
theorem take_snoc {l : List T} {k : Int} (h1 : 0 ≤ k) (h2 : k < l.length) : l.take (k + 1).toNat = l.take k.toNat ++ [l[k.toNat]?.getD z] := by
  rw [show (k + 1).toNat = k.toNat + 1 by omega, List.take_add_one, List.getElem?_eq_getElem (by omega)]; rfl
theorem cpt_step {l : List T} {k : Int} (h : cpt q (l.take k.toNat) = l.take k.toNat) (h1 : 1 ≤ k) (h2 : k < l.length) (hq : q (l[k.toNat]?.getD z) (l[(k - 1).toNat]?.getD z) = false) :
    cpt q (l.take (k + 1).toNat) = l.take (k + 1).toNat := by rw [snoc_ne h1 h2 hq, h, take_snoc (z := z) (by omega) h2]
theorem cpt_in {l : List T} {k : Int} (h : cpt q (l.take k.toNat) = l.take k.toNat) (h1 : 1 ≤ k) (h2 : k < l.length) (hq : q (l[k.toNat]?.getD z) (l[(k - 1).toNat]?.getD z) = true) :
    cpt q (l.take (k + 1).toNat) = l.take k.toNat := by rw [snoc_eq h1 h2 hq, h]
def Cin (q : T → T → Bool) (l : List T) (b i k : Int) (d : List T) : Prop := cpt q (l.take (b + i).toNat) = d.take k.toNat ∧ d.drop (b + i - 1).toNat = l.drop (b + i - 1).toNat
theorem drop_at (l : List T) (b i : Int) (h1 : 0 ≤ b) (h2 : 0 ≤ i) : (l.drop b.toNat)[i.toNat]?.getD z = l[(b + i).toNat]?.getD z := by
  rw [List.getElem?_drop]; congr 2; omega
theorem at_of_drop {l d : List T} {a i : Nat} (h : d.drop a = l.drop a) (hi : a ≤ i) : d[i]? = l[i]? := by
  have := congrArg (fun x => x[i - a]?) h
  simp only [List.getElem?_drop] at this
  rwa [show a + (i - a) = i by omega] at this
theorem cin_at {l d : List T} {b i k j : Int} (h : Cin q l b i k d) (h1 : b + i - 1 ≤ b + j) (h2 : 1 ≤ b) (h3 : 1 ≤ i) : (d.drop b.toNat)[j.toNat]?.getD z = l[(b + j).toNat]?.getD z := by
  rw [drop_at d b j (by omega) (by omega), at_of_drop h.2 (by omega)]
theorem cin_start {l : List T} {k : Int} (h : cpt q (l.take k.toNat) = l.take k.toNat) (h1 : 1 ≤ k) (h2 : k < l.length) (hq : q (l[k.toNat]?.getD z) (l[(k - 1).toNat]?.getD z) = true) : Cin q l k 1 k l :=
  ⟨cpt_in h h1 h2 hq, rfl⟩
theorem cin_eq {l d : List T} {b i k : Int} (h : Cin q l b i k d) (h1 : 1 ≤ b) (h2 : 1 ≤ i) (h3 : b + i < l.length)
    (hq : q ((d.drop b.toNat)[i.toNat]?.getD z) ((d.drop b.toNat)[(i - 1).toNat]?.getD z) = true) : Cin q l b (i + 1) k d := by
  rw [cin_at h (by omega) h1 h2, cin_at h (by omega) h1 h2] at hq
  rw [show b + (i - 1) = b + i - 1 by omega] at hq
  refine ⟨?_, ?_⟩
  · rw [show b + (i + 1) = (b + i) + 1 by omega, snoc_eq (by omega) h3 hq]; exact h.1
  · have := congrArg (List.drop 1) h.2
    rw [List.drop_drop, List.drop_drop] at this
    rwa [show (b + i - 1).toNat + 1 = (b + (i + 1) - 1).toNat by omega] at this
theorem cin_ne {l d : List T} {b i k : Int} (h : Cin q l b i k d) (h1 : 1 ≤ b) (h2 : 1 ≤ i) (h3 : b + i < l.length) (h4 : 0 ≤ k) (h5 : k ≤ b + i - 1) (h6 : d.length = l.length)
    (hq : q ((d.drop b.toNat)[i.toNat]?.getD z) ((d.drop b.toNat)[(i - 1).toNat]?.getD z) = false) : Cin q l b (i + 1) (k + 1) (d.set k.toNat ((d.drop b.toNat)[i.toNat]?.getD z)) := by
  rw [cin_at h (by omega) h1 h2, cin_at h (by omega) h1 h2] at hq
  rw [show b + (i - 1) = b + i - 1 by omega] at hq
  rw [cin_at h (by omega) h1 h2]
  refine ⟨?_, ?_⟩
  · rw [show b + (i + 1) = (b + i) + 1 by omega, snoc_ne (by omega) h3 hq, h.1, take_snoc (z := z) h4 (by rw [List.length_set]; omega)]
    rw [List.take_set_of_le (by omega), List.getElem?_set_self (by omega)]; rfl
  · have := congrArg (List.drop 1) h.2
    rw [List.drop_drop, List.drop_drop] at this
    rw [show (b + i - 1).toNat + 1 = (b + (i + 1) - 1).toNat by omega] at this
    rw [List.drop_set_of_lt (by omega)]; exact this
theorem cin_end {l d : List T} {b i k : Int} (h : Cin q l b i k d) (h1 : (l.length : Int) ≤ b + i) : d.take k.toNat = cpt q l := by
  have := h.1
  rw [List.take_of_length_le (by omega)] at this; exact this.symm
theorem take_clear {l : List T} {k : Nat} {x : List T} (h : k ≤ l.length) : (l.take k ++ x).take k = l.take k := by
  rw [List.take_append, List.take_of_length_le (by rw [List.length_take]; omega), List.length_take, show k - min k l.length = 0 by omega]; simp
end
end Go.Srt
end
section
namespace Go.Eng
theorem zeroCells_flat (z : Array Value) (n : Nat) : (Builtin.zeroCells z n).toList = flat (List.replicate n z) := by
  rw [← made_flat]
  unfold Builtin.zeroCells madeCells
  apply List.ext_getElem?
  intro j
  by_cases hj : j < n * z.size
  · have h0 : 0 < z.size := by rcases Nat.eq_zero_or_pos z.size with h | h; (rw [h] at hj; omega); exact h
    have hmod := Nat.mod_lt j h0
    simp [hj, hmod]
  · rw [List.getElem?_eq_none (by simp; omega)]
theorem flat_oneCell {α : Type} {c : α → Array Value} (h1 : ∀ x, (c x).toList.all Value.oneCell' = true) (l : List α) : ∀ v ∈ flat (l.map c), v.oneCell' = true := by
  intro v hv
  simp only [flat, List.map_map, List.mem_flatten, List.mem_map] at hv
  obtain ⟨r, ⟨x, _, rfl⟩, hr⟩ := hv
  exact List.all_eq_true.1 (h1 x) v hr
theorem run_clear_at {α : Type} {c : α → Array Value} {P : Program} {w0 : Ctx} {M : Mem} {t e sz bytes cap : Nat} {A A1 : Option Addr} {l : List α} (x : α) (j k cap1 n ty : Nat) (hT : rowType P t e sz bytes = true)
    (hz : ((P.info? e).bind (·.zero)).map Value.cells = some (c x)) (h1 : ∀ x, (c x).toList.all Value.oneCell' = true) (hj : M[j]? = some (.inr (Own A cap e sz (l.map c)))) (hA : A1 = if cap = k then A else A.map (fun a => a.add (k * sz)))
    (hn : n = l.length - k) (hk : k ≤ l.length) (w : World) (hM : Sat w0 M w) :
    ∃ (_ : Unit) (w' : World), (sV (Builtin.clear_ #[t] ty #[.slice A1 n cap1])).run P w = .ok (.value (.tuple #[])) w' ∧ Sat w0 (M.set j (.inr (Own A cap e sz ((l.take k ++ List.replicate (l.length - k) x).map c)))) w' := by
  subst hn
  obtain ⟨hu, i, zv, hi, hzv, hs1, hs2, hs3⟩ := rowType_spec hT
  have hz' : zv.cells = c x := by simpa [hi, hzv] using hz
  have hzero : (zeroValue e).run P w = .ok zv w := by simp [zeroValue, typeInfo, hi, hzv]
  have hlen : (l.map c).length = l.length := by simp
  have ho := hM.own_at j hj
  rcases Nat.lt_or_ge k l.length with hkl | hkl
  · rcases ho with ⟨_, h0⟩ | ⟨g, cur, ho⟩
    · have : l = [] := by simpa using h0
      subst this; simp at hkl
    · have hAt := ho.at_; subst hAt
      have hle := ho.le; rw [hlen] at hle
      rw [if_neg (by omega)] at hA
      have hA1 : A1 = some ⟨g, k * sz, none⟩ := by rw [hA, Option.map_some, add_zero_addr]
      obtain ⟨m, hm⟩ : ∃ m, l.length - k = m + 1 := ⟨l.length - k - 1, by omega⟩
      have hall : ∀ r ∈ List.replicate (l.length - k) (c x), r.size = sz := fun r hr => by rw [List.eq_of_mem_replicate hr, ← hz', hs3]
      have hzs : (Builtin.zeroCells zv.cells (l.length - k)).toList = flat (List.replicate (l.length - k) (c x)) := by rw [zeroCells_flat, hz']
      have hfl : (flat (List.replicate (l.length - k) (c x))).length = (l.length - k) * sz := by rw [flat_length _ hall, List.length_replicate]
      have hsz := ho.size
      have hlk : k * sz + (l.length - k) * sz = l.length * sz := by rw [← Nat.add_mul]; congr 1; omega
      have hcs : l.length * sz ≤ cur.size := by rw [hsz]; exact Nat.mul_le_mul_right _ hle
      have hone : ∀ v ∈ flat (List.replicate (l.length - k) (c x)), v.oneCell' = true := by
        have := flat_oneCell h1 (List.replicate (l.length - k) x)
        rwa [List.map_replicate] at this
      have hst := run_storeCells_at P g (k * sz) e (flat (List.replicate (l.length - k) (c x))) 0 cur w ho.heap (by omega) hone
      refine ⟨(), w.setRow g (List.take (k * sz + 0) cur.toList ++ flat (List.replicate (l.length - k) (c x)) ++ List.drop (k * sz + 0 + (flat (List.replicate (l.length - k) (c x))).length) cur.toList).toArray, run_sVw ?_,
        hM.step hj ⟨rfl, rfl, rfl, by simp [World.setRow], fun k' _ hk' => setRow_other w g k' _ (fun e => hk' ⟨ho.pos, _, rfl, e.symm⟩), Nat.le_refl _⟩ ?_ (fun b hb => .inl hb)⟩
      · rw [hA1]
        rw [hm] at hst hzs ⊢
        simp [Builtin.clear_, run_underlying hu, hzero, hzs, hst]
      · refine .inr ⟨g, _, rfl, ho.pos, setRow_heap w g cur _ e _ ho.heap, ?_, ho.max, ?_, ?_, ?_, ?_⟩
        · simp; omega
        · simp only [List.size_toArray, List.length_append, List.length_take, List.length_drop, Array.length_toList, hfl]; omega
        · have h6 := ho.holds
          rw [hlen] at h6
          have hL : ((l.take k ++ List.replicate (l.length - k) x).map c).length * sz = l.length * sz := by congr 1; simp; omega
          have hf1 : flat ((l.take k ++ List.replicate (l.length - k) x).map c) = (flat (l.map c)).take (k * sz) ++ flat (List.replicate (l.length - k) (c x)) := by
            rw [List.map_append, flat_append, List.map_replicate, flat_take _ _ ho.each, List.map_take]
          rw [hL, hf1, ← h6]
          simp only [Nat.add_zero]
          rw [take_splice _ _ _ _ (by omega) (by rw [Array.length_toList]; omega)]
          rw [List.drop_eq_nil_of_le (by rw [List.length_take, hfl]; omega), List.append_nil]
        · intro r hr
          simp only [List.map_append, List.mem_append, List.map_replicate] at hr
          rcases hr with hr | hr
          · exact ho.each r (by rw [List.map_take] at hr; exact List.mem_of_mem_take hr)
          · exact hall r hr
        · have := ho.short
          simp at this ⊢; omega
  · have hk0 : l.length - k = 0 := by omega
    rw [hk0]
    refine ⟨(), w, run_sVw ?_, ?_⟩
    · cases A1 <;> simp [Builtin.clear_, run_underlying hu]
    · rw [List.replicate_zero, List.append_nil, List.take_of_length_le hkl]
      have : M.set j (.inr (Own A cap e sz (l.map c))) = M := by
        obtain ⟨hlt, he⟩ := List.getElem?_eq_some_iff.1 hj
        rw [← he]; exact List.set_getElem_self hlt
      rw [this]; exact hM
end Go.Eng
end
