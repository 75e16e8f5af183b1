/- Functions of the program, each with the Lean function that it computes. Conditions: none. -/
import Derived.Test.YtlaealgmaalgfaaWh
import Derived.Test.YtlaealgmaalgfaaWk
namespace Go.Sky
open Go Go.Eng Go.Proofs
def skywayref1_Square (a : P) (b_ : P) : Int :=
  w64 ((w64 ((w64 (a.X - b_.X)) * (w64 (a.X - b_.X)))) + (w64 ((w64 (a.Y - b_.Y)) * (w64 (a.Y - b_.Y)))))

set_option maxRecDepth 100000 in
theorem skywayref1_Square_w (a : P) (b_ : P) (w : World) : Calls Try.prog 106 #[P.v a, P.v b_] w (Ret w (.int .i64 (skywayref1_Square a b_))) := by
  refine calls_intro (vs := [P.v a, P.v b_]) (w := w) Try.func106 rfl Try.ntmps106 rfl ?_
  refine TC.weak [(0, P.v a), (1, P.v b_)] (by kernel_rfl) ?_
  refine TC.seq ?_
  refine TC.region ?_
  refine TL.write 0 (fun b1 => [(1, P.v b_), (2, .pointer (some ⟨b1, 0, none⟩))]) (fun b1 => [.inl (b1, .cells (P.c a) 25 (0, 0))]) (fun b1 => ⟨by kernel_rfl, by kernel_rfl⟩) (fun b1 => ?_)
  refine TL.write 0 (fun b2 => [(2, .pointer (some ⟨b1, 0, none⟩)), (3, .pointer (some ⟨b2, 0, none⟩))]) (fun b2 => [.inl (b2, .cells (P.c b_) 25 (0, 0)), .inl (b1, .cells (P.c a) 25 (0, 0))]) (fun b2 => ⟨by kernel_rfl, by kernel_rfl⟩) (fun b2 => ?_)
  refine TL.run 3 [] [(2, .pointer (some ⟨b1, 0, none⟩)), (3, .pointer (some ⟨b2, 0, none⟩))] rfl ⟨by kernel_rfl, by kernel_rfl⟩ ?_
  refine TL.next rfl ?_
  refine TC.seq ?_
  refine TC.region ?_
  refine TL.run 24 [1, 0, 1, 0, 1, 0, 1, 0] [(4, .int .i64 (w64 ((w64 ((w64 (a.X - b_.X)) * (w64 (a.X - b_.X)))) + (w64 ((w64 (a.Y - b_.Y)) * (w64 (a.Y - b_.Y)))))))] rfl ⟨by kernel_rfl, by kernel_rfl⟩ ?_
  refine TL.next rfl ?_
  refine TC.ret ?_
  have e : skywayref1_Square a b_ = (w64 ((w64 ((w64 (a.X - b_.X)) * (w64 (a.X - b_.X)))) + (w64 ((w64 (a.Y - b_.Y)) * (w64 (a.Y - b_.Y)))))) := by unfold skywayref1_Square; exact rfl
  exact TE.ret [] (.int .i64 (w64 ((w64 ((w64 (a.X - b_.X)) * (w64 (a.X - b_.X)))) + (w64 ((w64 (a.Y - b_.Y)) * (w64 (a.Y - b_.Y))))))) ⟨by kernel_rfl, by kernel_rfl⟩ (by rw [e]; first | done | kernel_rfl)

def skywayref1_Abs (n : Int) : Int :=
  cond (decide (n < 0)) (
    w64 (0 - n)) (
    n)

set_option maxRecDepth 100000 in
theorem skywayref1_Abs_w (n : Int) (w : World) : Calls Try.prog 107 #[.int .i64 n] w (Ret w (.int .i64 (skywayref1_Abs n))) := by
  refine calls_intro (vs := [.int .i64 n]) (w := w) Try.func107 rfl Try.ntmps107 rfl ?_
  refine TC.weak [(0, .int .i64 n)] (by kernel_rfl) ?_
  refine TC.seq ?_
  refine TC.region ?_
  refine TL.run 1 [] [(0, .int .i64 n)] rfl ⟨by kernel_rfl, by kernel_rfl⟩ ?_
  refine TL.next rfl ?_
  refine TC.seq ?_
  refine TC.seq ?_
  refine TC.region ?_
  refine TL.run 2 [] [(0, .int .i64 n), (4, .bool (decide (n < 0)))] rfl ⟨by kernel_rfl, by kernel_rfl⟩ ?_
  refine TL.next rfl ?_
  refine TC.cond (decide (n < 0)) rfl (by kernel_rfl) (fun h1 => ?_) (fun h1 => ?_)
  · refine TC.seq ?_
    refine TC.region ?_
    refine TL.run 3 [] [(2, .int .i64 (w64 (0 - n)))] rfl ⟨by kernel_rfl, by kernel_rfl⟩ ?_
    refine TL.next rfl ?_
    refine TC.ret ?_
    refine TE.ret_then ?_
    have e : skywayref1_Abs n = (w64 (0 - n)) := by unfold skywayref1_Abs; exact cond_t h1 (rfl)
    exact TE.ret [] (.int .i64 (w64 (0 - n))) ⟨by kernel_rfl, by kernel_rfl⟩ (by rw [e]; first | done | kernel_rfl)
  · refine TC.skip ?_
    refine TE.next ?_
    refine TC.seq ?_
    refine TC.region ?_
    refine TL.run 2 [] [(2, .int .i64 n)] rfl ⟨by kernel_rfl, by kernel_rfl⟩ ?_
    refine TL.next rfl ?_
    refine TC.ret ?_
    have e : skywayref1_Abs n = n := by unfold skywayref1_Abs; exact cond_f h1 (rfl)
    exact TE.ret [] (.int .i64 n) ⟨by kernel_rfl, by kernel_rfl⟩ (by rw [e]; first | done | kernel_rfl)

def skywayref1_Apart (a : TubeNode) (b_ : TubeNode) (s : Sep) : Bool :=
  let r1 := skywayref1_Square a.Node.At b_.Node.At
  cond (decide (r1 ≥ (w64 ((w64 ((w64 (s.Lateral + a.Radius)) + b_.Radius)) * (w64 ((w64 (s.Lateral + a.Radius)) + b_.Radius)))))) (
    true) (
    let r2 := skywayref1_Abs (w64 (a.Node.Height - b_.Node.Height))
    decide (r2 ≥ (w64 ((w64 (s.Vertical + a.Band)) + b_.Band))))

set_option maxRecDepth 100000 in
theorem skywayref1_Apart_w (a : TubeNode) (b_ : TubeNode) (s : Sep) (w : World) : Calls Try.prog 86 #[TubeNode.v a, TubeNode.v b_, Sep.v s] w (Ret w (.bool (skywayref1_Apart a b_ s))) := by
  refine calls_intro (vs := [TubeNode.v a, TubeNode.v b_, Sep.v s]) (w := w) Try.func86 rfl Try.ntmps86 rfl ?_
  refine TC.weak [(0, TubeNode.v a), (1, TubeNode.v b_), (2, Sep.v s)] (by kernel_rfl) ?_
  refine TC.seq ?_
  refine TC.region ?_
  refine TL.write 0 (fun b1 => [(1, TubeNode.v b_), (2, Sep.v s), (3, .pointer (some ⟨b1, 0, none⟩))]) (fun b1 => [.inl (b1, .cells (TubeNode.c a) 57 (0, 0))]) (fun b1 => ⟨by kernel_rfl, by kernel_rfl⟩) (fun b1 => ?_)
  refine TL.write 0 (fun b2 => [(2, Sep.v s), (3, .pointer (some ⟨b1, 0, none⟩)), (4, .pointer (some ⟨b2, 0, none⟩))]) (fun b2 => [.inl (b2, .cells (TubeNode.c b_) 57 (0, 0)), .inl (b1, .cells (TubeNode.c a) 57 (0, 0))]) (fun b2 => ⟨by kernel_rfl, by kernel_rfl⟩) (fun b2 => ?_)
  refine TL.write 0 (fun b3 => [(3, .pointer (some ⟨b1, 0, none⟩)), (4, .pointer (some ⟨b2, 0, none⟩)), (5, .pointer (some ⟨b3, 0, none⟩))]) (fun b3 => [.inl (b3, .cells (Sep.c s) 84 (0, 0)), .inl (b2, .cells (TubeNode.c b_) 57 (0, 0)), .inl (b1, .cells (TubeNode.c a) 57 (0, 0))]) (fun b3 => ⟨by kernel_rfl, by kernel_rfl⟩) (fun b3 => ?_)
  refine TL.run 4 [] [(3, .pointer (some ⟨b1, 0, none⟩)), (4, .pointer (some ⟨b2, 0, none⟩)), (5, .pointer (some ⟨b3, 0, none⟩))] rfl ⟨by kernel_rfl, by kernel_rfl⟩ ?_
  refine TL.next rfl ?_
  refine TC.seq ?_
  refine TC.region ?_
  refine TL.run 9 [0, 2, 1] [(3, .pointer (some ⟨b1, 0, none⟩)), (4, .pointer (some ⟨b2, 0, none⟩)), (5, .pointer (some ⟨b3, 0, none⟩)), (7, .int .i64 (w64 ((w64 (s.Lateral + a.Radius)) + b_.Radius)))] rfl ⟨by kernel_rfl, by kernel_rfl⟩ ?_
  refine TL.next rfl ?_
  refine TC.seq ?_
  refine TC.draw 31 (by kernel_rfl) (by kernel_rfl) (by kernel_rfl) ?_
  refine TQ.run 6 [2, 1] [(3, .pointer (some ⟨b1, 0, none⟩)), (4, .pointer (some ⟨b2, 0, none⟩)), (5, .pointer (some ⟨b3, 0, none⟩)), (7, .int .i64 (w64 ((w64 (s.Lateral + a.Radius)) + b_.Radius))), (18, P.v a.Node.At), (21, P.v b_.Node.At)] rfl ⟨by kernel_rfl, by kernel_rfl⟩ ?_
  refine TQ.call (some 22) [(3, .pointer (some ⟨b1, 0, none⟩)), (4, .pointer (some ⟨b2, 0, none⟩)), (5, .pointer (some ⟨b3, 0, none⟩)), (7, .int .i64 (w64 ((w64 (s.Lateral + a.Radius)) + b_.Radius))), (22, .int .i64 (skywayref1_Square a.Node.At b_.Node.At))] (fun w _ => skywayref1_Square_w a.Node.At b_.Node.At w) rfl (by kernel_rfl) (by kernel_rfl) ?_
  generalize hr1 : skywayref1_Square a.Node.At b_.Node.At = r1
  refine TQ.run 12 [] [(3, .pointer (some ⟨b1, 0, none⟩)), (4, .pointer (some ⟨b2, 0, none⟩)), (5, .pointer (some ⟨b3, 0, none⟩)), (27, .bool (decide (r1 ≥ (w64 ((w64 ((w64 (s.Lateral + a.Radius)) + b_.Radius)) * (w64 ((w64 (s.Lateral + a.Radius)) + b_.Radius)))))))] rfl ⟨by kernel_rfl, by kernel_rfl⟩ ?_
  refine TQ.split 27 (decide (r1 ≥ (w64 ((w64 ((w64 (s.Lateral + a.Radius)) + b_.Radius)) * (w64 ((w64 (s.Lateral + a.Radius)) + b_.Radius)))))) (by kernel_rfl) (fun h1 => ?_) (fun h1 => ?_)
  · refine TQ.run 31 [] [(6, .bool true)] rfl ⟨by kernel_rfl, by kernel_rfl⟩ ?_
    refine TQ.next rfl ?_
    refine TC.ret ?_
    have e : skywayref1_Apart a b_ s = true := by subst hr1; unfold skywayref1_Apart; exact cond_t h1 (rfl)
    exact TE.ret [] (.bool true) ⟨by kernel_rfl, by kernel_rfl⟩ (by rw [e]; first | done | kernel_rfl)
  · refine TQ.run 19 [2, 1] [(3, .pointer (some ⟨b1, 0, none⟩)), (4, .pointer (some ⟨b2, 0, none⟩)), (5, .pointer (some ⟨b3, 0, none⟩)), (27, .bool false), (34, .int .i64 (w64 (a.Node.Height - b_.Node.Height)))] rfl ⟨by kernel_rfl, by kernel_rfl⟩ ?_
    refine TQ.call (some 35) [(3, .pointer (some ⟨b1, 0, none⟩)), (4, .pointer (some ⟨b2, 0, none⟩)), (5, .pointer (some ⟨b3, 0, none⟩)), (27, .bool false), (35, .int .i64 (skywayref1_Abs (w64 (a.Node.Height - b_.Node.Height))))] (fun w _ => skywayref1_Abs_w (w64 (a.Node.Height - b_.Node.Height)) w) rfl (by kernel_rfl) (by kernel_rfl) ?_
    generalize hr2 : skywayref1_Abs (w64 (a.Node.Height - b_.Node.Height)) = r2
    refine TQ.run 31 [0, 2, 1] [(6, .bool (decide (r2 ≥ (w64 ((w64 (s.Vertical + a.Band)) + b_.Band)))))] rfl ⟨by kernel_rfl, by kernel_rfl⟩ ?_
    refine TQ.next rfl ?_
    refine TC.ret ?_
    have e : skywayref1_Apart a b_ s = (decide (r2 ≥ (w64 ((w64 (s.Vertical + a.Band)) + b_.Band)))) := by subst hr1 hr2; unfold skywayref1_Apart; exact cond_f h1 (rfl)
    exact TE.ret [] (.bool (decide (r2 ≥ (w64 ((w64 (s.Vertical + a.Band)) + b_.Band))))) ⟨by kernel_rfl, by kernel_rfl⟩ (by rw [e]; first | done | kernel_rfl)

def skywayref1_Clashes_L1 (a : List TubeNode) (b_ : List TubeNode) (s : Sep) : Nat → (List Int) → Int → Option (List Int)
  | 0, _, _ => none
  | m + 1, out, t => cond (decide (t ≤ 200000)) (
      cond (decide (t < (((a[0]?.getD TubeNode.zero).Node).Time))) (
        cond (decide ((imax (((a[0]?.getD TubeNode.zero).Node).Time) (((b_[0]?.getD TubeNode.zero).Node).Time)) > (((a[(a.length - 1)]?.getD TubeNode.zero).Node).Time))) (
          some (out)) (
          cond (decide ((imax (((a[0]?.getD TubeNode.zero).Node).Time) (((b_[0]?.getD TubeNode.zero).Node).Time)) > (((b_[(b_.length - 1)]?.getD TubeNode.zero).Node).Time))) (
            some (out)) (
            let r1 := skywayref1_Node a (imax (((a[0]?.getD TubeNode.zero).Node).Time) (((b_[0]?.getD TubeNode.zero).Node).Time))
            let r2 := skywayref1_Node b_ (imax (((a[0]?.getD TubeNode.zero).Node).Time) (((b_[0]?.getD TubeNode.zero).Node).Time))
            let r3 := skywayref1_Apart r1 r2 s
            cond (!r3) (
              skywayref1_Clashes_L1 a b_ s m (out ++ ([imax (((a[0]?.getD TubeNode.zero).Node).Time) (((b_[0]?.getD TubeNode.zero).Node).Time)])) (w64 ((imax (((a[0]?.getD TubeNode.zero).Node).Time) (((b_[0]?.getD TubeNode.zero).Node).Time)) + 1))) (
              skywayref1_Clashes_L1 a b_ s m out (w64 ((imax (((a[0]?.getD TubeNode.zero).Node).Time) (((b_[0]?.getD TubeNode.zero).Node).Time)) + 1)))))) (
        bindv (cond (decide (t < (((b_[0]?.getD TubeNode.zero).Node).Time))) (
          imax (((a[0]?.getD TubeNode.zero).Node).Time) (((b_[0]?.getD TubeNode.zero).Node).Time)) (
          t)) (fun t_2 =>
          cond (decide (t_2 > (((a[(a.length - 1)]?.getD TubeNode.zero).Node).Time))) (
            some (out)) (
            cond (decide (t_2 > (((b_[(b_.length - 1)]?.getD TubeNode.zero).Node).Time))) (
              some (out)) (
              let r4 := skywayref1_Node a t_2
              let r5 := skywayref1_Node b_ t_2
              let r6 := skywayref1_Apart r4 r5 s
              cond (!r6) (
                skywayref1_Clashes_L1 a b_ s m (out ++ ([t_2])) (w64 (t_2 + 1))) (
                skywayref1_Clashes_L1 a b_ s m out (w64 (t_2 + 1)))))))) (
      some (out))
def skywayref1_Clashes (a : List TubeNode) (b_ : List TubeNode) (s : Sep) : List Int :=
  bindv ((skywayref1_Clashes_L1 a b_ s 200002 ([] : List Int) 0).getD []) (fun out_2 =>
    out_2)

theorem pick_in {c : Bool} {x y r : Int} (h : cond c x y = r) : r = x ∨ r = y := by cases c; exact .inr h.symm; exact .inl h.symm
theorem times_in {l : List TubeNode} (h : TubeOk l) : (0 ≤ ((l[0]?.getD TubeNode.zero).Node).Time ∧ ((l[0]?.getD TubeNode.zero).Node).Time ≤ 200000) ∧ (0 ≤ ((l[(l.length - 1)]?.getD TubeNode.zero).Node).Time ∧ ((l[(l.length - 1)]?.getD TubeNode.zero).Node).Time ≤ 200000) ∧ 1 ≤ l.length ∧ l.length ≤ 64 := by
  have a1 := (h.2.1 0 (by have := h.1; omega)).1
  have a2 := (h.2.1 (l.length - 1) (by have := h.1; omega)).1
  exact ⟨a1, a2, h.1⟩
theorem max_in {a b : List TubeNode} (ha : TubeOk a) (hb : TubeOk b) : 0 ≤ imax (((a[0]?.getD TubeNode.zero).Node).Time) (((b[0]?.getD TubeNode.zero).Node).Time) ∧ imax (((a[0]?.getD TubeNode.zero).Node).Time) (((b[0]?.getD TubeNode.zero).Node).Time) ≤ 200000 ∧ ((a[0]?.getD TubeNode.zero).Node).Time ≤ imax (((a[0]?.getD TubeNode.zero).Node).Time) (((b[0]?.getD TubeNode.zero).Node).Time) ∧ ((b[0]?.getD TubeNode.zero).Node).Time ≤ imax (((a[0]?.getD TubeNode.zero).Node).Time) (((b[0]?.getD TubeNode.zero).Node).Time) := by
  have := times_in ha
  have := times_in hb
  unfold imax; split <;> omega
theorem clash_total {a b : List TubeNode} {s : Sep} (ha : TubeOk a) (hb : TubeOk b) : ∀ (m : Nat) (out : List Int) (t : Int), 0 ≤ t ∧ t ≤ 200001 ∧ 200001 - t < (m : Int) → ∃ R, skywayref1_Clashes_L1 a b s m out t = some R
  | 0, out, t, h => by omega
  | m + 1, out, t, h => by
    have mx := max_in ha hb
    unfold skywayref1_Clashes_L1
    by_cases h1 : t ≤ 200000
    · rw [decide_eq_true h1, cond_true]
      have fin : ∀ (u : Int) (b1 b2 : Bool), t ≤ u → u ≤ 200000 → ∃ R, (cond b1 (some out) (cond b2 (some out) (let r1 := skywayref1_Node a u; let r2 := skywayref1_Node b u; let r3 := skywayref1_Apart r1 r2 s; cond (!r3) (skywayref1_Clashes_L1 a b s m (out ++ [u]) (w64 (u + 1))) (skywayref1_Clashes_L1 a b s m out (w64 (u + 1)))))) = some R := by
        intro u b1 b2 hu1 hu2
        cases b1
        · cases b2
          · simp only [cond_false]
            cases (!skywayref1_Apart (skywayref1_Node a u) (skywayref1_Node b u) s)
            · simp only [cond_false]; exact clash_total ha hb m _ _ (by rw [w64_id (by omega)]; omega)
            · simp only [cond_true]; exact clash_total ha hb m _ _ (by rw [w64_id (by omega)]; omega)
          · exact ⟨_, rfl⟩
        · exact ⟨_, rfl⟩
      by_cases h2 : t < (((a[0]?.getD TubeNode.zero).Node).Time)
      · rw [decide_eq_true h2, cond_true]
        exact fin _ _ _ (by omega) (by omega)
      · rw [decide_eq_false h2, cond_false]
        unfold bindv
        by_cases h3 : t < (((b[0]?.getD TubeNode.zero).Node).Time)
        · rw [decide_eq_true h3, cond_true]
          exact fin _ _ _ (by omega) (by omega)
        · rw [decide_eq_false h3, cond_false]
          exact fin _ _ _ (by omega) h1
    · rw [decide_eq_false h1, cond_false]; exact ⟨_, rfl⟩

set_option maxRecDepth 100000 in
theorem skywayref1_Clashes_w (A_a : Option Addr) (c_a : Nat) (a : List TubeNode) (A_b_ : Option Addr) (c_b_ : Nat) (b_ : List TubeNode) (s : Sep) (w : World) (h_a : Rd w 6 A_a (a.map TubeNode.c)) (hc_a : a.length ≤ c_a) (h_b_ : Rd w 6 A_b_ (b_.map TubeNode.c)) (hc_b_ : b_.length ≤ c_b_) (ha : TubeOk a) (hb : TubeOk b_) : Calls Try.prog 50 #[.slice A_a a.length c_a, .slice A_b_ b_.length c_b_, Sep.v s] w (RetM (Γ := (Option Addr × Nat)) (cx w) (fun g => .slice g.1 ((skywayref1_Clashes a b_ s).length) g.2) (fun g => [.inr (Own g.1 g.2 3 1 ((skywayref1_Clashes a b_ s).map ic))])) := by
  have s_a := h_a.short; rw [List.length_map] at s_a
  have s_b_ := h_b_.short; rw [List.length_map] at s_b_
  refine calls_intro (vs := [.slice A_a a.length c_a, .slice A_b_ b_.length c_b_, Sep.v s]) (w := w) Try.func50 rfl Try.ntmps50 rfl ?_
  refine TC.weak [(0, .slice A_a a.length c_a), (1, .slice A_b_ b_.length c_b_), (2, Sep.v s)] (by kernel_rfl) ?_
  refine TC.seq ?_
  refine TC.region ?_
  refine TL.write 0 (fun b1 => [(0, .slice A_a a.length c_a), (1, .slice A_b_ b_.length c_b_), (5, .pointer (some ⟨b1, 0, none⟩))]) (fun b1 => [.inl (b1, .cells (Sep.c s) 84 (0, 0))]) (fun b1 => ⟨by kernel_rfl, by kernel_rfl⟩) (fun b1 => ?_)
  refine TL.run 2 [] [(0, .slice A_a a.length c_a), (1, .slice A_b_ b_.length c_b_), (5, .pointer (some ⟨b1, 0, none⟩))] rfl ⟨by kernel_rfl, by kernel_rfl⟩ ?_
  refine TL.next rfl ?_
  refine TC.seq ?_
  refine TC.region ?_
  refine TL.run 1 [] [(0, .slice A_a a.length c_a), (1, .slice A_b_ b_.length c_b_), (5, .pointer (some ⟨b1, 0, none⟩)), (7, .slice none 0 0)] rfl ⟨by kernel_rfl, by kernel_rfl⟩ ?_
  refine TL.next rfl ?_
  refine TC.seq ?_
  refine TC.seq ?_
  refine TC.region ?_
  refine TL.run 1 [] [(0, .slice A_a a.length c_a), (1, .slice A_b_ b_.length c_b_), (5, .pointer (some ⟨b1, 0, none⟩)), (7, .slice none 0 0), (8, .int .i64 0)] rfl ⟨by kernel_rfl, by kernel_rfl⟩ ?_
  refine TL.next rfl ?_
  refine TC.conv [.inr (Own none 0 3 1 (([] : List Int).map ic)), .inl (b1, .cells (Sep.c s) 84 (0, 0))] (fun _ hM => hM.emptyrow none 3 1) ?_
  refine TC.weak [(0, .slice A_a a.length c_a), (1, .slice A_b_ b_.length c_b_), (5, .pointer (some ⟨b1, 0, none⟩)), (7, .slice none (([] : List Int).length) 0), (8, .int .i64 0)] (by kernel_rfl) ?_
  obtain ⟨R2, hR⟩ : ∃ R, skywayref1_Clashes_L1 a b_ s 200002 ([] : List Int) 0 = some R := clash_total ha hb 200002 [] 0 (by omega)
  refine TC.cut (S := (List Int) × (Option Addr) × Nat) (fun (out_2, A_out_2, c_out_2) => [(7, .slice A_out_2 out_2.length c_out_2)]) (fun (out_2, A_out_2, c_out_2) => [.inr (Own A_out_2 c_out_2 3 1 (out_2.map ic))]) (fun (out_2, A_out_2, c_out_2) => R2 = out_2 ∧ out_2.length ≤ 200002) ?_ ?_
  · refine TC.block ?_
    refine TC.loop (X := Nat × (List Int) × Int × (Option Addr) × Nat) (fun (m, out, t, A_out, c_out) => [(0, .slice A_a a.length c_a), (1, .slice A_b_ b_.length c_b_), (5, .pointer (some ⟨b1, 0, none⟩)), (7, .slice A_out out.length c_out), (8, .int .i64 t)]) (fun (m, out, t, A_out, c_out) => [.inr (Own A_out c_out 3 1 (out.map ic)), .inl (b1, .cells (Sep.c s) 84 (0, 0))]) (fun (m, out, t, A_out, c_out) => m) (fun (m, out, t, A_out, c_out) => m ≤ 200002 ∧ skywayref1_Clashes_L1 a b_ s m out t = some R2 ∧ out.length ≤ (200002 - m) ∧ (0 ≤ t ∧ t ≤ 200001)) ?_ (200002, ([] : List Int), 0, none, 0) ⟨Nat.le_refl _, hR, (by first | omega | (simp; omega) | simp), (by first | omega | (simp; omega) | simp)⟩
    rintro ⟨m, out, t, A_out, c_out⟩ ⟨hk, hI, hl_out, hl_iv0⟩
    rcases m with _ | m
    · cases hI
    refine TC.seq ?_
    refine TC.seq ?_
    refine TC.region ?_
    refine TL.run 2 [] [(0, .slice A_a a.length c_a), (1, .slice A_b_ b_.length c_b_), (5, .pointer (some ⟨b1, 0, none⟩)), (7, .slice A_out out.length c_out), (8, .int .i64 t), (10, .bool (decide (t ≤ 200000)))] rfl ⟨by kernel_rfl, by kernel_rfl⟩ ?_
    refine TL.next rfl ?_
    refine TC.cond (decide (t ≤ 200000)) rfl (by kernel_rfl) (fun h1 => ?_) (fun h1 => ?_)
    · refine TC.skip ?_
      refine TE.next ?_
      refine TC.seq ?_
      refine TC.block ?_
      refine TC.seq ?_
      refine TC.seq ?_
      refine TC.region ?_
      refine TL.run 2 [] [(0, .slice A_a a.length c_a), (1, .slice A_b_ b_.length c_b_), (5, .pointer (some ⟨b1, 0, none⟩)), (7, .slice A_out out.length c_out), (8, .int .i64 t), (13, .int .i64 t), (14, .slice A_a a.length c_a)] rfl ⟨by kernel_rfl, by kernel_rfl⟩ ?_
      refine TL.val (sV (Instr.indexAt 53 (.slice A_a a.length c_a) (.int .i64 0))) (some 15) (.pointer (some ((A_a.getD noAddr).add (0 * 6)))) [(0, .slice A_a a.length c_a), (1, .slice A_b_ b_.length c_b_), (5, .pointer (some ⟨b1, 0, none⟩)), (7, .slice A_out out.length c_out), (8, .int .i64 t), (13, .int .i64 t), (15, .pointer (some ((A_a.getD noAddr).add (0 * 6))))] (fun w hM => run_index (h_a.sat hM) (by simp) (by kernel_rfl) (by have q0_ := (dec_t h1); (try have ka_ := times_in ha); (try have kb_ := times_in hb); (try have km_ := max_in ha hb); (try have kt_ := pick_in hJ_2); first | omega | (simp only [List.length_drop]; omega) | (simp only [w64_eq]; omega) | exact (tm_in (by (first | (rw [w64_id (by omega)]; omega) | (simp only [w64_eq]; omega))) (by omega)).1 | exact (tm_in (by (first | (rw [w64_id (by omega)]; omega) | (simp only [w64_eq]; omega))) (by omega)).2.1 | exact (tm_in (by (first | (rw [w64_id (by omega)]; omega) | (simp only [w64_eq]; omega))) (by omega)).2.2 | (simp only [List.length_take] at *; omega) | (simp <;> omega)) (by have q0_ := (dec_t h1); (try have ka_ := times_in ha); (try have kb_ := times_in hb); (try have km_ := max_in ha hb); (try have kt_ := pick_in hJ_2); first | omega | (simp only [List.length_drop]; omega) | (simp only [w64_eq]; omega) | exact (tm_in (by (first | (rw [w64_id (by omega)]; omega) | (simp only [w64_eq]; omega))) (by omega)).1 | exact (tm_in (by (first | (rw [w64_id (by omega)]; omega) | (simp only [w64_eq]; omega))) (by omega)).2.1 | exact (tm_in (by (first | (rw [w64_id (by omega)]; omega) | (simp only [w64_eq]; omega))) (by omega)).2.2 | (simp only [List.length_take] at *; omega) | (simp <;> omega))) (by kernel_rfl) (by kernel_rfl) ?_
      refine TL.run 5 [] [(0, .slice A_a a.length c_a), (1, .slice A_b_ b_.length c_b_), (5, .pointer (some ⟨b1, 0, none⟩)), (7, .slice A_out out.length c_out), (8, .int .i64 t), (13, .int .i64 t), (17, .pointer (some ((A_a.getD noAddr).add (0 * 6))))] rfl ⟨by kernel_rfl, by kernel_rfl⟩ ?_
      refine TL.val (sV (Instr.loadAt 3 (.pointer (some ((A_a.getD noAddr).add (0 * 6)))))) (some 18) (.int .i64 (((a[0]?.getD TubeNode.zero).Node).Time)) [(0, .slice A_a a.length c_a), (1, .slice A_b_ b_.length c_b_), (5, .pointer (some ⟨b1, 0, none⟩)), (7, .slice A_out out.length c_out), (8, .int .i64 t), (13, .int .i64 t), (18, .int .i64 (((a[0]?.getD TubeNode.zero).Node).Time))] (fun w hM => run_load_one (off := 0) (i := 0) (.int .i64 (((a[0]?.getD TubeNode.zero).Node).Time)) (h_a.sat hM) (map_at (getD_at _ _ TubeNode.zero (by have q0_ := (dec_t h1); (try have ka_ := times_in ha); (try have kb_ := times_in hb); (try have km_ := max_in ha hb); (try have kt_ := pick_in hJ_2); first | omega | (simp only [List.length_drop]; omega) | (simp only [w64_eq]; omega) | exact (tm_in (by (first | (rw [w64_id (by omega)]; omega) | (simp only [w64_eq]; omega))) (by omega)).1 | exact (tm_in (by (first | (rw [w64_id (by omega)]; omega) | (simp only [w64_eq]; omega))) (by omega)).2.1 | exact (tm_in (by (first | (rw [w64_id (by omega)]; omega) | (simp only [w64_eq]; omega))) (by omega)).2.2 | (simp only [List.length_take] at *; omega) | (simp <;> omega)))) (by kernel_rfl) (by kernel_rfl)) (by kernel_rfl) (by kernel_rfl) ?_
      refine TL.run 8 [] [(0, .slice A_a a.length c_a), (1, .slice A_b_ b_.length c_b_), (5, .pointer (some ⟨b1, 0, none⟩)), (7, .slice A_out out.length c_out), (8, .int .i64 t), (20, .bool (decide (t < (((a[0]?.getD TubeNode.zero).Node).Time))))] rfl ⟨by kernel_rfl, by kernel_rfl⟩ ?_
      refine TL.split 20 (decide (t < (((a[0]?.getD TubeNode.zero).Node).Time))) (by kernel_rfl) (fun h2 => ?_) (fun h2 => ?_)
      · refine TL.run 16 [] [(0, .slice A_a a.length c_a), (1, .slice A_b_ b_.length c_b_), (5, .pointer (some ⟨b1, 0, none⟩)), (7, .slice A_out out.length c_out), (8, .int .i64 t), (28, .bool true)] rfl ⟨by kernel_rfl, by kernel_rfl⟩ ?_
        refine TL.next rfl ?_
        refine TC.condT rfl (by kernel_rfl) ?_
        refine TC.draw 12 (by kernel_rfl) (by kernel_rfl) (by kernel_rfl) ?_
        refine TQ.run 1 [] [(0, .slice A_a a.length c_a), (1, .slice A_b_ b_.length c_b_), (5, .pointer (some ⟨b1, 0, none⟩)), (7, .slice A_out out.length c_out), (29, .slice A_a a.length c_a)] rfl ⟨by kernel_rfl, by kernel_rfl⟩ ?_
        refine TQ.val (sV (Instr.indexAt 53 (.slice A_a a.length c_a) (.int .i64 0))) (some 30) (.pointer (some ((A_a.getD noAddr).add (0 * 6)))) [(0, .slice A_a a.length c_a), (1, .slice A_b_ b_.length c_b_), (5, .pointer (some ⟨b1, 0, none⟩)), (7, .slice A_out out.length c_out), (30, .pointer (some ((A_a.getD noAddr).add (0 * 6))))] (fun w hM => run_index (h_a.sat hM) (by simp) (by kernel_rfl) (by have q0_ := (dec_t h1); have q1_ := (dec_t h2); (try have ka_ := times_in ha); (try have kb_ := times_in hb); (try have km_ := max_in ha hb); (try have kt_ := pick_in hJ_2); first | omega | (simp only [List.length_drop]; omega) | (simp only [w64_eq]; omega) | exact (tm_in (by (first | (rw [w64_id (by omega)]; omega) | (simp only [w64_eq]; omega))) (by omega)).1 | exact (tm_in (by (first | (rw [w64_id (by omega)]; omega) | (simp only [w64_eq]; omega))) (by omega)).2.1 | exact (tm_in (by (first | (rw [w64_id (by omega)]; omega) | (simp only [w64_eq]; omega))) (by omega)).2.2 | (simp only [List.length_take] at *; omega) | (simp <;> omega)) (by have q0_ := (dec_t h1); have q1_ := (dec_t h2); (try have ka_ := times_in ha); (try have kb_ := times_in hb); (try have km_ := max_in ha hb); (try have kt_ := pick_in hJ_2); first | omega | (simp only [List.length_drop]; omega) | (simp only [w64_eq]; omega) | exact (tm_in (by (first | (rw [w64_id (by omega)]; omega) | (simp only [w64_eq]; omega))) (by omega)).1 | exact (tm_in (by (first | (rw [w64_id (by omega)]; omega) | (simp only [w64_eq]; omega))) (by omega)).2.1 | exact (tm_in (by (first | (rw [w64_id (by omega)]; omega) | (simp only [w64_eq]; omega))) (by omega)).2.2 | (simp only [List.length_take] at *; omega) | (simp <;> omega))) rfl (by kernel_rfl) (by kernel_rfl) ?_
        refine TQ.run 4 [] [(0, .slice A_a a.length c_a), (1, .slice A_b_ b_.length c_b_), (5, .pointer (some ⟨b1, 0, none⟩)), (7, .slice A_out out.length c_out), (32, .pointer (some ((A_a.getD noAddr).add (0 * 6))))] rfl ⟨by kernel_rfl, by kernel_rfl⟩ ?_
        refine TQ.val (sV (Instr.loadAt 3 (.pointer (some ((A_a.getD noAddr).add (0 * 6)))))) (some 33) (.int .i64 (((a[0]?.getD TubeNode.zero).Node).Time)) [(0, .slice A_a a.length c_a), (1, .slice A_b_ b_.length c_b_), (5, .pointer (some ⟨b1, 0, none⟩)), (7, .slice A_out out.length c_out), (33, .int .i64 (((a[0]?.getD TubeNode.zero).Node).Time))] (fun w hM => run_load_one (off := 0) (i := 0) (.int .i64 (((a[0]?.getD TubeNode.zero).Node).Time)) (h_a.sat hM) (map_at (getD_at _ _ TubeNode.zero (by have q0_ := (dec_t h1); have q1_ := (dec_t h2); (try have ka_ := times_in ha); (try have kb_ := times_in hb); (try have km_ := max_in ha hb); (try have kt_ := pick_in hJ_2); first | omega | (simp only [List.length_drop]; omega) | (simp only [w64_eq]; omega) | exact (tm_in (by (first | (rw [w64_id (by omega)]; omega) | (simp only [w64_eq]; omega))) (by omega)).1 | exact (tm_in (by (first | (rw [w64_id (by omega)]; omega) | (simp only [w64_eq]; omega))) (by omega)).2.1 | exact (tm_in (by (first | (rw [w64_id (by omega)]; omega) | (simp only [w64_eq]; omega))) (by omega)).2.2 | (simp only [List.length_take] at *; omega) | (simp <;> omega)))) (by kernel_rfl) (by kernel_rfl)) rfl (by kernel_rfl) (by kernel_rfl) ?_
        refine TQ.run 6 [] [(0, .slice A_a a.length c_a), (1, .slice A_b_ b_.length c_b_), (5, .pointer (some ⟨b1, 0, none⟩)), (7, .slice A_out out.length c_out), (33, .int .i64 (((a[0]?.getD TubeNode.zero).Node).Time)), (34, .slice A_b_ b_.length c_b_)] rfl ⟨by kernel_rfl, by kernel_rfl⟩ ?_
        refine TQ.val (sV (Instr.indexAt 53 (.slice A_b_ b_.length c_b_) (.int .i64 0))) (some 35) (.pointer (some ((A_b_.getD noAddr).add (0 * 6)))) [(0, .slice A_a a.length c_a), (1, .slice A_b_ b_.length c_b_), (5, .pointer (some ⟨b1, 0, none⟩)), (7, .slice A_out out.length c_out), (33, .int .i64 (((a[0]?.getD TubeNode.zero).Node).Time)), (35, .pointer (some ((A_b_.getD noAddr).add (0 * 6))))] (fun w hM => run_index (h_b_.sat hM) (by simp) (by kernel_rfl) (by have q0_ := (dec_t h1); have q1_ := (dec_t h2); (try have ka_ := times_in ha); (try have kb_ := times_in hb); (try have km_ := max_in ha hb); (try have kt_ := pick_in hJ_2); first | omega | (simp only [List.length_drop]; omega) | (simp only [w64_eq]; omega) | exact (tm_in (by (first | (rw [w64_id (by omega)]; omega) | (simp only [w64_eq]; omega))) (by omega)).1 | exact (tm_in (by (first | (rw [w64_id (by omega)]; omega) | (simp only [w64_eq]; omega))) (by omega)).2.1 | exact (tm_in (by (first | (rw [w64_id (by omega)]; omega) | (simp only [w64_eq]; omega))) (by omega)).2.2 | (simp only [List.length_take] at *; omega) | (simp <;> omega)) (by have q0_ := (dec_t h1); have q1_ := (dec_t h2); (try have ka_ := times_in ha); (try have kb_ := times_in hb); (try have km_ := max_in ha hb); (try have kt_ := pick_in hJ_2); first | omega | (simp only [List.length_drop]; omega) | (simp only [w64_eq]; omega) | exact (tm_in (by (first | (rw [w64_id (by omega)]; omega) | (simp only [w64_eq]; omega))) (by omega)).1 | exact (tm_in (by (first | (rw [w64_id (by omega)]; omega) | (simp only [w64_eq]; omega))) (by omega)).2.1 | exact (tm_in (by (first | (rw [w64_id (by omega)]; omega) | (simp only [w64_eq]; omega))) (by omega)).2.2 | (simp only [List.length_take] at *; omega) | (simp <;> omega))) rfl (by kernel_rfl) (by kernel_rfl) ?_
        refine TQ.run 9 [] [(0, .slice A_a a.length c_a), (1, .slice A_b_ b_.length c_b_), (5, .pointer (some ⟨b1, 0, none⟩)), (7, .slice A_out out.length c_out), (33, .int .i64 (((a[0]?.getD TubeNode.zero).Node).Time)), (37, .pointer (some ((A_b_.getD noAddr).add (0 * 6))))] rfl ⟨by kernel_rfl, by kernel_rfl⟩ ?_
        refine TQ.val (sV (Instr.loadAt 3 (.pointer (some ((A_b_.getD noAddr).add (0 * 6)))))) (some 38) (.int .i64 (((b_[0]?.getD TubeNode.zero).Node).Time)) [(0, .slice A_a a.length c_a), (1, .slice A_b_ b_.length c_b_), (5, .pointer (some ⟨b1, 0, none⟩)), (7, .slice A_out out.length c_out), (33, .int .i64 (((a[0]?.getD TubeNode.zero).Node).Time)), (38, .int .i64 (((b_[0]?.getD TubeNode.zero).Node).Time))] (fun w hM => run_load_one (off := 0) (i := 0) (.int .i64 (((b_[0]?.getD TubeNode.zero).Node).Time)) (h_b_.sat hM) (map_at (getD_at _ _ TubeNode.zero (by have q0_ := (dec_t h1); have q1_ := (dec_t h2); (try have ka_ := times_in ha); (try have kb_ := times_in hb); (try have km_ := max_in ha hb); (try have kt_ := pick_in hJ_2); first | omega | (simp only [List.length_drop]; omega) | (simp only [w64_eq]; omega) | exact (tm_in (by (first | (rw [w64_id (by omega)]; omega) | (simp only [w64_eq]; omega))) (by omega)).1 | exact (tm_in (by (first | (rw [w64_id (by omega)]; omega) | (simp only [w64_eq]; omega))) (by omega)).2.1 | exact (tm_in (by (first | (rw [w64_id (by omega)]; omega) | (simp only [w64_eq]; omega))) (by omega)).2.2 | (simp only [List.length_take] at *; omega) | (simp <;> omega)))) (by kernel_rfl) (by kernel_rfl)) rfl (by kernel_rfl) (by kernel_rfl) ?_
        refine TQ.run 12 [] [(0, .slice A_a a.length c_a), (1, .slice A_b_ b_.length c_b_), (5, .pointer (some ⟨b1, 0, none⟩)), (7, .slice A_out out.length c_out), (8, .int .i64 (imax (((a[0]?.getD TubeNode.zero).Node).Time) (((b_[0]?.getD TubeNode.zero).Node).Time)))] rfl ⟨by kernel_rfl, by kernel_rfl⟩ ?_
        refine TQ.next rfl ?_
        refine TC.seq ?_
        refine TC.seq ?_
        refine TC.region ?_
        refine TL.run 5 [] [(0, .slice A_a a.length c_a), (1, .slice A_b_ b_.length c_b_), (5, .pointer (some ⟨b1, 0, none⟩)), (7, .slice A_out out.length c_out), (8, .int .i64 (imax (((a[0]?.getD TubeNode.zero).Node).Time) (((b_[0]?.getD TubeNode.zero).Node).Time))), (40, .int .i64 (imax (((a[0]?.getD TubeNode.zero).Node).Time) (((b_[0]?.getD TubeNode.zero).Node).Time))), (41, .slice A_a a.length c_a), (44, .int .i64 (w64 ((a.length : Int) - 1)))] rfl ⟨by kernel_rfl, by kernel_rfl⟩ ?_
        refine TL.rw 44 (.int .i64 (w64 ((a.length : Int) - 1))) (.int .i64 ((a.length - 1 : Nat) : Int)) (by kernel_rfl) (w64_pred a.length (by have q0_ := (dec_t h1); have q1_ := (dec_t h2); (try have ka_ := times_in ha); (try have kb_ := times_in hb); (try have km_ := max_in ha hb); (try have kt_ := pick_in hJ_2); first | omega | (simp only [List.length_drop]; omega) | (simp only [w64_eq]; omega) | exact (tm_in (by (first | (rw [w64_id (by omega)]; omega) | (simp only [w64_eq]; omega))) (by omega)).1 | exact (tm_in (by (first | (rw [w64_id (by omega)]; omega) | (simp only [w64_eq]; omega))) (by omega)).2.1 | exact (tm_in (by (first | (rw [w64_id (by omega)]; omega) | (simp only [w64_eq]; omega))) (by omega)).2.2 | (simp only [List.length_take] at *; omega) | (simp <;> omega))) ?_
        refine TL.val (sV (Instr.indexAt 53 (.slice A_a a.length c_a) (.int .i64 ((a.length - 1 : Nat) : Int)))) (some 45) (.pointer (some ((A_a.getD noAddr).add ((a.length - 1) * 6)))) [(0, .slice A_a a.length c_a), (1, .slice A_b_ b_.length c_b_), (5, .pointer (some ⟨b1, 0, none⟩)), (7, .slice A_out out.length c_out), (8, .int .i64 (imax (((a[0]?.getD TubeNode.zero).Node).Time) (((b_[0]?.getD TubeNode.zero).Node).Time))), (40, .int .i64 (imax (((a[0]?.getD TubeNode.zero).Node).Time) (((b_[0]?.getD TubeNode.zero).Node).Time))), (45, .pointer (some ((A_a.getD noAddr).add ((a.length - 1) * 6))))] (fun w hM => run_index (h_a.sat hM) (by simp) (by kernel_rfl) (by have q0_ := (dec_t h1); have q1_ := (dec_t h2); (try have ka_ := times_in ha); (try have kb_ := times_in hb); (try have km_ := max_in ha hb); (try have kt_ := pick_in hJ_2); first | omega | (simp only [List.length_drop]; omega) | (simp only [w64_eq]; omega) | exact (tm_in (by (first | (rw [w64_id (by omega)]; omega) | (simp only [w64_eq]; omega))) (by omega)).1 | exact (tm_in (by (first | (rw [w64_id (by omega)]; omega) | (simp only [w64_eq]; omega))) (by omega)).2.1 | exact (tm_in (by (first | (rw [w64_id (by omega)]; omega) | (simp only [w64_eq]; omega))) (by omega)).2.2 | (simp only [List.length_take] at *; omega) | (simp <;> omega)) (by have q0_ := (dec_t h1); have q1_ := (dec_t h2); (try have ka_ := times_in ha); (try have kb_ := times_in hb); (try have km_ := max_in ha hb); (try have kt_ := pick_in hJ_2); first | omega | (simp only [List.length_drop]; omega) | (simp only [w64_eq]; omega) | exact (tm_in (by (first | (rw [w64_id (by omega)]; omega) | (simp only [w64_eq]; omega))) (by omega)).1 | exact (tm_in (by (first | (rw [w64_id (by omega)]; omega) | (simp only [w64_eq]; omega))) (by omega)).2.1 | exact (tm_in (by (first | (rw [w64_id (by omega)]; omega) | (simp only [w64_eq]; omega))) (by omega)).2.2 | (simp only [List.length_take] at *; omega) | (simp <;> omega))) (by kernel_rfl) (by kernel_rfl) ?_
        refine TL.run 8 [] [(0, .slice A_a a.length c_a), (1, .slice A_b_ b_.length c_b_), (5, .pointer (some ⟨b1, 0, none⟩)), (7, .slice A_out out.length c_out), (8, .int .i64 (imax (((a[0]?.getD TubeNode.zero).Node).Time) (((b_[0]?.getD TubeNode.zero).Node).Time))), (40, .int .i64 (imax (((a[0]?.getD TubeNode.zero).Node).Time) (((b_[0]?.getD TubeNode.zero).Node).Time))), (47, .pointer (some ((A_a.getD noAddr).add ((a.length - 1) * 6))))] rfl ⟨by kernel_rfl, by kernel_rfl⟩ ?_
        refine TL.val (sV (Instr.loadAt 3 (.pointer (some ((A_a.getD noAddr).add ((a.length - 1) * 6)))))) (some 48) (.int .i64 (((a[(a.length - 1)]?.getD TubeNode.zero).Node).Time)) [(0, .slice A_a a.length c_a), (1, .slice A_b_ b_.length c_b_), (5, .pointer (some ⟨b1, 0, none⟩)), (7, .slice A_out out.length c_out), (8, .int .i64 (imax (((a[0]?.getD TubeNode.zero).Node).Time) (((b_[0]?.getD TubeNode.zero).Node).Time))), (40, .int .i64 (imax (((a[0]?.getD TubeNode.zero).Node).Time) (((b_[0]?.getD TubeNode.zero).Node).Time))), (48, .int .i64 (((a[(a.length - 1)]?.getD TubeNode.zero).Node).Time))] (fun w hM => run_load_one (off := 0) (i := (a.length - 1)) (.int .i64 (((a[(a.length - 1)]?.getD TubeNode.zero).Node).Time)) (h_a.sat hM) (map_at (getD_at _ _ TubeNode.zero (by have q0_ := (dec_t h1); have q1_ := (dec_t h2); (try have ka_ := times_in ha); (try have kb_ := times_in hb); (try have km_ := max_in ha hb); (try have kt_ := pick_in hJ_2); first | omega | (simp only [List.length_drop]; omega) | (simp only [w64_eq]; omega) | exact (tm_in (by (first | (rw [w64_id (by omega)]; omega) | (simp only [w64_eq]; omega))) (by omega)).1 | exact (tm_in (by (first | (rw [w64_id (by omega)]; omega) | (simp only [w64_eq]; omega))) (by omega)).2.1 | exact (tm_in (by (first | (rw [w64_id (by omega)]; omega) | (simp only [w64_eq]; omega))) (by omega)).2.2 | (simp only [List.length_take] at *; omega) | (simp <;> omega)))) (by kernel_rfl) (by kernel_rfl)) (by kernel_rfl) (by kernel_rfl) ?_
        refine TL.run 11 [] [(0, .slice A_a a.length c_a), (1, .slice A_b_ b_.length c_b_), (5, .pointer (some ⟨b1, 0, none⟩)), (7, .slice A_out out.length c_out), (8, .int .i64 (imax (((a[0]?.getD TubeNode.zero).Node).Time) (((b_[0]?.getD TubeNode.zero).Node).Time))), (50, .bool (decide ((imax (((a[0]?.getD TubeNode.zero).Node).Time) (((b_[0]?.getD TubeNode.zero).Node).Time)) > (((a[(a.length - 1)]?.getD TubeNode.zero).Node).Time))))] rfl ⟨by kernel_rfl, by kernel_rfl⟩ ?_
        refine TL.split 50 (decide ((imax (((a[0]?.getD TubeNode.zero).Node).Time) (((b_[0]?.getD TubeNode.zero).Node).Time)) > (((a[(a.length - 1)]?.getD TubeNode.zero).Node).Time))) (by kernel_rfl) (fun h3 => ?_) (fun h3 => ?_)
        · refine TL.run 22 [] [(0, .slice A_a a.length c_a), (1, .slice A_b_ b_.length c_b_), (5, .pointer (some ⟨b1, 0, none⟩)), (7, .slice A_out out.length c_out), (8, .int .i64 (imax (((a[0]?.getD TubeNode.zero).Node).Time) (((b_[0]?.getD TubeNode.zero).Node).Time))), (61, .bool true)] rfl ⟨by kernel_rfl, by kernel_rfl⟩ ?_
          refine TL.next rfl ?_
          refine TC.condT rfl (by kernel_rfl) ?_
          refine TC.exit ?_
          refine TE.exit_then (TE.exit_other rfl (TE.exit_then (TE.exit_then (TE.exit_same ?_))))
          exact TE.cut (out, A_out, c_out) (⟨Option.some.inj (hI.symm.trans (by exact cond_t h1 (cond_t h2 (cond_t h3 (rfl))))), (by have q0_ := (dec_t h1); have q1_ := (dec_t h2); have q2_ := (dec_t h3); (try have ka_ := times_in ha); (try have kb_ := times_in hb); (try have km_ := max_in ha hb); (try have kt_ := pick_in hJ_2); first | omega | (simp <;> omega) | (simp at * <;> omega) | (simp only [w64_eq] at *; omega) | (simp only [List.length_append, List.length_cons, List.length_nil]; omega))⟩) (by kernel_rfl) (.cons_cons _ (.cons _ (.slnil)))
        · refine TL.run 16 [] [(0, .slice A_a a.length c_a), (1, .slice A_b_ b_.length c_b_), (5, .pointer (some ⟨b1, 0, none⟩)), (7, .slice A_out out.length c_out), (8, .int .i64 (imax (((a[0]?.getD TubeNode.zero).Node).Time) (((b_[0]?.getD TubeNode.zero).Node).Time))), (50, .bool false), (51, .int .i64 (imax (((a[0]?.getD TubeNode.zero).Node).Time) (((b_[0]?.getD TubeNode.zero).Node).Time))), (52, .slice A_b_ b_.length c_b_), (55, .int .i64 (w64 ((b_.length : Int) - 1)))] rfl ⟨by kernel_rfl, by kernel_rfl⟩ ?_
          refine TL.rw 55 (.int .i64 (w64 ((b_.length : Int) - 1))) (.int .i64 ((b_.length - 1 : Nat) : Int)) (by kernel_rfl) (w64_pred b_.length (by have q0_ := (dec_t h1); have q1_ := (dec_t h2); have q2_ := (dec_f h3); (try have ka_ := times_in ha); (try have kb_ := times_in hb); (try have km_ := max_in ha hb); (try have kt_ := pick_in hJ_2); first | omega | (simp only [List.length_drop]; omega) | (simp only [w64_eq]; omega) | exact (tm_in (by (first | (rw [w64_id (by omega)]; omega) | (simp only [w64_eq]; omega))) (by omega)).1 | exact (tm_in (by (first | (rw [w64_id (by omega)]; omega) | (simp only [w64_eq]; omega))) (by omega)).2.1 | exact (tm_in (by (first | (rw [w64_id (by omega)]; omega) | (simp only [w64_eq]; omega))) (by omega)).2.2 | (simp only [List.length_take] at *; omega) | (simp <;> omega))) ?_
          refine TL.val (sV (Instr.indexAt 53 (.slice A_b_ b_.length c_b_) (.int .i64 ((b_.length - 1 : Nat) : Int)))) (some 56) (.pointer (some ((A_b_.getD noAddr).add ((b_.length - 1) * 6)))) [(0, .slice A_a a.length c_a), (1, .slice A_b_ b_.length c_b_), (5, .pointer (some ⟨b1, 0, none⟩)), (7, .slice A_out out.length c_out), (8, .int .i64 (imax (((a[0]?.getD TubeNode.zero).Node).Time) (((b_[0]?.getD TubeNode.zero).Node).Time))), (50, .bool false), (51, .int .i64 (imax (((a[0]?.getD TubeNode.zero).Node).Time) (((b_[0]?.getD TubeNode.zero).Node).Time))), (56, .pointer (some ((A_b_.getD noAddr).add ((b_.length - 1) * 6))))] (fun w hM => run_index (h_b_.sat hM) (by simp) (by kernel_rfl) (by have q0_ := (dec_t h1); have q1_ := (dec_t h2); have q2_ := (dec_f h3); (try have ka_ := times_in ha); (try have kb_ := times_in hb); (try have km_ := max_in ha hb); (try have kt_ := pick_in hJ_2); first | omega | (simp only [List.length_drop]; omega) | (simp only [w64_eq]; omega) | exact (tm_in (by (first | (rw [w64_id (by omega)]; omega) | (simp only [w64_eq]; omega))) (by omega)).1 | exact (tm_in (by (first | (rw [w64_id (by omega)]; omega) | (simp only [w64_eq]; omega))) (by omega)).2.1 | exact (tm_in (by (first | (rw [w64_id (by omega)]; omega) | (simp only [w64_eq]; omega))) (by omega)).2.2 | (simp only [List.length_take] at *; omega) | (simp <;> omega)) (by have q0_ := (dec_t h1); have q1_ := (dec_t h2); have q2_ := (dec_f h3); (try have ka_ := times_in ha); (try have kb_ := times_in hb); (try have km_ := max_in ha hb); (try have kt_ := pick_in hJ_2); first | omega | (simp only [List.length_drop]; omega) | (simp only [w64_eq]; omega) | exact (tm_in (by (first | (rw [w64_id (by omega)]; omega) | (simp only [w64_eq]; omega))) (by omega)).1 | exact (tm_in (by (first | (rw [w64_id (by omega)]; omega) | (simp only [w64_eq]; omega))) (by omega)).2.1 | exact (tm_in (by (first | (rw [w64_id (by omega)]; omega) | (simp only [w64_eq]; omega))) (by omega)).2.2 | (simp only [List.length_take] at *; omega) | (simp <;> omega))) (by kernel_rfl) (by kernel_rfl) ?_
          refine TL.run 19 [] [(0, .slice A_a a.length c_a), (1, .slice A_b_ b_.length c_b_), (5, .pointer (some ⟨b1, 0, none⟩)), (7, .slice A_out out.length c_out), (8, .int .i64 (imax (((a[0]?.getD TubeNode.zero).Node).Time) (((b_[0]?.getD TubeNode.zero).Node).Time))), (50, .bool false), (51, .int .i64 (imax (((a[0]?.getD TubeNode.zero).Node).Time) (((b_[0]?.getD TubeNode.zero).Node).Time))), (58, .pointer (some ((A_b_.getD noAddr).add ((b_.length - 1) * 6))))] rfl ⟨by kernel_rfl, by kernel_rfl⟩ ?_
          refine TL.val (sV (Instr.loadAt 3 (.pointer (some ((A_b_.getD noAddr).add ((b_.length - 1) * 6)))))) (some 59) (.int .i64 (((b_[(b_.length - 1)]?.getD TubeNode.zero).Node).Time)) [(0, .slice A_a a.length c_a), (1, .slice A_b_ b_.length c_b_), (5, .pointer (some ⟨b1, 0, none⟩)), (7, .slice A_out out.length c_out), (8, .int .i64 (imax (((a[0]?.getD TubeNode.zero).Node).Time) (((b_[0]?.getD TubeNode.zero).Node).Time))), (50, .bool false), (51, .int .i64 (imax (((a[0]?.getD TubeNode.zero).Node).Time) (((b_[0]?.getD TubeNode.zero).Node).Time))), (59, .int .i64 (((b_[(b_.length - 1)]?.getD TubeNode.zero).Node).Time))] (fun w hM => run_load_one (off := 0) (i := (b_.length - 1)) (.int .i64 (((b_[(b_.length - 1)]?.getD TubeNode.zero).Node).Time)) (h_b_.sat hM) (map_at (getD_at _ _ TubeNode.zero (by have q0_ := (dec_t h1); have q1_ := (dec_t h2); have q2_ := (dec_f h3); (try have ka_ := times_in ha); (try have kb_ := times_in hb); (try have km_ := max_in ha hb); (try have kt_ := pick_in hJ_2); first | omega | (simp only [List.length_drop]; omega) | (simp only [w64_eq]; omega) | exact (tm_in (by (first | (rw [w64_id (by omega)]; omega) | (simp only [w64_eq]; omega))) (by omega)).1 | exact (tm_in (by (first | (rw [w64_id (by omega)]; omega) | (simp only [w64_eq]; omega))) (by omega)).2.1 | exact (tm_in (by (first | (rw [w64_id (by omega)]; omega) | (simp only [w64_eq]; omega))) (by omega)).2.2 | (simp only [List.length_take] at *; omega) | (simp <;> omega)))) (by kernel_rfl) (by kernel_rfl)) (by kernel_rfl) (by kernel_rfl) ?_
          refine TL.run 22 [] [(0, .slice A_a a.length c_a), (1, .slice A_b_ b_.length c_b_), (5, .pointer (some ⟨b1, 0, none⟩)), (7, .slice A_out out.length c_out), (8, .int .i64 (imax (((a[0]?.getD TubeNode.zero).Node).Time) (((b_[0]?.getD TubeNode.zero).Node).Time))), (61, .bool (decide ((imax (((a[0]?.getD TubeNode.zero).Node).Time) (((b_[0]?.getD TubeNode.zero).Node).Time)) > (((b_[(b_.length - 1)]?.getD TubeNode.zero).Node).Time))))] rfl ⟨by kernel_rfl, by kernel_rfl⟩ ?_
          refine TL.next rfl ?_
          refine TC.cond (decide ((imax (((a[0]?.getD TubeNode.zero).Node).Time) (((b_[0]?.getD TubeNode.zero).Node).Time)) > (((b_[(b_.length - 1)]?.getD TubeNode.zero).Node).Time))) rfl (by kernel_rfl) (fun h4 => ?_) (fun h4 => ?_)
          · refine TC.exit ?_
            refine TE.exit_then (TE.exit_other rfl (TE.exit_then (TE.exit_then (TE.exit_same ?_))))
            exact TE.cut (out, A_out, c_out) (⟨Option.some.inj (hI.symm.trans (by exact cond_t h1 (cond_t h2 (cond_f h3 (cond_t h4 (rfl)))))), (by have q0_ := (dec_t h1); have q1_ := (dec_t h2); have q2_ := (dec_f h3); have q3_ := (dec_t h4); (try have ka_ := times_in ha); (try have kb_ := times_in hb); (try have km_ := max_in ha hb); (try have kt_ := pick_in hJ_2); first | omega | (simp <;> omega) | (simp at * <;> omega) | (simp only [w64_eq] at *; omega) | (simp only [List.length_append, List.length_cons, List.length_nil]; omega))⟩) (by kernel_rfl) (.cons_cons _ (.cons _ (.slnil)))
          · refine TC.skip ?_
            refine TE.next ?_
            refine TC.seq ?_
            refine TC.draw 9 (by kernel_rfl) (by kernel_rfl) (by kernel_rfl) ?_
            refine TQ.run 2 [] [(0, .slice A_a a.length c_a), (1, .slice A_b_ b_.length c_b_), (5, .pointer (some ⟨b1, 0, none⟩)), (7, .slice A_out out.length c_out), (8, .int .i64 (imax (((a[0]?.getD TubeNode.zero).Node).Time) (((b_[0]?.getD TubeNode.zero).Node).Time))), (62, .slice A_a a.length c_a), (63, .int .i64 (imax (((a[0]?.getD TubeNode.zero).Node).Time) (((b_[0]?.getD TubeNode.zero).Node).Time)))] rfl ⟨by kernel_rfl, by kernel_rfl⟩ ?_
            refine TQ.call (some 64) [(0, .slice A_a a.length c_a), (1, .slice A_b_ b_.length c_b_), (5, .pointer (some ⟨b1, 0, none⟩)), (7, .slice A_out out.length c_out), (8, .int .i64 (imax (((a[0]?.getD TubeNode.zero).Node).Time) (((b_[0]?.getD TubeNode.zero).Node).Time))), (64, TubeNode.v (skywayref1_Node a (imax (((a[0]?.getD TubeNode.zero).Node).Time) (((b_[0]?.getD TubeNode.zero).Node).Time))))] (fun w hM => skywayref1_Node_w A_a c_a a (imax (((a[0]?.getD TubeNode.zero).Node).Time) (((b_[0]?.getD TubeNode.zero).Node).Time)) w (h_a.sat hM) hc_a (by first | exact ha | exact hb)) rfl (by kernel_rfl) (by kernel_rfl) ?_
            generalize hr1 : skywayref1_Node a (imax (((a[0]?.getD TubeNode.zero).Node).Time) (((b_[0]?.getD TubeNode.zero).Node).Time)) = r1
            refine TQ.run 5 [] [(0, .slice A_a a.length c_a), (1, .slice A_b_ b_.length c_b_), (5, .pointer (some ⟨b1, 0, none⟩)), (7, .slice A_out out.length c_out), (8, .int .i64 (imax (((a[0]?.getD TubeNode.zero).Node).Time) (((b_[0]?.getD TubeNode.zero).Node).Time))), (64, TubeNode.v r1), (65, .slice A_b_ b_.length c_b_), (66, .int .i64 (imax (((a[0]?.getD TubeNode.zero).Node).Time) (((b_[0]?.getD TubeNode.zero).Node).Time)))] rfl ⟨by kernel_rfl, by kernel_rfl⟩ ?_
            refine TQ.call (some 67) [(0, .slice A_a a.length c_a), (1, .slice A_b_ b_.length c_b_), (5, .pointer (some ⟨b1, 0, none⟩)), (7, .slice A_out out.length c_out), (8, .int .i64 (imax (((a[0]?.getD TubeNode.zero).Node).Time) (((b_[0]?.getD TubeNode.zero).Node).Time))), (64, TubeNode.v r1), (67, TubeNode.v (skywayref1_Node b_ (imax (((a[0]?.getD TubeNode.zero).Node).Time) (((b_[0]?.getD TubeNode.zero).Node).Time))))] (fun w hM => skywayref1_Node_w A_b_ c_b_ b_ (imax (((a[0]?.getD TubeNode.zero).Node).Time) (((b_[0]?.getD TubeNode.zero).Node).Time)) w (h_b_.sat hM) hc_b_ (by first | exact ha | exact hb)) rfl (by kernel_rfl) (by kernel_rfl) ?_
            generalize hr2 : skywayref1_Node b_ (imax (((a[0]?.getD TubeNode.zero).Node).Time) (((b_[0]?.getD TubeNode.zero).Node).Time)) = r2
            refine TQ.run 7 [1] [(0, .slice A_a a.length c_a), (1, .slice A_b_ b_.length c_b_), (5, .pointer (some ⟨b1, 0, none⟩)), (7, .slice A_out out.length c_out), (8, .int .i64 (imax (((a[0]?.getD TubeNode.zero).Node).Time) (((b_[0]?.getD TubeNode.zero).Node).Time))), (64, TubeNode.v r1), (67, TubeNode.v r2), (68, Sep.v s)] rfl ⟨by kernel_rfl, by kernel_rfl⟩ ?_
            refine TQ.call (some 69) [(0, .slice A_a a.length c_a), (1, .slice A_b_ b_.length c_b_), (5, .pointer (some ⟨b1, 0, none⟩)), (7, .slice A_out out.length c_out), (8, .int .i64 (imax (((a[0]?.getD TubeNode.zero).Node).Time) (((b_[0]?.getD TubeNode.zero).Node).Time))), (69, .bool ((skywayref1_Apart r1 r2 s)))] (fun w _ => skywayref1_Apart_w r1 r2 s w) rfl (by kernel_rfl) (by kernel_rfl) ?_
            generalize hr3 : skywayref1_Apart r1 r2 s = r3
            refine TQ.run 9 [] [(0, .slice A_a a.length c_a), (1, .slice A_b_ b_.length c_b_), (5, .pointer (some ⟨b1, 0, none⟩)), (7, .slice A_out out.length c_out), (8, .int .i64 (imax (((a[0]?.getD TubeNode.zero).Node).Time) (((b_[0]?.getD TubeNode.zero).Node).Time))), (70, .bool (!r3))] rfl ⟨by kernel_rfl, by kernel_rfl⟩ ?_
            refine TQ.next rfl ?_
            refine TC.cond (!r3) rfl (by kernel_rfl) (fun h5 => ?_) (fun h5 => ?_)
            · refine TC.region ?_
              refine TL.run 2 [] [(0, .slice A_a a.length c_a), (1, .slice A_b_ b_.length c_b_), (5, .pointer (some ⟨b1, 0, none⟩)), (8, .int .i64 (imax (((a[0]?.getD TubeNode.zero).Node).Time) (((b_[0]?.getD TubeNode.zero).Node).Time))), (71, .slice A_out out.length c_out), (72, .int .i64 (imax (((a[0]?.getD TubeNode.zero).Node).Time) (((b_[0]?.getD TubeNode.zero).Node).Time)))] rfl ⟨by kernel_rfl, by kernel_rfl⟩ ?_
              refine TL.write 0 (fun b2 => [(0, .slice A_a a.length c_a), (1, .slice A_b_ b_.length c_b_), (5, .pointer (some ⟨b1, 0, none⟩)), (8, .int .i64 (imax (((a[0]?.getD TubeNode.zero).Node).Time) (((b_[0]?.getD TubeNode.zero).Node).Time))), (71, .slice A_out out.length c_out), (73, .slice (some ⟨b2, 0, none⟩) 1 1)]) (fun b2 => [.inl (b2, .cells #[.int .i64 (imax (((a[0]?.getD TubeNode.zero).Node).Time) (((b_[0]?.getD TubeNode.zero).Node).Time))] 3 (0, 0)), .inr (Own A_out c_out 3 1 (out.map ic)), .inl (b1, .cells (Sep.c s) 84 (0, 0))]) (fun b2 => ⟨by kernel_rfl, by kernel_rfl⟩) (fun b2 => ?_)
              refine TL.opM (Γ := Option Addr × Nat) (sV (Builtin.append_ #[34, 34] 34 #[.slice A_out out.length c_out, .slice (some ⟨b2, 0, none⟩) 1 1])) (some 74) (fun g => .slice g.1 (out ++ ([imax (((a[0]?.getD TubeNode.zero).Node).Time) (((b_[0]?.getD TubeNode.zero).Node).Time)])).length g.2) (fun g => [.inl (b2, .cells #[.int .i64 (imax (((a[0]?.getD TubeNode.zero).Node).Time) (((b_[0]?.getD TubeNode.zero).Node).Time))] 3 (0, 0)), .inr (Own g.1 g.2 3 1 ((out ++ ([imax (((a[0]?.getD TubeNode.zero).Node).Time) (((b_[0]?.getD TubeNode.zero).Node).Time)])).map ic)), .inl (b1, .cells (Sep.c s) 84 (0, 0))]) (fun g => [(0, .slice A_a a.length c_a), (1, .slice A_b_ b_.length c_b_), (5, .pointer (some ⟨b1, 0, none⟩)), (8, .int .i64 (imax (((a[0]?.getD TubeNode.zero).Node).Time) (((b_[0]?.getD TubeNode.zero).Node).Time))), (74, .slice g.1 ((out ++ ([imax (((a[0]?.getD TubeNode.zero).Node).Time) (((b_[0]?.getD TubeNode.zero).Node).Time)])).length) g.2)]) (app_at (bytes := 8) 34 1 ([imax (((a[0]?.getD TubeNode.zero).Node).Time) (((b_[0]?.getD TubeNode.zero).Node).Time)]) (by kernel_rfl) rfl rfl ic_one rfl (fun w hM => (Rd.lit hM 0 _ rfl (by kernel_rfl) (by kernel_rfl) (by kernel_rfl))) rfl (by have q0_ := (dec_t h1); have q1_ := (dec_t h2); have q2_ := (dec_f h3); have q3_ := (dec_f h4); (try have ka_ := times_in ha); (try have kb_ := times_in hb); (try have km_ := max_in ha hb); (try have kt_ := pick_in hJ_2); first | omega | (simp <;> omega) | (simp at * <;> omega))) (by kernel_rfl) (fun g => by kernel_rfl) ?_
              rintro ⟨A, c⟩
              refine TL.run 5 [] [(0, .slice A_a a.length c_a), (1, .slice A_b_ b_.length c_b_), (5, .pointer (some ⟨b1, 0, none⟩)), (7, .slice A ((out ++ ([imax (((a[0]?.getD TubeNode.zero).Node).Time) (((b_[0]?.getD TubeNode.zero).Node).Time)])).length) c), (8, .int .i64 (imax (((a[0]?.getD TubeNode.zero).Node).Time) (((b_[0]?.getD TubeNode.zero).Node).Time)))] rfl ⟨by kernel_rfl, by kernel_rfl⟩ ?_
              refine TL.done rfl ?_
              refine TE.normal_block ?_
              refine TE.next ?_
              refine TC.region ?_
              refine TL.run 3 [] [(0, .slice A_a a.length c_a), (1, .slice A_b_ b_.length c_b_), (5, .pointer (some ⟨b1, 0, none⟩)), (7, .slice A ((out ++ ([imax (((a[0]?.getD TubeNode.zero).Node).Time) (((b_[0]?.getD TubeNode.zero).Node).Time)])).length) c), (8, .int .i64 (w64 ((imax (((a[0]?.getD TubeNode.zero).Node).Time) (((b_[0]?.getD TubeNode.zero).Node).Time)) + 1)))] rfl ⟨by kernel_rfl, by kernel_rfl⟩ ?_
              refine TL.done rfl ?_
              exact TE.again (x := (m + 1, out, t, A_out, c_out)) (m, (out ++ ([imax (((a[0]?.getD TubeNode.zero).Node).Time) (((b_[0]?.getD TubeNode.zero).Node).Time)])), w64 ((imax (((a[0]?.getD TubeNode.zero).Node).Time) (((b_[0]?.getD TubeNode.zero).Node).Time)) + 1), A, c) ⟨by omega, (by subst hr1 hr2 hr3; refine Eq.trans (Eq.symm ?_) hI; exact cond_t h1 (cond_t h2 (cond_f h3 (cond_f h4 (cond_t h5 (rfl)))))), (by have q0_ := (dec_t h1); have q1_ := (dec_t h2); have q2_ := (dec_f h3); have q3_ := (dec_f h4); (try have ka_ := times_in ha); (try have kb_ := times_in hb); (try have km_ := max_in ha hb); (try have kt_ := pick_in hJ_2); first | omega | (simp <;> omega) | (simp at * <;> omega) | (simp only [w64_eq] at *; omega) | (simp only [List.length_append, List.length_cons, List.length_nil]; omega)), (by have q0_ := (dec_t h1); have q1_ := (dec_t h2); have q2_ := (dec_f h3); have q3_ := (dec_f h4); (try have ka_ := times_in ha); (try have kb_ := times_in hb); (try have km_ := max_in ha hb); (try have kt_ := pick_in hJ_2); first | omega | (simp <;> omega) | (simp at * <;> omega) | (simp only [w64_eq] at *; omega) | (simp only [List.length_append, List.length_cons, List.length_nil]; omega))⟩ (Nat.lt_succ_self _) (by kernel_rfl) (.cons _ (.cons_cons _ (.cons_cons _ (.slnil))))
            · refine TC.skip ?_
              refine TE.normal_block ?_
              refine TE.next ?_
              refine TC.region ?_
              refine TL.run 3 [] [(0, .slice A_a a.length c_a), (1, .slice A_b_ b_.length c_b_), (5, .pointer (some ⟨b1, 0, none⟩)), (7, .slice A_out out.length c_out), (8, .int .i64 (w64 ((imax (((a[0]?.getD TubeNode.zero).Node).Time) (((b_[0]?.getD TubeNode.zero).Node).Time)) + 1)))] rfl ⟨by kernel_rfl, by kernel_rfl⟩ ?_
              refine TL.done rfl ?_
              exact TE.again (x := (m + 1, out, t, A_out, c_out)) (m, out, w64 ((imax (((a[0]?.getD TubeNode.zero).Node).Time) (((b_[0]?.getD TubeNode.zero).Node).Time)) + 1), A_out, c_out) ⟨by omega, (by subst hr1 hr2 hr3; refine Eq.trans (Eq.symm ?_) hI; exact cond_t h1 (cond_t h2 (cond_f h3 (cond_f h4 (cond_f h5 (rfl)))))), (by have q0_ := (dec_t h1); have q1_ := (dec_t h2); have q2_ := (dec_f h3); have q3_ := (dec_f h4); (try have ka_ := times_in ha); (try have kb_ := times_in hb); (try have km_ := max_in ha hb); (try have kt_ := pick_in hJ_2); first | omega | (simp <;> omega) | (simp at * <;> omega) | (simp only [w64_eq] at *; omega) | (simp only [List.length_append, List.length_cons, List.length_nil]; omega)), (by have q0_ := (dec_t h1); have q1_ := (dec_t h2); have q2_ := (dec_f h3); have q3_ := (dec_f h4); (try have ka_ := times_in ha); (try have kb_ := times_in hb); (try have km_ := max_in ha hb); (try have kt_ := pick_in hJ_2); first | omega | (simp <;> omega) | (simp at * <;> omega) | (simp only [w64_eq] at *; omega) | (simp only [List.length_append, List.length_cons, List.length_nil]; omega))⟩ (Nat.lt_succ_self _) (by kernel_rfl) (.cons_cons _ (.cons_cons _ (.slnil)))
      · refine TL.run 10 [] [(0, .slice A_a a.length c_a), (1, .slice A_b_ b_.length c_b_), (5, .pointer (some ⟨b1, 0, none⟩)), (7, .slice A_out out.length c_out), (8, .int .i64 t), (20, .bool false), (21, .int .i64 t), (22, .slice A_b_ b_.length c_b_)] rfl ⟨by kernel_rfl, by kernel_rfl⟩ ?_
        refine TL.val (sV (Instr.indexAt 53 (.slice A_b_ b_.length c_b_) (.int .i64 0))) (some 23) (.pointer (some ((A_b_.getD noAddr).add (0 * 6)))) [(0, .slice A_a a.length c_a), (1, .slice A_b_ b_.length c_b_), (5, .pointer (some ⟨b1, 0, none⟩)), (7, .slice A_out out.length c_out), (8, .int .i64 t), (20, .bool false), (21, .int .i64 t), (23, .pointer (some ((A_b_.getD noAddr).add (0 * 6))))] (fun w hM => run_index (h_b_.sat hM) (by simp) (by kernel_rfl) (by have q0_ := (dec_t h1); have q1_ := (dec_f h2); (try have ka_ := times_in ha); (try have kb_ := times_in hb); (try have km_ := max_in ha hb); (try have kt_ := pick_in hJ_2); first | omega | (simp only [List.length_drop]; omega) | (simp only [w64_eq]; omega) | exact (tm_in (by (first | (rw [w64_id (by omega)]; omega) | (simp only [w64_eq]; omega))) (by omega)).1 | exact (tm_in (by (first | (rw [w64_id (by omega)]; omega) | (simp only [w64_eq]; omega))) (by omega)).2.1 | exact (tm_in (by (first | (rw [w64_id (by omega)]; omega) | (simp only [w64_eq]; omega))) (by omega)).2.2 | (simp only [List.length_take] at *; omega) | (simp <;> omega)) (by have q0_ := (dec_t h1); have q1_ := (dec_f h2); (try have ka_ := times_in ha); (try have kb_ := times_in hb); (try have km_ := max_in ha hb); (try have kt_ := pick_in hJ_2); first | omega | (simp only [List.length_drop]; omega) | (simp only [w64_eq]; omega) | exact (tm_in (by (first | (rw [w64_id (by omega)]; omega) | (simp only [w64_eq]; omega))) (by omega)).1 | exact (tm_in (by (first | (rw [w64_id (by omega)]; omega) | (simp only [w64_eq]; omega))) (by omega)).2.1 | exact (tm_in (by (first | (rw [w64_id (by omega)]; omega) | (simp only [w64_eq]; omega))) (by omega)).2.2 | (simp only [List.length_take] at *; omega) | (simp <;> omega))) (by kernel_rfl) (by kernel_rfl) ?_
        refine TL.run 13 [] [(0, .slice A_a a.length c_a), (1, .slice A_b_ b_.length c_b_), (5, .pointer (some ⟨b1, 0, none⟩)), (7, .slice A_out out.length c_out), (8, .int .i64 t), (20, .bool false), (21, .int .i64 t), (25, .pointer (some ((A_b_.getD noAddr).add (0 * 6))))] rfl ⟨by kernel_rfl, by kernel_rfl⟩ ?_
        refine TL.val (sV (Instr.loadAt 3 (.pointer (some ((A_b_.getD noAddr).add (0 * 6)))))) (some 26) (.int .i64 (((b_[0]?.getD TubeNode.zero).Node).Time)) [(0, .slice A_a a.length c_a), (1, .slice A_b_ b_.length c_b_), (5, .pointer (some ⟨b1, 0, none⟩)), (7, .slice A_out out.length c_out), (8, .int .i64 t), (20, .bool false), (21, .int .i64 t), (26, .int .i64 (((b_[0]?.getD TubeNode.zero).Node).Time))] (fun w hM => run_load_one (off := 0) (i := 0) (.int .i64 (((b_[0]?.getD TubeNode.zero).Node).Time)) (h_b_.sat hM) (map_at (getD_at _ _ TubeNode.zero (by have q0_ := (dec_t h1); have q1_ := (dec_f h2); (try have ka_ := times_in ha); (try have kb_ := times_in hb); (try have km_ := max_in ha hb); (try have kt_ := pick_in hJ_2); first | omega | (simp only [List.length_drop]; omega) | (simp only [w64_eq]; omega) | exact (tm_in (by (first | (rw [w64_id (by omega)]; omega) | (simp only [w64_eq]; omega))) (by omega)).1 | exact (tm_in (by (first | (rw [w64_id (by omega)]; omega) | (simp only [w64_eq]; omega))) (by omega)).2.1 | exact (tm_in (by (first | (rw [w64_id (by omega)]; omega) | (simp only [w64_eq]; omega))) (by omega)).2.2 | (simp only [List.length_take] at *; omega) | (simp <;> omega)))) (by kernel_rfl) (by kernel_rfl)) (by kernel_rfl) (by kernel_rfl) ?_
        refine TL.run 16 [] [(0, .slice A_a a.length c_a), (1, .slice A_b_ b_.length c_b_), (5, .pointer (some ⟨b1, 0, none⟩)), (7, .slice A_out out.length c_out), (8, .int .i64 t), (28, .bool (decide (t < (((b_[0]?.getD TubeNode.zero).Node).Time))))] rfl ⟨by kernel_rfl, by kernel_rfl⟩ ?_
        refine TL.next rfl ?_
        refine TC.cut (S := Int) (fun t_2 => [(0, .slice A_a a.length c_a), (1, .slice A_b_ b_.length c_b_), (5, .pointer (some ⟨b1, 0, none⟩)), (7, .slice A_out out.length c_out), (8, .int .i64 t_2)]) (fun t_2 => [.inr (Own A_out c_out 3 1 (out.map ic)), .inl (b1, .cells (Sep.c s) 84 (0, 0))]) (fun t_2 => (cond (decide (t < (((b_[0]?.getD TubeNode.zero).Node).Time))) (
          imax (((a[0]?.getD TubeNode.zero).Node).Time) (((b_[0]?.getD TubeNode.zero).Node).Time)) (
          t)) = t_2) ?_ ?_
        · refine TC.cond (decide (t < (((b_[0]?.getD TubeNode.zero).Node).Time))) rfl (by kernel_rfl) (fun h6 => ?_) (fun h6 => ?_)
          · refine TC.draw 12 (by kernel_rfl) (by kernel_rfl) (by kernel_rfl) ?_
            refine TQ.run 1 [] [(0, .slice A_a a.length c_a), (1, .slice A_b_ b_.length c_b_), (5, .pointer (some ⟨b1, 0, none⟩)), (7, .slice A_out out.length c_out), (29, .slice A_a a.length c_a)] rfl ⟨by kernel_rfl, by kernel_rfl⟩ ?_
            refine TQ.val (sV (Instr.indexAt 53 (.slice A_a a.length c_a) (.int .i64 0))) (some 30) (.pointer (some ((A_a.getD noAddr).add (0 * 6)))) [(0, .slice A_a a.length c_a), (1, .slice A_b_ b_.length c_b_), (5, .pointer (some ⟨b1, 0, none⟩)), (7, .slice A_out out.length c_out), (30, .pointer (some ((A_a.getD noAddr).add (0 * 6))))] (fun w hM => run_index (h_a.sat hM) (by simp) (by kernel_rfl) (by have q0_ := (dec_t h1); have q1_ := (dec_f h2); have q2_ := (dec_t h6); (try have ka_ := times_in ha); (try have kb_ := times_in hb); (try have km_ := max_in ha hb); (try have kt_ := pick_in hJ_2); first | omega | (simp only [List.length_drop]; omega) | (simp only [w64_eq]; omega) | exact (tm_in (by (first | (rw [w64_id (by omega)]; omega) | (simp only [w64_eq]; omega))) (by omega)).1 | exact (tm_in (by (first | (rw [w64_id (by omega)]; omega) | (simp only [w64_eq]; omega))) (by omega)).2.1 | exact (tm_in (by (first | (rw [w64_id (by omega)]; omega) | (simp only [w64_eq]; omega))) (by omega)).2.2 | (simp only [List.length_take] at *; omega) | (simp <;> omega)) (by have q0_ := (dec_t h1); have q1_ := (dec_f h2); have q2_ := (dec_t h6); (try have ka_ := times_in ha); (try have kb_ := times_in hb); (try have km_ := max_in ha hb); (try have kt_ := pick_in hJ_2); first | omega | (simp only [List.length_drop]; omega) | (simp only [w64_eq]; omega) | exact (tm_in (by (first | (rw [w64_id (by omega)]; omega) | (simp only [w64_eq]; omega))) (by omega)).1 | exact (tm_in (by (first | (rw [w64_id (by omega)]; omega) | (simp only [w64_eq]; omega))) (by omega)).2.1 | exact (tm_in (by (first | (rw [w64_id (by omega)]; omega) | (simp only [w64_eq]; omega))) (by omega)).2.2 | (simp only [List.length_take] at *; omega) | (simp <;> omega))) rfl (by kernel_rfl) (by kernel_rfl) ?_
            refine TQ.run 4 [] [(0, .slice A_a a.length c_a), (1, .slice A_b_ b_.length c_b_), (5, .pointer (some ⟨b1, 0, none⟩)), (7, .slice A_out out.length c_out), (32, .pointer (some ((A_a.getD noAddr).add (0 * 6))))] rfl ⟨by kernel_rfl, by kernel_rfl⟩ ?_
            refine TQ.val (sV (Instr.loadAt 3 (.pointer (some ((A_a.getD noAddr).add (0 * 6)))))) (some 33) (.int .i64 (((a[0]?.getD TubeNode.zero).Node).Time)) [(0, .slice A_a a.length c_a), (1, .slice A_b_ b_.length c_b_), (5, .pointer (some ⟨b1, 0, none⟩)), (7, .slice A_out out.length c_out), (33, .int .i64 (((a[0]?.getD TubeNode.zero).Node).Time))] (fun w hM => run_load_one (off := 0) (i := 0) (.int .i64 (((a[0]?.getD TubeNode.zero).Node).Time)) (h_a.sat hM) (map_at (getD_at _ _ TubeNode.zero (by have q0_ := (dec_t h1); have q1_ := (dec_f h2); have q2_ := (dec_t h6); (try have ka_ := times_in ha); (try have kb_ := times_in hb); (try have km_ := max_in ha hb); (try have kt_ := pick_in hJ_2); first | omega | (simp only [List.length_drop]; omega) | (simp only [w64_eq]; omega) | exact (tm_in (by (first | (rw [w64_id (by omega)]; omega) | (simp only [w64_eq]; omega))) (by omega)).1 | exact (tm_in (by (first | (rw [w64_id (by omega)]; omega) | (simp only [w64_eq]; omega))) (by omega)).2.1 | exact (tm_in (by (first | (rw [w64_id (by omega)]; omega) | (simp only [w64_eq]; omega))) (by omega)).2.2 | (simp only [List.length_take] at *; omega) | (simp <;> omega)))) (by kernel_rfl) (by kernel_rfl)) rfl (by kernel_rfl) (by kernel_rfl) ?_
            refine TQ.run 6 [] [(0, .slice A_a a.length c_a), (1, .slice A_b_ b_.length c_b_), (5, .pointer (some ⟨b1, 0, none⟩)), (7, .slice A_out out.length c_out), (33, .int .i64 (((a[0]?.getD TubeNode.zero).Node).Time)), (34, .slice A_b_ b_.length c_b_)] rfl ⟨by kernel_rfl, by kernel_rfl⟩ ?_
            refine TQ.val (sV (Instr.indexAt 53 (.slice A_b_ b_.length c_b_) (.int .i64 0))) (some 35) (.pointer (some ((A_b_.getD noAddr).add (0 * 6)))) [(0, .slice A_a a.length c_a), (1, .slice A_b_ b_.length c_b_), (5, .pointer (some ⟨b1, 0, none⟩)), (7, .slice A_out out.length c_out), (33, .int .i64 (((a[0]?.getD TubeNode.zero).Node).Time)), (35, .pointer (some ((A_b_.getD noAddr).add (0 * 6))))] (fun w hM => run_index (h_b_.sat hM) (by simp) (by kernel_rfl) (by have q0_ := (dec_t h1); have q1_ := (dec_f h2); have q2_ := (dec_t h6); (try have ka_ := times_in ha); (try have kb_ := times_in hb); (try have km_ := max_in ha hb); (try have kt_ := pick_in hJ_2); first | omega | (simp only [List.length_drop]; omega) | (simp only [w64_eq]; omega) | exact (tm_in (by (first | (rw [w64_id (by omega)]; omega) | (simp only [w64_eq]; omega))) (by omega)).1 | exact (tm_in (by (first | (rw [w64_id (by omega)]; omega) | (simp only [w64_eq]; omega))) (by omega)).2.1 | exact (tm_in (by (first | (rw [w64_id (by omega)]; omega) | (simp only [w64_eq]; omega))) (by omega)).2.2 | (simp only [List.length_take] at *; omega) | (simp <;> omega)) (by have q0_ := (dec_t h1); have q1_ := (dec_f h2); have q2_ := (dec_t h6); (try have ka_ := times_in ha); (try have kb_ := times_in hb); (try have km_ := max_in ha hb); (try have kt_ := pick_in hJ_2); first | omega | (simp only [List.length_drop]; omega) | (simp only [w64_eq]; omega) | exact (tm_in (by (first | (rw [w64_id (by omega)]; omega) | (simp only [w64_eq]; omega))) (by omega)).1 | exact (tm_in (by (first | (rw [w64_id (by omega)]; omega) | (simp only [w64_eq]; omega))) (by omega)).2.1 | exact (tm_in (by (first | (rw [w64_id (by omega)]; omega) | (simp only [w64_eq]; omega))) (by omega)).2.2 | (simp only [List.length_take] at *; omega) | (simp <;> omega))) rfl (by kernel_rfl) (by kernel_rfl) ?_
            refine TQ.run 9 [] [(0, .slice A_a a.length c_a), (1, .slice A_b_ b_.length c_b_), (5, .pointer (some ⟨b1, 0, none⟩)), (7, .slice A_out out.length c_out), (33, .int .i64 (((a[0]?.getD TubeNode.zero).Node).Time)), (37, .pointer (some ((A_b_.getD noAddr).add (0 * 6))))] rfl ⟨by kernel_rfl, by kernel_rfl⟩ ?_
            refine TQ.val (sV (Instr.loadAt 3 (.pointer (some ((A_b_.getD noAddr).add (0 * 6)))))) (some 38) (.int .i64 (((b_[0]?.getD TubeNode.zero).Node).Time)) [(0, .slice A_a a.length c_a), (1, .slice A_b_ b_.length c_b_), (5, .pointer (some ⟨b1, 0, none⟩)), (7, .slice A_out out.length c_out), (33, .int .i64 (((a[0]?.getD TubeNode.zero).Node).Time)), (38, .int .i64 (((b_[0]?.getD TubeNode.zero).Node).Time))] (fun w hM => run_load_one (off := 0) (i := 0) (.int .i64 (((b_[0]?.getD TubeNode.zero).Node).Time)) (h_b_.sat hM) (map_at (getD_at _ _ TubeNode.zero (by have q0_ := (dec_t h1); have q1_ := (dec_f h2); have q2_ := (dec_t h6); (try have ka_ := times_in ha); (try have kb_ := times_in hb); (try have km_ := max_in ha hb); (try have kt_ := pick_in hJ_2); first | omega | (simp only [List.length_drop]; omega) | (simp only [w64_eq]; omega) | exact (tm_in (by (first | (rw [w64_id (by omega)]; omega) | (simp only [w64_eq]; omega))) (by omega)).1 | exact (tm_in (by (first | (rw [w64_id (by omega)]; omega) | (simp only [w64_eq]; omega))) (by omega)).2.1 | exact (tm_in (by (first | (rw [w64_id (by omega)]; omega) | (simp only [w64_eq]; omega))) (by omega)).2.2 | (simp only [List.length_take] at *; omega) | (simp <;> omega)))) (by kernel_rfl) (by kernel_rfl)) rfl (by kernel_rfl) (by kernel_rfl) ?_
            refine TQ.run 12 [] [(0, .slice A_a a.length c_a), (1, .slice A_b_ b_.length c_b_), (5, .pointer (some ⟨b1, 0, none⟩)), (7, .slice A_out out.length c_out), (8, .int .i64 (imax (((a[0]?.getD TubeNode.zero).Node).Time) (((b_[0]?.getD TubeNode.zero).Node).Time)))] rfl ⟨by kernel_rfl, by kernel_rfl⟩ ?_
            refine TQ.done rfl ?_
            exact TE.cut (imax (((a[0]?.getD TubeNode.zero).Node).Time) (((b_[0]?.getD TubeNode.zero).Node).Time)) (by exact cond_t h6 (rfl)) (by kernel_rfl) (.cons_cons _ (.cons_cons _ (.slnil)))
          · refine TC.skip ?_
            exact TE.cut t (by exact cond_f h6 (rfl)) (by kernel_rfl) (.cons_cons _ (.cons_cons _ (.slnil)))
        · rintro t_2 hJ_2
          refine TE.next ?_
          refine TC.seq ?_
          refine TC.seq ?_
          refine TC.region ?_
          refine TL.run 5 [] [(0, .slice A_a a.length c_a), (1, .slice A_b_ b_.length c_b_), (5, .pointer (some ⟨b1, 0, none⟩)), (7, .slice A_out out.length c_out), (8, .int .i64 t_2), (40, .int .i64 t_2), (41, .slice A_a a.length c_a), (44, .int .i64 (w64 ((a.length : Int) - 1)))] rfl ⟨by kernel_rfl, by kernel_rfl⟩ ?_
          refine TL.rw 44 (.int .i64 (w64 ((a.length : Int) - 1))) (.int .i64 ((a.length - 1 : Nat) : Int)) (by kernel_rfl) (w64_pred a.length (by have q0_ := (dec_t h1); have q1_ := (dec_f h2); (try have ka_ := times_in ha); (try have kb_ := times_in hb); (try have km_ := max_in ha hb); (try have kt_ := pick_in hJ_2); first | omega | (simp only [List.length_drop]; omega) | (simp only [w64_eq]; omega) | exact (tm_in (by (first | (rw [w64_id (by omega)]; omega) | (simp only [w64_eq]; omega))) (by omega)).1 | exact (tm_in (by (first | (rw [w64_id (by omega)]; omega) | (simp only [w64_eq]; omega))) (by omega)).2.1 | exact (tm_in (by (first | (rw [w64_id (by omega)]; omega) | (simp only [w64_eq]; omega))) (by omega)).2.2 | (simp only [List.length_take] at *; omega) | (simp <;> omega))) ?_
          refine TL.val (sV (Instr.indexAt 53 (.slice A_a a.length c_a) (.int .i64 ((a.length - 1 : Nat) : Int)))) (some 45) (.pointer (some ((A_a.getD noAddr).add ((a.length - 1) * 6)))) [(0, .slice A_a a.length c_a), (1, .slice A_b_ b_.length c_b_), (5, .pointer (some ⟨b1, 0, none⟩)), (7, .slice A_out out.length c_out), (8, .int .i64 t_2), (40, .int .i64 t_2), (45, .pointer (some ((A_a.getD noAddr).add ((a.length - 1) * 6))))] (fun w hM => run_index (h_a.sat hM) (by simp) (by kernel_rfl) (by have q0_ := (dec_t h1); have q1_ := (dec_f h2); (try have ka_ := times_in ha); (try have kb_ := times_in hb); (try have km_ := max_in ha hb); (try have kt_ := pick_in hJ_2); first | omega | (simp only [List.length_drop]; omega) | (simp only [w64_eq]; omega) | exact (tm_in (by (first | (rw [w64_id (by omega)]; omega) | (simp only [w64_eq]; omega))) (by omega)).1 | exact (tm_in (by (first | (rw [w64_id (by omega)]; omega) | (simp only [w64_eq]; omega))) (by omega)).2.1 | exact (tm_in (by (first | (rw [w64_id (by omega)]; omega) | (simp only [w64_eq]; omega))) (by omega)).2.2 | (simp only [List.length_take] at *; omega) | (simp <;> omega)) (by have q0_ := (dec_t h1); have q1_ := (dec_f h2); (try have ka_ := times_in ha); (try have kb_ := times_in hb); (try have km_ := max_in ha hb); (try have kt_ := pick_in hJ_2); first | omega | (simp only [List.length_drop]; omega) | (simp only [w64_eq]; omega) | exact (tm_in (by (first | (rw [w64_id (by omega)]; omega) | (simp only [w64_eq]; omega))) (by omega)).1 | exact (tm_in (by (first | (rw [w64_id (by omega)]; omega) | (simp only [w64_eq]; omega))) (by omega)).2.1 | exact (tm_in (by (first | (rw [w64_id (by omega)]; omega) | (simp only [w64_eq]; omega))) (by omega)).2.2 | (simp only [List.length_take] at *; omega) | (simp <;> omega))) (by kernel_rfl) (by kernel_rfl) ?_
          refine TL.run 8 [] [(0, .slice A_a a.length c_a), (1, .slice A_b_ b_.length c_b_), (5, .pointer (some ⟨b1, 0, none⟩)), (7, .slice A_out out.length c_out), (8, .int .i64 t_2), (40, .int .i64 t_2), (47, .pointer (some ((A_a.getD noAddr).add ((a.length - 1) * 6))))] rfl ⟨by kernel_rfl, by kernel_rfl⟩ ?_
          refine TL.val (sV (Instr.loadAt 3 (.pointer (some ((A_a.getD noAddr).add ((a.length - 1) * 6)))))) (some 48) (.int .i64 (((a[(a.length - 1)]?.getD TubeNode.zero).Node).Time)) [(0, .slice A_a a.length c_a), (1, .slice A_b_ b_.length c_b_), (5, .pointer (some ⟨b1, 0, none⟩)), (7, .slice A_out out.length c_out), (8, .int .i64 t_2), (40, .int .i64 t_2), (48, .int .i64 (((a[(a.length - 1)]?.getD TubeNode.zero).Node).Time))] (fun w hM => run_load_one (off := 0) (i := (a.length - 1)) (.int .i64 (((a[(a.length - 1)]?.getD TubeNode.zero).Node).Time)) (h_a.sat hM) (map_at (getD_at _ _ TubeNode.zero (by have q0_ := (dec_t h1); have q1_ := (dec_f h2); (try have ka_ := times_in ha); (try have kb_ := times_in hb); (try have km_ := max_in ha hb); (try have kt_ := pick_in hJ_2); first | omega | (simp only [List.length_drop]; omega) | (simp only [w64_eq]; omega) | exact (tm_in (by (first | (rw [w64_id (by omega)]; omega) | (simp only [w64_eq]; omega))) (by omega)).1 | exact (tm_in (by (first | (rw [w64_id (by omega)]; omega) | (simp only [w64_eq]; omega))) (by omega)).2.1 | exact (tm_in (by (first | (rw [w64_id (by omega)]; omega) | (simp only [w64_eq]; omega))) (by omega)).2.2 | (simp only [List.length_take] at *; omega) | (simp <;> omega)))) (by kernel_rfl) (by kernel_rfl)) (by kernel_rfl) (by kernel_rfl) ?_
          refine TL.run 11 [] [(0, .slice A_a a.length c_a), (1, .slice A_b_ b_.length c_b_), (5, .pointer (some ⟨b1, 0, none⟩)), (7, .slice A_out out.length c_out), (8, .int .i64 t_2), (50, .bool (decide (t_2 > (((a[(a.length - 1)]?.getD TubeNode.zero).Node).Time))))] rfl ⟨by kernel_rfl, by kernel_rfl⟩ ?_
          refine TL.split 50 (decide (t_2 > (((a[(a.length - 1)]?.getD TubeNode.zero).Node).Time))) (by kernel_rfl) (fun h7 => ?_) (fun h7 => ?_)
          · refine TL.run 22 [] [(0, .slice A_a a.length c_a), (1, .slice A_b_ b_.length c_b_), (5, .pointer (some ⟨b1, 0, none⟩)), (7, .slice A_out out.length c_out), (8, .int .i64 t_2), (61, .bool true)] rfl ⟨by kernel_rfl, by kernel_rfl⟩ ?_
            refine TL.next rfl ?_
            refine TC.condT rfl (by kernel_rfl) ?_
            refine TC.exit ?_
            refine TE.exit_then (TE.exit_other rfl (TE.exit_then (TE.exit_then (TE.exit_same ?_))))
            exact TE.cut (out, A_out, c_out) (⟨Option.some.inj (hI.symm.trans (by exact cond_t h1 (cond_f h2 (bindv_eq (hJ_2) (cond_t h7 (rfl)))))), (by have q0_ := (dec_t h1); have q1_ := (dec_f h2); have q2_ := (dec_t h7); (try have ka_ := times_in ha); (try have kb_ := times_in hb); (try have km_ := max_in ha hb); (try have kt_ := pick_in hJ_2); first | omega | (simp <;> omega) | (simp at * <;> omega) | (simp only [w64_eq] at *; omega) | (simp only [List.length_append, List.length_cons, List.length_nil]; omega))⟩) (by kernel_rfl) (.cons_cons _ (.cons _ (.slnil)))
          · refine TL.run 16 [] [(0, .slice A_a a.length c_a), (1, .slice A_b_ b_.length c_b_), (5, .pointer (some ⟨b1, 0, none⟩)), (7, .slice A_out out.length c_out), (8, .int .i64 t_2), (50, .bool false), (51, .int .i64 t_2), (52, .slice A_b_ b_.length c_b_), (55, .int .i64 (w64 ((b_.length : Int) - 1)))] rfl ⟨by kernel_rfl, by kernel_rfl⟩ ?_
            refine TL.rw 55 (.int .i64 (w64 ((b_.length : Int) - 1))) (.int .i64 ((b_.length - 1 : Nat) : Int)) (by kernel_rfl) (w64_pred b_.length (by have q0_ := (dec_t h1); have q1_ := (dec_f h2); have q2_ := (dec_f h7); (try have ka_ := times_in ha); (try have kb_ := times_in hb); (try have km_ := max_in ha hb); (try have kt_ := pick_in hJ_2); first | omega | (simp only [List.length_drop]; omega) | (simp only [w64_eq]; omega) | exact (tm_in (by (first | (rw [w64_id (by omega)]; omega) | (simp only [w64_eq]; omega))) (by omega)).1 | exact (tm_in (by (first | (rw [w64_id (by omega)]; omega) | (simp only [w64_eq]; omega))) (by omega)).2.1 | exact (tm_in (by (first | (rw [w64_id (by omega)]; omega) | (simp only [w64_eq]; omega))) (by omega)).2.2 | (simp only [List.length_take] at *; omega) | (simp <;> omega))) ?_
            refine TL.val (sV (Instr.indexAt 53 (.slice A_b_ b_.length c_b_) (.int .i64 ((b_.length - 1 : Nat) : Int)))) (some 56) (.pointer (some ((A_b_.getD noAddr).add ((b_.length - 1) * 6)))) [(0, .slice A_a a.length c_a), (1, .slice A_b_ b_.length c_b_), (5, .pointer (some ⟨b1, 0, none⟩)), (7, .slice A_out out.length c_out), (8, .int .i64 t_2), (50, .bool false), (51, .int .i64 t_2), (56, .pointer (some ((A_b_.getD noAddr).add ((b_.length - 1) * 6))))] (fun w hM => run_index (h_b_.sat hM) (by simp) (by kernel_rfl) (by have q0_ := (dec_t h1); have q1_ := (dec_f h2); have q2_ := (dec_f h7); (try have ka_ := times_in ha); (try have kb_ := times_in hb); (try have km_ := max_in ha hb); (try have kt_ := pick_in hJ_2); first | omega | (simp only [List.length_drop]; omega) | (simp only [w64_eq]; omega) | exact (tm_in (by (first | (rw [w64_id (by omega)]; omega) | (simp only [w64_eq]; omega))) (by omega)).1 | exact (tm_in (by (first | (rw [w64_id (by omega)]; omega) | (simp only [w64_eq]; omega))) (by omega)).2.1 | exact (tm_in (by (first | (rw [w64_id (by omega)]; omega) | (simp only [w64_eq]; omega))) (by omega)).2.2 | (simp only [List.length_take] at *; omega) | (simp <;> omega)) (by have q0_ := (dec_t h1); have q1_ := (dec_f h2); have q2_ := (dec_f h7); (try have ka_ := times_in ha); (try have kb_ := times_in hb); (try have km_ := max_in ha hb); (try have kt_ := pick_in hJ_2); first | omega | (simp only [List.length_drop]; omega) | (simp only [w64_eq]; omega) | exact (tm_in (by (first | (rw [w64_id (by omega)]; omega) | (simp only [w64_eq]; omega))) (by omega)).1 | exact (tm_in (by (first | (rw [w64_id (by omega)]; omega) | (simp only [w64_eq]; omega))) (by omega)).2.1 | exact (tm_in (by (first | (rw [w64_id (by omega)]; omega) | (simp only [w64_eq]; omega))) (by omega)).2.2 | (simp only [List.length_take] at *; omega) | (simp <;> omega))) (by kernel_rfl) (by kernel_rfl) ?_
            refine TL.run 19 [] [(0, .slice A_a a.length c_a), (1, .slice A_b_ b_.length c_b_), (5, .pointer (some ⟨b1, 0, none⟩)), (7, .slice A_out out.length c_out), (8, .int .i64 t_2), (50, .bool false), (51, .int .i64 t_2), (58, .pointer (some ((A_b_.getD noAddr).add ((b_.length - 1) * 6))))] rfl ⟨by kernel_rfl, by kernel_rfl⟩ ?_
            refine TL.val (sV (Instr.loadAt 3 (.pointer (some ((A_b_.getD noAddr).add ((b_.length - 1) * 6)))))) (some 59) (.int .i64 (((b_[(b_.length - 1)]?.getD TubeNode.zero).Node).Time)) [(0, .slice A_a a.length c_a), (1, .slice A_b_ b_.length c_b_), (5, .pointer (some ⟨b1, 0, none⟩)), (7, .slice A_out out.length c_out), (8, .int .i64 t_2), (50, .bool false), (51, .int .i64 t_2), (59, .int .i64 (((b_[(b_.length - 1)]?.getD TubeNode.zero).Node).Time))] (fun w hM => run_load_one (off := 0) (i := (b_.length - 1)) (.int .i64 (((b_[(b_.length - 1)]?.getD TubeNode.zero).Node).Time)) (h_b_.sat hM) (map_at (getD_at _ _ TubeNode.zero (by have q0_ := (dec_t h1); have q1_ := (dec_f h2); have q2_ := (dec_f h7); (try have ka_ := times_in ha); (try have kb_ := times_in hb); (try have km_ := max_in ha hb); (try have kt_ := pick_in hJ_2); first | omega | (simp only [List.length_drop]; omega) | (simp only [w64_eq]; omega) | exact (tm_in (by (first | (rw [w64_id (by omega)]; omega) | (simp only [w64_eq]; omega))) (by omega)).1 | exact (tm_in (by (first | (rw [w64_id (by omega)]; omega) | (simp only [w64_eq]; omega))) (by omega)).2.1 | exact (tm_in (by (first | (rw [w64_id (by omega)]; omega) | (simp only [w64_eq]; omega))) (by omega)).2.2 | (simp only [List.length_take] at *; omega) | (simp <;> omega)))) (by kernel_rfl) (by kernel_rfl)) (by kernel_rfl) (by kernel_rfl) ?_
            refine TL.run 22 [] [(0, .slice A_a a.length c_a), (1, .slice A_b_ b_.length c_b_), (5, .pointer (some ⟨b1, 0, none⟩)), (7, .slice A_out out.length c_out), (8, .int .i64 t_2), (61, .bool (decide (t_2 > (((b_[(b_.length - 1)]?.getD TubeNode.zero).Node).Time))))] rfl ⟨by kernel_rfl, by kernel_rfl⟩ ?_
            refine TL.next rfl ?_
            refine TC.cond (decide (t_2 > (((b_[(b_.length - 1)]?.getD TubeNode.zero).Node).Time))) rfl (by kernel_rfl) (fun h8 => ?_) (fun h8 => ?_)
            · refine TC.exit ?_
              refine TE.exit_then (TE.exit_other rfl (TE.exit_then (TE.exit_then (TE.exit_same ?_))))
              exact TE.cut (out, A_out, c_out) (⟨Option.some.inj (hI.symm.trans (by exact cond_t h1 (cond_f h2 (bindv_eq (hJ_2) (cond_f h7 (cond_t h8 (rfl))))))), (by have q0_ := (dec_t h1); have q1_ := (dec_f h2); have q2_ := (dec_f h7); have q3_ := (dec_t h8); (try have ka_ := times_in ha); (try have kb_ := times_in hb); (try have km_ := max_in ha hb); (try have kt_ := pick_in hJ_2); first | omega | (simp <;> omega) | (simp at * <;> omega) | (simp only [w64_eq] at *; omega) | (simp only [List.length_append, List.length_cons, List.length_nil]; omega))⟩) (by kernel_rfl) (.cons_cons _ (.cons _ (.slnil)))
            · refine TC.skip ?_
              refine TE.next ?_
              refine TC.seq ?_
              refine TC.draw 9 (by kernel_rfl) (by kernel_rfl) (by kernel_rfl) ?_
              refine TQ.run 2 [] [(0, .slice A_a a.length c_a), (1, .slice A_b_ b_.length c_b_), (5, .pointer (some ⟨b1, 0, none⟩)), (7, .slice A_out out.length c_out), (8, .int .i64 t_2), (62, .slice A_a a.length c_a), (63, .int .i64 t_2)] rfl ⟨by kernel_rfl, by kernel_rfl⟩ ?_
              refine TQ.call (some 64) [(0, .slice A_a a.length c_a), (1, .slice A_b_ b_.length c_b_), (5, .pointer (some ⟨b1, 0, none⟩)), (7, .slice A_out out.length c_out), (8, .int .i64 t_2), (64, TubeNode.v (skywayref1_Node a t_2))] (fun w hM => skywayref1_Node_w A_a c_a a t_2 w (h_a.sat hM) hc_a (by first | exact ha | exact hb)) rfl (by kernel_rfl) (by kernel_rfl) ?_
              generalize hr4 : skywayref1_Node a t_2 = r4
              refine TQ.run 5 [] [(0, .slice A_a a.length c_a), (1, .slice A_b_ b_.length c_b_), (5, .pointer (some ⟨b1, 0, none⟩)), (7, .slice A_out out.length c_out), (8, .int .i64 t_2), (64, TubeNode.v r4), (65, .slice A_b_ b_.length c_b_), (66, .int .i64 t_2)] rfl ⟨by kernel_rfl, by kernel_rfl⟩ ?_
              refine TQ.call (some 67) [(0, .slice A_a a.length c_a), (1, .slice A_b_ b_.length c_b_), (5, .pointer (some ⟨b1, 0, none⟩)), (7, .slice A_out out.length c_out), (8, .int .i64 t_2), (64, TubeNode.v r4), (67, TubeNode.v (skywayref1_Node b_ t_2))] (fun w hM => skywayref1_Node_w A_b_ c_b_ b_ t_2 w (h_b_.sat hM) hc_b_ (by first | exact ha | exact hb)) rfl (by kernel_rfl) (by kernel_rfl) ?_
              generalize hr5 : skywayref1_Node b_ t_2 = r5
              refine TQ.run 7 [1] [(0, .slice A_a a.length c_a), (1, .slice A_b_ b_.length c_b_), (5, .pointer (some ⟨b1, 0, none⟩)), (7, .slice A_out out.length c_out), (8, .int .i64 t_2), (64, TubeNode.v r4), (67, TubeNode.v r5), (68, Sep.v s)] rfl ⟨by kernel_rfl, by kernel_rfl⟩ ?_
              refine TQ.call (some 69) [(0, .slice A_a a.length c_a), (1, .slice A_b_ b_.length c_b_), (5, .pointer (some ⟨b1, 0, none⟩)), (7, .slice A_out out.length c_out), (8, .int .i64 t_2), (69, .bool ((skywayref1_Apart r4 r5 s)))] (fun w _ => skywayref1_Apart_w r4 r5 s w) rfl (by kernel_rfl) (by kernel_rfl) ?_
              generalize hr6 : skywayref1_Apart r4 r5 s = r6
              refine TQ.run 9 [] [(0, .slice A_a a.length c_a), (1, .slice A_b_ b_.length c_b_), (5, .pointer (some ⟨b1, 0, none⟩)), (7, .slice A_out out.length c_out), (8, .int .i64 t_2), (70, .bool (!r6))] rfl ⟨by kernel_rfl, by kernel_rfl⟩ ?_
              refine TQ.next rfl ?_
              refine TC.cond (!r6) rfl (by kernel_rfl) (fun h9 => ?_) (fun h9 => ?_)
              · refine TC.region ?_
                refine TL.run 2 [] [(0, .slice A_a a.length c_a), (1, .slice A_b_ b_.length c_b_), (5, .pointer (some ⟨b1, 0, none⟩)), (8, .int .i64 t_2), (71, .slice A_out out.length c_out), (72, .int .i64 t_2)] rfl ⟨by kernel_rfl, by kernel_rfl⟩ ?_
                refine TL.write 0 (fun b3 => [(0, .slice A_a a.length c_a), (1, .slice A_b_ b_.length c_b_), (5, .pointer (some ⟨b1, 0, none⟩)), (8, .int .i64 t_2), (71, .slice A_out out.length c_out), (73, .slice (some ⟨b3, 0, none⟩) 1 1)]) (fun b3 => [.inl (b3, .cells #[.int .i64 t_2] 3 (0, 0)), .inr (Own A_out c_out 3 1 (out.map ic)), .inl (b1, .cells (Sep.c s) 84 (0, 0))]) (fun b3 => ⟨by kernel_rfl, by kernel_rfl⟩) (fun b3 => ?_)
                refine TL.opM (Γ := Option Addr × Nat) (sV (Builtin.append_ #[34, 34] 34 #[.slice A_out out.length c_out, .slice (some ⟨b3, 0, none⟩) 1 1])) (some 74) (fun g => .slice g.1 (out ++ ([t_2])).length g.2) (fun g => [.inl (b3, .cells #[.int .i64 t_2] 3 (0, 0)), .inr (Own g.1 g.2 3 1 ((out ++ ([t_2])).map ic)), .inl (b1, .cells (Sep.c s) 84 (0, 0))]) (fun g => [(0, .slice A_a a.length c_a), (1, .slice A_b_ b_.length c_b_), (5, .pointer (some ⟨b1, 0, none⟩)), (8, .int .i64 t_2), (74, .slice g.1 ((out ++ ([t_2])).length) g.2)]) (app_at (bytes := 8) 34 1 ([t_2]) (by kernel_rfl) rfl rfl ic_one rfl (fun w hM => (Rd.lit hM 0 _ rfl (by kernel_rfl) (by kernel_rfl) (by kernel_rfl))) rfl (by have q0_ := (dec_t h1); have q1_ := (dec_f h2); have q2_ := (dec_f h7); have q3_ := (dec_f h8); (try have ka_ := times_in ha); (try have kb_ := times_in hb); (try have km_ := max_in ha hb); (try have kt_ := pick_in hJ_2); first | omega | (simp <;> omega) | (simp at * <;> omega))) (by kernel_rfl) (fun g => by kernel_rfl) ?_
                rintro ⟨A_2, c_2⟩
                refine TL.run 5 [] [(0, .slice A_a a.length c_a), (1, .slice A_b_ b_.length c_b_), (5, .pointer (some ⟨b1, 0, none⟩)), (7, .slice A_2 ((out ++ ([t_2])).length) c_2), (8, .int .i64 t_2)] rfl ⟨by kernel_rfl, by kernel_rfl⟩ ?_
                refine TL.done rfl ?_
                refine TE.normal_block ?_
                refine TE.next ?_
                refine TC.region ?_
                refine TL.run 3 [] [(0, .slice A_a a.length c_a), (1, .slice A_b_ b_.length c_b_), (5, .pointer (some ⟨b1, 0, none⟩)), (7, .slice A_2 ((out ++ ([t_2])).length) c_2), (8, .int .i64 (w64 (t_2 + 1)))] rfl ⟨by kernel_rfl, by kernel_rfl⟩ ?_
                refine TL.done rfl ?_
                exact TE.again (x := (m + 1, out, t, A_out, c_out)) (m, (out ++ ([t_2])), w64 (t_2 + 1), A_2, c_2) ⟨by omega, (by subst hr4 hr5 hr6; refine Eq.trans (Eq.symm ?_) hI; exact cond_t h1 (cond_f h2 (bindv_eq (hJ_2) (cond_f h7 (cond_f h8 (cond_t h9 (rfl))))))), (by have q0_ := (dec_t h1); have q1_ := (dec_f h2); have q2_ := (dec_f h7); have q3_ := (dec_f h8); (try have ka_ := times_in ha); (try have kb_ := times_in hb); (try have km_ := max_in ha hb); (try have kt_ := pick_in hJ_2); first | omega | (simp <;> omega) | (simp at * <;> omega) | (simp only [w64_eq] at *; omega) | (simp only [List.length_append, List.length_cons, List.length_nil]; omega)), (by have q0_ := (dec_t h1); have q1_ := (dec_f h2); have q2_ := (dec_f h7); have q3_ := (dec_f h8); (try have ka_ := times_in ha); (try have kb_ := times_in hb); (try have km_ := max_in ha hb); (try have kt_ := pick_in hJ_2); first | omega | (simp <;> omega) | (simp at * <;> omega) | (simp only [w64_eq] at *; omega) | (simp only [List.length_append, List.length_cons, List.length_nil]; omega))⟩ (Nat.lt_succ_self _) (by kernel_rfl) (.cons _ (.cons_cons _ (.cons_cons _ (.slnil))))
              · refine TC.skip ?_
                refine TE.normal_block ?_
                refine TE.next ?_
                refine TC.region ?_
                refine TL.run 3 [] [(0, .slice A_a a.length c_a), (1, .slice A_b_ b_.length c_b_), (5, .pointer (some ⟨b1, 0, none⟩)), (7, .slice A_out out.length c_out), (8, .int .i64 (w64 (t_2 + 1)))] rfl ⟨by kernel_rfl, by kernel_rfl⟩ ?_
                refine TL.done rfl ?_
                exact TE.again (x := (m + 1, out, t, A_out, c_out)) (m, out, w64 (t_2 + 1), A_out, c_out) ⟨by omega, (by subst hr4 hr5 hr6; refine Eq.trans (Eq.symm ?_) hI; exact cond_t h1 (cond_f h2 (bindv_eq (hJ_2) (cond_f h7 (cond_f h8 (cond_f h9 (rfl))))))), (by have q0_ := (dec_t h1); have q1_ := (dec_f h2); have q2_ := (dec_f h7); have q3_ := (dec_f h8); (try have ka_ := times_in ha); (try have kb_ := times_in hb); (try have km_ := max_in ha hb); (try have kt_ := pick_in hJ_2); first | omega | (simp <;> omega) | (simp at * <;> omega) | (simp only [w64_eq] at *; omega) | (simp only [List.length_append, List.length_cons, List.length_nil]; omega)), (by have q0_ := (dec_t h1); have q1_ := (dec_f h2); have q2_ := (dec_f h7); have q3_ := (dec_f h8); (try have ka_ := times_in ha); (try have kb_ := times_in hb); (try have km_ := max_in ha hb); (try have kt_ := pick_in hJ_2); first | omega | (simp <;> omega) | (simp at * <;> omega) | (simp only [w64_eq] at *; omega) | (simp only [List.length_append, List.length_cons, List.length_nil]; omega))⟩ (Nat.lt_succ_self _) (by kernel_rfl) (.cons_cons _ (.cons_cons _ (.slnil)))
    · refine TC.exit ?_
      refine TE.exit_then (TE.exit_then (TE.exit_same ?_))
      exact TE.cut (out, A_out, c_out) (⟨Option.some.inj (hI.symm.trans (by exact cond_f h1 (rfl))), (by have q0_ := (dec_f h1); (try have ka_ := times_in ha); (try have kb_ := times_in hb); (try have km_ := max_in ha hb); (try have kt_ := pick_in hJ_2); first | omega | (simp <;> omega) | (simp at * <;> omega) | (simp only [w64_eq] at *; omega) | (simp only [List.length_append, List.length_cons, List.length_nil]; omega))⟩) (by kernel_rfl) (.cons_cons _ (.cons _ (.slnil)))
  · rintro ⟨out_2, A_out_2, c_out_2⟩ ⟨hJ, hl_out_2⟩
    refine TE.next ?_
    refine TC.seq ?_
    refine TC.region ?_
    refine TL.run 2 [] [(6, .slice A_out_2 out_2.length c_out_2)] rfl ⟨by kernel_rfl, by kernel_rfl⟩ ?_
    refine TL.next rfl ?_
    refine TC.ret ?_
    have e : skywayref1_Clashes a b_ s = out_2 := by unfold skywayref1_Clashes; exact bindv_eq ((congrArg (Option.getD · _) hR).trans hJ) (rfl)
    rw [e]
    exact TE.retM (.inl rfl) (A_out_2, c_out_2) [] (.slice A_out_2 out_2.length c_out_2) ⟨by kernel_rfl, by kernel_rfl⟩ rfl (fun _ hM => hM.sub (.cons_cons _ (.slnil)))

def skywaylaw1_probeWorks : Bool :=
  let r1 := skywaylaw1_node 0 0 0 0 1 0
  let r2 := skywaylaw1_node 9 9 0 0 1 0
  let r3 := skywaylaw1_node 0 5 4 0 0 0
  let r4 := skywaylaw1_node 9 5 4 0 0 0
  let r5 := probe_Pair ([r1, r2]) ([r3, r4]) (⟨4, 9⟩ : Sep)
  cond ((r5.2 == 0) && ((r5.1.length : Int) == 1)) (
    Span.eqb (r5.1[0]?.getD Span.zero) (⟨3, 8⟩ : Span)) (
    false)

set_option maxRecDepth 100000 in
theorem skywaylaw1_probeWorks_w (w : World) : Calls Try.prog 47 #[] w (Ret w (.bool (skywaylaw1_probeWorks))) := by
  refine calls_intro (vs := []) (w := w) Try.func47 rfl Try.ntmps47 rfl ?_
  refine TC.weak [] (by kernel_rfl) ?_
  refine TC.seq ?_
  refine TC.region ?_
  refine TL.run 1 [] [] rfl ⟨by kernel_rfl, by kernel_rfl⟩ ?_
  refine TL.next rfl ?_
  refine TC.seq ?_
  refine TC.region ?_
  refine TL.call (some 4) [(4, TubeNode.v (skywaylaw1_node 0 0 0 0 1 0))] (fun w _ => skywaylaw1_node_w 0 0 0 0 1 0 w) (by kernel_rfl) (by kernel_rfl) ?_
  generalize hr1 : skywaylaw1_node 0 0 0 0 1 0 = r1
  refine TL.call (some 5) [(4, TubeNode.v r1), (5, TubeNode.v (skywaylaw1_node 9 9 0 0 1 0))] (fun w _ => skywaylaw1_node_w 9 9 0 0 1 0 w) (by kernel_rfl) (by kernel_rfl) ?_
  generalize hr2 : skywaylaw1_node 9 9 0 0 1 0 = r2
  refine TL.write 0 (fun b1 => [(6, .slice (some ⟨b1, 0, none⟩) 2 2)]) (fun b1 => [.inl (b1, .cells #[.int .i64 r1.Node.Time, .int .i64 r1.Node.At.X, .int .i64 r1.Node.At.Y, .int .i64 r1.Node.Height, .int .i64 r1.Radius, .int .i64 r1.Band, .int .i64 r2.Node.Time, .int .i64 r2.Node.At.X, .int .i64 r2.Node.At.Y, .int .i64 r2.Node.Height, .int .i64 r2.Radius, .int .i64 r2.Band] 57 (0, 0))]) (fun b1 => ⟨by kernel_rfl, by kernel_rfl⟩) (fun b1 => ?_)
  refine TL.call (some 7) [(6, .slice (some ⟨b1, 0, none⟩) 2 2), (7, TubeNode.v (skywaylaw1_node 0 5 4 0 0 0))] (fun w _ => skywaylaw1_node_w 0 5 4 0 0 0 w) (by kernel_rfl) (by kernel_rfl) ?_
  generalize hr3 : skywaylaw1_node 0 5 4 0 0 0 = r3
  refine TL.call (some 8) [(6, .slice (some ⟨b1, 0, none⟩) 2 2), (7, TubeNode.v r3), (8, TubeNode.v (skywaylaw1_node 9 5 4 0 0 0))] (fun w _ => skywaylaw1_node_w 9 5 4 0 0 0 w) (by kernel_rfl) (by kernel_rfl) ?_
  generalize hr4 : skywaylaw1_node 9 5 4 0 0 0 = r4
  refine TL.write 0 (fun b2 => [(6, .slice (some ⟨b1, 0, none⟩) 2 2), (9, .slice (some ⟨b2, 0, none⟩) 2 2)]) (fun b2 => [.inl (b2, .cells #[.int .i64 r3.Node.Time, .int .i64 r3.Node.At.X, .int .i64 r3.Node.At.Y, .int .i64 r3.Node.Height, .int .i64 r3.Radius, .int .i64 r3.Band, .int .i64 r4.Node.Time, .int .i64 r4.Node.At.X, .int .i64 r4.Node.At.Y, .int .i64 r4.Node.Height, .int .i64 r4.Radius, .int .i64 r4.Band] 57 (0, 0)), .inl (b1, .cells #[.int .i64 r1.Node.Time, .int .i64 r1.Node.At.X, .int .i64 r1.Node.At.Y, .int .i64 r1.Node.Height, .int .i64 r1.Radius, .int .i64 r1.Band, .int .i64 r2.Node.Time, .int .i64 r2.Node.At.X, .int .i64 r2.Node.At.Y, .int .i64 r2.Node.Height, .int .i64 r2.Radius, .int .i64 r2.Band] 57 (0, 0))]) (fun b2 => ⟨by kernel_rfl, by kernel_rfl⟩) (fun b2 => ?_)
  refine TL.run 7 [] [(6, .slice (some ⟨b1, 0, none⟩) 2 2), (9, .slice (some ⟨b2, 0, none⟩) 2 2), (10, .agg #[.int .i64 4, .int .i64 9])] rfl ⟨by kernel_rfl, by kernel_rfl⟩ ?_
  refine TL.callN (Γ := (Option Addr × Nat)) (fun g => .tuple #[.slice g.1 (((probe_Pair ([r1, r2]) ([r3, r4]) (⟨4, 9⟩ : Sep)).1).length) g.2, .int .i64 ((probe_Pair ([r1, r2]) ([r3, r4]) (⟨4, 9⟩ : Sep)).2)]) (fun g => [.inr (Own g.1 g.2 90 2 (((probe_Pair ([r1, r2]) ([r3, r4]) (⟨4, 9⟩ : Sep)).1).map Span.c))]) (fun g => [.inr (Own g.1 g.2 90 2 (((probe_Pair ([r1, r2]) ([r3, r4]) (⟨4, 9⟩ : Sep)).1).map Span.c)), .inl (b2, .cells #[.int .i64 r3.Node.Time, .int .i64 r3.Node.At.X, .int .i64 r3.Node.At.Y, .int .i64 r3.Node.Height, .int .i64 r3.Radius, .int .i64 r3.Band, .int .i64 r4.Node.Time, .int .i64 r4.Node.At.X, .int .i64 r4.Node.At.Y, .int .i64 r4.Node.Height, .int .i64 r4.Radius, .int .i64 r4.Band] 57 (0, 0)), .inl (b1, .cells #[.int .i64 r1.Node.Time, .int .i64 r1.Node.At.X, .int .i64 r1.Node.At.Y, .int .i64 r1.Node.Height, .int .i64 r1.Radius, .int .i64 r1.Band, .int .i64 r2.Node.Time, .int .i64 r2.Node.At.X, .int .i64 r2.Node.At.Y, .int .i64 r2.Node.Height, .int .i64 r2.Radius, .int .i64 r2.Band] 57 (0, 0))]) (fun g => rfl) (some 11) (fun g => [(11, .tuple #[.slice g.1 (((probe_Pair ([r1, r2]) ([r3, r4]) (⟨4, 9⟩ : Sep)).1).length) g.2, .int .i64 ((probe_Pair ([r1, r2]) ([r3, r4]) (⟨4, 9⟩ : Sep)).2)])]) (fun w hM => probe_Pair_w (some ⟨b1, 0, none⟩) 2 ([r1, r2]) (some ⟨b2, 0, none⟩) 2 ([r3, r4]) (⟨4, 9⟩ : Sep) w (Rd.lit hM 1 _ rfl (by kernel_rfl) (by kernel_rfl) (by kernel_rfl)) (Nat.le_refl _) (Rd.lit hM 0 _ rfl (by kernel_rfl) (by kernel_rfl) (by kernel_rfl)) (Nat.le_refl _)) (by kernel_rfl) (fun g => by kernel_rfl) ?_
  rintro ⟨A, c⟩
  generalize hr5 : probe_Pair ([r1, r2]) ([r3, r4]) (⟨4, 9⟩ : Sep) = r5
  refine TL.know (fun w hM => hM.short_at 0 rfl) (fun s_r5_0 => ?_)
  refine TL.run 13 [] [(1, .slice A r5.1.length c), (2, .int .i64 r5.2)] rfl ⟨by kernel_rfl, by kernel_rfl⟩ ?_
  refine TL.next rfl ?_
  refine TC.seq ?_
  refine TC.region ?_
  refine TL.run 3 [] [(1, .slice A r5.1.length c), (16, .bool (r5.2 == 0))] rfl ⟨by kernel_rfl, by kernel_rfl⟩ ?_
  refine TL.join 16 (r5.2 == 0) 7 [] [] (fun β => [(1, .slice A r5.1.length c), (20, .bool (β && ((r5.1.length : Int) == 1)))]) (by kernel_rfl) rfl ⟨by kernel_rfl, by kernel_rfl⟩ ⟨by kernel_rfl, by kernel_rfl⟩ ?_
  refine TL.run 8 [] [(1, .slice A r5.1.length c), (21, .bool ((r5.2 == 0) && ((r5.1.length : Int) == 1)))] rfl ⟨by kernel_rfl, by kernel_rfl⟩ ?_
  refine TL.split 21 ((r5.2 == 0) && ((r5.1.length : Int) == 1)) (by kernel_rfl) (fun h1 => ?_) (fun h1 => ?_)
  · refine TL.run 9 [] [(21, .bool true), (22, .slice A r5.1.length c)] rfl ⟨by kernel_rfl, by kernel_rfl⟩ ?_
    refine TL.val (sV (Instr.indexAt 85 (.slice A r5.1.length c) (.int .i64 0))) (some 23) (.pointer (some ((A.getD noAddr).add (0 * 2)))) [(21, .bool true), (23, .pointer (some ((A.getD noAddr).add (0 * 2))))] (fun w hM => run_index (hM.rd_at 0 rfl) (by simp) (by kernel_rfl) (by have q0_ := (beq_t (and_t1 h1)); have q1_ := (beq_t (and_t2 h1)); first | omega | (simp only [List.length_drop]; omega) | (simp only [w64_eq]; omega) | exact (tm_in (by (first | (rw [w64_id (by omega)]; omega) | (simp only [w64_eq]; omega))) (by omega)).1 | exact (tm_in (by (first | (rw [w64_id (by omega)]; omega) | (simp only [w64_eq]; omega))) (by omega)).2.1 | exact (tm_in (by (first | (rw [w64_id (by omega)]; omega) | (simp only [w64_eq]; omega))) (by omega)).2.2 | (simp only [List.length_take] at *; omega) | (simp <;> omega)) (by have q0_ := (beq_t (and_t1 h1)); have q1_ := (beq_t (and_t2 h1)); first | omega | (simp only [List.length_drop]; omega) | (simp only [w64_eq]; omega) | exact (tm_in (by (first | (rw [w64_id (by omega)]; omega) | (simp only [w64_eq]; omega))) (by omega)).1 | exact (tm_in (by (first | (rw [w64_id (by omega)]; omega) | (simp only [w64_eq]; omega))) (by omega)).2.1 | exact (tm_in (by (first | (rw [w64_id (by omega)]; omega) | (simp only [w64_eq]; omega))) (by omega)).2.2 | (simp only [List.length_take] at *; omega) | (simp <;> omega))) (by kernel_rfl) (by kernel_rfl) ?_
    refine TL.val (sV (Instr.loadAt 90 (.pointer (some ((A.getD noAddr).add (0 * 2)))))) (some 24) (Span.v (r5.1[0]?.getD Span.zero)) [(21, .bool true), (24, Span.v (r5.1[0]?.getD Span.zero))] (fun w hM => run_load_agg (n := 2) (off := 0) (i := 0) (Span.v (r5.1[0]?.getD Span.zero)) (hM.rd_at 0 rfl) (map_at (getD_at _ _ Span.zero (by have q0_ := (beq_t (and_t1 h1)); have q1_ := (beq_t (and_t2 h1)); first | omega | (simp only [List.length_drop]; omega) | (simp only [w64_eq]; omega) | exact (tm_in (by (first | (rw [w64_id (by omega)]; omega) | (simp only [w64_eq]; omega))) (by omega)).1 | exact (tm_in (by (first | (rw [w64_id (by omega)]; omega) | (simp only [w64_eq]; omega))) (by omega)).2.1 | exact (tm_in (by (first | (rw [w64_id (by omega)]; omega) | (simp only [w64_eq]; omega))) (by omega)).2.2 | (simp only [List.length_take] at *; omega) | (simp <;> omega)))) (by kernel_rfl) (by kernel_rfl) (by kernel_rfl)) (by kernel_rfl) (by kernel_rfl) ?_
    refine TL.run 12 [] [(21, .bool true), (24, Span.v (r5.1[0]?.getD Span.zero)), (25, .agg #[.int .i64 3, .int .i64 8])] rfl ⟨by kernel_rfl, by kernel_rfl⟩ ?_
    refine TL.val (sV (do eqGuard .eql 90 (.tmp 24) (.tmp 25) (Span.v (r5.1[0]?.getD Span.zero)) (.agg #[.int .i64 3, .int .i64 8]); binOp .eql 90 (Span.v (r5.1[0]?.getD Span.zero)) (.agg #[.int .i64 3, .int .i64 8]))) (some 26) (.bool (Span.eqb (r5.1[0]?.getD Span.zero) (⟨3, 8⟩ : Span))) [(21, .bool true), (26, .bool (Span.eqb (r5.1[0]?.getD Span.zero) (⟨3, 8⟩ : Span)))] (fun w hM => run_eql (b := Span.eqb (r5.1[0]?.getD Span.zero) (⟨3, 8⟩ : Span)) (by kernel_rfl) (by kernel_rfl) w) (by kernel_rfl) (by kernel_rfl) ?_
    refine TL.run 15 [] [(0, .bool (Span.eqb (r5.1[0]?.getD Span.zero) (⟨3, 8⟩ : Span)))] rfl ⟨by kernel_rfl, by kernel_rfl⟩ ?_
    refine TL.next rfl ?_
    refine TC.ret ?_
    have e : skywaylaw1_probeWorks = (Span.eqb (r5.1[0]?.getD Span.zero) (⟨3, 8⟩ : Span)) := by subst hr1 hr2 hr3 hr4 hr5; unfold skywaylaw1_probeWorks; exact cond_t h1 (rfl)
    exact TE.ret [] (.bool (Span.eqb (r5.1[0]?.getD Span.zero) (⟨3, 8⟩ : Span))) ⟨by kernel_rfl, by kernel_rfl⟩ (by rw [e]; first | done | kernel_rfl)
  · refine TL.run 15 [] [(0, .bool false)] rfl ⟨by kernel_rfl, by kernel_rfl⟩ ?_
    refine TL.next rfl ?_
    refine TC.ret ?_
    have e : skywaylaw1_probeWorks = false := by subst hr1 hr2 hr3 hr4 hr5; unfold skywaylaw1_probeWorks; exact cond_f h1 (rfl)
    exact TE.ret [] (.bool false) ⟨by kernel_rfl, by kernel_rfl⟩ (by rw [e]; first | done | kernel_rfl)

def skywaylaw1_ProbePairs_L2 (x : Span) : Nat → Nat → (List Int) → (List Int)
  | 0, _, seconds_3 => seconds_3
  | m + 1, k_2, seconds_3 => skywaylaw1_ProbePairs_L2 x m (k_2 + 1) (seconds_3 ++ ([(x.From + (k_2 : Int))]))
def skywaylaw1_ProbePairs_L3 (x : Span) : Nat → Nat → (List Int) → (List Int)
  | 0, _, seconds_5 => seconds_5
  | m + 1, k_3, seconds_5 => skywaylaw1_ProbePairs_L3 x m (k_3 + 1) (seconds_5 ++ ([(x.From + (k_3 : Int))]))
def skywaylaw1_ProbePairs_L1 (r2 : List Span × Int) : List Span → Nat → (List Int) → ((List Int) ⊕ (Bool))
  | [], _, seconds => .inl seconds
  | x :: xs, k, seconds => cond (decide (x.From ≥ x.To)) (
      .inr false) (
      cond (decide ((k : Int) > 0)) (
        cond (decide (x.From ≤ ((r2.1[(k - 1)]?.getD Span.zero).To))) (
          .inr false) (
          bindv (skywaylaw1_ProbePairs_L2 x ((x.To - x.From).toNat) 0 seconds) (fun seconds_4 =>
            skywaylaw1_ProbePairs_L1 r2 xs (k + 1) seconds_4))) (
        bindv (skywaylaw1_ProbePairs_L3 x ((x.To - x.From).toNat) 0 seconds) (fun seconds_6 =>
          skywaylaw1_ProbePairs_L1 r2 xs (k + 1) seconds_6)))
def skywaylaw1_ProbePairs_L4 (seconds_2 : List Int) : List Int → Nat → ((Unit) ⊕ (Bool))
  | [], _ => .inl ()
  | x_2 :: xs, k_4 => cond ((seconds_2[k_4]?.getD 0) != x_2) (
      .inr false) (
      skywaylaw1_ProbePairs_L4 seconds_2 xs (k_4 + 1))
def skywaylaw1_ProbePairs (a : List TubeNode) (b_ : List TubeNode) (s : Sep) : Bool :=
  let r1 := skywaylaw1_probeWorks
  cond (!r1) (
    false) (
    let r2 := probe_Pair a b_ s
    let r3 := probe_CheckSep s
    cond (r3 != 0) (
      (r2.2 != 0) && ((r2.1.length : Int) == 0)) (
      let r4 := tube_Check a
      cond (r4 != 0) (
        (r2.2 != 0) && ((r2.1.length : Int) == 0)) (
        let r5 := tube_Check b_
        cond (r5 != 0) (
          (r2.2 != 0) && ((r2.1.length : Int) == 0)) (
          cond (decide ((w64 ((((a[(a.length - 1)]?.getD TubeNode.zero).Node).Time) - (((a[0]?.getD TubeNode.zero).Node).Time))) > 4000)) (
            true) (
            Sum.elim (fun seconds_2 =>
              let r6 := skywayref1_Clashes a b_ s
              cond ((r2.2 != 0) || ((seconds_2.length : Int) != (r6.length : Int))) (
                false) (
                Sum.elim (fun _ =>
                  true) (fun r => r) (skywaylaw1_ProbePairs_L4 seconds_2 r6 0))) (fun r => r) (skywaylaw1_ProbePairs_L1 r2 r2.1 0 ([] : List Int)))))))

theorem tube_ok2 {l : List TubeNode} {r : Int} (hr : tube_Check l = r) (h : (r != 0) = false) : TubeOk l := tube_ok (by rw [hr]; simpa using h)
theorem spans_bound {a b : List TubeNode} {s : Sep} {r1 : Int × Int} (hr : 0 ≤ r1.1 ∧ r1.1 ≤ 200000) : ∀ (m k : Nat) (out : List Span), r1.1 + (k : Int) + (m : Int) ≤ 200001 → out.length ≤ k → (∀ x ∈ out, (0 ≤ x.From ∧ x.From ≤ 200001) ∧ 0 ≤ x.To ∧ x.To ≤ 200001) →
    (probe_spans_L1 a b s r1 m k out).length ≤ m + k ∧ ∀ x ∈ probe_spans_L1 a b s r1 m k out, (0 ≤ x.From ∧ x.From ≤ 200001) ∧ 0 ≤ x.To ∧ x.To ≤ 200001
  | 0, k, out, _, h1, h2 => ⟨by show out.length ≤ 0 + k; omega, h2⟩
  | m + 1, k, out, h0, h1, h2 => by
    have w : w64 (r1.1 + (k : Int) + 1) = r1.1 + (k : Int) + 1 := w64_id (by omega)
    have app : ∀ z : Span, (0 ≤ z.From ∧ z.From ≤ 200001) ∧ 0 ≤ z.To ∧ z.To ≤ 200001 → (probe_spans_L1 a b s r1 m (k + 1) (out ++ [z])).length ≤ m + 1 + k ∧ ∀ x ∈ probe_spans_L1 a b s r1 m (k + 1) (out ++ [z]), (0 ≤ x.From ∧ x.From ≤ 200001) ∧ 0 ≤ x.To ∧ x.To ≤ 200001 := by
      intro z hz
      obtain ⟨g1, g2⟩ := spans_bound hr m (k + 1) (out ++ [z]) (by omega) (by rw [List.length_append, List.length_singleton]; omega) (fun x hx => by
        rcases List.mem_append.1 hx with hx | hx
        · exact h2 x hx
        · rw [List.mem_singleton.1 hx]; exact hz)
      exact ⟨by omega, g2⟩
    unfold probe_spans_L1
    simp only [ite_of_cond, w]
    split
    · obtain ⟨g1, g2⟩ := spans_bound hr m (k + 1) out (by omega) (by omega) h2
      exact ⟨by omega, g2⟩
    · split
      · rename_i hlen
        simp only [decide_eq_true_eq] at hlen
        split
        · have hl := h2 (out[out.length - 1]'(by omega)) (List.getElem_mem ..)
          have he : out[out.length - 1]?.getD Span.zero = out[out.length - 1]'(by omega) := by rw [List.getElem?_eq_getElem (by omega)]; rfl
          obtain ⟨g1, g2⟩ := spans_bound hr m (k + 1) (out.set (out.length - 1) ⟨(out[out.length - 1]?.getD Span.zero).From, r1.1 + (k : Int) + 1⟩) (by omega) (by rw [List.length_set]; omega) (fun x hx => by
            rcases List.mem_or_eq_of_mem_set hx with hx | rfl
            · exact h2 x hx
            · rw [he]; exact ⟨hl.1, by dsimp only; omega⟩)
          exact ⟨by omega, g2⟩
        · exact app _ (by dsimp only; omega)
      · exact app _ (by dsimp only; omega)
theorem pair_bound {a b : List TubeNode} {s : Sep} {r : List Span × Int} (hr : probe_Pair a b s = r) : r.1.length ≤ 200001 ∧ ∀ x ∈ r.1, (0 ≤ x.From ∧ x.From ≤ 200001) ∧ 0 ≤ x.To ∧ x.To ≤ 200001 := by
  subst hr
  unfold probe_Pair
  dsimp only
  by_cases h : probe_check s [a, b] = 0
  · have hn : (probe_check s [a, b] != 0) = false := by simp [h]
    obtain ⟨_, c1, c2⟩ := check_two rfl hn
    have kc := common_in (tube_ok c1) (tube_ok c2) rfl
    rw [hn]
    simp only [cond_false]
    unfold probe_spans bindv
    dsimp only
    obtain ⟨g1, g2⟩ := spans_bound (a := a) (b := b) (s := s) (r1 := probe_common a b) kc.1 ((probe_common a b).2 - (probe_common a b).1 + 1).toNat 0 [] (by omega) (Nat.le_refl _) (by simp)
    exact ⟨by omega, g2⟩
  · have hn : (probe_check s [a, b] != 0) = true := by simpa using h
    rw [hn]
    simp

set_option maxRecDepth 100000 in
theorem skywaylaw1_ProbePairs_w (A_a : Option Addr) (c_a : Nat) (a : List TubeNode) (A_b_ : Option Addr) (c_b_ : Nat) (b_ : List TubeNode) (s : Sep) (w : World) (h_a : Rd w 6 A_a (a.map TubeNode.c)) (hc_a : a.length ≤ c_a) (h_b_ : Rd w 6 A_b_ (b_.map TubeNode.c)) (hc_b_ : b_.length ≤ c_b_) : Calls Try.prog 14 #[.slice A_a a.length c_a, .slice A_b_ b_.length c_b_, Sep.v s] w (Ret w (.bool (skywaylaw1_ProbePairs a b_ s))) := by
  have s_a := h_a.short; rw [List.length_map] at s_a
  have s_b_ := h_b_.short; rw [List.length_map] at s_b_
  refine calls_intro (vs := [.slice A_a a.length c_a, .slice A_b_ b_.length c_b_, Sep.v s]) (w := w) Try.func14 rfl Try.ntmps14 rfl ?_
  refine TC.weak [(0, .slice A_a a.length c_a), (1, .slice A_b_ b_.length c_b_), (2, Sep.v s)] (by kernel_rfl) ?_
  refine TC.seq ?_
  refine TC.region ?_
  refine TL.write 0 (fun b1 => [(0, .slice A_a a.length c_a), (1, .slice A_b_ b_.length c_b_), (5, .pointer (some ⟨b1, 0, none⟩))]) (fun b1 => [.inl (b1, .cells (Sep.c s) 84 (0, 0))]) (fun b1 => ⟨by kernel_rfl, by kernel_rfl⟩) (fun b1 => ?_)
  refine TL.run 2 [] [(0, .slice A_a a.length c_a), (1, .slice A_b_ b_.length c_b_), (5, .pointer (some ⟨b1, 0, none⟩))] rfl ⟨by kernel_rfl, by kernel_rfl⟩ ?_
  refine TL.next rfl ?_
  refine TC.seq ?_
  refine TC.seq ?_
  refine TC.region ?_
  refine TL.call (some 15) [(0, .slice A_a a.length c_a), (1, .slice A_b_ b_.length c_b_), (5, .pointer (some ⟨b1, 0, none⟩)), (15, .bool ((skywaylaw1_probeWorks)))] (fun w _ => skywaylaw1_probeWorks_w w) (by kernel_rfl) (by kernel_rfl) ?_
  generalize hr1 : skywaylaw1_probeWorks = r1
  refine TL.run 2 [] [(0, .slice A_a a.length c_a), (1, .slice A_b_ b_.length c_b_), (5, .pointer (some ⟨b1, 0, none⟩)), (16, .bool (!r1))] rfl ⟨by kernel_rfl, by kernel_rfl⟩ ?_
  refine TL.next rfl ?_
  refine TC.cond (!r1) rfl (by kernel_rfl) (fun h1 => ?_) (fun h1 => ?_)
  · refine TC.seq ?_
    refine TC.region ?_
    refine TL.run 1 [] [(6, .bool false)] rfl ⟨by kernel_rfl, by kernel_rfl⟩ ?_
    refine TL.next rfl ?_
    refine TC.ret ?_
    refine TE.ret_then ?_
    have e : skywaylaw1_ProbePairs a b_ s = false := by subst hr1; unfold skywaylaw1_ProbePairs; exact cond_t h1 (rfl)
    exact TE.ret [] (.bool false) ⟨by kernel_rfl, by kernel_rfl⟩ (by rw [e]; first | done | kernel_rfl)
  · refine TC.skip ?_
    refine TE.next ?_
    refine TC.seq ?_
    refine TC.region ?_
    refine TL.run 3 [0] [(0, .slice A_a a.length c_a), (1, .slice A_b_ b_.length c_b_), (5, .pointer (some ⟨b1, 0, none⟩)), (18, .slice A_a a.length c_a), (19, .slice A_b_ b_.length c_b_), (20, Sep.v s)] rfl ⟨by kernel_rfl, by kernel_rfl⟩ ?_
    refine TL.callN (Γ := (Option Addr × Nat)) (fun g => .tuple #[.slice g.1 (((probe_Pair a b_ s).1).length) g.2, .int .i64 ((probe_Pair a b_ s).2)]) (fun g => [.inr (Own g.1 g.2 90 2 (((probe_Pair a b_ s).1).map Span.c))]) (fun g => [.inr (Own g.1 g.2 90 2 (((probe_Pair a b_ s).1).map Span.c)), .inl (b1, .cells (Sep.c s) 84 (0, 0))]) (fun g => rfl) (some 21) (fun g => [(0, .slice A_a a.length c_a), (1, .slice A_b_ b_.length c_b_), (5, .pointer (some ⟨b1, 0, none⟩)), (21, .tuple #[.slice g.1 (((probe_Pair a b_ s).1).length) g.2, .int .i64 ((probe_Pair a b_ s).2)])]) (fun w hM => probe_Pair_w A_a c_a a A_b_ c_b_ b_ s w (h_a.sat hM) hc_a (h_b_.sat hM) hc_b_) (by kernel_rfl) (fun g => by kernel_rfl) ?_
    rintro ⟨A, c⟩
    generalize hr2 : probe_Pair a b_ s = r2
    refine TL.know (fun w hM => hM.short_at 0 rfl) (fun s_r2_0 => ?_)
    refine TL.run 9 [] [(0, .slice A_a a.length c_a), (1, .slice A_b_ b_.length c_b_), (5, .pointer (some ⟨b1, 0, none⟩)), (7, .slice A r2.1.length c), (8, .int .i64 r2.2)] rfl ⟨by kernel_rfl, by kernel_rfl⟩ ?_
    refine TL.next rfl ?_
    refine TC.seq ?_
    refine TC.seq ?_
    refine TC.region ?_
    refine TL.run 1 [1] [(0, .slice A_a a.length c_a), (1, .slice A_b_ b_.length c_b_), (5, .pointer (some ⟨b1, 0, none⟩)), (7, .slice A r2.1.length c), (8, .int .i64 r2.2), (24, Sep.v s)] rfl ⟨by kernel_rfl, by kernel_rfl⟩ ?_
    refine TL.call (some 25) [(0, .slice A_a a.length c_a), (1, .slice A_b_ b_.length c_b_), (5, .pointer (some ⟨b1, 0, none⟩)), (7, .slice A r2.1.length c), (8, .int .i64 r2.2), (25, .int .i64 (probe_CheckSep s))] (fun w _ => probe_CheckSep_w s w) (by kernel_rfl) (by kernel_rfl) ?_
    generalize hr3 : probe_CheckSep s = r3
    refine TL.run 4 [] [(0, .slice A_a a.length c_a), (1, .slice A_b_ b_.length c_b_), (5, .pointer (some ⟨b1, 0, none⟩)), (7, .slice A r2.1.length c), (8, .int .i64 r2.2), (27, .bool (r3 != 0))] rfl ⟨by kernel_rfl, by kernel_rfl⟩ ?_
    refine TL.split 27 (r3 != 0) (by kernel_rfl) (fun h2 => ?_) (fun h2 => ?_)
    · refine TL.run 13 [] [(0, .slice A_a a.length c_a), (1, .slice A_b_ b_.length c_b_), (5, .pointer (some ⟨b1, 0, none⟩)), (7, .slice A r2.1.length c), (8, .int .i64 r2.2), (36, .bool true)] rfl ⟨by kernel_rfl, by kernel_rfl⟩ ?_
      refine TL.next rfl ?_
      refine TC.condT rfl (by kernel_rfl) ?_
      refine TC.seq ?_
      refine TC.region ?_
      refine TL.run 3 [] [(7, .slice A r2.1.length c), (39, .bool (r2.2 != 0))] rfl ⟨by kernel_rfl, by kernel_rfl⟩ ?_
      refine TL.join 39 (r2.2 != 0) 7 [] [] (fun β => [(43, .bool (β && ((r2.1.length : Int) == 0)))]) (by kernel_rfl) rfl ⟨by kernel_rfl, by kernel_rfl⟩ ⟨by kernel_rfl, by kernel_rfl⟩ ?_
      refine TL.run 8 [] [(6, .bool ((r2.2 != 0) && ((r2.1.length : Int) == 0)))] rfl ⟨by kernel_rfl, by kernel_rfl⟩ ?_
      refine TL.next rfl ?_
      refine TC.ret ?_
      refine TE.ret_then ?_
      have e : skywaylaw1_ProbePairs a b_ s = ((r2.2 != 0) && ((r2.1.length : Int) == 0)) := by subst hr1 hr2 hr3; unfold skywaylaw1_ProbePairs; exact cond_f h1 (cond_t h2 (rfl))
      exact TE.ret [] (.bool ((r2.2 != 0) && ((r2.1.length : Int) == 0))) ⟨by kernel_rfl, by kernel_rfl⟩ (by rw [e]; first | done | kernel_rfl)
    · refine TL.run 5 [] [(0, .slice A_a a.length c_a), (1, .slice A_b_ b_.length c_b_), (5, .pointer (some ⟨b1, 0, none⟩)), (7, .slice A r2.1.length c), (8, .int .i64 r2.2), (27, .bool false), (28, .slice A_a a.length c_a)] rfl ⟨by kernel_rfl, by kernel_rfl⟩ ?_
      refine TL.call (some 29) [(0, .slice A_a a.length c_a), (1, .slice A_b_ b_.length c_b_), (5, .pointer (some ⟨b1, 0, none⟩)), (7, .slice A r2.1.length c), (8, .int .i64 r2.2), (27, .bool false), (29, .int .i64 (tube_Check a))] (fun w hM => tube_Check_w A_a c_a a w (h_a.sat hM) hc_a) (by kernel_rfl) (by kernel_rfl) ?_
      generalize hr4 : tube_Check a = r4
      refine TL.run 9 [] [(0, .slice A_a a.length c_a), (1, .slice A_b_ b_.length c_b_), (5, .pointer (some ⟨b1, 0, none⟩)), (7, .slice A r2.1.length c), (8, .int .i64 r2.2), (32, .bool (r4 != 0))] rfl ⟨by kernel_rfl, by kernel_rfl⟩ ?_
      refine TL.split 32 (r4 != 0) (by kernel_rfl) (fun h3 => ?_) (fun h3 => ?_)
      · refine TL.run 13 [] [(0, .slice A_a a.length c_a), (1, .slice A_b_ b_.length c_b_), (5, .pointer (some ⟨b1, 0, none⟩)), (7, .slice A r2.1.length c), (8, .int .i64 r2.2), (36, .bool true)] rfl ⟨by kernel_rfl, by kernel_rfl⟩ ?_
        refine TL.next rfl ?_
        refine TC.condT rfl (by kernel_rfl) ?_
        refine TC.seq ?_
        refine TC.region ?_
        refine TL.run 3 [] [(7, .slice A r2.1.length c), (39, .bool (r2.2 != 0))] rfl ⟨by kernel_rfl, by kernel_rfl⟩ ?_
        refine TL.join 39 (r2.2 != 0) 7 [] [] (fun β => [(43, .bool (β && ((r2.1.length : Int) == 0)))]) (by kernel_rfl) rfl ⟨by kernel_rfl, by kernel_rfl⟩ ⟨by kernel_rfl, by kernel_rfl⟩ ?_
        refine TL.run 8 [] [(6, .bool ((r2.2 != 0) && ((r2.1.length : Int) == 0)))] rfl ⟨by kernel_rfl, by kernel_rfl⟩ ?_
        refine TL.next rfl ?_
        refine TC.ret ?_
        refine TE.ret_then ?_
        have e : skywaylaw1_ProbePairs a b_ s = ((r2.2 != 0) && ((r2.1.length : Int) == 0)) := by subst hr1 hr2 hr3 hr4; unfold skywaylaw1_ProbePairs; exact cond_f h1 (cond_f h2 (cond_t h3 (rfl)))
        exact TE.ret [] (.bool ((r2.2 != 0) && ((r2.1.length : Int) == 0))) ⟨by kernel_rfl, by kernel_rfl⟩ (by rw [e]; first | done | kernel_rfl)
      · refine TL.run 10 [] [(0, .slice A_a a.length c_a), (1, .slice A_b_ b_.length c_b_), (5, .pointer (some ⟨b1, 0, none⟩)), (7, .slice A r2.1.length c), (8, .int .i64 r2.2), (32, .bool false), (33, .slice A_b_ b_.length c_b_)] rfl ⟨by kernel_rfl, by kernel_rfl⟩ ?_
        refine TL.call (some 34) [(0, .slice A_a a.length c_a), (1, .slice A_b_ b_.length c_b_), (5, .pointer (some ⟨b1, 0, none⟩)), (7, .slice A r2.1.length c), (8, .int .i64 r2.2), (32, .bool false), (34, .int .i64 (tube_Check b_))] (fun w hM => tube_Check_w A_b_ c_b_ b_ w (h_b_.sat hM) hc_b_) (by kernel_rfl) (by kernel_rfl) ?_
        generalize hr5 : tube_Check b_ = r5
        refine TL.run 13 [] [(0, .slice A_a a.length c_a), (1, .slice A_b_ b_.length c_b_), (5, .pointer (some ⟨b1, 0, none⟩)), (7, .slice A r2.1.length c), (8, .int .i64 r2.2), (36, .bool (r5 != 0))] rfl ⟨by kernel_rfl, by kernel_rfl⟩ ?_
        refine TL.next rfl ?_
        refine TC.cond (r5 != 0) rfl (by kernel_rfl) (fun h4 => ?_) (fun h4 => ?_)
        · refine TC.seq ?_
          refine TC.region ?_
          refine TL.run 3 [] [(7, .slice A r2.1.length c), (39, .bool (r2.2 != 0))] rfl ⟨by kernel_rfl, by kernel_rfl⟩ ?_
          refine TL.join 39 (r2.2 != 0) 7 [] [] (fun β => [(43, .bool (β && ((r2.1.length : Int) == 0)))]) (by kernel_rfl) rfl ⟨by kernel_rfl, by kernel_rfl⟩ ⟨by kernel_rfl, by kernel_rfl⟩ ?_
          refine TL.run 8 [] [(6, .bool ((r2.2 != 0) && ((r2.1.length : Int) == 0)))] rfl ⟨by kernel_rfl, by kernel_rfl⟩ ?_
          refine TL.next rfl ?_
          refine TC.ret ?_
          refine TE.ret_then ?_
          have e : skywaylaw1_ProbePairs a b_ s = ((r2.2 != 0) && ((r2.1.length : Int) == 0)) := by subst hr1 hr2 hr3 hr4 hr5; unfold skywaylaw1_ProbePairs; exact cond_f h1 (cond_f h2 (cond_f h3 (cond_t h4 (rfl))))
          exact TE.ret [] (.bool ((r2.2 != 0) && ((r2.1.length : Int) == 0))) ⟨by kernel_rfl, by kernel_rfl⟩ (by rw [e]; first | done | kernel_rfl)
        · refine TC.skip ?_
          refine TE.next ?_
          refine TC.seq ?_
          refine TC.seq ?_
          refine TC.draw 15 (by kernel_rfl) (by kernel_rfl) (by kernel_rfl) ?_
          refine TQ.run 4 [] [(0, .slice A_a a.length c_a), (1, .slice A_b_ b_.length c_b_), (5, .pointer (some ⟨b1, 0, none⟩)), (7, .slice A r2.1.length c), (8, .int .i64 r2.2), (44, .slice A_a a.length c_a), (47, .int .i64 (w64 ((a.length : Int) - 1)))] rfl ⟨by kernel_rfl, by kernel_rfl⟩ ?_
          refine TQ.rw 47 (.int .i64 (w64 ((a.length : Int) - 1))) (.int .i64 ((a.length - 1 : Nat) : Int)) (by kernel_rfl) (w64_pred a.length (by have q0_ := (bne_f h2); have q1_ := (bne_f h3); have q2_ := (bne_f h4); (try have ka_ := times_in (tube_ok2 hr4 h3)); (try have kb_ := times_in (tube_ok2 hr5 h4)); (try have kp_ := (pair_bound hr2).1); (try have kx_ := (pair_bound hr2).2 x (List.mem_of_getElem? hx)); first | omega | (simp only [List.length_drop]; omega) | (simp only [w64_eq]; omega) | exact (tm_in (by (first | (rw [w64_id (by omega)]; omega) | (simp only [w64_eq]; omega))) (by omega)).1 | exact (tm_in (by (first | (rw [w64_id (by omega)]; omega) | (simp only [w64_eq]; omega))) (by omega)).2.1 | exact (tm_in (by (first | (rw [w64_id (by omega)]; omega) | (simp only [w64_eq]; omega))) (by omega)).2.2 | (simp only [List.length_take] at *; omega) | (simp <;> omega))) ?_
          refine TQ.val (sV (Instr.indexAt 53 (.slice A_a a.length c_a) (.int .i64 ((a.length - 1 : Nat) : Int)))) (some 48) (.pointer (some ((A_a.getD noAddr).add ((a.length - 1) * 6)))) [(0, .slice A_a a.length c_a), (1, .slice A_b_ b_.length c_b_), (5, .pointer (some ⟨b1, 0, none⟩)), (7, .slice A r2.1.length c), (8, .int .i64 r2.2), (48, .pointer (some ((A_a.getD noAddr).add ((a.length - 1) * 6))))] (fun w hM => run_index (h_a.sat hM) (by simp) (by kernel_rfl) (by have q0_ := (bne_f h2); have q1_ := (bne_f h3); have q2_ := (bne_f h4); (try have ka_ := times_in (tube_ok2 hr4 h3)); (try have kb_ := times_in (tube_ok2 hr5 h4)); (try have kp_ := (pair_bound hr2).1); (try have kx_ := (pair_bound hr2).2 x (List.mem_of_getElem? hx)); first | omega | (simp only [List.length_drop]; omega) | (simp only [w64_eq]; omega) | exact (tm_in (by (first | (rw [w64_id (by omega)]; omega) | (simp only [w64_eq]; omega))) (by omega)).1 | exact (tm_in (by (first | (rw [w64_id (by omega)]; omega) | (simp only [w64_eq]; omega))) (by omega)).2.1 | exact (tm_in (by (first | (rw [w64_id (by omega)]; omega) | (simp only [w64_eq]; omega))) (by omega)).2.2 | (simp only [List.length_take] at *; omega) | (simp <;> omega)) (by have q0_ := (bne_f h2); have q1_ := (bne_f h3); have q2_ := (bne_f h4); (try have ka_ := times_in (tube_ok2 hr4 h3)); (try have kb_ := times_in (tube_ok2 hr5 h4)); (try have kp_ := (pair_bound hr2).1); (try have kx_ := (pair_bound hr2).2 x (List.mem_of_getElem? hx)); first | omega | (simp only [List.length_drop]; omega) | (simp only [w64_eq]; omega) | exact (tm_in (by (first | (rw [w64_id (by omega)]; omega) | (simp only [w64_eq]; omega))) (by omega)).1 | exact (tm_in (by (first | (rw [w64_id (by omega)]; omega) | (simp only [w64_eq]; omega))) (by omega)).2.1 | exact (tm_in (by (first | (rw [w64_id (by omega)]; omega) | (simp only [w64_eq]; omega))) (by omega)).2.2 | (simp only [List.length_take] at *; omega) | (simp <;> omega))) rfl (by kernel_rfl) (by kernel_rfl) ?_
          refine TQ.run 7 [] [(0, .slice A_a a.length c_a), (1, .slice A_b_ b_.length c_b_), (5, .pointer (some ⟨b1, 0, none⟩)), (7, .slice A r2.1.length c), (8, .int .i64 r2.2), (50, .pointer (some ((A_a.getD noAddr).add ((a.length - 1) * 6))))] rfl ⟨by kernel_rfl, by kernel_rfl⟩ ?_
          refine TQ.val (sV (Instr.loadAt 3 (.pointer (some ((A_a.getD noAddr).add ((a.length - 1) * 6)))))) (some 51) (.int .i64 (((a[(a.length - 1)]?.getD TubeNode.zero).Node).Time)) [(0, .slice A_a a.length c_a), (1, .slice A_b_ b_.length c_b_), (5, .pointer (some ⟨b1, 0, none⟩)), (7, .slice A r2.1.length c), (8, .int .i64 r2.2), (51, .int .i64 (((a[(a.length - 1)]?.getD TubeNode.zero).Node).Time))] (fun w hM => run_load_one (off := 0) (i := (a.length - 1)) (.int .i64 (((a[(a.length - 1)]?.getD TubeNode.zero).Node).Time)) (h_a.sat hM) (map_at (getD_at _ _ TubeNode.zero (by have q0_ := (bne_f h2); have q1_ := (bne_f h3); have q2_ := (bne_f h4); (try have ka_ := times_in (tube_ok2 hr4 h3)); (try have kb_ := times_in (tube_ok2 hr5 h4)); (try have kp_ := (pair_bound hr2).1); (try have kx_ := (pair_bound hr2).2 x (List.mem_of_getElem? hx)); first | omega | (simp only [List.length_drop]; omega) | (simp only [w64_eq]; omega) | exact (tm_in (by (first | (rw [w64_id (by omega)]; omega) | (simp only [w64_eq]; omega))) (by omega)).1 | exact (tm_in (by (first | (rw [w64_id (by omega)]; omega) | (simp only [w64_eq]; omega))) (by omega)).2.1 | exact (tm_in (by (first | (rw [w64_id (by omega)]; omega) | (simp only [w64_eq]; omega))) (by omega)).2.2 | (simp only [List.length_take] at *; omega) | (simp <;> omega)))) (by kernel_rfl) (by kernel_rfl)) rfl (by kernel_rfl) (by kernel_rfl) ?_
          refine TQ.run 9 [] [(0, .slice A_a a.length c_a), (1, .slice A_b_ b_.length c_b_), (5, .pointer (some ⟨b1, 0, none⟩)), (7, .slice A r2.1.length c), (8, .int .i64 r2.2), (51, .int .i64 (((a[(a.length - 1)]?.getD TubeNode.zero).Node).Time)), (52, .slice A_a a.length c_a)] rfl ⟨by kernel_rfl, by kernel_rfl⟩ ?_
          refine TQ.val (sV (Instr.indexAt 53 (.slice A_a a.length c_a) (.int .i64 0))) (some 53) (.pointer (some ((A_a.getD noAddr).add (0 * 6)))) [(0, .slice A_a a.length c_a), (1, .slice A_b_ b_.length c_b_), (5, .pointer (some ⟨b1, 0, none⟩)), (7, .slice A r2.1.length c), (8, .int .i64 r2.2), (51, .int .i64 (((a[(a.length - 1)]?.getD TubeNode.zero).Node).Time)), (53, .pointer (some ((A_a.getD noAddr).add (0 * 6))))] (fun w hM => run_index (h_a.sat hM) (by simp) (by kernel_rfl) (by have q0_ := (bne_f h2); have q1_ := (bne_f h3); have q2_ := (bne_f h4); (try have ka_ := times_in (tube_ok2 hr4 h3)); (try have kb_ := times_in (tube_ok2 hr5 h4)); (try have kp_ := (pair_bound hr2).1); (try have kx_ := (pair_bound hr2).2 x (List.mem_of_getElem? hx)); first | omega | (simp only [List.length_drop]; omega) | (simp only [w64_eq]; omega) | exact (tm_in (by (first | (rw [w64_id (by omega)]; omega) | (simp only [w64_eq]; omega))) (by omega)).1 | exact (tm_in (by (first | (rw [w64_id (by omega)]; omega) | (simp only [w64_eq]; omega))) (by omega)).2.1 | exact (tm_in (by (first | (rw [w64_id (by omega)]; omega) | (simp only [w64_eq]; omega))) (by omega)).2.2 | (simp only [List.length_take] at *; omega) | (simp <;> omega)) (by have q0_ := (bne_f h2); have q1_ := (bne_f h3); have q2_ := (bne_f h4); (try have ka_ := times_in (tube_ok2 hr4 h3)); (try have kb_ := times_in (tube_ok2 hr5 h4)); (try have kp_ := (pair_bound hr2).1); (try have kx_ := (pair_bound hr2).2 x (List.mem_of_getElem? hx)); first | omega | (simp only [List.length_drop]; omega) | (simp only [w64_eq]; omega) | exact (tm_in (by (first | (rw [w64_id (by omega)]; omega) | (simp only [w64_eq]; omega))) (by omega)).1 | exact (tm_in (by (first | (rw [w64_id (by omega)]; omega) | (simp only [w64_eq]; omega))) (by omega)).2.1 | exact (tm_in (by (first | (rw [w64_id (by omega)]; omega) | (simp only [w64_eq]; omega))) (by omega)).2.2 | (simp only [List.length_take] at *; omega) | (simp <;> omega))) rfl (by kernel_rfl) (by kernel_rfl) ?_
          refine TQ.run 12 [] [(0, .slice A_a a.length c_a), (1, .slice A_b_ b_.length c_b_), (5, .pointer (some ⟨b1, 0, none⟩)), (7, .slice A r2.1.length c), (8, .int .i64 r2.2), (51, .int .i64 (((a[(a.length - 1)]?.getD TubeNode.zero).Node).Time)), (55, .pointer (some ((A_a.getD noAddr).add (0 * 6))))] rfl ⟨by kernel_rfl, by kernel_rfl⟩ ?_
          refine TQ.val (sV (Instr.loadAt 3 (.pointer (some ((A_a.getD noAddr).add (0 * 6)))))) (some 56) (.int .i64 (((a[0]?.getD TubeNode.zero).Node).Time)) [(0, .slice A_a a.length c_a), (1, .slice A_b_ b_.length c_b_), (5, .pointer (some ⟨b1, 0, none⟩)), (7, .slice A r2.1.length c), (8, .int .i64 r2.2), (51, .int .i64 (((a[(a.length - 1)]?.getD TubeNode.zero).Node).Time)), (56, .int .i64 (((a[0]?.getD TubeNode.zero).Node).Time))] (fun w hM => run_load_one (off := 0) (i := 0) (.int .i64 (((a[0]?.getD TubeNode.zero).Node).Time)) (h_a.sat hM) (map_at (getD_at _ _ TubeNode.zero (by have q0_ := (bne_f h2); have q1_ := (bne_f h3); have q2_ := (bne_f h4); (try have ka_ := times_in (tube_ok2 hr4 h3)); (try have kb_ := times_in (tube_ok2 hr5 h4)); (try have kp_ := (pair_bound hr2).1); (try have kx_ := (pair_bound hr2).2 x (List.mem_of_getElem? hx)); first | omega | (simp only [List.length_drop]; omega) | (simp only [w64_eq]; omega) | exact (tm_in (by (first | (rw [w64_id (by omega)]; omega) | (simp only [w64_eq]; omega))) (by omega)).1 | exact (tm_in (by (first | (rw [w64_id (by omega)]; omega) | (simp only [w64_eq]; omega))) (by omega)).2.1 | exact (tm_in (by (first | (rw [w64_id (by omega)]; omega) | (simp only [w64_eq]; omega))) (by omega)).2.2 | (simp only [List.length_take] at *; omega) | (simp <;> omega)))) (by kernel_rfl) (by kernel_rfl)) rfl (by kernel_rfl) (by kernel_rfl) ?_
          refine TQ.run 15 [] [(0, .slice A_a a.length c_a), (1, .slice A_b_ b_.length c_b_), (5, .pointer (some ⟨b1, 0, none⟩)), (7, .slice A r2.1.length c), (8, .int .i64 r2.2), (58, .bool (decide ((w64 ((((a[(a.length - 1)]?.getD TubeNode.zero).Node).Time) - (((a[0]?.getD TubeNode.zero).Node).Time))) > 4000)))] rfl ⟨by kernel_rfl, by kernel_rfl⟩ ?_
          refine TQ.next rfl ?_
          refine TC.cond (decide ((w64 ((((a[(a.length - 1)]?.getD TubeNode.zero).Node).Time) - (((a[0]?.getD TubeNode.zero).Node).Time))) > 4000)) rfl (by kernel_rfl) (fun h5 => ?_) (fun h5 => ?_)
          · refine TC.seq ?_
            refine TC.region ?_
            refine TL.run 1 [] [(6, .bool true)] rfl ⟨by kernel_rfl, by kernel_rfl⟩ ?_
            refine TL.next rfl ?_
            refine TC.ret ?_
            refine TE.ret_then ?_
            have e : skywaylaw1_ProbePairs a b_ s = true := by subst hr1 hr2 hr3 hr4 hr5; unfold skywaylaw1_ProbePairs; exact cond_f h1 (cond_f h2 (cond_f h3 (cond_f h4 (cond_t h5 (rfl)))))
            exact TE.ret [] (.bool true) ⟨by kernel_rfl, by kernel_rfl⟩ (by rw [e]; first | done | kernel_rfl)
          · refine TC.skip ?_
            refine TE.next ?_
            refine TC.seq ?_
            refine TC.region ?_
            refine TL.run 1 [] [(0, .slice A_a a.length c_a), (1, .slice A_b_ b_.length c_b_), (5, .pointer (some ⟨b1, 0, none⟩)), (7, .slice A r2.1.length c), (8, .int .i64 r2.2), (9, .slice none 0 0)] rfl ⟨by kernel_rfl, by kernel_rfl⟩ ?_
            refine TL.next rfl ?_
            refine TC.seq ?_
            refine TC.seq ?_
            refine TC.region ?_
            refine TL.run 3 [] [(0, .slice A_a a.length c_a), (1, .slice A_b_ b_.length c_b_), (5, .pointer (some ⟨b1, 0, none⟩)), (7, .slice A r2.1.length c), (8, .int .i64 r2.2), (9, .slice none 0 0), (59, .slice A r2.1.length c), (60, .int .i64 (r2.1.length : Int)), (61, .int .i64 0)] rfl ⟨by kernel_rfl, by kernel_rfl⟩ ?_
            refine TL.next rfl ?_
            refine TC.conv [.inr (Own none 0 3 1 (([] : List Int).map ic)), .inr (Own A c 90 2 (r2.1.map Span.c)), .inl (b1, .cells (Sep.c s) 84 (0, 0))] (fun _ hM => hM.emptyrow none 3 1) ?_
            refine TC.weak [(0, .slice A_a a.length c_a), (1, .slice A_b_ b_.length c_b_), (5, .pointer (some ⟨b1, 0, none⟩)), (7, .slice A r2.1.length c), (8, .int .i64 r2.2), (9, .slice none (([] : List Int).length) 0), (59, .slice A r2.1.length c), (60, .int .i64 (r2.1.length : Int)), (61, .int .i64 0)] (by kernel_rfl) ?_
            obtain ⟨R2, hR⟩ : ∃ R, R = skywaylaw1_ProbePairs_L1 r2 r2.1 0 ([] : List Int) := ⟨_, rfl⟩
            refine TC.cut (S := (List Int) × (Option Addr) × Nat) (fun (seconds_2, A_seconds_2, c_seconds_2) => [(0, .slice A_a a.length c_a), (1, .slice A_b_ b_.length c_b_), (5, .pointer (some ⟨b1, 0, none⟩)), (8, .int .i64 r2.2), (9, .slice A_seconds_2 seconds_2.length c_seconds_2)]) (fun (seconds_2, A_seconds_2, c_seconds_2) => [.inr (Own A_seconds_2 c_seconds_2 3 1 (seconds_2.map ic)), .inl (b1, .cells (Sep.c s) 84 (0, 0))]) (fun (seconds_2, A_seconds_2, c_seconds_2) => R2 = .inl seconds_2 ∧ seconds_2.length ≤ 200001 * r2.1.length) ?_ ?_
            · refine TC.block ?_
              refine TC.loop (X := Nat × (List Int) × (Option Addr) × Nat) (fun (k, seconds, A_seconds, c_seconds) => [(0, .slice A_a a.length c_a), (1, .slice A_b_ b_.length c_b_), (5, .pointer (some ⟨b1, 0, none⟩)), (7, .slice A r2.1.length c), (8, .int .i64 r2.2), (9, .slice A_seconds seconds.length c_seconds), (59, .slice A r2.1.length c), (60, .int .i64 (r2.1.length : Int)), (61, .int .i64 (k : Int))]) (fun (k, seconds, A_seconds, c_seconds) => [.inr (Own A_seconds c_seconds 3 1 (seconds.map ic)), .inr (Own A c 90 2 (r2.1.map Span.c)), .inl (b1, .cells (Sep.c s) 84 (0, 0))]) (fun (k, seconds, A_seconds, c_seconds) => r2.1.length - k) (fun (k, seconds, A_seconds, c_seconds) => k ≤ r2.1.length ∧ R2 = skywaylaw1_ProbePairs_L1 r2 (r2.1.drop k) k seconds ∧ seconds.length ≤ 200001 * k) ?_ (0, ([] : List Int), none, 0) ⟨Nat.zero_le _, hR, (by first | omega | (simp; omega) | simp)⟩
              rintro ⟨k, seconds, A_seconds, c_seconds⟩ ⟨hk, hI, hl_seconds⟩
              refine TC.seq ?_
              refine TC.region ?_
              refine TL.run 1 [] [(0, .slice A_a a.length c_a), (1, .slice A_b_ b_.length c_b_), (5, .pointer (some ⟨b1, 0, none⟩)), (7, .slice A r2.1.length c), (8, .int .i64 r2.2), (9, .slice A_seconds seconds.length c_seconds), (59, .slice A r2.1.length c), (60, .int .i64 (r2.1.length : Int)), (61, .int .i64 (k : Int)), (62, .bool (decide ((k : Int) < (r2.1.length : Int))))] rfl ⟨by kernel_rfl, by kernel_rfl⟩ ?_
              refine TL.next rfl ?_
              refine TC.seq ?_
              refine TC.cond (decide ((k : Int) < (r2.1.length : Int))) rfl (by kernel_rfl) (fun h6 => ?_) (fun h6 => ?_)
              · have hlt : k < r2.1.length := by have := of_decide_eq_true h6; first | omega | (simp at this; omega)
                obtain ⟨x, hx⟩ : ∃ x, r2.1[k]? = some x := ⟨_, List.getElem?_eq_getElem hlt⟩
                have hd := drop_at hx
                refine TC.skip ?_
                refine TE.next ?_
                refine TC.seq ?_
                refine TC.block ?_
                refine TC.seq ?_
                refine TC.region ?_
                refine TL.run 1 [] [(0, .slice A_a a.length c_a), (1, .slice A_b_ b_.length c_b_), (5, .pointer (some ⟨b1, 0, none⟩)), (7, .slice A r2.1.length c), (8, .int .i64 r2.2), (9, .slice A_seconds seconds.length c_seconds), (59, .slice A r2.1.length c), (60, .int .i64 (r2.1.length : Int)), (61, .int .i64 (k : Int)), (63, .int .i64 (k : Int))] rfl ⟨by kernel_rfl, by kernel_rfl⟩ ?_
                refine TL.val (sV (Instr.indexAt 85 (.slice A r2.1.length c) (.int .i64 (k : Int)))) (some 64) (.pointer (some ((A.getD noAddr).add (k * 2)))) [(0, .slice A_a a.length c_a), (1, .slice A_b_ b_.length c_b_), (5, .pointer (some ⟨b1, 0, none⟩)), (7, .slice A r2.1.length c), (8, .int .i64 r2.2), (9, .slice A_seconds seconds.length c_seconds), (59, .slice A r2.1.length c), (60, .int .i64 (r2.1.length : Int)), (61, .int .i64 (k : Int)), (63, .int .i64 (k : Int)), (64, .pointer (some ((A.getD noAddr).add (k * 2))))] (fun w hM => run_index (hM.rd_at 1 rfl) (by simp) (by kernel_rfl) (by have q0_ := (bne_f h2); have q1_ := (bne_f h3); have q2_ := (bne_f h4); have q3_ := (dec_f h5); (try have ka_ := times_in (tube_ok2 hr4 h3)); (try have kb_ := times_in (tube_ok2 hr5 h4)); (try have kp_ := (pair_bound hr2).1); (try have kx_ := (pair_bound hr2).2 x (List.mem_of_getElem? hx)); first | omega | (simp only [List.length_drop]; omega) | (simp only [w64_eq]; omega) | exact (tm_in (by (first | (rw [w64_id (by omega)]; omega) | (simp only [w64_eq]; omega))) (by omega)).1 | exact (tm_in (by (first | (rw [w64_id (by omega)]; omega) | (simp only [w64_eq]; omega))) (by omega)).2.1 | exact (tm_in (by (first | (rw [w64_id (by omega)]; omega) | (simp only [w64_eq]; omega))) (by omega)).2.2 | (simp only [List.length_take] at *; omega) | (simp <;> omega)) (by have q0_ := (bne_f h2); have q1_ := (bne_f h3); have q2_ := (bne_f h4); have q3_ := (dec_f h5); (try have ka_ := times_in (tube_ok2 hr4 h3)); (try have kb_ := times_in (tube_ok2 hr5 h4)); (try have kp_ := (pair_bound hr2).1); (try have kx_ := (pair_bound hr2).2 x (List.mem_of_getElem? hx)); first | omega | (simp only [List.length_drop]; omega) | (simp only [w64_eq]; omega) | exact (tm_in (by (first | (rw [w64_id (by omega)]; omega) | (simp only [w64_eq]; omega))) (by omega)).1 | exact (tm_in (by (first | (rw [w64_id (by omega)]; omega) | (simp only [w64_eq]; omega))) (by omega)).2.1 | exact (tm_in (by (first | (rw [w64_id (by omega)]; omega) | (simp only [w64_eq]; omega))) (by omega)).2.2 | (simp only [List.length_take] at *; omega) | (simp <;> omega))) (by kernel_rfl) (by kernel_rfl) ?_
                refine TL.val (sV (Instr.loadAt 90 (.pointer (some ((A.getD noAddr).add (k * 2)))))) (some 65) (Span.v x) [(0, .slice A_a a.length c_a), (1, .slice A_b_ b_.length c_b_), (5, .pointer (some ⟨b1, 0, none⟩)), (7, .slice A r2.1.length c), (8, .int .i64 r2.2), (9, .slice A_seconds seconds.length c_seconds), (59, .slice A r2.1.length c), (60, .int .i64 (r2.1.length : Int)), (61, .int .i64 (k : Int)), (63, .int .i64 (k : Int)), (65, Span.v x)] (fun w hM => run_load_agg (n := 2) (off := 0) (i := k) (Span.v x) (hM.rd_at 1 rfl) (map_at hx) (by kernel_rfl) (by kernel_rfl) (by kernel_rfl)) (by kernel_rfl) (by kernel_rfl) ?_
                refine TL.write 0 (fun b2 => [(0, .slice A_a a.length c_a), (1, .slice A_b_ b_.length c_b_), (5, .pointer (some ⟨b1, 0, none⟩)), (7, .slice A r2.1.length c), (8, .int .i64 r2.2), (9, .slice A_seconds seconds.length c_seconds), (11, .pointer (some ⟨b2, 0, none⟩)), (59, .slice A r2.1.length c), (60, .int .i64 (r2.1.length : Int)), (61, .int .i64 (k : Int)), (63, .int .i64 (k : Int)), (65, Span.v x)]) (fun b2 => [.inl (b2, .cells (Span.c Span.zero) 90 (0, 0)), .inr (Own A_seconds c_seconds 3 1 (seconds.map ic)), .inr (Own A c 90 2 (r2.1.map Span.c)), .inl (b1, .cells (Sep.c s) 84 (0, 0))]) (fun b2 => ⟨by kernel_rfl, by kernel_rfl⟩) (fun b2 => ?_)
                refine TL.run 5 [] [(0, .slice A_a a.length c_a), (1, .slice A_b_ b_.length c_b_), (5, .pointer (some ⟨b1, 0, none⟩)), (7, .slice A r2.1.length c), (8, .int .i64 r2.2), (9, .slice A_seconds seconds.length c_seconds), (10, .int .i64 (k : Int)), (11, .pointer (some ⟨b2, 0, none⟩)), (59, .slice A r2.1.length c), (60, .int .i64 (r2.1.length : Int)), (61, .int .i64 (k : Int)), (65, Span.v x)] rfl ⟨by kernel_rfl, by kernel_rfl⟩ ?_
                refine TL.write 0 (fun _ => [(0, .slice A_a a.length c_a), (1, .slice A_b_ b_.length c_b_), (5, .pointer (some ⟨b1, 0, none⟩)), (7, .slice A r2.1.length c), (8, .int .i64 r2.2), (9, .slice A_seconds seconds.length c_seconds), (10, .int .i64 (k : Int)), (11, .pointer (some ⟨b2, 0, none⟩)), (59, .slice A r2.1.length c), (60, .int .i64 (r2.1.length : Int)), (61, .int .i64 (k : Int))]) (fun _ => [.inl (b2, .cells (Span.c x) 90 (0, 0)), .inr (Own A_seconds c_seconds 3 1 (seconds.map ic)), .inr (Own A c 90 2 (r2.1.map Span.c)), .inl (b1, .cells (Sep.c s) 84 (0, 0))]) (fun _ => ⟨by kernel_rfl, by kernel_rfl⟩) (fun _ => ?_)
                refine TL.next rfl ?_
                refine TC.seq ?_
                refine TC.seq ?_
                refine TC.draw 20 (by kernel_rfl) (by kernel_rfl) (by kernel_rfl) ?_
                refine TQ.run 6 [0, 0] [(0, .slice A_a a.length c_a), (1, .slice A_b_ b_.length c_b_), (5, .pointer (some ⟨b1, 0, none⟩)), (7, .slice A r2.1.length c), (8, .int .i64 r2.2), (9, .slice A_seconds seconds.length c_seconds), (10, .int .i64 (k : Int)), (11, .pointer (some ⟨b2, 0, none⟩)), (59, .slice A r2.1.length c), (60, .int .i64 (r2.1.length : Int)), (61, .int .i64 (k : Int)), (71, .bool (decide (x.From ≥ x.To)))] rfl ⟨by kernel_rfl, by kernel_rfl⟩ ?_
                refine TQ.split 71 (decide (x.From ≥ x.To)) (by kernel_rfl) (fun h7 => ?_) (fun h7 => ?_)
                · refine TQ.run 20 [] [(0, .slice A_a a.length c_a), (1, .slice A_b_ b_.length c_b_), (5, .pointer (some ⟨b1, 0, none⟩)), (7, .slice A r2.1.length c), (8, .int .i64 r2.2), (9, .slice A_seconds seconds.length c_seconds), (11, .pointer (some ⟨b2, 0, none⟩)), (59, .slice A r2.1.length c), (60, .int .i64 (r2.1.length : Int)), (61, .int .i64 (k : Int)), (85, .bool true)] rfl ⟨by kernel_rfl, by kernel_rfl⟩ ?_
                  refine TQ.next rfl ?_
                  refine TC.condT rfl (by kernel_rfl) ?_
                  refine TC.seq ?_
                  refine TC.region ?_
                  refine TL.run 1 [] [(6, .bool false)] rfl ⟨by kernel_rfl, by kernel_rfl⟩ ?_
                  refine TL.next rfl ?_
                  refine TC.ret ?_
                  refine TE.ret_then (TE.ret_block (TE.ret_then (TE.ret_then (TE.ret_block (TE.ret_then (TE.ret_then ?_))))))
                  have e : skywaylaw1_ProbePairs a b_ s = false := by subst hr1 hr2 hr3 hr4 hr5; unfold skywaylaw1_ProbePairs; exact cond_f h1 (cond_f h2 (cond_f h3 (cond_f h4 (cond_f h5 (elim_r (hR.symm.trans (hI.trans (by rw [hd]; exact cond_t h7 (rfl)))) rfl)))))
                  exact TE.ret [] (.bool false) ⟨by kernel_rfl, by kernel_rfl⟩ (by rw [e]; first | done | kernel_rfl)
                · refine TQ.run 9 [] [(0, .slice A_a a.length c_a), (1, .slice A_b_ b_.length c_b_), (5, .pointer (some ⟨b1, 0, none⟩)), (7, .slice A r2.1.length c), (8, .int .i64 r2.2), (9, .slice A_seconds seconds.length c_seconds), (10, .int .i64 (k : Int)), (11, .pointer (some ⟨b2, 0, none⟩)), (59, .slice A r2.1.length c), (60, .int .i64 (r2.1.length : Int)), (61, .int .i64 (k : Int)), (71, .bool false), (74, .bool (decide ((k : Int) > 0)))] rfl ⟨by kernel_rfl, by kernel_rfl⟩ ?_
                  refine TQ.split 74 (decide ((k : Int) > 0)) (by kernel_rfl) (fun h8 => ?_) (fun h8 => ?_)
                  · refine TQ.run 14 [0] [(0, .slice A_a a.length c_a), (1, .slice A_b_ b_.length c_b_), (5, .pointer (some ⟨b1, 0, none⟩)), (7, .slice A r2.1.length c), (8, .int .i64 r2.2), (9, .slice A_seconds seconds.length c_seconds), (11, .pointer (some ⟨b2, 0, none⟩)), (59, .slice A r2.1.length c), (60, .int .i64 (r2.1.length : Int)), (61, .int .i64 (k : Int)), (71, .bool false), (74, .bool true), (76, .int .i64 x.From), (77, .slice A r2.1.length c), (79, .int .i64 (w64 ((k : Int) - 1)))] rfl ⟨by kernel_rfl, by kernel_rfl⟩ ?_
                    refine TQ.rw 79 (.int .i64 (w64 ((k : Int) - 1))) (.int .i64 ((k - 1 : Nat) : Int)) (by kernel_rfl) (w64_pred k (by have q0_ := (bne_f h2); have q1_ := (bne_f h3); have q2_ := (bne_f h4); have q3_ := (dec_f h5); have q4_ := (dec_f h7); have q5_ := (dec_t h8); (try have ka_ := times_in (tube_ok2 hr4 h3)); (try have kb_ := times_in (tube_ok2 hr5 h4)); (try have kp_ := (pair_bound hr2).1); (try have kx_ := (pair_bound hr2).2 x (List.mem_of_getElem? hx)); first | omega | (simp only [List.length_drop]; omega) | (simp only [w64_eq]; omega) | exact (tm_in (by (first | (rw [w64_id (by omega)]; omega) | (simp only [w64_eq]; omega))) (by omega)).1 | exact (tm_in (by (first | (rw [w64_id (by omega)]; omega) | (simp only [w64_eq]; omega))) (by omega)).2.1 | exact (tm_in (by (first | (rw [w64_id (by omega)]; omega) | (simp only [w64_eq]; omega))) (by omega)).2.2 | (simp only [List.length_take] at *; omega) | (simp <;> omega))) ?_
                    refine TQ.val (sV (Instr.indexAt 85 (.slice A r2.1.length c) (.int .i64 ((k - 1 : Nat) : Int)))) (some 80) (.pointer (some ((A.getD noAddr).add ((k - 1) * 2)))) [(0, .slice A_a a.length c_a), (1, .slice A_b_ b_.length c_b_), (5, .pointer (some ⟨b1, 0, none⟩)), (7, .slice A r2.1.length c), (8, .int .i64 r2.2), (9, .slice A_seconds seconds.length c_seconds), (11, .pointer (some ⟨b2, 0, none⟩)), (59, .slice A r2.1.length c), (60, .int .i64 (r2.1.length : Int)), (61, .int .i64 (k : Int)), (71, .bool false), (74, .bool true), (76, .int .i64 x.From), (80, .pointer (some ((A.getD noAddr).add ((k - 1) * 2))))] (fun w hM => run_index (hM.rd_at 2 rfl) (by simp) (by kernel_rfl) (by have q0_ := (bne_f h2); have q1_ := (bne_f h3); have q2_ := (bne_f h4); have q3_ := (dec_f h5); have q4_ := (dec_f h7); have q5_ := (dec_t h8); (try have ka_ := times_in (tube_ok2 hr4 h3)); (try have kb_ := times_in (tube_ok2 hr5 h4)); (try have kp_ := (pair_bound hr2).1); (try have kx_ := (pair_bound hr2).2 x (List.mem_of_getElem? hx)); first | omega | (simp only [List.length_drop]; omega) | (simp only [w64_eq]; omega) | exact (tm_in (by (first | (rw [w64_id (by omega)]; omega) | (simp only [w64_eq]; omega))) (by omega)).1 | exact (tm_in (by (first | (rw [w64_id (by omega)]; omega) | (simp only [w64_eq]; omega))) (by omega)).2.1 | exact (tm_in (by (first | (rw [w64_id (by omega)]; omega) | (simp only [w64_eq]; omega))) (by omega)).2.2 | (simp only [List.length_take] at *; omega) | (simp <;> omega)) (by have q0_ := (bne_f h2); have q1_ := (bne_f h3); have q2_ := (bne_f h4); have q3_ := (dec_f h5); have q4_ := (dec_f h7); have q5_ := (dec_t h8); (try have ka_ := times_in (tube_ok2 hr4 h3)); (try have kb_ := times_in (tube_ok2 hr5 h4)); (try have kp_ := (pair_bound hr2).1); (try have kx_ := (pair_bound hr2).2 x (List.mem_of_getElem? hx)); first | omega | (simp only [List.length_drop]; omega) | (simp only [w64_eq]; omega) | exact (tm_in (by (first | (rw [w64_id (by omega)]; omega) | (simp only [w64_eq]; omega))) (by omega)).1 | exact (tm_in (by (first | (rw [w64_id (by omega)]; omega) | (simp only [w64_eq]; omega))) (by omega)).2.1 | exact (tm_in (by (first | (rw [w64_id (by omega)]; omega) | (simp only [w64_eq]; omega))) (by omega)).2.2 | (simp only [List.length_take] at *; omega) | (simp <;> omega))) rfl (by kernel_rfl) (by kernel_rfl) ?_
                    refine TQ.run 16 [] [(0, .slice A_a a.length c_a), (1, .slice A_b_ b_.length c_b_), (5, .pointer (some ⟨b1, 0, none⟩)), (7, .slice A r2.1.length c), (8, .int .i64 r2.2), (9, .slice A_seconds seconds.length c_seconds), (11, .pointer (some ⟨b2, 0, none⟩)), (59, .slice A r2.1.length c), (60, .int .i64 (r2.1.length : Int)), (61, .int .i64 (k : Int)), (71, .bool false), (74, .bool true), (76, .int .i64 x.From), (81, .pointer (some (((A.getD noAddr).add ((k - 1) * 2)).add 1)))] rfl ⟨by kernel_rfl, by kernel_rfl⟩ ?_
                    refine TQ.val (sV (Instr.loadAt 3 (.pointer (some (((A.getD noAddr).add ((k - 1) * 2)).add 1))))) (some 82) (.int .i64 ((r2.1[(k - 1)]?.getD Span.zero).To)) [(0, .slice A_a a.length c_a), (1, .slice A_b_ b_.length c_b_), (5, .pointer (some ⟨b1, 0, none⟩)), (7, .slice A r2.1.length c), (8, .int .i64 r2.2), (9, .slice A_seconds seconds.length c_seconds), (11, .pointer (some ⟨b2, 0, none⟩)), (59, .slice A r2.1.length c), (60, .int .i64 (r2.1.length : Int)), (61, .int .i64 (k : Int)), (71, .bool false), (74, .bool true), (76, .int .i64 x.From), (82, .int .i64 ((r2.1[(k - 1)]?.getD Span.zero).To))] (fun w hM => run_load_one (off := 1) (i := (k - 1)) (.int .i64 ((r2.1[(k - 1)]?.getD Span.zero).To)) (hM.rd_at 2 rfl) (map_at (getD_at _ _ Span.zero (by have q0_ := (bne_f h2); have q1_ := (bne_f h3); have q2_ := (bne_f h4); have q3_ := (dec_f h5); have q4_ := (dec_f h7); have q5_ := (dec_t h8); (try have ka_ := times_in (tube_ok2 hr4 h3)); (try have kb_ := times_in (tube_ok2 hr5 h4)); (try have kp_ := (pair_bound hr2).1); (try have kx_ := (pair_bound hr2).2 x (List.mem_of_getElem? hx)); first | omega | (simp only [List.length_drop]; omega) | (simp only [w64_eq]; omega) | exact (tm_in (by (first | (rw [w64_id (by omega)]; omega) | (simp only [w64_eq]; omega))) (by omega)).1 | exact (tm_in (by (first | (rw [w64_id (by omega)]; omega) | (simp only [w64_eq]; omega))) (by omega)).2.1 | exact (tm_in (by (first | (rw [w64_id (by omega)]; omega) | (simp only [w64_eq]; omega))) (by omega)).2.2 | (simp only [List.length_take] at *; omega) | (simp <;> omega)))) (by kernel_rfl) (by kernel_rfl)) rfl (by kernel_rfl) (by kernel_rfl) ?_
                    refine TQ.run 20 [] [(0, .slice A_a a.length c_a), (1, .slice A_b_ b_.length c_b_), (5, .pointer (some ⟨b1, 0, none⟩)), (7, .slice A r2.1.length c), (8, .int .i64 r2.2), (9, .slice A_seconds seconds.length c_seconds), (11, .pointer (some ⟨b2, 0, none⟩)), (59, .slice A r2.1.length c), (60, .int .i64 (r2.1.length : Int)), (61, .int .i64 (k : Int)), (85, .bool (decide (x.From ≤ ((r2.1[(k - 1)]?.getD Span.zero).To))))] rfl ⟨by kernel_rfl, by kernel_rfl⟩ ?_
                    refine TQ.next rfl ?_
                    refine TC.cond (decide (x.From ≤ ((r2.1[(k - 1)]?.getD Span.zero).To))) rfl (by kernel_rfl) (fun h9 => ?_) (fun h9 => ?_)
                    · refine TC.seq ?_
                      refine TC.region ?_
                      refine TL.run 1 [] [(6, .bool false)] rfl ⟨by kernel_rfl, by kernel_rfl⟩ ?_
                      refine TL.next rfl ?_
                      refine TC.ret ?_
                      refine TE.ret_then (TE.ret_block (TE.ret_then (TE.ret_then (TE.ret_block (TE.ret_then (TE.ret_then ?_))))))
                      have e : skywaylaw1_ProbePairs a b_ s = false := by subst hr1 hr2 hr3 hr4 hr5; unfold skywaylaw1_ProbePairs; exact cond_f h1 (cond_f h2 (cond_f h3 (cond_f h4 (cond_f h5 (elim_r (hR.symm.trans (hI.trans (by rw [hd]; exact cond_f h7 (cond_t h8 (cond_t h9 (rfl)))))) rfl)))))
                      exact TE.ret [] (.bool false) ⟨by kernel_rfl, by kernel_rfl⟩ (by rw [e]; first | done | kernel_rfl)
                    · refine TC.skip ?_
                      refine TE.next ?_
                      refine TC.seq ?_
                      refine TC.region ?_
                      refine TL.run 3 [0] [(0, .slice A_a a.length c_a), (1, .slice A_b_ b_.length c_b_), (5, .pointer (some ⟨b1, 0, none⟩)), (7, .slice A r2.1.length c), (8, .int .i64 r2.2), (9, .slice A_seconds seconds.length c_seconds), (11, .pointer (some ⟨b2, 0, none⟩)), (12, .int .i64 x.From), (59, .slice A r2.1.length c), (60, .int .i64 (r2.1.length : Int)), (61, .int .i64 (k : Int))] rfl ⟨by kernel_rfl, by kernel_rfl⟩ ?_
                      refine TL.next rfl ?_
                      refine TC.weak [(0, .slice A_a a.length c_a), (1, .slice A_b_ b_.length c_b_), (5, .pointer (some ⟨b1, 0, none⟩)), (7, .slice A r2.1.length c), (8, .int .i64 r2.2), (9, .slice A_seconds seconds.length c_seconds), (11, .pointer (some ⟨b2, 0, none⟩)), (12, .int .i64 x.From), (59, .slice A r2.1.length c), (60, .int .i64 (r2.1.length : Int)), (61, .int .i64 (k : Int))] (by kernel_rfl) ?_
                      obtain ⟨R3, hR_2⟩ : ∃ R, R = skywaylaw1_ProbePairs_L2 x ((x.To - x.From).toNat) 0 seconds := ⟨_, rfl⟩
                      refine TC.cut (S := (List Int) × (Option Addr) × Nat) (fun (seconds_4, A_seconds_4, c_seconds_4) => [(0, .slice A_a a.length c_a), (1, .slice A_b_ b_.length c_b_), (5, .pointer (some ⟨b1, 0, none⟩)), (7, .slice A r2.1.length c), (8, .int .i64 r2.2), (9, .slice A_seconds_4 seconds_4.length c_seconds_4), (59, .slice A r2.1.length c), (60, .int .i64 (r2.1.length : Int)), (61, .int .i64 (k : Int))]) (fun (seconds_4, A_seconds_4, c_seconds_4) => [.inr (Own A_seconds_4 c_seconds_4 3 1 (seconds_4.map ic)), .inr (Own A c 90 2 (r2.1.map Span.c)), .inl (b1, .cells (Sep.c s) 84 (0, 0))]) (fun (seconds_4, A_seconds_4, c_seconds_4) => R3 = seconds_4 ∧ seconds_4.length ≤ seconds.length + ((x.To - x.From).toNat)) ?_ ?_
                      · refine TC.block ?_
                        refine TC.rw 12 (.int .i64 x.From) (.int .i64 (x.From + ((0 : Nat) : Int))) (by kernel_rfl) (int_eq (by have q0_ := (bne_f h2); have q1_ := (bne_f h3); have q2_ := (bne_f h4); have q3_ := (dec_f h5); have q4_ := (dec_f h7); have q5_ := (dec_t h8); have q6_ := (dec_f h9); (try have ka_ := times_in (tube_ok2 hr4 h3)); (try have kb_ := times_in (tube_ok2 hr5 h4)); (try have kp_ := (pair_bound hr2).1); (try have kx_ := (pair_bound hr2).2 x (List.mem_of_getElem? hx)); first | omega | (rw [w64_id (by omega)]; omega) | (simp only [w64_eq]; omega))) ?_
                        refine TC.weak [(0, .slice A_a a.length c_a), (1, .slice A_b_ b_.length c_b_), (5, .pointer (some ⟨b1, 0, none⟩)), (7, .slice A r2.1.length c), (8, .int .i64 r2.2), (9, .slice A_seconds seconds.length c_seconds), (11, .pointer (some ⟨b2, 0, none⟩)), (12, .int .i64 (x.From + ((0 : Nat) : Int))), (59, .slice A r2.1.length c), (60, .int .i64 (r2.1.length : Int)), (61, .int .i64 (k : Int))] (by kernel_rfl) ?_
                        refine TC.loop (X := Nat × (List Int) × (Option Addr) × Nat) (fun (k_2, seconds_3, A_seconds_3, c_seconds_3) => [(0, .slice A_a a.length c_a), (1, .slice A_b_ b_.length c_b_), (5, .pointer (some ⟨b1, 0, none⟩)), (7, .slice A r2.1.length c), (8, .int .i64 r2.2), (9, .slice A_seconds_3 seconds_3.length c_seconds_3), (11, .pointer (some ⟨b2, 0, none⟩)), (12, .int .i64 (x.From + (k_2 : Int))), (59, .slice A r2.1.length c), (60, .int .i64 (r2.1.length : Int)), (61, .int .i64 (k : Int))]) (fun (k_2, seconds_3, A_seconds_3, c_seconds_3) => [.inl (b2, .cells (Span.c x) 90 (0, 0)), .inr (Own A_seconds_3 c_seconds_3 3 1 (seconds_3.map ic)), .inr (Own A c 90 2 (r2.1.map Span.c)), .inl (b1, .cells (Sep.c s) 84 (0, 0))]) (fun (k_2, seconds_3, A_seconds_3, c_seconds_3) => ((x.To - x.From).toNat) - k_2) (fun (k_2, seconds_3, A_seconds_3, c_seconds_3) => k_2 ≤ ((x.To - x.From).toNat) ∧ R3 = skywaylaw1_ProbePairs_L2 x (((x.To - x.From).toNat) - k_2) k_2 seconds_3 ∧ seconds_3.length ≤ seconds.length + k_2) ?_ (0, seconds, A_seconds, c_seconds) ⟨Nat.zero_le _, hR_2, (by first | omega | (simp; omega) | simp)⟩
                        rintro ⟨k_2, seconds_3, A_seconds_3, c_seconds_3⟩ ⟨hk_2, hI_2, hl_seconds_3⟩
                        refine TC.seq ?_
                        refine TC.seq ?_
                        refine TC.region ?_
                        refine TL.run 4 [0] [(0, .slice A_a a.length c_a), (1, .slice A_b_ b_.length c_b_), (5, .pointer (some ⟨b1, 0, none⟩)), (7, .slice A r2.1.length c), (8, .int .i64 r2.2), (9, .slice A_seconds_3 seconds_3.length c_seconds_3), (11, .pointer (some ⟨b2, 0, none⟩)), (12, .int .i64 (x.From + (k_2 : Int))), (59, .slice A r2.1.length c), (60, .int .i64 (r2.1.length : Int)), (61, .int .i64 (k : Int)), (91, .bool (decide ((x.From + (k_2 : Int)) < x.To)))] rfl ⟨by kernel_rfl, by kernel_rfl⟩ ?_
                        refine TL.next rfl ?_
                        refine TC.cond (decide ((x.From + (k_2 : Int)) < x.To)) rfl (by kernel_rfl) (fun h10 => ?_) (fun h10 => ?_)
                        · have hlt_2 : k_2 < ((x.To - x.From).toNat) := by have q0_ := (bne_f h2); have q1_ := (bne_f h3); have q2_ := (bne_f h4); have q3_ := (dec_f h5); have q4_ := (dec_f h7); have q5_ := (dec_t h8); have q6_ := (dec_f h9); (try have ka_ := times_in (tube_ok2 hr4 h3)); (try have kb_ := times_in (tube_ok2 hr5 h4)); (try have kp_ := (pair_bound hr2).1); (try have kx_ := (pair_bound hr2).2 x (List.mem_of_getElem? hx)); have p0_ := (dec_t h10); first | omega | (simp only [w64_eq] at *; omega)
                          have hd_2 : ((x.To - x.From).toNat) - k_2 = (((x.To - x.From).toNat) - (k_2 + 1)) + 1 := by omega
                          refine TC.skip ?_
                          refine TE.next ?_
                          refine TC.seq ?_
                          refine TC.block ?_
                          refine TC.region ?_
                          refine TL.run 2 [] [(0, .slice A_a a.length c_a), (1, .slice A_b_ b_.length c_b_), (5, .pointer (some ⟨b1, 0, none⟩)), (7, .slice A r2.1.length c), (8, .int .i64 r2.2), (11, .pointer (some ⟨b2, 0, none⟩)), (12, .int .i64 (x.From + (k_2 : Int))), (59, .slice A r2.1.length c), (60, .int .i64 (r2.1.length : Int)), (61, .int .i64 (k : Int)), (94, .slice A_seconds_3 seconds_3.length c_seconds_3), (95, .int .i64 (x.From + (k_2 : Int)))] rfl ⟨by kernel_rfl, by kernel_rfl⟩ ?_
                          refine TL.write 0 (fun b3 => [(0, .slice A_a a.length c_a), (1, .slice A_b_ b_.length c_b_), (5, .pointer (some ⟨b1, 0, none⟩)), (7, .slice A r2.1.length c), (8, .int .i64 r2.2), (11, .pointer (some ⟨b2, 0, none⟩)), (12, .int .i64 (x.From + (k_2 : Int))), (59, .slice A r2.1.length c), (60, .int .i64 (r2.1.length : Int)), (61, .int .i64 (k : Int)), (94, .slice A_seconds_3 seconds_3.length c_seconds_3), (96, .slice (some ⟨b3, 0, none⟩) 1 1)]) (fun b3 => [.inl (b3, .cells #[.int .i64 (x.From + (k_2 : Int))] 3 (0, 0)), .inl (b2, .cells (Span.c x) 90 (0, 0)), .inr (Own A_seconds_3 c_seconds_3 3 1 (seconds_3.map ic)), .inr (Own A c 90 2 (r2.1.map Span.c)), .inl (b1, .cells (Sep.c s) 84 (0, 0))]) (fun b3 => ⟨by kernel_rfl, by kernel_rfl⟩) (fun b3 => ?_)
                          refine TL.opM (Γ := Option Addr × Nat) (sV (Builtin.append_ #[34, 34] 34 #[.slice A_seconds_3 seconds_3.length c_seconds_3, .slice (some ⟨b3, 0, none⟩) 1 1])) (some 97) (fun g => .slice g.1 (seconds_3 ++ ([(x.From + (k_2 : Int))])).length g.2) (fun g => [.inl (b3, .cells #[.int .i64 (x.From + (k_2 : Int))] 3 (0, 0)), .inl (b2, .cells (Span.c x) 90 (0, 0)), .inr (Own g.1 g.2 3 1 ((seconds_3 ++ ([(x.From + (k_2 : Int))])).map ic)), .inr (Own A c 90 2 (r2.1.map Span.c)), .inl (b1, .cells (Sep.c s) 84 (0, 0))]) (fun g => [(0, .slice A_a a.length c_a), (1, .slice A_b_ b_.length c_b_), (5, .pointer (some ⟨b1, 0, none⟩)), (7, .slice A r2.1.length c), (8, .int .i64 r2.2), (11, .pointer (some ⟨b2, 0, none⟩)), (12, .int .i64 (x.From + (k_2 : Int))), (59, .slice A r2.1.length c), (60, .int .i64 (r2.1.length : Int)), (61, .int .i64 (k : Int)), (97, .slice g.1 ((seconds_3 ++ ([(x.From + (k_2 : Int))])).length) g.2)]) (app_at (bytes := 8) 34 2 ([(x.From + (k_2 : Int))]) (by kernel_rfl) rfl rfl ic_one rfl (fun w hM => (Rd.lit hM 0 _ rfl (by kernel_rfl) (by kernel_rfl) (by kernel_rfl))) rfl (by have q0_ := (bne_f h2); have q1_ := (bne_f h3); have q2_ := (bne_f h4); have q3_ := (dec_f h5); have q4_ := (dec_f h7); have q5_ := (dec_t h8); have q6_ := (dec_f h9); have q7_ := (dec_t h10); (try have ka_ := times_in (tube_ok2 hr4 h3)); (try have kb_ := times_in (tube_ok2 hr5 h4)); (try have kp_ := (pair_bound hr2).1); (try have kx_ := (pair_bound hr2).2 x (List.mem_of_getElem? hx)); first | omega | (simp <;> omega) | (simp at * <;> omega))) (by kernel_rfl) (fun g => by kernel_rfl) ?_
                          rintro ⟨A_2, c_2⟩
                          refine TL.run 5 [] [(0, .slice A_a a.length c_a), (1, .slice A_b_ b_.length c_b_), (5, .pointer (some ⟨b1, 0, none⟩)), (7, .slice A r2.1.length c), (8, .int .i64 r2.2), (9, .slice A_2 ((seconds_3 ++ ([(x.From + (k_2 : Int))])).length) c_2), (11, .pointer (some ⟨b2, 0, none⟩)), (12, .int .i64 (x.From + (k_2 : Int))), (59, .slice A r2.1.length c), (60, .int .i64 (r2.1.length : Int)), (61, .int .i64 (k : Int))] rfl ⟨by kernel_rfl, by kernel_rfl⟩ ?_
                          refine TL.done rfl ?_
                          refine TE.normal_block ?_
                          refine TE.next ?_
                          refine TC.region ?_
                          refine TL.run 3 [] [(0, .slice A_a a.length c_a), (1, .slice A_b_ b_.length c_b_), (5, .pointer (some ⟨b1, 0, none⟩)), (7, .slice A r2.1.length c), (8, .int .i64 r2.2), (9, .slice A_2 ((seconds_3 ++ ([(x.From + (k_2 : Int))])).length) c_2), (11, .pointer (some ⟨b2, 0, none⟩)), (12, .int .i64 (w64 ((x.From + (k_2 : Int)) + 1))), (59, .slice A r2.1.length c), (60, .int .i64 (r2.1.length : Int)), (61, .int .i64 (k : Int))] rfl ⟨by kernel_rfl, by kernel_rfl⟩ ?_
                          refine TL.done rfl ?_
                          refine TE.rw 12 (.int .i64 (w64 ((x.From + (k_2 : Int)) + 1))) (.int .i64 (x.From + ((k_2 + 1 : Nat) : Int))) (by kernel_rfl) (int_eq (by have q0_ := (bne_f h2); have q1_ := (bne_f h3); have q2_ := (bne_f h4); have q3_ := (dec_f h5); have q4_ := (dec_f h7); have q5_ := (dec_t h8); have q6_ := (dec_f h9); have q7_ := (dec_t h10); (try have ka_ := times_in (tube_ok2 hr4 h3)); (try have kb_ := times_in (tube_ok2 hr5 h4)); (try have kp_ := (pair_bound hr2).1); (try have kx_ := (pair_bound hr2).2 x (List.mem_of_getElem? hx)); first | omega | (rw [w64_id (by omega)]; omega) | (simp only [w64_eq] at *; omega))) ?_
                          exact TE.again (x := (k_2, seconds_3, A_seconds_3, c_seconds_3)) (k_2 + 1, (seconds_3 ++ ([(x.From + (k_2 : Int))])), A_2, c_2) ⟨by omega, hI_2.trans (by subst hr1 hr2 hr3 hr4 hr5; rw [hd_2]; exact rfl), (by have q0_ := (bne_f h2); have q1_ := (bne_f h3); have q2_ := (bne_f h4); have q3_ := (dec_f h5); have q4_ := (dec_f h7); have q5_ := (dec_t h8); have q6_ := (dec_f h9); have q7_ := (dec_t h10); (try have ka_ := times_in (tube_ok2 hr4 h3)); (try have kb_ := times_in (tube_ok2 hr5 h4)); (try have kp_ := (pair_bound hr2).1); (try have kx_ := (pair_bound hr2).2 x (List.mem_of_getElem? hx)); first | omega | (simp <;> omega) | (simp at * <;> omega) | (simp only [w64_eq] at *; omega) | (simp only [List.length_append, List.length_cons, List.length_nil]; omega))⟩ (by show ((x.To - x.From).toNat) - (k_2 + 1) < ((x.To - x.From).toNat) - k_2; omega) (by kernel_rfl) (.cons _ (.cons_cons _ (.cons_cons _ (.cons_cons _ (.cons_cons _ (.slnil))))))
                        · have hd_2 : ((x.To - x.From).toNat) - k_2 = 0 := by have q0_ := (bne_f h2); have q1_ := (bne_f h3); have q2_ := (bne_f h4); have q3_ := (dec_f h5); have q4_ := (dec_f h7); have q5_ := (dec_t h8); have q6_ := (dec_f h9); (try have ka_ := times_in (tube_ok2 hr4 h3)); (try have kb_ := times_in (tube_ok2 hr5 h4)); (try have kp_ := (pair_bound hr2).1); (try have kx_ := (pair_bound hr2).2 x (List.mem_of_getElem? hx)); have p0_ := (dec_f h10); first | omega | (simp only [w64_eq] at *; omega)
                          refine TC.exit ?_
                          refine TE.exit_then (TE.exit_then (TE.exit_same ?_))
                          exact TE.cut (seconds_3, A_seconds_3, c_seconds_3) (⟨hI_2.trans (by subst hr1 hr2 hr3 hr4 hr5; rw [hd_2]; exact rfl), (by have q0_ := (bne_f h2); have q1_ := (bne_f h3); have q2_ := (bne_f h4); have q3_ := (dec_f h5); have q4_ := (dec_f h7); have q5_ := (dec_t h8); have q6_ := (dec_f h9); (try have ka_ := times_in (tube_ok2 hr4 h3)); (try have kb_ := times_in (tube_ok2 hr5 h4)); (try have kp_ := (pair_bound hr2).1); (try have kx_ := (pair_bound hr2).2 x (List.mem_of_getElem? hx)); first | omega | (simp <;> omega) | (simp at * <;> omega) | (simp only [w64_eq] at *; omega) | (simp only [List.length_append, List.length_cons, List.length_nil]; omega))⟩) (by kernel_rfl) (.cons _ (.cons_cons _ (.cons_cons _ (.cons_cons _ (.slnil)))))
                      · rintro ⟨seconds_4, A_seconds_4, c_seconds_4⟩ ⟨hJ_2, hl_seconds_4⟩
                        refine TE.normal_block ?_
                        refine TE.next ?_
                        refine TC.region ?_
                        refine TL.run 2 [] [(0, .slice A_a a.length c_a), (1, .slice A_b_ b_.length c_b_), (5, .pointer (some ⟨b1, 0, none⟩)), (7, .slice A r2.1.length c), (8, .int .i64 r2.2), (9, .slice A_seconds_4 seconds_4.length c_seconds_4), (59, .slice A r2.1.length c), (60, .int .i64 (r2.1.length : Int)), (61, .int .i64 (w64 ((k : Int) + 1)))] rfl ⟨by kernel_rfl, by kernel_rfl⟩ ?_
                        refine TL.done rfl ?_
                        refine TE.rw 61 (.int .i64 (w64 ((k : Int) + 1))) (.int .i64 ((k + 1 : Nat) : Int)) (by kernel_rfl) (w64_cast k (by (try have ka_ := times_in (tube_ok2 hr4 h3)); (try have kb_ := times_in (tube_ok2 hr5 h4)); (try have kp_ := (pair_bound hr2).1); (try have kx_ := (pair_bound hr2).2 x (List.mem_of_getElem? hx)); omega)) ?_
                        exact TE.again (x := (k, seconds, A_seconds, c_seconds)) (k + 1, seconds_4, A_seconds_4, c_seconds_4) ⟨by omega, hI.trans (by subst hr1 hr2 hr3 hr4 hr5; rw [hd]; exact cond_f h7 (cond_t h8 (cond_f h9 (bindv_eq (hR_2.symm.trans hJ_2) (rfl))))), (by have q0_ := (bne_f h2); have q1_ := (bne_f h3); have q2_ := (bne_f h4); have q3_ := (dec_f h5); have q4_ := (dec_f h7); have q5_ := (dec_t h8); have q6_ := (dec_f h9); (try have ka_ := times_in (tube_ok2 hr4 h3)); (try have kb_ := times_in (tube_ok2 hr5 h4)); (try have kp_ := (pair_bound hr2).1); (try have kx_ := (pair_bound hr2).2 x (List.mem_of_getElem? hx)); first | omega | (simp <;> omega) | (simp at * <;> omega) | (simp only [w64_eq] at *; omega) | (simp only [List.length_append, List.length_cons, List.length_nil]; omega))⟩ (by show r2.1.length - (k + 1) < r2.1.length - k; omega) (by kernel_rfl) (.cons_cons _ (.cons_cons _ (.cons_cons _ (.slnil))))
                  · refine TQ.run 20 [] [(0, .slice A_a a.length c_a), (1, .slice A_b_ b_.length c_b_), (5, .pointer (some ⟨b1, 0, none⟩)), (7, .slice A r2.1.length c), (8, .int .i64 r2.2), (9, .slice A_seconds seconds.length c_seconds), (11, .pointer (some ⟨b2, 0, none⟩)), (59, .slice A r2.1.length c), (60, .int .i64 (r2.1.length : Int)), (61, .int .i64 (k : Int)), (85, .bool false)] rfl ⟨by kernel_rfl, by kernel_rfl⟩ ?_
                    refine TQ.next rfl ?_
                    refine TC.condF rfl (by kernel_rfl) ?_
                    refine TC.skip ?_
                    refine TE.next ?_
                    refine TC.seq ?_
                    refine TC.region ?_
                    refine TL.run 3 [0] [(0, .slice A_a a.length c_a), (1, .slice A_b_ b_.length c_b_), (5, .pointer (some ⟨b1, 0, none⟩)), (7, .slice A r2.1.length c), (8, .int .i64 r2.2), (9, .slice A_seconds seconds.length c_seconds), (11, .pointer (some ⟨b2, 0, none⟩)), (12, .int .i64 x.From), (59, .slice A r2.1.length c), (60, .int .i64 (r2.1.length : Int)), (61, .int .i64 (k : Int))] rfl ⟨by kernel_rfl, by kernel_rfl⟩ ?_
                    refine TL.next rfl ?_
                    refine TC.weak [(0, .slice A_a a.length c_a), (1, .slice A_b_ b_.length c_b_), (5, .pointer (some ⟨b1, 0, none⟩)), (7, .slice A r2.1.length c), (8, .int .i64 r2.2), (9, .slice A_seconds seconds.length c_seconds), (11, .pointer (some ⟨b2, 0, none⟩)), (12, .int .i64 x.From), (59, .slice A r2.1.length c), (60, .int .i64 (r2.1.length : Int)), (61, .int .i64 (k : Int))] (by kernel_rfl) ?_
                    obtain ⟨R4, hR_3⟩ : ∃ R, R = skywaylaw1_ProbePairs_L3 x ((x.To - x.From).toNat) 0 seconds := ⟨_, rfl⟩
                    refine TC.cut (S := (List Int) × (Option Addr) × Nat) (fun (seconds_6, A_seconds_6, c_seconds_6) => [(0, .slice A_a a.length c_a), (1, .slice A_b_ b_.length c_b_), (5, .pointer (some ⟨b1, 0, none⟩)), (7, .slice A r2.1.length c), (8, .int .i64 r2.2), (9, .slice A_seconds_6 seconds_6.length c_seconds_6), (59, .slice A r2.1.length c), (60, .int .i64 (r2.1.length : Int)), (61, .int .i64 (k : Int))]) (fun (seconds_6, A_seconds_6, c_seconds_6) => [.inr (Own A_seconds_6 c_seconds_6 3 1 (seconds_6.map ic)), .inr (Own A c 90 2 (r2.1.map Span.c)), .inl (b1, .cells (Sep.c s) 84 (0, 0))]) (fun (seconds_6, A_seconds_6, c_seconds_6) => R4 = seconds_6 ∧ seconds_6.length ≤ seconds.length + ((x.To - x.From).toNat)) ?_ ?_
                    · refine TC.block ?_
                      refine TC.rw 12 (.int .i64 x.From) (.int .i64 (x.From + ((0 : Nat) : Int))) (by kernel_rfl) (int_eq (by have q0_ := (bne_f h2); have q1_ := (bne_f h3); have q2_ := (bne_f h4); have q3_ := (dec_f h5); have q4_ := (dec_f h7); have q5_ := (dec_f h8); (try have ka_ := times_in (tube_ok2 hr4 h3)); (try have kb_ := times_in (tube_ok2 hr5 h4)); (try have kp_ := (pair_bound hr2).1); (try have kx_ := (pair_bound hr2).2 x (List.mem_of_getElem? hx)); first | omega | (rw [w64_id (by omega)]; omega) | (simp only [w64_eq]; omega))) ?_
                      refine TC.weak [(0, .slice A_a a.length c_a), (1, .slice A_b_ b_.length c_b_), (5, .pointer (some ⟨b1, 0, none⟩)), (7, .slice A r2.1.length c), (8, .int .i64 r2.2), (9, .slice A_seconds seconds.length c_seconds), (11, .pointer (some ⟨b2, 0, none⟩)), (12, .int .i64 (x.From + ((0 : Nat) : Int))), (59, .slice A r2.1.length c), (60, .int .i64 (r2.1.length : Int)), (61, .int .i64 (k : Int))] (by kernel_rfl) ?_
                      refine TC.loop (X := Nat × (List Int) × (Option Addr) × Nat) (fun (k_3, seconds_5, A_seconds_5, c_seconds_5) => [(0, .slice A_a a.length c_a), (1, .slice A_b_ b_.length c_b_), (5, .pointer (some ⟨b1, 0, none⟩)), (7, .slice A r2.1.length c), (8, .int .i64 r2.2), (9, .slice A_seconds_5 seconds_5.length c_seconds_5), (11, .pointer (some ⟨b2, 0, none⟩)), (12, .int .i64 (x.From + (k_3 : Int))), (59, .slice A r2.1.length c), (60, .int .i64 (r2.1.length : Int)), (61, .int .i64 (k : Int))]) (fun (k_3, seconds_5, A_seconds_5, c_seconds_5) => [.inl (b2, .cells (Span.c x) 90 (0, 0)), .inr (Own A_seconds_5 c_seconds_5 3 1 (seconds_5.map ic)), .inr (Own A c 90 2 (r2.1.map Span.c)), .inl (b1, .cells (Sep.c s) 84 (0, 0))]) (fun (k_3, seconds_5, A_seconds_5, c_seconds_5) => ((x.To - x.From).toNat) - k_3) (fun (k_3, seconds_5, A_seconds_5, c_seconds_5) => k_3 ≤ ((x.To - x.From).toNat) ∧ R4 = skywaylaw1_ProbePairs_L3 x (((x.To - x.From).toNat) - k_3) k_3 seconds_5 ∧ seconds_5.length ≤ seconds.length + k_3) ?_ (0, seconds, A_seconds, c_seconds) ⟨Nat.zero_le _, hR_3, (by first | omega | (simp; omega) | simp)⟩
                      rintro ⟨k_3, seconds_5, A_seconds_5, c_seconds_5⟩ ⟨hk_3, hI_3, hl_seconds_5⟩
                      refine TC.seq ?_
                      refine TC.seq ?_
                      refine TC.region ?_
                      refine TL.run 4 [0] [(0, .slice A_a a.length c_a), (1, .slice A_b_ b_.length c_b_), (5, .pointer (some ⟨b1, 0, none⟩)), (7, .slice A r2.1.length c), (8, .int .i64 r2.2), (9, .slice A_seconds_5 seconds_5.length c_seconds_5), (11, .pointer (some ⟨b2, 0, none⟩)), (12, .int .i64 (x.From + (k_3 : Int))), (59, .slice A r2.1.length c), (60, .int .i64 (r2.1.length : Int)), (61, .int .i64 (k : Int)), (91, .bool (decide ((x.From + (k_3 : Int)) < x.To)))] rfl ⟨by kernel_rfl, by kernel_rfl⟩ ?_
                      refine TL.next rfl ?_
                      refine TC.cond (decide ((x.From + (k_3 : Int)) < x.To)) rfl (by kernel_rfl) (fun h11 => ?_) (fun h11 => ?_)
                      · have hlt_3 : k_3 < ((x.To - x.From).toNat) := by have q0_ := (bne_f h2); have q1_ := (bne_f h3); have q2_ := (bne_f h4); have q3_ := (dec_f h5); have q4_ := (dec_f h7); have q5_ := (dec_f h8); (try have ka_ := times_in (tube_ok2 hr4 h3)); (try have kb_ := times_in (tube_ok2 hr5 h4)); (try have kp_ := (pair_bound hr2).1); (try have kx_ := (pair_bound hr2).2 x (List.mem_of_getElem? hx)); have p0_ := (dec_t h11); first | omega | (simp only [w64_eq] at *; omega)
                        have hd_3 : ((x.To - x.From).toNat) - k_3 = (((x.To - x.From).toNat) - (k_3 + 1)) + 1 := by omega
                        refine TC.skip ?_
                        refine TE.next ?_
                        refine TC.seq ?_
                        refine TC.block ?_
                        refine TC.region ?_
                        refine TL.run 2 [] [(0, .slice A_a a.length c_a), (1, .slice A_b_ b_.length c_b_), (5, .pointer (some ⟨b1, 0, none⟩)), (7, .slice A r2.1.length c), (8, .int .i64 r2.2), (11, .pointer (some ⟨b2, 0, none⟩)), (12, .int .i64 (x.From + (k_3 : Int))), (59, .slice A r2.1.length c), (60, .int .i64 (r2.1.length : Int)), (61, .int .i64 (k : Int)), (94, .slice A_seconds_5 seconds_5.length c_seconds_5), (95, .int .i64 (x.From + (k_3 : Int)))] rfl ⟨by kernel_rfl, by kernel_rfl⟩ ?_
                        refine TL.write 0 (fun b4 => [(0, .slice A_a a.length c_a), (1, .slice A_b_ b_.length c_b_), (5, .pointer (some ⟨b1, 0, none⟩)), (7, .slice A r2.1.length c), (8, .int .i64 r2.2), (11, .pointer (some ⟨b2, 0, none⟩)), (12, .int .i64 (x.From + (k_3 : Int))), (59, .slice A r2.1.length c), (60, .int .i64 (r2.1.length : Int)), (61, .int .i64 (k : Int)), (94, .slice A_seconds_5 seconds_5.length c_seconds_5), (96, .slice (some ⟨b4, 0, none⟩) 1 1)]) (fun b4 => [.inl (b4, .cells #[.int .i64 (x.From + (k_3 : Int))] 3 (0, 0)), .inl (b2, .cells (Span.c x) 90 (0, 0)), .inr (Own A_seconds_5 c_seconds_5 3 1 (seconds_5.map ic)), .inr (Own A c 90 2 (r2.1.map Span.c)), .inl (b1, .cells (Sep.c s) 84 (0, 0))]) (fun b4 => ⟨by kernel_rfl, by kernel_rfl⟩) (fun b4 => ?_)
                        refine TL.opM (Γ := Option Addr × Nat) (sV (Builtin.append_ #[34, 34] 34 #[.slice A_seconds_5 seconds_5.length c_seconds_5, .slice (some ⟨b4, 0, none⟩) 1 1])) (some 97) (fun g => .slice g.1 (seconds_5 ++ ([(x.From + (k_3 : Int))])).length g.2) (fun g => [.inl (b4, .cells #[.int .i64 (x.From + (k_3 : Int))] 3 (0, 0)), .inl (b2, .cells (Span.c x) 90 (0, 0)), .inr (Own g.1 g.2 3 1 ((seconds_5 ++ ([(x.From + (k_3 : Int))])).map ic)), .inr (Own A c 90 2 (r2.1.map Span.c)), .inl (b1, .cells (Sep.c s) 84 (0, 0))]) (fun g => [(0, .slice A_a a.length c_a), (1, .slice A_b_ b_.length c_b_), (5, .pointer (some ⟨b1, 0, none⟩)), (7, .slice A r2.1.length c), (8, .int .i64 r2.2), (11, .pointer (some ⟨b2, 0, none⟩)), (12, .int .i64 (x.From + (k_3 : Int))), (59, .slice A r2.1.length c), (60, .int .i64 (r2.1.length : Int)), (61, .int .i64 (k : Int)), (97, .slice g.1 ((seconds_5 ++ ([(x.From + (k_3 : Int))])).length) g.2)]) (app_at (bytes := 8) 34 2 ([(x.From + (k_3 : Int))]) (by kernel_rfl) rfl rfl ic_one rfl (fun w hM => (Rd.lit hM 0 _ rfl (by kernel_rfl) (by kernel_rfl) (by kernel_rfl))) rfl (by have q0_ := (bne_f h2); have q1_ := (bne_f h3); have q2_ := (bne_f h4); have q3_ := (dec_f h5); have q4_ := (dec_f h7); have q5_ := (dec_f h8); have q6_ := (dec_t h11); (try have ka_ := times_in (tube_ok2 hr4 h3)); (try have kb_ := times_in (tube_ok2 hr5 h4)); (try have kp_ := (pair_bound hr2).1); (try have kx_ := (pair_bound hr2).2 x (List.mem_of_getElem? hx)); first | omega | (simp <;> omega) | (simp at * <;> omega))) (by kernel_rfl) (fun g => by kernel_rfl) ?_
                        rintro ⟨A_3, c_3⟩
                        refine TL.run 5 [] [(0, .slice A_a a.length c_a), (1, .slice A_b_ b_.length c_b_), (5, .pointer (some ⟨b1, 0, none⟩)), (7, .slice A r2.1.length c), (8, .int .i64 r2.2), (9, .slice A_3 ((seconds_5 ++ ([(x.From + (k_3 : Int))])).length) c_3), (11, .pointer (some ⟨b2, 0, none⟩)), (12, .int .i64 (x.From + (k_3 : Int))), (59, .slice A r2.1.length c), (60, .int .i64 (r2.1.length : Int)), (61, .int .i64 (k : Int))] rfl ⟨by kernel_rfl, by kernel_rfl⟩ ?_
                        refine TL.done rfl ?_
                        refine TE.normal_block ?_
                        refine TE.next ?_
                        refine TC.region ?_
                        refine TL.run 3 [] [(0, .slice A_a a.length c_a), (1, .slice A_b_ b_.length c_b_), (5, .pointer (some ⟨b1, 0, none⟩)), (7, .slice A r2.1.length c), (8, .int .i64 r2.2), (9, .slice A_3 ((seconds_5 ++ ([(x.From + (k_3 : Int))])).length) c_3), (11, .pointer (some ⟨b2, 0, none⟩)), (12, .int .i64 (w64 ((x.From + (k_3 : Int)) + 1))), (59, .slice A r2.1.length c), (60, .int .i64 (r2.1.length : Int)), (61, .int .i64 (k : Int))] rfl ⟨by kernel_rfl, by kernel_rfl⟩ ?_
                        refine TL.done rfl ?_
                        refine TE.rw 12 (.int .i64 (w64 ((x.From + (k_3 : Int)) + 1))) (.int .i64 (x.From + ((k_3 + 1 : Nat) : Int))) (by kernel_rfl) (int_eq (by have q0_ := (bne_f h2); have q1_ := (bne_f h3); have q2_ := (bne_f h4); have q3_ := (dec_f h5); have q4_ := (dec_f h7); have q5_ := (dec_f h8); have q6_ := (dec_t h11); (try have ka_ := times_in (tube_ok2 hr4 h3)); (try have kb_ := times_in (tube_ok2 hr5 h4)); (try have kp_ := (pair_bound hr2).1); (try have kx_ := (pair_bound hr2).2 x (List.mem_of_getElem? hx)); first | omega | (rw [w64_id (by omega)]; omega) | (simp only [w64_eq] at *; omega))) ?_
                        exact TE.again (x := (k_3, seconds_5, A_seconds_5, c_seconds_5)) (k_3 + 1, (seconds_5 ++ ([(x.From + (k_3 : Int))])), A_3, c_3) ⟨by omega, hI_3.trans (by subst hr1 hr2 hr3 hr4 hr5; rw [hd_3]; exact rfl), (by have q0_ := (bne_f h2); have q1_ := (bne_f h3); have q2_ := (bne_f h4); have q3_ := (dec_f h5); have q4_ := (dec_f h7); have q5_ := (dec_f h8); have q6_ := (dec_t h11); (try have ka_ := times_in (tube_ok2 hr4 h3)); (try have kb_ := times_in (tube_ok2 hr5 h4)); (try have kp_ := (pair_bound hr2).1); (try have kx_ := (pair_bound hr2).2 x (List.mem_of_getElem? hx)); first | omega | (simp <;> omega) | (simp at * <;> omega) | (simp only [w64_eq] at *; omega) | (simp only [List.length_append, List.length_cons, List.length_nil]; omega))⟩ (by show ((x.To - x.From).toNat) - (k_3 + 1) < ((x.To - x.From).toNat) - k_3; omega) (by kernel_rfl) (.cons _ (.cons_cons _ (.cons_cons _ (.cons_cons _ (.cons_cons _ (.slnil))))))
                      · have hd_3 : ((x.To - x.From).toNat) - k_3 = 0 := by have q0_ := (bne_f h2); have q1_ := (bne_f h3); have q2_ := (bne_f h4); have q3_ := (dec_f h5); have q4_ := (dec_f h7); have q5_ := (dec_f h8); (try have ka_ := times_in (tube_ok2 hr4 h3)); (try have kb_ := times_in (tube_ok2 hr5 h4)); (try have kp_ := (pair_bound hr2).1); (try have kx_ := (pair_bound hr2).2 x (List.mem_of_getElem? hx)); have p0_ := (dec_f h11); first | omega | (simp only [w64_eq] at *; omega)
                        refine TC.exit ?_
                        refine TE.exit_then (TE.exit_then (TE.exit_same ?_))
                        exact TE.cut (seconds_5, A_seconds_5, c_seconds_5) (⟨hI_3.trans (by subst hr1 hr2 hr3 hr4 hr5; rw [hd_3]; exact rfl), (by have q0_ := (bne_f h2); have q1_ := (bne_f h3); have q2_ := (bne_f h4); have q3_ := (dec_f h5); have q4_ := (dec_f h7); have q5_ := (dec_f h8); (try have ka_ := times_in (tube_ok2 hr4 h3)); (try have kb_ := times_in (tube_ok2 hr5 h4)); (try have kp_ := (pair_bound hr2).1); (try have kx_ := (pair_bound hr2).2 x (List.mem_of_getElem? hx)); first | omega | (simp <;> omega) | (simp at * <;> omega) | (simp only [w64_eq] at *; omega) | (simp only [List.length_append, List.length_cons, List.length_nil]; omega))⟩) (by kernel_rfl) (.cons _ (.cons_cons _ (.cons_cons _ (.cons_cons _ (.slnil)))))
                    · rintro ⟨seconds_6, A_seconds_6, c_seconds_6⟩ ⟨hJ_3, hl_seconds_6⟩
                      refine TE.normal_block ?_
                      refine TE.next ?_
                      refine TC.region ?_
                      refine TL.run 2 [] [(0, .slice A_a a.length c_a), (1, .slice A_b_ b_.length c_b_), (5, .pointer (some ⟨b1, 0, none⟩)), (7, .slice A r2.1.length c), (8, .int .i64 r2.2), (9, .slice A_seconds_6 seconds_6.length c_seconds_6), (59, .slice A r2.1.length c), (60, .int .i64 (r2.1.length : Int)), (61, .int .i64 (w64 ((k : Int) + 1)))] rfl ⟨by kernel_rfl, by kernel_rfl⟩ ?_
                      refine TL.done rfl ?_
                      refine TE.rw 61 (.int .i64 (w64 ((k : Int) + 1))) (.int .i64 ((k + 1 : Nat) : Int)) (by kernel_rfl) (w64_cast k (by (try have ka_ := times_in (tube_ok2 hr4 h3)); (try have kb_ := times_in (tube_ok2 hr5 h4)); (try have kp_ := (pair_bound hr2).1); (try have kx_ := (pair_bound hr2).2 x (List.mem_of_getElem? hx)); omega)) ?_
                      exact TE.again (x := (k, seconds, A_seconds, c_seconds)) (k + 1, seconds_6, A_seconds_6, c_seconds_6) ⟨by omega, hI.trans (by subst hr1 hr2 hr3 hr4 hr5; rw [hd]; exact cond_f h7 (cond_f h8 (bindv_eq (hR_3.symm.trans hJ_3) (rfl)))), (by have q0_ := (bne_f h2); have q1_ := (bne_f h3); have q2_ := (bne_f h4); have q3_ := (dec_f h5); have q4_ := (dec_f h7); have q5_ := (dec_f h8); (try have ka_ := times_in (tube_ok2 hr4 h3)); (try have kb_ := times_in (tube_ok2 hr5 h4)); (try have kp_ := (pair_bound hr2).1); (try have kx_ := (pair_bound hr2).2 x (List.mem_of_getElem? hx)); first | omega | (simp <;> omega) | (simp at * <;> omega) | (simp only [w64_eq] at *; omega) | (simp only [List.length_append, List.length_cons, List.length_nil]; omega))⟩ (by show r2.1.length - (k + 1) < r2.1.length - k; omega) (by kernel_rfl) (.cons_cons _ (.cons_cons _ (.cons_cons _ (.slnil))))
              · have hd : r2.1.drop k = [] := List.drop_eq_nil_of_le (by have := of_decide_eq_false h6; first | omega | (simp at this; omega))
                refine TC.exit ?_
                refine TE.exit_then (TE.exit_then (TE.exit_same ?_))
                exact TE.cut (seconds, A_seconds, c_seconds) (⟨hI.trans (by subst hr1 hr2 hr3 hr4 hr5; rw [hd]; exact rfl), (by have q0_ := (bne_f h2); have q1_ := (bne_f h3); have q2_ := (bne_f h4); have q3_ := (dec_f h5); (try have ka_ := times_in (tube_ok2 hr4 h3)); (try have kb_ := times_in (tube_ok2 hr5 h4)); (try have kp_ := (pair_bound hr2).1); (try have kx_ := (pair_bound hr2).2 x (List.mem_of_getElem? hx)); first | omega | (simp <;> omega) | (simp at * <;> omega) | (simp only [w64_eq] at *; omega) | (simp only [List.length_append, List.length_cons, List.length_nil]; omega))⟩) (by kernel_rfl) (.cons_cons _ (.cons _ (.cons_cons _ (.slnil))))
            · rintro ⟨seconds_2, A_seconds_2, c_seconds_2⟩ ⟨hJ, hl_seconds_2⟩
              refine TE.next ?_
              refine TC.seq ?_
              refine TC.region ?_
              refine TL.run 3 [1] [(8, .int .i64 r2.2), (9, .slice A_seconds_2 seconds_2.length c_seconds_2), (99, .slice A_a a.length c_a), (100, .slice A_b_ b_.length c_b_), (101, Sep.v s)] rfl ⟨by kernel_rfl, by kernel_rfl⟩ ?_
              refine TL.callN (Γ := (Option Addr × Nat)) (fun g => .slice g.1 ((skywayref1_Clashes a b_ s).length) g.2) (fun g => [.inr (Own g.1 g.2 3 1 ((skywayref1_Clashes a b_ s).map ic))]) (fun g => [.inr (Own g.1 g.2 3 1 ((skywayref1_Clashes a b_ s).map ic)), .inr (Own A_seconds_2 c_seconds_2 3 1 (seconds_2.map ic)), .inl (b1, .cells (Sep.c s) 84 (0, 0))]) (fun g => rfl) (some 102) (fun g => [(8, .int .i64 r2.2), (9, .slice A_seconds_2 seconds_2.length c_seconds_2), (102, .slice g.1 ((skywayref1_Clashes a b_ s).length) g.2)]) (fun w hM => skywayref1_Clashes_w A_a c_a a A_b_ c_b_ b_ s w (h_a.sat hM) hc_a (h_b_.sat hM) hc_b_ (tube_ok2 hr4 h3) (tube_ok2 hr5 h4)) (by kernel_rfl) (fun g => by kernel_rfl) ?_
              rintro ⟨A_4, c_4⟩
              generalize hr6 : skywayref1_Clashes a b_ s = r6
              refine TL.know (fun w hM => hM.short_at 0 rfl) (fun s_r6_0 => ?_)
              refine TL.run 5 [] [(8, .int .i64 r2.2), (9, .slice A_seconds_2 seconds_2.length c_seconds_2), (13, .slice A_4 r6.length c_4)] rfl ⟨by kernel_rfl, by kernel_rfl⟩ ?_
              refine TL.next rfl ?_
              refine TC.seq ?_
              refine TC.seq ?_
              refine TC.region ?_
              refine TL.run 3 [] [(9, .slice A_seconds_2 seconds_2.length c_seconds_2), (13, .slice A_4 r6.length c_4), (105, .bool (r2.2 != 0))] rfl ⟨by kernel_rfl, by kernel_rfl⟩ ?_
              refine TL.join 105 (r2.2 != 0) 9 [] [] (fun β => [(9, .slice A_seconds_2 seconds_2.length c_seconds_2), (13, .slice A_4 r6.length c_4), (111, .bool (β || ((seconds_2.length : Int) != (r6.length : Int))))]) (by kernel_rfl) rfl ⟨by kernel_rfl, by kernel_rfl⟩ ⟨by kernel_rfl, by kernel_rfl⟩ ?_
              refine TL.next rfl ?_
              refine TC.cond ((r2.2 != 0) || ((seconds_2.length : Int) != (r6.length : Int))) rfl (by kernel_rfl) (fun h12 => ?_) (fun h12 => ?_)
              · refine TC.seq ?_
                refine TC.region ?_
                refine TL.run 1 [] [(6, .bool false)] rfl ⟨by kernel_rfl, by kernel_rfl⟩ ?_
                refine TL.next rfl ?_
                refine TC.ret ?_
                refine TE.ret_then ?_
                have e : skywaylaw1_ProbePairs a b_ s = false := by subst hr1 hr2 hr3 hr4 hr5 hr6; unfold skywaylaw1_ProbePairs; exact cond_f h1 (cond_f h2 (cond_f h3 (cond_f h4 (cond_f h5 (elim_l (hR.symm.trans hJ) (cond_t h12 (rfl)))))))
                exact TE.ret [] (.bool false) ⟨by kernel_rfl, by kernel_rfl⟩ (by rw [e]; first | done | kernel_rfl)
              · refine TC.skip ?_
                refine TE.next ?_
                refine TC.seq ?_
                refine TC.seq ?_
                refine TC.region ?_
                refine TL.run 3 [] [(9, .slice A_seconds_2 seconds_2.length c_seconds_2), (13, .slice A_4 r6.length c_4), (113, .int .i64 (r6.length : Int)), (114, .int .i64 0)] rfl ⟨by kernel_rfl, by kernel_rfl⟩ ?_
                refine TL.next rfl ?_
                refine TC.weak [(9, .slice A_seconds_2 seconds_2.length c_seconds_2), (13, .slice A_4 r6.length c_4), (113, .int .i64 (r6.length : Int)), (114, .int .i64 0)] (by kernel_rfl) ?_
                refine TC.forget [.inr (Own A_4 c_4 3 1 (r6.map ic)), .inr (Own A_seconds_2 c_seconds_2 3 1 (seconds_2.map ic))] (.cons_cons _ (.cons_cons _ (.cons _ (.slnil)))) ?_
                obtain ⟨R5, hR_4⟩ : ∃ R, R = skywaylaw1_ProbePairs_L4 seconds_2 r6 0 := ⟨_, rfl⟩
                refine TC.cut (S := Unit) (fun (_ : Unit) => []) (fun (_ : Unit) => []) (fun (_ : Unit) => R5 = .inl ()) ?_ ?_
                · refine TC.block ?_
                  refine TC.loop (X := Nat) (fun k_4 => [(9, .slice A_seconds_2 seconds_2.length c_seconds_2), (13, .slice A_4 r6.length c_4), (113, .int .i64 (r6.length : Int)), (114, .int .i64 (k_4 : Int))]) (fun k_4 => [.inr (Own A_4 c_4 3 1 (r6.map ic)), .inr (Own A_seconds_2 c_seconds_2 3 1 (seconds_2.map ic))]) (fun k_4 => r6.length - k_4) (fun k_4 => k_4 ≤ r6.length ∧ R5 = skywaylaw1_ProbePairs_L4 seconds_2 (r6.drop k_4) k_4) ?_ 0 ⟨Nat.zero_le _, hR_4⟩
                  rintro k_4 ⟨hk_4, hI_4⟩
                  refine TC.seq ?_
                  refine TC.region ?_
                  refine TL.run 1 [] [(9, .slice A_seconds_2 seconds_2.length c_seconds_2), (13, .slice A_4 r6.length c_4), (113, .int .i64 (r6.length : Int)), (114, .int .i64 (k_4 : Int)), (115, .bool (decide ((k_4 : Int) < (r6.length : Int))))] rfl ⟨by kernel_rfl, by kernel_rfl⟩ ?_
                  refine TL.next rfl ?_
                  refine TC.seq ?_
                  refine TC.cond (decide ((k_4 : Int) < (r6.length : Int))) rfl (by kernel_rfl) (fun h13 => ?_) (fun h13 => ?_)
                  · have hlt_4 : k_4 < r6.length := by have := of_decide_eq_true h13; first | omega | (simp at this; omega)
                    obtain ⟨x_2, hx_4⟩ : ∃ x, r6[k_4]? = some x := ⟨_, List.getElem?_eq_getElem hlt_4⟩
                    have hd_4 := drop_at hx_4
                    refine TC.skip ?_
                    refine TE.next ?_
                    refine TC.seq ?_
                    refine TC.block ?_
                    refine TC.seq ?_
                    refine TC.region ?_
                    refine TL.run 2 [] [(9, .slice A_seconds_2 seconds_2.length c_seconds_2), (13, .slice A_4 r6.length c_4), (14, .int .i64 (k_4 : Int)), (113, .int .i64 (r6.length : Int)), (114, .int .i64 (k_4 : Int))] rfl ⟨by kernel_rfl, by kernel_rfl⟩ ?_
                    refine TL.next rfl ?_
                    refine TC.seq ?_
                    refine TC.draw 9 (by kernel_rfl) (by kernel_rfl) (by kernel_rfl) ?_
                    refine TQ.run 2 [] [(9, .slice A_seconds_2 seconds_2.length c_seconds_2), (13, .slice A_4 r6.length c_4), (14, .int .i64 (k_4 : Int)), (113, .int .i64 (r6.length : Int)), (114, .int .i64 (k_4 : Int)), (117, .slice A_seconds_2 seconds_2.length c_seconds_2), (118, .int .i64 (k_4 : Int))] rfl ⟨by kernel_rfl, by kernel_rfl⟩ ?_
                    refine TQ.val (sV (Instr.indexAt 34 (.slice A_seconds_2 seconds_2.length c_seconds_2) (.int .i64 (k_4 : Int)))) (some 119) (.pointer (some ((A_seconds_2.getD noAddr).add (k_4 * 1)))) [(9, .slice A_seconds_2 seconds_2.length c_seconds_2), (13, .slice A_4 r6.length c_4), (14, .int .i64 (k_4 : Int)), (113, .int .i64 (r6.length : Int)), (114, .int .i64 (k_4 : Int)), (119, .pointer (some ((A_seconds_2.getD noAddr).add (k_4 * 1))))] (fun w hM => run_index (hM.rd_at 1 rfl) (by simp) (by kernel_rfl) (by have q0_ := (bne_f h2); have q1_ := (bne_f h3); have q2_ := (bne_f h4); have q3_ := (dec_f h5); have q4_ := (bne_f (or_f1 h12)); have q5_ := (bne_f (or_f2 h12)); (try have ka_ := times_in (tube_ok2 hr4 h3)); (try have kb_ := times_in (tube_ok2 hr5 h4)); (try have kp_ := (pair_bound hr2).1); (try have kx_ := (pair_bound hr2).2 x (List.mem_of_getElem? hx)); first | omega | (simp only [List.length_drop]; omega) | (simp only [w64_eq]; omega) | exact (tm_in (by (first | (rw [w64_id (by omega)]; omega) | (simp only [w64_eq]; omega))) (by omega)).1 | exact (tm_in (by (first | (rw [w64_id (by omega)]; omega) | (simp only [w64_eq]; omega))) (by omega)).2.1 | exact (tm_in (by (first | (rw [w64_id (by omega)]; omega) | (simp only [w64_eq]; omega))) (by omega)).2.2 | (simp only [List.length_take] at *; omega) | (simp <;> omega)) (by have q0_ := (bne_f h2); have q1_ := (bne_f h3); have q2_ := (bne_f h4); have q3_ := (dec_f h5); have q4_ := (bne_f (or_f1 h12)); have q5_ := (bne_f (or_f2 h12)); (try have ka_ := times_in (tube_ok2 hr4 h3)); (try have kb_ := times_in (tube_ok2 hr5 h4)); (try have kp_ := (pair_bound hr2).1); (try have kx_ := (pair_bound hr2).2 x (List.mem_of_getElem? hx)); first | omega | (simp only [List.length_drop]; omega) | (simp only [w64_eq]; omega) | exact (tm_in (by (first | (rw [w64_id (by omega)]; omega) | (simp only [w64_eq]; omega))) (by omega)).1 | exact (tm_in (by (first | (rw [w64_id (by omega)]; omega) | (simp only [w64_eq]; omega))) (by omega)).2.1 | exact (tm_in (by (first | (rw [w64_id (by omega)]; omega) | (simp only [w64_eq]; omega))) (by omega)).2.2 | (simp only [List.length_take] at *; omega) | (simp <;> omega))) rfl (by kernel_rfl) (by kernel_rfl) ?_
                    refine TQ.val (sV (Instr.loadAt 3 (.pointer (some ((A_seconds_2.getD noAddr).add (k_4 * 1)))))) (some 120) (.int .i64 (seconds_2[k_4]?.getD 0)) [(9, .slice A_seconds_2 seconds_2.length c_seconds_2), (13, .slice A_4 r6.length c_4), (14, .int .i64 (k_4 : Int)), (113, .int .i64 (r6.length : Int)), (114, .int .i64 (k_4 : Int)), (120, .int .i64 (seconds_2[k_4]?.getD 0))] (fun w hM => run_load_one (off := 0) (i := k_4) (.int .i64 (seconds_2[k_4]?.getD 0)) (hM.rd_at 1 rfl) (map_at (getD_at _ _ 0 (by have q0_ := (bne_f h2); have q1_ := (bne_f h3); have q2_ := (bne_f h4); have q3_ := (dec_f h5); have q4_ := (bne_f (or_f1 h12)); have q5_ := (bne_f (or_f2 h12)); (try have ka_ := times_in (tube_ok2 hr4 h3)); (try have kb_ := times_in (tube_ok2 hr5 h4)); (try have kp_ := (pair_bound hr2).1); (try have kx_ := (pair_bound hr2).2 x (List.mem_of_getElem? hx)); first | omega | (simp only [List.length_drop]; omega) | (simp only [w64_eq]; omega) | exact (tm_in (by (first | (rw [w64_id (by omega)]; omega) | (simp only [w64_eq]; omega))) (by omega)).1 | exact (tm_in (by (first | (rw [w64_id (by omega)]; omega) | (simp only [w64_eq]; omega))) (by omega)).2.1 | exact (tm_in (by (first | (rw [w64_id (by omega)]; omega) | (simp only [w64_eq]; omega))) (by omega)).2.2 | (simp only [List.length_take] at *; omega) | (simp <;> omega)))) (by kernel_rfl) (by kernel_rfl)) rfl (by kernel_rfl) (by kernel_rfl) ?_
                    refine TQ.run 6 [] [(9, .slice A_seconds_2 seconds_2.length c_seconds_2), (13, .slice A_4 r6.length c_4), (113, .int .i64 (r6.length : Int)), (114, .int .i64 (k_4 : Int)), (120, .int .i64 (seconds_2[k_4]?.getD 0)), (121, .slice A_4 r6.length c_4), (122, .int .i64 (k_4 : Int))] rfl ⟨by kernel_rfl, by kernel_rfl⟩ ?_
                    refine TQ.val (sV (Instr.indexAt 34 (.slice A_4 r6.length c_4) (.int .i64 (k_4 : Int)))) (some 123) (.pointer (some ((A_4.getD noAddr).add (k_4 * 1)))) [(9, .slice A_seconds_2 seconds_2.length c_seconds_2), (13, .slice A_4 r6.length c_4), (113, .int .i64 (r6.length : Int)), (114, .int .i64 (k_4 : Int)), (120, .int .i64 (seconds_2[k_4]?.getD 0)), (123, .pointer (some ((A_4.getD noAddr).add (k_4 * 1))))] (fun w hM => run_index (hM.rd_at 0 rfl) (by simp) (by kernel_rfl) (by have q0_ := (bne_f h2); have q1_ := (bne_f h3); have q2_ := (bne_f h4); have q3_ := (dec_f h5); have q4_ := (bne_f (or_f1 h12)); have q5_ := (bne_f (or_f2 h12)); (try have ka_ := times_in (tube_ok2 hr4 h3)); (try have kb_ := times_in (tube_ok2 hr5 h4)); (try have kp_ := (pair_bound hr2).1); (try have kx_ := (pair_bound hr2).2 x (List.mem_of_getElem? hx)); first | omega | (simp only [List.length_drop]; omega) | (simp only [w64_eq]; omega) | exact (tm_in (by (first | (rw [w64_id (by omega)]; omega) | (simp only [w64_eq]; omega))) (by omega)).1 | exact (tm_in (by (first | (rw [w64_id (by omega)]; omega) | (simp only [w64_eq]; omega))) (by omega)).2.1 | exact (tm_in (by (first | (rw [w64_id (by omega)]; omega) | (simp only [w64_eq]; omega))) (by omega)).2.2 | (simp only [List.length_take] at *; omega) | (simp <;> omega)) (by have q0_ := (bne_f h2); have q1_ := (bne_f h3); have q2_ := (bne_f h4); have q3_ := (dec_f h5); have q4_ := (bne_f (or_f1 h12)); have q5_ := (bne_f (or_f2 h12)); (try have ka_ := times_in (tube_ok2 hr4 h3)); (try have kb_ := times_in (tube_ok2 hr5 h4)); (try have kp_ := (pair_bound hr2).1); (try have kx_ := (pair_bound hr2).2 x (List.mem_of_getElem? hx)); first | omega | (simp only [List.length_drop]; omega) | (simp only [w64_eq]; omega) | exact (tm_in (by (first | (rw [w64_id (by omega)]; omega) | (simp only [w64_eq]; omega))) (by omega)).1 | exact (tm_in (by (first | (rw [w64_id (by omega)]; omega) | (simp only [w64_eq]; omega))) (by omega)).2.1 | exact (tm_in (by (first | (rw [w64_id (by omega)]; omega) | (simp only [w64_eq]; omega))) (by omega)).2.2 | (simp only [List.length_take] at *; omega) | (simp <;> omega))) rfl (by kernel_rfl) (by kernel_rfl) ?_
                    refine TQ.val (sV (Instr.loadAt 3 (.pointer (some ((A_4.getD noAddr).add (k_4 * 1)))))) (some 124) (.int .i64 x_2) [(9, .slice A_seconds_2 seconds_2.length c_seconds_2), (13, .slice A_4 r6.length c_4), (113, .int .i64 (r6.length : Int)), (114, .int .i64 (k_4 : Int)), (120, .int .i64 (seconds_2[k_4]?.getD 0)), (124, .int .i64 x_2)] (fun w hM => run_load_one (off := 0) (i := k_4) (.int .i64 x_2) (hM.rd_at 0 rfl) (map_at hx_4) (by kernel_rfl) (by kernel_rfl)) rfl (by kernel_rfl) (by kernel_rfl) ?_
                    refine TQ.run 9 [] [(9, .slice A_seconds_2 seconds_2.length c_seconds_2), (13, .slice A_4 r6.length c_4), (113, .int .i64 (r6.length : Int)), (114, .int .i64 (k_4 : Int)), (125, .bool ((seconds_2[k_4]?.getD 0) != x_2))] rfl ⟨by kernel_rfl, by kernel_rfl⟩ ?_
                    refine TQ.next rfl ?_
                    refine TC.cond ((seconds_2[k_4]?.getD 0) != x_2) rfl (by kernel_rfl) (fun h14 => ?_) (fun h14 => ?_)
                    · refine TC.seq ?_
                      refine TC.region ?_
                      refine TL.run 1 [] [(6, .bool false)] rfl ⟨by kernel_rfl, by kernel_rfl⟩ ?_
                      refine TL.next rfl ?_
                      refine TC.ret ?_
                      refine TE.ret_block (TE.ret_then (TE.ret_then (TE.ret_block (TE.ret_then (TE.ret_then ?_)))))
                      have e : skywaylaw1_ProbePairs a b_ s = false := by subst hr1 hr2 hr3 hr4 hr5 hr6; unfold skywaylaw1_ProbePairs; exact cond_f h1 (cond_f h2 (cond_f h3 (cond_f h4 (cond_f h5 (elim_l (hR.symm.trans hJ) (cond_f h12 (elim_r (hR_4.symm.trans (hI_4.trans (by rw [hd_4]; exact cond_t h14 (rfl)))) rfl)))))))
                      exact TE.ret [] (.bool false) ⟨by kernel_rfl, by kernel_rfl⟩ (by rw [e]; first | done | kernel_rfl)
                    · refine TC.skip ?_
                      refine TE.normal_block ?_
                      refine TE.next ?_
                      refine TC.region ?_
                      refine TL.run 2 [] [(9, .slice A_seconds_2 seconds_2.length c_seconds_2), (13, .slice A_4 r6.length c_4), (113, .int .i64 (r6.length : Int)), (114, .int .i64 (w64 ((k_4 : Int) + 1)))] rfl ⟨by kernel_rfl, by kernel_rfl⟩ ?_
                      refine TL.done rfl ?_
                      refine TE.rw 114 (.int .i64 (w64 ((k_4 : Int) + 1))) (.int .i64 ((k_4 + 1 : Nat) : Int)) (by kernel_rfl) (w64_cast k_4 (by (try have ka_ := times_in (tube_ok2 hr4 h3)); (try have kb_ := times_in (tube_ok2 hr5 h4)); (try have kp_ := (pair_bound hr2).1); (try have kx_ := (pair_bound hr2).2 x (List.mem_of_getElem? hx)); omega)) ?_
                      exact TE.again (x := k_4) (k_4 + 1) ⟨by omega, hI_4.trans (by subst hr1 hr2 hr3 hr4 hr5 hr6; rw [hd_4]; exact cond_f h14 (rfl))⟩ (by show r6.length - (k_4 + 1) < r6.length - k_4; omega) (by kernel_rfl) (.cons_cons _ (.cons_cons _ (.slnil)))
                  · have hd_4 : r6.drop k_4 = [] := List.drop_eq_nil_of_le (by have := of_decide_eq_false h13; first | omega | (simp at this; omega))
                    refine TC.exit ?_
                    refine TE.exit_then (TE.exit_then (TE.exit_same ?_))
                    exact TE.cut () (hI_4.trans (by subst hr1 hr2 hr3 hr4 hr5 hr6; rw [hd_4]; exact rfl)) (by kernel_rfl) (.cons _ (.cons _ (.slnil)))
                · intro _ hJ_4
                  refine TE.next ?_
                  refine TC.seq ?_
                  refine TC.region ?_
                  refine TL.run 1 [] [(6, .bool true)] rfl ⟨by kernel_rfl, by kernel_rfl⟩ ?_
                  refine TL.next rfl ?_
                  refine TC.ret ?_
                  have e : skywaylaw1_ProbePairs a b_ s = true := by subst hr1 hr2 hr3 hr4 hr5 hr6; unfold skywaylaw1_ProbePairs; exact cond_f h1 (cond_f h2 (cond_f h3 (cond_f h4 (cond_f h5 (elim_l (hR.symm.trans hJ) (cond_f h12 (elim_l (hR_4.symm.trans hJ_4) (rfl))))))))
                  exact TE.ret [] (.bool true) ⟨by kernel_rfl, by kernel_rfl⟩ (by rw [e]; first | done | kernel_rfl)

end Go.Sky
