/- Functions of the program, each with the Lean function that it computes. Conditions: none. -/
import Derived.Test.YtlaealgmaalgfaaWj
namespace Go.Sky
open Go Go.Eng Go.Proofs
def skywaylaw1_node (t : Int) (x : Int) (y : Int) (h_ : Int) (r_ : Int) (b_ : Int) : TubeNode :=
  (⟨⟨t, ⟨x, y⟩, h_⟩, r_, b_⟩ : TubeNode)

set_option maxRecDepth 100000 in
theorem skywaylaw1_node_w (t : Int) (x : Int) (y : Int) (h_ : Int) (r_ : Int) (b_ : Int) (w : World) : Calls Try.prog 67 #[.int .i64 t, .int .i64 x, .int .i64 y, .int .i64 h_, .int .i64 r_, .int .i64 b_] w (Ret w (TubeNode.v (skywaylaw1_node t x y h_ r_ b_))) := by
  refine calls_intro (vs := [.int .i64 t, .int .i64 x, .int .i64 y, .int .i64 h_, .int .i64 r_, .int .i64 b_]) (w := w) Try.func67 rfl Try.ntmps67 rfl ?_
  refine TC.weak [(0, .int .i64 t), (1, .int .i64 x), (2, .int .i64 y), (3, .int .i64 h_), (4, .int .i64 r_), (5, .int .i64 b_)] (by kernel_rfl) ?_
  refine TC.seq ?_
  refine TC.region ?_
  refine TL.write 0 (fun b1 => [(0, .int .i64 t), (1, .int .i64 x), (2, .int .i64 y), (3, .int .i64 h_), (4, .int .i64 r_), (5, .int .i64 b_), (12, .pointer (some ⟨b1, 0, none⟩))]) (fun b1 => [.inl (b1, .cells (TubeNode.c TubeNode.zero) 57 (0, 0))]) (fun b1 => ⟨by kernel_rfl, by kernel_rfl⟩) (fun b1 => ?_)
  refine TL.next rfl ?_
  refine TC.seq ?_
  refine TC.region ?_
  refine TL.run 9 [] [(12, .pointer (some ⟨b1, 0, none⟩)), (21, .agg #[.int .i64 t, .int .i64 x, .int .i64 y, .int .i64 h_, .int .i64 r_, .int .i64 b_])] rfl ⟨by kernel_rfl, by kernel_rfl⟩ ?_
  refine TL.write 0 (fun _ => [(12, .pointer (some ⟨b1, 0, none⟩))]) (fun _ => [.inl (b1, .cells #[.int .i64 t, .int .i64 x, .int .i64 y, .int .i64 h_, .int .i64 r_, .int .i64 b_] 57 (0, 0))]) (fun _ => ⟨by kernel_rfl, by kernel_rfl⟩) (fun _ => ?_)
  refine TL.next rfl ?_
  refine TC.ret ?_
  have e : skywaylaw1_node t x y h_ r_ b_ = (⟨⟨t, ⟨x, y⟩, h_⟩, r_, b_⟩ : TubeNode) := by unfold skywaylaw1_node; exact rfl
  exact TE.ret [0] (.agg #[.int .i64 t, .int .i64 x, .int .i64 y, .int .i64 h_, .int .i64 r_, .int .i64 b_]) ⟨by kernel_rfl, by kernel_rfl⟩ (by rw [e]; first | done | kernel_rfl)

def skywayref1_Node_L1 (l : List TubeNode) (t : Int) : Nat → Nat → ((Unit) ⊕ (TubeNode))
  | 0, _ => .inl ()
  | m + 1, k => cond ((decide (t > (((l[(((l.length : Int) - 1) - ((k : Nat) : Int)).toNat]?.getD TubeNode.zero).Node).Time))) || (decide (t < (((l[(w64 ((((l.length : Int) - 1) - ((k : Nat) : Int)) - 1)).toNat]?.getD TubeNode.zero).Node).Time)))) (
      skywayref1_Node_L1 l t m (k + 1)) (
      let r1 := skywayref1_Mix ((((l[(w64 ((((l.length : Int) - 1) - ((k : Nat) : Int)) - 1)).toNat]?.getD TubeNode.zero).Node).At).X) ((((l[(((l.length : Int) - 1) - ((k : Nat) : Int)).toNat]?.getD TubeNode.zero).Node).At).X) (w64 (t - (((l[(w64 ((((l.length : Int) - 1) - ((k : Nat) : Int)) - 1)).toNat]?.getD TubeNode.zero).Node).Time))) (w64 ((((l[(((l.length : Int) - 1) - ((k : Nat) : Int)).toNat]?.getD TubeNode.zero).Node).Time) - (((l[(w64 ((((l.length : Int) - 1) - ((k : Nat) : Int)) - 1)).toNat]?.getD TubeNode.zero).Node).Time)))
      let r2 := skywayref1_Mix ((((l[(w64 ((((l.length : Int) - 1) - ((k : Nat) : Int)) - 1)).toNat]?.getD TubeNode.zero).Node).At).Y) ((((l[(((l.length : Int) - 1) - ((k : Nat) : Int)).toNat]?.getD TubeNode.zero).Node).At).Y) (w64 (t - (((l[(w64 ((((l.length : Int) - 1) - ((k : Nat) : Int)) - 1)).toNat]?.getD TubeNode.zero).Node).Time))) (w64 ((((l[(((l.length : Int) - 1) - ((k : Nat) : Int)).toNat]?.getD TubeNode.zero).Node).Time) - (((l[(w64 ((((l.length : Int) - 1) - ((k : Nat) : Int)) - 1)).toNat]?.getD TubeNode.zero).Node).Time)))
      let r3 := skywayref1_Mix (((l[(w64 ((((l.length : Int) - 1) - ((k : Nat) : Int)) - 1)).toNat]?.getD TubeNode.zero).Node).Height) (((l[(((l.length : Int) - 1) - ((k : Nat) : Int)).toNat]?.getD TubeNode.zero).Node).Height) (w64 (t - (((l[(w64 ((((l.length : Int) - 1) - ((k : Nat) : Int)) - 1)).toNat]?.getD TubeNode.zero).Node).Time))) (w64 ((((l[(((l.length : Int) - 1) - ((k : Nat) : Int)).toNat]?.getD TubeNode.zero).Node).Time) - (((l[(w64 ((((l.length : Int) - 1) - ((k : Nat) : Int)) - 1)).toNat]?.getD TubeNode.zero).Node).Time)))
      let r4 := skywayref1_MixUp ((l[(w64 ((((l.length : Int) - 1) - ((k : Nat) : Int)) - 1)).toNat]?.getD TubeNode.zero).Radius) ((l[(((l.length : Int) - 1) - ((k : Nat) : Int)).toNat]?.getD TubeNode.zero).Radius) (w64 (t - (((l[(w64 ((((l.length : Int) - 1) - ((k : Nat) : Int)) - 1)).toNat]?.getD TubeNode.zero).Node).Time))) (w64 ((((l[(((l.length : Int) - 1) - ((k : Nat) : Int)).toNat]?.getD TubeNode.zero).Node).Time) - (((l[(w64 ((((l.length : Int) - 1) - ((k : Nat) : Int)) - 1)).toNat]?.getD TubeNode.zero).Node).Time)))
      let r5 := skywayref1_MixUp ((l[(w64 ((((l.length : Int) - 1) - ((k : Nat) : Int)) - 1)).toNat]?.getD TubeNode.zero).Band) ((l[(((l.length : Int) - 1) - ((k : Nat) : Int)).toNat]?.getD TubeNode.zero).Band) (w64 (t - (((l[(w64 ((((l.length : Int) - 1) - ((k : Nat) : Int)) - 1)).toNat]?.getD TubeNode.zero).Node).Time))) (w64 ((((l[(((l.length : Int) - 1) - ((k : Nat) : Int)).toNat]?.getD TubeNode.zero).Node).Time) - (((l[(w64 ((((l.length : Int) - 1) - ((k : Nat) : Int)) - 1)).toNat]?.getD TubeNode.zero).Node).Time)))
      .inr (⟨⟨t, ⟨r1, r2⟩, r3⟩, r4, r5⟩ : TubeNode))
def skywayref1_Node (l : List TubeNode) (t : Int) : TubeNode :=
  Sum.elim (fun _ =>
    (l[0]?.getD TubeNode.zero)) (fun r => r) (skywayref1_Node_L1 l t (((l.length : Int) - 1).toNat) 0)

theorem node_side {l : List TubeNode} {t : Int} {k : Nat} (h : TubeOk l) (hk : k < ((l.length : Int) - 1).toNat) (hc : ((decide (t > (((l[(((l.length : Int) - 1) - ((k : Nat) : Int)).toNat]?.getD TubeNode.zero).Node).Time))) || (decide (t < (((l[(w64 ((((l.length : Int) - 1) - ((k : Nat) : Int)) - 1)).toNat]?.getD TubeNode.zero).Node).Time)))) = false) :
    let a := l[(w64 ((((l.length : Int) - 1) - ((k : Nat) : Int)) - 1)).toNat]?.getD TubeNode.zero
    let b := l[(((l.length : Int) - 1) - ((k : Nat) : Int)).toNat]?.getD TubeNode.zero
    let n := w64 (t - a.Node.Time)
    let d := w64 (b.Node.Time - a.Node.Time)
    (((-1000000 ≤ a.Node.At.X ∧ a.Node.At.X ≤ 1000000) ∧ (-1000000 ≤ b.Node.At.X ∧ b.Node.At.X ≤ 1000000)) ∧ (0 ≤ n ∧ n ≤ d) ∧ 1 ≤ d ∧ d ≤ 200000) ∧
    (((-1000000 ≤ a.Node.At.Y ∧ a.Node.At.Y ≤ 1000000) ∧ (-1000000 ≤ b.Node.At.Y ∧ b.Node.At.Y ≤ 1000000)) ∧ (0 ≤ n ∧ n ≤ d) ∧ 1 ≤ d ∧ d ≤ 200000) ∧
    (((-1000000 ≤ a.Node.Height ∧ a.Node.Height ≤ 1000000) ∧ (-1000000 ≤ b.Node.Height ∧ b.Node.Height ≤ 1000000)) ∧ (0 ≤ n ∧ n ≤ d) ∧ 1 ≤ d ∧ d ≤ 200000) ∧
    (((-1000000 ≤ a.Radius ∧ a.Radius ≤ 1000000) ∧ (-1000000 ≤ b.Radius ∧ b.Radius ≤ 1000000)) ∧ (0 ≤ n ∧ n ≤ d) ∧ 1 ≤ d ∧ d ≤ 200000) ∧
    (((-1000000 ≤ a.Band ∧ a.Band ≤ 1000000) ∧ (-1000000 ≤ b.Band ∧ b.Band ≤ 1000000)) ∧ (0 ≤ n ∧ n ≤ d) ∧ 1 ≤ d ∧ d ≤ 200000) := by
  have hl := h.1
  intro a b n d
  obtain ⟨j, hj⟩ : ∃ j : Nat, (((l.length : Int) - 1) - ((k : Nat) : Int)).toNat = j + 1 := ⟨l.length - 1 - k - 1, by omega⟩
  have hj2 : (w64 ((((l.length : Int) - 1) - ((k : Nat) : Int)) - 1)).toNat = j := by rw [w64_id (by omega)]; omega
  have ia : (nd l j).In := h.2.1 j (by omega)
  have ib : (nd l (j + 1)).In := h.2.1 (j + 1) (by omega)
  have hm := h.2.2 j (by omega)
  have ea : a = nd l j := by show (l[(w64 ((((l.length : Int) - 1) - ((k : Nat) : Int)) - 1)).toNat]?.getD TubeNode.zero) = _; rw [hj2]
  have eb : b = nd l (j + 1) := by show (l[(((l.length : Int) - 1) - ((k : Nat) : Int)).toNat]?.getD TubeNode.zero) = _; rw [hj]
  have en : n = w64 (t - a.Node.Time) := rfl
  have ed : d = w64 (b.Node.Time - a.Node.Time) := rfl
  rw [hj, hj2] at hc
  have hc' : t ≤ (nd l (j + 1)).Node.Time ∧ (nd l j).Node.Time ≤ t := by simp at hc; exact hc
  rw [ea] at en
  rw [ea, eb] at ed
  obtain ⟨a1, ⟨a2, a3, a4, a5⟩, a6, a7, a8⟩ := ia
  obtain ⟨b1, ⟨b2, b3, b4, b5⟩, b6, b7, b8⟩ := ib
  rw [w64_id (by omega)] at en ed
  rw [ea, eb, en, ed]
  omega

set_option maxRecDepth 100000 in
theorem skywayref1_Node_w (A_l : Option Addr) (c_l : Nat) (l : List TubeNode) (t : Int) (w : World) (h_l : Rd w 6 A_l (l.map TubeNode.c)) (_hc_l : l.length ≤ c_l) (hok : TubeOk l) : Calls Try.prog 29 #[.slice A_l l.length c_l, .int .i64 t] w (Ret w (TubeNode.v (skywayref1_Node l t))) := by
  have s_l := h_l.short; rw [List.length_map] at s_l
  refine calls_intro (vs := [.slice A_l l.length c_l, .int .i64 t]) (w := w) Try.func29 rfl Try.ntmps29 rfl ?_
  refine TC.weak [(0, .slice A_l l.length c_l), (1, .int .i64 t)] (by kernel_rfl) ?_
  refine TC.seq ?_
  refine TC.region ?_
  refine TL.write 0 (fun b1 => [(0, .slice A_l l.length c_l), (1, .int .i64 t), (4, .pointer (some ⟨b1, 0, none⟩))]) (fun b1 => [.inl (b1, .cells (TubeNode.c TubeNode.zero) 57 (0, 0))]) (fun b1 => ⟨by kernel_rfl, by kernel_rfl⟩) (fun b1 => ?_)
  refine TL.next rfl ?_
  refine TC.seq ?_
  refine TC.seq ?_
  refine TC.region ?_
  refine TL.run 4 [] [(0, .slice A_l l.length c_l), (1, .int .i64 t), (4, .pointer (some ⟨b1, 0, none⟩)), (5, .int .i64 (w64 ((l.length : Int) - 1)))] rfl ⟨by kernel_rfl, by kernel_rfl⟩ ?_
  refine TL.next rfl ?_
  refine TC.weak [(0, .slice A_l l.length c_l), (1, .int .i64 t), (4, .pointer (some ⟨b1, 0, none⟩)), (5, .int .i64 (w64 ((l.length : Int) - 1)))] (by kernel_rfl) ?_
  obtain ⟨R1, hR⟩ : ∃ R, R = skywayref1_Node_L1 l t (((l.length : Int) - 1).toNat) 0 := ⟨_, rfl⟩
  refine TC.cut (S := Unit) (fun (_ : Unit) => [(0, .slice A_l l.length c_l), (4, .pointer (some ⟨b1, 0, none⟩))]) (fun (_ : Unit) => [.inl (b1, .cells (TubeNode.c TubeNode.zero) 57 (0, 0))]) (fun (_ : Unit) => R1 = .inl ()) ?_ ?_
  · refine TC.block ?_
    refine TC.rw 5 (.int .i64 (w64 ((l.length : Int) - 1))) (.int .i64 (((l.length : Int) - 1) - ((0 : Nat) : Int))) (by kernel_rfl) (int_eq (by have uk_ := hok.1; first | omega | (rw [w64_id (by omega)]; omega) | (simp only [w64_eq]; omega))) ?_
    refine TC.weak [(0, .slice A_l l.length c_l), (1, .int .i64 t), (4, .pointer (some ⟨b1, 0, none⟩)), (5, .int .i64 (((l.length : Int) - 1) - ((0 : Nat) : Int)))] (by kernel_rfl) ?_
    refine TC.loop (X := Nat) (fun k => [(0, .slice A_l l.length c_l), (1, .int .i64 t), (4, .pointer (some ⟨b1, 0, none⟩)), (5, .int .i64 (((l.length : Int) - 1) - ((k : Nat) : Int)))]) (fun k => [.inl (b1, .cells (TubeNode.c TubeNode.zero) 57 (0, 0))]) (fun k => (((l.length : Int) - 1).toNat) - k) (fun k => k ≤ (((l.length : Int) - 1).toNat) ∧ R1 = skywayref1_Node_L1 l t ((((l.length : Int) - 1).toNat) - k) k) ?_ 0 ⟨Nat.zero_le _, hR⟩
    rintro k ⟨hk, hI⟩
    refine TC.seq ?_
    refine TC.seq ?_
    refine TC.region ?_
    refine TL.run 2 [] [(0, .slice A_l l.length c_l), (1, .int .i64 t), (4, .pointer (some ⟨b1, 0, none⟩)), (5, .int .i64 (((l.length : Int) - 1) - ((k : Nat) : Int))), (14, .bool (decide ((((l.length : Int) - 1) - ((k : Nat) : Int)) > 0)))] rfl ⟨by kernel_rfl, by kernel_rfl⟩ ?_
    refine TL.next rfl ?_
    refine TC.cond (decide ((((l.length : Int) - 1) - ((k : Nat) : Int)) > 0)) rfl (by kernel_rfl) (fun h1 => ?_) (fun h1 => ?_)
    · have hlt : k < (((l.length : Int) - 1).toNat) := by have uk_ := hok.1; have p0_ := (dec_t h1); first | omega | (simp only [w64_eq] at *; omega)
      have hd : (((l.length : Int) - 1).toNat) - k = ((((l.length : Int) - 1).toNat) - (k + 1)) + 1 := by omega
      refine TC.skip ?_
      refine TE.next ?_
      refine TC.seq ?_
      refine TC.block ?_
      refine TC.seq ?_
      refine TC.plan (G := Nat × Nat) (base := [(0, .slice A_l l.length c_l), (1, .int .i64 t), (4, .pointer (some ⟨b1, 0, none⟩)), (5, .int .i64 (((l.length : Int) - 1) - ((k : Nat) : Int)))]) (vals := fun γ => [.slice A_l l.length c_l, .int .i64 (((l.length : Int) - 1) - ((k : Nat) : Int)), .int .i64 (w64 ((((l.length : Int) - 1) - ((k : Nat) : Int)) - 1)), .pointer (some ((A_l.getD noAddr).add ((w64 ((((l.length : Int) - 1) - ((k : Nat) : Int)) - 1)).toNat * 6))), TubeNode.v (l[(w64 ((((l.length : Int) - 1) - ((k : Nat) : Int)) - 1)).toNat]?.getD TubeNode.zero), .slice A_l l.length c_l, .int .i64 (((l.length : Int) - 1) - ((k : Nat) : Int)), .pointer (some ((A_l.getD noAddr).add ((((l.length : Int) - 1) - ((k : Nat) : Int)).toNat * 6))), TubeNode.v (l[(((l.length : Int) - 1) - ((k : Nat) : Int)).toNat]?.getD TubeNode.zero), .pointer (some ⟨γ.1, 0, none⟩), .pointer (some ⟨γ.2, 0, none⟩), undef, undef]) (writes := [9, 10, 11, 12]) (mem := fun bs γ => match bs with | [x9_, x10_, x11_, x12_] => (bif x11_ then [.inl (γ.1, .cells (TubeNode.c (l[(w64 ((((l.length : Int) - 1) - ((k : Nat) : Int)) - 1)).toNat]?.getD TubeNode.zero)) 57 (0, 0))] else bif x9_ then [.inl (γ.1, .cells (TubeNode.c TubeNode.zero) 57 (0, 0))] else []) ++ ((bif x12_ then [.inl (γ.2, .cells (TubeNode.c (l[(((l.length : Int) - 1) - ((k : Nat) : Int)).toNat]?.getD TubeNode.zero)) 57 (0, 0))] else bif x10_ then [.inl (γ.2, .cells (TubeNode.c TubeNode.zero) 57 (0, 0))] else []) ++ ([.inl (b1, .cells (TubeNode.c TubeNode.zero) 57 (0, 0))])) | _ => []) (0, 0) (fun γ => [(0, .slice A_l l.length c_l), (1, .int .i64 t), (4, .pointer (some ⟨b1, 0, none⟩)), (5, .int .i64 (((l.length : Int) - 1) - ((k : Nat) : Int))), (6, .pointer (some ⟨γ.1, 0, none⟩)), (7, .pointer (some ⟨γ.2, 0, none⟩))]) (by kernel_rfl) (by kernel_rfl) (by kernel_rfl) (by kernel_rfl) (by kernel_rfl) (fun γ => by kernel_rfl) (fun _ hM => hM) (fun γ => by kernel_rfl) ?_ ?_
      · skip
        refine Steps.run (i := 0) 3 [0, 0, 0] [.inl (b1, .cells (TubeNode.c TubeNode.zero) 57 (0, 0))] (by kernel_rfl) (by kernel_rfl) (fun S (γ : Nat × Nat) w hM => by change Sat _ ((bif S 11 then [.inl (γ.1, .cells (TubeNode.c (l[(w64 ((((l.length : Int) - 1) - ((k : Nat) : Int)) - 1)).toNat]?.getD TubeNode.zero)) 57 (0, 0))] else bif S 9 then [.inl (γ.1, .cells (TubeNode.c TubeNode.zero) 57 (0, 0))] else []) ++ ((bif S 12 then [.inl (γ.2, .cells (TubeNode.c (l[(((l.length : Int) - 1) - ((k : Nat) : Int)).toNat]?.getD TubeNode.zero)) 57 (0, 0))] else bif S 10 then [.inl (γ.2, .cells (TubeNode.c TubeNode.zero) 57 (0, 0))] else []) ++ ([.inl (b1, .cells (TubeNode.c TubeNode.zero) 57 (0, 0))]))) w at hM; exact hM.sub (sub_skip (sub_skip (List.Sublist.refl _)))) (by kernel_rfl) (fun (γ : Nat × Nat) => ⟨by kernel_rfl, by kernel_rfl⟩) ?_
        refine Steps.val (i := 3) (fun (γ : Nat × Nat) => sV (Instr.indexAt 53 (.slice A_l l.length c_l) (.int .i64 (w64 ((((l.length : Int) - 1) - ((k : Nat) : Int)) - 1))))) (some 20) (fun (γ : Nat × Nat) => .pointer (some ((A_l.getD noAddr).add ((w64 ((((l.length : Int) - 1) - ((k : Nat) : Int)) - 1)).toNat * 6)))) (fun _ => [.inl (b1, .cells (TubeNode.c TubeNode.zero) 57 (0, 0))]) (by kernel_rfl) (fun S (γ : Nat × Nat) w _ hM => by change Sat _ ((bif S 11 then [.inl (γ.1, .cells (TubeNode.c (l[(w64 ((((l.length : Int) - 1) - ((k : Nat) : Int)) - 1)).toNat]?.getD TubeNode.zero)) 57 (0, 0))] else bif S 9 then [.inl (γ.1, .cells (TubeNode.c TubeNode.zero) 57 (0, 0))] else []) ++ ((bif S 12 then [.inl (γ.2, .cells (TubeNode.c (l[(((l.length : Int) - 1) - ((k : Nat) : Int)).toNat]?.getD TubeNode.zero)) 57 (0, 0))] else bif S 10 then [.inl (γ.2, .cells (TubeNode.c TubeNode.zero) 57 (0, 0))] else []) ++ ([.inl (b1, .cells (TubeNode.c TubeNode.zero) 57 (0, 0))]))) w at hM; exact hM.sub (sub_skip (sub_skip (List.Sublist.refl _)))) (fun (γ : Nat × Nat) w hM => run_index (h_l.sat hM) (by simp) (by kernel_rfl) (by have q0_ := (dec_t h1); have uk_ := hok.1; first | omega | (simp only [List.length_drop]; omega) | (simp only [w64_eq]; omega) | exact (tm_in (by (first | (rw [w64_id (by omega)]; omega) | (simp only [w64_eq]; omega))) (by omega)).1 | exact (tm_in (by (first | (rw [w64_id (by omega)]; omega) | (simp only [w64_eq]; omega))) (by omega)).2.1 | exact (tm_in (by (first | (rw [w64_id (by omega)]; omega) | (simp only [w64_eq]; omega))) (by omega)).2.2 | (simp only [List.length_take] at *; omega) | (simp <;> omega)) (by have q0_ := (dec_t h1); have uk_ := hok.1; first | omega | (simp only [List.length_drop]; omega) | (simp only [w64_eq]; omega) | exact (tm_in (by (first | (rw [w64_id (by omega)]; omega) | (simp only [w64_eq]; omega))) (by omega)).1 | exact (tm_in (by (first | (rw [w64_id (by omega)]; omega) | (simp only [w64_eq]; omega))) (by omega)).2.1 | exact (tm_in (by (first | (rw [w64_id (by omega)]; omega) | (simp only [w64_eq]; omega))) (by omega)).2.2 | (simp only [List.length_take] at *; omega) | (simp <;> omega))) (fun (γ : Nat × Nat) => by kernel_rfl) (fun (γ : Nat × Nat) => by kernel_rfl) ?_
        refine Steps.val (i := 4) (fun (γ : Nat × Nat) => sV (Instr.loadAt 57 (.pointer (some ((A_l.getD noAddr).add ((w64 ((((l.length : Int) - 1) - ((k : Nat) : Int)) - 1)).toNat * 6)))))) (some 21) (fun (γ : Nat × Nat) => TubeNode.v (l[(w64 ((((l.length : Int) - 1) - ((k : Nat) : Int)) - 1)).toNat]?.getD TubeNode.zero)) (fun _ => [.inl (b1, .cells (TubeNode.c TubeNode.zero) 57 (0, 0))]) (by kernel_rfl) (fun S (γ : Nat × Nat) w _ hM => by change Sat _ ((bif S 11 then [.inl (γ.1, .cells (TubeNode.c (l[(w64 ((((l.length : Int) - 1) - ((k : Nat) : Int)) - 1)).toNat]?.getD TubeNode.zero)) 57 (0, 0))] else bif S 9 then [.inl (γ.1, .cells (TubeNode.c TubeNode.zero) 57 (0, 0))] else []) ++ ((bif S 12 then [.inl (γ.2, .cells (TubeNode.c (l[(((l.length : Int) - 1) - ((k : Nat) : Int)).toNat]?.getD TubeNode.zero)) 57 (0, 0))] else bif S 10 then [.inl (γ.2, .cells (TubeNode.c TubeNode.zero) 57 (0, 0))] else []) ++ ([.inl (b1, .cells (TubeNode.c TubeNode.zero) 57 (0, 0))]))) w at hM; exact hM.sub (sub_skip (sub_skip (List.Sublist.refl _)))) (fun (γ : Nat × Nat) w hM => run_load_agg (n := 6) (off := 0) (i := (w64 ((((l.length : Int) - 1) - ((k : Nat) : Int)) - 1)).toNat) (TubeNode.v (l[(w64 ((((l.length : Int) - 1) - ((k : Nat) : Int)) - 1)).toNat]?.getD TubeNode.zero)) (h_l.sat hM) (map_at (getD_at _ _ TubeNode.zero (by have q0_ := (dec_t h1); have uk_ := hok.1; first | omega | (simp only [List.length_drop]; omega) | (simp only [w64_eq]; omega) | exact (tm_in (by (first | (rw [w64_id (by omega)]; omega) | (simp only [w64_eq]; omega))) (by omega)).1 | exact (tm_in (by (first | (rw [w64_id (by omega)]; omega) | (simp only [w64_eq]; omega))) (by omega)).2.1 | exact (tm_in (by (first | (rw [w64_id (by omega)]; omega) | (simp only [w64_eq]; omega))) (by omega)).2.2 | (simp only [List.length_take] at *; omega) | (simp <;> omega)))) (by kernel_rfl) (by kernel_rfl) (by kernel_rfl)) (fun (γ : Nat × Nat) => by kernel_rfl) (fun (γ : Nat × Nat) => by kernel_rfl) ?_
        refine Steps.run (i := 5) 7 [0, 0] [.inl (b1, .cells (TubeNode.c TubeNode.zero) 57 (0, 0))] (by kernel_rfl) (by kernel_rfl) (fun S (γ : Nat × Nat) w hM => by change Sat _ ((bif S 11 then [.inl (γ.1, .cells (TubeNode.c (l[(w64 ((((l.length : Int) - 1) - ((k : Nat) : Int)) - 1)).toNat]?.getD TubeNode.zero)) 57 (0, 0))] else bif S 9 then [.inl (γ.1, .cells (TubeNode.c TubeNode.zero) 57 (0, 0))] else []) ++ ((bif S 12 then [.inl (γ.2, .cells (TubeNode.c (l[(((l.length : Int) - 1) - ((k : Nat) : Int)).toNat]?.getD TubeNode.zero)) 57 (0, 0))] else bif S 10 then [.inl (γ.2, .cells (TubeNode.c TubeNode.zero) 57 (0, 0))] else []) ++ ([.inl (b1, .cells (TubeNode.c TubeNode.zero) 57 (0, 0))]))) w at hM; exact hM.sub (sub_skip (sub_skip (List.Sublist.refl _)))) (by kernel_rfl) (fun (γ : Nat × Nat) => ⟨by kernel_rfl, by kernel_rfl⟩) ?_
        refine Steps.val (i := 7) (fun (γ : Nat × Nat) => sV (Instr.indexAt 53 (.slice A_l l.length c_l) (.int .i64 (((l.length : Int) - 1) - ((k : Nat) : Int))))) (some 24) (fun (γ : Nat × Nat) => .pointer (some ((A_l.getD noAddr).add ((((l.length : Int) - 1) - ((k : Nat) : Int)).toNat * 6)))) (fun _ => [.inl (b1, .cells (TubeNode.c TubeNode.zero) 57 (0, 0))]) (by kernel_rfl) (fun S (γ : Nat × Nat) w _ hM => by change Sat _ ((bif S 11 then [.inl (γ.1, .cells (TubeNode.c (l[(w64 ((((l.length : Int) - 1) - ((k : Nat) : Int)) - 1)).toNat]?.getD TubeNode.zero)) 57 (0, 0))] else bif S 9 then [.inl (γ.1, .cells (TubeNode.c TubeNode.zero) 57 (0, 0))] else []) ++ ((bif S 12 then [.inl (γ.2, .cells (TubeNode.c (l[(((l.length : Int) - 1) - ((k : Nat) : Int)).toNat]?.getD TubeNode.zero)) 57 (0, 0))] else bif S 10 then [.inl (γ.2, .cells (TubeNode.c TubeNode.zero) 57 (0, 0))] else []) ++ ([.inl (b1, .cells (TubeNode.c TubeNode.zero) 57 (0, 0))]))) w at hM; exact hM.sub (sub_skip (sub_skip (List.Sublist.refl _)))) (fun (γ : Nat × Nat) w hM => run_index (h_l.sat hM) (by simp) (by kernel_rfl) (by have q0_ := (dec_t h1); have uk_ := hok.1; first | omega | (simp only [List.length_drop]; omega) | (simp only [w64_eq]; omega) | exact (tm_in (by (first | (rw [w64_id (by omega)]; omega) | (simp only [w64_eq]; omega))) (by omega)).1 | exact (tm_in (by (first | (rw [w64_id (by omega)]; omega) | (simp only [w64_eq]; omega))) (by omega)).2.1 | exact (tm_in (by (first | (rw [w64_id (by omega)]; omega) | (simp only [w64_eq]; omega))) (by omega)).2.2 | (simp only [List.length_take] at *; omega) | (simp <;> omega)) (by have q0_ := (dec_t h1); have uk_ := hok.1; first | omega | (simp only [List.length_drop]; omega) | (simp only [w64_eq]; omega) | exact (tm_in (by (first | (rw [w64_id (by omega)]; omega) | (simp only [w64_eq]; omega))) (by omega)).1 | exact (tm_in (by (first | (rw [w64_id (by omega)]; omega) | (simp only [w64_eq]; omega))) (by omega)).2.1 | exact (tm_in (by (first | (rw [w64_id (by omega)]; omega) | (simp only [w64_eq]; omega))) (by omega)).2.2 | (simp only [List.length_take] at *; omega) | (simp <;> omega))) (fun (γ : Nat × Nat) => by kernel_rfl) (fun (γ : Nat × Nat) => by kernel_rfl) ?_
        refine Steps.val (i := 8) (fun (γ : Nat × Nat) => sV (Instr.loadAt 57 (.pointer (some ((A_l.getD noAddr).add ((((l.length : Int) - 1) - ((k : Nat) : Int)).toNat * 6)))))) (some 25) (fun (γ : Nat × Nat) => TubeNode.v (l[(((l.length : Int) - 1) - ((k : Nat) : Int)).toNat]?.getD TubeNode.zero)) (fun _ => [.inl (b1, .cells (TubeNode.c TubeNode.zero) 57 (0, 0))]) (by kernel_rfl) (fun S (γ : Nat × Nat) w _ hM => by change Sat _ ((bif S 11 then [.inl (γ.1, .cells (TubeNode.c (l[(w64 ((((l.length : Int) - 1) - ((k : Nat) : Int)) - 1)).toNat]?.getD TubeNode.zero)) 57 (0, 0))] else bif S 9 then [.inl (γ.1, .cells (TubeNode.c TubeNode.zero) 57 (0, 0))] else []) ++ ((bif S 12 then [.inl (γ.2, .cells (TubeNode.c (l[(((l.length : Int) - 1) - ((k : Nat) : Int)).toNat]?.getD TubeNode.zero)) 57 (0, 0))] else bif S 10 then [.inl (γ.2, .cells (TubeNode.c TubeNode.zero) 57 (0, 0))] else []) ++ ([.inl (b1, .cells (TubeNode.c TubeNode.zero) 57 (0, 0))]))) w at hM; exact hM.sub (sub_skip (sub_skip (List.Sublist.refl _)))) (fun (γ : Nat × Nat) w hM => run_load_agg (n := 6) (off := 0) (i := (((l.length : Int) - 1) - ((k : Nat) : Int)).toNat) (TubeNode.v (l[(((l.length : Int) - 1) - ((k : Nat) : Int)).toNat]?.getD TubeNode.zero)) (h_l.sat hM) (map_at (getD_at _ _ TubeNode.zero (by have q0_ := (dec_t h1); have uk_ := hok.1; first | omega | (simp only [List.length_drop]; omega) | (simp only [w64_eq]; omega) | exact (tm_in (by (first | (rw [w64_id (by omega)]; omega) | (simp only [w64_eq]; omega))) (by omega)).1 | exact (tm_in (by (first | (rw [w64_id (by omega)]; omega) | (simp only [w64_eq]; omega))) (by omega)).2.1 | exact (tm_in (by (first | (rw [w64_id (by omega)]; omega) | (simp only [w64_eq]; omega))) (by omega)).2.2 | (simp only [List.length_take] at *; omega) | (simp <;> omega)))) (by kernel_rfl) (by kernel_rfl) (by kernel_rfl)) (fun (γ : Nat × Nat) => by kernel_rfl) (fun (γ : Nat × Nat) => by kernel_rfl) ?_
        refine Steps.op (i := 9) (Γ := Nat) (fun g (γ : Nat × Nat) => (g, γ.2)) (fun _ => []) (fun b (γ : Nat × Nat) => [.inl (b, .cells (TubeNode.c TubeNode.zero) 57 (0, 0))]) (fun S (γ : Nat × Nat) => (bif S 12 then [.inl (γ.2, .cells (TubeNode.c (l[(((l.length : Int) - 1) - ((k : Nat) : Int)).toNat]?.getD TubeNode.zero)) 57 (0, 0))] else bif S 10 then [.inl (γ.2, .cells (TubeNode.c TubeNode.zero) 57 (0, 0))] else []) ++ ([.inl (b1, .cells (TubeNode.c TubeNode.zero) 57 (0, 0))])) [9, 11, 12] (fun (γ : Nat × Nat) => sV (Instr.alloc 57 true (.tuple #[]))) (some 6) (fun b (γ : Nat × Nat) => .pointer (some ⟨b, 0, none⟩)) (fun S (γ : Nat × Nat) hj hd hl => by change List.Perm (((bif S 11 then [.inl (γ.1, .cells (TubeNode.c (l[(w64 ((((l.length : Int) - 1) - ((k : Nat) : Int)) - 1)).toNat]?.getD TubeNode.zero)) 57 (0, 0))] else bif S 9 then [.inl (γ.1, .cells (TubeNode.c TubeNode.zero) 57 (0, 0))] else []) ++ ((bif S 12 then [.inl (γ.2, .cells (TubeNode.c (l[(((l.length : Int) - 1) - ((k : Nat) : Int)).toNat]?.getD TubeNode.zero)) 57 (0, 0))] else bif S 10 then [.inl (γ.2, .cells (TubeNode.c TubeNode.zero) 57 (0, 0))] else []) ++ ([.inl (b1, .cells (TubeNode.c TubeNode.zero) 57 (0, 0))]))) : Mem) _; rw [hj, hl 11 (by kernel_rfl)]; exact List.Perm.refl _) (fun S (γ : Nat × Nat) g hl => by change List.Perm _ (((bif S 11 then [.inl (g, .cells (TubeNode.c (l[(w64 ((((l.length : Int) - 1) - ((k : Nat) : Int)) - 1)).toNat]?.getD TubeNode.zero)) 57 (0, 0))] else bif true then [.inl (g, .cells (TubeNode.c TubeNode.zero) 57 (0, 0))] else []) ++ ((bif S 12 then [.inl (γ.2, .cells (TubeNode.c (l[(((l.length : Int) - 1) - ((k : Nat) : Int)).toNat]?.getD TubeNode.zero)) 57 (0, 0))] else bif S 10 then [.inl (γ.2, .cells (TubeNode.c TubeNode.zero) 57 (0, 0))] else []) ++ ([.inl (b1, .cells (TubeNode.c TubeNode.zero) 57 (0, 0))]))) : Mem); rw [hl 11 (by kernel_rfl)]; exact (List.Perm.refl _).symm) (fun (γ : Nat × Nat) M' w hM => run_new (v := fun b => .pointer (some ⟨b, 0, none⟩)) (fun b M => by kernel_rfl) M' w hM) (fun (γ : Nat × Nat) => by kernel_rfl) (fun (γ : Nat × Nat) g => by kernel_rfl) (by kernel_rfl) (fun (γ : Nat × Nat) g => by kernel_rfl) ?_
        refine Steps.op (i := 10) (Γ := Nat) (fun g (γ : Nat × Nat) => (γ.1, g)) (fun _ => []) (fun b (γ : Nat × Nat) => [.inl (b, .cells (TubeNode.c TubeNode.zero) 57 (0, 0))]) (fun S (γ : Nat × Nat) => (bif S 11 then [.inl (γ.1, .cells (TubeNode.c (l[(w64 ((((l.length : Int) - 1) - ((k : Nat) : Int)) - 1)).toNat]?.getD TubeNode.zero)) 57 (0, 0))] else bif S 9 then [.inl (γ.1, .cells (TubeNode.c TubeNode.zero) 57 (0, 0))] else []) ++ ([.inl (b1, .cells (TubeNode.c TubeNode.zero) 57 (0, 0))])) [10, 11, 12] (fun (γ : Nat × Nat) => sV (Instr.alloc 57 true (.tuple #[]))) (some 7) (fun b (γ : Nat × Nat) => .pointer (some ⟨b, 0, none⟩)) (fun S (γ : Nat × Nat) hj hd hl => by change List.Perm (((bif S 11 then [.inl (γ.1, .cells (TubeNode.c (l[(w64 ((((l.length : Int) - 1) - ((k : Nat) : Int)) - 1)).toNat]?.getD TubeNode.zero)) 57 (0, 0))] else bif S 9 then [.inl (γ.1, .cells (TubeNode.c TubeNode.zero) 57 (0, 0))] else []) ++ ((bif S 12 then [.inl (γ.2, .cells (TubeNode.c (l[(((l.length : Int) - 1) - ((k : Nat) : Int)).toNat]?.getD TubeNode.zero)) 57 (0, 0))] else bif S 10 then [.inl (γ.2, .cells (TubeNode.c TubeNode.zero) 57 (0, 0))] else []) ++ ([.inl (b1, .cells (TubeNode.c TubeNode.zero) 57 (0, 0))]))) : Mem) _; rw [hj, hl 12 (by kernel_rfl)]; exact (List.Perm.append_left _ (List.Perm.refl _)).trans (perm_mid _ _ _)) (fun S (γ : Nat × Nat) g hl => by change List.Perm _ (((bif S 11 then [.inl (γ.1, .cells (TubeNode.c (l[(w64 ((((l.length : Int) - 1) - ((k : Nat) : Int)) - 1)).toNat]?.getD TubeNode.zero)) 57 (0, 0))] else bif S 9 then [.inl (γ.1, .cells (TubeNode.c TubeNode.zero) 57 (0, 0))] else []) ++ ((bif S 12 then [.inl (g, .cells (TubeNode.c (l[(((l.length : Int) - 1) - ((k : Nat) : Int)).toNat]?.getD TubeNode.zero)) 57 (0, 0))] else bif true then [.inl (g, .cells (TubeNode.c TubeNode.zero) 57 (0, 0))] else []) ++ ([.inl (b1, .cells (TubeNode.c TubeNode.zero) 57 (0, 0))]))) : Mem); rw [hl 12 (by kernel_rfl)]; exact ((List.Perm.append_left _ (List.Perm.refl _)).trans (perm_mid _ _ _)).symm) (fun (γ : Nat × Nat) M' w hM => run_new (v := fun b => .pointer (some ⟨b, 0, none⟩)) (fun b M => by kernel_rfl) M' w hM) (fun (γ : Nat × Nat) => by kernel_rfl) (fun (γ : Nat × Nat) g => by kernel_rfl) (by kernel_rfl) (fun (γ : Nat × Nat) g => by kernel_rfl) ?_
        refine Steps.put (i := 11) (fun (γ : Nat × Nat) => [.inl (γ.1, .cells (TubeNode.c TubeNode.zero) 57 (0, 0))]) (fun (γ : Nat × Nat) => [.inl (γ.1, .cells (TubeNode.c (l[(w64 ((((l.length : Int) - 1) - ((k : Nat) : Int)) - 1)).toNat]?.getD TubeNode.zero)) 57 (0, 0))]) (fun S (γ : Nat × Nat) => (bif S 12 then [.inl (γ.2, .cells (TubeNode.c (l[(((l.length : Int) - 1) - ((k : Nat) : Int)).toNat]?.getD TubeNode.zero)) 57 (0, 0))] else bif S 10 then [.inl (γ.2, .cells (TubeNode.c TubeNode.zero) 57 (0, 0))] else []) ++ ([.inl (b1, .cells (TubeNode.c TubeNode.zero) 57 (0, 0))])) (fun (γ : Nat × Nat) => sU (Instr.storeAt 57 (.pointer (some ⟨γ.1, 0, none⟩)) (TubeNode.v (l[(w64 ((((l.length : Int) - 1) - ((k : Nat) : Int)) - 1)).toNat]?.getD TubeNode.zero)))) none (fun S (γ : Nat × Nat) hj hd hl => by change List.Perm (((bif S 11 then [.inl (γ.1, .cells (TubeNode.c (l[(w64 ((((l.length : Int) - 1) - ((k : Nat) : Int)) - 1)).toNat]?.getD TubeNode.zero)) 57 (0, 0))] else bif S 9 then [.inl (γ.1, .cells (TubeNode.c TubeNode.zero) 57 (0, 0))] else []) ++ ((bif S 12 then [.inl (γ.2, .cells (TubeNode.c (l[(((l.length : Int) - 1) - ((k : Nat) : Int)).toNat]?.getD TubeNode.zero)) 57 (0, 0))] else bif S 10 then [.inl (γ.2, .cells (TubeNode.c TubeNode.zero) 57 (0, 0))] else []) ++ ([.inl (b1, .cells (TubeNode.c TubeNode.zero) 57 (0, 0))]))) : Mem) _; rw [hj, hd 9 (by kernel_rfl)]; exact List.Perm.refl _) (fun S (γ : Nat × Nat) _ => (List.Perm.refl _).symm) (fun (γ : Nat × Nat) M' w hM => run_put (fun b M => by kernel_rfl) (fun b M => by kernel_rfl) M' w hM) (fun (γ : Nat × Nat) => by kernel_rfl) (fun (γ : Nat × Nat) => by kernel_rfl) ?_
        refine Steps.put (i := 12) (fun (γ : Nat × Nat) => [.inl (γ.2, .cells (TubeNode.c TubeNode.zero) 57 (0, 0))]) (fun (γ : Nat × Nat) => [.inl (γ.2, .cells (TubeNode.c (l[(((l.length : Int) - 1) - ((k : Nat) : Int)).toNat]?.getD TubeNode.zero)) 57 (0, 0))]) (fun S (γ : Nat × Nat) => (bif S 11 then [.inl (γ.1, .cells (TubeNode.c (l[(w64 ((((l.length : Int) - 1) - ((k : Nat) : Int)) - 1)).toNat]?.getD TubeNode.zero)) 57 (0, 0))] else bif S 9 then [.inl (γ.1, .cells (TubeNode.c TubeNode.zero) 57 (0, 0))] else []) ++ ([.inl (b1, .cells (TubeNode.c TubeNode.zero) 57 (0, 0))])) (fun (γ : Nat × Nat) => sU (Instr.storeAt 57 (.pointer (some ⟨γ.2, 0, none⟩)) (TubeNode.v (l[(((l.length : Int) - 1) - ((k : Nat) : Int)).toNat]?.getD TubeNode.zero)))) none (fun S (γ : Nat × Nat) hj hd hl => by change List.Perm (((bif S 11 then [.inl (γ.1, .cells (TubeNode.c (l[(w64 ((((l.length : Int) - 1) - ((k : Nat) : Int)) - 1)).toNat]?.getD TubeNode.zero)) 57 (0, 0))] else bif S 9 then [.inl (γ.1, .cells (TubeNode.c TubeNode.zero) 57 (0, 0))] else []) ++ ((bif S 12 then [.inl (γ.2, .cells (TubeNode.c (l[(((l.length : Int) - 1) - ((k : Nat) : Int)).toNat]?.getD TubeNode.zero)) 57 (0, 0))] else bif S 10 then [.inl (γ.2, .cells (TubeNode.c TubeNode.zero) 57 (0, 0))] else []) ++ ([.inl (b1, .cells (TubeNode.c TubeNode.zero) 57 (0, 0))]))) : Mem) _; rw [hj, hd 10 (by kernel_rfl)]; exact (List.Perm.append_left _ (List.Perm.refl _)).trans (perm_mid _ _ _)) (fun S (γ : Nat × Nat) _ => ((List.Perm.append_left _ (List.Perm.refl _)).trans (perm_mid _ _ _)).symm) (fun (γ : Nat × Nat) M' w hM => run_put (fun b M => by kernel_rfl) (fun b M => by kernel_rfl) M' w hM) (fun (γ : Nat × Nat) => by kernel_rfl) (fun (γ : Nat × Nat) => by kernel_rfl) ?_
        exact Steps.done (by kernel_rfl)
      · rintro ⟨b2, b3⟩
        refine TE.conv [.inl (b2, .cells (TubeNode.c (l[(w64 ((((l.length : Int) - 1) - ((k : Nat) : Int)) - 1)).toNat]?.getD TubeNode.zero)) 57 (0, 0)), .inl (b3, .cells (TubeNode.c (l[(((l.length : Int) - 1) - ((k : Nat) : Int)).toNat]?.getD TubeNode.zero)) 57 (0, 0)), .inl (b1, .cells (TubeNode.c TubeNode.zero) 57 (0, 0))] (fun _ hM => hM) ?_
        refine TE.next ?_
        refine TC.seq ?_
        refine TC.seq ?_
        refine TC.region ?_
        refine TL.run 6 [1] [(0, .slice A_l l.length c_l), (1, .int .i64 t), (4, .pointer (some ⟨b1, 0, none⟩)), (5, .int .i64 (((l.length : Int) - 1) - ((k : Nat) : Int))), (6, .pointer (some ⟨b2, 0, none⟩)), (7, .pointer (some ⟨b3, 0, none⟩)), (31, .bool (decide (t > (((l[(((l.length : Int) - 1) - ((k : Nat) : Int)).toNat]?.getD TubeNode.zero).Node).Time))))] rfl ⟨by kernel_rfl, by kernel_rfl⟩ ?_
        refine TL.join 31 (decide (t > (((l[(((l.length : Int) - 1) - ((k : Nat) : Int)).toNat]?.getD TubeNode.zero).Node).Time))) 12 [] [0] (fun β => [(0, .slice A_l l.length c_l), (1, .int .i64 t), (4, .pointer (some ⟨b1, 0, none⟩)), (5, .int .i64 (((l.length : Int) - 1) - ((k : Nat) : Int))), (6, .pointer (some ⟨b2, 0, none⟩)), (7, .pointer (some ⟨b3, 0, none⟩)), (37, .bool (β || (decide (t < (((l[(w64 ((((l.length : Int) - 1) - ((k : Nat) : Int)) - 1)).toNat]?.getD TubeNode.zero).Node).Time)))))]) (by kernel_rfl) rfl ⟨by kernel_rfl, by kernel_rfl⟩ ⟨by kernel_rfl, by kernel_rfl⟩ ?_
        refine TL.next rfl ?_
        refine TC.cond ((decide (t > (((l[(((l.length : Int) - 1) - ((k : Nat) : Int)).toNat]?.getD TubeNode.zero).Node).Time))) || (decide (t < (((l[(w64 ((((l.length : Int) - 1) - ((k : Nat) : Int)) - 1)).toNat]?.getD TubeNode.zero).Node).Time)))) rfl (by kernel_rfl) (fun h2 => ?_) (fun h2 => ?_)
        · refine TC.exit ?_
          refine TE.exit_then (TE.exit_same ?_)
          refine TE.next ?_
          refine TC.region ?_
          refine TL.run 3 [] [(0, .slice A_l l.length c_l), (1, .int .i64 t), (4, .pointer (some ⟨b1, 0, none⟩)), (5, .int .i64 (w64 ((((l.length : Int) - 1) - ((k : Nat) : Int)) - 1)))] rfl ⟨by kernel_rfl, by kernel_rfl⟩ ?_
          refine TL.done rfl ?_
          refine TE.rw 5 (.int .i64 (w64 ((((l.length : Int) - 1) - ((k : Nat) : Int)) - 1))) (.int .i64 (((l.length : Int) - 1) - ((k + 1 : Nat) : Int))) (by kernel_rfl) (int_eq (by have q0_ := (dec_t h1); have q1_ := ((or_t h2).imp (fun h => (dec_t h)) (fun h => (dec_t h))); have uk_ := hok.1; first | omega | (rw [w64_id (by omega)]; omega) | (simp only [w64_eq] at *; omega))) ?_
          exact TE.again (x := k) (k + 1) ⟨by omega, hI.trans (by rw [hd]; exact cond_t h2 (rfl))⟩ (by show (((l.length : Int) - 1).toNat) - (k + 1) < (((l.length : Int) - 1).toNat) - k; omega) (by kernel_rfl) (.cons _ (.cons _ (.cons_cons _ (.slnil))))
        · refine TC.skip ?_
          refine TE.next ?_
          refine TC.seq ?_
          refine TC.draw 14 (by kernel_rfl) (by kernel_rfl) (by kernel_rfl) ?_
          refine TQ.run 14 [0, 1, 0] [(1, .int .i64 t), (4, .pointer (some ⟨b1, 0, none⟩)), (6, .pointer (some ⟨b2, 0, none⟩)), (7, .pointer (some ⟨b3, 0, none⟩)), (8, .int .i64 (w64 (t - (((l[(w64 ((((l.length : Int) - 1) - ((k : Nat) : Int)) - 1)).toNat]?.getD TubeNode.zero).Node).Time)))), (9, .int .i64 (w64 ((((l[(((l.length : Int) - 1) - ((k : Nat) : Int)).toNat]?.getD TubeNode.zero).Node).Time) - (((l[(w64 ((((l.length : Int) - 1) - ((k : Nat) : Int)) - 1)).toNat]?.getD TubeNode.zero).Node).Time))))] rfl ⟨by kernel_rfl, by kernel_rfl⟩ ?_
          refine TQ.next rfl ?_
          refine TC.seq ?_
          refine TC.drawTail 49 (by kernel_rfl) (by kernel_rfl) ?_
          refine TQ.run 11 [0, 1] [(4, .pointer (some ⟨b1, 0, none⟩)), (6, .pointer (some ⟨b2, 0, none⟩)), (7, .pointer (some ⟨b3, 0, none⟩)), (8, .int .i64 (w64 (t - (((l[(w64 ((((l.length : Int) - 1) - ((k : Nat) : Int)) - 1)).toNat]?.getD TubeNode.zero).Node).Time)))), (9, .int .i64 (w64 ((((l[(((l.length : Int) - 1) - ((k : Nat) : Int)).toNat]?.getD TubeNode.zero).Node).Time) - (((l[(w64 ((((l.length : Int) - 1) - ((k : Nat) : Int)) - 1)).toNat]?.getD TubeNode.zero).Node).Time)))), (50, .int .i64 t), (54, .int .i64 ((((l[(w64 ((((l.length : Int) - 1) - ((k : Nat) : Int)) - 1)).toNat]?.getD TubeNode.zero).Node).At).X)), (58, .int .i64 ((((l[(((l.length : Int) - 1) - ((k : Nat) : Int)).toNat]?.getD TubeNode.zero).Node).At).X)), (59, .int .i64 (w64 (t - (((l[(w64 ((((l.length : Int) - 1) - ((k : Nat) : Int)) - 1)).toNat]?.getD TubeNode.zero).Node).Time)))), (60, .int .i64 (w64 ((((l[(((l.length : Int) - 1) - ((k : Nat) : Int)).toNat]?.getD TubeNode.zero).Node).Time) - (((l[(w64 ((((l.length : Int) - 1) - ((k : Nat) : Int)) - 1)).toNat]?.getD TubeNode.zero).Node).Time))))] rfl ⟨by kernel_rfl, by kernel_rfl⟩ ?_
          refine TQ.call (some 61) [(4, .pointer (some ⟨b1, 0, none⟩)), (6, .pointer (some ⟨b2, 0, none⟩)), (7, .pointer (some ⟨b3, 0, none⟩)), (8, .int .i64 (w64 (t - (((l[(w64 ((((l.length : Int) - 1) - ((k : Nat) : Int)) - 1)).toNat]?.getD TubeNode.zero).Node).Time)))), (9, .int .i64 (w64 ((((l[(((l.length : Int) - 1) - ((k : Nat) : Int)).toNat]?.getD TubeNode.zero).Node).Time) - (((l[(w64 ((((l.length : Int) - 1) - ((k : Nat) : Int)) - 1)).toNat]?.getD TubeNode.zero).Node).Time)))), (50, .int .i64 t), (61, .int .i64 (skywayref1_Mix ((((l[(w64 ((((l.length : Int) - 1) - ((k : Nat) : Int)) - 1)).toNat]?.getD TubeNode.zero).Node).At).X) ((((l[(((l.length : Int) - 1) - ((k : Nat) : Int)).toNat]?.getD TubeNode.zero).Node).At).X) (w64 (t - (((l[(w64 ((((l.length : Int) - 1) - ((k : Nat) : Int)) - 1)).toNat]?.getD TubeNode.zero).Node).Time))) (w64 ((((l[(((l.length : Int) - 1) - ((k : Nat) : Int)).toNat]?.getD TubeNode.zero).Node).Time) - (((l[(w64 ((((l.length : Int) - 1) - ((k : Nat) : Int)) - 1)).toNat]?.getD TubeNode.zero).Node).Time)))))] (fun w _ => skywayref1_Mix_w ((((l[(w64 ((((l.length : Int) - 1) - ((k : Nat) : Int)) - 1)).toNat]?.getD TubeNode.zero).Node).At).X) ((((l[(((l.length : Int) - 1) - ((k : Nat) : Int)).toNat]?.getD TubeNode.zero).Node).At).X) (w64 (t - (((l[(w64 ((((l.length : Int) - 1) - ((k : Nat) : Int)) - 1)).toNat]?.getD TubeNode.zero).Node).Time))) (w64 ((((l[(((l.length : Int) - 1) - ((k : Nat) : Int)).toNat]?.getD TubeNode.zero).Node).Time) - (((l[(w64 ((((l.length : Int) - 1) - ((k : Nat) : Int)) - 1)).toNat]?.getD TubeNode.zero).Node).Time))) w (by first | exact (node_side hok hlt h2).1 | exact (node_side hok hlt h2).2.1 | exact (node_side hok hlt h2).2.2.1)) rfl (by kernel_rfl) (by kernel_rfl) ?_
          generalize hr1 : skywayref1_Mix ((((l[(w64 ((((l.length : Int) - 1) - ((k : Nat) : Int)) - 1)).toNat]?.getD TubeNode.zero).Node).At).X) ((((l[(((l.length : Int) - 1) - ((k : Nat) : Int)).toNat]?.getD TubeNode.zero).Node).At).X) (w64 (t - (((l[(w64 ((((l.length : Int) - 1) - ((k : Nat) : Int)) - 1)).toNat]?.getD TubeNode.zero).Node).Time))) (w64 ((((l[(((l.length : Int) - 1) - ((k : Nat) : Int)).toNat]?.getD TubeNode.zero).Node).Time) - (((l[(w64 ((((l.length : Int) - 1) - ((k : Nat) : Int)) - 1)).toNat]?.getD TubeNode.zero).Node).Time))) = r1
          refine TQ.run 22 [0, 1] [(4, .pointer (some ⟨b1, 0, none⟩)), (6, .pointer (some ⟨b2, 0, none⟩)), (7, .pointer (some ⟨b3, 0, none⟩)), (8, .int .i64 (w64 (t - (((l[(w64 ((((l.length : Int) - 1) - ((k : Nat) : Int)) - 1)).toNat]?.getD TubeNode.zero).Node).Time)))), (9, .int .i64 (w64 ((((l[(((l.length : Int) - 1) - ((k : Nat) : Int)).toNat]?.getD TubeNode.zero).Node).Time) - (((l[(w64 ((((l.length : Int) - 1) - ((k : Nat) : Int)) - 1)).toNat]?.getD TubeNode.zero).Node).Time)))), (50, .int .i64 t), (61, .int .i64 r1), (65, .int .i64 ((((l[(w64 ((((l.length : Int) - 1) - ((k : Nat) : Int)) - 1)).toNat]?.getD TubeNode.zero).Node).At).Y)), (69, .int .i64 ((((l[(((l.length : Int) - 1) - ((k : Nat) : Int)).toNat]?.getD TubeNode.zero).Node).At).Y)), (70, .int .i64 (w64 (t - (((l[(w64 ((((l.length : Int) - 1) - ((k : Nat) : Int)) - 1)).toNat]?.getD TubeNode.zero).Node).Time)))), (71, .int .i64 (w64 ((((l[(((l.length : Int) - 1) - ((k : Nat) : Int)).toNat]?.getD TubeNode.zero).Node).Time) - (((l[(w64 ((((l.length : Int) - 1) - ((k : Nat) : Int)) - 1)).toNat]?.getD TubeNode.zero).Node).Time))))] rfl ⟨by kernel_rfl, by kernel_rfl⟩ ?_
          refine TQ.call (some 72) [(4, .pointer (some ⟨b1, 0, none⟩)), (6, .pointer (some ⟨b2, 0, none⟩)), (7, .pointer (some ⟨b3, 0, none⟩)), (8, .int .i64 (w64 (t - (((l[(w64 ((((l.length : Int) - 1) - ((k : Nat) : Int)) - 1)).toNat]?.getD TubeNode.zero).Node).Time)))), (9, .int .i64 (w64 ((((l[(((l.length : Int) - 1) - ((k : Nat) : Int)).toNat]?.getD TubeNode.zero).Node).Time) - (((l[(w64 ((((l.length : Int) - 1) - ((k : Nat) : Int)) - 1)).toNat]?.getD TubeNode.zero).Node).Time)))), (50, .int .i64 t), (61, .int .i64 r1), (72, .int .i64 (skywayref1_Mix ((((l[(w64 ((((l.length : Int) - 1) - ((k : Nat) : Int)) - 1)).toNat]?.getD TubeNode.zero).Node).At).Y) ((((l[(((l.length : Int) - 1) - ((k : Nat) : Int)).toNat]?.getD TubeNode.zero).Node).At).Y) (w64 (t - (((l[(w64 ((((l.length : Int) - 1) - ((k : Nat) : Int)) - 1)).toNat]?.getD TubeNode.zero).Node).Time))) (w64 ((((l[(((l.length : Int) - 1) - ((k : Nat) : Int)).toNat]?.getD TubeNode.zero).Node).Time) - (((l[(w64 ((((l.length : Int) - 1) - ((k : Nat) : Int)) - 1)).toNat]?.getD TubeNode.zero).Node).Time)))))] (fun w _ => skywayref1_Mix_w ((((l[(w64 ((((l.length : Int) - 1) - ((k : Nat) : Int)) - 1)).toNat]?.getD TubeNode.zero).Node).At).Y) ((((l[(((l.length : Int) - 1) - ((k : Nat) : Int)).toNat]?.getD TubeNode.zero).Node).At).Y) (w64 (t - (((l[(w64 ((((l.length : Int) - 1) - ((k : Nat) : Int)) - 1)).toNat]?.getD TubeNode.zero).Node).Time))) (w64 ((((l[(((l.length : Int) - 1) - ((k : Nat) : Int)).toNat]?.getD TubeNode.zero).Node).Time) - (((l[(w64 ((((l.length : Int) - 1) - ((k : Nat) : Int)) - 1)).toNat]?.getD TubeNode.zero).Node).Time))) w (by first | exact (node_side hok hlt h2).1 | exact (node_side hok hlt h2).2.1 | exact (node_side hok hlt h2).2.2.1)) rfl (by kernel_rfl) (by kernel_rfl) ?_
          generalize hr2 : skywayref1_Mix ((((l[(w64 ((((l.length : Int) - 1) - ((k : Nat) : Int)) - 1)).toNat]?.getD TubeNode.zero).Node).At).Y) ((((l[(((l.length : Int) - 1) - ((k : Nat) : Int)).toNat]?.getD TubeNode.zero).Node).At).Y) (w64 (t - (((l[(w64 ((((l.length : Int) - 1) - ((k : Nat) : Int)) - 1)).toNat]?.getD TubeNode.zero).Node).Time))) (w64 ((((l[(((l.length : Int) - 1) - ((k : Nat) : Int)).toNat]?.getD TubeNode.zero).Node).Time) - (((l[(w64 ((((l.length : Int) - 1) - ((k : Nat) : Int)) - 1)).toNat]?.getD TubeNode.zero).Node).Time))) = r2
          refine TQ.run 32 [0, 1] [(4, .pointer (some ⟨b1, 0, none⟩)), (6, .pointer (some ⟨b2, 0, none⟩)), (7, .pointer (some ⟨b3, 0, none⟩)), (8, .int .i64 (w64 (t - (((l[(w64 ((((l.length : Int) - 1) - ((k : Nat) : Int)) - 1)).toNat]?.getD TubeNode.zero).Node).Time)))), (9, .int .i64 (w64 ((((l[(((l.length : Int) - 1) - ((k : Nat) : Int)).toNat]?.getD TubeNode.zero).Node).Time) - (((l[(w64 ((((l.length : Int) - 1) - ((k : Nat) : Int)) - 1)).toNat]?.getD TubeNode.zero).Node).Time)))), (50, .int .i64 t), (73, .agg #[.int .i64 r1, .int .i64 r2]), (76, .int .i64 (((l[(w64 ((((l.length : Int) - 1) - ((k : Nat) : Int)) - 1)).toNat]?.getD TubeNode.zero).Node).Height)), (79, .int .i64 (((l[(((l.length : Int) - 1) - ((k : Nat) : Int)).toNat]?.getD TubeNode.zero).Node).Height)), (80, .int .i64 (w64 (t - (((l[(w64 ((((l.length : Int) - 1) - ((k : Nat) : Int)) - 1)).toNat]?.getD TubeNode.zero).Node).Time)))), (81, .int .i64 (w64 ((((l[(((l.length : Int) - 1) - ((k : Nat) : Int)).toNat]?.getD TubeNode.zero).Node).Time) - (((l[(w64 ((((l.length : Int) - 1) - ((k : Nat) : Int)) - 1)).toNat]?.getD TubeNode.zero).Node).Time))))] rfl ⟨by kernel_rfl, by kernel_rfl⟩ ?_
          refine TQ.call (some 82) [(4, .pointer (some ⟨b1, 0, none⟩)), (6, .pointer (some ⟨b2, 0, none⟩)), (7, .pointer (some ⟨b3, 0, none⟩)), (8, .int .i64 (w64 (t - (((l[(w64 ((((l.length : Int) - 1) - ((k : Nat) : Int)) - 1)).toNat]?.getD TubeNode.zero).Node).Time)))), (9, .int .i64 (w64 ((((l[(((l.length : Int) - 1) - ((k : Nat) : Int)).toNat]?.getD TubeNode.zero).Node).Time) - (((l[(w64 ((((l.length : Int) - 1) - ((k : Nat) : Int)) - 1)).toNat]?.getD TubeNode.zero).Node).Time)))), (50, .int .i64 t), (73, .agg #[.int .i64 r1, .int .i64 r2]), (82, .int .i64 (skywayref1_Mix (((l[(w64 ((((l.length : Int) - 1) - ((k : Nat) : Int)) - 1)).toNat]?.getD TubeNode.zero).Node).Height) (((l[(((l.length : Int) - 1) - ((k : Nat) : Int)).toNat]?.getD TubeNode.zero).Node).Height) (w64 (t - (((l[(w64 ((((l.length : Int) - 1) - ((k : Nat) : Int)) - 1)).toNat]?.getD TubeNode.zero).Node).Time))) (w64 ((((l[(((l.length : Int) - 1) - ((k : Nat) : Int)).toNat]?.getD TubeNode.zero).Node).Time) - (((l[(w64 ((((l.length : Int) - 1) - ((k : Nat) : Int)) - 1)).toNat]?.getD TubeNode.zero).Node).Time)))))] (fun w _ => skywayref1_Mix_w (((l[(w64 ((((l.length : Int) - 1) - ((k : Nat) : Int)) - 1)).toNat]?.getD TubeNode.zero).Node).Height) (((l[(((l.length : Int) - 1) - ((k : Nat) : Int)).toNat]?.getD TubeNode.zero).Node).Height) (w64 (t - (((l[(w64 ((((l.length : Int) - 1) - ((k : Nat) : Int)) - 1)).toNat]?.getD TubeNode.zero).Node).Time))) (w64 ((((l[(((l.length : Int) - 1) - ((k : Nat) : Int)).toNat]?.getD TubeNode.zero).Node).Time) - (((l[(w64 ((((l.length : Int) - 1) - ((k : Nat) : Int)) - 1)).toNat]?.getD TubeNode.zero).Node).Time))) w (by first | exact (node_side hok hlt h2).1 | exact (node_side hok hlt h2).2.1 | exact (node_side hok hlt h2).2.2.1)) rfl (by kernel_rfl) (by kernel_rfl) ?_
          generalize hr3 : skywayref1_Mix (((l[(w64 ((((l.length : Int) - 1) - ((k : Nat) : Int)) - 1)).toNat]?.getD TubeNode.zero).Node).Height) (((l[(((l.length : Int) - 1) - ((k : Nat) : Int)).toNat]?.getD TubeNode.zero).Node).Height) (w64 (t - (((l[(w64 ((((l.length : Int) - 1) - ((k : Nat) : Int)) - 1)).toNat]?.getD TubeNode.zero).Node).Time))) (w64 ((((l[(((l.length : Int) - 1) - ((k : Nat) : Int)).toNat]?.getD TubeNode.zero).Node).Time) - (((l[(w64 ((((l.length : Int) - 1) - ((k : Nat) : Int)) - 1)).toNat]?.getD TubeNode.zero).Node).Time))) = r3
          refine TQ.run 40 [0, 1] [(4, .pointer (some ⟨b1, 0, none⟩)), (6, .pointer (some ⟨b2, 0, none⟩)), (7, .pointer (some ⟨b3, 0, none⟩)), (8, .int .i64 (w64 (t - (((l[(w64 ((((l.length : Int) - 1) - ((k : Nat) : Int)) - 1)).toNat]?.getD TubeNode.zero).Node).Time)))), (9, .int .i64 (w64 ((((l[(((l.length : Int) - 1) - ((k : Nat) : Int)).toNat]?.getD TubeNode.zero).Node).Time) - (((l[(w64 ((((l.length : Int) - 1) - ((k : Nat) : Int)) - 1)).toNat]?.getD TubeNode.zero).Node).Time)))), (83, .agg #[.int .i64 t, .int .i64 r1, .int .i64 r2, .int .i64 r3]), (85, .int .i64 ((l[(w64 ((((l.length : Int) - 1) - ((k : Nat) : Int)) - 1)).toNat]?.getD TubeNode.zero).Radius)), (87, .int .i64 ((l[(((l.length : Int) - 1) - ((k : Nat) : Int)).toNat]?.getD TubeNode.zero).Radius)), (88, .int .i64 (w64 (t - (((l[(w64 ((((l.length : Int) - 1) - ((k : Nat) : Int)) - 1)).toNat]?.getD TubeNode.zero).Node).Time)))), (89, .int .i64 (w64 ((((l[(((l.length : Int) - 1) - ((k : Nat) : Int)).toNat]?.getD TubeNode.zero).Node).Time) - (((l[(w64 ((((l.length : Int) - 1) - ((k : Nat) : Int)) - 1)).toNat]?.getD TubeNode.zero).Node).Time))))] rfl ⟨by kernel_rfl, by kernel_rfl⟩ ?_
          refine TQ.call (some 90) [(4, .pointer (some ⟨b1, 0, none⟩)), (6, .pointer (some ⟨b2, 0, none⟩)), (7, .pointer (some ⟨b3, 0, none⟩)), (8, .int .i64 (w64 (t - (((l[(w64 ((((l.length : Int) - 1) - ((k : Nat) : Int)) - 1)).toNat]?.getD TubeNode.zero).Node).Time)))), (9, .int .i64 (w64 ((((l[(((l.length : Int) - 1) - ((k : Nat) : Int)).toNat]?.getD TubeNode.zero).Node).Time) - (((l[(w64 ((((l.length : Int) - 1) - ((k : Nat) : Int)) - 1)).toNat]?.getD TubeNode.zero).Node).Time)))), (83, .agg #[.int .i64 t, .int .i64 r1, .int .i64 r2, .int .i64 r3]), (90, .int .i64 (skywayref1_MixUp ((l[(w64 ((((l.length : Int) - 1) - ((k : Nat) : Int)) - 1)).toNat]?.getD TubeNode.zero).Radius) ((l[(((l.length : Int) - 1) - ((k : Nat) : Int)).toNat]?.getD TubeNode.zero).Radius) (w64 (t - (((l[(w64 ((((l.length : Int) - 1) - ((k : Nat) : Int)) - 1)).toNat]?.getD TubeNode.zero).Node).Time))) (w64 ((((l[(((l.length : Int) - 1) - ((k : Nat) : Int)).toNat]?.getD TubeNode.zero).Node).Time) - (((l[(w64 ((((l.length : Int) - 1) - ((k : Nat) : Int)) - 1)).toNat]?.getD TubeNode.zero).Node).Time)))))] (fun w _ => skywayref1_MixUp_w ((l[(w64 ((((l.length : Int) - 1) - ((k : Nat) : Int)) - 1)).toNat]?.getD TubeNode.zero).Radius) ((l[(((l.length : Int) - 1) - ((k : Nat) : Int)).toNat]?.getD TubeNode.zero).Radius) (w64 (t - (((l[(w64 ((((l.length : Int) - 1) - ((k : Nat) : Int)) - 1)).toNat]?.getD TubeNode.zero).Node).Time))) (w64 ((((l[(((l.length : Int) - 1) - ((k : Nat) : Int)).toNat]?.getD TubeNode.zero).Node).Time) - (((l[(w64 ((((l.length : Int) - 1) - ((k : Nat) : Int)) - 1)).toNat]?.getD TubeNode.zero).Node).Time))) w (by first | exact (node_side hok hlt h2).2.2.2.1 | exact (node_side hok hlt h2).2.2.2.2)) rfl (by kernel_rfl) (by kernel_rfl) ?_
          generalize hr4 : skywayref1_MixUp ((l[(w64 ((((l.length : Int) - 1) - ((k : Nat) : Int)) - 1)).toNat]?.getD TubeNode.zero).Radius) ((l[(((l.length : Int) - 1) - ((k : Nat) : Int)).toNat]?.getD TubeNode.zero).Radius) (w64 (t - (((l[(w64 ((((l.length : Int) - 1) - ((k : Nat) : Int)) - 1)).toNat]?.getD TubeNode.zero).Node).Time))) (w64 ((((l[(((l.length : Int) - 1) - ((k : Nat) : Int)).toNat]?.getD TubeNode.zero).Node).Time) - (((l[(w64 ((((l.length : Int) - 1) - ((k : Nat) : Int)) - 1)).toNat]?.getD TubeNode.zero).Node).Time))) = r4
          refine TQ.run 47 [0, 1] [(4, .pointer (some ⟨b1, 0, none⟩)), (83, .agg #[.int .i64 t, .int .i64 r1, .int .i64 r2, .int .i64 r3]), (90, .int .i64 r4), (92, .int .i64 ((l[(w64 ((((l.length : Int) - 1) - ((k : Nat) : Int)) - 1)).toNat]?.getD TubeNode.zero).Band)), (94, .int .i64 ((l[(((l.length : Int) - 1) - ((k : Nat) : Int)).toNat]?.getD TubeNode.zero).Band)), (95, .int .i64 (w64 (t - (((l[(w64 ((((l.length : Int) - 1) - ((k : Nat) : Int)) - 1)).toNat]?.getD TubeNode.zero).Node).Time)))), (96, .int .i64 (w64 ((((l[(((l.length : Int) - 1) - ((k : Nat) : Int)).toNat]?.getD TubeNode.zero).Node).Time) - (((l[(w64 ((((l.length : Int) - 1) - ((k : Nat) : Int)) - 1)).toNat]?.getD TubeNode.zero).Node).Time))))] rfl ⟨by kernel_rfl, by kernel_rfl⟩ ?_
          refine TQ.call (some 97) [(4, .pointer (some ⟨b1, 0, none⟩)), (83, .agg #[.int .i64 t, .int .i64 r1, .int .i64 r2, .int .i64 r3]), (90, .int .i64 r4), (97, .int .i64 (skywayref1_MixUp ((l[(w64 ((((l.length : Int) - 1) - ((k : Nat) : Int)) - 1)).toNat]?.getD TubeNode.zero).Band) ((l[(((l.length : Int) - 1) - ((k : Nat) : Int)).toNat]?.getD TubeNode.zero).Band) (w64 (t - (((l[(w64 ((((l.length : Int) - 1) - ((k : Nat) : Int)) - 1)).toNat]?.getD TubeNode.zero).Node).Time))) (w64 ((((l[(((l.length : Int) - 1) - ((k : Nat) : Int)).toNat]?.getD TubeNode.zero).Node).Time) - (((l[(w64 ((((l.length : Int) - 1) - ((k : Nat) : Int)) - 1)).toNat]?.getD TubeNode.zero).Node).Time)))))] (fun w _ => skywayref1_MixUp_w ((l[(w64 ((((l.length : Int) - 1) - ((k : Nat) : Int)) - 1)).toNat]?.getD TubeNode.zero).Band) ((l[(((l.length : Int) - 1) - ((k : Nat) : Int)).toNat]?.getD TubeNode.zero).Band) (w64 (t - (((l[(w64 ((((l.length : Int) - 1) - ((k : Nat) : Int)) - 1)).toNat]?.getD TubeNode.zero).Node).Time))) (w64 ((((l[(((l.length : Int) - 1) - ((k : Nat) : Int)).toNat]?.getD TubeNode.zero).Node).Time) - (((l[(w64 ((((l.length : Int) - 1) - ((k : Nat) : Int)) - 1)).toNat]?.getD TubeNode.zero).Node).Time))) w (by first | exact (node_side hok hlt h2).2.2.2.1 | exact (node_side hok hlt h2).2.2.2.2)) rfl (by kernel_rfl) (by kernel_rfl) ?_
          generalize hr5 : skywayref1_MixUp ((l[(w64 ((((l.length : Int) - 1) - ((k : Nat) : Int)) - 1)).toNat]?.getD TubeNode.zero).Band) ((l[(((l.length : Int) - 1) - ((k : Nat) : Int)).toNat]?.getD TubeNode.zero).Band) (w64 (t - (((l[(w64 ((((l.length : Int) - 1) - ((k : Nat) : Int)) - 1)).toNat]?.getD TubeNode.zero).Node).Time))) (w64 ((((l[(((l.length : Int) - 1) - ((k : Nat) : Int)).toNat]?.getD TubeNode.zero).Node).Time) - (((l[(w64 ((((l.length : Int) - 1) - ((k : Nat) : Int)) - 1)).toNat]?.getD TubeNode.zero).Node).Time))) = r5
          refine TQ.run 49 [] [(4, .pointer (some ⟨b1, 0, none⟩)), (98, .agg #[.int .i64 t, .int .i64 r1, .int .i64 r2, .int .i64 r3, .int .i64 r4, .int .i64 r5])] rfl ⟨by kernel_rfl, by kernel_rfl⟩ ?_
          refine TQ.tail rfl ?_
          refine TL.write 2 (fun _ => [(4, .pointer (some ⟨b1, 0, none⟩))]) (fun _ => [.inl (b2, .cells (TubeNode.c (l[(w64 ((((l.length : Int) - 1) - ((k : Nat) : Int)) - 1)).toNat]?.getD TubeNode.zero)) 57 (0, 0)), .inl (b3, .cells (TubeNode.c (l[(((l.length : Int) - 1) - ((k : Nat) : Int)).toNat]?.getD TubeNode.zero)) 57 (0, 0)), .inl (b1, .cells #[.int .i64 t, .int .i64 r1, .int .i64 r2, .int .i64 r3, .int .i64 r4, .int .i64 r5] 57 (0, 0))]) (fun _ => ⟨by kernel_rfl, by kernel_rfl⟩) (fun _ => ?_)
          refine TL.next rfl ?_
          refine TC.ret ?_
          refine TE.ret_block (TE.ret_then (TE.ret_then (TE.ret_block (TE.ret_then (TE.ret_then ?_)))))
          have e : skywayref1_Node l t = (⟨⟨t, ⟨r1, r2⟩, r3⟩, r4, r5⟩ : TubeNode) := by subst hr1 hr2 hr3 hr4 hr5; unfold skywayref1_Node; exact elim_r (hR.symm.trans (hI.trans (by rw [hd]; exact cond_f h2 (rfl)))) rfl
          exact TE.ret [2] (.agg #[.int .i64 t, .int .i64 r1, .int .i64 r2, .int .i64 r3, .int .i64 r4, .int .i64 r5]) ⟨by kernel_rfl, by kernel_rfl⟩ (by rw [e]; first | done | kernel_rfl)
    · have hd : (((l.length : Int) - 1).toNat) - k = 0 := by have uk_ := hok.1; have p0_ := (dec_f h1); first | omega | (simp only [w64_eq] at *; omega)
      refine TC.exit ?_
      refine TE.exit_then (TE.exit_then (TE.exit_same ?_))
      exact TE.cut () (hI.trans (by rw [hd]; exact rfl)) (by kernel_rfl) (.cons_cons _ (.slnil))
  · intro _ hJ
    refine TE.next ?_
    refine TC.seq ?_
    refine TC.region ?_
    refine TL.run 1 [] [(4, .pointer (some ⟨b1, 0, none⟩)), (99, .slice A_l l.length c_l)] rfl ⟨by kernel_rfl, by kernel_rfl⟩ ?_
    refine TL.val (sV (Instr.indexAt 53 (.slice A_l l.length c_l) (.int .i64 0))) (some 100) (.pointer (some ((A_l.getD noAddr).add (0 * 6)))) [(4, .pointer (some ⟨b1, 0, none⟩)), (100, .pointer (some ((A_l.getD noAddr).add (0 * 6))))] (fun w hM => run_index (h_l.sat hM) (by simp) (by kernel_rfl) (by have uk_ := hok.1; first | omega | (simp only [List.length_drop]; omega) | (simp only [w64_eq]; omega) | exact (tm_in (by (first | (rw [w64_id (by omega)]; omega) | (simp only [w64_eq]; omega))) (by omega)).1 | exact (tm_in (by (first | (rw [w64_id (by omega)]; omega) | (simp only [w64_eq]; omega))) (by omega)).2.1 | exact (tm_in (by (first | (rw [w64_id (by omega)]; omega) | (simp only [w64_eq]; omega))) (by omega)).2.2 | (simp only [List.length_take] at *; omega) | (simp <;> omega)) (by have uk_ := hok.1; first | omega | (simp only [List.length_drop]; omega) | (simp only [w64_eq]; omega) | exact (tm_in (by (first | (rw [w64_id (by omega)]; omega) | (simp only [w64_eq]; omega))) (by omega)).1 | exact (tm_in (by (first | (rw [w64_id (by omega)]; omega) | (simp only [w64_eq]; omega))) (by omega)).2.1 | exact (tm_in (by (first | (rw [w64_id (by omega)]; omega) | (simp only [w64_eq]; omega))) (by omega)).2.2 | (simp only [List.length_take] at *; omega) | (simp <;> omega))) (by kernel_rfl) (by kernel_rfl) ?_
    refine TL.val (sV (Instr.loadAt 57 (.pointer (some ((A_l.getD noAddr).add (0 * 6)))))) (some 101) (TubeNode.v (l[0]?.getD TubeNode.zero)) [(4, .pointer (some ⟨b1, 0, none⟩)), (101, TubeNode.v (l[0]?.getD TubeNode.zero))] (fun w hM => run_load_agg (n := 6) (off := 0) (i := 0) (TubeNode.v (l[0]?.getD TubeNode.zero)) (h_l.sat hM) (map_at (getD_at _ _ TubeNode.zero (by have uk_ := hok.1; first | omega | (simp only [List.length_drop]; omega) | (simp only [w64_eq]; omega) | exact (tm_in (by (first | (rw [w64_id (by omega)]; omega) | (simp only [w64_eq]; omega))) (by omega)).1 | exact (tm_in (by (first | (rw [w64_id (by omega)]; omega) | (simp only [w64_eq]; omega))) (by omega)).2.1 | exact (tm_in (by (first | (rw [w64_id (by omega)]; omega) | (simp only [w64_eq]; omega))) (by omega)).2.2 | (simp only [List.length_take] at *; omega) | (simp <;> omega)))) (by kernel_rfl) (by kernel_rfl) (by kernel_rfl)) (by kernel_rfl) (by kernel_rfl) ?_
    refine TL.write 0 (fun _ => [(4, .pointer (some ⟨b1, 0, none⟩))]) (fun _ => [.inl (b1, .cells (TubeNode.c (l[0]?.getD TubeNode.zero)) 57 (0, 0))]) (fun _ => ⟨by kernel_rfl, by kernel_rfl⟩) (fun _ => ?_)
    refine TL.next rfl ?_
    refine TC.ret ?_
    have e : skywayref1_Node l t = (l[0]?.getD TubeNode.zero) := by unfold skywayref1_Node; exact elim_l (hR.symm.trans hJ) (rfl)
    exact TE.ret [0] (TubeNode.v (l[0]?.getD TubeNode.zero)) ⟨by kernel_rfl, by kernel_rfl⟩ (by rw [e]; first | done | kernel_rfl)

def skywaylaw1_tubeWorks : Bool :=
  let r1 := skywaylaw1_node 0 0 0 0 10 0
  let r2 := skywaylaw1_node 4 10 0 0 11 0
  let r3 := tube_At ([r1, r2]) 1
  cond (r3.2 == 0) (
    let r4 := skywaylaw1_node 1 2 0 0 11 0
    cond (TubeNode.eqb r3.1 r4) (
      let r5 := tube_Check ([])
      r5 == 3) (
      false)) (
    false)

set_option maxRecDepth 100000 in
theorem skywaylaw1_tubeWorks_w (w : World) : Calls Try.prog 26 #[] w (Ret w (.bool (skywaylaw1_tubeWorks))) := by
  refine calls_intro (vs := []) (w := w) Try.func26 rfl Try.ntmps26 rfl ?_
  refine TC.weak [] (by kernel_rfl) ?_
  refine TC.seq ?_
  refine TC.region ?_
  refine TL.run 1 [] [] rfl ⟨by kernel_rfl, by kernel_rfl⟩ ?_
  refine TL.next rfl ?_
  refine TC.seq ?_
  refine TC.region ?_
  refine TL.call (some 4) [(4, TubeNode.v (skywaylaw1_node 0 0 0 0 10 0))] (fun w _ => skywaylaw1_node_w 0 0 0 0 10 0 w) (by kernel_rfl) (by kernel_rfl) ?_
  generalize hr1 : skywaylaw1_node 0 0 0 0 10 0 = r1
  refine TL.call (some 5) [(4, TubeNode.v r1), (5, TubeNode.v (skywaylaw1_node 4 10 0 0 11 0))] (fun w _ => skywaylaw1_node_w 4 10 0 0 11 0 w) (by kernel_rfl) (by kernel_rfl) ?_
  generalize hr2 : skywaylaw1_node 4 10 0 0 11 0 = r2
  refine TL.write 0 (fun b1 => [(6, .slice (some ⟨b1, 0, none⟩) 2 2)]) (fun b1 => [.inl (b1, .cells #[.int .i64 r1.Node.Time, .int .i64 r1.Node.At.X, .int .i64 r1.Node.At.Y, .int .i64 r1.Node.Height, .int .i64 r1.Radius, .int .i64 r1.Band, .int .i64 r2.Node.Time, .int .i64 r2.Node.At.X, .int .i64 r2.Node.At.Y, .int .i64 r2.Node.Height, .int .i64 r2.Radius, .int .i64 r2.Band] 57 (0, 0))]) (fun b1 => ⟨by kernel_rfl, by kernel_rfl⟩) (fun b1 => ?_)
  refine TL.call (some 7) [(7, .tuple #[TubeNode.v ((tube_At ([r1, r2]) 1).1), .int .i64 ((tube_At ([r1, r2]) 1).2)])] (fun w hM => tube_At_w (some ⟨b1, 0, none⟩) 2 ([r1, r2]) 1 w (Rd.lit hM 0 _ rfl (by kernel_rfl) (by kernel_rfl) (by kernel_rfl)) (Nat.le_refl _)) (by kernel_rfl) (by kernel_rfl) ?_
  generalize hr3 : tube_At ([r1, r2]) 1 = r3
  refine TL.run 7 [] [(8, TubeNode.v r3.1), (9, .int .i64 r3.2)] rfl ⟨by kernel_rfl, by kernel_rfl⟩ ?_
  refine TL.write 0 (fun b2 => [(1, .pointer (some ⟨b2, 0, none⟩)), (8, TubeNode.v r3.1), (9, .int .i64 r3.2)]) (fun b2 => [.inl (b2, .cells (TubeNode.c TubeNode.zero) 57 (0, 0)), .inl (b1, .cells #[.int .i64 r1.Node.Time, .int .i64 r1.Node.At.X, .int .i64 r1.Node.At.Y, .int .i64 r1.Node.Height, .int .i64 r1.Radius, .int .i64 r1.Band, .int .i64 r2.Node.Time, .int .i64 r2.Node.At.X, .int .i64 r2.Node.At.Y, .int .i64 r2.Node.Height, .int .i64 r2.Radius, .int .i64 r2.Band] 57 (0, 0))]) (fun b2 => ⟨by kernel_rfl, by kernel_rfl⟩) (fun b2 => ?_)
  refine TL.write 0 (fun _ => [(1, .pointer (some ⟨b2, 0, none⟩)), (9, .int .i64 r3.2)]) (fun _ => [.inl (b2, .cells (TubeNode.c r3.1) 57 (0, 0)), .inl (b1, .cells #[.int .i64 r1.Node.Time, .int .i64 r1.Node.At.X, .int .i64 r1.Node.At.Y, .int .i64 r1.Node.Height, .int .i64 r1.Radius, .int .i64 r1.Band, .int .i64 r2.Node.Time, .int .i64 r2.Node.At.X, .int .i64 r2.Node.At.Y, .int .i64 r2.Node.Height, .int .i64 r2.Radius, .int .i64 r2.Band] 57 (0, 0))]) (fun _ => ⟨by kernel_rfl, by kernel_rfl⟩) (fun _ => ?_)
  refine TL.run 10 [] [(1, .pointer (some ⟨b2, 0, none⟩)), (2, .int .i64 r3.2)] rfl ⟨by kernel_rfl, by kernel_rfl⟩ ?_
  refine TL.next rfl ?_
  refine TC.seq ?_
  refine TC.draw 12 (by kernel_rfl) (by kernel_rfl) (by kernel_rfl) ?_
  refine TQ.run 3 [] [(1, .pointer (some ⟨b2, 0, none⟩)), (12, .bool (r3.2 == 0))] rfl ⟨by kernel_rfl, by kernel_rfl⟩ ?_
  refine TQ.split 12 (r3.2 == 0) (by kernel_rfl) (fun h1 => ?_) (fun h1 => ?_)
  · refine TQ.run 4 [0] [(12, .bool true), (13, TubeNode.v r3.1)] rfl ⟨by kernel_rfl, by kernel_rfl⟩ ?_
    refine TQ.call (some 14) [(12, .bool true), (13, TubeNode.v r3.1), (14, TubeNode.v (skywaylaw1_node 1 2 0 0 11 0))] (fun w _ => skywaylaw1_node_w 1 2 0 0 11 0 w) rfl (by kernel_rfl) (by kernel_rfl) ?_
    generalize hr4 : skywaylaw1_node 1 2 0 0 11 0 = r4
    refine TQ.val (sV (do eqGuard .eql 57 (.tmp 13) (.tmp 14) (TubeNode.v r3.1) (TubeNode.v r4); binOp .eql 57 (TubeNode.v r3.1) (TubeNode.v r4))) (some 15) (.bool (TubeNode.eqb r3.1 r4)) [(12, .bool true), (15, .bool (TubeNode.eqb r3.1 r4))] (fun w hM => run_eql (b := TubeNode.eqb r3.1 r4) (by kernel_rfl) (by kernel_rfl) w) rfl (by kernel_rfl) (by kernel_rfl) ?_
    refine TQ.run 8 [] [(17, .bool (TubeNode.eqb r3.1 r4))] rfl ⟨by kernel_rfl, by kernel_rfl⟩ ?_
    refine TQ.split 17 (TubeNode.eqb r3.1 r4) (by kernel_rfl) (fun h2 => ?_) (fun h2 => ?_)
    · refine TQ.call (some 18) [(17, .bool true), (18, .int .i64 (tube_Check ([])))] (fun w hM => tube_Check_w none 0 [] w (Rd.nil _ _) (Nat.le_refl _)) rfl (by kernel_rfl) (by kernel_rfl) ?_
      generalize hr5 : tube_Check ([]) = r5
      refine TQ.run 12 [] [(0, .bool (r5 == 3))] rfl ⟨by kernel_rfl, by kernel_rfl⟩ ?_
      refine TQ.next rfl ?_
      refine TC.ret ?_
      have e : skywaylaw1_tubeWorks = (r5 == 3) := by subst hr1 hr2 hr3 hr4 hr5; unfold skywaylaw1_tubeWorks; exact cond_t h1 (cond_t h2 (rfl))
      exact TE.ret [] (.bool (r5 == 3)) ⟨by kernel_rfl, by kernel_rfl⟩ (by rw [e]; first | done | kernel_rfl)
    · refine TQ.run 12 [] [(0, .bool false)] rfl ⟨by kernel_rfl, by kernel_rfl⟩ ?_
      refine TQ.next rfl ?_
      refine TC.ret ?_
      have e : skywaylaw1_tubeWorks = false := by subst hr1 hr2 hr3 hr4; unfold skywaylaw1_tubeWorks; exact cond_t h1 (cond_f h2 (rfl))
      exact TE.ret [] (.bool false) ⟨by kernel_rfl, by kernel_rfl⟩ (by rw [e]; first | done | kernel_rfl)
  · refine TQ.run 12 [] [(0, .bool false)] rfl ⟨by kernel_rfl, by kernel_rfl⟩ ?_
    refine TQ.next rfl ?_
    refine TC.ret ?_
    have e : skywaylaw1_tubeWorks = false := by subst hr1 hr2 hr3; unfold skywaylaw1_tubeWorks; exact cond_f h1 (rfl)
    exact TE.ret [] (.bool false) ⟨by kernel_rfl, by kernel_rfl⟩ (by rw [e]; first | done | kernel_rfl)

def skywaylaw1_TubeNodes (l : List TubeNode) (t : Int) : Bool :=
  let r1 := skywaylaw1_tubeWorks
  cond (!r1) (
    false) (
    let r2 := tube_At l t
    let r3 := tube_Check l
    cond (r3 != 0) (
      cond (r2.2 == r3) (
        TubeNode.eqb r2.1 TubeNode.zero) (
        false)) (
      cond (decide (t < (((l[0]?.getD TubeNode.zero).Node).Time))) (
        cond (r2.2 == 12) (
          TubeNode.eqb r2.1 TubeNode.zero) (
          false)) (
        cond (decide (t > (((l[(l.length - 1)]?.getD TubeNode.zero).Node).Time))) (
          cond (r2.2 == 12) (
            TubeNode.eqb r2.1 TubeNode.zero) (
            false)) (
          cond (r2.2 == 0) (
            let r4 := skywayref1_Node l t
            TubeNode.eqb r2.1 r4) (
            false)))))

set_option maxRecDepth 100000 in
theorem skywaylaw1_TubeNodes_w (A_l : Option Addr) (c_l : Nat) (l : List TubeNode) (t : Int) (w : World) (h_l : Rd w 6 A_l (l.map TubeNode.c)) (hc_l : l.length ≤ c_l) : Calls Try.prog 6 #[.slice A_l l.length c_l, .int .i64 t] w (Ret w (.bool (skywaylaw1_TubeNodes l t))) := by
  have s_l := h_l.short; rw [List.length_map] at s_l
  refine calls_intro (vs := [.slice A_l l.length c_l, .int .i64 t]) (w := w) Try.func6 rfl Try.ntmps6 rfl ?_
  refine TC.weak [(0, .slice A_l l.length c_l), (1, .int .i64 t)] (by kernel_rfl) ?_
  refine TC.seq ?_
  refine TC.region ?_
  refine TL.run 1 [] [(0, .slice A_l l.length c_l), (1, .int .i64 t)] rfl ⟨by kernel_rfl, by kernel_rfl⟩ ?_
  refine TL.next rfl ?_
  refine TC.seq ?_
  refine TC.seq ?_
  refine TC.region ?_
  refine TL.call (some 8) [(0, .slice A_l l.length c_l), (1, .int .i64 t), (8, .bool ((skywaylaw1_tubeWorks)))] (fun w _ => skywaylaw1_tubeWorks_w w) (by kernel_rfl) (by kernel_rfl) ?_
  generalize hr1 : skywaylaw1_tubeWorks = r1
  refine TL.run 2 [] [(0, .slice A_l l.length c_l), (1, .int .i64 t), (9, .bool (!r1))] rfl ⟨by kernel_rfl, by kernel_rfl⟩ ?_
  refine TL.next rfl ?_
  refine TC.cond (!r1) rfl (by kernel_rfl) (fun h1 => ?_) (fun h1 => ?_)
  · refine TC.seq ?_
    refine TC.region ?_
    refine TL.run 1 [] [(4, .bool false)] rfl ⟨by kernel_rfl, by kernel_rfl⟩ ?_
    refine TL.next rfl ?_
    refine TC.ret ?_
    refine TE.ret_then ?_
    have e : skywaylaw1_TubeNodes l t = false := by subst hr1; unfold skywaylaw1_TubeNodes; exact cond_t h1 (rfl)
    exact TE.ret [] (.bool false) ⟨by kernel_rfl, by kernel_rfl⟩ (by rw [e]; first | done | kernel_rfl)
  · refine TC.skip ?_
    refine TE.next ?_
    refine TC.seq ?_
    refine TC.region ?_
    refine TL.run 2 [] [(0, .slice A_l l.length c_l), (1, .int .i64 t), (11, .slice A_l l.length c_l), (12, .int .i64 t)] rfl ⟨by kernel_rfl, by kernel_rfl⟩ ?_
    refine TL.call (some 13) [(0, .slice A_l l.length c_l), (1, .int .i64 t), (13, .tuple #[TubeNode.v ((tube_At l t).1), .int .i64 ((tube_At l t).2)])] (fun w hM => tube_At_w A_l c_l l t w (h_l.sat hM) hc_l) (by kernel_rfl) (by kernel_rfl) ?_
    generalize hr2 : tube_At l t = r2
    refine TL.run 6 [] [(0, .slice A_l l.length c_l), (1, .int .i64 t), (14, TubeNode.v r2.1), (15, .int .i64 r2.2)] rfl ⟨by kernel_rfl, by kernel_rfl⟩ ?_
    refine TL.write 0 (fun b1 => [(0, .slice A_l l.length c_l), (1, .int .i64 t), (5, .pointer (some ⟨b1, 0, none⟩)), (14, TubeNode.v r2.1), (15, .int .i64 r2.2)]) (fun b1 => [.inl (b1, .cells (TubeNode.c TubeNode.zero) 57 (0, 0))]) (fun b1 => ⟨by kernel_rfl, by kernel_rfl⟩) (fun b1 => ?_)
    refine TL.write 0 (fun _ => [(0, .slice A_l l.length c_l), (1, .int .i64 t), (5, .pointer (some ⟨b1, 0, none⟩)), (15, .int .i64 r2.2)]) (fun _ => [.inl (b1, .cells (TubeNode.c r2.1) 57 (0, 0))]) (fun _ => ⟨by kernel_rfl, by kernel_rfl⟩) (fun _ => ?_)
    refine TL.run 9 [] [(0, .slice A_l l.length c_l), (1, .int .i64 t), (5, .pointer (some ⟨b1, 0, none⟩)), (6, .int .i64 r2.2)] rfl ⟨by kernel_rfl, by kernel_rfl⟩ ?_
    refine TL.next rfl ?_
    refine TC.seq ?_
    refine TC.seq ?_
    refine TC.region ?_
    refine TL.run 1 [] [(0, .slice A_l l.length c_l), (1, .int .i64 t), (5, .pointer (some ⟨b1, 0, none⟩)), (6, .int .i64 r2.2), (16, .slice A_l l.length c_l)] rfl ⟨by kernel_rfl, by kernel_rfl⟩ ?_
    refine TL.call (some 17) [(0, .slice A_l l.length c_l), (1, .int .i64 t), (5, .pointer (some ⟨b1, 0, none⟩)), (6, .int .i64 r2.2), (17, .int .i64 (tube_Check l))] (fun w hM => tube_Check_w A_l c_l l w (h_l.sat hM) hc_l) (by kernel_rfl) (by kernel_rfl) ?_
    generalize hr3 : tube_Check l = r3
    refine TL.run 3 [] [(0, .slice A_l l.length c_l), (1, .int .i64 t), (5, .pointer (some ⟨b1, 0, none⟩)), (6, .int .i64 r2.2), (7, .int .i64 r3)] rfl ⟨by kernel_rfl, by kernel_rfl⟩ ?_
    refine TL.next rfl ?_
    refine TC.seq ?_
    refine TC.region ?_
    refine TL.run 2 [] [(0, .slice A_l l.length c_l), (1, .int .i64 t), (5, .pointer (some ⟨b1, 0, none⟩)), (6, .int .i64 r2.2), (7, .int .i64 r3), (19, .bool (r3 != 0))] rfl ⟨by kernel_rfl, by kernel_rfl⟩ ?_
    refine TL.next rfl ?_
    refine TC.cond (r3 != 0) rfl (by kernel_rfl) (fun h2 => ?_) (fun h2 => ?_)
    · refine TC.seq ?_
      refine TC.region ?_
      refine TL.run 4 [] [(5, .pointer (some ⟨b1, 0, none⟩)), (23, .bool (r2.2 == r3))] rfl ⟨by kernel_rfl, by kernel_rfl⟩ ?_
      refine TL.split 23 (r2.2 == r3) (by kernel_rfl) (fun h3 => ?_) (fun h3 => ?_)
      · refine TL.run 6 [0] [(23, .bool true), (24, TubeNode.v r2.1), (25, TubeNode.v TubeNode.zero)] rfl ⟨by kernel_rfl, by kernel_rfl⟩ ?_
        refine TL.val (sV (do eqGuard .eql 57 (.tmp 24) (.tmp 25) (TubeNode.v r2.1) (TubeNode.v TubeNode.zero); binOp .eql 57 (TubeNode.v r2.1) (TubeNode.v TubeNode.zero))) (some 26) (.bool (TubeNode.eqb r2.1 TubeNode.zero)) [(23, .bool true), (26, .bool (TubeNode.eqb r2.1 TubeNode.zero))] (fun w hM => run_eql (b := TubeNode.eqb r2.1 TubeNode.zero) (by kernel_rfl) (by kernel_rfl) w) (by kernel_rfl) (by kernel_rfl) ?_
        refine TL.run 9 [] [(4, .bool (TubeNode.eqb r2.1 TubeNode.zero))] rfl ⟨by kernel_rfl, by kernel_rfl⟩ ?_
        refine TL.next rfl ?_
        refine TC.ret ?_
        refine TE.ret_then ?_
        have e : skywaylaw1_TubeNodes l t = (TubeNode.eqb r2.1 TubeNode.zero) := by subst hr1 hr2 hr3; unfold skywaylaw1_TubeNodes; exact cond_f h1 (cond_t h2 (cond_t h3 (rfl)))
        exact TE.ret [] (.bool (TubeNode.eqb r2.1 TubeNode.zero)) ⟨by kernel_rfl, by kernel_rfl⟩ (by rw [e]; first | done | kernel_rfl)
      · refine TL.run 9 [] [(4, .bool false)] rfl ⟨by kernel_rfl, by kernel_rfl⟩ ?_
        refine TL.next rfl ?_
        refine TC.ret ?_
        refine TE.ret_then ?_
        have e : skywaylaw1_TubeNodes l t = false := by subst hr1 hr2 hr3; unfold skywaylaw1_TubeNodes; exact cond_f h1 (cond_t h2 (cond_f h3 (rfl)))
        exact TE.ret [] (.bool false) ⟨by kernel_rfl, by kernel_rfl⟩ (by rw [e]; first | done | kernel_rfl)
    · refine TC.skip ?_
      refine TE.next ?_
      refine TC.seq ?_
      refine TC.seq ?_
      refine TC.region ?_
      refine TL.run 2 [] [(0, .slice A_l l.length c_l), (1, .int .i64 t), (5, .pointer (some ⟨b1, 0, none⟩)), (6, .int .i64 r2.2), (28, .int .i64 t), (29, .slice A_l l.length c_l)] rfl ⟨by kernel_rfl, by kernel_rfl⟩ ?_
      refine TL.val (sV (Instr.indexAt 53 (.slice A_l l.length c_l) (.int .i64 0))) (some 30) (.pointer (some ((A_l.getD noAddr).add (0 * 6)))) [(0, .slice A_l l.length c_l), (1, .int .i64 t), (5, .pointer (some ⟨b1, 0, none⟩)), (6, .int .i64 r2.2), (28, .int .i64 t), (30, .pointer (some ((A_l.getD noAddr).add (0 * 6))))] (fun w hM => run_index (h_l.sat hM) (by simp) (by kernel_rfl) (by have q0_ := (bne_f h2); (try have uk_ := tube_len hr3 ‹(r3 != 0) = false›); first | omega | (simp only [List.length_drop]; omega) | (simp only [w64_eq]; omega) | exact (tm_in (by (first | (rw [w64_id (by omega)]; omega) | (simp only [w64_eq]; omega))) (by omega)).1 | exact (tm_in (by (first | (rw [w64_id (by omega)]; omega) | (simp only [w64_eq]; omega))) (by omega)).2.1 | exact (tm_in (by (first | (rw [w64_id (by omega)]; omega) | (simp only [w64_eq]; omega))) (by omega)).2.2 | (simp only [List.length_take] at *; omega) | (simp <;> omega)) (by have q0_ := (bne_f h2); (try have uk_ := tube_len hr3 ‹(r3 != 0) = false›); first | omega | (simp only [List.length_drop]; omega) | (simp only [w64_eq]; omega) | exact (tm_in (by (first | (rw [w64_id (by omega)]; omega) | (simp only [w64_eq]; omega))) (by omega)).1 | exact (tm_in (by (first | (rw [w64_id (by omega)]; omega) | (simp only [w64_eq]; omega))) (by omega)).2.1 | exact (tm_in (by (first | (rw [w64_id (by omega)]; omega) | (simp only [w64_eq]; omega))) (by omega)).2.2 | (simp only [List.length_take] at *; omega) | (simp <;> omega))) (by kernel_rfl) (by kernel_rfl) ?_
      refine TL.run 5 [] [(0, .slice A_l l.length c_l), (1, .int .i64 t), (5, .pointer (some ⟨b1, 0, none⟩)), (6, .int .i64 r2.2), (28, .int .i64 t), (32, .pointer (some ((A_l.getD noAddr).add (0 * 6))))] rfl ⟨by kernel_rfl, by kernel_rfl⟩ ?_
      refine TL.val (sV (Instr.loadAt 3 (.pointer (some ((A_l.getD noAddr).add (0 * 6)))))) (some 33) (.int .i64 (((l[0]?.getD TubeNode.zero).Node).Time)) [(0, .slice A_l l.length c_l), (1, .int .i64 t), (5, .pointer (some ⟨b1, 0, none⟩)), (6, .int .i64 r2.2), (28, .int .i64 t), (33, .int .i64 (((l[0]?.getD TubeNode.zero).Node).Time))] (fun w hM => run_load_one (off := 0) (i := 0) (.int .i64 (((l[0]?.getD TubeNode.zero).Node).Time)) (h_l.sat hM) (map_at (getD_at _ _ TubeNode.zero (by have q0_ := (bne_f h2); (try have uk_ := tube_len hr3 ‹(r3 != 0) = false›); first | omega | (simp only [List.length_drop]; omega) | (simp only [w64_eq]; omega) | exact (tm_in (by (first | (rw [w64_id (by omega)]; omega) | (simp only [w64_eq]; omega))) (by omega)).1 | exact (tm_in (by (first | (rw [w64_id (by omega)]; omega) | (simp only [w64_eq]; omega))) (by omega)).2.1 | exact (tm_in (by (first | (rw [w64_id (by omega)]; omega) | (simp only [w64_eq]; omega))) (by omega)).2.2 | (simp only [List.length_take] at *; omega) | (simp <;> omega)))) (by kernel_rfl) (by kernel_rfl)) (by kernel_rfl) (by kernel_rfl) ?_
      refine TL.run 8 [] [(0, .slice A_l l.length c_l), (1, .int .i64 t), (5, .pointer (some ⟨b1, 0, none⟩)), (6, .int .i64 r2.2), (35, .bool (decide (t < (((l[0]?.getD TubeNode.zero).Node).Time))))] rfl ⟨by kernel_rfl, by kernel_rfl⟩ ?_
      refine TL.split 35 (decide (t < (((l[0]?.getD TubeNode.zero).Node).Time))) (by kernel_rfl) (fun h4 => ?_) (fun h4 => ?_)
      · refine TL.run 19 [] [(0, .slice A_l l.length c_l), (1, .int .i64 t), (5, .pointer (some ⟨b1, 0, none⟩)), (6, .int .i64 r2.2), (46, .bool true)] rfl ⟨by kernel_rfl, by kernel_rfl⟩ ?_
        refine TL.next rfl ?_
        refine TC.condT rfl (by kernel_rfl) ?_
        refine TC.seq ?_
        refine TC.region ?_
        refine TL.run 3 [] [(5, .pointer (some ⟨b1, 0, none⟩)), (49, .bool (r2.2 == 12))] rfl ⟨by kernel_rfl, by kernel_rfl⟩ ?_
        refine TL.split 49 (r2.2 == 12) (by kernel_rfl) (fun h5 => ?_) (fun h5 => ?_)
        · refine TL.run 5 [0] [(49, .bool true), (50, TubeNode.v r2.1), (51, TubeNode.v TubeNode.zero)] rfl ⟨by kernel_rfl, by kernel_rfl⟩ ?_
          refine TL.val (sV (do eqGuard .eql 57 (.tmp 50) (.tmp 51) (TubeNode.v r2.1) (TubeNode.v TubeNode.zero); binOp .eql 57 (TubeNode.v r2.1) (TubeNode.v TubeNode.zero))) (some 52) (.bool (TubeNode.eqb r2.1 TubeNode.zero)) [(49, .bool true), (52, .bool (TubeNode.eqb r2.1 TubeNode.zero))] (fun w hM => run_eql (b := TubeNode.eqb r2.1 TubeNode.zero) (by kernel_rfl) (by kernel_rfl) w) (by kernel_rfl) (by kernel_rfl) ?_
          refine TL.run 8 [] [(4, .bool (TubeNode.eqb r2.1 TubeNode.zero))] rfl ⟨by kernel_rfl, by kernel_rfl⟩ ?_
          refine TL.next rfl ?_
          refine TC.ret ?_
          refine TE.ret_then ?_
          have e : skywaylaw1_TubeNodes l t = (TubeNode.eqb r2.1 TubeNode.zero) := by subst hr1 hr2 hr3; unfold skywaylaw1_TubeNodes; exact cond_f h1 (cond_f h2 (cond_t h4 (cond_t h5 (rfl))))
          exact TE.ret [] (.bool (TubeNode.eqb r2.1 TubeNode.zero)) ⟨by kernel_rfl, by kernel_rfl⟩ (by rw [e]; first | done | kernel_rfl)
        · refine TL.run 8 [] [(4, .bool false)] rfl ⟨by kernel_rfl, by kernel_rfl⟩ ?_
          refine TL.next rfl ?_
          refine TC.ret ?_
          refine TE.ret_then ?_
          have e : skywaylaw1_TubeNodes l t = false := by subst hr1 hr2 hr3; unfold skywaylaw1_TubeNodes; exact cond_f h1 (cond_f h2 (cond_t h4 (cond_f h5 (rfl))))
          exact TE.ret [] (.bool false) ⟨by kernel_rfl, by kernel_rfl⟩ (by rw [e]; first | done | kernel_rfl)
      · refine TL.run 13 [] [(0, .slice A_l l.length c_l), (1, .int .i64 t), (5, .pointer (some ⟨b1, 0, none⟩)), (6, .int .i64 r2.2), (35, .bool false), (36, .int .i64 t), (37, .slice A_l l.length c_l), (40, .int .i64 (w64 ((l.length : Int) - 1)))] rfl ⟨by kernel_rfl, by kernel_rfl⟩ ?_
        refine TL.rw 40 (.int .i64 (w64 ((l.length : Int) - 1))) (.int .i64 ((l.length - 1 : Nat) : Int)) (by kernel_rfl) (w64_pred l.length (by have q0_ := (bne_f h2); have q1_ := (dec_f h4); (try have uk_ := tube_len hr3 ‹(r3 != 0) = false›); first | omega | (simp only [List.length_drop]; omega) | (simp only [w64_eq]; omega) | exact (tm_in (by (first | (rw [w64_id (by omega)]; omega) | (simp only [w64_eq]; omega))) (by omega)).1 | exact (tm_in (by (first | (rw [w64_id (by omega)]; omega) | (simp only [w64_eq]; omega))) (by omega)).2.1 | exact (tm_in (by (first | (rw [w64_id (by omega)]; omega) | (simp only [w64_eq]; omega))) (by omega)).2.2 | (simp only [List.length_take] at *; omega) | (simp <;> omega))) ?_
        refine TL.val (sV (Instr.indexAt 53 (.slice A_l l.length c_l) (.int .i64 ((l.length - 1 : Nat) : Int)))) (some 41) (.pointer (some ((A_l.getD noAddr).add ((l.length - 1) * 6)))) [(0, .slice A_l l.length c_l), (1, .int .i64 t), (5, .pointer (some ⟨b1, 0, none⟩)), (6, .int .i64 r2.2), (35, .bool false), (36, .int .i64 t), (41, .pointer (some ((A_l.getD noAddr).add ((l.length - 1) * 6))))] (fun w hM => run_index (h_l.sat hM) (by simp) (by kernel_rfl) (by have q0_ := (bne_f h2); have q1_ := (dec_f h4); (try have uk_ := tube_len hr3 ‹(r3 != 0) = false›); first | omega | (simp only [List.length_drop]; omega) | (simp only [w64_eq]; omega) | exact (tm_in (by (first | (rw [w64_id (by omega)]; omega) | (simp only [w64_eq]; omega))) (by omega)).1 | exact (tm_in (by (first | (rw [w64_id (by omega)]; omega) | (simp only [w64_eq]; omega))) (by omega)).2.1 | exact (tm_in (by (first | (rw [w64_id (by omega)]; omega) | (simp only [w64_eq]; omega))) (by omega)).2.2 | (simp only [List.length_take] at *; omega) | (simp <;> omega)) (by have q0_ := (bne_f h2); have q1_ := (dec_f h4); (try have uk_ := tube_len hr3 ‹(r3 != 0) = false›); first | omega | (simp only [List.length_drop]; omega) | (simp only [w64_eq]; omega) | exact (tm_in (by (first | (rw [w64_id (by omega)]; omega) | (simp only [w64_eq]; omega))) (by omega)).1 | exact (tm_in (by (first | (rw [w64_id (by omega)]; omega) | (simp only [w64_eq]; omega))) (by omega)).2.1 | exact (tm_in (by (first | (rw [w64_id (by omega)]; omega) | (simp only [w64_eq]; omega))) (by omega)).2.2 | (simp only [List.length_take] at *; omega) | (simp <;> omega))) (by kernel_rfl) (by kernel_rfl) ?_
        refine TL.run 16 [] [(0, .slice A_l l.length c_l), (1, .int .i64 t), (5, .pointer (some ⟨b1, 0, none⟩)), (6, .int .i64 r2.2), (35, .bool false), (36, .int .i64 t), (43, .pointer (some ((A_l.getD noAddr).add ((l.length - 1) * 6))))] rfl ⟨by kernel_rfl, by kernel_rfl⟩ ?_
        refine TL.val (sV (Instr.loadAt 3 (.pointer (some ((A_l.getD noAddr).add ((l.length - 1) * 6)))))) (some 44) (.int .i64 (((l[(l.length - 1)]?.getD TubeNode.zero).Node).Time)) [(0, .slice A_l l.length c_l), (1, .int .i64 t), (5, .pointer (some ⟨b1, 0, none⟩)), (6, .int .i64 r2.2), (35, .bool false), (36, .int .i64 t), (44, .int .i64 (((l[(l.length - 1)]?.getD TubeNode.zero).Node).Time))] (fun w hM => run_load_one (off := 0) (i := (l.length - 1)) (.int .i64 (((l[(l.length - 1)]?.getD TubeNode.zero).Node).Time)) (h_l.sat hM) (map_at (getD_at _ _ TubeNode.zero (by have q0_ := (bne_f h2); have q1_ := (dec_f h4); (try have uk_ := tube_len hr3 ‹(r3 != 0) = false›); first | omega | (simp only [List.length_drop]; omega) | (simp only [w64_eq]; omega) | exact (tm_in (by (first | (rw [w64_id (by omega)]; omega) | (simp only [w64_eq]; omega))) (by omega)).1 | exact (tm_in (by (first | (rw [w64_id (by omega)]; omega) | (simp only [w64_eq]; omega))) (by omega)).2.1 | exact (tm_in (by (first | (rw [w64_id (by omega)]; omega) | (simp only [w64_eq]; omega))) (by omega)).2.2 | (simp only [List.length_take] at *; omega) | (simp <;> omega)))) (by kernel_rfl) (by kernel_rfl)) (by kernel_rfl) (by kernel_rfl) ?_
        refine TL.run 19 [] [(0, .slice A_l l.length c_l), (1, .int .i64 t), (5, .pointer (some ⟨b1, 0, none⟩)), (6, .int .i64 r2.2), (46, .bool (decide (t > (((l[(l.length - 1)]?.getD TubeNode.zero).Node).Time))))] rfl ⟨by kernel_rfl, by kernel_rfl⟩ ?_
        refine TL.next rfl ?_
        refine TC.cond (decide (t > (((l[(l.length - 1)]?.getD TubeNode.zero).Node).Time))) rfl (by kernel_rfl) (fun h6 => ?_) (fun h6 => ?_)
        · refine TC.seq ?_
          refine TC.region ?_
          refine TL.run 3 [] [(5, .pointer (some ⟨b1, 0, none⟩)), (49, .bool (r2.2 == 12))] rfl ⟨by kernel_rfl, by kernel_rfl⟩ ?_
          refine TL.split 49 (r2.2 == 12) (by kernel_rfl) (fun h7 => ?_) (fun h7 => ?_)
          · refine TL.run 5 [0] [(49, .bool true), (50, TubeNode.v r2.1), (51, TubeNode.v TubeNode.zero)] rfl ⟨by kernel_rfl, by kernel_rfl⟩ ?_
            refine TL.val (sV (do eqGuard .eql 57 (.tmp 50) (.tmp 51) (TubeNode.v r2.1) (TubeNode.v TubeNode.zero); binOp .eql 57 (TubeNode.v r2.1) (TubeNode.v TubeNode.zero))) (some 52) (.bool (TubeNode.eqb r2.1 TubeNode.zero)) [(49, .bool true), (52, .bool (TubeNode.eqb r2.1 TubeNode.zero))] (fun w hM => run_eql (b := TubeNode.eqb r2.1 TubeNode.zero) (by kernel_rfl) (by kernel_rfl) w) (by kernel_rfl) (by kernel_rfl) ?_
            refine TL.run 8 [] [(4, .bool (TubeNode.eqb r2.1 TubeNode.zero))] rfl ⟨by kernel_rfl, by kernel_rfl⟩ ?_
            refine TL.next rfl ?_
            refine TC.ret ?_
            refine TE.ret_then ?_
            have e : skywaylaw1_TubeNodes l t = (TubeNode.eqb r2.1 TubeNode.zero) := by subst hr1 hr2 hr3; unfold skywaylaw1_TubeNodes; exact cond_f h1 (cond_f h2 (cond_f h4 (cond_t h6 (cond_t h7 (rfl)))))
            exact TE.ret [] (.bool (TubeNode.eqb r2.1 TubeNode.zero)) ⟨by kernel_rfl, by kernel_rfl⟩ (by rw [e]; first | done | kernel_rfl)
          · refine TL.run 8 [] [(4, .bool false)] rfl ⟨by kernel_rfl, by kernel_rfl⟩ ?_
            refine TL.next rfl ?_
            refine TC.ret ?_
            refine TE.ret_then ?_
            have e : skywaylaw1_TubeNodes l t = false := by subst hr1 hr2 hr3; unfold skywaylaw1_TubeNodes; exact cond_f h1 (cond_f h2 (cond_f h4 (cond_t h6 (cond_f h7 (rfl)))))
            exact TE.ret [] (.bool false) ⟨by kernel_rfl, by kernel_rfl⟩ (by rw [e]; first | done | kernel_rfl)
        · refine TC.skip ?_
          refine TE.next ?_
          refine TC.seq ?_
          refine TC.draw 10 (by kernel_rfl) (by kernel_rfl) (by kernel_rfl) ?_
          refine TQ.run 3 [] [(0, .slice A_l l.length c_l), (1, .int .i64 t), (5, .pointer (some ⟨b1, 0, none⟩)), (56, .bool (r2.2 == 0))] rfl ⟨by kernel_rfl, by kernel_rfl⟩ ?_
          refine TQ.split 56 (r2.2 == 0) (by kernel_rfl) (fun h8 => ?_) (fun h8 => ?_)
          · refine TQ.run 6 [0] [(56, .bool true), (57, TubeNode.v r2.1), (58, .slice A_l l.length c_l), (59, .int .i64 t)] rfl ⟨by kernel_rfl, by kernel_rfl⟩ ?_
            refine TQ.call (some 60) [(56, .bool true), (57, TubeNode.v r2.1), (60, TubeNode.v (skywayref1_Node l t))] (fun w hM => skywayref1_Node_w A_l c_l l t w (h_l.sat hM) hc_l (tube_ok (by have := ‹(r3 != 0) = false›; rw [hr3]; simpa using this))) rfl (by kernel_rfl) (by kernel_rfl) ?_
            generalize hr4 : skywayref1_Node l t = r4
            refine TQ.val (sV (do eqGuard .eql 57 (.tmp 57) (.tmp 60) (TubeNode.v r2.1) (TubeNode.v r4); binOp .eql 57 (TubeNode.v r2.1) (TubeNode.v r4))) (some 61) (.bool (TubeNode.eqb r2.1 r4)) [(56, .bool true), (61, .bool (TubeNode.eqb r2.1 r4))] (fun w hM => run_eql (b := TubeNode.eqb r2.1 r4) (by kernel_rfl) (by kernel_rfl) w) rfl (by kernel_rfl) (by kernel_rfl) ?_
            refine TQ.run 10 [] [(4, .bool (TubeNode.eqb r2.1 r4))] rfl ⟨by kernel_rfl, by kernel_rfl⟩ ?_
            refine TQ.next rfl ?_
            refine TC.ret ?_
            have e : skywaylaw1_TubeNodes l t = (TubeNode.eqb r2.1 r4) := by subst hr1 hr2 hr3 hr4; unfold skywaylaw1_TubeNodes; exact cond_f h1 (cond_f h2 (cond_f h4 (cond_f h6 (cond_t h8 (rfl)))))
            exact TE.ret [] (.bool (TubeNode.eqb r2.1 r4)) ⟨by kernel_rfl, by kernel_rfl⟩ (by rw [e]; first | done | kernel_rfl)
          · refine TQ.run 10 [] [(4, .bool false)] rfl ⟨by kernel_rfl, by kernel_rfl⟩ ?_
            refine TQ.next rfl ?_
            refine TC.ret ?_
            have e : skywaylaw1_TubeNodes l t = false := by subst hr1 hr2 hr3; unfold skywaylaw1_TubeNodes; exact cond_f h1 (cond_f h2 (cond_f h4 (cond_f h6 (cond_f h8 (rfl)))))
            exact TE.ret [] (.bool false) ⟨by kernel_rfl, by kernel_rfl⟩ (by rw [e]; first | done | kernel_rfl)

end Go.Sky
