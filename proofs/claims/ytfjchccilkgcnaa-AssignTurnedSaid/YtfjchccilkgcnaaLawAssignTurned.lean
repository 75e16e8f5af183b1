/- The law AssignTurned in plain Lean. Conditions: none that are used. -/
import Derived.Test.YtfjchccilkgcnaaWg
namespace Go.Sky
open Go Go.Eng Go.Glue

theorem chk_row_of : ∀ (xs : List Int) (k : Nat), (∀ c ∈ xs, -1 ≤ c ∧ c ≤ 1099511627776) → assign_Check_L2 xs k = .inl ()
  | [], _, _ => rfl
  | x :: xs, k, h => by
    have hx := h x (by simp)
    unfold assign_Check_L2
    rw [show ((decide (x < (-1))) || (decide (x > 1099511627776))) = false by simp; omega, cond_false]
    exact chk_row_of xs (k + 1) fun c hc => h c (by simp [hc])
theorem chk_rows_of {costs : List (List Int)} {cols : Nat} (h0 : costs ≠ [] → (costs[0]?.getD []).length = cols) (hc : cols ≤ 32) : ∀ (xs : List (List Int)) (k : Nat), (∀ r ∈ xs, r ∈ costs) → (∀ r ∈ xs, r.length = cols ∧ ∀ c ∈ r, -1 ≤ c ∧ c ≤ 1099511627776) → assign_Check_L1 costs xs k = .inl ()
  | [], _, _, _ => rfl
  | x :: xs, k, hm, h => by
    have hx := h x (by simp)
    have h0' := h0 (List.ne_nil_of_mem (hm x (by simp)))
    unfold assign_Check_L1
    rw [show decide ((x.length : Int) > 32) = false by simp; omega, cond_false, show ((x.length : Int) != ((costs[0]?.getD []).length : Int)) = false by rw [h0', hx.1]; simp, cond_false, chk_row_of x 0 hx.2]
    exact chk_rows_of h0 hc xs (k + 1) (fun r hr => hm r (by simp [hr])) fun r hr => h r (by simp [hr])
theorem chk_of_good {costs : List (List Int)} {cols : Nat} {miss : Int} (g : Good costs cols miss) : assign_Check costs miss = 0 := by
  have hn := g.n1
  have hm := g.mb
  unfold assign_Check
  rw [show decide ((costs.length : Int) > 32) = false by simp; omega, cond_false, chk_rows_of (cols := cols) (fun h => g.len _ (rw_mem (List.length_pos_iff.2 h))) g.c1 costs 0 (fun _ h => h) fun r hr => ⟨g.len r hr, g.bnd r hr⟩]
  simp only [Sum.elim_inl]
  rw [show ((decide (miss < 0)) || (decide (miss > 1099511627776))) = false by simp; omega, cond_false]

theorem Good.perm {costs l : List (List Int)} {cols : Nat} {miss : Int} (g : Good costs cols miss) (p : l.Perm costs) : Good l cols miss :=
  ⟨by rw [p.length_eq]; exact g.n1, g.c1, g.mb, fun r hr => g.len r (p.mem_iff.1 hr), fun r hr => g.bnd r (p.mem_iff.1 hr)⟩

theorem turned_run (more : List Int) : ∀ (xs : List (List Int)) (k : Nat) (out : List (List Int)) (ms : List Int), more.drop k = ms → skywaykeep2_AssignTurned_L1 more xs k out = out ++ wider xs ms
  | [], k, out, ms, _ => by simp [skywaykeep2_AssignTurned_L1, wider]
  | x :: xs, k, out, ms, h => by
    unfold skywaykeep2_AssignTurned_L1
    rcases ms with _ | ⟨c, cs⟩
    · have : more.length ≤ k := by simpa using List.drop_eq_nil_iff.1 h
      rw [show decide ((k : Int) < (more.length : Int)) = false by simp; omega, cond_false]
      simp only
      rw [turned_run more xs (k + 1) _ [] (List.drop_eq_nil_of_le (by omega))]
      simp [wider, slices_Clone_int_int]
    · obtain ⟨d1, d2, d3⟩ := drop_next h
      rw [show decide ((k : Int) < (more.length : Int)) = true by simp; omega, cond_true]
      simp only
      rw [turned_run more xs (k + 1) _ cs d1, d2]
      simp [wider, slices_Clone_int_int]
theorem wider_first {costs : List (List Int)} {more : List Int} {cols : Nat} (h : costs ≠ []) (hl : ∀ r ∈ costs, r.length = cols) : ((wider costs more)[0]?.getD []).length = cols + 1 := by
  rcases costs with _ | ⟨r, rs⟩
  · exact absurd rfl h
  · have := hl r (by simp)
    rcases more with _ | ⟨c, cs⟩ <;> simp [wider, this]

theorem AssignTurned_true (x0 : List (List Int)) (x1 x2 x3 : Int) (x4 : List Int) (_s0 : x0.length < 4611686018427387904) (_k0 : ∀ r ∈ x0, r.length < 4611686018427387904 ∧ ∀ a ∈ r, I64 a) (_k1 : I64 x1) (_k2 : I64 x2) (_k3 : I64 x3) (_s4 : x4.length < 4611686018427387904) (_k4 : ∀ a ∈ x4, I64 a) : skywaykeep2_AssignTurned x0 x1 x2 x3 x4 = true := by
  unfold skywaykeep2_AssignTurned
  rw [assigns_true]
  simp only [Bool.not_true, cond_false]
  by_cases hc : assign_Check x0 x1 = 0
  · have g := chk_good hc
    have q := least_at0 hc
    rw [total_good hc]
    simp only
    by_cases hz : x0 = []
    · subst hz
      rw [val_nil q.1]
      rfl
    · have hpos : 0 < x0.length := List.length_pos_iff.2 hz
      have hn := g.n1
      rw [show (((0 : Int) != 0) || ((x0.length : Int) == 0)) = false by simp; omega, cond_false]
      have b3 := turned_in (n := x2) (costs := x0) rfl hpos hn
      have b4 := turned_in (n := x3) (costs := x0) rfl hpos hn
      generalize skywaykeep2_within x2 0 (w64 ((x0.length : Int) - 1)) = i at *
      generalize skywaykeep2_within x3 0 (w64 ((x0.length : Int) - 1)) = k at *
      have hi := getD_at x0 i.toNat [] (by omega)
      have hk := getD_at x0 k.toNat [] (by omega)
      have p := swap_perm hi hk
      generalize hl : (x0.set i.toNat (x0[k.toNat]?.getD [])).set k.toNat (x0[i.toNat]?.getD []) = l at p
      have gl := g.perm p
      have hcl := chk_of_good gl
      have ql := least_at0 hcl
      have hlpos : 0 < l.length := by rw [p.length_eq]; exact hpos
      have e0 : (l[0]?.getD []).length = (x0[0]?.getD []).length := gl.len _ (rw_mem hlpos)
      rw [total_good hcl]
      rw [e0] at ql ⊢
      have up : ∀ r ∈ l, r.length ≤ (List.replicate (x0[0]?.getD []).length false).length := fun r hr => by rw [List.length_replicate, gl.len r hr]; exact Nat.le_refl _
      have up0 : ∀ r ∈ x0, r.length ≤ (List.replicate (x0[0]?.getD []).length false).length := fun r hr => by rw [List.length_replicate, g.len r hr]; exact Nat.le_refl _
      have l1 := ql.2.1 _ (Val.perm p.symm up0 q.1)
      have l2 := q.2.1 _ (Val.perm p up ql.1)
      have ee : assign_least l x1 0 (List.replicate (x0[0]?.getD []).length false) = assign_least x0 x1 0 (List.replicate (x0[0]?.getD []).length false) := Int.le_antisymm l1 l2
      unfold bindv
      rw [turned_run x4 x0 0 [] x4 List.drop_zero, List.nil_append]
      simp only [ee]
      rw [show (((0 : Int) == 0) && (assign_least x0 x1 0 (List.replicate (x0[0]?.getD []).length false) == assign_least x0 x1 0 (List.replicate (x0[0]?.getD []).length false))) = true by simp, cond_true]
      by_cases hw : assign_Check (wider x0 x4) x1 = 0
      · rw [total_good hw]
        simp only
        rw [show ((0 : Int) != 0) = false from rfl, cond_false]
        refine decide_eq_true ?_
        refine (least_at0 hw).2.1 _ ?_
        have := Val.wide q.1 x4 (fun r hr => by rw [List.length_replicate]; exact g.len r hr)
        rw [wider_first hz g.len, List.replicate_succ']
        exact this
      · rw [total_bad hw]
        simp only
        rw [show (assign_Check (wider x0 x4) x1 != 0) = true by simpa using hw, cond_true]
  · rw [total_bad hc]
    simp only
    rw [show ((assign_Check x0 x1 != 0) || ((x0.length : Int) == 0)) = true by simp; exact .inl hc, cond_true]
    rfl
end Go.Sky
