/- The law AssignMisses in plain Lean. Conditions: none that are used. -/
import Derived.Test.YtfjchccilkgcnaaWf
namespace Go.Sky
open Go Go.Eng Go.Glue

theorem contains_mem {v : Int} : ∀ (s : List Int), v ∈ s → slices_Contains_int_int s v = true := by
  intro s hs
  have key : ∀ (xs : List Int) (k : Nat), v ∈ xs → ∃ j : Int, 0 ≤ j ∧ slices_Index_int_int_L1 v xs k = .inr j := by
    intro xs
    induction xs with
    | nil => intro k h; cases h
    | cons x xs ih =>
      intro k h
      unfold slices_Index_int_int_L1
      cases hb : (v == x)
      · rw [cond_false]
        rcases List.mem_cons.1 h with e | h
        · simp [e] at hb
        · exact ih _ h
      · exact ⟨(k : Int), by omega, rfl⟩
  obtain ⟨j, h0, e⟩ := key s 0 hs
  unfold slices_Contains_int_int slices_Index_int_int
  rw [e]
  simpa using h0

theorem containsPos_false {s : List Int} (h : ∀ a ∈ s, a < 0) : ContainsFunc_pos s = false := by
  have key : ∀ (xs : List Int) (k : Nat), (∀ a ∈ xs, a < 0) → IndexFunc_pos_L1 xs k = .inl () := by
    intro xs
    induction xs with
    | nil => intro k h; rfl
    | cons x xs ih =>
      intro k h
      unfold IndexFunc_pos_L1 skywaykeep2_AssignMisses_1
      have := h x (by simp)
      rw [show decide (x ≥ 0) = false by simp; omega]
      exact ih _ fun a ha => h a (by simp [ha])
  unfold ContainsFunc_pos IndexFunc_pos
  rw [key s 0 h]
  rfl

theorem check_miss {costs : List (List Int)} (h : assign_Check costs 0 = 0) : assign_Check costs 1099511627776 = 0 := by
  unfold assign_Check at h ⊢
  cases h1 : decide ((costs.length : Int) > 32)
  · rw [h1, cond_false] at h
    rw [cond_false]
    cases h2 : assign_Check_L1 costs costs 0 with
    | inl y => rfl
    | inr y => rw [h2] at h; exact h
  · rw [h1, cond_true] at h; exact absurd h (by decide)

theorem least0 {costs : List (List Int)} {cols : Nat} (g : Good costs cols 0) (k : Nat) {taken : List Bool} (ht : taken.length = cols) : assign_least costs 0 (k : Int) taken = 0 := by
  obtain ⟨_, h2, h3, _⟩ := least_at g k ht
  have := h2 _ (val_skip _ _)
  omega

theorem best0_run {costs : List (List Int)} {cols : Nat} (g : Good costs cols 0) : ∀ (xs : List (List Int)) (k : Nat) (out : List Int) (taken : List Bool), costs.drop k = xs → taken.length = cols → (∀ a ∈ out, a < 0) →
    ∃ to, assign_Best_L1 costs 0 xs k 0 out taken = (to, taken) ∧ ∀ a ∈ to, a < 0
  | [], k, out, taken, _, _, ho => ⟨out, rfl, ho⟩
  | x :: xs, k, out, taken, hd, ht, ho => by
    obtain ⟨d1, d2, d3⟩ := drop_next hd
    have hn := g.n1
    have ek : w64 ((k : Int) + 1) = ((k + 1 : Nat) : Int) := by rw [w64_id (by omega)]; omega
    unfold assign_Best_L1
    simp only [ek, least0 g (k + 1) ht]
    exact best0_run g xs (k + 1) _ taken d1 ht fun a ha => by
      rcases List.mem_append.1 ha with ha | ha
      · exact ho a ha
      · simp at ha; omega

theorem misses_L2 {r : List Int × Int × Int} : ∀ (xs : List Int) (k : Nat), (∀ i c, xs[i]? = some c → 0 ≤ c → c < 1073741824 → slices_Contains_int_int r.1 ((k + i : Nat) : Int) = true) → skywaykeep2_AssignMisses_L2 r xs k = .inl ()
  | [], _, _ => rfl
  | x :: xs, k, h => by
    have ih := misses_L2 (r := r) xs (k + 1) fun i c hc => by have := h (i + 1) c (by simpa using hc); rwa [show k + (i + 1) = k + 1 + i by omega] at this
    unfold skywaykeep2_AssignMisses_L2
    cases hb : ((decide (x ≥ 0)) && (decide (x < 1073741824)))
    · rw [cond_false]; exact ih
    · simp at hb
      have := h 0 x rfl hb.1 hb.2
      rw [Nat.add_zero] at this
      simp only [this]
      exact ih
theorem misses_L4 {r : List Int × Int × Int} : ∀ (xs : List Int) (k : Nat), (∀ i c, xs[i]? = some c → 0 ≤ c → c < 1073741824 → slices_Contains_int_int r.1 ((k + i : Nat) : Int) = true) → skywaykeep2_AssignMisses_L4 r xs k = .inl ()
  | [], _, _ => rfl
  | x :: xs, k, h => by
    have ih := misses_L4 (r := r) xs (k + 1) fun i c hc => by have := h (i + 1) c (by simpa using hc); rwa [show k + (i + 1) = k + 1 + i by omega] at this
    unfold skywaykeep2_AssignMisses_L4
    cases hb : ((decide (x ≥ 0)) && (decide (x < 1073741824)))
    · rw [cond_false]; exact ih
    · simp at hb
      have := h 0 x rfl hb.1 hb.2
      rw [Nat.add_zero] at this
      simp only [this]
      exact ih

theorem misses_L1 {r : List Int × Int × Int} : ∀ (xs : List (List Int)) (k : Nat), (∀ i row, xs[i]? = some row → r.1[k + i]?.getD 0 < 0 → ∀ (j : Nat) (c : Int), row[j]? = some c → 0 ≤ c → c < 1073741824 → slices_Contains_int_int r.1 (j : Int) = true) → skywaykeep2_AssignMisses_L1 r xs k = .inl ()
  | [], _, _ => rfl
  | x :: xs, k, h => by
    have ih := misses_L1 (r := r) xs (k + 1) fun i c hc => by have := h (i + 1) c (by simpa using hc); rwa [show k + (i + 1) = k + 1 + i by omega] at this
    unfold skywaykeep2_AssignMisses_L1
    cases h1 : (r.2.2 == 0)
    · rw [cond_false]; exact ih
    · rw [cond_true]
      cases h2 : decide (r.1[k]?.getD 0 < 0)
      · rw [cond_false]; exact ih
      · rw [cond_true]
        simp only
        cases h3 : decide (slices_Max_int_int (slices_Clone_int_int x ++ [-1]) ≥ 0)
        · rw [cond_false]; exact ih
        · rw [cond_true, misses_L2 x 0 fun i c hc h0 h1 => by have := h 0 x rfl (by simpa using of_decide_eq_true h2) i c hc h0 h1; rwa [Nat.zero_add]]
          exact ih
theorem misses_L3 {r : List Int × Int × Int} : ∀ (xs : List (List Int)) (k : Nat), (∀ i row, xs[i]? = some row → r.1[k + i]?.getD 0 < 0 → ∀ (j : Nat) (c : Int), row[j]? = some c → 0 ≤ c → c < 1073741824 → slices_Contains_int_int r.1 (j : Int) = true) → skywaykeep2_AssignMisses_L3 r xs k = .inl ()
  | [], _, _ => rfl
  | x :: xs, k, h => by
    have ih := misses_L3 (r := r) xs (k + 1) fun i c hc => by have := h (i + 1) c (by simpa using hc); rwa [show k + (i + 1) = k + 1 + i by omega] at this
    unfold skywaykeep2_AssignMisses_L3
    cases h1 : (r.2.2 == 0)
    · rw [cond_false]; exact ih
    · rw [cond_true]
      cases h2 : decide (r.1[k]?.getD 0 < 0)
      · rw [cond_false]; exact ih
      · rw [cond_true]
        simp only
        cases h3 : decide (slices_Max_int_int (slices_Clone_int_int x ++ [-1]) ≥ 0)
        · rw [cond_false]; exact ih
        · rw [cond_true, misses_L4 x 0 fun i c hc h0 h1 => by have := h 0 x rfl (by simpa using of_decide_eq_true h2) i c hc h0 h1; rwa [Nat.zero_add]]
          exact ih

theorem misses_at {costs : List (List Int)} (h : assign_Check costs 0 = 0) : (∃ to, assign_Best costs 0 = (to, 0, 0) ∧ ∀ a ∈ to, a < 0) ∧ (assign_Best costs 1099511627776).2.2 = 0 ∧
    ∀ i row, costs[i]? = some row → (assign_Best costs 1099511627776).1[0 + i]?.getD 0 < 0 → ∀ (j : Nat) (c : Int), row[j]? = some c → 0 ≤ c → c < 1073741824 → slices_Contains_int_int (assign_Best costs 1099511627776).1 (j : Int) = true := by
  refine ⟨?_, ?_⟩
  · have g := chk_good h
    have q : assign_least costs 0 0 (List.replicate (costs[0]?.getD []).length false) = 0 := least0 g 0 List.length_replicate
    obtain ⟨to, e, hn⟩ := best0_run g costs 0 [] (List.replicate (costs[0]?.getD []).length false) List.drop_zero List.length_replicate (fun _ h => by cases h)
    refine ⟨to, ?_, hn⟩
    unfold assign_Best
    rw [total_good h, q]
    simp only
    rw [show ((0 : Int) != 0) = false from rfl, cond_false, width_eq, Int.toNat_natCast]
    unfold bindv
    rw [e]
  · have h' := check_miss h
    have g := chk_good h'
    obtain ⟨to, e, p⟩ := best_good h'
    rw [e]
    refine ⟨rfl, fun i row hr hi j c hc h0 h1 => ?_⟩
    by_cases hm : (j : Int) ∈ to
    · exact contains_mem _ hm
    · exfalso
      obtain ⟨hj, ej⟩ := List.getElem?_eq_some_iff.1 hc
      have hx := List.mem_of_getElem? hr
      have ec : gt row j = c := by unfold gt; rw [hc]; rfl
      have v := p.better i j row hr (by simpa using hi) hj (gb_rep _ _) (by omega) hm
      have := (least_at0 h').2.1 _ v
      omega

theorem AssignMisses_one {costs : List (List Int)} (f : List Int × Int × Int → List (List Int) → Nat → ((Unit) ⊕ (Bool)))
    (hf : ∀ (r : List Int × Int × Int) (xs : List (List Int)) (k : Nat), (∀ i row, xs[i]? = some row → r.1[k + i]?.getD 0 < 0 → ∀ (j : Nat) (c : Int), row[j]? = some c → 0 ≤ c → c < 1073741824 → slices_Contains_int_int r.1 (j : Int) = true) → f r xs k = .inl ()) :
    (cond ((assign_Best costs 0).2.2 != 0) (((assign_Best costs 0).1.length : Int) == 0) (cond ((assign_Best costs 0).2.1 != 0) false (cond (ContainsFunc_pos (assign_Best costs 0).1) false
      (Sum.elim (fun _ => (assign_Best costs 1099511627776).2.2 == 0) (fun r => r) (f (assign_Best costs 1099511627776) costs 0))))) = true := by
  by_cases hc : assign_Check costs 0 = 0
  · obtain ⟨⟨to, e, hn⟩, e2, h3⟩ := misses_at hc
    rw [e]
    simp only
    rw [show ((0 : Int) != 0) = false from rfl, cond_false, cond_false, containsPos_false hn, cond_false, hf _ _ _ h3, Sum.elim_inl, e2]
    rfl
  · rw [best_bad hc]
    simp only
    rw [show (assign_Check costs 0 != 0) = true by simpa using hc, cond_true]
    rfl

theorem AssignMisses_true (x0 : List (List Int)) (_s0 : x0.length < 4611686018427387904) (_k0 : ∀ r ∈ x0, r.length < 4611686018427387904 ∧ ∀ a ∈ r, I64 a) : skywaykeep2_AssignMisses x0 = true := by
  unfold skywaykeep2_AssignMisses
  rw [assigns_true]
  simp only [Bool.not_true, cond_false]
  cases decide ((x0.length : Int) > 8)
  · rw [cond_false]; exact AssignMisses_one skywaykeep2_AssignMisses_L3 (fun r xs k => misses_L3 xs k)
  · rw [cond_true]; exact AssignMisses_one skywaykeep2_AssignMisses_L1 (fun r xs k => misses_L1 xs k)
end Go.Sky
