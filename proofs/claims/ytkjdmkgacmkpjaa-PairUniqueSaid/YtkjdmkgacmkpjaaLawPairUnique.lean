/- The law PairUnique in plain Lean. Conditions: none that are used. -/
import Derived.Test.YtkjdmkgacmkpjaaUe
namespace Go.Sky
open Go Go.Eng Go.Glue

/-- The flights that are paired. -/
def marks : List Bool → List Int → List Bool
  | u, [] => u
  | u, x :: xs => marks (cond (decide (x < 0)) u (u.set x.toNat true)) xs

theorem fits_ok {t : Track} {l : List TubeNode} (h1 : gate_CheckTrack t = 0) (h2 : tube_Check l = 0) (h3 : (pair_fits t l).2 = true) : pair_Fits t l = (true, 0) := by
  unfold pair_Fits
  simp only [h1, h2, h3]
  rfl

section
variable {L : List Track} {T : List (List TubeNode)} {C : List Int} {c : List (List Int)} {miss : Int}
theorem uniq_L1 {l : List Track} {tubes : List (List TubeNode)} (hL : l.take (imin (l.length : Int) 6).toNat = L) (hT : tubes.take (imin (tubes.length : Int) 5).toNat = T) (q : Paired L T C c) {rows : List (List Int)} {used : List Bool} {to : List Int} {t : Int} (h : Pays miss rows used to t) :
    ∀ k, c.drop k = rows → used.length = T.length → skywaykeep2_PairUnique_L1 l tubes C to k used = .inl (marks used to) := by
  have ck := pcheck q.chk
  induction h with
  | nil taken => intro k _ _; rfl
  | skip _ ih =>
    intro k hd hu
    unfold skywaykeep2_PairUnique_L1 marks
    exact ih (k + 1) (drop_next hd).1 hu
  | @pick row rows taken to t j h1 h2 h3 _ ih =>
    intro k hd hu
    obtain ⟨d1, d2, d3⟩ := drop_next hd
    have hk : L[k]? = some (L[k]?.getD Track.zero) := getD_at L k Track.zero (by rw [← q.len]; exact d3)
    obtain ⟨r1, r2⟩ := q.row k row _ d2 hk
    have hj : T[j]? = some (T[j]?.getD []) := getD_at T j [] (by omega)
    obtain ⟨f1, f2⟩ := r2 j _ hj h3
    have e := fits_ok (q.trk _ (List.mem_of_getElem? hk)) (ck.2.2 _ (List.mem_of_getElem? hj)) f1
    unfold skywaykeep2_PairUnique_L1 marks
    rw [hL, hT, Int.toNat_natCast, e, show decide ((j : Int) < 0) = false by simp, cond_false, cond_false]
    simp only
    rw [show (((0 : Int) != 0) || (!true)) = false from rfl, cond_false, show taken[j]?.getD false = false from h2, cond_false]
    have := ih (k + 1) d1 (by rw [List.length_set]; exact hu)
    cases hc : decide ((L[k]?.getD Track.zero).Code ≥ 0)
    · rw [cond_false]; exact this
    · have hc := of_decide_eq_true hc
      rw [cond_true, show ((L[k]?.getD Track.zero).Code != (C[j]?.getD 0)) = false by rcases f2 with f2 | f2; omega; simpa using f2, cond_false]
      exact this
theorem miss_L1 (q : Paired L T C c) {rows : List (List Int)} {used : List Bool} {to : List Int} {t : Int} (h : Pays miss rows used to t) :
    ∀ k, c.drop k = rows → used.length = T.length → pair_Missing_L1 T to k used = .inl (marks used to) := by
  induction h with
  | nil taken => intro k _ _; rfl
  | skip _ ih =>
    intro k hd hu
    unfold pair_Missing_L1 marks
    rw [show ((decide ((-1 : Int) < (-1))) || (decide ((-1 : Int) ≥ (T.length : Int)))) = false by simp; omega]
    exact ih (k + 1) (drop_next hd).1 hu
  | @pick row rows taken to t j h1 h2 h3 _ ih =>
    intro k hd hu
    obtain ⟨d1, d2, d3⟩ := drop_next hd
    have hk : L[k]? = some (L[k]?.getD Track.zero) := getD_at L k Track.zero (by rw [← q.len]; exact d3)
    obtain ⟨r1, r2⟩ := q.row k row _ d2 hk
    unfold pair_Missing_L1 marks
    rw [show ((decide ((j : Int) < (-1))) || (decide ((j : Int) ≥ (T.length : Int)))) = false by simp; omega, cond_false, show decide ((j : Int) ≥ 0) = true by simp, cond_true, Int.toNat_natCast, show taken[j]?.getD false = false from h2, cond_false, cond_true, show decide ((j : Int) < 0) = false by simp, cond_false]
    exact ih (k + 1) d1 (by rw [List.length_set]; exact hu)
end

theorem contains_eq (s : List Int) (v : Int) : slices_Contains_int_int s v = decide (v ∈ s) := by
  have key : ∀ (xs : List Int) (k : Nat), (v ∈ xs → ∃ j : Int, 0 ≤ j ∧ slices_Index_int_int_L1 v xs k = .inr j) ∧ (v ∉ xs → slices_Index_int_int_L1 v xs k = .inl ()) := by
    intro xs
    induction xs with
    | nil => intro k; exact ⟨(fun h => by cases h), fun _ => rfl⟩
    | cons x xs ih =>
      intro k
      unfold slices_Index_int_int_L1
      cases hb : (v == x)
      · have hne : v ≠ x := by simpa using hb
        rw [cond_false]
        refine ⟨fun h => ?_, fun h => (ih _).2 fun h2 => h (List.mem_cons_of_mem _ h2)⟩
        rcases List.mem_cons.1 h with e | h
        · exact absurd e hne
        · exact (ih _).1 h
      · have he : v = x := by simpa using hb
        exact ⟨fun _ => ⟨(k : Int), by omega, rfl⟩, fun h => absurd (by rw [he]; exact List.mem_cons_self ..) h⟩
  unfold slices_Contains_int_int slices_Index_int_int
  by_cases h : v ∈ s
  · obtain ⟨j, h0, e⟩ := (key s 0).1 h
    rw [e, decide_eq_true h]
    simpa using h0
  · rw [(key s 0).2 h, decide_eq_false h]
    rfl

theorem miss_mem {time : Int} {seen : List Bool} : ∀ (xs : List (List TubeNode)) (k : Nat) (out : List Int) (j : Int), j ∈ pair_Missing_L2 time seen xs k out ↔ j ∈ out ∨ ∃ (i : Nat) (x : List TubeNode), xs[i]? = some x ∧ j = ((k + i : Nat) : Int) ∧ (tube_At x time).2 = 0 ∧ gb seen (k + i) = false
  | [], k, out, j => ⟨fun h => .inl h, fun h => h.elim id fun ⟨i, x, h, _⟩ => by cases i <;> cases h⟩
  | x :: xs, k, out, j => by
    have step : ∀ (out' : List Int) (good : Prop), (j ∈ out' ↔ j ∈ out ∨ (j = (k : Int) ∧ good)) → (good ↔ (tube_At x time).2 = 0 ∧ gb seen k = false) →
        ((j ∈ out' ∨ ∃ (i : Nat) (y : List TubeNode), xs[i]? = some y ∧ j = ((k + 1 + i : Nat) : Int) ∧ (tube_At y time).2 = 0 ∧ gb seen (k + 1 + i) = false) ↔ j ∈ out ∨ ∃ (i : Nat) (y : List TubeNode), (x :: xs)[i]? = some y ∧ j = ((k + i : Nat) : Int) ∧ (tube_At y time).2 = 0 ∧ gb seen (k + i) = false) := by
      intro out' good h1 h2
      rw [h1, h2]
      constructor
      · rintro ((h | ⟨rfl, h, h'⟩) | ⟨i, y, e1, e2, e3, e4⟩)
        · exact .inl h
        · exact .inr ⟨0, x, rfl, rfl, h, h'⟩
        · exact .inr ⟨i + 1, y, by simpa using e1, by rw [e2]; congr 1; omega, e3, by rwa [show k + (i + 1) = k + 1 + i by omega]⟩
      · rintro (h | ⟨i, y, e1, e2, e3, e4⟩)
        · exact .inl (.inl h)
        · cases i with
          | zero => injection e1 with e1; subst e1; exact .inl (.inr ⟨e2, e3, e4⟩)
          | succ i => exact .inr ⟨i, y, by simpa using e1, by rw [e2]; congr 1; omega, e3, by rwa [show k + (i + 1) = k + 1 + i by omega] at e4⟩
    unfold pair_Missing_L2
    simp only
    cases h1 : ((tube_At x time).2 == 0)
    · have h1' : (tube_At x time).2 ≠ 0 := by simpa using h1
      rw [cond_false, miss_mem xs (k + 1) out j]
      exact step out False (by simp) ⟨fun h => h.elim, fun h => h1' h.1⟩
    · have h1' : (tube_At x time).2 = 0 := by simpa using h1
      rw [cond_true]
      cases h2 : seen[k]?.getD false
      · rw [Bool.not_false, cond_true, miss_mem xs (k + 1) _ j]
        exact step _ True (by simp) ⟨fun _ => ⟨h1', h2⟩, fun _ => trivial⟩
      · rw [Bool.not_true, cond_false, miss_mem xs (k + 1) out j]
        exact step out False (by simp) ⟨fun h => h.elim, fun h => by have := h.2; unfold gb at this; rw [h2] at this; cases this⟩

theorem miss_pw {time : Int} {seen : List Bool} : ∀ (xs : List (List TubeNode)) (k : Nat) (out : List Int), out.Pairwise (· < ·) → (∀ a ∈ out, a < (k : Int)) → (pair_Missing_L2 time seen xs k out).Pairwise (· < ·) ∧ (pair_Missing_L2 time seen xs k out).length ≤ out.length + xs.length
  | [], k, out, h, _ => ⟨h, Nat.le_refl _⟩
  | x :: xs, k, out, h, hb => by
    have no := miss_pw (time := time) (seen := seen) xs (k + 1) out h fun a ha => by have := hb a ha; omega
    have yes := miss_pw (time := time) (seen := seen) xs (k + 1) (out ++ [(k : Int)]) (List.pairwise_append.2 ⟨h, List.pairwise_singleton .., fun a ha b hb2 => by rw [List.mem_singleton.1 hb2]; exact hb a ha⟩) fun a ha => by
      rcases List.mem_append.1 ha with ha | ha
      · have := hb a ha; omega
      · rw [List.mem_singleton.1 ha]; omega
    rw [List.length_append, List.length_singleton] at yes
    unfold pair_Missing_L2
    simp only
    rw [List.length_cons]
    cases ((tube_At x time).2 == 0)
    · rw [cond_false]; exact ⟨no.1, by omega⟩
    · rw [cond_true]
      cases (!(seen[k]?.getD false))
      · rw [cond_false]; exact ⟨no.1, by omega⟩
      · rw [cond_true]; exact ⟨yes.1, by omega⟩

theorem sorted_of {x : List Int} (h : x.Pairwise (· < ·)) (hl : x.length < 4611686018427387904) : slices_IsSorted_int_int x = true := by
  have key : ∀ (m k : Nat), m + k + 1 = x.length → slices_IsSorted_int_int_L1 x m k = .inl () := by
    intro m
    induction m with
    | zero => intro k _; rfl
    | succ m ih =>
      intro k hk
      have e1 : (((x.length : Int) - 1) - ((k : Nat) : Int)).toNat = m + 1 := by omega
      have e2 : (w64 ((((x.length : Int) - 1) - ((k : Nat) : Int)) - 1)).toNat = m := by rw [w64_id (by omega)]; omega
      unfold slices_IsSorted_int_int_L1
      simp only [e1, e2]
      have := List.pairwise_iff_getElem.1 h m (m + 1) (by omega) (by omega) (by omega)
      have lt : cmp_Less_int (x[m + 1]?.getD 0) (x[m]?.getD 0) = false := by
        unfold cmp_Less_int cmp_isNaN_int
        rw [List.getElem?_eq_getElem (by omega), List.getElem?_eq_getElem (by omega)]
        simp
        omega
      rw [lt, cond_false]
      exact ih (k + 1) (by omega)
  unfold slices_IsSorted_int_int
  by_cases hz : x.length = 0
  · rw [show x.length - 1 = 0 by omega]; rfl
  · rw [key (x.length - 1) 0 (by omega)]; rfl

theorem uniq_L2 {time : Int} {used : List Bool} {r : List Int × Int} : ∀ (xs : List (List TubeNode)) (k : Nat), (∀ (i : Nat) (x : List TubeNode), xs[i]? = some x → slices_Contains_int_int r.1 ((k + i : Nat) : Int) = ((tube_At x time).2 == 0 && !(gb used (k + i)))) → skywaykeep2_PairUnique_L2 time used r xs k = .inl ()
  | [], _, _ => rfl
  | x :: xs, k, h => by
    have ih := uniq_L2 (time := time) (used := used) (r := r) xs (k + 1) fun i y hy => by have := h (i + 1) y (by simpa using hy); rwa [show k + (i + 1) = k + 1 + i by omega] at this
    have h0 := h 0 x rfl
    rw [Nat.add_zero] at h0
    unfold skywaykeep2_PairUnique_L2
    simp only [h0]
    cases h1 : ((tube_At x time).2 == 0)
    · rw [cond_false]
      exact ih
    · rw [cond_true]
      rw [show (!((true && !(gb used k)) == (!(used[k]?.getD false)))) = false by unfold gb; cases used[k]?.getD false <;> rfl, cond_false]
      exact ih

theorem pair_first : pair_Best ([(⟨0, 0, 50, ⟨10000, 0⟩, ⟨0, 0⟩, 5000, 0, 0, 7, 0, 0⟩ : Track)]) ([skywaykeep2_line 100 300]) ([7]) = ([0], 0) := by kernel_rfl

theorem PairUnique_true (x0 : List Track) (x1 : List (List TubeNode)) (x2 : List Int) (x3 : Int) (_s0 : x0.length < 4611686018427387904) (_k0 : ∀ a ∈ x0, a.ok) (_s1 : x1.length < 4611686018427387904) (_k1 : ∀ r ∈ x1, r.length < 4611686018427387904 ∧ ∀ a ∈ r, a.ok) (_s2 : x2.length < 4611686018427387904) (_k2 : ∀ a ∈ x2, I64 a) (_k3 : I64 x3) : skywaykeep2_PairUnique x0 x1 x2 x3 = true := by
  unfold skywaykeep2_PairUnique
  simp only
  rw [pair_first]
  simp only
  rw [show ((0 : Int) != 0) = false from rfl, cond_false, show slices_Equal_int_int [0] [0] = true from rfl, Bool.not_true, cond_false]
  generalize hL : x0.take (imin (x0.length : Int) 6).toNat = L
  generalize hT : x1.take (imin (x1.length : Int) 5).toNat = T
  cases h4 : ((pair_Best L T x2).2 != 0)
  · rw [cond_false]
    have h4' : (pair_Best L T x2).2 = 0 := by simpa using h4
    obtain ⟨c, t, q, p⟩ := pbest h4'
    have kn := pair_know (L := L) (T := T) (C := x2) rfl h4
    generalize (pair_Best L T x2).1 = to at *
    have ck := pcheck q.chk
    have p' : Pays 2147483648 c (List.replicate T.length false) to t := by
      rcases c with _ | ⟨row, c⟩
      · cases p; exact .nil _
      · have hn : 0 < L.length := by rw [← q.len]; simp
        have := (q.row 0 row (L[0]'hn) rfl (List.getElem?_eq_getElem hn)).1
        rw [show (((row :: c)[0]?).getD []).length = T.length from this] at p
        exact p
    rw [show ((to.length : Int) != (L.length : Int)) = false by rw [kn.2.2.2]; simp, cond_false, Int.toNat_natCast, uniq_L1 hL hT q p' 0 List.drop_zero List.length_replicate]
    simp only [Sum.elim_inl]
    generalize hS : marks (List.replicate T.length false) to = S
    have em : pair_Missing to T x2 x3 = (pair_Missing_L2 x3 S T 0 [], 0) := by
      unfold pair_Missing
      have l32 := q.l32
      rw [show decide ((to.length : Int) > 32) = false by rw [kn.2.2.2]; simp; omega, cond_false]
      simp only [q.chk]
      rw [show ((0 : Int) != 0) = false from rfl, cond_false, Int.toNat_natCast, miss_L1 q p' 0 List.drop_zero List.length_replicate, hS]
      rfl
    rw [em]
    simp only
    have pw := miss_pw (time := x3) (seen := S) T 0 [] .nil (fun _ h => by cases h)
    have := ck.1
    rw [List.length_nil] at pw
    rw [uniq_L2 T 0 fun i x hx => by
      rw [contains_eq, Nat.zero_add]
      rw [Bool.eq_iff_iff, decide_eq_true_iff, miss_mem]
      simp only [List.not_mem_nil, false_or, Nat.zero_add, Bool.and_eq_true, beq_iff_eq, Bool.not_eq_true']
      constructor
      · rintro ⟨j, y, e1, e2, e3, e4⟩
        obtain rfl : i = j := by omega
        rw [hx] at e1
        injection e1 with e1
        subst e1
        exact ⟨e3, e4⟩
      · rintro ⟨e3, e4⟩
        exact ⟨i, x, hx, rfl, e3, e4⟩]
    simp only [Sum.elim_inl]
    rw [show ((0 : Int) == 0) = true from rfl, cond_true]
    exact sorted_of pw.1 (by omega)
  · rw [cond_true]
    unfold pair_Best at h4 ⊢
    simp only at h4 ⊢
    cases h5 : ((pair_Costs L T x2).2 != 0)
    · rw [h5, cond_false] at h4
      rw [cond_false]
      simp only at h4 ⊢
      have hc : assign_Check (pair_Costs L T x2).1 2147483648 ≠ 0 := fun e => by
        obtain ⟨to, e2, _⟩ := best_good e
        rw [e2] at h4
        exact Bool.false_ne_true h4
      rw [best_bad hc]
      rfl
    · rfl
end Go.Sky
