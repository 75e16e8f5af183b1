/- What the costs of pairs say, and which pairs are chosen. Conditions: in each theorem. -/
import Derived.Test.YtkjdmkgacmkpjaaUd
import Derived.Test.YtkjdmkgacmkpjaaPairK
namespace Go.Sky
open Go Go.Eng

theorem costs_L2 {C : List Int} {t : Track} {T : List (List TubeNode)} : ∀ (xs : List (List TubeNode)) (k : Nat) (row : List Int), T.drop k = xs → row.length = T.length →
    (pair_Costs_L2 C t xs k row).length = T.length ∧ ∀ j, (j < k → gt (pair_Costs_L2 C t xs k row) j = gt row j) ∧ (k ≤ j → ∀ tb, T[j]? = some tb → 0 ≤ gt (pair_Costs_L2 C t xs k row) j → (pair_fits t tb).2 = true ∧ (t.Code = -1 ∨ t.Code = C[j]?.getD 0))
  | [], k, row, hd, hl => ⟨hl, fun j => ⟨fun _ => rfl, fun hj tb ht _ => by
      have := List.drop_eq_nil_iff.1 hd
      rw [List.getElem?_eq_none (by omega)] at ht; cases ht⟩⟩
  | x :: xs, k, row, hd, hl => by
    obtain ⟨d1, d2, d3⟩ := drop_next hd
    have key : ∀ v : Int, (0 ≤ v → (pair_fits t x).2 = true ∧ (t.Code = -1 ∨ t.Code = C[k]?.getD 0)) → (pair_Costs_L2 C t xs (k + 1) (row.set k v)).length = T.length ∧ ∀ j, (j < k → gt (pair_Costs_L2 C t xs (k + 1) (row.set k v)) j = gt row j) ∧ (k ≤ j → ∀ tb, T[j]? = some tb → 0 ≤ gt (pair_Costs_L2 C t xs (k + 1) (row.set k v)) j → (pair_fits t tb).2 = true ∧ (t.Code = -1 ∨ t.Code = C[j]?.getD 0)) := fun v hv => by
      obtain ⟨i1, i2⟩ := costs_L2 (C := C) (t := t) xs (k + 1) (row.set k v) d1 (by rw [List.length_set]; exact hl)
      refine ⟨i1, fun j => ⟨fun hj => ?_, fun hj tb ht h0 => ?_⟩⟩
      · rw [(i2 j).1 (by omega)]; unfold gt; rw [List.getElem?_set_ne (by omega)]
      · by_cases e : j = k
        · subst e
          rw [(i2 j).1 (by omega)] at h0
          have e2 : gt (row.set j v) j = v := by unfold gt; rw [List.getElem?_set_self (by omega)]; rfl
          rw [e2] at h0
          rw [d2] at ht; injection ht with ht; subst ht
          exact hv h0
        · exact (i2 j).2 (by omega) tb ht h0
    unfold pair_Costs_L2
    simp only
    cases h1 : (pair_fits t x).2
    · rw [Bool.not_false, cond_true]; exact key _ (by omega)
    · rw [Bool.not_true, cond_false]
      cases h2 : (t.Code != (-1))
      · have h2' : t.Code = -1 := by simpa using h2
        rw [cond_false, show (t.Code == (-1)) = true by simpa using h2', cond_true]
        exact key _ fun _ => ⟨h1, .inl h2'⟩
      · rw [cond_true]
        cases h3 : (t.Code != (C[k]?.getD 0))
        · have h3' : t.Code = C[k]?.getD 0 := by simpa using h3
          rw [cond_false, show (t.Code == (-1)) = false by simpa using h2, cond_false]
          exact key _ fun _ => ⟨h1, .inr h3'⟩
        · rw [cond_true]; exact key _ (by omega)

theorem costs_L1 {T : List (List TubeNode)} {C : List Int} : ∀ (xs : List Track) (k : Nat) (out c : List (List Int)), pair_Costs_L1 T C xs k out = .inl c →
    ∃ rs, c = out ++ rs ∧ rs.length = xs.length ∧ (∀ t ∈ xs, gate_CheckTrack t = 0) ∧ ∀ (i : Nat) (row : List Int) (t : Track), rs[i]? = some row → xs[i]? = some t → row.length = T.length ∧ ∀ (j : Nat) (tb : List TubeNode), T[j]? = some tb → 0 ≤ gt row j → (pair_fits t tb).2 = true ∧ (t.Code = -1 ∨ t.Code = C[j]?.getD 0)
  | [], k, out, c, h => by
    unfold pair_Costs_L1 at h
    injection h with h
    exact ⟨[], by rw [List.append_nil]; exact h.symm, rfl, (fun _ ht => by cases ht), fun i _ _ hr => by cases i <;> cases hr⟩
  | x :: xs, k, out, c, h => by
    unfold pair_Costs_L1 at h
    simp only at h
    cases h1 : (gate_CheckTrack x != 0)
    · rw [h1, cond_false] at h
      unfold bindv at h
      obtain ⟨rs, e, l, ck, hr⟩ := costs_L1 xs (k + 1) _ c h
      obtain ⟨q1, q2⟩ := costs_L2 (C := C) (t := x) T 0 (List.replicate ((T.length : Int).toNat) (0 : Int)) List.drop_zero (by simp)
      refine ⟨pair_Costs_L2 C x T 0 (List.replicate ((T.length : Int).toNat) (0 : Int)) :: rs, by rw [e]; simp, by simp [l], fun t ht => ?_, fun i row t hi ht => ?_⟩
      · rcases List.mem_cons.1 ht with rfl | ht
        · simpa using h1
        · exact ck t ht
      · cases i with
        | zero =>
          injection hi with hi; injection ht with ht
          subst hi ht
          exact ⟨q1, fun j tb htb h0 => (q2 j).2 (Nat.zero_le _) tb htb h0⟩
        | succ i => exact hr i row t (by simpa using hi) (by simpa using ht)
    · rw [h1, cond_true] at h; cases h

theorem costs_err {T : List (List TubeNode)} {C : List Int} : ∀ (xs : List Track) (k : Nat) (out : List (List Int)) (y : List (List Int) × Int), pair_Costs_L1 T C xs k out = .inr y → y.2 ≠ 0
  | [], _, _, _, h => by unfold pair_Costs_L1 at h; cases h
  | x :: xs, k, out, y, h => by
    unfold pair_Costs_L1 at h
    simp only at h
    cases h1 : (gate_CheckTrack x != 0)
    · rw [h1, cond_false] at h
      unfold bindv at h
      exact costs_err xs (k + 1) _ y h
    · rw [h1, cond_true] at h
      injection h with h; subst h
      simpa using h1

structure Paired (L : List Track) (T : List (List TubeNode)) (C : List Int) (c : List (List Int)) : Prop where
  chk : pair_Check T C = 0
  len : c.length = L.length
  trk : ∀ t ∈ L, gate_CheckTrack t = 0
  l32 : L.length ≤ 32
  row : ∀ (i : Nat) (row : List Int) (t : Track), c[i]? = some row → L[i]? = some t → row.length = T.length ∧ ∀ (j : Nat) (tb : List TubeNode), T[j]? = some tb → 0 ≤ gt row j → (pair_fits t tb).2 = true ∧ (t.Code = -1 ∨ t.Code = C[j]?.getD 0)

theorem costs_ok {L : List Track} {T : List (List TubeNode)} {C : List Int} (h : (pair_Costs L T C).2 = 0) : Paired L T C (pair_Costs L T C).1 := by
  unfold pair_Costs at h ⊢
  cases h0 : decide ((L.length : Int) > 32)
  · rw [h0, cond_false] at h
    rw [cond_false]
    simp only at h ⊢
    cases h1 : (pair_Check T C != 0)
    · rw [h1, cond_false] at h
      rw [cond_false]
      cases h2 : pair_Costs_L1 T C L 0 [] with
      | inl c =>
        obtain ⟨rs, e, l, ck, hr⟩ := costs_L1 L 0 [] c h2
        rw [List.nil_append] at e
        subst e
        have := of_decide_eq_false h0
        exact ⟨by simpa using h1, l, ck, by omega, hr⟩
      | inr y =>
        rw [h2] at h
        simp only [Sum.elim_inr] at h
        exact absurd h (costs_err L 0 [] y h2)
    · rw [h1, cond_true] at h; exact absurd h (by simpa using h1)
  · rw [h0, cond_true] at h; exact absurd h (by decide)

theorem Pays.spec {miss : Int} {rows : List (List Int)} {taken : List Bool} {to : List Int} {t : Int} (h : Pays miss rows taken to t) : ∀ (i : Nat) (x : Int), to[i]? = some x → x = -1 ∨ ∃ (k : Nat) (row : List Int), x = (k : Int) ∧ rows[i]? = some row ∧ k < row.length ∧ 0 ≤ gt row k := by
  induction h with
  | nil taken => intro i x h; cases i <;> cases h
  | skip _ ih =>
    intro i x h
    cases i with
    | zero => injection h with h; exact .inl h.symm
    | succ i => exact ih i x (by simpa using h)
  | @pick row rows taken to t k h1 h2 h3 _ ih =>
    intro i x h
    cases i with
    | zero => injection h with h; exact .inr ⟨k, row, h.symm, rfl, h1, h3⟩
    | succ i => exact ih i x (by simpa using h)

theorem pbest {L : List Track} {T : List (List TubeNode)} {C : List Int} (h : (pair_Best L T C).2 = 0) : ∃ c t, Paired L T C c ∧ Pays 2147483648 c (List.replicate (c[0]?.getD []).length false) (pair_Best L T C).1 t := by
  unfold pair_Best at h ⊢
  simp only at h ⊢
  cases h1 : ((pair_Costs L T C).2 != 0)
  · rw [h1, cond_false] at h
    rw [cond_false]
    have hc := best_check (costs := (pair_Costs L T C).1) (miss := 2147483648) h
    obtain ⟨to, e, p⟩ := best_good hc
    refine ⟨_, assign_least (pair_Costs L T C).1 2147483648 0 (List.replicate ((pair_Costs L T C).1[0]?.getD []).length false), costs_ok (by simpa using h1), ?_⟩
    rw [e]
    exact p
  · rw [h1, cond_true] at h; exact absurd h (by simpa using h1)

theorem pair_know {L : List Track} {T : List (List TubeNode)} {C : List Int} {r : List Int × Int} (hr : pair_Best L T C = r) (h : (r.2 != 0) = false) : (∀ x ∈ r.1, x < (T.length : Int)) ∧ C.length = T.length ∧ T.length ≤ 24 ∧ r.1.length = L.length := by
  subst hr
  obtain ⟨c, t, q, p⟩ := pbest (by simpa using h)
  have k := pcheck q.chk
  refine ⟨fun x hx => ?_, k.2.1, k.1, p.len.trans q.len⟩
  obtain ⟨i, hi⟩ := List.mem_iff_getElem?.1 hx
  rcases p.spec i x hi with rfl | ⟨n, row, rfl, hrow, hn, _⟩
  · omega
  · obtain ⟨hi2, _⟩ := List.getElem?_eq_some_iff.1 hrow
    have := (q.row i row (L[i]'(by rw [← q.len]; exact hi2)) hrow (List.getElem?_eq_getElem _)).1
    omega
end Go.Sky
