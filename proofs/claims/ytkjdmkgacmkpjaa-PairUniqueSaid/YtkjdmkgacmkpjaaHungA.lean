/- The two scans of a round of the assignment: the columns' least reduced costs, and the update of the potentials. Conditions: in each theorem. -/
import Derived.Test.YtkjdmkgacmkpjaaVb
namespace Go.Sky
open Go Go.Eng

abbrev gt (l : List Int) (k : Nat) : Int := l[k]?.getD 0
abbrev gb (l : List Bool) (k : Nat) : Bool := l[k]?.getD false
theorem gt_set {l : List Int} {i : Nat} (v : Int) (k : Nat) (h : i < l.length) : gt (l.set i v) k = if k = i then v else gt l k := by
  unfold gt
  by_cases e : k = i
  · subst e; rw [if_pos rfl, List.getElem?_set_self h]; rfl
  · rw [if_neg e, List.getElem?_set_ne (fun h => e h.symm)]
theorem gb_set {l : List Bool} {i : Nat} (v : Bool) (k : Nat) (h : i < l.length) : gb (l.set i v) k = if k = i then v else gb l k := by
  unfold gb
  by_cases e : k = i
  · subst e; rw [if_pos rfl, List.getElem?_set_self h]; rfl
  · rw [if_neg e, List.getElem?_set_ne (fun h => e h.symm)]
theorem gt_rep (n k : Nat) : gt (List.replicate n (0:Int)) k = 0 := by
  unfold gt
  rw [List.getElem?_replicate]
  split <;> rfl
theorem gb_rep (n k : Nat) : gb (List.replicate n false) k = false := by
  unfold gb
  rw [List.getElem?_replicate]
  split <;> rfl

/-- The cost of row x in column j, both counted from 1. -/
def cst (costs : List (List Int)) (miss from_ : Int) (taken : List Bool) (x : Int) (j : Nat) : Int :=
  assign_least_1 (x - 1) ((j : Int) - 1) (((costs.drop from_.toNat)[0]?.getD []).length : Int) miss taken (costs.drop from_.toNat)
def redc (c : Int → Nat → Int) (u v : List Int) (x : Int) (j : Nat) : Int := c x j - gt u x.toNat - gt v j

/-- What the scan of the columns has found. -/
structure Sc (c : Int → Nat → Int) (u v low way : List Int) (U : List Bool) (m a : Nat) (x : Int) (k : Nat) (δ next : Int) (way5 low5 : List Int) : Prop where
  lenw : way5.length = m + 1
  lenl : low5.length = m + 1
  same : ∀ j, j ≤ m → (j = 0 ∨ k < j ∨ gb U j = true) → gt low5 j = gt low j ∧ gt way5 j = gt way j
  done : ∀ j, 1 ≤ j → j ≤ k → gb U j = false → δ ≤ gt low5 j ∧ ((gt low5 j = redc c u v x j ∧ gt way5 j = (a : Int) ∧ redc c u v x j < gt low j) ∨ (gt low5 j = gt low j ∧ gt way5 j = gt way j ∧ gt low j ≤ redc c u v x j))
  best : (δ = 1152921504606846976 ∧ next = 0) ∨ (∃ nx : Nat, next = (nx : Int) ∧ 1 ≤ nx ∧ nx ≤ k ∧ gb U nx = false ∧ gt low5 nx = δ ∧ δ < 1152921504606846976)

theorem scan {costs : List (List Int)} {miss from_ : Int} {taken : List Bool} {kk : Nat} {row u v low way : List Int} {used : List Bool} {m a : Nat} {x : Int}
    (hx : gt (row.set 0 (1 + (kk : Int))) a = x) (hxb : 1 ≤ x ∧ x ≤ 1000) (hm : m ≤ 1000)
    (hu : 0 ≤ gt u x.toNat ∧ gt u x.toNat ≤ 70368744177664) (hv : ∀ j, j ≤ m → -70368744177664 ≤ gt v j ∧ gt v j ≤ 0) (hc : ∀ j, 1 ≤ j → j ≤ m → 0 ≤ cst costs miss from_ taken x j ∧ cst costs miss from_ taken x j ≤ 36028797018963968) :
    ∀ (f k : Nat) (δ next : Int) (way5 low5 : List Int), f + k = m → Sc (cst costs miss from_ taken) u v low way (used.set a true) m a x k δ next way5 low5 →
      ∃ (δ' next' : Int) (way' low' : List Int), assign_least_L4 costs miss from_ taken kk row (a : Int) u v used f k δ next way5 low5 = (δ', next', way', low') ∧ Sc (cst costs miss from_ taken) u v low way (used.set a true) m a x m δ' next' way' low'
  | 0, k, δ, next, way5, low5, hf, h => ⟨δ, next, way5, low5, rfl, by rw [show m = k by omega]; rw [show m = k by omega] at h; exact h⟩
  | f + 1, k, δ, next, way5, low5, hf, h => by
    have ij : (1 + (k : Int)).toNat = k + 1 := by omega
    have ih := scan (costs := costs) (miss := miss) (from_ := from_) (taken := taken) (low := low) (way := way) (used := used) hx hxb hm hu hv hc f (k + 1)
    unfold assign_least_L4
    simp only [Int.toNat_natCast, ij]
    cases hU : gb (used.set a true) (k + 1)
    · rw [show (used.set a true)[k + 1]?.getD false = false from hU, cond_false]
      have ec : assign_least_1 (w64 (x - 1)) (w64 (1 + (k : Int) - 1)) (((costs.drop from_.toNat)[0]?.getD []).length : Int) miss taken (costs.drop from_.toNat) = cst costs miss from_ taken x (k + 1) := by
        unfold cst
        rw [w64_id (x := x - 1) (by omega), w64_id (x := 1 + (k : Int) - 1) (by omega), show 1 + (k : Int) - 1 = ((k + 1 : Nat) : Int) - 1 by omega]
      have hcj := hc (k + 1) (by omega) (by omega)
      have hvj := hv (k + 1) (by omega)
      have er : w64 (w64 (cst costs miss from_ taken x (k + 1) - gt u x.toNat) - gt v (k + 1)) = redc (cst costs miss from_ taken) u v x (k + 1) := by
        unfold redc
        rw [w64_id (x := cst costs miss from_ taken x (k + 1) - gt u x.toNat) (by omega), w64_id (by omega)]
      have hrow : ((row.set 0 (1 + (kk : Int)))[a]?.getD 0) = x := hx
      simp only [hrow, ec]
      rw [show w64 (w64 (cst costs miss from_ taken x (k + 1) - u[x.toNat]?.getD 0) - v[k + 1]?.getD 0) = redc (cst costs miss from_ taken) u v x (k + 1) from er]
      obtain ⟨r, hr⟩ : ∃ r, r = redc (cst costs miss from_ taken) u v x (k + 1) := ⟨_, rfl⟩
      rw [← hr]
      have rb : r ≤ 36169534507319296 := by rw [hr]; unfold redc; omega
      obtain ⟨s1, s2⟩ := h.same (k + 1) (by omega) (.inr (.inl (by omega)))
      have lw := h.lenw
      have ll := h.lenl
      -- the two lists behind the comparison
      obtain ⟨w7, l7, e7, q1, q2, q3, q4, q5⟩ : ∃ w7 l7 : List Int, (cond (decide (r < low5[k + 1]?.getD 0)) ((way5.set (k + 1) (a : Int)), (low5.set (k + 1) r)) (way5, low5)) = (w7, l7) ∧ w7.length = m + 1 ∧ l7.length = m + 1 ∧ (∀ j, j ≠ k + 1 → gt w7 j = gt way5 j ∧ gt l7 j = gt low5 j) ∧
          ((gt l7 (k + 1) = r ∧ gt w7 (k + 1) = (a : Int) ∧ r < gt low (k + 1)) ∨ (gt l7 (k + 1) = gt low (k + 1) ∧ gt w7 (k + 1) = gt way (k + 1) ∧ gt low (k + 1) ≤ r)) ∧ gt l7 (k + 1) ≤ r := by
        by_cases hl : r < gt low5 (k + 1)
        · refine ⟨_, _, by rw [show decide (r < low5[k + 1]?.getD 0) = true from decide_eq_true hl, cond_true], by rw [List.length_set]; exact lw, by rw [List.length_set]; exact ll, fun j hj => ⟨?_, ?_⟩, .inl ⟨?_, ?_, by rw [← s1]; exact hl⟩, ?_⟩
          · rw [gt_set _ _ (by omega), if_neg hj]
          · rw [gt_set _ _ (by omega), if_neg hj]
          · rw [gt_set _ _ (by omega), if_pos rfl]
          · rw [gt_set _ _ (by omega), if_pos rfl]
          · rw [gt_set _ _ (by omega), if_pos rfl]; exact Int.le_refl _
        · refine ⟨_, _, by rw [show decide (r < low5[k + 1]?.getD 0) = false from decide_eq_false hl, cond_false], lw, ll, fun j _ => ⟨rfl, rfl⟩, .inr ⟨s1, s2, by rw [← s1]; omega⟩, by omega⟩
      unfold bindv
      rw [e7]
      simp only
      have base : ∀ (δ' next' : Int), (δ' ≤ δ ∧ δ' ≤ gt l7 (k + 1)) → ((δ' = 1152921504606846976 ∧ next' = 0) ∨ (∃ nx : Nat, next' = (nx : Int) ∧ 1 ≤ nx ∧ nx ≤ k + 1 ∧ gb (used.set a true) nx = false ∧ gt l7 nx = δ' ∧ δ' < 1152921504606846976)) →
          Sc (cst costs miss from_ taken) u v low way (used.set a true) m a x (k + 1) δ' next' w7 l7 := by
        intro δ' next' h1 h2
        refine ⟨q1, q2, fun j hj hj2 => ?_, fun j hj hj2 hj3 => ?_, h2⟩
        · have hne : j ≠ k + 1 := by
            rintro rfl
            rcases hj2 with h | h | h
            · omega
            · omega
            · rw [hU] at h; cases h
          rw [(q3 j hne).1, (q3 j hne).2]
          refine h.same j hj ?_
          rcases hj2 with h | h | h
          · exact .inl h
          · exact .inr (.inl (by omega))
          · exact .inr (.inr h)
        · by_cases e : j = k + 1
          · subst e; rw [← hr]; exact ⟨h1.2, q4⟩
          · rw [(q3 j e).1, (q3 j e).2]
            obtain ⟨d1, d2⟩ := h.done j hj (by omega) hj3
            exact ⟨by omega, d2⟩
      by_cases hd : gt l7 (k + 1) < δ
      · rw [show decide (l7[k + 1]?.getD 0 < δ) = true from decide_eq_true hd, cond_true]
        refine ih _ _ _ _ (by omega) (base _ _ ⟨by show gt l7 (k + 1) ≤ δ; omega, Int.le_refl _⟩ (.inr ⟨k + 1, by omega, by omega, Nat.le_refl _, hU, rfl, ?_⟩))
        show gt l7 (k + 1) < _
        omega
      · rw [show decide (l7[k + 1]?.getD 0 < δ) = false from decide_eq_false hd, cond_false]
        refine ih _ _ _ _ (by omega) (base _ _ ⟨Int.le_refl _, by omega⟩ ?_)
        rcases h.best with b | ⟨nx, b1, b2, b3, b4, b5, b6⟩
        · exact .inl b
        · exact .inr ⟨nx, b1, b2, by omega, b4, by rw [(q3 nx (by omega)).2]; exact b5, b6⟩
    · rw [show (used.set a true)[k + 1]?.getD false = true from hU, cond_true]
      refine ih _ _ _ _ (by omega) ⟨h.lenw, h.lenl, fun j hj hj2 => ?_, fun j hj hj2 hj3 => ?_, ?_⟩
      · refine h.same j hj ?_
        rcases hj2 with q | q | q
        · exact .inl q
        · exact .inr (.inl (by omega))
        · exact .inr (.inr q)
      · have hne : j ≠ k + 1 := by rintro rfl; rw [hU] at hj3; cases hj3
        exact h.done j hj (by omega) hj3
      · rcases h.best with b | ⟨nx, b1, b2, b3, b4, b5, b6⟩
        · exact .inl b
        · exact .inr ⟨nx, b1, b2, by omega, b4, b5, b6⟩

/-- What the update has done to the columns before k. -/
structure Up (R u v low : List Int) (U : List Bool) (n m : Nat) (δ : Int) (k : Nat) (u5 v5 low5 : List Int) : Prop where
  lenu : u5.length = n + 1
  lenv : v5.length = m + 1
  lenl : low5.length = m + 1
  vs : ∀ j, j ≤ m → gt v5 j = if j < k ∧ gb U j = true then gt v j - δ else gt v j
  ls : ∀ j, j ≤ m → gt low5 j = if j < k ∧ gb U j = false then gt low j - δ else gt low j
  us : ∀ j, j < k → j ≤ m → gb U j = true → gt u5 (gt R j).toNat = gt u (gt R j).toNat + δ
  un : ∀ r, r ≤ n → (∀ j, j < k → j ≤ m → gb U j = true → (gt R j).toNat ≠ r) → gt u5 r = gt u r

theorem update {kk : Nat} {row u v low : List Int} {U : List Bool} {n m : Nat} {δ : Int} (hU : U.length = m + 1) (hδ : 0 ≤ δ ∧ δ ≤ 1152921504606846976)
    (hu : ∀ r, r ≤ n → 0 ≤ gt u r ∧ gt u r ≤ 70368744177664) (hv : ∀ j, j ≤ m → -70368744177664 ≤ gt v j ∧ gt v j ≤ 0) (hl : ∀ j, j ≤ m → 0 ≤ gt low j ∧ gt low j ≤ 1152921504606846976)
    (hR : ∀ j, j ≤ m → gb U j = true → 0 ≤ gt (row.set 0 (1 + (kk : Int))) j ∧ gt (row.set 0 (1 + (kk : Int))) j ≤ (n : Int))
    (hinj : ∀ i j, i ≤ m → j ≤ m → gb U i = true → gb U j = true → (gt (row.set 0 (1 + (kk : Int))) i).toNat = (gt (row.set 0 (1 + (kk : Int))) j).toNat → i = j) :
    ∀ (xs : List Bool) (k : Nat) (u5 v5 low5 : List Int), U.drop k = xs → Up (row.set 0 (1 + (kk : Int))) u v low U n m δ k u5 v5 low5 →
      ∃ u6 v6 low6 : List Int, assign_least_L5 kk row δ xs k u5 v5 low5 = (u6, v6, low6) ∧ Up (row.set 0 (1 + (kk : Int))) u v low U n m δ (m + 1) u6 v6 low6
  | [], k, u5, v5, low5, hx, h => by
    have hk : m + 1 ≤ k := by
      have := congrArg List.length hx
      rw [List.length_drop] at this
      simp at this; omega
    refine ⟨u5, v5, low5, rfl, h.lenu, h.lenv, h.lenl, fun j hj => ?_, fun j hj => ?_, fun j h1 h2 h3 => h.us j (by omega) h2 h3, fun r hr h1 => h.un r hr fun j _ h3 h4 => h1 j (by omega) h3 h4⟩
    · rw [h.vs j hj]
      by_cases c : gb U j = true
      · rw [if_pos ⟨by omega, c⟩, if_pos ⟨by omega, c⟩]
      · rw [if_neg (fun q => c q.2), if_neg (fun q => c q.2)]
    · rw [h.ls j hj]
      by_cases c : gb U j = false
      · rw [if_pos ⟨by omega, c⟩, if_pos ⟨by omega, c⟩]
      · rw [if_neg (fun q => c q.2), if_neg (fun q => c q.2)]
  | b :: xs, k, u5, v5, low5, hx, h => by
    have hk : k < m + 1 := by
      have := congrArg List.length hx
      rw [List.length_drop, List.length_cons] at this
      omega
    have hb : gb U k = b := by
      have : (U.drop k)[0]? = some b := by rw [hx]; rfl
      rw [List.getElem?_drop, Nat.add_zero] at this
      unfold gb; rw [this]; rfl
    have hx2 : U.drop (k + 1) = xs := by rw [← List.drop_drop, hx]; rfl
    have ih := update (kk := kk) (row := row) (low := low) hU hδ hu hv hl hR hinj xs (k + 1)
    have lu := h.lenu
    have lv := h.lenv
    have ll := h.lenl
    have vk := h.vs k (by omega)
    have lk := h.ls k (by omega)
    rw [if_neg (fun q => Nat.lt_irrefl _ q.1)] at vk lk
    have bv := hv k (by omega)
    have bl := hl k (by omega)
    unfold assign_least_L5
    cases b
    · rw [cond_false, show w64 (low5[k]?.getD 0 - δ) = gt low k - δ by rw [show low5[k]?.getD 0 = gt low k from lk, w64_id (by omega)]]
      refine ih _ _ _ hx2 ⟨lu, lv, by rw [List.length_set]; exact ll, fun j hj => ?_, fun j hj => ?_, fun j h1 h2 h3 => ?_, fun r hr h1 => h.un r hr fun j h2 h3 h4 => h1 j (by omega) h3 h4⟩
      · rw [h.vs j hj]
        by_cases c : gb U j = true
        · have : j ≠ k := by rintro rfl; rw [hb] at c; cases c
          by_cases d : j < k
          · rw [if_pos ⟨d, c⟩, if_pos ⟨by omega, c⟩]
          · rw [if_neg (fun q => d q.1), if_neg (fun q => by omega)]
        · rw [if_neg (fun q => c q.2), if_neg (fun q => c q.2)]
      · rw [gt_set _ _ (by omega)]
        by_cases e : j = k
        · subst e; rw [if_pos rfl, if_pos ⟨by omega, hb⟩]
        · rw [if_neg e, h.ls j hj]
          by_cases c : j < k ∧ gb U j = false
          · rw [if_pos c, if_pos ⟨by omega, c.2⟩]
          · rw [if_neg c, if_neg (fun q => c ⟨by omega, q.2⟩)]
      · have : j ≠ k := by rintro rfl; rw [hb] at h3; cases h3
        exact h.us j (by omega) h2 h3
    · have hRk := hR k (by omega) hb
      obtain ⟨r, hr⟩ : ∃ r, r = (gt (row.set 0 (1 + (kk : Int))) k).toNat := ⟨_, rfl⟩
      have hrn : r ≤ n := by omega
      have huk : gt u5 r = gt u r := h.un r hrn fun j h1 h2 h3 h4 => by
        have := hinj j k h2 (by omega) h3 hb (by rw [h4, hr])
        omega
      have bu := hu r hrn
      rw [cond_true]
      rw [show ((row.set 0 (1 + (kk : Int)))[k]?.getD 0).toNat = r from hr.symm]
      rw [show w64 (u5[r]?.getD 0 + δ) = gt u r + δ by rw [show u5[r]?.getD 0 = gt u r from huk, w64_id (by omega)], show w64 (v5[k]?.getD 0 - δ) = gt v k - δ by rw [show v5[k]?.getD 0 = gt v k from vk, w64_id (by omega)]]
      refine ih _ _ _ hx2 ⟨by rw [List.length_set]; exact lu, by rw [List.length_set]; exact lv, ll, fun j hj => ?_, fun j hj => ?_, fun j h1 h2 h3 => ?_, fun r' hr' h1 => ?_⟩
      · rw [gt_set _ _ (by omega)]
        by_cases e : j = k
        · subst e; rw [if_pos rfl, if_pos ⟨by omega, hb⟩]
        · rw [if_neg e, h.vs j hj]
          by_cases c : j < k ∧ gb U j = true
          · rw [if_pos c, if_pos ⟨by omega, c.2⟩]
          · rw [if_neg c, if_neg (fun q => c ⟨by omega, q.2⟩)]
      · rw [h.ls j hj]
        by_cases c : gb U j = false
        · have : j ≠ k := by rintro rfl; rw [hb] at c; cases c
          by_cases d : j < k
          · rw [if_pos ⟨d, c⟩, if_pos ⟨by omega, c⟩]
          · rw [if_neg (fun q => d q.1), if_neg (fun q => by omega)]
        · rw [if_neg (fun q => c q.2), if_neg (fun q => c q.2)]
      · rw [gt_set _ _ (by omega)]
        by_cases e : j = k
        · subst e; rw [← hr, if_pos rfl]
        · have hne : (gt (row.set 0 (1 + (kk : Int))) j).toNat ≠ r := fun q => e (hinj j k h2 (by omega) h3 hb (by rw [q, hr]))
          rw [if_neg hne]
          exact h.us j (by omega) h2 h3
      · have hne : r' ≠ r := fun q => h1 k (by omega) (by omega) hb (by rw [q, hr])
        rw [gt_set _ _ (by omega), if_neg hne]
        exact h.un r' hr' fun j h2 h3 h4 => h1 j (by omega) h3 h4
end Go.Sky
