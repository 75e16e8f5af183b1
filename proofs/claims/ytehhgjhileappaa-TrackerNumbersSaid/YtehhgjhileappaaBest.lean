/- Best's choices pay what least promises; its result. Conditions: in each theorem. -/
import Derived.Test.YtehhgjhileappaaVc
namespace Go.Sky
open Go Go.Eng

/-- The choices to, with -1 for a row that is missed, cost t. -/
inductive Pays (miss : Int) : List (List Int) → List Bool → List Int → Int → Prop
  | nil (taken : List Bool) : Pays miss [] taken [] 0
  | skip {row : List Int} {rows : List (List Int)} {taken : List Bool} {to : List Int} {t : Int} : Pays miss rows taken to t → Pays miss (row :: rows) taken ((-1) :: to) (miss + t)
  | pick {row : List Int} {rows : List (List Int)} {taken : List Bool} {to : List Int} {t : Int} (k : Nat) : k < row.length → gb taken k = false → 0 ≤ gt row k → Pays miss rows (taken.set k true) to t → Pays miss (row :: rows) taken ((k : Int) :: to) (gt row k + t)
theorem Pays.val {miss : Int} {rows : List (List Int)} {taken : List Bool} {to : List Int} {t : Int} (h : Pays miss rows taken to t) : Val miss rows taken t := by
  induction h with
  | nil taken => exact .nil taken
  | skip _ ih => exact .skip ih
  | pick k h1 h2 h3 _ ih => exact .pick k h1 h2 h3 ih
theorem Pays.len {miss : Int} {rows : List (List Int)} {taken : List Bool} {to : List Int} {t : Int} (h : Pays miss rows taken to t) : to.length = rows.length := by
  induction h with
  | nil taken => rfl
  | skip _ ih => rw [List.length_cons, List.length_cons, ih]
  | pick k h1 h2 h3 _ ih => rw [List.length_cons, List.length_cons, ih]

theorem val_skip {miss : Int} : ∀ (rows : List (List Int)) (taken : List Bool), Val miss rows taken ((rows.length : Int) * miss)
  | [], taken => by rw [show (([] : List (List Int)).length : Int) * miss = 0 by simp]; exact .nil taken
  | row :: rows, taken => by
    rw [show (((row :: rows).length : Int)) * miss = miss + (rows.length : Int) * miss by rw [List.length_cons, Int.natCast_add, Int.add_mul]; simp [Int.add_comm]]
    exact .skip (val_skip rows taken)
theorem Val.nonneg {miss : Int} {rows : List (List Int)} {taken : List Bool} {t : Int} (h : Val miss rows taken t) (hm : 0 ≤ miss) : 0 ≤ t := by
  induction h with
  | nil taken => exact Int.le_refl _
  | skip _ ih => omega
  | pick k h1 h2 h3 _ ih => omega

theorem val_nil {miss t : Int} {taken : List Bool} (h : Val miss [] taken t) : t = 0 := by cases h; rfl
theorem set_back {l : List Bool} {j : Nat} (h : gb l j = false) (hj : j < l.length) : (l.set j true).set j false = l := by
  have e : l[j] = false := by unfold gb at h; rw [List.getElem?_eq_getElem hj] at h; exact h
  rw [List.set_set]
  exact (congrArg (l.set j) e.symm).trans (List.set_getElem_self hj)

theorem drop_next {α : Type} {l xs : List α} {x : α} {k : Nat} (h : l.drop k = x :: xs) : l.drop (k + 1) = xs ∧ l[k]? = some x ∧ k < l.length := by
  have e1 : l.drop (k + 1) = xs := by rw [← List.drop_drop, h]; rfl
  have e2 : (l.drop k)[0]? = some x := by rw [h]; rfl
  rw [List.getElem?_drop, Nat.add_zero] at e2
  exact ⟨e1, e2, (List.getElem?_eq_some_iff.1 e2).1⟩

section
variable {costs : List (List Int)} {cols : Nat} {miss : Int}
theorem least_at (g : Good costs cols miss) (k : Nat) {taken : List Bool} (ht : taken.length = cols) : Val miss (costs.drop k) taken (assign_least costs miss (k : Int) taken) ∧ (∀ t, Val miss (costs.drop k) taken t → assign_least costs miss (k : Int) taken ≤ t) ∧ 0 ≤ assign_least costs miss (k : Int) taken ∧ assign_least costs miss (k : Int) taken ≤ 35184372088832 := by
  have g' := g.from k
  have q := least_min (costs := costs) (miss := miss) (from_ := (k : Int)) (taken := taken) (cols := cols) (by rw [Int.toNat_natCast]; exact g') ht
  rw [Int.toNat_natCast] at q
  refine ⟨q.1, q.2, q.1.nonneg g.mb.1, Int.le_trans (q.2 _ (val_skip _ _)) ?_⟩
  have n1 := g'.n1
  have : ((costs.drop k).length : Int) * miss ≤ 32 * 1099511627776 := Int.mul_le_mul (by omega) g.mb.2 g.mb.1 (by omega)
  omega

theorem best_row (g : Good costs cols miss) {k : Nat} (hk : k < 1000) {x : List Int} (hx : x ∈ costs) {left : Int} (hl : 0 ≤ left ∧ left ≤ 35184372088832) {taken : List Bool} (ht : taken.length = cols) :
    ∀ (ys : List Int) (j : Nat), x.drop j = ys → (∃ i, j ≤ i ∧ i < cols ∧ gb taken i = false ∧ 0 ≤ gt x i ∧ gt x i + assign_least costs miss ((k + 1 : Nat) : Int) (taken.set i true) = left) →
      ∃ i, i < cols ∧ gb taken i = false ∧ 0 ≤ gt x i ∧ gt x i + assign_least costs miss ((k + 1 : Nat) : Int) (taken.set i true) = left ∧ assign_Best_L2 costs miss k ys j left (-1) taken = (left - gt x i, (i : Int), taken.set i true)
  | [], j, hd, ⟨i, i1, i2, _⟩ => by
    have := congrArg List.length hd
    rw [List.length_drop, g.len x hx] at this
    simp at this; omega
  | y :: ys, j, hd, ⟨i, i1, i2, i3, i4, i5⟩ => by
    obtain ⟨d1, d2, d3⟩ := drop_next hd
    have ey : gt x j = y := by unfold gt; rw [d2]; rfl
    have by_ := g.bnd x hx _ (gt_mem d3)
    have d4 := g.len x hx
    have ih := best_row g hk hx hl ht ys (j + 1) d1
    have ek : w64 ((k : Int) + 1) = ((k + 1 : Nat) : Int) := by rw [w64_id (by omega)]; omega
    unfold assign_Best_L2
    by_cases h0 : y < 0
    · rw [show decide (y < 0) = true from decide_eq_true h0, cond_true]
      have : i ≠ j := by rintro rfl; omega
      exact ih ⟨i, by omega, i2, i3, i4, i5⟩
    · rw [show decide (y < 0) = false from decide_eq_false h0, cond_false]
      cases hb : gb taken j
      · rw [show taken[j]?.getD false = false from hb, cond_false, ek]
        have hr := (least_at g (k + 1) (taken := taken.set j true) (by rw [List.length_set]; exact ht)).2.2
        simp only
        rw [w64_id (x := y + _) (by omega)]
        by_cases he : y + assign_least costs miss ((k + 1 : Nat) : Int) (taken.set j true) = left
        · rw [show (y + assign_least costs miss ((k + 1 : Nat) : Int) (taken.set j true) == left) = true by simpa using he, cond_true, w64_id (by omega)]
          exact ⟨j, by omega, hb, by omega, by rw [ey]; exact he, by rw [ey]⟩
        · rw [show (y + assign_least costs miss ((k + 1 : Nat) : Int) (taken.set j true) == left) = false by simpa using he, cond_false, set_back hb (by omega)]
          have : i ≠ j := by rintro rfl; rw [ey] at i5; exact he i5
          exact ih ⟨i, by omega, i2, i3, i4, i5⟩
      · rw [show taken[j]?.getD false = true from hb, cond_true]
        have : i ≠ j := by rintro rfl; rw [hb] at i3; cases i3
        exact ih ⟨i, by omega, i2, i3, i4, i5⟩

theorem best_run (g : Good costs cols miss) : ∀ (xs : List (List Int)) (k : Nat) (left : Int) (out : List Int) (taken : List Bool), costs.drop k = xs → taken.length = cols → left = assign_least costs miss (k : Int) taken →
    ∃ (to : List Int) (taken' : List Bool), assign_Best_L1 costs miss xs k left out taken = (out ++ to, taken') ∧ Pays miss xs taken to left
  | [], k, left, out, taken, hd, ht, hl => by
    have q := (least_at g k ht).1
    rw [hd] at q
    refine ⟨[], taken, by rw [List.append_nil]; rfl, ?_⟩
    rw [hl, val_nil q]
    exact .nil taken
  | x :: xs, k, left, out, taken, hd, ht, hl => by
    obtain ⟨d1, d2, d3⟩ := drop_next hd
    have hn := g.n1
    have hm := g.mb
    have hx : x ∈ costs := List.mem_of_getElem? d2
    obtain ⟨q1, q2, q3, q4⟩ := least_at g k ht
    obtain ⟨r1, r2, r3, r4⟩ := least_at g (k + 1) ht
    rw [hd] at q1 q2
    rw [d1] at r1 r2
    rw [← hl] at q1 q2 q3 q4
    have ek : w64 ((k : Int) + 1) = ((k + 1 : Nat) : Int) := by rw [w64_id (by omega)]; omega
    unfold assign_Best_L1
    simp only [ek]
    rw [w64_id (x := miss + _) (by omega)]
    by_cases he : miss + assign_least costs miss ((k + 1 : Nat) : Int) taken = left
    · rw [show (miss + assign_least costs miss ((k + 1 : Nat) : Int) taken == left) = true by simpa using he, cond_true, w64_id (by omega)]
      obtain ⟨to, tk, e, p⟩ := best_run g xs (k + 1) (left - miss) (out ++ [(-1)]) taken d1 ht (by omega)
      refine ⟨(-1) :: to, tk, by rw [e]; simp, ?_⟩
      have := Pays.skip (row := x) p
      rwa [show miss + (left - miss) = left by omega] at this
    · rw [show (miss + assign_least costs miss ((k + 1 : Nat) : Int) taken == left) = false by simpa using he, cond_false]
      have ex : ∃ i, 0 ≤ i ∧ i < cols ∧ gb taken i = false ∧ 0 ≤ gt x i ∧ gt x i + assign_least costs miss ((k + 1 : Nat) : Int) (taken.set i true) = left := by
        generalize hL : left = L at q1
        cases q1 with
        | skip h =>
          have a := r2 _ h
          have b := q2 _ (.skip r1)
          omega
        | pick i h1 h2 h3 h4 =>
          obtain ⟨s1, s2, _, _⟩ := least_at g (k + 1) (taken := taken.set i true) (by rw [List.length_set]; exact ht)
          rw [d1] at s1 s2
          have a := s2 _ h4
          have b := q2 _ (.pick i h1 h2 h3 s1)
          exact ⟨i, Nat.zero_le _, by rw [← g.len x hx]; exact h1, h2, h3, by omega⟩
      obtain ⟨i, i1, i2, i3, i4, e⟩ := best_row g (k := k) (by omega) hx ⟨q3, q4⟩ ht x 0 List.drop_zero ex
      rw [e]
      unfold bindv
      simp only
      obtain ⟨to, tk, e2, p⟩ := best_run g xs (k + 1) (left - gt x i) (out ++ [(i : Int)]) (taken.set i true) d1 (by rw [List.length_set]; exact ht) (by omega)
      refine ⟨(i : Int) :: to, tk, by rw [e2]; simp, ?_⟩
      have := Pays.pick (row := x) i (by rw [g.len x hx]; exact i1) i2 i3 p
      rwa [show gt x i + (left - gt x i) = left by omega] at this
end
end Go.Sky
namespace Go.Sky
open Go Go.Eng

theorem total_good {costs : List (List Int)} {miss : Int} (h : assign_Check costs miss = 0) : assign_Total costs miss = (assign_least costs miss 0 (List.replicate (costs[0]?.getD []).length false), 0) := by
  unfold assign_Total
  simp only [h]
  rw [show ((0 : Int) != 0) = false from rfl, cond_false, width_eq, Int.toNat_natCast]
theorem total_bad {costs : List (List Int)} {miss : Int} (h : assign_Check costs miss ≠ 0) : assign_Total costs miss = (0, assign_Check costs miss) := by
  unfold assign_Total
  simp only
  rw [show (assign_Check costs miss != 0) = true by simpa using h, cond_true]
theorem best_good {costs : List (List Int)} {miss : Int} (h : assign_Check costs miss = 0) : ∃ to, assign_Best costs miss = (to, assign_least costs miss 0 (List.replicate (costs[0]?.getD []).length false), 0) ∧
    Pays miss costs (List.replicate (costs[0]?.getD []).length false) to (assign_least costs miss 0 (List.replicate (costs[0]?.getD []).length false)) := by
  have g := chk_good h
  obtain ⟨to, tk, e, p⟩ := best_run g costs 0 (assign_least costs miss 0 (List.replicate (costs[0]?.getD []).length false)) [] (List.replicate (costs[0]?.getD []).length false) List.drop_zero List.length_replicate rfl
  refine ⟨to, ?_, p⟩
  have et : assign_Total costs miss = (assign_least costs miss 0 (List.replicate (costs[0]?.getD []).length false), 0) := total_good h
  unfold assign_Best
  rw [et]
  simp only
  rw [show ((0 : Int) != 0) = false from rfl, cond_false, width_eq, Int.toNat_natCast]
  unfold bindv
  rw [e]
  rfl
theorem best_bad {costs : List (List Int)} {miss : Int} (h : assign_Check costs miss ≠ 0) : assign_Best costs miss = ([], 0, assign_Check costs miss) := by
  unfold assign_Best
  rw [total_bad h]
  simp only
  rw [show (assign_Check costs miss != 0) = true by simpa using h, cond_true]
theorem best_check {costs : List (List Int)} {miss : Int} (h : (assign_Best costs miss).2.2 = 0) : assign_Check costs miss = 0 := by
  by_cases hc : assign_Check costs miss = 0
  · exact hc
  · rw [best_bad hc] at h; exact absurd h hc
theorem best_len {costs : List (List Int)} {miss : Int} {r : List Int × Int × Int} (hr : assign_Best costs miss = r) (h : (r.2.2 == 0) = true) : r.1.length = costs.length := by
  subst hr
  obtain ⟨to, e, p⟩ := best_good (best_check (by simpa using h))
  rw [e]; exact p.len
theorem least_at0 {costs : List (List Int)} {miss : Int} (h : assign_Check costs miss = 0) : Val miss costs (List.replicate (costs[0]?.getD []).length false) (assign_least costs miss 0 (List.replicate (costs[0]?.getD []).length false)) ∧
    (∀ t, Val miss costs (List.replicate (costs[0]?.getD []).length false) t → assign_least costs miss 0 (List.replicate (costs[0]?.getD []).length false) ≤ t) ∧ 0 ≤ assign_least costs miss 0 (List.replicate (costs[0]?.getD []).length false) ∧ assign_least costs miss 0 (List.replicate (costs[0]?.getD []).length false) ≤ 35184372088832 :=
  least_at (chk_good h) 0 List.length_replicate
theorem know_ok {costs : List (List Int)} {miss r1 : Int} (h1 : assign_Check costs miss = r1) (h : (r1 != 0) = false) : Good costs (costs[0]?.getD []).length miss := by
  subst h1; exact chk_good (by simpa using h)
theorem know_w {costs : List (List Int)} {r2 : Int} (h : assign_width costs = r2) : r2 = ((costs[0]?.getD []).length : Int) := by rw [← h, width_eq]
theorem know_t {costs : List (List Int)} {miss : Int} {r1 : Int × Int} (h1 : assign_Total costs miss = r1) (h : (r1.2 != 0) = false) : Good costs (costs[0]?.getD []).length miss := by
  subst h1
  by_cases hc : assign_Check costs miss = 0
  · exact chk_good hc
  · rw [total_bad hc] at h; exact absurd h (by simpa using hc)
theorem know_row {costs : List (List Int)} {cols : Nat} {miss : Int} (g : Good costs cols miss) {i : Nat} (hi : i < costs.length) : ((costs[i]?.getD []).length : Int) = cols := by
  have := g.len _ (rw_mem hi); unfold rw_ at this; omega
theorem know_at {costs : List (List Int)} {cols : Nat} {miss : Int} (g : Good costs cols miss) {i : Nat} {x : List Int} (hx : costs[i]? = some x) : x.length = cols := g.len x (List.mem_of_getElem? hx)
theorem know_b {costs : List (List Int)} {miss : Int} {r : List Int × Int × Int} (hr : assign_Best costs miss = r) (h : (r.2.2 == 0) = true) : Good costs (costs[0]?.getD []).length miss := by
  subst hr; exact chk_good (best_check (by simpa using h))
end Go.Sky
