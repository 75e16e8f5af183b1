/- The least total as the least of all assignments, row by row. Conditions: in each theorem. -/
import Derived.Test.YtkjdmkgacmkpjaaHungD
namespace Go.Sky
open Go Go.Eng

structure Good (rows : List (List Int)) (cols : Nat) (miss : Int) : Prop where
  n1 : rows.length ≤ 32
  c1 : cols ≤ 32
  mb : 0 ≤ miss ∧ miss ≤ 1099511627776
  len : ∀ r ∈ rows, r.length = cols
  bnd : ∀ r ∈ rows, ∀ c ∈ r, -1 ≤ c ∧ c ≤ 1099511627776

/-- t is the total of an assignment of the rows to columns that are not taken. -/
inductive Val (miss : Int) : List (List Int) → List Bool → Int → Prop
  | nil (taken : List Bool) : Val miss [] taken 0
  | skip {row : List Int} {rows : List (List Int)} {taken : List Bool} {t : Int} : Val miss rows taken t → Val miss (row :: rows) taken (miss + t)
  | pick {row : List Int} {rows : List (List Int)} {taken : List Bool} {t : Int} (k : Nat) : k < row.length → gb taken k = false → 0 ≤ gt row k → Val miss rows (taken.set k true) t → Val miss (row :: rows) taken (gt row k + t)

def rw_ (rows : List (List Int)) (r : Nat) : List Int := rows[r]?.getD []
theorem rw_mem {rows : List (List Int)} {r : Nat} (h : r < rows.length) : rw_ rows r ∈ rows := by
  unfold rw_; rw [List.getElem?_eq_getElem h]; exact List.getElem_mem h
theorem gt_mem {l : List Int} {k : Nat} (h : k < l.length) : gt l k ∈ l := by
  unfold gt; rw [List.getElem?_eq_getElem h]; exact List.getElem_mem h

/-- The same as a map from the rows: 0, or a column's index and 1. -/
structure Asg (rows : List (List Int)) (taken : List Bool) (cols : Nat) (τ : Nat → Nat) : Prop where
  ok : ∀ r, r < rows.length → τ r ≠ 0 → τ r ≤ cols ∧ gb taken (τ r - 1) = false ∧ 0 ≤ gt (rw_ rows r) (τ r - 1)
  inj : ∀ r s, r < rows.length → s < rows.length → τ r = τ s → τ r ≠ 0 → r = s
def vl (rows : List (List Int)) (miss : Int) (τ : Nat → Nat) (r : Nat) : Int := if τ r = 0 then miss else gt (rw_ rows r) (τ r - 1)

theorem val_of_asg {cols : Nat} {miss : Int} : ∀ (rows : List (List Int)) (taken : List Bool) (τ : Nat → Nat), (∀ r ∈ rows, r.length = cols) → taken.length = cols → Asg rows taken cols τ → Val miss rows taken (sm rows.length (vl rows miss τ))
  | [], taken, τ, _, _, _ => .nil taken
  | row :: rows, taken, τ, hl, ht, h => by
    have es : sm (row :: rows).length (vl (row :: rows) miss τ) = vl (row :: rows) miss τ 0 + sm rows.length (vl rows miss (fun r => τ (r + 1))) := rfl
    have lr := hl row (List.mem_cons_self ..)
    rw [es]
    by_cases c : τ 0 = 0
    · rw [show vl (row :: rows) miss τ 0 = miss from if_pos c]
      refine .skip (val_of_asg rows taken _ (fun r hr => hl r (List.mem_cons_of_mem _ hr)) ht ⟨fun r hr hz => h.ok (r + 1) (by rw [List.length_cons]; omega) hz, fun r s hr hs e hz => ?_⟩)
      have := h.inj (r + 1) (s + 1) (by rw [List.length_cons]; omega) (by rw [List.length_cons]; omega) e hz
      omega
    · rw [show vl (row :: rows) miss τ 0 = gt row (τ 0 - 1) from if_neg c]
      obtain ⟨o1, o2, o3⟩ := h.ok 0 (by rw [List.length_cons]; omega) c
      refine .pick (τ 0 - 1) (by omega) o2 o3 (val_of_asg rows (taken.set (τ 0 - 1) true) _ (fun r hr => hl r (List.mem_cons_of_mem _ hr)) (by rw [List.length_set]; exact ht) ⟨fun r hr hz => ?_, fun r s hr hs e hz => ?_⟩)
      · obtain ⟨p1, p2, p3⟩ := h.ok (r + 1) (by rw [List.length_cons]; omega) hz
        refine ⟨p1, ?_, p3⟩
        rw [gb_set _ _ (by omega), if_neg fun q => ?_]
        · exact p2
        · have := h.inj (r + 1) 0 (by rw [List.length_cons]; omega) (by rw [List.length_cons]; omega) (by omega) hz
          omega
      · have := h.inj (r + 1) (s + 1) (by rw [List.length_cons]; omega) (by rw [List.length_cons]; omega) e hz
        omega

theorem asg_of_val {cols : Nat} {miss : Int} {rows : List (List Int)} {taken : List Bool} {t : Int} (h : Val miss rows taken t) : (∀ r ∈ rows, r.length = cols) → taken.length = cols → ∃ τ, Asg rows taken cols τ ∧ t = sm rows.length (vl rows miss τ) := by
  induction h with
  | nil taken => exact fun _ _ => ⟨fun _ => 0, ⟨fun r hr => absurd hr (Nat.not_lt_zero _), fun r s hr => absurd hr (Nat.not_lt_zero _)⟩, rfl⟩
  | @skip row rows taken t _ ih =>
    intro hl ht
    obtain ⟨τ, a, e⟩ := ih (fun r hr => hl r (List.mem_cons_of_mem _ hr)) ht
    refine ⟨fun r => match r with | 0 => 0 | r + 1 => τ r, ⟨fun r hr hz => ?_, fun r s hr hs q hz => ?_⟩, ?_⟩
    · cases r with
      | zero => exact absurd rfl hz
      | succ r => exact a.ok r (by rw [List.length_cons] at hr; omega) hz
    · cases r with
      | zero => exact absurd rfl hz
      | succ r =>
        cases s with
        | zero => exact absurd q hz
        | succ s => rw [a.inj r s (by rw [List.length_cons] at hr; omega) (by rw [List.length_cons] at hs; omega) q hz]
    · rw [e]; rfl
  | @pick row rows taken t k hk hf h0 _ ih =>
    intro hl ht
    have lr := hl row (List.mem_cons_self ..)
    obtain ⟨τ, a, e⟩ := ih (fun r hr => hl r (List.mem_cons_of_mem _ hr)) (by rw [List.length_set]; exact ht)
    have ne : ∀ r, r < rows.length → τ r ≠ k + 1 := fun r hr q => by
      obtain ⟨_, p2, _⟩ := a.ok r hr (by omega)
      rw [q, Nat.add_sub_cancel, gb_set _ _ (by omega), if_pos rfl] at p2
      cases p2
    refine ⟨fun r => match r with | 0 => k + 1 | r + 1 => τ r, ⟨fun r hr hz => ?_, fun r s hr hs q hz => ?_⟩, ?_⟩
    · cases r with
      | zero => exact ⟨by show k + 1 ≤ cols; omega, hf, h0⟩
      | succ r =>
        have hr' : r < rows.length := by rw [List.length_cons] at hr; omega
        obtain ⟨p1, p2, p3⟩ := a.ok r hr' hz
        refine ⟨p1, ?_, p3⟩
        have nr := ne r hr'
        have hz' : τ r ≠ 0 := hz
        rw [gb_set _ _ (by omega), if_neg (by omega)] at p2
        exact p2
    · cases r with
      | zero =>
        cases s with
        | zero => rfl
        | succ s => exact absurd (show τ s = k + 1 from q.symm) (ne s (by rw [List.length_cons] at hs; omega))
      | succ r =>
        cases s with
        | zero => exact absurd (show τ r = k + 1 from q) (ne r (by rw [List.length_cons] at hr; omega))
        | succ s => rw [a.inj r s (by rw [List.length_cons] at hr; omega) (by rw [List.length_cons] at hs; omega) q hz]
    · rw [e]; rfl

section
variable {cols : Nat} {costs : List (List Int)} {miss from_ : Int} {taken : List Bool}
theorem cst_own (hcols : ((costs.drop from_.toNat)[0]?.getD []).length = cols) (r s : Nat) (_hr : r < 1000) (hs : s < 1000) (h : cols ≤ s) : cst costs miss from_ taken ((r + 1 : Nat) : Int) (s + 1) = if s = cols + r then miss else 36028797018963968 := by
  unfold cst assign_least_1
  rw [hcols, show decide (((s + 1 : Nat) : Int) - 1 ≥ (cols : Int)) = true by simp; omega, cond_true, w64_id (x := ((s + 1 : Nat) : Int) - 1 - (cols : Int)) (by omega)]
  by_cases c : s = cols + r
  · rw [if_pos c, show ((((s + 1 : Nat) : Int) - 1 - (cols : Int)) == ((r + 1 : Nat) : Int) - 1) = true by simp; omega, cond_true]
  · rw [if_neg c, show ((((s + 1 : Nat) : Int) - 1 - (cols : Int)) == ((r + 1 : Nat) : Int) - 1) = false by simp; omega, cond_false]
theorem cst_col (hcols : ((costs.drop from_.toNat)[0]?.getD []).length = cols) (r s : Nat) (h : s < cols) : cst costs miss from_ taken ((r + 1 : Nat) : Int) (s + 1) = if gb taken s = true then 36028797018963968 else if gt (rw_ (costs.drop from_.toNat) r) s < 0 then 36028797018963968 else gt (rw_ (costs.drop from_.toNat) r) s := by
  unfold cst assign_least_1
  rw [hcols, show decide (((s + 1 : Nat) : Int) - 1 ≥ (cols : Int)) = false by simp; omega, cond_false, show (((s + 1 : Nat) : Int) - 1).toNat = s by omega, show (((r + 1 : Nat) : Int) - 1).toNat = r by omega]
  by_cases c : gb taken s = true
  · rw [if_pos c, show taken[s]?.getD false = true from c, cond_true]
  · have c2 : gb taken s = false := by cases q : gb taken s; rfl; exact absurd q c
    rw [if_neg c, show taken[s]?.getD false = false from c2, cond_false]
    by_cases d : gt (rw_ (costs.drop from_.toNat) r) s < 0
    · rw [if_pos d, show decide (((costs.drop from_.toNat)[r]?.getD [])[s]?.getD 0 < 0) = true from decide_eq_true d, cond_true]
    · rw [if_neg d, show decide (((costs.drop from_.toNat)[r]?.getD [])[s]?.getD 0 < 0) = false from decide_eq_false d, cond_false]; rfl

theorem Good.prob (g : Good (costs.drop from_.toNat) cols miss) (hn : 0 < (costs.drop from_.toNat).length) : Prob (costs.drop from_.toNat).length (cols + (costs.drop from_.toNat).length) cols (cst costs miss from_ taken) miss := by
  have n1 := g.n1
  have c1 := g.c1
  have mb := g.mb
  have hcols : ((costs.drop from_.toNat)[0]?.getD []).length = cols := g.len _ (rw_mem hn)
  refine ⟨⟨hn, n1⟩, ⟨rfl, c1⟩, mb, fun x j h1 h2 h3 h4 => ?_, fun x h1 h2 => ?_, fun x y h1 h2 h3 h4 h5 => ?_⟩
  · obtain ⟨r, rfl⟩ : ∃ r, x = r + 1 := ⟨x - 1, by omega⟩
    obtain ⟨s, rfl⟩ : ∃ s, j = s + 1 := ⟨j - 1, by omega⟩
    by_cases c : s < cols
    · rw [cst_col hcols r s c]
      have rm : rw_ (costs.drop from_.toNat) r ∈ costs.drop from_.toNat := rw_mem (by omega)
      have b := g.bnd _ rm _ (gt_mem (k := s) (by rw [g.len _ rm]; exact c))
      split
      · omega
      · split <;> omega
    · rw [cst_own hcols r s (by omega) (by omega) (by omega)]
      split <;> omega
  · obtain ⟨r, rfl⟩ : ∃ r, x = r + 1 := ⟨x - 1, by omega⟩
    exact (cst_own hcols r (cols + r) (by omega) (by omega) (by omega)).trans (if_pos rfl)
  · obtain ⟨r, rfl⟩ : ∃ r, x = r + 1 := ⟨x - 1, by omega⟩
    obtain ⟨s, rfl⟩ : ∃ s, y = s + 1 := ⟨y - 1, by omega⟩
    exact (cst_own hcols r (cols + s) (by omega) (by omega) (by omega)).trans (if_neg (by omega))

/-- least is the total of an assignment, and none has a lower one. -/
theorem least_min (g : Good (costs.drop from_.toNat) cols miss) (ht : taken.length = cols) : Val miss (costs.drop from_.toNat) taken (assign_least costs miss from_ taken) ∧ ∀ t, Val miss (costs.drop from_.toNat) taken t → assign_least costs miss from_ taken ≤ t := by
  by_cases hn : 0 < (costs.drop from_.toNat).length
  · have hP := g.prob (taken := taken) hn
    have n1 := g.n1
    have c1 := g.c1
    have mb := g.mb
    have hcols : ((costs.drop from_.toNat)[0]?.getD []).length = cols := g.len _ (rw_mem hn)
    obtain ⟨σ, s1, s2, s3⟩ := least_eq hP rfl hcols
    have small : assign_least costs miss from_ taken ≤ 35184372088832 := by
      refine Int.le_trans (s3 (fun r => cols + r) ⟨fun r hr => by omega, fun r s _ _ e => by omega⟩) ?_
      rw [sm_congr (g := fun _ => miss) (fun r hr => (cst_own hcols r (cols + r) (by omega) (by omega) (by omega)).trans (if_pos rfl)), sm_const]
      have : ((costs.drop from_.toNat).length : Int) * miss ≤ 32 * 1099511627776 := Int.mul_le_mul (by omega) mb.2 mb.1 (by omega)
      omega
    have each : ∀ r, r < (costs.drop from_.toNat).length → cst costs miss from_ taken ((r + 1 : Nat) : Int) (σ r + 1) ≤ 35184372088832 := fun r hr => by
      have := sm_one (f := fun r => cst costs miss from_ taken ((r + 1 : Nat) : Int) (σ r + 1)) (fun i hi => (hP.cb (i + 1) (σ i + 1) (by omega) (by omega) (by omega) (by have := s1.lt i hi; omega)).1) r hr
      rw [← s2] at this
      exact Int.le_trans this small
    refine ⟨?_, fun t hv => ?_⟩
    · have key : ∀ r, r < (costs.drop from_.toNat).length → (σ r < cols ∧ gb taken (σ r) = false ∧ 0 ≤ gt (rw_ (costs.drop from_.toNat) r) (σ r) ∧ cst costs miss from_ taken ((r + 1 : Nat) : Int) (σ r + 1) = gt (rw_ (costs.drop from_.toNat) r) (σ r)) ∨ (¬ σ r < cols ∧ cst costs miss from_ taken ((r + 1 : Nat) : Int) (σ r + 1) = miss) := fun r hr => by
        have e := each r hr
        by_cases c : σ r < cols
        · rw [cst_col hcols r (σ r) c] at e ⊢
          by_cases d : gb taken (σ r) = true
          · rw [if_pos d] at e; omega
          · by_cases f : gt (rw_ (costs.drop from_.toNat) r) (σ r) < 0
            · rw [if_neg d, if_pos f] at e; omega
            · rw [if_neg d, if_neg f]
              exact .inl ⟨c, by cases q : gb taken (σ r); rfl; exact absurd q d, by omega, rfl⟩
        · have lt := s1.lt r hr
          rw [cst_own hcols r (σ r) (by omega) (by omega) (by omega)] at e ⊢
          by_cases d : σ r = cols + r
          · rw [if_pos d]; exact .inr ⟨c, rfl⟩
          · rw [if_neg d] at e; omega
      have a : Asg (costs.drop from_.toNat) taken cols (fun r => if σ r < cols then σ r + 1 else 0) := by
        refine ⟨fun r hr hz => ?_, fun r s hr hs e hz => ?_⟩
        · rcases key r hr with ⟨k1, k2, k3, _⟩ | ⟨k1, _⟩
          · simp only [if_pos k1, Nat.add_sub_cancel]
            exact ⟨k1, k2, k3⟩
          · simp only [if_neg k1] at hz; exact absurd rfl hz
        · by_cases c : σ r < cols
          · by_cases d : σ s < cols
            · simp only [if_pos c, if_pos d] at e
              exact s1.inj r s hr hs (by omega)
            · simp only [if_pos c, if_neg d] at e; omega
          · simp only [if_neg c] at hz; exact absurd rfl hz
      have v := val_of_asg (miss := miss) _ taken _ g.len ht a
      rw [s2, sm_congr (g := vl (costs.drop from_.toNat) miss (fun r => if σ r < cols then σ r + 1 else 0)) fun r hr => ?_]
      · exact v
      · unfold vl
        rcases key r hr with ⟨k1, _, _, k4⟩ | ⟨k1, k2⟩
        · simp only [if_pos k1, Nat.add_sub_cancel]
          rw [k4, if_neg (by omega)]
        · simp only [if_neg k1, if_pos]
          rw [k2]
    · obtain ⟨τ, a, e⟩ := asg_of_val (cols := cols) hv g.len ht
      have q := s3 (fun r => if τ r = 0 then cols + r else τ r - 1) ⟨fun r hr => ?_, fun r s hr hs e => ?_⟩
      · rw [e]
        refine Int.le_trans q (Int.le_of_eq (sm_congr fun r hr => ?_))
        unfold vl
        by_cases c : τ r = 0
        · simp only [if_pos c]
          exact (cst_own hcols r (cols + r) (by omega) (by omega) (by omega)).trans (if_pos rfl)
        · obtain ⟨o1, o2, o3⟩ := a.ok r hr c
          simp only [if_neg c]
          rw [cst_col hcols r (τ r - 1) (by omega), if_neg (by rw [o2]; exact Bool.false_ne_true), if_neg (by omega)]
      · by_cases c : τ r = 0
        · simp only [if_pos c]; omega
        · simp only [if_neg c]
          have := (a.ok r hr c).1
          omega
      · by_cases c : τ r = 0 <;> by_cases d : τ s = 0
        · simp only [if_pos c, if_pos d] at e; omega
        · simp only [if_pos c, if_neg d] at e
          have := (a.ok s hs d).1; omega
        · simp only [if_neg c, if_pos d] at e
          have := (a.ok r hr c).1; omega
        · simp only [if_neg c, if_neg d] at e
          exact a.inj r s hr hs (by omega) c
  · have e0 : costs.drop from_.toNat = [] := List.length_eq_zero_iff.1 (by omega)
    have el : assign_least costs miss from_ taken = 0 := by unfold assign_least; rw [e0]; rfl
    rw [el, e0]
    exact ⟨.nil _, fun t hv => by cases hv; exact Int.le_refl _⟩
end
end Go.Sky
