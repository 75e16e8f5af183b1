/- What the check of a tube says, and what the search in it finds. Conditions: in each theorem. -/
import Derived.Test.YtkjdmkgacmkpjaaUa
import Derived.Test.YtkjdmkgacmkpjaaGeo
namespace Go.Sky
open Go Go.Eng Go.Glue

abbrev nd (l : List TubeNode) (k : Nat) : TubeNode := l[k]?.getD TubeNode.zero
def TubeNode.In (n : TubeNode) : Prop := (0 ≤ n.Node.Time ∧ n.Node.Time ≤ 200000) ∧ n.Node.At.In ∧ (0 ≤ n.Node.Height ∧ n.Node.Height ≤ 60000) ∧ (0 ≤ n.Radius ∧ n.Radius ≤ 1000000) ∧ (0 ≤ n.Band ∧ n.Band ≤ 60000)
def TubeOk (l : List TubeNode) : Prop := (1 ≤ l.length ∧ l.length ≤ 64) ∧ (∀ k, k < l.length → (nd l k).In) ∧ (∀ k, k + 1 < l.length → (nd l k).Node.Time < (nd l (k + 1)).Node.Time)

theorem tube_L1 (l : List TubeNode) : ∀ (xs : List TubeNode) (k : Nat), xs = l.drop k → Sum.elim (fun _ => (0 : Int)) (fun r => r) (tube_Check_L1 l xs k) = 0 →
    (∀ j, k ≤ j → j < l.length → (nd l j).In) ∧ (∀ j, k ≤ j → 1 ≤ j → j < l.length → (nd l (j - 1)).Node.Time < (nd l j).Node.Time)
  | [], k, hx, _ => by
    have hl : l.length ≤ k := by
      have := congrArg List.length hx
      rw [List.length_drop] at this
      simp at this; omega
    exact ⟨fun j h1 h2 => by omega, fun j h1 _ h2 => by omega⟩
  | x :: xs, k, hx, h => by
    have hk : l[k]? = some x := by
      have := congrArg (fun z => z[0]?) hx
      simpa using this.symm
    have hn : nd l k = x := by unfold nd; rw [hk]; rfl
    have hxs : xs = l.drop (k + 1) := by
      have := congrArg (List.drop 1) hx
      simpa [List.drop_drop, Nat.add_comm] using this
    unfold tube_Check_L1 at h
    have fin : x.In → (1 ≤ k → (nd l (k - 1)).Node.Time < x.Node.Time) → Sum.elim (fun _ => (0 : Int)) (fun r => r) (tube_Check_L1 l xs (k + 1)) = 0 →
        (∀ j, k ≤ j → j < l.length → (nd l j).In) ∧ (∀ j, k ≤ j → 1 ≤ j → j < l.length → (nd l (j - 1)).Node.Time < (nd l j).Node.Time) := by
      intro g1 g2 g3
      obtain ⟨r1, r2⟩ := tube_L1 l xs (k + 1) hxs g3
      refine ⟨fun j h1 h2 => ?_, fun j h1 h3 h2 => ?_⟩
      · by_cases e : j = k
        · subst e; rw [hn]; exact g1
        · exact r1 j (by omega) h2
      · by_cases e : j = k
        · subst e; rw [hn]; exact g2 h3
        · exact r2 j (by omega) h3 h2
    simp only [ite_of_cond] at h
    by_cases c1 : (decide (x.Node.Time < 0) || decide (x.Node.Time > 200000)) = true
    · rw [if_pos c1] at h; simp at h
    · rw [if_neg c1] at h
      simp at c1
      have inn : plane_Check x.Node.At = 0 → ¬ (((((decide (x.Node.Height < 0) || decide (x.Node.Height > 60000)) || decide (x.Radius < 0)) || decide (x.Radius > 1000000)) || decide (x.Band < 0)) || decide (x.Band > 60000)) = true → x.In := by
        intro e1 e2
        simp at e2
        exact ⟨by omega, checkP_iff.1 e1, by omega, by omega, by omega⟩
      by_cases c2 : decide ((k : Int) > 0) = true
      · rw [if_pos c2] at h
        by_cases c3 : decide (x.Node.Time ≤ ((l[(k - 1)]?.getD TubeNode.zero).Node).Time) = true
        · rw [if_pos c3] at h; simp at h
        · rw [if_neg c3] at h
          simp at c3
          by_cases c4 : plane_Check x.Node.At = 0
          · rw [if_neg (by simp [c4])] at h
            by_cases c5 : (((((decide (x.Node.Height < 0) || decide (x.Node.Height > 60000)) || decide (x.Radius < 0)) || decide (x.Radius > 1000000)) || decide (x.Band < 0)) || decide (x.Band > 60000)) = true
            · rw [if_pos c5] at h; simp at h
            · rw [if_neg c5] at h
              exact fin (inn c4 c5) (fun _ => by show ((l[(k - 1)]?.getD TubeNode.zero).Node).Time < x.Node.Time; omega) h
          · rw [if_pos (by simpa using c4)] at h; simp at h; exact absurd h c4
      · rw [if_neg c2] at h
        simp at c2
        by_cases c4 : plane_Check x.Node.At = 0
        · rw [if_neg (by simp [c4])] at h
          by_cases c5 : (((((decide (x.Node.Height < 0) || decide (x.Node.Height > 60000)) || decide (x.Radius < 0)) || decide (x.Radius > 1000000)) || decide (x.Band < 0)) || decide (x.Band > 60000)) = true
          · rw [if_pos c5] at h; simp at h
          · rw [if_neg c5] at h
            exact fin (inn c4 c5) (fun hk => by omega) h
        · rw [if_pos (by simpa using c4)] at h; simp at h; exact absurd h c4
theorem tube_ok {l : List TubeNode} (h : tube_Check l = 0) : TubeOk l := by
  unfold tube_Check at h
  by_cases h1 : (l.length : Int) > 64
  · rw [decide_eq_true h1] at h; cases h
  · rw [decide_eq_false h1, cond_false] at h
    by_cases h2 : (l.length : Int) = 0
    · have e : ((l.length : Int) == 0) = true := by simpa using h2
      rw [e] at h; cases h
    · have e : ((l.length : Int) == 0) = false := by simpa using h2
      rw [e, cond_false] at h
      obtain ⟨g1, g2⟩ := tube_L1 l l 0 rfl h
      exact ⟨by omega, fun k hk => g1 k (Nat.zero_le _) hk, fun k hk => g2 (k + 1) (Nat.zero_le _) (by omega) hk⟩
theorem tube_len {l : List TubeNode} {r : Int} (hr : tube_Check l = r) (h : (r != 0) = false) : 1 ≤ l.length := by
  subst hr; exact (tube_ok (by simpa using h)).1.1
theorem tube_mono {l : List TubeNode} (h : TubeOk l) {i j : Nat} (hij : i < j) (hj : j < l.length) : (nd l i).Node.Time < (nd l j).Node.Time := by
  induction j with
  | zero => omega
  | succ j ih =>
    have hs := h.2.2 j hj
    by_cases e : i = j
    · subst e; exact hs
    · exact Int.lt_trans (ih (by omega) (by omega)) hs

/-- The time asked for is that of a node, or between those of two neighbours. -/
def TimeIn (l : List TubeNode) (t : Int) : Prop := (nd l 0).Node.Time ≤ t ∧ t ≤ (nd l (l.length - 1)).Node.Time

theorem bs_L1 {l : List TubeNode} (h : TubeOk l) {t : Int} (ht : 0 ≤ t ∧ t ≤ 200000) : ∀ (m : Nat) (i j : Int), 0 ≤ i ∧ i ≤ j ∧ j ≤ (l.length : Int) ∧ j - i < (m : Int) →
    (∀ k : Nat, (k : Int) < i → (nd l k).Node.Time < t) → (∀ k : Nat, j ≤ (k : Int) → k < l.length → t ≤ (nd l k).Node.Time) →
    ∃ R : Nat, BinarySearch_tube_L1 l t m i j = some (R : Int) ∧ R ≤ l.length ∧ (∀ k : Nat, k < R → (nd l k).Node.Time < t) ∧ (∀ k : Nat, R ≤ k → k < l.length → t ≤ (nd l k).Node.Time)
  | 0, i, j, hm, _, _ => by omega
  | m + 1, i, j, hm, hlo, hhi => by
    have hlen := h.1.2
    unfold BinarySearch_tube_L1
    by_cases hk : i < j
    · have u := mid_in (n := l.length) ⟨hm.1, hm.2.1, hm.2.2.1⟩ hk (by omega)
      rw [decide_eq_true hk, cond_true, u.2.2.2.2, u.1]
      obtain ⟨c, hc⟩ : ∃ c : Nat, (i + j) / 2 = (c : Int) := ⟨((i + j) / 2).toNat, by omega⟩
      rw [hc] at u ⊢
      have hcl : c < l.length := by omega
      have hin := h.2.1 c hcl
      have ht1 := hin.1
      have e1 : tube_at_1 (l[(c : Int).toNat]?.getD TubeNode.zero) t = (nd l c).Node.Time - t := by
        show w64 ((nd l (c : Int).toNat).Node.Time - t) = _
        rw [show (c : Int).toNat = c by omega, w64_id (by omega)]
      show ∃ R : Nat, cond (decide (tube_at_1 (l[(c : Int).toNat]?.getD TubeNode.zero) t < 0)) _ _ = _ ∧ _
      rw [e1]
      by_cases hlt : (nd l c).Node.Time - t < 0
      · rw [decide_eq_true hlt, cond_true]
        refine bs_L1 h ht m ((c : Int) + 1) j (by omega) (fun k hk => ?_) hhi
        by_cases e : k = c
        · subst e; omega
        · have := tube_mono h (i := k) (j := c) (by omega) hcl; omega
      · rw [decide_eq_false hlt, cond_false]
        refine bs_L1 h ht m i (c : Int) (by omega) hlo (fun k hk hk2 => ?_)
        by_cases e : k = c
        · subst e; omega
        · have := tube_mono h (i := c) (j := k) (by omega) hk2; omega
    · rw [decide_eq_false hk, cond_false]
      refine ⟨i.toNat, by rw [Int.toNat_of_nonneg hm.1], by omega, fun k hk => hlo k (by omega), fun k h1 h2 => hhi k (by omega) h2⟩
/-- What the search finds. -/
theorem bs_eq {l : List TubeNode} (h : TubeOk l) {t : Int} (ht : TimeIn l t) : ∃ R : Nat, R < l.length ∧ BinarySearch_tube l t = ((R : Int), decide ((nd l R).Node.Time = t)) ∧ ((nd l R).Node.Time = t ∨ 1 ≤ R ∧ (nd l (R - 1)).Node.Time < t ∧ t < (nd l R).Node.Time) := by
  have hlen := h.1
  have t0 := (h.2.1 0 (by omega)).1
  have t1 := (h.2.1 (l.length - 1) (by omega)).1
  have ht' : 0 ≤ t ∧ t ≤ 200000 := ⟨by have := ht.1; omega, by have := ht.2; omega⟩
  obtain ⟨R, g1, g2, g3, g4⟩ := bs_L1 h ht' (l.length + 1) 0 (l.length : Int) (by omega) (fun k hk => by omega) (fun k hk hk2 => by omega)
  have hR : R < l.length := by
    rcases Nat.lt_or_ge R l.length with g | g
    · exact g
    · have := g3 (l.length - 1) (by omega)
      have := ht.2
      omega
  refine ⟨R, hR, ?_, ?_⟩
  · unfold BinarySearch_tube
    rw [g1]
    show cond (decide ((R : Int) < (l.length : Int))) ((R : Int), tube_at_1 (l[(R : Int).toNat]?.getD TubeNode.zero) t == 0) ((R : Int), false) = _
    have e1 : decide ((R : Int) < (l.length : Int)) = true := by simp; omega
    have tR := (h.2.1 R hR).1
    have e2 : tube_at_1 (l[(R : Int).toNat]?.getD TubeNode.zero) t = (nd l R).Node.Time - t := by
      show w64 ((nd l (R : Int).toNat).Node.Time - t) = _
      rw [show (R : Int).toNat = R by omega, w64_id (by omega)]
    rw [e1, cond_true, e2]
    congr 1
    rw [Bool.eq_iff_iff]
    simp only [beq_iff_eq, decide_eq_true_eq]
    omega
  · have a1 := g4 R (Nat.le_refl _) hR
    by_cases e : (nd l R).Node.Time = t
    · exact .inl e
    · rcases R with _ | R
      · have := ht.1; omega
      · exact .inr ⟨by omega, g3 R (by omega), by omega⟩
theorem bs_at {l : List TubeNode} {t : Int} {r : Int × Bool} (h : TubeOk l ∧ TimeIn l t) (hr : BinarySearch_tube l t = r) : (0 ≤ r.1 ∧ r.1 < (l.length : Int) ∧ r.1.toNat < l.length) ∧ (r.2 = false → 1 ≤ r.1 ∧ w64 (r.1 - 1) = r.1 - 1 ∧ (w64 (r.1 - 1)).toNat < l.length) := by
  obtain ⟨R, g1, g2, g3⟩ := bs_eq h.1 h.2
  have hl := h.1.1
  rw [← hr, g2]
  refine ⟨by simp only; omega, fun hf => ?_⟩
  simp only [decide_eq_false_iff_not] at hf
  have g4 := g3.resolve_left hf
  simp only
  rw [w64_id (by omega)]
  omega
theorem ends_in {l : List TubeNode} {t : Int} {r2 : Int × Int} {r1 : Int} (hr1 : tube_Check l = r1) (h1 : (r1 != 0) = false) (hr2 : tube_ends l = r2) (h2 : ((decide (t < r2.1)) || (decide (t > r2.2))) = false) : TubeOk l ∧ TimeIn l t := by
  subst hr1 hr2
  refine ⟨tube_ok (by simpa using h1), ?_⟩
  unfold tube_ends at h2
  simp at h2
  exact h2
end Go.Sky
