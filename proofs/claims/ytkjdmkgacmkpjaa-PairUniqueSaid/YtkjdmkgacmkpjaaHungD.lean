/- The pairs of the last round are the least: any other assignment costs as much as the potentials together. Conditions: in each theorem. -/
import Derived.Test.YtkjdmkgacmkpjaaHungC
namespace Go.Sky
open Go Go.Eng

def sm : Nat → (Nat → Int) → Int
  | 0, _ => 0
  | n + 1, f => f 0 + sm n (fun i => f (i + 1))
theorem sm_congr : ∀ {n : Nat} {f g : Nat → Int}, (∀ i, i < n → f i = g i) → sm n f = sm n g
  | 0, _, _, _ => rfl
  | n + 1, f, g, h => by unfold sm; rw [h 0 (by omega), sm_congr (fun i hi => h (i + 1) (by omega))]
theorem sm_add : ∀ (n : Nat) (f g : Nat → Int), sm n (fun i => f i + g i) = sm n f + sm n g
  | 0, _, _ => rfl
  | n + 1, f, g => by
    show f 0 + g 0 + sm n (fun i => f (i + 1) + g (i + 1)) = (f 0 + sm n (fun i => f (i + 1))) + (g 0 + sm n (fun i => g (i + 1)))
    rw [sm_add n (fun i => f (i + 1)) (fun i => g (i + 1))]; omega
theorem sm_le : ∀ {n : Nat} {f g : Nat → Int}, (∀ i, i < n → f i ≤ g i) → sm n f ≤ sm n g
  | 0, _, _, _ => Int.le_refl _
  | n + 1, f, g, h => by
    have a := h 0 (by omega)
    have b := sm_le (n := n) (f := fun i => f (i + 1)) (g := fun i => g (i + 1)) (fun i hi => h (i + 1) (by omega))
    unfold sm; omega
theorem sm_zero : ∀ (n : Nat), sm n (fun _ => 0) = 0
  | 0 => rfl
  | n + 1 => by unfold sm; rw [sm_zero n]; rfl
theorem sm_const : ∀ (n : Nat) (c : Int), sm n (fun _ => c) = (n : Int) * c
  | 0, c => by simp [sm]
  | n + 1, c => by unfold sm; rw [sm_const n c, Int.natCast_add, Int.add_mul]; simp [Int.add_comm]
theorem sm_one : ∀ {n : Nat} {f : Nat → Int}, (∀ i, i < n → 0 ≤ f i) → ∀ i, i < n → f i ≤ sm n f
  | 0, _, _, i, hi => absurd hi (Nat.not_lt_zero _)
  | n + 1, f, h, i, hi => by
    have z : 0 ≤ sm n (fun i => f (i + 1)) := by rw [← sm_zero n]; exact sm_le fun i hi => h (i + 1) (by omega)
    have z0 := h 0 (by omega)
    unfold sm
    cases i with
    | zero => omega
    | succ i =>
      have := sm_one (n := n) (f := fun i => f (i + 1)) (fun i hi => h (i + 1) (by omega)) i (by omega)
      omega
theorem sm_upd : ∀ {n : Nat} {f : Nat → Int} {a : Nat}, a < n → sm n f = sm n (fun i => if i = a then 0 else f i) + f a
  | 0, _, _, h => absurd h (Nat.not_lt_zero _)
  | n + 1, f, a, h => by
    show f 0 + sm n (fun i => f (i + 1)) = ((if 0 = a then 0 else f 0) + sm n (fun i => if i + 1 = a then 0 else f (i + 1))) + f a
    cases a with
    | zero =>
      rw [if_pos rfl, sm_congr (n := n) (f := fun i => if i + 1 = 0 then 0 else f (i + 1)) (g := fun i => f (i + 1)) (fun i _ => if_neg (by omega))]
      omega
    | succ a =>
      have := sm_upd (n := n) (f := fun i => f (i + 1)) (a := a) (by omega)
      rw [this, if_neg (by omega), sm_congr (n := n) (f := fun i => if i + 1 = a + 1 then 0 else f (i + 1)) (g := fun i => if i = a then 0 else f (i + 1)) (fun i _ => by
        by_cases c : i = a
        · rw [if_pos c, if_pos (by omega)]
        · rw [if_neg c, if_neg (by omega)])]
      omega

/-- Indices below n to different ones below m. -/
structure Into (n m : Nat) (σ : Nat → Nat) : Prop where
  lt : ∀ r, r < n → σ r < m
  inj : ∀ r s, r < n → s < n → σ r = σ s → r = s
theorem Into.tail {n m : Nat} {σ : Nat → Nat} (h : Into (n + 1) m σ) : Into n m (fun r => σ (r + 1)) :=
  ⟨fun r hr => h.lt (r + 1) (by omega), fun r s hr hs e => by have := h.inj (r + 1) (s + 1) (by omega) (by omega) e; omega⟩
theorem sm_into : ∀ {n m : Nat} {σ : Nat → Nat} {g : Nat → Int}, Into n m σ → (∀ j, j < m → (∀ r, r < n → σ r ≠ j) → g j = 0) → sm m g = sm n (fun r => g (σ r))
  | 0, m, σ, g, _, h => by
    rw [sm_congr (n := m) (f := g) (g := fun _ => 0) (fun j hj => h j hj fun r hr => absurd hr (Nat.not_lt_zero _)), sm_zero]; rfl
  | n + 1, m, σ, g, hi, h => by
    have ne : ∀ r, r < n → σ (r + 1) ≠ σ 0 := fun r hr e => by have := hi.inj (r + 1) 0 (by omega) (by omega) e; omega
    rw [sm_upd (n := m) (f := g) (a := σ 0) (hi.lt 0 (by omega)), sm_into (n := n) (m := m) (g := fun i => if i = σ 0 then 0 else g i) hi.tail (fun j hj hn => ?_)]
    · show _ = g (σ 0) + sm n (fun r => g (σ (r + 1)))
      rw [sm_congr (n := n) (f := fun r => if σ (r + 1) = σ 0 then 0 else g (σ (r + 1))) (g := fun r => g (σ (r + 1))) (fun r hr => if_neg (ne r hr))]
      omega
    · show (if j = σ 0 then 0 else g j) = 0
      by_cases c : j = σ 0
      · exact if_pos c
      · rw [if_neg c]
        refine h j hj fun r hr e => ?_
        cases r with
        | zero => exact c e.symm
        | succ r => exact hn r (by omega) e
theorem sm_into_le : ∀ {n m : Nat} {σ : Nat → Nat} {g : Nat → Int}, Into n m σ → (∀ j, j < m → g j ≤ 0) → sm m g ≤ sm n (fun r => g (σ r))
  | 0, m, σ, g, _, h => by
    have := sm_le (n := m) (f := g) (g := fun _ => 0) h
    rw [sm_zero] at this; exact this
  | n + 1, m, σ, g, hi, h => by
    have ne : ∀ r, r < n → σ (r + 1) ≠ σ 0 := fun r hr e => by have := hi.inj (r + 1) 0 (by omega) (by omega) e; omega
    have ih := sm_into_le (n := n) (m := m) (g := fun i => if i = σ 0 then 0 else g i) hi.tail (fun j hj => by
      show (if j = σ 0 then 0 else g j) ≤ 0
      by_cases c : j = σ 0
      · rw [if_pos c]; exact Int.le_refl _
      · rw [if_neg c]; exact h j hj)
    rw [sm_upd (n := m) (f := g) (a := σ 0) (hi.lt 0 (by omega))]
    show _ ≤ g (σ 0) + sm n (fun r => g (σ (r + 1)))
    rw [sm_congr (n := n) (f := fun r => if σ (r + 1) = σ 0 then 0 else g (σ (r + 1))) (g := fun r => g (σ (r + 1))) (fun r hr => if_neg (ne r hr))] at ih
    omega

/-- What a column adds to the total. -/
def gain (c : Int → Nat → Int) (row : List Int) (j : Nat) : Int := if gt row (j + 1) > 0 then c (gt row (j + 1)) (j + 1) else 0

section
variable {n m : Nat} {c : Int → Nat → Int} {u v row way : List Int}
theorem Hung.best (h : Hung n m c n u v row way) : ∃ σ, Into n m σ ∧ sm m (gain c row) = sm n (fun r => c ((r + 1 : Nat) : Int) (σ r + 1)) ∧ ∀ τ, Into n m τ → sm n (fun r => c ((r + 1 : Nat) : Int) (σ r + 1)) ≤ sm n (fun r => c ((r + 1 : Nat) : Int) (τ r + 1)) := by
  have ex : ∀ r : Nat, ∃ j : Nat, r < n → j < m ∧ gt row (j + 1) = ((r + 1 : Nat) : Int) := fun r => by
    by_cases hr : r < n
    · obtain ⟨j, j1, j2, j3⟩ := h.sur (r + 1) (by omega) (by omega)
      exact ⟨j - 1, fun _ => ⟨by omega, by rw [show j - 1 + 1 = j by omega]; exact j3⟩⟩
    · exact ⟨0, fun q => absurd q hr⟩
  obtain ⟨σ, hσ⟩ := Classical.axiomOfChoice ex
  have into : Into n m σ := ⟨fun r hr => (hσ r hr).1, fun r s hr hs e => by
    have a := (hσ r hr).2
    have b := (hσ s hs).2
    rw [e, b] at a
    omega⟩
  have off : ∀ j, j < m → (∀ r, r < n → σ r ≠ j) → gt row (j + 1) = 0 := fun j hj hn => by
    by_cases z : gt row (j + 1) = 0
    · exact z
    · exfalso
      have b := h.rowb (j + 1) (by omega)
      refine hn ((gt row (j + 1)).toNat - 1) (by omega) ?_
      have q := hσ ((gt row (j + 1)).toNat - 1) (by omega)
      have := h.inj (σ ((gt row (j + 1)).toNat - 1) + 1) (j + 1) (by omega) (by omega) (by omega) (by omega) (by omega) (by omega)
      omega
  refine ⟨σ, into, ?_, fun τ hτ => ?_⟩
  · rw [sm_into into fun j hj hn => by unfold gain; rw [off j hj hn]; rfl]
    refine sm_congr fun r hr => ?_
    unfold gain
    rw [(hσ r hr).2, if_pos (by omega)]
  · have e1 : sm n (fun r => c ((r + 1 : Nat) : Int) (σ r + 1)) = sm n (fun r => gt u (r + 1)) + sm n (fun r => gt v (σ r + 1)) := by
      rw [← sm_add]
      refine sm_congr fun r hr => ?_
      obtain ⟨q1, q2⟩ := hσ r hr
      have := h.tight (σ r + 1) (by omega) (by omega) (by rw [q2]; omega)
      rw [q2] at this
      unfold redc at this
      rw [Int.toNat_natCast] at this
      omega
    have e2 : sm n (fun r => gt u (r + 1)) + sm n (fun r => gt v (τ r + 1)) ≤ sm n (fun r => c ((r + 1 : Nat) : Int) (τ r + 1)) := by
      rw [← sm_add]
      refine sm_le fun r hr => ?_
      have := h.red (r + 1) (τ r + 1) (by omega) (by omega) (by omega) (by have := hτ.lt r hr; omega)
      unfold redc at this
      rw [Int.toNat_natCast] at this
      omega
    have e3 : sm m (fun j => gt v (j + 1)) = sm n (fun r => gt v (σ r + 1)) := sm_into (g := fun j => gt v (j + 1)) into fun j hj hn => (h.vneg (j + 1) (by omega) (by omega)).2 (off j hj hn)
    have e4 : sm m (fun j => gt v (j + 1)) ≤ sm n (fun r => gt v (τ r + 1)) := sm_into_le (g := fun j => gt v (j + 1)) hτ fun j hj => (h.vneg (j + 1) (by omega) (by omega)).1
    omega
end

section
variable {n m cols : Nat} {costs : List (List Int)} {miss from_ : Int} {taken : List Bool} {row : List Int}
theorem summed (hm : m ≤ 64) (hr : ∀ j, j < m → gt row (j + 1) > 0 → 1 ≤ gt row (j + 1) ∧ gt row (j + 1) ≤ 1000) (hc : ∀ j, j < m → gt row (j + 1) > 0 → 0 ≤ cst costs miss from_ taken (gt row (j + 1)) (j + 1) ∧ cst costs miss from_ taken (gt row (j + 1)) (j + 1) ≤ 36028797018963968) :
    ∀ (f k : Nat) (s : Int), f + k = m → 0 ≤ s → s ≤ (k : Int) * 36028797018963968 → assign_least_L7 costs miss from_ taken row f k s = s + sm f (fun i => gain (cst costs miss from_ taken) row (k + i)) := by
  intro f
  induction f with
  | zero =>
    intro k s _ _ _
    show s = s + 0
    omega
  | succ f ih =>
    intro k s hf h0 h1
    have ih := ih (k + 1)
    have ek : (1 + (k : Int)).toNat = k + 1 := by omega
    unfold assign_least_L7 sm
    simp only [ek, Nat.add_zero]
    have eg : sm f (fun i => gain (cst costs miss from_ taken) row (k + (i + 1))) = sm f (fun i => gain (cst costs miss from_ taken) row (k + 1 + i)) := sm_congr fun i _ => by rw [show k + (i + 1) = k + 1 + i by omega]
    rw [eg]
    by_cases c : gt row (k + 1) > 0
    · have hrk := hr k (by omega) c
      have hck := hc k (by omega) c
      rw [show decide (row[k + 1]?.getD 0 > 0) = true from decide_eq_true c, cond_true]
      have ec : assign_least_1 (w64 ((row[k + 1]?.getD 0) - 1)) (w64 (1 + (k : Int) - 1)) (((costs.drop from_.toNat)[0]?.getD []).length : Int) miss taken (costs.drop from_.toNat) = cst costs miss from_ taken (gt row (k + 1)) (k + 1) := by
        unfold cst
        rw [show row[k + 1]?.getD 0 = gt row (k + 1) from rfl, w64_id (x := gt row (k + 1) - 1) (by omega), w64_id (x := 1 + (k : Int) - 1) (by omega), show 1 + (k : Int) - 1 = ((k + 1 : Nat) : Int) - 1 by omega]
      rw [ec, w64_id (by omega), ih _ (by omega) (by omega) (by omega)]
      have : gain (cst costs miss from_ taken) row k = cst costs miss from_ taken (gt row (k + 1)) (k + 1) := by unfold gain; rw [if_pos c]
      omega
    · rw [show decide (row[k + 1]?.getD 0 > 0) = false from decide_eq_false c, cond_false, ih _ (by omega) (by omega) (by omega)]
      have : gain (cst costs miss from_ taken) row k = 0 := by unfold gain; rw [if_neg c]
      omega

/-- What least computes is the least sum over all ways to give each row a column. -/
theorem least_eq (hP : Prob n m cols (cst costs miss from_ taken) miss) (hn : (costs.drop from_.toNat).length = n) (hcols : ((costs.drop from_.toNat)[0]?.getD []).length = cols) :
    ∃ σ, Into n m σ ∧ assign_least costs miss from_ taken = sm n (fun r => cst costs miss from_ taken ((r + 1 : Nat) : Int) (σ r + 1)) ∧ ∀ τ, Into n m τ → assign_least costs miss from_ taken ≤ sm n (fun r => cst costs miss from_ taken ((r + 1 : Nat) : Int) (τ r + 1)) := by
  have hn1 := hP.n1
  have hm := hP.m1
  obtain ⟨u', v', row', way', e1, h⟩ := rounds hP n 0 _ _ _ _ (by omega) (hung0 hP)
  obtain ⟨σ, s1, s2, s3⟩ := h.best
  have em : w64 ((cols : Int) + (n : Int)) = (m : Int) := by rw [w64_id (by omega)]; omega
  have ev : assign_least costs miss from_ taken = sm m (gain (cst costs miss from_ taken) row') := by
    unfold assign_least
    simp only [hn, hcols, em]
    rw [show ((n : Int) == 0) = false by simp; omega, cond_false, show (w64 ((n : Int) + 1)).toNat = n + 1 by rw [w64_id (by omega)]; omega, show (w64 ((m : Int) + 1)).toNat = m + 1 by rw [w64_id (by omega)]; omega, Int.toNat_natCast, Int.toNat_natCast, e1]
    unfold bindv
    simp only
    have rb := h.rowb
    rw [summed (m := m) (by omega) (fun j hj q => by have := rb (j + 1) (by omega); omega) (fun j hj q => by
      have b := rb (j + 1) (by omega)
      have := hP.cb (gt row' (j + 1)).toNat (j + 1) (by omega) (by omega) (by omega) (by omega)
      rwa [show (((gt row' (j + 1)).toNat : Nat) : Int) = gt row' (j + 1) by omega] at this) m 0 0 (by omega) (by omega) (by omega), Int.zero_add]
    exact sm_congr fun i _ => by rw [Nat.zero_add]
  rw [ev, s2]
  exact ⟨σ, s1, rfl, s3⟩
end
end Go.Sky
