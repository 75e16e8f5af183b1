/- The lower median of a list of integers is the value that more than half of them have. Conditions: none. -/
import Derived.Test.YtfjchccilkgcnaaFct
namespace Go.Sky

theorem count_le_of_gt (v : Int) : ∀ (l : List Int) (k : Nat), (∀ i, i ≤ k → i < l.length → l[i]?.getD 0 ≠ v) → k < l.length → l.count v + k + 1 ≤ l.length
  | [], k, _, h => absurd h (Nat.not_lt_zero _)
  | a :: l, k, h, hk => by
    have h0 := h 0 (Nat.zero_le _) (by simp)
    simp only [List.getElem?_cons_zero, Option.getD_some] at h0
    have hc : (a :: l).count v = l.count v := by rw [List.count_cons]; simp [h0]
    cases k with
    | zero => rw [hc, List.length_cons]; have := List.count_le_length (a := v) (l := l); omega
    | succ k =>
      have := count_le_of_gt v l k (fun i hi hl => by have := h (i + 1) (by omega) (by simp; omega); simpa using this) (by simpa using hk)
      rw [hc, List.length_cons]; omega

theorem count_le_of_ge (v : Int) : ∀ (l : List Int) (k : Nat), (∀ i, k ≤ i → i < l.length → l[i]?.getD 0 ≠ v) → l.count v ≤ k
  | [], k, _ => by simp
  | a :: l, 0, h => by
    have h0 := h 0 (Nat.zero_le _) (by simp)
    simp only [List.getElem?_cons_zero, Option.getD_some] at h0
    have hc : (a :: l).count v = l.count v := by rw [List.count_cons]; simp [h0]
    have := count_le_of_ge v l 0 (fun i hi hl => by have := h (i + 1) (by omega) (by simp; omega); simpa using this)
    omega
  | a :: l, k + 1, h => by
    have := count_le_of_ge v l k (fun i hi hl => by have := h (i + 1) (by omega) (by simp; omega); simpa using this)
    have : (a :: l).count v ≤ l.count v + 1 := by rw [List.count_cons]; split <;> omega
    omega

theorem sorted_get {l : List Int} (h : l.Pairwise (fun x y => decide (x ≤ y) = true)) {i j : Nat} (hij : i ≤ j) (hj : j < l.length) : l[i]?.getD 0 ≤ l[j]?.getD 0 := by
  rcases Nat.lt_or_eq_of_le hij with h1 | h1
  · have := (List.pairwise_iff_getElem.1 h) i j (by omega) hj h1
    rw [List.getElem?_eq_getElem (by omega), List.getElem?_eq_getElem hj]
    simpa using this
  · subst h1; omega

theorem median_most (l : List Int) (v : Int) (h : l.length < 2 * l.count v) : (l.mergeSort (fun x y => decide (x ≤ y)))[(l.length - 1) / 2]?.getD 0 = v := by
  have hp := List.mergeSort_perm l (fun x y => decide (x ≤ y))
  have hs : (l.mergeSort (fun x y => decide (x ≤ y))).Pairwise (fun x y => decide (x ≤ y) = true) := List.pairwise_mergeSort (fun a b c h1 h2 => by simp at *; omega) (fun a b => by simp; omega) l
  generalize l.mergeSort (fun x y => decide (x ≤ y)) = s at hp hs
  have hc := hp.count_eq v
  have hl := hp.length_eq
  rw [← hc, ← hl] at h
  rw [← hl]
  have hpos : 0 < s.length := by have := List.count_le_length (a := v) (l := s); omega
  rcases Int.lt_trichotomy (s[(s.length - 1) / 2]?.getD 0) v with h1 | h1 | h1
  · have := count_le_of_gt v s ((s.length - 1) / 2) (fun i hi hil => by have := sorted_get hs hi (by omega); omega) (by omega)
    omega
  · exact h1
  · have := count_le_of_ge v s ((s.length - 1) / 2) (fun i hi hil => by have := sorted_get hs hi hil; omega)
    omega
theorem med_at {l l' : List Int} (h : l'.length = l.length) : l'[(((l'.length : Int) - 1) / 2).toNat]?.getD 0 = l'[(l.length - 1) / 2]?.getD 0 := by
  rw [h]; congr 2; omega
end Go.Sky
