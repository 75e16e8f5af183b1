/- What slices.Compact leaves of a list, and the invariants of its loops. Conditions: in each theorem. -/
import Derived.Test.YtfjchccilkgcnaaSorting
namespace Go.Srt
open Go Go.Eng

section
variable {T : Type}
def cptA (q : T → T → Bool) (p : T) : List T → List T
  | [] => []
  | b :: l => if q b p = true then cptA q b l else b :: cptA q b l
/-- The list without an element that is its left neighbour's like. -/
def cpt (q : T → T → Bool) : List T → List T
  | [] => []
  | a :: l => a :: cptA q a l
variable {q : T → T → Bool} {z : T}

theorem cptA_snoc (b : T) : ∀ (l : List T) (p : T), cptA q p (l ++ [b]) = cptA q p l ++ (if q b ((p :: l)[l.length]?.getD z) = true then [] else [b])
  | [], p => by simp [cptA]
  | a :: l, p => by
    have ih := cptA_snoc b l a
    have e : (p :: a :: l)[(a :: l).length]?.getD z = (a :: l)[l.length]?.getD z := by simp
    rw [e]
    simp only [List.cons_append, cptA]
    rw [ih]
    split <;> simp

theorem cpt_snoc (l : List T) (m : Nat) (h1 : 1 ≤ m) (h2 : m < l.length) :
    cpt q (l.take (m + 1)) = cpt q (l.take m) ++ (if q (l[m]?.getD z) (l[m - 1]?.getD z) = true then [] else [l[m]?.getD z]) := by
  have e : l.take (m + 1) = l.take m ++ [l[m]?.getD z] := by
    rw [List.take_add_one, List.getElem?_eq_getElem h2]; rfl
  rw [e]
  cases l with
  | nil => simp at h2
  | cons a l =>
    obtain ⟨n, rfl⟩ : ∃ n, m = n + 1 := ⟨m - 1, by omega⟩
    simp only [List.length_cons] at h2
    simp only [List.take_succ_cons, List.cons_append, cpt, List.cons.injEq, true_and]
    rw [cptA_snoc (z := z)]
    have hl : (l.take n).length = n := by rw [List.length_take]; omega
    have e2 : (a :: l.take n)[(l.take n).length]?.getD z = (a :: l)[n + 1 - 1]?.getD z := by
      rw [hl, Nat.add_sub_cancel]
      cases n with
      | zero => simp
      | succ n => simp
    rw [e2]

theorem cpt_one {l : List T} (h : 2 ≤ l.length) : cpt q (l.take (1 : Int).toNat) = l.take (1 : Int).toNat := by
  cases l with
  | nil => simp at h
  | cons a l => simp [cpt, cptA]
theorem cpt_short {l : List T} (h : l.length < 2) : l = cpt q l := by
  match l, h with
  | [], _ => rfl
  | [a], _ => rfl
theorem cpt_all {l : List T} {k : Int} (h : cpt q (l.take k.toNat) = l.take k.toNat) (h2 : (l.length : Int) ≤ k) : l = cpt q l := by
  rw [List.take_of_length_le (by omega)] at h; exact h.symm

theorem snoc_ne {l : List T} {k : Int} (h1 : 1 ≤ k) (h2 : k < l.length) (h : q (l[k.toNat]?.getD z) (l[(k - 1).toNat]?.getD z) = false) :
    cpt q (l.take (k + 1).toNat) = cpt q (l.take k.toNat) ++ [l[k.toNat]?.getD z] := by
  have := cpt_snoc (q := q) (z := z) l k.toNat (by omega) (by omega)
  rw [show (k + 1).toNat = k.toNat + 1 by omega, this, show k.toNat - 1 = (k - 1).toNat by omega, h]; simp
theorem snoc_eq {l : List T} {k : Int} (h1 : 1 ≤ k) (h2 : k < l.length) (h : q (l[k.toNat]?.getD z) (l[(k - 1).toNat]?.getD z) = true) :
    cpt q (l.take (k + 1).toNat) = cpt q (l.take k.toNat) := by
  have := cpt_snoc (q := q) (z := z) l k.toNat (by omega) (by omega)
  rw [show (k + 1).toNat = k.toNat + 1 by omega, this, show k.toNat - 1 = (k - 1).toNat by omega, h]; simp
theorem take_snoc {l : List T} {k : Int} (h1 : 0 ≤ k) (h2 : k < l.length) : l.take (k + 1).toNat = l.take k.toNat ++ [l[k.toNat]?.getD z] := by
  rw [show (k + 1).toNat = k.toNat + 1 by omega, List.take_add_one, List.getElem?_eq_getElem (by omega)]; rfl

theorem cpt_step {l : List T} {k : Int} (h : cpt q (l.take k.toNat) = l.take k.toNat) (h1 : 1 ≤ k) (h2 : k < l.length) (hq : q (l[k.toNat]?.getD z) (l[(k - 1).toNat]?.getD z) = false) :
    cpt q (l.take (k + 1).toNat) = l.take (k + 1).toNat := by rw [snoc_ne h1 h2 hq, h, take_snoc (z := z) (by omega) h2]
theorem cpt_in {l : List T} {k : Int} (h : cpt q (l.take k.toNat) = l.take k.toNat) (h1 : 1 ≤ k) (h2 : k < l.length) (hq : q (l[k.toNat]?.getD z) (l[(k - 1).toNat]?.getD z) = true) :
    cpt q (l.take (k + 1).toNat) = l.take k.toNat := by rw [snoc_eq h1 h2 hq, h]

/-- The inner loop: what is kept stands in front, what is to come stands as it was. -/
def Cin (q : T → T → Bool) (l : List T) (b i k : Int) (d : List T) : Prop := cpt q (l.take (b + i).toNat) = d.take k.toNat ∧ d.drop (b + i - 1).toNat = l.drop (b + i - 1).toNat

theorem drop_at (l : List T) (b i : Int) (h1 : 0 ≤ b) (h2 : 0 ≤ i) : (l.drop b.toNat)[i.toNat]?.getD z = l[(b + i).toNat]?.getD z := by
  rw [List.getElem?_drop]; congr 2; omega
theorem at_of_drop {l d : List T} {a i : Nat} (h : d.drop a = l.drop a) (hi : a ≤ i) : d[i]? = l[i]? := by
  have := congrArg (fun x => x[i - a]?) h
  simp only [List.getElem?_drop] at this
  rwa [show a + (i - a) = i by omega] at this
theorem cin_at {l d : List T} {b i k j : Int} (h : Cin q l b i k d) (h1 : b + i - 1 ≤ b + j) (h2 : 1 ≤ b) (h3 : 1 ≤ i) : (d.drop b.toNat)[j.toNat]?.getD z = l[(b + j).toNat]?.getD z := by
  rw [drop_at d b j (by omega) (by omega), at_of_drop h.2 (by omega)]

theorem cin_start {l : List T} {k : Int} (h : cpt q (l.take k.toNat) = l.take k.toNat) (h1 : 1 ≤ k) (h2 : k < l.length) (hq : q (l[k.toNat]?.getD z) (l[(k - 1).toNat]?.getD z) = true) : Cin q l k 1 k l :=
  ⟨cpt_in h h1 h2 hq, rfl⟩
theorem cin_eq {l d : List T} {b i k : Int} (h : Cin q l b i k d) (h1 : 1 ≤ b) (h2 : 1 ≤ i) (h3 : b + i < l.length)
    (hq : q ((d.drop b.toNat)[i.toNat]?.getD z) ((d.drop b.toNat)[(i - 1).toNat]?.getD z) = true) : Cin q l b (i + 1) k d := by
  rw [cin_at h (by omega) h1 h2, cin_at h (by omega) h1 h2] at hq
  rw [show b + (i - 1) = b + i - 1 by omega] at hq
  refine ⟨?_, ?_⟩
  · rw [show b + (i + 1) = (b + i) + 1 by omega, snoc_eq (by omega) h3 hq]; exact h.1
  · have := congrArg (List.drop 1) h.2
    rw [List.drop_drop, List.drop_drop] at this
    rwa [show (b + i - 1).toNat + 1 = (b + (i + 1) - 1).toNat by omega] at this
theorem cin_ne {l d : List T} {b i k : Int} (h : Cin q l b i k d) (h1 : 1 ≤ b) (h2 : 1 ≤ i) (h3 : b + i < l.length) (h4 : 0 ≤ k) (h5 : k ≤ b + i - 1) (h6 : d.length = l.length)
    (hq : q ((d.drop b.toNat)[i.toNat]?.getD z) ((d.drop b.toNat)[(i - 1).toNat]?.getD z) = false) : Cin q l b (i + 1) (k + 1) (d.set k.toNat ((d.drop b.toNat)[i.toNat]?.getD z)) := by
  rw [cin_at h (by omega) h1 h2, cin_at h (by omega) h1 h2] at hq
  rw [show b + (i - 1) = b + i - 1 by omega] at hq
  rw [cin_at h (by omega) h1 h2]
  refine ⟨?_, ?_⟩
  · rw [show b + (i + 1) = (b + i) + 1 by omega, snoc_ne (by omega) h3 hq, h.1, take_snoc (z := z) h4 (by rw [List.length_set]; omega)]
    rw [List.take_set_of_le (by omega), List.getElem?_set_self (by omega)]; rfl
  · have := congrArg (List.drop 1) h.2
    rw [List.drop_drop, List.drop_drop] at this
    rw [show (b + i - 1).toNat + 1 = (b + (i + 1) - 1).toNat by omega] at this
    rw [List.drop_set_of_lt (by omega)]; exact this
theorem cin_end {l d : List T} {b i k : Int} (h : Cin q l b i k d) (h1 : (l.length : Int) ≤ b + i) : d.take k.toNat = cpt q l := by
  have := h.1
  rw [List.take_of_length_le (by omega)] at this; exact this.symm
theorem take_clear {l : List T} {k : Nat} {x : List T} (h : k ≤ l.length) : (l.take k ++ x).take k = l.take k := by
  rw [List.take_append, List.take_of_length_le (by rw [List.length_take]; omega), List.length_take, show k - min k l.length = 0 by omega]; simp
end
end Go.Srt
