/- Turning a part of a list: what stays, what is sorted. Conditions: in each theorem. -/
import Derived.Test.YtfjchccilkgcnaaPass
namespace Go.Srt
open Go Go.Eng

section
variable {T : Type}
def ix (z : T) (d : List T) (i : Int) : T := d[i.toNat]?.getD z
def swp (z : T) (d : List T) (i j : Int) : List T := (d.set i.toNat (ix z d j)).set j.toNat (ix z d i)

variable {z : T} {d d' d'' : List T} {a b i j k : Int}

theorem len_swp (z : T) (d : List T) (i j : Int) : (swp z d i j).length = d.length := by unfold swp; rw [List.length_set, List.length_set]
theorem ix_swp (hi : 0 ≤ i ∧ i < d.length) (hj : 0 ≤ j ∧ j < d.length) (hk : 0 ≤ k) : ix z (swp z d i j) k = if k = j then ix z d i else if k = i then ix z d j else ix z d k := by
  unfold swp
  by_cases h1 : k = j
  · subst h1
    rw [if_pos rfl]
    unfold ix
    rw [List.getElem?_set_self (by rw [List.length_set]; omega)]
    rfl
  · rw [if_neg h1]
    by_cases h2 : k = i
    · subst h2
      rw [if_pos rfl]
      unfold ix
      rw [List.getElem?_set_ne (by omega), List.getElem?_set_self (by omega)]
      rfl
    · rw [if_neg h2]
      unfold ix
      rw [List.getElem?_set_ne (by omega), List.getElem?_set_ne (by omega)]

theorem perm_swp (hi : 0 ≤ i ∧ i < d.length) (hj : 0 ≤ j ∧ j < d.length) : (swp z d i j).Perm d := by
  have e1 : d[i.toNat]? = some (ix z d i) := by unfold ix; rw [List.getElem?_eq_getElem (by omega)]; rfl
  have e2 : d[j.toNat]? = some (ix z d j) := by unfold ix; rw [List.getElem?_eq_getElem (by omega)]; rfl
  obtain ⟨h1, e1⟩ := List.getElem?_eq_some_iff.1 e1
  obtain ⟨h2, e2⟩ := List.getElem?_eq_some_iff.1 e2
  have := Array.swap_perm (xs := d.toArray) (i := i.toNat) (j := j.toNat) (by simpa using h1) (by simpa using h2)
  have q := this.toList
  unfold swp
  simpa [Array.swap_def, e1, e2] using q

/-- Only the places from a on, below b, are turned. -/
def Same (z : T) (a b : Int) (d d' : List T) : Prop := d'.length = d.length ∧ d'.Perm d ∧ ∀ i : Int, 0 ≤ i → (i < a ∨ b ≤ i) → ix z d' i = ix z d i
theorem Same.refl (z : T) (a b : Int) (d : List T) : Same z a b d d := ⟨rfl, .refl _, fun _ _ _ => rfl⟩
theorem Same.trans (h : Same z a b d d') (h' : Same z a b d' d'') : Same z a b d d'' := ⟨h'.1.trans h.1, h'.2.1.trans h.2.1, fun i hi ho => (h'.2.2 i hi ho).trans (h.2.2 i hi ho)⟩
theorem Same.wide {a' b' : Int} (h : Same z a b d d') (ha : a' ≤ a) (hb : b ≤ b') : Same z a' b' d d' := ⟨h.1, h.2.1, fun i hi ho => h.2.2 i hi (by omega)⟩
theorem Same.swp (h : Same z a b d d') (ha : 0 ≤ a) (hb : b ≤ d.length) (hi : a ≤ i ∧ i < b) (hj : a ≤ j ∧ j < b) : Same z a b d (swp z d' i j) := by
  have l := h.1
  refine h.trans ⟨len_swp _ _ _ _, perm_swp (by omega) (by omega), fun k hk ho => ?_⟩
  rw [ix_swp (by omega) (by omega) hk, if_neg (by omega), if_neg (by omega)]

theorem get_ix (h : d'.length = d.length) {n : Nat} (e : ix z d' (n : Int) = ix z d (n : Int)) : d'[n]? = d[n]? := by
  unfold ix at e
  rw [Int.toNat_natCast] at e
  by_cases hn : n < d.length
  · rw [List.getElem?_eq_getElem hn, List.getElem?_eq_getElem (by omega)] at e ⊢
    exact congrArg some e
  · rw [List.getElem?_eq_none (by omega), List.getElem?_eq_none (by omega)]

/-- What holds of all elements of the part still does. -/
theorem Same.all {p : T → Prop} (h : Same z a b d d') (ha : 0 ≤ a) (hab : a ≤ b) (hb : b ≤ d.length) (hp : ∀ k, a ≤ k → k < b → p (ix z d k)) : ∀ k, a ≤ k → k < b → p (ix z d' k) := by
  obtain ⟨hl, hperm, ho⟩ := h
  have t1 : d'.take a.toNat = d.take a.toNat := by
    refine List.ext_getElem? fun n => ?_
    rw [List.getElem?_take, List.getElem?_take]
    split
    · exact get_ix hl (ho n (by omega) (by omega))
    · rfl
  have t2 : d'.drop b.toNat = d.drop b.toNat := by
    refine List.ext_getElem? fun n => ?_
    rw [List.getElem?_drop, List.getElem?_drop]
    exact get_ix hl (ho _ (by omega) (by omega))
  have sp : ∀ l : List T, l = l.take a.toNat ++ ((l.drop a.toNat).take (b.toNat - a.toNat) ++ l.drop b.toNat) := fun l => by
    conv => lhs; rw [← List.take_append_drop a.toNat l, ← List.take_append_drop (b.toNat - a.toNat) (l.drop a.toNat), List.drop_drop]
    rw [show a.toNat + (b.toNat - a.toNat) = b.toNat by omega]
  rw [sp d', sp d, t1, t2] at hperm
  have hm := (List.perm_append_right_iff _).1 ((List.perm_append_left_iff _).1 hperm)
  intro k h1 h2
  have hx : ix z d' k ∈ (d'.drop a.toNat).take (b.toNat - a.toNat) := by
    refine List.mem_of_getElem? (i := (k - a).toNat) ?_
    rw [List.getElem?_take, if_pos (by omega), List.getElem?_drop, show a.toNat + (k - a).toNat = k.toNat by omega, List.getElem?_eq_getElem (by omega)]
    unfold ix
    rw [List.getElem?_eq_getElem (by omega)]
    rfl
  obtain ⟨n, hn, e⟩ := List.mem_iff_getElem.1 (hm.mem_iff.1 hx)
  have hn' : n < b.toNat - a.toNat ∧ n < d.length - a.toNat := by
    rw [List.length_take, List.length_drop] at hn; omega
  have := hp (a + n) (by omega) (by omega)
  have e2 : ix z d (a + n) = ix z d' k := by
    rw [← e]
    unfold ix
    rw [show (a + (n : Int)).toNat = a.toNat + n by omega, List.getElem_take, List.getElem_drop, List.getElem?_eq_getElem (by omega)]
    rfl
  rwa [e2] at this

/-- A strict weak order. -/
structure Ord (lt : T → T → Bool) : Prop where
  asym : ∀ x y, lt x y = true → lt y x = false
  ntr : ∀ x y w, lt x y = false → lt y w = false → lt x w = false

variable {lt : T → T → Bool}
theorem Ord.irr (o : Ord lt) (x : T) : lt x x = false := by
  cases h : lt x x with
  | false => rfl
  | true => rw [o.asym _ _ h] at h; cases h
/-- Sorted from a on, below b. -/
def Srt (lt : T → T → Bool) (z : T) (a b : Int) (d : List T) : Prop := ∀ i j, a ≤ i → i < j → j < b → lt (ix z d j) (ix z d i) = false
theorem Srt.short (h : b ≤ a + 1) : Srt lt z a b d := fun i j h1 h2 h3 => by omega
theorem Srt.le {b' : Int} (h : Srt lt z a b d) (hb : b' ≤ b) : Srt lt z a b' d := fun i j h1 h2 h3 => h i j h1 h2 (by omega)
theorem Srt.same {a' b' : Int} (h : Srt lt z a b d) (hs : Same z a' b' d d') (ha : 0 ≤ a) (hab : b ≤ a' ∨ b' ≤ a) : Srt lt z a b d' := fun i j h1 h2 h3 => by
  rw [hs.2.2 i (by omega) (by omega), hs.2.2 j (by omega) (by omega)]; exact h i j h1 h2 h3

/-! ### Insertion -/
/-- Within the insertion of the element i: it stands at j. -/
def Ins (lt : T → T → Bool) (z : T) (a i j : Int) (d : List T) : Prop := ∀ p q, a ≤ p → p < q → q ≤ i → q ≠ j → lt (ix z d q) (ix z d p) = false
theorem ins_start (h : Srt lt z a i d) : Ins lt z a i i d := fun p q h1 h2 h3 h4 => h p q h1 h2 (by omega)
theorem ins_step (o : Ord lt) (h : Ins lt z a i j d) (ha : 0 ≤ a) (hj : a < j ∧ j ≤ i) (hi : i < d.length) (hl : lt (ix z d j) (ix z d (j - 1)) = true) : Ins lt z a i (j - 1) (swp z d j (j - 1)) := fun p q h1 h2 h3 h4 => by
  rw [ix_swp (by omega) (by omega) (by omega), ix_swp (by omega) (by omega) (by omega)]
  by_cases q1 : q = j
  · subst q1
    rw [if_neg h4, if_pos rfl]
    by_cases p1 : p = q - 1
    · rw [if_pos p1]; exact o.asym _ _ hl
    · rw [if_neg p1, if_neg (by omega)]; exact h p (q - 1) h1 (by omega) (by omega) (by omega)
  · rw [if_neg h4, if_neg q1]
    by_cases p1 : p = j - 1
    · rw [if_pos p1]; exact h j q (by omega) (by omega) h3 q1
    · rw [if_neg p1]
      by_cases p2 : p = j
      · rw [if_pos p2]; exact h (j - 1) q (by omega) (by omega) h3 q1
      · rw [if_neg p2]; exact h p q h1 h2 h3 q1
theorem ins_end (o : Ord lt) (h : Ins lt z a i j d) (hj : a ≤ j ∧ j ≤ i) (hx : j ≤ a ∨ lt (ix z d j) (ix z d (j - 1)) = false) : Srt lt z a (i + 1) d := fun p q h1 h2 h3 => by
  by_cases q1 : q = j
  · subst q1
    rcases hx with hx | hx
    · omega
    · by_cases p1 : p = q - 1
      · rw [p1]; exact hx
      · exact o.ntr _ _ _ hx (h p (q - 1) h1 (by omega) (by omega) (by omega))
  · exact h p q h1 h2 (by omega) q1

/-! ### A heap -/
/-- Above each place from lo on (counted from f) nothing is greater, but perhaps at r. -/
def Heap (lt : T → T → Bool) (z : T) (f lo hi r : Int) (d : List T) : Prop := ∀ c, 1 ≤ c → c < hi → lo ≤ (c - 1) / 2 → (c - 1) / 2 ≠ r → lt (ix z d (f + (c - 1) / 2)) (ix z d (f + c)) = false
/-- .. and what hangs below r is not greater than what is above it. -/
def Sift (lt : T → T → Bool) (z : T) (f lo hi r : Int) (d : List T) : Prop := Heap lt z f lo hi r d ∧ ∀ c, 1 ≤ c → c < hi → (c - 1) / 2 = r → lo < r → lo ≤ (r - 1) / 2 → lt (ix z d (f + (r - 1) / 2)) (ix z d (f + c)) = false

theorem sift_end (h : Sift lt z a i j k d) (hx : ∀ c, 1 ≤ c → c < j → (c - 1) / 2 = k → lt (ix z d (a + k)) (ix z d (a + c)) = false) : Heap lt z a i j (-1) d := fun c h1 h2 h3 _ => by
  by_cases e : (c - 1) / 2 = k
  · have := hx c h1 h2 e; rwa [e]
  · exact h.1 c h1 h2 h3 e

theorem sift_step {f lo hi r c : Int} (o : Ord lt) (h : Sift lt z f lo hi r d) (hf : 0 ≤ f) (hlo : 0 ≤ lo ∧ lo ≤ r) (hc : c = 2 * r + 1 ∨ c = 2 * r + 2) (hch : c < hi) (hd : f + hi ≤ d.length)
    (hmax : ∀ c', 1 ≤ c' → c' < hi → (c' - 1) / 2 = r → lt (ix z d (f + c)) (ix z d (f + c')) = false) (hl : lt (ix z d (f + r)) (ix z d (f + c)) = true) : Sift lt z f lo hi c (swp z d (f + r) (f + c)) := by
  have hcr : (c - 1) / 2 = r := by omega
  refine ⟨fun e h1 h2 h3 h4 => ?_, fun e h1 h2 h3 h4 h5 => ?_⟩
  · rw [ix_swp (by omega) (by omega) (by omega), ix_swp (by omega) (by omega) (by omega), if_neg (by omega)]
    by_cases p1 : (e - 1) / 2 = r
    · rw [p1, if_pos rfl]
      by_cases e1 : e = c
      · rw [if_pos (by omega)]; exact o.asym _ _ hl
      · rw [if_neg (by omega), if_neg (by omega)]; exact hmax e h1 h2 p1
    · rw [if_neg (by omega), if_neg (by omega)]
      by_cases e1 : e = r
      · rw [if_pos (by omega), e1]
        by_cases hr : lo < r
        · exact h.2 c (by omega) hch hcr hr (by rw [e1] at h3; exact h3)
        · omega
      · rw [if_neg (by omega)]; exact h.1 e h1 h2 h3 p1
  · rw [hcr, ix_swp (by omega) (by omega) (by omega), ix_swp (by omega) (by omega) (by omega), if_neg (by omega), if_pos rfl, if_neg (by omega), if_neg (by omega)]
    have := h.1 e h1 h2 (by omega) (by omega)
    rwa [h3] at this

theorem heap_top {f hi : Int} (o : Ord lt) (h : Heap lt z f 0 hi (-1) d) : ∀ (n : Nat) (k : Int), 0 ≤ k → k < hi → k.toNat ≤ n → lt (ix z d f) (ix z d (f + k)) = false
  | 0, k, h0, _, hn => by rw [show k = 0 by omega, Int.add_zero]; exact o.irr _
  | n + 1, k, h0, h1, hn => by
    by_cases hk : k = 0
    · rw [hk, Int.add_zero]; exact o.irr _
    · exact o.ntr _ _ _ (heap_top o h n ((k - 1) / 2) (by omega) (by omega) (by omega)) (h k (by omega) h1 (by omega) (by omega))
end
end Go.Srt
