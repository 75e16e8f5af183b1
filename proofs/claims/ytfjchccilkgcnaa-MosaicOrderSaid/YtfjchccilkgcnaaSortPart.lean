/- Parting, and what is left to do: plain part. Conditions: in each theorem. -/
import Derived.Test.YtfjchccilkgcnaaSortHeap
namespace Go.Srt
open Go Go.Eng

section
variable {T : Type} {z : T} {d d' d'' : List T} {lt : T → T → Bool} {a b i j m p q k : Int}

/-- Nothing from a on, below b, is less than what stands ahead of a. -/
def Low (lt : T → T → Bool) (z : T) (a b : Int) (d : List T) : Prop := a = 0 ∨ ∀ k, a ≤ k → k < b → lt (ix z d k) (ix z d (a - 1)) = false
theorem Low.same (h : Low lt z a b d) (hs : Same z a b d d') (ha : 0 ≤ a) (hab : a ≤ b) (hb : b ≤ d.length) : Low lt z a b d' := by
  by_cases h0 : a = 0
  · exact .inl h0
  · have h1 := h.resolve_left h0
    refine .inr fun k k1 k2 => ?_
    rw [hs.2.2 (a - 1) (by omega) (by omega)]
    exact hs.all (p := fun x => lt x (ix z d (a - 1)) = false) ha hab hb h1 k k1 k2
theorem Low.ne (h : Low lt z a b d) (hj : a ≤ j ∧ j < b) (h1 : 1 ≤ j) (hl : lt (ix z d j) (ix z d (j - 1)) = true) : a < j := by
  rcases h with h | h
  · omega
  · by_cases e : j = a
    · subst e; rw [h j (by omega) hj.2] at hl; cases hl
    · omega
theorem Low.sub {b' : Int} (h : Low lt z a b d) (hb : b' ≤ b) : Low lt z a b' d := h.imp id fun h k h1 h2 => h k h1 (by omega)
theorem srt_grow (o : Ord lt) (h : Srt lt z a i d) (hai : a < i) (hl : lt (ix z d i) (ix z d (i - 1)) = false) : Srt lt z a (i + 1) d := fun p q h1 h2 h3 => by
  by_cases e : q = i
  · subst e
    by_cases e2 : p = q - 1
    · rw [e2]; exact hl
    · exact o.ntr _ _ _ hl (h p (q - 1) h1 (by omega) (by omega))
  · exact h p q h1 h2 (by omega)
theorem Srt.swp_out (h : Srt lt z a i d) (ha : 0 ≤ a) (hp : i ≤ p ∧ p < d.length) (hq : i ≤ q ∧ q < d.length) (hi : 0 ≤ i) : Srt lt z a i (swp z d p q) := fun x y h1 h2 h3 => by
  rw [ix_swp (by omega) (by omega) (by omega), ix_swp (by omega) (by omega) (by omega), if_neg (by omega), if_neg (by omega), if_neg (by omega), if_neg (by omega)]
  exact h x y h1 h2 h3

theorem ix_swp_l (hi : 0 ≤ i ∧ i < d.length) (hj : 0 ≤ j ∧ j < d.length) : ix z (swp z d i j) i = ix z d j := by
  rw [ix_swp hi hj hi.1]
  by_cases e : i = j
  · rw [if_pos e, e]
  · rw [if_neg e, if_pos rfl]
theorem ix_swp_out (hi : 0 ≤ i ∧ i < d.length) (hj : 0 ≤ j ∧ j < d.length) (hk : 0 ≤ k ∧ k ≠ i ∧ k ≠ j) : ix z (swp z d i j) k = ix z d k := by
  rw [ix_swp hi hj hk.1, if_neg hk.2.2, if_neg hk.2.1]

/-- Parted around the element at a: nothing before i is greater, nothing behind j is less. -/
def Par (lt : T → T → Bool) (z : T) (a b i j : Int) (d : List T) : Prop := (∀ k, a < k → k < i → lt (ix z d a) (ix z d k) = false) ∧ ∀ k, j < k → k < b → lt (ix z d k) (ix z d a) = false
theorem par_start : Par lt z a b (a + 1) (b - 1) d := ⟨fun k h1 h2 => by omega, fun k h1 h2 => by omega⟩
theorem par_i (o : Ord lt) (h : Par lt z a b i j d) (hl : lt (ix z d i) (ix z d a) = true) : Par lt z a b (i + 1) j d := ⟨fun k h1 h2 => by
  by_cases e : k = i
  · rw [e]; exact o.asym _ _ hl
  · exact h.1 k h1 (by omega), h.2⟩
theorem par_i' (h : Par lt z a b i j d) (hl : lt (ix z d a) (ix z d i) = false) : Par lt z a b (i + 1) j d := ⟨fun k h1 h2 => by
  by_cases e : k = i
  · rw [e]; exact hl
  · exact h.1 k h1 (by omega), h.2⟩
theorem par_j (h : Par lt z a b i j d) (hl : lt (ix z d j) (ix z d a) = false) : Par lt z a b i (j - 1) d := ⟨h.1, fun k h1 h2 => by
  by_cases e : k = j
  · rw [e]; exact hl
  · exact h.2 k (by omega) h2⟩
theorem par_ne (h1 : lt (ix z d i) (ix z d a) = false) (h2 : lt (ix z d j) (ix z d a) = true) : i ≠ j := fun e => by subst e; rw [h1] at h2; cases h2
theorem par_swp (h : Par lt z a b i j d) (ha : 0 ≤ a) (hij : a < i ∧ i < j ∧ j < b) (hb : b ≤ d.length) (h1 : lt (ix z d i) (ix z d a) = false) (h2 : lt (ix z d a) (ix z d j) = false) : Par lt z a b (i + 1) (j - 1) (swp z d i j) := by
  have e : ix z (swp z d i j) a = ix z d a := by rw [ix_swp (by omega) (by omega) ha, if_neg (by omega), if_neg (by omega)]
  refine ⟨fun k k1 k2 => ?_, fun k k1 k2 => ?_⟩
  · rw [e, ix_swp (by omega) (by omega) (by omega), if_neg (by omega)]
    by_cases c : k = i
    · rw [if_pos c]; exact h2
    · rw [if_neg c]; exact h.1 k k1 (by omega)
  · rw [e, ix_swp (by omega) (by omega) (by omega)]
    by_cases c : k = j
    · rw [if_pos c]; exact h1
    · rw [if_neg c, if_neg (by omega)]; exact h.2 k (by omega) k2
/-- Parted around the place m. -/
def Mid (lt : T → T → Bool) (z : T) (a b m : Int) (d : List T) : Prop := (∀ k, a ≤ k → k < m → lt (ix z d m) (ix z d k) = false) ∧ ∀ k, m < k → k < b → lt (ix z d k) (ix z d m) = false
theorem par_end (h : Par lt z a b i j d) (ha : 0 ≤ a) (hj : a ≤ j ∧ j < b) (hb : b ≤ d.length) (hij : j < i) : Mid lt z a b j (swp z d j a) := by
  have e : ix z (swp z d j a) j = ix z d a := by
    rw [ix_swp (by omega) (by omega) (by omega)]
    by_cases c : j = a
    · rw [if_pos c, c]
    · rw [if_neg c, if_pos rfl]
  refine ⟨fun k k1 k2 => ?_, fun k k1 k2 => ?_⟩
  · rw [e, ix_swp (by omega) (by omega) (by omega)]
    by_cases c : k = a
    · rw [if_pos c]; exact h.1 j (by omega) hij
    · rw [if_neg c, if_neg (by omega)]; exact h.1 k (by omega) (by omega)
  · rw [e, ix_swp (by omega) (by omega) (by omega), if_neg (by omega), if_neg (by omega)]
    exact h.2 k k1 k2

def Fin_ (lt : T → T → Bool) (z : T) (a b j : Int) (d : List T) : Prop := ∃ i, j < i ∧ Par lt z a b i j d
theorem fin_end (h : Fin_ lt z a b j d) (ha : 0 ≤ a) (hj : a ≤ j ∧ j < b) (hb : b ≤ d.length) : Mid lt z a b j (swp z d j a) := by
  obtain ⟨i, h1, h2⟩ := h
  exact par_end h2 ha hj hb h1

/-- Whatever sorts from a on, below b, sorts from x on, below y. -/
def Cont (lt : T → T → Bool) (z : T) (x y a b : Int) (d : List T) : Prop := ∀ d', Same z a b d d' → Srt lt z a b d' → Srt lt z x y d'
theorem cont_start : Cont lt z a b a b d := fun _ _ h => h
theorem Cont.same {x y : Int} (h : Cont lt z x y a b d) (hs : Same z a b d d') : Cont lt z x y a b d' := fun e h1 h2 => h e (hs.trans h1) h2
theorem glue (o : Ord lt) (h1 : Srt lt z a m d) (h2 : Srt lt z (m + 1) b d) (h : Mid lt z a b m d) : Srt lt z a b d := fun p q k1 k2 k3 => by
  by_cases c1 : q < m
  · exact h1 p q k1 k2 c1
  · by_cases c2 : m < p
    · exact h2 p q (by omega) k2 k3
    · by_cases c3 : q = m
      · rw [c3]; exact h.1 p k1 (by omega)
      · by_cases c4 : p = m
        · rw [c4]; exact h.2 q (by omega) k3
        · exact o.ntr _ _ _ (h.2 q (by omega) k3) (h.1 p k1 (by omega))
theorem Mid.left (h : Mid lt z a b m d) (hs : Same z a m d d') (ha : 0 ≤ a) (hm : a ≤ m ∧ m < b) (hb : b ≤ d.length) : Mid lt z a b m d' := by
  have e : ix z d' m = ix z d m := hs.2.2 m (by omega) (by omega)
  refine ⟨fun k k1 k2 => ?_, fun k k1 k2 => ?_⟩
  · rw [e]; exact hs.all (p := fun x => lt (ix z d m) x = false) ha (by omega) (by omega) h.1 k k1 k2
  · rw [e, hs.2.2 k (by omega) (by omega)]; exact h.2 k k1 k2
theorem Mid.right (h : Mid lt z a b m d) (hs : Same z (m + 1) b d d') (ha : 0 ≤ a) (hm : a ≤ m ∧ m < b) (hb : b ≤ d.length) : Mid lt z a b m d' := by
  have e : ix z d' m = ix z d m := hs.2.2 m (by omega) (by omega)
  refine ⟨fun k k1 k2 => ?_, fun k k1 k2 => ?_⟩
  · rw [e, hs.2.2 k (by omega) (by omega)]; exact h.1 k k1 k2
  · rw [e]; exact hs.all (p := fun x => lt x (ix z d m) = false) (by omega) (by omega) hb (fun k k1 k2 => h.2 k (by omega) k2) k (by omega) k2
theorem Mid.low (h : Mid lt z a b m d) : Low lt z (m + 1) b d := .inr fun k k1 k2 => by rw [show m + 1 - 1 = m by omega]; exact h.2 k (by omega) k2
theorem cont_right {x y : Int} (o : Ord lt) (h : Cont lt z x y a b d) (hs1 : Same z a b d d') (hm : Mid lt z a b m d') (hs2 : Same z a m d' d'') (hsrt : Srt lt z a m d'') (ha : 0 ≤ a) (hma : a ≤ m ∧ m < b) (hb : b ≤ d.length) : Cont lt z x y (m + 1) b d'' := fun e h1 h2 => by
  have l1 := hs1.1
  have l2 := hs2.1
  have m2 := (hm.left hs2 ha hma (by omega)).right h1 ha hma (by omega)
  exact h e ((hs1.trans (hs2.wide (by omega) (by omega))).trans (h1.wide (by omega) (by omega))) (glue o (hsrt.same h1 ha (by omega)) h2 m2)
theorem cont_left {x y : Int} (o : Ord lt) (h : Cont lt z x y a b d) (hs1 : Same z a b d d') (hm : Mid lt z a b m d') (hs2 : Same z (m + 1) b d' d'') (hsrt : Srt lt z (m + 1) b d'') (ha : 0 ≤ a) (hma : a ≤ m ∧ m < b) (hb : b ≤ d.length) : Cont lt z x y a m d'' := fun e h1 h2 => by
  have l1 := hs1.1
  have l2 := hs2.1
  have m2 := (hm.right hs2 ha hma (by omega)).left h1 ha hma (by omega)
  exact h e ((hs1.trans (hs2.wide (by omega) (by omega))).trans (h1.wide (by omega) (by omega))) (glue o h2 (hsrt.same h1 (by omega) (by omega)) m2)

/-- Parted into what is not greater than the element at a, and what is greater. -/
def Eqs (lt : T → T → Bool) (z : T) (a b m : Int) (v : T) (d : List T) : Prop := (∀ k, a ≤ k → k < m → lt v (ix z d k) = false) ∧ ∀ k, m ≤ k → k < b → lt v (ix z d k) = true
def Gre (lt : T → T → Bool) (z : T) (a b i j : Int) (d : List T) : Prop := (∀ k, a < k → k < i → lt (ix z d a) (ix z d k) = false) ∧ ∀ k, j < k → k < b → lt (ix z d a) (ix z d k) = true
theorem gre_start : Gre lt z a b (a + 1) (b - 1) d := ⟨fun k h1 h2 => by omega, fun k h1 h2 => by omega⟩
theorem gre_i (h : Gre lt z a b i j d) (hl : lt (ix z d a) (ix z d i) = false) : Gre lt z a b (i + 1) j d := ⟨fun k h1 h2 => by
  by_cases e : k = i
  · rw [e]; exact hl
  · exact h.1 k h1 (by omega), h.2⟩
theorem gre_j (h : Gre lt z a b i j d) (hl : lt (ix z d a) (ix z d j) = true) : Gre lt z a b i (j - 1) d := ⟨h.1, fun k h1 h2 => by
  by_cases e : k = j
  · rw [e]; exact hl
  · exact h.2 k (by omega) h2⟩
theorem gre_ne (h1 : lt (ix z d a) (ix z d i) = true) (h2 : lt (ix z d a) (ix z d j) = false) : i ≠ j := fun e => by subst e; rw [h1] at h2; cases h2
theorem gre_swp (h : Gre lt z a b i j d) (ha : 0 ≤ a) (hij : a < i ∧ i < j ∧ j < b) (hb : b ≤ d.length) (h1 : lt (ix z d a) (ix z d i) = true) (h2 : lt (ix z d a) (ix z d j) = false) : Gre lt z a b (i + 1) (j - 1) (swp z d i j) := by
  have e : ix z (swp z d i j) a = ix z d a := by rw [ix_swp (by omega) (by omega) ha, if_neg (by omega), if_neg (by omega)]
  refine ⟨fun k k1 k2 => ?_, fun k k1 k2 => ?_⟩
  · rw [e, ix_swp (by omega) (by omega) (by omega), if_neg (by omega)]
    by_cases c : k = i
    · rw [if_pos c]; exact h2
    · rw [if_neg c]; exact h.1 k k1 (by omega)
  · rw [e, ix_swp (by omega) (by omega) (by omega)]
    by_cases c : k = j
    · rw [if_pos c]; exact h1
    · rw [if_neg c, if_neg (by omega)]; exact h.2 k (by omega) k2
theorem gre_end (o : Ord lt) (h : Gre lt z a b i j d) (hij : i = j + 1) : Eqs lt z a b i (ix z d a) d := ⟨fun k h1 h2 => by
  by_cases e : k = a
  · rw [e]; exact o.irr _
  · exact h.1 k (by omega) h2, fun k h1 h2 => h.2 k (by omega) h2⟩
theorem Eqs.low (o : Ord lt) {v : T} (h : Eqs lt z a b m v d) (hm : a < m) : Low lt z m b d := .inr fun k k1 k2 => o.ntr _ _ _ (o.asym _ _ (h.2 k k1 k2)) (h.1 (m - 1) (by omega) (by omega))
theorem cont_eqs {x y : Int} {v : T} (o : Ord lt) (h : Cont lt z x y a b d) (hs1 : Same z a b d d') (hL : ∀ k, a ≤ k → k < b → lt (ix z d' k) v = false) (he : Eqs lt z a b m v d') (ha : 0 ≤ a) (hm : a < m ∧ m ≤ b) (hb : b ≤ d.length) : Cont lt z x y m b d' := fun e h1 h2 => by
  have l1 := hs1.1
  have lo : ∀ k, a ≤ k → k < m → ix z e k = ix z d' k := fun k k1 k2 => h1.2.2 k (by omega) (by omega)
  have hi : ∀ k, m ≤ k → k < b → lt v (ix z e k) = true := h1.all (p := fun x => lt v x = true) (by omega) hm.2 (by omega) he.2
  refine h e (hs1.trans (h1.wide (by omega) (by omega))) fun p q k1 k2 k3 => ?_
  by_cases c1 : m ≤ p
  · exact h2 p q c1 k2 k3
  · have pv := he.1 p k1 (by omega)
    rw [lo p k1 (by omega)]
    by_cases c2 : m ≤ q
    · exact o.ntr _ _ _ (o.asym _ _ (hi q c2 k3)) pv
    · rw [lo q (by omega) (by omega)]
      exact o.ntr _ _ _ (hL q (by omega) k3) pv
theorem low_le (o : Ord lt) {v : T} (h : ∀ k, a ≤ k → k < b → lt (ix z d k) (ix z d (a - 1)) = false) (hv : lt (ix z d (a - 1)) v = false) : ∀ k, a ≤ k → k < b → lt (ix z d k) v = false := fun k h1 h2 => o.ntr _ _ _ (h k h1 h2) hv
theorem eqs_low (o : Ord lt) {v : T} (hw : Low lt z a b d) (h0 : 0 < a) (hs : Same z a b d d') (hv : lt (ix z d (a - 1)) v = false) (ha : 0 ≤ a) (hab : a ≤ b) (hb : b ≤ d.length) : ∀ k, a ≤ k → k < b → lt (ix z d' k) v = false := by
  have h1 := (hw.same hs ha hab hb).resolve_left (by omega)
  refine low_le o h1 ?_
  rw [hs.2.2 (a - 1) (by omega) (by omega)]
  exact hv
end
end Go.Srt
