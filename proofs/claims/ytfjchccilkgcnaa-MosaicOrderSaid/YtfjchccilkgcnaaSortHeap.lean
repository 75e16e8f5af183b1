/- The sort by a heap: plain part. Conditions: in each theorem. -/
import Derived.Test.YtfjchccilkgcnaaSorting
namespace Go.Srt
open Go Go.Eng

section
variable {T : Type} {z : T} {d d' : List T} {lt : T → T → Bool} {a b f lo hi r i c : Int}
theorem Heap.lower {lo' : Int} (h : Heap lt z f lo hi r d) (hl : lo ≤ lo') : Heap lt z f lo' hi r d := fun c h1 h2 h3 h4 => h c h1 h2 (by omega) h4
theorem Heap.open_ (h : Heap lt z f (i + 1) hi (-1) d) (hi0 : 0 ≤ i) : Heap lt z f i hi i d := fun c h1 h2 h3 h4 => h c h1 h2 (by omega) (by omega)
theorem Heap.none_ (h : (hi - 1) / 2 < lo) : Heap lt z f lo hi r d := fun c h1 h2 h3 _ => by omega
theorem sift_start (h : Heap lt z f lo hi lo d) : Sift lt z f lo hi lo d := ⟨h, fun _ _ _ _ h5 _ => by omega⟩
theorem hm1 (o : Ord lt) (hc : c = 2 * r + 1) (h : ¬ c + 1 < hi) : ∀ c', 1 ≤ c' → c' < hi → (c' - 1) / 2 = r → lt (ix z d (f + c)) (ix z d (f + c')) = false := fun c' h1 h2 h3 => by
  rw [show c' = c by omega]; exact o.irr _
theorem hm2 (o : Ord lt) (hc : c = 2 * r + 1) (h : lt (ix z d (f + c)) (ix z d (f + c + 1)) = true) : ∀ c', 1 ≤ c' → c' < hi → (c' - 1) / 2 = r → lt (ix z d (f + (c + 1))) (ix z d (f + c')) = false := fun c' h1 h2 h3 => by
  rw [Int.add_assoc] at h
  by_cases e : c' = c
  · rw [e]; exact o.asym _ _ h
  · rw [show c' = c + 1 by omega]; exact o.irr _
theorem hm3 (o : Ord lt) (hc : c = 2 * r + 1) (h : lt (ix z d (f + c)) (ix z d (f + c + 1)) = false) : ∀ c', 1 ≤ c' → c' < hi → (c' - 1) / 2 = r → lt (ix z d (f + c)) (ix z d (f + c')) = false := fun c' h1 h2 h3 => by
  rw [Int.add_assoc] at h
  by_cases e : c' = c
  · rw [e]; exact o.irr _
  · rw [show c' = c + 1 by omega]; exact h
theorem hm_end (o : Ord lt) (hm : ∀ c', 1 ≤ c' → c' < hi → (c' - 1) / 2 = r → lt (ix z d (f + c)) (ix z d (f + c')) = false) (h : lt (ix z d (f + r)) (ix z d (f + c)) = false) :
    ∀ c', 1 ≤ c' → c' < hi → (c' - 1) / 2 = r → lt (ix z d (f + r)) (ix z d (f + c')) = false := fun c' h1 h2 h3 => o.ntr _ _ _ h (hm c' h1 h2 h3)

/-- The places behind a + i hold the greatest, sorted; before them is a heap. -/
def Pop (lt : T → T → Bool) (z : T) (a b i : Int) (d : List T) : Prop :=
  Heap lt z a 0 (i + 1) (-1) d ∧ Srt lt z (a + i + 1) b d ∧ ∀ p q, a ≤ p → p ≤ a + i → a + i < q → q < b → lt (ix z d q) (ix z d p) = false
theorem pop_start (h : Heap lt z a 0 hi (-1) d) (hi1 : hi = i + 1) (hb : b = a + hi) : Pop lt z a b i d := by
  subst hi1 hb
  exact ⟨h, fun p q h1 h2 h3 => by omega, fun p q h1 h2 h3 h4 => by omega⟩
theorem pop_pre (h : Pop lt z a b i d) (ha : 0 ≤ a) (hi0 : 0 ≤ i) (hd : a + i < d.length) : Heap lt z a 0 i 0 (swp z d a (a + i)) := fun c h1 h2 h3 h4 => by
  rw [ix_swp (by omega) (by omega) (by omega), ix_swp (by omega) (by omega) (by omega), if_neg (by omega), if_neg (by omega), if_neg (by omega), if_neg (by omega)]
  exact h.1 c h1 (by omega) h3 (by omega)
theorem pop_step (o : Ord lt) (h : Pop lt z a b i d) (ha : 0 ≤ a) (hi0 : 0 ≤ i) (hib : a + i < b) (hd : b ≤ d.length) (hs : Same z a (a + i) (swp z d a (a + i)) d') (hh : Heap lt z a 0 i (-1) d') : Pop lt z a b (i - 1) d' := by
  have out : ∀ q, a + i ≤ q → q < b → ix z d' q = ix z (swp z d a (a + i)) q := fun q h1 h2 => hs.2.2 q (by omega) (by omega)
  have far : ∀ q, a + i < q → q < b → ix z d' q = ix z d q := fun q h1 h2 => by
    rw [out q (by omega) h2, ix_swp (by omega) (by omega) (by omega), if_neg (by omega), if_neg (by omega)]
  have top : ix z d' (a + i) = ix z d a := by
    rw [out _ (by omega) (by omega), ix_swp (by omega) (by omega) (by omega), if_pos rfl]
  have max : ∀ k, 0 ≤ k → k ≤ i → lt (ix z d a) (ix z d (a + k)) = false := fun k h1 h2 => heap_top o h.1 k.toNat k h1 (by omega) (Nat.le_refl _)
  refine ⟨by rw [show i - 1 + 1 = i by omega]; exact hh, fun p q h1 h2 h3 => ?_, fun p q h1 h2 h3 h4 => ?_⟩
  · rw [far q (by omega) h3]
    by_cases e : p = a + i
    · rw [e, top]; exact h.2.2 a q (by omega) (by omega) (by omega) h3
    · rw [far p (by omega) (by omega)]; exact h.2.1 p q (by omega) h2 h3
  · have hin : ∀ k, a ≤ k → k < a + i → lt (ix z d' q) (ix z (swp z d a (a + i)) k) = false := fun k k1 k2 => by
      have key : ∀ m, 0 ≤ m → m ≤ i → lt (ix z d' q) (ix z d (a + m)) = false := fun m m1 m2 => by
        by_cases e : q = a + i
        · rw [e, top]; exact max m m1 m2
        · rw [far q (by omega) h4]; exact h.2.2 (a + m) q (by omega) (by omega) (by omega) h4
      rw [ix_swp (by omega) (by omega) (by omega), if_neg (by omega)]
      by_cases e : k = a
      · rw [if_pos e]; exact key i hi0 (Int.le_refl _)
      · rw [if_neg e]
        have := key (k - a) (by omega) (by omega)
        rwa [show a + (k - a) = k by omega] at this
    exact hs.all (p := fun x => lt (ix z d' q) x = false) ha (by omega) (by rw [len_swp]; omega) hin p h1 (by omega)
theorem pop_end_at (h : Pop lt z a b i d) (e : i = -1) : Srt lt z a b d := fun p q h1 h2 h3 => h.2.1 p q (by omega) h2 h3
theorem pop_end (h : Pop lt z a b (-1) d) : Srt lt z a b d := fun p q h1 h2 h3 => h.2.1 p q (by omega) h2 h3
end
end Go.Srt
