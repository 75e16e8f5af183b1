/- The law TrackerOrder in plain Lean. Conditions: none that are used. -/
import Derived.Test.YtehhgjhileappaaTrl
import Derived.Test.YtehhgjhileappaaKg
namespace Go.Sky
open Go Go.Eng Go.Glue Go.Srt Go.Proofs

theorem sortS_perm {l l' : List Spot} (h : l.Perm l') : sortS l = sortS l' := by
  have tr : ∀ a b c : Spot, (!ltOf fuse_Compare b a) = true → (!ltOf fuse_Compare c b) = true → (!ltOf fuse_Compare c a) = true := fun a b c h1 h2 => by
    simp only [Bool.not_eq_true'] at h1 h2 ⊢
    exact swoS.3 c b a h2 h1
  have to : ∀ a b : Spot, (!ltOf fuse_Compare b a || !ltOf fuse_Compare a b) = true := fun a b => by
    cases h1 : ltOf fuse_Compare b a with
    | false => rfl
    | true => rw [ltS_lx] at h1; rw [ltS_lx, lx_asym _ _ h1]; rfl
  refine List.Perm.eq_of_pairwise (fun a b _ _ h1 h2 => ?_) (List.pairwise_mergeSort tr to l) (List.pairwise_mergeSort tr to l') ?_
  · simp only [Bool.not_eq_true'] at h1 h2
    exact triS a b h2 h1
  · exact ((List.mergeSort_perm ..).trans h).trans (List.mergeSort_perm ..).symm

theorem check_same {time : Int} : ∀ (xs : List Spot) (k : Nat), (∀ s ∈ xs, s.Time = time) → (tracker_Tracker_check_L1 time xs k = .inl () ∧ Sp time xs) ∨ (tracker_Tracker_check_L1 time xs k = .inr 4 ∧ ¬ Sp time xs)
  | [], _, _ => .inl ⟨rfl, fun _ h => nomatch h⟩
  | x :: xs, k, h => by
    have ht := h x (List.mem_cons_self ..)
    unfold tracker_Tracker_check_L1
    dsimp only
    rcases checkSpot_eq x with ⟨h1, h2⟩ | ⟨h1, h2⟩
    · rw [h1, show ((0 : Int) != 0) = false from rfl, cond_false, show (x.Time != time) = false by simpa using ht, cond_false]
      rcases check_same xs (k + 1) (fun s hs => h s (List.mem_cons_of_mem _ hs)) with ⟨g, g2⟩ | ⟨g, g2⟩
      · refine .inl ⟨g, fun s hs => ?_⟩
        rcases List.mem_cons.1 hs with rfl | hs
        · exact ⟨h2, ht⟩
        · exact g2 s hs
      · exact .inr ⟨g, fun hh => g2 fun s hs => hh s (List.mem_cons_of_mem _ hs)⟩
    · rw [h1, show ((4 : Int) != 0) = true from rfl, cond_true]
      exact .inr ⟨rfl, fun hh => h2 (hh x (List.mem_cons_self ..)).1⟩
/-- The order of the spots does not matter. -/
theorem scan_perm (t : Tracker) {l l' : List Spot} {time : Int} (h : l.Perm l') (ht : ∀ s ∈ l, s.Time = time) : tracker_Tracker_Scan t l time = tracker_Tracker_Scan t l' time := by
  have ht' : ∀ s ∈ l', s.Time = time := fun s hs => ht s (h.mem_iff.2 hs)
  have hs : Sp time l ↔ Sp time l' := ⟨fun g s hs => g s (h.mem_iff.2 hs), fun g s hs => g s (h.mem_iff.1 hs)⟩
  have hc : tracker_Tracker_check t l time = tracker_Tracker_check t l' time := by
    unfold tracker_Tracker_check
    rw [h.length_eq]
    rcases check_same l 0 ht with ⟨g, g2⟩ | ⟨g, g2⟩
    · rcases check_same l' 0 ht' with ⟨k, k2⟩ | ⟨k, k2⟩
      · rw [g, k]
      · exact absurd (hs.1 g2) k2
    · rcases check_same l' 0 ht' with ⟨k, k2⟩ | ⟨k, k2⟩
      · exact absurd (hs.2 k2) g2
      · rw [g, k]
  unfold tracker_Tracker_Scan
  dsimp only
  rw [hc]
  by_cases h0 : tracker_Tracker_check t l' time = 0
  · have g := check_ok.1 h0
    have g' := check_ok.1 (hc.trans h0)
    rw [spots_eq g.1 g.2.2.2, spots_eq g'.1 g'.2.2.2, sortS_perm h]
  · rw [show (tracker_Tracker_check t l' time != 0) = true by simpa using h0, cond_true, cond_true]

theorem equal_runT {s : List Track} : ∀ (xs : List Track) (k : Nat), s.drop k = xs → slices_Equal_api_Track_api_Track_L1 s xs k = .inl ()
  | [], _, _ => rfl
  | x :: xs, k, hd => by
    have d1 : s.drop (k + 1) = xs := by rw [← List.drop_drop, hd]; rfl
    have d2 : s[k]? = some x := by
      have : (s.drop k)[0]? = some x := by rw [hd]; rfl
      rwa [List.getElem?_drop, Nat.add_zero] at this
    unfold slices_Equal_api_Track_api_Track_L1
    rw [d2, Option.getD_some, Track.eqb_eq, decide_eq_true rfl, Bool.not_true, cond_false]
    exact equal_runT xs (k + 1) d1
theorem equal_selfT (s : List Track) : slices_Equal_api_Track_api_Track s s = true := by
  unfold slices_Equal_api_Track_api_Track
  rw [bne_self_eq_false, cond_false, equal_runT s 0 List.drop_zero]
  rfl

theorem order_L2 {k : Nat} : ∀ (xs : List Spot) (j : Nat) (out : List Spot), (∀ s ∈ out, s.Time = w64 (w64 (4 * (k : Int)) + 1)) → ∀ s ∈ skywaykeep2_TrackerOrder_L2 k xs j out, s.Time = w64 (w64 (4 * (k : Int)) + 1)
  | [], _, _, h => h
  | x :: xs, j, out, h => by
    unfold skywaykeep2_TrackerOrder_L2
    refine order_L2 xs (j + 1) _ fun s hs => ?_
    rcases List.mem_append.1 hs with hs | hs
    · exact h s hs
    · rw [List.mem_singleton.1 hs]
theorem order_L1 {by_ : Int} : ∀ (xs : List (List Spot)) (k : Nat) (a : Tracker), ∃ b, skywaykeep2_TrackerOrder_L1 by_ xs k a a = .inl (b, b)
  | [], _, a => ⟨a, rfl⟩
  | x :: xs, k, a => by
    have h2 := order_L2 (k := k) (x.take (imin (x.length : Int) 6).toNat) 0 [] (fun _ h => nomatch h)
    unfold skywaykeep2_TrackerOrder_L1 bindv
    generalize skywaykeep2_TrackerOrder_L2 k (x.take (imin (x.length : Int) 6).toNat) 0 [] = x4 at h2
    dsimp only
    rw [show slices_Clone_api_Spot_api_Spot x4 = x4 from rfl]
    generalize w64 (w64 (4 * (k : Int)) + 1) = time at h2
    have done : ∀ r : List Track × Int × Tracker, cond (r.2.1 != r.2.1) (.inr false) (cond (!slices_Equal_api_Track_api_Track r.1 r.1) (.inr false) (cond (!slices_Equal_api_FilterTrack_api_FilterTrack (tracker_Tracker_Tracks r.2.2) (tracker_Tracker_Tracks r.2.2)) (.inr false) (skywaykeep2_TrackerOrder_L1 by_ xs (k + 1) r.2.2 r.2.2))) =
        skywaykeep2_TrackerOrder_L1 by_ xs (k + 1) r.2.2 r.2.2 := fun r => by
      rw [bne_self_eq_false, cond_false, equal_selfT, Bool.not_true, cond_false, equal_selfF, Bool.not_true, cond_false]
    cases decide ((x4.length : Int) > 0) with
    | true =>
      rw [cond_true]
      generalize (skywaykeep2_within by_ 0 (w64 ((x4.length : Int) - 1))).toNat = q
      rw [show slices_Clone_api_Spot_api_Spot (x4.drop q) = x4.drop q from rfl]
      have hp : x4.Perm (x4.drop q ++ x4.take q) := by
        have : (x4.take q ++ x4.drop q).Perm (x4.drop q ++ x4.take q) := List.perm_append_comm
        rwa [List.take_append_drop] at this
      rw [← scan_perm a hp h2, done]
      exact order_L1 xs (k + 1) _
    | false =>
      rw [cond_false, done]
      exact order_L1 xs (k + 1) _

theorem TrackerOrder_true (x0 : List (List Spot)) (x1 : Int) (_s0 : x0.length < 4611686018427387904) (_k0 : ∀ r ∈ x0, r.length < 4611686018427387904 ∧ ∀ a ∈ r, a.ok) (_k1 : I64 x1) : skywaykeep2_TrackerOrder x0 x1 = true := by
  unfold skywaykeep2_TrackerOrder
  dsimp only
  rw [tracks_true, Bool.not_true, cond_false, show skywaykeep2_fine [(tracker_New (skywaykeep2_rules 2 3)).2, (tracker_New (skywaykeep2_rules 2 3)).2] = true by kernel_rfl, Bool.not_true, cond_false]
  obtain ⟨b, e⟩ := order_L1 (by_ := x1) (x0.take (imin (x0.length : Int) 5).toNat) 0 (tracker_New (skywaykeep2_rules 2 3)).1
  rw [e]
  rfl
end Go.Sky
