/- What the tracker's laws have in common: the example is a firm track; equal lists. Conditions: none. -/
import Derived.Test.YtehhgjhileappaaKe
import Derived.Test.YtehhgjhileappaaSca
namespace Go.Sky
open Go Go.Eng Go.Glue Go.Srt

theorem first_spots : fuse_Spots [(⟨0, ⟨0, 0⟩, 0, 5, 10⟩ : Spot)] 500 = ([⟨0, ⟨0, 0⟩, 0, 5, 10⟩], 0) := by
  rw [spots_eq (time := 0) (by decide) (fun s hs => by
    rw [List.mem_singleton.1 hs]
    exact ⟨checkSpot_iff.1 (by kernel_rfl), rfl⟩)]
  rw [show sortS [(⟨0, ⟨0, 0⟩, 0, 5, 10⟩ : Spot)] = [⟨0, ⟨0, 0⟩, 0, 5, 10⟩] from List.mergeSort_singleton ..]
  rfl
set_option maxRecDepth 100000 in
theorem tracks_true : skywaykeep2_tracks = true := by
  unfold skywaykeep2_tracks tracker_Tracker_Scan
  dsimp only
  rw [first_spots]
  kernel_rfl

theorem equal_runF {s : List FilterTrack} : ∀ (xs : List FilterTrack) (k : Nat), s.drop k = xs → slices_Equal_api_FilterTrack_api_FilterTrack_L1 s xs k = .inl ()
  | [], _, _ => rfl
  | x :: xs, k, hd => by
    have d1 : s.drop (k + 1) = xs := by rw [← List.drop_drop, hd]; rfl
    have d2 : s[k]? = some x := by
      have : (s.drop k)[0]? = some x := by rw [hd]; rfl
      rwa [List.getElem?_drop, Nat.add_zero] at this
    unfold slices_Equal_api_FilterTrack_api_FilterTrack_L1
    rw [d2, Option.getD_some, FilterTrack.eqb_eq, decide_eq_true rfl, Bool.not_true, cond_false]
    exact equal_runF xs (k + 1) d1
theorem equal_selfF (s : List FilterTrack) : slices_Equal_api_FilterTrack_api_FilterTrack s s = true := by
  unfold slices_Equal_api_FilterTrack_api_FilterTrack
  rw [bne_self_eq_false, cond_false, equal_runF s 0 List.drop_zero]
  rfl
end Go.Sky
