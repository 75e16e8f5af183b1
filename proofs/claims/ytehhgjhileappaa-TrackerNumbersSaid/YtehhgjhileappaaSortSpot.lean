/- slices.SortFunc at spots. Conditions: in each theorem. -/
import Derived.Test.YtehhgjhileappaaSa
import Derived.Test.YtehhgjhileappaaQa
import Derived.Test.YtehhgjhileappaaSortLib
import Derived.Test.YtehhgjhileappaaLaysSpot
namespace Go.Srt
open Go Go.Eng Go.Sky

def lx : List Int → List Int → Bool
  | x :: xs, y :: ys => decide (x < y) || (decide (x = y) && lx xs ys)
  | _, _ => false
theorem lx_asym : ∀ xs ys : List Int, lx xs ys = true → lx ys xs = false
  | [], ys, h => by cases ys <;> cases h
  | x :: xs, [], h => by cases h
  | x :: xs, y :: ys, h => by
    simp only [lx, Bool.or_eq_true, Bool.and_eq_true, decide_eq_true_eq] at h
    simp only [lx, Bool.or_eq_false_iff, Bool.and_eq_false_iff, decide_eq_false_iff_not]
    rcases h with h | ⟨h1, h2⟩
    · exact ⟨by omega, .inl (by omega)⟩
    · exact ⟨by omega, .inr (lx_asym xs ys h2)⟩
theorem lx_ntr : ∀ xs ys zs : List Int, xs.length = ys.length → ys.length = zs.length → lx xs ys = false → lx ys zs = false → lx xs zs = false
  | [], _, zs, _, _, _, _ => by cases zs <;> rfl
  | x :: xs, [], zs, h, _, _, _ => by cases h
  | x :: xs, y :: ys, [], _, h, _, _ => by cases h
  | x :: xs, y :: ys, w :: zs, h1, h2, h3, h4 => by
    simp only [lx, Bool.or_eq_false_iff, Bool.and_eq_false_iff, decide_eq_false_iff_not] at h3 h4 ⊢
    refine ⟨by omega, ?_⟩
    by_cases e : x = w
    · have e1 : x = y := by omega
      have e2 : y = w := by omega
      exact .inr (lx_ntr xs ys zs (by simpa using h1) (by simpa using h2) (h3.2.resolve_left (fun q => q e1)) (h4.2.resolve_left (fun q => q e2)))
    · exact .inl e
theorem lx_tri : ∀ xs ys : List Int, xs.length = ys.length → lx xs ys = false → lx ys xs = false → xs = ys
  | [], [], _, _, _ => rfl
  | [], y :: ys, h, _, _ => by cases h
  | x :: xs, [], h, _, _ => by cases h
  | x :: xs, y :: ys, h1, h2, h3 => by
    simp only [lx, Bool.or_eq_false_iff, Bool.and_eq_false_iff, decide_eq_false_iff_not] at h2 h3
    have e : x = y := by omega
    rw [e, lx_tri xs ys (by simpa using h1) (h2.2.resolve_left (fun q => q e)) (h3.2.resolve_left (fun q => q e.symm))]

theorem compare_int (x y : Int) : cmp_Compare_int x y = if x < y then -1 else if x > y then 1 else 0 := by
  unfold cmp_Compare_int cmp_isNaN_int
  simp only [bne_self_eq_false, cond_false]
  by_cases h : x < y
  · rw [decide_eq_true h, cond_true, if_pos h]
  · rw [decide_eq_false h, cond_false, if_neg h]
    by_cases h2 : x > y
    · rw [decide_eq_true h2, cond_true, if_pos h2]
    · rw [decide_eq_false h2, cond_false, if_neg h2]
theorem or_lx : ∀ (xs ys : List Int) (k : Nat), xs.length = ys.length → decide (Sum.elim (fun _ => (0 : Int)) (fun r => r) (cmp_Or_int_L1 (List.zipWith cmp_Compare_int xs ys) k) < 0) = lx xs ys
  | [], [], k, _ => rfl
  | [], y :: ys, k, h => by cases h
  | x :: xs, [], k, h => by cases h
  | x :: xs, y :: ys, k, h => by
    have ih := or_lx xs ys (k + 1) (by simpa using h)
    rw [List.zipWith_cons_cons]
    unfold cmp_Or_int_L1 lx
    rw [compare_int]
    by_cases h1 : x < y
    · rw [if_pos h1, decide_eq_true h1]; rfl
    · rw [if_neg h1, decide_eq_false h1, Bool.false_or]
      by_cases h2 : x > y
      · rw [if_pos h2, decide_eq_false (by omega : ¬ x = y)]; rfl
      · rw [if_neg h2, decide_eq_true (by omega : x = y), Bool.true_and]; exact ih
end Go.Srt
namespace Go.Srt
open Go Go.Eng Go.Sky Go.Proofs Go.Sort

def keyS (p : Spot) : List Int := [p.Time, p.Error, p.At.X, p.At.Y, p.Height, p.Code]
theorem ltS_lx (x y : Spot) : ltOf fuse_Compare x y = lx (keyS x) (keyS y) := or_lx (keyS x) (keyS y) 0 rfl
theorem swoS : SWO (ltOf fuse_Compare) := by
  have irr : ∀ x, ltOf fuse_Compare x x = false := fun x => by
    cases h : ltOf fuse_Compare x x with
    | false => rfl
    | true => rw [ltS_lx] at h; rw [lx_asym _ _ h] at h; cases h
  have ntr : ∀ x y z, ltOf fuse_Compare x y = false → ltOf fuse_Compare y z = false → ltOf fuse_Compare x z = false := fun x y z h1 h2 => by
    rw [ltS_lx] at h1 h2 ⊢; exact lx_ntr (keyS x) (keyS y) (keyS z) rfl rfl h1 h2
  refine ⟨irr, fun x y z h1 h2 => ?_, ntr⟩
  cases h : ltOf fuse_Compare x z with
  | true => rfl
  | false =>
    exfalso
    have h3 : ltOf fuse_Compare z y = false := by rw [ltS_lx] at h2 ⊢; exact lx_asym _ _ h2
    rw [ntr x z y h h3] at h1; cases h1
theorem triS (x y : Spot) (h1 : ltOf fuse_Compare x y = false) (h2 : ltOf fuse_Compare y x = false) : x = y := by
  rw [ltS_lx] at h1 h2
  have := lx_tri (keyS x) (keyS y) rfl h1 h2
  obtain ⟨xt, ⟨xx, xy⟩, xh, xc, xe⟩ := x
  obtain ⟨yt, ⟨yx, yy⟩, yh, yc, ye⟩ := y
  simp [keyS] at this
  simp [this]
instance : Inhabited Spot := ⟨Spot.zero⟩
/-- The spots in their order. -/
def sortS (l : List Spot) : List Spot := l.mergeSort (fun x y => !ltOf fuse_Compare y x)
theorem cmpS (x y : Spot) (W : World) : Calls Try.prog 43 #[.agg (Spot.c x), .agg (Spot.c y)] W (Ret W (.int .i64 (fuse_Compare x y))) := fuse_Compare_w x y W
set_option maxRecDepth 100000 in
theorem spots_sort (A : Option Addr) (cap e : Nat) (l : List Spot) (w : World) (hM : Sat ⟨w, feet [.inr (Own A cap e 6 (l.map Spot.c))]⟩ [.inr (Own A cap e 6 (l.map Spot.c))] w) :
    Calls Try.prog 42 #[.slice A l.length cap, .func (.func 43) #[] #[]] w (RetM (Γ := List Spot) ⟨w, feet [.inr (Own A cap e 6 (l.map Spot.c))]⟩ (fun _ => .tuple #[])
      (fun r => [.inr (Fact (r.length = l.length ∧ r = sortS l)), .inr (Own A cap e 6 (r.map Spot.c))])) :=
  sort_own (P := Try.prog) (c := Spot.c) (k := 6) Try.laysSpot (fun _ => by kernel_rfl) (fun _ => by kernel_rfl) (fun _ => rfl) (fun x v hv => by simp [Spot.c] at hv; rcases hv with rfl | rfl | rfl | rfl | rfl | rfl <;> rfl) fuse_Compare swoS 43 (fun _ _ => by kernel_rfl) cmpS triS A cap e l w hM
end Go.Srt
