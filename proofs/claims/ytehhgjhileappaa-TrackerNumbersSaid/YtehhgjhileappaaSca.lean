/- What a scan keeps: the number of tracks, their numbers, that they are valid. Conditions: in each theorem. -/
import Derived.Test.YtehhgjhileappaaKc
namespace Go.Sky
open Go Go.Eng Go.Glue Go.Srt

def ids (l : List followed) : List Int := l.map fun x => x.f.Track.ID
def Vals (l : List followed) : Prop := ∀ x ∈ l, x.f.In
theorem vals_add {l : List followed} {x : followed} (h : Vals l) (hx : x.f.In) : Vals (l ++ [x]) := fun y hy => by
  rcases List.mem_append.1 hy with hy | hy
  · exact h y hy
  · rw [List.mem_singleton.1 hy]; exact hx
theorem vals_cons {l : List followed} {x : followed} (h : Vals l) (hx : x.f.In) : Vals (x :: l) := fun y hy => by
  rcases List.mem_cons.1 hy with rfl | hy
  · exact hx
  · exact h y hy

theorem update_in {f : FilterTrack} {s : Spot} {a p v : Int} (h : (filter_Update f s a p v).2 = 0) : (filter_Update f s a p v).1.In ∧ (filter_Update f s a p v).1.Track.ID = f.Track.ID := by
  unfold filter_Update at h ⊢
  simp only [ite_of_cond] at h ⊢
  by_cases h1 : (filter_Check f != 0) = true
  · rw [if_pos h1] at h; simp at h h1; exact absurd h h1
  rw [if_neg h1] at h ⊢
  by_cases h2 : (radar_CheckSpot s != 0) = true
  · rw [if_pos h2] at h; simp at h h2; exact absurd h h2
  rw [if_neg h2] at h ⊢
  by_cases h3 : filter_out p 0 256 = true
  · rw [if_pos h3] at h; cases h
  rw [if_neg h3] at h ⊢
  by_cases h4 : filter_out v 0 256 = true
  · rw [if_pos h4] at h; cases h
  rw [if_neg h4] at h ⊢
  by_cases h5 : decide (w64 (s.Time - f.Last.Time) ≤ 0) = true
  · rw [if_pos h5] at h; cases h
  rw [if_neg h5] at h ⊢
  by_cases h6 : ((filter_Predict f s.Time a).2 != 0) = true
  · rw [if_pos h6] at h; simp at h h6; exact absurd h h6
  rw [if_neg h6] at h ⊢
  have hk := predict_keep (f := f) (t := s.Time) (a := a) (by simpa using h6)
  generalize filter_Predict f s.Time a = r5 at h hk ⊢
  split at h
  · cases h
  · rename_i h7
    rw [if_neg h7]
    split at h
    · rename_i h8
      rw [if_pos h8]
      split at h
      · cases h
      · rename_i h9
        rw [if_neg h9]
        exact ⟨check_iff.1 (by simpa using h9), hk.2⟩
    · rename_i h8
      rw [if_neg h8]
      split at h
      · cases h
      · rename_i h9
        rw [if_neg h9]
        exact ⟨check_iff.1 (by simpa using h9), hk.2⟩
theorem hit_in {f : FilterTrack} (h : f.In) : (coast_Hit f).1.In ∧ (coast_Hit f).1.Track.ID = f.Track.ID := by
  unfold coast_Hit
  rw [check_iff.2 h]
  obtain ⟨a1, a2, a3, a4, a5, ⟨a6, a7, a8⟩, ⟨a9, a10⟩, a11, a12⟩ := h
  cases f.Track.State == 2
  · exact ⟨⟨a1, a2, a3, a4, a5, ⟨a6, a7, (show (0 : Int) ≤ 0 by decide)⟩, ⟨a9, a10⟩, a11, a12⟩, rfl⟩
  · exact ⟨⟨a1, a2, a3, a4, a5, ⟨a6, a7, (show (0 : Int) ≤ 0 by decide)⟩, ⟨(show (0 : Int) ≤ 1 by decide), (show (1 : Int) ≤ 2 by decide)⟩, a11, a12⟩, rfl⟩
theorem miss_in {f : FilterTrack} {n : Int} (h : (coast_Miss f n).2.2 = 0) : (coast_Miss f n).1.In ∧ (coast_Miss f n).1.Track.ID = f.Track.ID := by
  unfold coast_Miss at h ⊢
  simp only [ite_of_cond] at h ⊢
  by_cases h1 : (filter_Check f != 0) = true
  · rw [if_pos h1] at h; simp at h h1; exact absurd h h1
  rw [if_neg h1] at h ⊢
  obtain ⟨a1, a2, a3, a4, a5, ⟨a6, a7, a8⟩, ⟨a9, a10⟩, a11, a12⟩ : f.In := check_iff.1 (by simpa using h1)
  by_cases h2 : (decide (n < 0) || decide (n > 100)) = true
  · rw [if_pos h2] at h; cases h
  rw [if_neg h2] at h ⊢
  have hm : f.Track.Misses < 101 → 0 ≤ w64 (f.Track.Misses + 1) := fun hh => by rw [w64_id (by omega)]; omega
  split
  · rename_i h3
    have h3 := hm (of_decide_eq_true h3)
    split
    · exact ⟨⟨a1, a2, a3, a4, a5, ⟨a6, a7, h3⟩, ⟨(show (0 : Int) ≤ 2 by decide), (show (2 : Int) ≤ 2 by decide)⟩, a11, a12⟩, rfl⟩
    · exact ⟨⟨a1, a2, a3, a4, a5, ⟨a6, a7, h3⟩, ⟨a9, a10⟩, a11, a12⟩, rfl⟩
  · split
    · exact ⟨⟨a1, a2, a3, a4, a5, ⟨a6, a7, (show (0 : Int) ≤ 101 by decide)⟩, ⟨(show (0 : Int) ≤ 2 by decide), (show (2 : Int) ≤ 2 by decide)⟩, a11, a12⟩, rfl⟩
    · exact ⟨⟨a1, a2, a3, a4, a5, ⟨a6, a7, (show (0 : Int) ≤ 101 by decide)⟩, ⟨a9, a10⟩, a11, a12⟩, rfl⟩

theorem scan_al (t : Tracker) (time : Int) : ∀ (xs : List followed) (k : Nat) (tr : List Track) (al : List followed), ∃ ys, ys.Sublist xs ∧ (tracker_Tracker_Scan_L1 t time xs k tr al).2 = al ++ ys
  | [], _, tr, al => ⟨[], .slnil, by unfold tracker_Tracker_Scan_L1; rw [List.append_nil]⟩
  | x :: xs, k, tr, al => by
    unfold tracker_Tracker_Scan_L1
    simp only
    cases ((filter_Predict x.f time t.rules.Accel).2 == 0) with
    | true =>
      obtain ⟨ys, h1, h2⟩ := scan_al t time xs (k + 1) (tr ++ [(filter_Predict x.f time t.rules.Accel).1.Track]) (al ++ [x])
      exact ⟨x :: ys, h1.cons_cons x, by rw [cond_true, h2, List.append_assoc]; rfl⟩
    | false =>
      obtain ⟨ys, h1, h2⟩ := scan_al t time xs (k + 1) tr al
      exact ⟨ys, h1.cons x, by rw [cond_false, h2]⟩
theorem scan_L2 (t : Tracker) (r2 : List Spot × Int) (r5 : List Int × Int × Int) : ∀ (xs : List followed) (k : Nat) (used : List Bool) (out : List followed), ∃ ys, (tracker_Tracker_Scan_L2 t r2 r5 xs k used out).2 = out ++ ys ∧ (ids ys).Sublist (ids xs) ∧ Vals ys
  | [], _, used, out => ⟨[], by unfold tracker_Tracker_Scan_L2; rw [List.append_nil], .slnil, fun _ h => by cases h⟩
  | x :: xs, k, used, out => by
    unfold tracker_Tracker_Scan_L2
    have key : ∀ p : List Bool × followed, (p.2.hit = true → p.2.f.In) → p.2.f.Track.ID = x.f.Track.ID → ∃ ys, (bindv p fun (used_3, x_3) =>
        cond (!x_3.hit) (
          let r8 := coast_Miss x_3.f t.rules.Misses
          cond ((r8.2.2 != 0) || r8.2.1) (
            tracker_Tracker_Scan_L2 t r2 r5 xs (k + 1) used_3 out) (
            tracker_Tracker_Scan_L2 t r2 r5 xs (k + 1) used_3 (out ++ ([(⟨r8.1, x_3.history, x_3.hit⟩ : followed)])))) (
          tracker_Tracker_Scan_L2 t r2 r5 xs (k + 1) used_3 (out ++ ([x_3])))).2 = out ++ ys ∧ (ids ys).Sublist (ids (x :: xs)) ∧ Vals ys := by
      rintro ⟨u, y⟩ h1 h2
      simp only at h1 h2
      unfold bindv
      simp only
      have put : ∀ z : followed, z.f.In → z.f.Track.ID = x.f.Track.ID → ∃ ys, (tracker_Tracker_Scan_L2 t r2 r5 xs (k + 1) u (out ++ [z])).2 = out ++ ys ∧ (ids ys).Sublist (ids (x :: xs)) ∧ Vals ys := fun z hz hz2 => by
        obtain ⟨ys, g1, g2, g3⟩ := scan_L2 t r2 r5 xs (k + 1) u (out ++ [z])
        refine ⟨z :: ys, by rw [g1, List.append_assoc]; rfl, ?_, vals_cons g3 hz⟩
        show (z.f.Track.ID :: ids ys).Sublist (x.f.Track.ID :: ids xs)
        rw [hz2]; exact g2.cons_cons _
      cases hy : y.hit with
      | true => exact put y (h1 hy) h2
      | false =>
        simp only [Bool.not_false, cond_true]
        cases hm : ((coast_Miss y.f t.rules.Misses).2.2 != 0) || (coast_Miss y.f t.rules.Misses).2.1 with
        | true =>
          obtain ⟨ys, g1, g2, g3⟩ := scan_L2 t r2 r5 xs (k + 1) u out
          exact ⟨ys, g1, g2.cons _, g3⟩
        | false =>
          have hm0 : (coast_Miss y.f t.rules.Misses).2.2 = 0 := by simp at hm; exact hm.1
          have := miss_in hm0
          exact put ⟨(coast_Miss y.f t.rules.Misses).1, y.history, false⟩ this.1 (this.2.trans h2)
    refine key _ ?_ ?_
    · cases decide ((r5.1[k]?.getD 0) ≥ 0) with
      | false => intro h; cases h
      | true =>
        simp only [cond_true]
        cases hu : (filter_Update x.f (r2.1[(r5.1[k]?.getD 0).toNat]?.getD Spot.zero) t.rules.Accel t.rules.Place t.rules.Speed).2 == 0 with
        | true => intro _; exact (hit_in (update_in (by simpa using hu)).1).1
        | false => intro h; cases h
    · cases decide ((r5.1[k]?.getD 0) ≥ 0) with
      | false => rfl
      | true =>
        simp only [cond_true]
        cases hu : (filter_Update x.f (r2.1[(r5.1[k]?.getD 0).toNat]?.getD Spot.zero) t.rules.Accel t.rules.Place t.rules.Speed).2 == 0 with
        | true => have h := update_in (show _ = 0 by simpa using hu); exact (hit_in h.1).2.trans h.2
        | false => rfl
theorem scan_L3len (used : List Bool) : ∀ (xs : List Spot) (k : Nat) (next : Int) (out : List followed), out.length ≤ 32 → (tracker_Tracker_Scan_L3 used xs k next out).2.length ≤ 32
  | [], _, _, _, h => h
  | x :: xs, k, next, out, h => by
    unfold tracker_Tracker_Scan_L3
    cases hc : (((used[k]?.getD false)) || (decide ((out.length : Int) ≥ 32))) with
    | true => exact scan_L3len used xs (k + 1) next out h
    | false =>
      have h1 : ¬ (out.length : Int) ≥ 32 := by simp at hc ⊢; exact hc.2
      exact scan_L3len used xs (k + 1) (w64 (next + 1)) _ (by rw [List.length_append, List.length_singleton]; omega)
theorem begin_in {s : Spot} (h : s.In) (n : Int) (hn : 0 ≤ n) : FilterTrack.In ⟨⟨n, (filter_Begin s).1.Track.State, (filter_Begin s).1.Track.Time, (filter_Begin s).1.Track.At, (filter_Begin s).1.Track.Speed, (filter_Begin s).1.Track.Height, (filter_Begin s).1.Track.Rate, (filter_Begin s).1.Track.Radius, (filter_Begin s).1.Track.Code, (filter_Begin s).1.Track.Hits, (filter_Begin s).1.Track.Misses⟩, (filter_Begin s).1.Slack, (filter_Begin s).1.Last⟩ := by
  unfold filter_Begin
  rw [checkSpot_iff.2 h]
  obtain ⟨b1, b2, b3, b4, b5⟩ := h
  refine ⟨⟨b1, b2, b3, b4, b5.1, ?_⟩, (show (-12800 : Int) ≤ 0 ∧ (0 : Int) ≤ 12800 by decide), (show (-12800 : Int) ≤ 0 ∧ (0 : Int) ≤ 12800 by decide), (show (-3200 : Int) ≤ 0 ∧ (0 : Int) ≤ 3200 by decide), (show (0 : Int) ≤ 6400 ∧ (6400 : Int) ≤ 409600 by decide), ⟨hn, (show (0 : Int) ≤ 1 by decide), Int.le_refl _⟩, (show (0 : Int) ≤ 0 ∧ (0 : Int) ≤ 2 by decide), ⟨b1, b2, b3, b4, b5⟩, Int.le_refl _⟩
  show s.Error ≤ 4000000
  omega
theorem scan_L3 (used : List Bool) : ∀ (xs : List Spot) (k : Nat) (next : Int) (out : List followed), (∀ s ∈ xs, s.In) → 0 ≤ next → next + xs.length ≤ 1000000000 →
    ∃ (ys : List followed) (m : Nat), tracker_Tracker_Scan_L3 used xs k next out = (next + m, out ++ ys) ∧ Vals ys ∧ (∀ i ∈ ids ys, next ≤ i ∧ i < next + m) ∧ (ids ys).Pairwise (· < ·) ∧ m ≤ xs.length
  | [], _, next, out, _, _, _ => ⟨[], 0, by unfold tracker_Tracker_Scan_L3; simp, (fun _ h => by cases h), (fun _ h => by cases h), .nil, Nat.le_refl _⟩
  | x :: xs, k, next, out, h, h0, hn => by
    rw [List.length_cons] at hn
    unfold tracker_Tracker_Scan_L3
    have hx := h x (List.mem_cons_self ..)
    have hxs := fun s hs => h s (List.mem_cons_of_mem _ hs)
    cases hc : (((used[k]?.getD false)) || (decide ((out.length : Int) ≥ 32))) with
    | true =>
      obtain ⟨ys, m, g1, g2, g3, g4, g5⟩ := scan_L3 used xs (k + 1) next out hxs h0 (by omega)
      exact ⟨ys, m, g1, g2, g3, g4, by rw [List.length_cons]; omega⟩
    | false =>
      show ∃ ys m, tracker_Tracker_Scan_L3 used xs (k + 1) (w64 (next + 1)) _ = _ ∧ _
      rw [w64_id (by omega)]
      obtain ⟨ys, m, g1, g2, g3, g4, g5⟩ := scan_L3 used xs (k + 1) (next + 1) _ hxs (by omega) (by omega)
      refine ⟨_ :: ys, m + 1, ?_, vals_cons (x := ⟨_, ⟨0, 0⟩, true⟩) g2 (begin_in hx next h0), ?_, ?_, by rw [List.length_cons]; omega⟩
      · rw [g1, List.append_assoc]
        refine Prod.ext ?_ rfl
        show next + 1 + (m : Int) = next + ((m + 1 : Nat) : Int)
        omega
      · intro i hi
        rcases List.mem_cons.1 hi with hi | hi
        · have hi : i = next := hi
          omega
        · have := g3 i hi; omega
      · refine List.pairwise_cons.2 ⟨fun i hi => ?_, g4⟩
        show next < i
        have := g3 i hi; omega
theorem confirm_in (t : Tracker) : ∀ (xs : List followed) (k : Nat) (out : List followed), Vals xs → ∃ ys, tracker_Tracker_confirm_L1 t xs k out = out ++ ys ∧ (ids ys).Sublist (ids xs) ∧ Vals ys
  | [], _, out, _ => ⟨[], by unfold tracker_Tracker_confirm_L1; rw [List.append_nil], .slnil, fun _ h => by cases h⟩
  | x :: xs, k, out, hv => by
    have hx := hv x (List.mem_cons_self ..)
    have hxs : Vals xs := fun s hs => hv s (List.mem_cons_of_mem _ hs)
    have put : ∀ z : followed, z.f.In → z.f.Track.ID = x.f.Track.ID → ∃ ys, tracker_Tracker_confirm_L1 t xs (k + 1) (out ++ [z]) = out ++ ys ∧ (ids ys).Sublist (ids (x :: xs)) ∧ Vals ys := fun z hz hz2 => by
      obtain ⟨ys, g1, g2, g3⟩ := confirm_in t xs (k + 1) (out ++ [z]) hxs
      refine ⟨z :: ys, by rw [g1, List.append_assoc]; rfl, ?_, vals_cons g3 hz⟩
      show (z.f.Track.ID :: ids ys).Sublist (x.f.Track.ID :: ids xs)
      rw [hz2]; exact g2.cons_cons _
    unfold tracker_Tracker_confirm_L1
    simp only [ite_of_cond]
    split
    · split
      · obtain ⟨ys, g1, g2, g3⟩ := confirm_in t xs (k + 1) out hxs
        exact ⟨ys, g1, g2.cons _, g3⟩
      · split
        · obtain ⟨a1, a2, a3, a4, a5, a6, _, a11, a12⟩ := hx
          exact put _ ⟨a1, a2, a3, a4, a5, a6, ⟨(show (0 : Int) ≤ 1 by decide), (show (1 : Int) ≤ 2 by decide)⟩, a11, a12⟩ rfl
        · exact put _ hx rfl
    · exact put _ hx rfl
theorem scan_out : ∀ (xs : List followed) (k : Nat) (out : List Track), tracker_Tracker_Scan_L4 xs k out = out ++ xs.map fun x => x.f.Track
  | [], _, out => by unfold tracker_Tracker_Scan_L4; rw [List.map_nil, List.append_nil]
  | x :: xs, k, out => by unfold tracker_Tracker_Scan_L4; rw [scan_out xs (k + 1)]; simp

theorem tracks_all : ∀ (xs : List followed) (k : Nat) (out : List FilterTrack), tracker_Tracker_Tracks_L1 xs k out = out ++ xs.map fun x => x.f
  | [], _, out => by unfold tracker_Tracker_Tracks_L1; rw [List.map_nil, List.append_nil]
  | x :: xs, k, out => by unfold tracker_Tracker_Tracks_L1; rw [tracks_all xs (k + 1)]; simp
theorem tracks_eq (t : Tracker) : tracker_Tracker_Tracks t = t.all.map fun x => x.f := tracks_all t.all 0 []

/-- A scan that is refused changes nothing; what one that is taken leaves. -/
theorem scan_cases {t : Tracker} {l : List Spot} {time : Int} {r : List Track × Int × Tracker} (hr : tracker_Tracker_Scan t l time = r) :
    (r.2.1 ≠ 0 ∧ r.1 = [] ∧ r.2.2 = t) ∨ (r.2.1 = 0 ∧ tracker_Tracker_check t l time = 0 ∧ r.1 = r.2.2.all.map (fun x => x.f.Track) ∧ r.2.2.rules = t.rules ∧ r.2.2.last = time ∧ (t.all.length ≤ 32 → r.2.2.all.length ≤ 32) ∧
      (0 ≤ t.next → t.next ≤ 900000000 → (ids t.all).Pairwise (· < ·) → (∀ i ∈ ids t.all, i < t.next) → t.all.length ≤ 32 → Vals r.2.2.all ∧ (ids r.2.2.all).Pairwise (· < ·) ∧ (∀ i ∈ ids r.2.2.all, i < r.2.2.next) ∧ t.next ≤ r.2.2.next ∧ r.2.2.next ≤ t.next + 32)) := by
  unfold tracker_Tracker_Scan at hr
  simp only at hr
  cases hc : (tracker_Tracker_check t l time != 0) with
  | true =>
    rw [hc, cond_true] at hr
    subst hr
    exact .inl ⟨by simpa using hc, rfl, rfl⟩
  | false =>
    have hc0 : tracker_Tracker_check t l time = 0 := by simpa using hc
    have hs := check_ok.1 hc0
    have hsp := spots_in (r := fuse_Spots l 500) hs.1 hs.2.2.2 rfl
    rw [hc, cond_false] at hr
    generalize fuse_Spots l 500 = r2 at hr hsp
    unfold bindv at hr
    generalize (cond (decide (t.last ≥ 0)) (imin 60000 (w64 (500 + w64 (200 * w64 (time - t.last))))) 60000) = band at hr
    simp only at hr
    obtain ⟨al, ha, ha2⟩ := scan_al t time t.all 0 [] []
    generalize tracker_Tracker_Scan_L1 t time t.all 0 [] [] = e1 at hr ha2
    obtain ⟨tr, al2⟩ := e1
    simp only [List.nil_append] at ha2 hr
    subst ha2
    generalize assign_Best (gate_Costs tr r2.1 band).1 2147483648 = r5 at hr
    obtain ⟨ys, hy1, hy2, hy3⟩ := scan_L2 t r2 r5 al2 0 (List.replicate ((r2.1.length : Int).toNat) false) []
    generalize tracker_Tracker_Scan_L2 t r2 r5 al2 0 (List.replicate ((r2.1.length : Int).toNat) false) [] = e2 at hr hy1
    obtain ⟨used, xs2⟩ := e2
    simp only [List.nil_append] at hy1 hr
    subst hy1
    have hal : al2.length ≤ t.all.length := ha.length_le
    have hxl : xs2.length ≤ al2.length := by have := hy2.length_le; unfold ids at this; simpa using this
    have h3 := scan_L3len used r2.1 0 t.next xs2
    have h3b := scan_L3 used r2.1 0 t.next xs2 (fun s hs => (hsp.2 s hs).1)
    generalize tracker_Tracker_Scan_L3 used r2.1 0 t.next xs2 = e3 at hr h3 h3b
    obtain ⟨next, xs4⟩ := e3
    simp only at hr h3 h3b
    generalize hcf : tracker_Tracker_confirm ⟨t.rules, xs4, next, time⟩ = r10 at hr
    have hcl := confirm_len hcf
    have hcv := confirm_in ⟨t.rules, xs4, next, time⟩ xs4 0 []
    unfold tracker_Tracker_confirm bindv at hcf
    simp only at hcf hcl
    rw [← hcf] at hcl hr
    clear hcf
    generalize tracker_Tracker_confirm_L1 ⟨t.rules, xs4, next, time⟩ xs4 0 [] = x5 at hr hcl hcv
    simp only at hcl
    refine .inr ?_
    rw [scan_out] at hr
    have hlen : t.all.length ≤ 32 → x5.length ≤ 32 := fun h => by have := h3 (by omega); omega
    generalize hf : tracker_Tracker_fuse ⟨t.rules, x5, next, time⟩ time = r11 at hr
    subst hr
    rw [List.nil_append]
    have hx5 : t.all.length ≤ 32 → ∃ now, r11 = ⟨t.rules, x5.filter (fun x => !tracker_Tracker_fuse_1 x time now), next, time⟩ := fun h => fuse_all hf (by have := hlen h; show x5.length ≤ 64; omega)
    have hrl : r11.rules = t.rules ∧ r11.last = time := by subst hf; exact ⟨rfl, rfl⟩
    refine ⟨rfl, hc0, rfl, hrl.1, hrl.2, fun h => ?_, fun g0 g1 g2 g3 g4 => ?_⟩
    · obtain ⟨now, rfl⟩ := hx5 h
      exact Nat.le_trans (List.length_filter_le ..) (hlen h)
    · obtain ⟨now, rfl⟩ := hx5 g4
      obtain ⟨zs, m, p1, p2, p3, p4, p5⟩ := h3b g0 (by have := hsp.1; omega)
      simp only [Prod.mk.injEq] at p1
      obtain ⟨rfl, rfl⟩ := p1
      have hsub : (ids xs2).Sublist (ids t.all) := hy2.trans (ha.map _)
      obtain ⟨ws, q1, q2, q3⟩ := hcv (fun y hy => by
        rcases List.mem_append.1 hy with hy | hy
        · exact hy3 y hy
        · exact p2 y hy)
      rw [List.nil_append] at q1
      subst q1
      have hfs : (x5.filter (fun x => !tracker_Tracker_fuse_1 x time now)).Sublist x5 := List.filter_sublist
      have hid : (ids (x5.filter (fun x => !tracker_Tracker_fuse_1 x time now))).Sublist (ids (xs2 ++ zs)) := (hfs.map _).trans q2
      have hap : ids (xs2 ++ zs) = ids xs2 ++ ids zs := List.map_append ..
      rw [hap] at hid
      have hb : ∀ i ∈ ids xs2 ++ ids zs, i < t.next + m := fun i hi => by
        rcases List.mem_append.1 hi with hi | hi
        · have := g3 i (hsub.mem hi); omega
        · exact (p3 i hi).2
      refine ⟨fun y hy => q3 y (hfs.mem hy), List.Pairwise.sublist hid (List.pairwise_append.2 ⟨List.Pairwise.sublist hsub g2, p4, fun a ha b hb => ?_⟩), fun i hi => hb i (hid.mem hi), ?_, ?_⟩
      · have := g3 a (hsub.mem ha); have := (p3 b hb).1; omega
      · show t.next ≤ t.next + (m : Int); omega
      · show t.next + (m : Int) ≤ t.next + 32
        have := hsp.1; omega
theorem scan_len {t : Tracker} {l : List Spot} {time : Int} {r : List Track × Int × Tracker} (hr : tracker_Tracker_Scan t l time = r) (h : t.all.length ≤ 32) : r.2.2.all.length ≤ 32 ∧ r.1.length ≤ 32 := by
  rcases scan_cases hr with ⟨_, h1, h2⟩ | ⟨_, _, h1, _, _, h2, _⟩
  · rw [h1, h2]; exact ⟨h, Nat.zero_le _⟩
  · rw [h1, List.length_map]; exact ⟨h2 h, h2 h⟩
end Go.Sky
