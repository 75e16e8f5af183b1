/- The radars that see an aircraft all give spots that contain it: the plain law. Conditions: none. -/
import Derived.Test.YtakjcphknccdnaaDoorMn
import Derived.Test.YtakjcphknccdnaaDoorRadLaw
namespace Go.Sky
open Go Go.Eng Go.Glue

/-! Look-ups. -/
theorem site_none (c : RadarSite) : ∀ (xs : List RadarSite) (k : Nat), (∃ r : Int, IndexFunc_site_L1 c xs k = .inr r ∧ 0 ≤ r) ∨ (IndexFunc_site_L1 c xs k = .inl () ∧ ∀ y ∈ xs, y.ID ≠ c.ID)
  | [], k => .inr ⟨rfl, fun y hy => by cases hy⟩
  | x :: xs, k => by
    rw [IndexFunc_site_L1]
    try simp only
    cases hc : mosaic_Check_1 x c with
    | true => exact .inl ⟨_, rfl, Int.natCast_nonneg _⟩
    | false =>
      rw [cond_false]
      rcases site_none c xs (k + 1) with h | ⟨h, h2⟩
      · exact .inl h
      · refine .inr ⟨h, fun y hy => ?_⟩
        rcases List.mem_cons.1 hy with rfl | hy
        · unfold mosaic_Check_1 at hc
          simpa using hc
        · exact h2 y hy
theorem site_free {c : RadarSite} {xs : List RadarSite} (h : ContainsFunc_site xs c = false) : ∀ y ∈ xs, y.ID ≠ c.ID := by
  unfold ContainsFunc_site IndexFunc_site at h
  simp only at h
  rcases site_none c xs 0 with ⟨r, h1, h2⟩ | ⟨_, h2⟩
  · exfalso
    rw [h1] at h
    have := of_decide_eq_false h
    simp only [Sum.elim_inr] at this
    omega
  · exact h2
theorem far_none (c : Spot) : ∀ (xs : List Spot) (k : Nat), (∀ y ∈ xs, skywaykeep2_MosaicContains_1 y c = false) → IndexFunc_far_L1 c xs k = .inl ()
  | [], k, _ => rfl
  | x :: xs, k, h => by
    rw [IndexFunc_far_L1]
    try simp only
    rw [h x List.mem_cons_self, cond_false]
    exact far_none c xs (k + 1) fun y hy => h y (List.mem_cons_of_mem _ hy)
theorem far_free {c : Spot} {xs : List Spot} (h : ∀ y ∈ xs, skywaykeep2_MosaicContains_1 y c = false) : ContainsFunc_far xs c = false := by
  unfold ContainsFunc_far IndexFunc_far
  simp only
  rw [far_none c xs 0 h]
  rfl
theorem int_in (v : Int) : ∀ (xs : List Int) (k : Nat), v ∈ xs → ∃ r : Int, slices_Index_int_int_L1 v xs k = .inr r ∧ 0 ≤ r
  | x :: xs, k, h => by
    rw [slices_Index_int_int_L1]
    cases hc : (v == x) with
    | true => exact ⟨_, rfl, Int.natCast_nonneg _⟩
    | false =>
      rw [cond_false]
      rcases List.mem_cons.1 h with rfl | h
      · simp at hc
      · exact int_in v xs (k + 1) h
theorem int_has {v : Int} {xs : List Int} (h : v ∈ xs) : slices_Contains_int_int xs v = true := by
  unfold slices_Contains_int_int slices_Index_int_int
  simp only
  obtain ⟨r, h1, h2⟩ := int_in v xs 0 h
  rw [h1]
  exact decide_eq_true h2

/-! What Check asks. -/
theorem chk_loop (l : List RadarSite) : ∀ (xs pre : List RadarSite), l = pre ++ xs → pre.Pairwise (fun a b => a.ID ≠ b.ID) → (∃ e : Int, mosaic_Check_L1 l xs pre.length = .inr e ∧ e ≠ 0) ∨
    (mosaic_Check_L1 l xs pre.length = .inl () ∧ (∀ x ∈ xs, radar_Check x = 0) ∧ l.Pairwise (fun a b => a.ID ≠ b.ID))
  | [], pre, h, hp => .inr ⟨rfl, fun x hx => (by cases hx), by rw [h, List.append_nil]; exact hp⟩
  | x :: xs, pre, h, hp => by
    rw [mosaic_Check_L1]
    try simp only
    cases h1 : (radar_Check x != 0) with
    | true => exact .inl ⟨_, rfl, by simpa using h1⟩
    | false =>
      rw [cond_false]
      have ht : l.take pre.length = pre := by rw [h, List.take_left']; rfl
      rw [ht]
      cases h2 : ContainsFunc_site pre x with
      | true => exact .inl ⟨7, rfl, by decide⟩
      | false =>
        rw [cond_false]
        have hp2 : (pre ++ [x]).Pairwise (fun a b => a.ID ≠ b.ID) := by
          rw [List.pairwise_append]
          refine ⟨hp, List.pairwise_singleton _ _, fun a ha b hb => ?_⟩
          rw [List.mem_singleton] at hb
          subst hb
          exact site_free h2 a ha
        have ih := chk_loop l xs (pre ++ [x]) (by rw [h, List.append_assoc]; rfl) hp2
        rw [List.length_append] at ih
        rcases ih with ih | ⟨i1, i2, i3⟩
        · exact .inl ih
        · refine .inr ⟨i1, fun y hy => ?_, i3⟩
          rcases List.mem_cons.1 hy with rfl | hy
          · exact bne_F h1
          · exact i2 y hy
theorem chk_ok {l : List RadarSite} (h : mosaic_Check l = 0) : l.length ≤ 4 ∧ (∀ x ∈ l, radar_Check x = 0) ∧ l.Pairwise (fun a b => a.ID ≠ b.ID) := by
  unfold mosaic_Check at h
  cases h1 : decide ((l.length : Int) > 4) with
  | true => rw [h1] at h; cases h
  | false =>
    rw [h1, cond_false] at h
    rcases chk_loop l l [] rfl List.Pairwise.nil with ⟨e, h2, h3⟩ | ⟨_, h3⟩
    · rw [List.length_nil] at h2
      rw [h2] at h
      exact absurd h h3
    · have := of_decide_eq_false h1
      exact ⟨by omega, h3⟩

/-! What Sees finds. -/
def seesB (p : P) (x : RadarSite) : Bool := (radar_Covers x p).1
theorem sees_loop (p : P) : ∀ (xs : List RadarSite) (k : Nat) (out : List Int), (∃ e : Int, mosaic_Sees_L1 p xs k out = .inr ([], e) ∧ e ≠ 0) ∨
    (mosaic_Sees_L1 p xs k out = .inl (out ++ (xs.filter (seesB p)).map (·.ID)))
  | [], k, out => .inr (by rw [mosaic_Sees_L1]; simp)
  | x :: xs, k, out => by
    rw [mosaic_Sees_L1]
    try simp only
    cases h1 : ((radar_Covers x p).2 != 0) with
    | true => exact .inl ⟨_, rfl, by simpa using h1⟩
    | false =>
      rw [cond_false]
      cases h2 : (radar_Covers x p).1 with
      | true =>
        rw [cond_true]
        rcases sees_loop p xs (k + 1) (out ++ [x.ID]) with ih | ih
        · exact .inl ih
        · refine .inr ?_
          rw [ih, List.filter_cons_of_pos (by exact h2), List.map_cons, List.append_assoc]; rfl
      | false =>
        rw [cond_false]
        rcases sees_loop p xs (k + 1) out with ih | ih
        · exact .inl ih
        · refine .inr ?_
          rw [ih, List.filter_cons_of_neg (by unfold seesB; rw [h2]; decide)]
theorem sees_cases (l : List RadarSite) (p : P) : ((mosaic_Sees l p).2 ≠ 0 ∧ (mosaic_Sees l p).1 = []) ∨ ((mosaic_Sees l p).2 = 0 ∧ mosaic_Check l = 0 ∧ (mosaic_Sees l p).1 = ((l.filter (seesB p)).map (·.ID)).mergeSort (fun x y => decide (x ≤ y))) := by
  unfold mosaic_Sees
  simp only
  cases h1 : (mosaic_Check l != 0) with
  | true => exact .inl ⟨by simpa using h1, rfl⟩
  | false =>
    rw [cond_false]
    rcases sees_loop p l 0 [] with ⟨e, h2, h3⟩ | h2
    · rw [h2]; exact .inl ⟨h3, rfl⟩
    · rw [h2, List.nil_append]; exact .inr ⟨rfl, bne_F h1, rfl⟩

/-! The plots of the radars that see it. -/
def plotB (t : Spot) (x : RadarSite) : Bool := (radar_Plot x t).2 == 0
theorem plot_sees {t : Spot} {x : RadarSite} (h : plotB t x = true) : seesB t.At x = true := by
  have h : (radar_Plot x t).2 = 0 := by simpa [plotB] using h
  obtain ⟨h1, _, _, h4, _⟩ := plot_ok h
  have hc : radar_CheckSpot t = 0 := by
    unfold radar_Plot at h
    simp only at h
    rw [h1] at h
    simp only [bne_self_eq_false, cond_false] at h
    cases h2 : (radar_CheckSpot t != 0) with
    | true => rw [h2, cond_true] at h; exact h
    | false => exact bne_F h2
  have hp : plane_Check t.At = 0 := by
    unfold radar_CheckSpot at hc
    simp only at hc
    cases h1 : radar_out t.Time 0 200000 <;> rw [h1] at hc <;> simp only [cond_true, cond_false] at hc
    case true => cases hc
    cases h2 : (plane_Check t.At != 0) with
    | true => rw [h2] at hc; cases hc
    | false => exact bne_F h2
  unfold seesB radar_Covers
  simp only
  rw [h1, hp]
  simp only [bne_self_eq_false, cond_false]
  exact h4
theorem sees_plot {t : Spot} {x : RadarSite} (hx : radar_Check x = 0) (ht : radar_CheckSpot t = 0) (h : seesB t.At x = true) : plotB t x = true := by
  unfold seesB radar_Covers at h
  simp only at h
  rw [hx] at h
  simp only [bne_self_eq_false, cond_false] at h
  cases h2 : (plane_Check t.At != 0) with
  | true => rw [h2, cond_true] at h; cases h
  | false =>
    rw [h2, cond_false] at h
    simp only at h
    unfold plotB radar_Plot
    simp only
    rw [hx, ht, h]
    simp only [bne_self_eq_false, cond_false, Bool.not_true]
    cases (!(P.eqb x.At t.At)) <;> rfl
theorem plots_loop (t : Spot) (r : List Int × Int) : ∀ (xs : List RadarSite) (k : Nat) (out : List Plot), (∀ x ∈ xs, plotB t x = true → x.ID ∈ r.1) →
    skywaykeep2_MosaicContains_L1 t r xs k out = .inl (out ++ (xs.filter (plotB t)).map (fun x => (radar_Plot x t).1))
  | [], k, out, _ => by rw [skywaykeep2_MosaicContains_L1]; simp
  | x :: xs, k, out, h => by
    rw [skywaykeep2_MosaicContains_L1]
    try simp only
    have ht := fun y hy => h y (List.mem_cons_of_mem _ hy)
    cases h1 : ((radar_Plot x t).2 == 0) with
    | true =>
      rw [cond_true, int_has (h x List.mem_cons_self h1)]
      simp only [Bool.not_true, cond_false]
      rw [plots_loop t r xs (k + 1) _ ht, List.filter_cons_of_pos (by exact h1), List.map_cons, List.append_assoc]; rfl
    | false =>
      rw [cond_false, plots_loop t r xs (k + 1) _ ht, List.filter_cons_of_neg (by unfold plotB; rw [h1]; decide)]

/-! The spots of the plots. -/
def Holds (t : Spot) (y : Spot) : Prop := skywaykeep2_square y.At t.At ≤ y.Error * y.Error ∧ 0 ≤ y.Error ∧ y.Error ≤ 1000000
theorem plot_holds {t : Spot} {s : RadarSite} (h : (radar_Plot s t).2 = 0) (hx : (radar_Spot s (radar_Plot s t).1).2 = 0) : Holds t (radar_Spot s (radar_Plot s t).1).1 := by
  refine ⟨?_, err_nn hx⟩
  have hc := plot_ok h
  by_cases he : s.At = t.At
  · exact own_place h he hx
  · have ae := hc.2.1.aerr
    have re := hc.2.1.rerr
    have az := plot_azimuth h
    exact plot_place (u := 0) h he (by omega) (by omega) (by omega) hx
/-- No site but one has the number of the plot: at most one spot. -/
theorem spots_none (p : Plot) : ∀ (xs : List RadarSite) (k : Nat) (out : List Spot), (∀ y ∈ xs, y.ID ≠ p.Radar) → mosaic_Spots_L2 p xs k out = out
  | [], k, out, _ => rfl
  | x :: xs, k, out, h => by
    rw [mosaic_Spots_L2]
    have : (x.ID != p.Radar) = true := by simpa using h x List.mem_cons_self
    rw [this, cond_true]
    exact spots_none p xs (k + 1) out fun y hy => h y (List.mem_cons_of_mem _ hy)
theorem spots_one {t : Spot} {s : RadarSite} (hs : (radar_Plot s t).2 = 0) : ∀ (xs : List RadarSite) (k : Nat) (out : List Spot), xs.Pairwise (fun a b => a.ID ≠ b.ID) → s ∈ xs →
    ∃ more : List Spot, mosaic_Spots_L2 (radar_Plot s t).1 xs k out = out ++ more ∧ more.length ≤ 1 ∧ ∀ y ∈ more, Holds t y
  | x :: xs, k, out, hp, hm => by
    have hr := (plot_check hs).2
    rw [List.pairwise_cons] at hp
    rw [mosaic_Spots_L2]
    rcases List.mem_cons.1 hm with rfl | hm
    · have e : (s.ID != (radar_Plot s t).1.Radar) = false := by rw [hr]; simp
      have rest : ∀ out2, mosaic_Spots_L2 (radar_Plot s t).1 xs (k + 1) out2 = out2 := fun out2 => spots_none _ xs (k + 1) out2 fun y hy => by rw [hr]; exact (hp.1 y hy).symm
      rw [e, cond_false]
      simp only
      cases h3 : ((radar_Spot s (radar_Plot s t).1).2 == 0) with
      | true =>
        rw [cond_true, rest]
        refine ⟨_, rfl, Nat.le_refl _, fun y hy => ?_⟩
        rw [List.mem_singleton] at hy
        subst hy
        exact plot_holds hs (by simpa using h3)
      | false =>
        rw [cond_false, rest]
        exact ⟨[], (List.append_nil _).symm, Nat.zero_le _, fun y hy => by cases hy⟩
    · have e : (x.ID != (radar_Plot s t).1.Radar) = true := by
        rw [hr]
        simpa using hp.1 s hm
      rw [e, cond_true]
      exact spots_one hs xs (k + 1) out hp.2 hm
theorem spots_loop {t : Spot} (l : List RadarSite) (hp : l.Pairwise (fun a b => a.ID ≠ b.ID)) : ∀ (ss : List RadarSite) (k : Nat) (out : List Spot), (∀ s ∈ ss, s ∈ l ∧ (radar_Plot s t).2 = 0) →
    ∃ more : List Spot, mosaic_Spots_L1 l (ss.map (fun x => (radar_Plot x t).1)) k out = out ++ more ∧ more.length ≤ ss.length ∧ ∀ y ∈ more, Holds t y
  | [], k, out, _ => ⟨[], by rw [List.map_nil, mosaic_Spots_L1, List.append_nil], Nat.le_refl _, fun y hy => by cases hy⟩
  | s :: ss, k, out, h => by
    rw [List.map_cons, mosaic_Spots_L1]
    obtain ⟨m1, e1, l1, q1⟩ := spots_one (h s List.mem_cons_self).2 l 0 out hp (h s List.mem_cons_self).1
    obtain ⟨m2, e2, l2, q2⟩ := spots_loop l hp ss (k + 1) (out ++ m1) fun x hx => h x (List.mem_cons_of_mem _ hx)
    refine ⟨m1 ++ m2, ?_, ?_, fun y hy => ?_⟩
    · unfold bindv
      rw [e1]
      show mosaic_Spots_L1 l (ss.map (fun x => (radar_Plot x t).1)) (k + 1) (out ++ m1) = _
      rw [e2, List.append_assoc]
    · rw [List.length_append, List.length_cons]; omega
    · rcases List.mem_append.1 hy with hy | hy
      · exact q1 y hy
      · exact q2 y hy
theorem chkp_loop : ∀ (xs : List Plot) (k : Nat), (∀ p ∈ xs, radar_CheckPlot p = 0) → mosaic_checkPlots_L1 xs k = .inl ()
  | [], k, _ => rfl
  | x :: xs, k, h => by
    rw [mosaic_checkPlots_L1]
    try simp only
    rw [h x List.mem_cons_self]
    simp only [bne_self_eq_false, cond_false]
    exact chkp_loop xs (k + 1) fun p hp => h p (List.mem_cons_of_mem _ hp)
theorem chkp_ok {xs : List Plot} (hl : xs.length ≤ 4) (h : ∀ p ∈ xs, radar_CheckPlot p = 0) : mosaic_checkPlots xs = 0 := by
  unfold mosaic_checkPlots
  rw [decide_eq_false (by omega), cond_false, chkp_loop xs 0 h]
  rfl
theorem sees_east : (mosaic_Sees ([skywaykeep2_east]) (⟨5, 0⟩ : P)).2 = 0 ∧ (mosaic_Sees ([skywaykeep2_east]) (⟨5, 0⟩ : P)).1.length = 1 := by
  have e : mosaic_Sees_L1 (⟨5, 0⟩ : P) [skywaykeep2_east] 0 [] = .inl [1] := by kernel_rfl
  have c : mosaic_Check [skywaykeep2_east] = 0 := by kernel_rfl
  unfold mosaic_Sees
  simp only
  rw [c]
  simp only [bne_self_eq_false, cond_false]
  rw [e]
  simp only [Sum.elim_inl]
  exact ⟨by first | rfl | trivial, List.length_mergeSort _⟩

theorem MosaicContains_true (l : List RadarSite) (t : Spot) (_ : l.length < 4611686018427387904) (_ : ∀ a ∈ l, a.ok) (_ : t.ok) : skywaykeep2_MosaicContains l t = true := by
  unfold skywaykeep2_MosaicContains
  simp only
  have he : (((mosaic_Sees ([skywaykeep2_east]) (⟨5, 0⟩ : P)).2 != 0) || (((mosaic_Sees ([skywaykeep2_east]) (⟨5, 0⟩ : P)).1.length : Int) != 1)) = false := by
    rw [sees_east.1, sees_east.2]; rfl
  rw [he, cond_false]
  rcases sees_cases l t.At with ⟨h1, h2⟩ | ⟨h1, hc, h2⟩
  · have : ((mosaic_Sees l t.At).2 != 0) = true := by simpa using h1
    rw [this, cond_true, h2]; rfl
  rw [h1]
  simp only [bne_self_eq_false, cond_false]
  obtain ⟨c1, c2, c3⟩ := chk_ok hc
  have hids : ∀ x ∈ l, plotB t x = true → x.ID ∈ (mosaic_Sees l t.At).1 := fun x hx hp => by
    rw [h2, List.mem_mergeSort]
    exact List.mem_map.2 ⟨x, List.mem_filter.2 ⟨hx, plot_sees hp⟩, rfl⟩
  rw [plots_loop t _ l 0 [] hids, List.nil_append]
  simp only [Sum.elim_inl]
  have hlen : radar_CheckSpot t = 0 → ((l.filter (plotB t)).map (fun x => (radar_Plot x t).1)).length = (mosaic_Sees l t.At).1.length := fun hs => by
    have hf : l.filter (plotB t) = l.filter (seesB t.At) := List.filter_congr fun x hx => by
      cases hb : seesB t.At x with
      | true => exact sees_plot (c2 x hx) hs hb
      | false =>
        cases hp : plotB t x with
        | true => rw [plot_sees hp] at hb; cases hb
        | false => rfl
    rw [h2, List.length_mergeSort, List.length_map, List.length_map, hf]
  have hcond : ((radar_CheckSpot t == 0) && ((((l.filter (plotB t)).map (fun x => (radar_Plot x t).1)).length : Int) != ((mosaic_Sees l t.At).1.length : Int))) = false := by
    cases hs : (radar_CheckSpot t == 0) with
    | false => rfl
    | true => rw [hlen (by simpa using hs)]; simp
  rw [hcond, cond_false]
  have hss : ∀ s ∈ l.filter (plotB t), s ∈ l ∧ (radar_Plot s t).2 = 0 := fun s hs => by
    have := List.mem_filter.1 hs
    exact ⟨this.1, by simpa [plotB] using this.2⟩
  have hck : mosaic_checkPlots ((l.filter (plotB t)).map (fun x => (radar_Plot x t).1)) = 0 := by
    refine chkp_ok ?_ fun p hp => ?_
    · rw [List.length_map]; exact Nat.le_trans (List.length_filter_le _ _) c1
    · obtain ⟨s, hs, rfl⟩ := List.mem_map.1 hp
      exact (plot_check (hss s hs).2).1
  obtain ⟨more, m1, m2, m3⟩ := spots_loop (t := t) l c3 (l.filter (plotB t)) 0 [] hss
  have hsp : mosaic_Spots l ((l.filter (plotB t)).map (fun x => (radar_Plot x t).1)) = (more, 0) := by
    unfold mosaic_Spots
    simp only
    rw [hc, hck]
    simp only [bne_self_eq_false, cond_false]
    unfold bindv
    rw [m1, List.nil_append]
  rw [hsp]
  simp only
  have hfar : ContainsFunc_far more t = false := far_free fun y hy => by
    obtain ⟨a, b, c⟩ := m3 y hy
    unfold skywaykeep2_MosaicContains_1
    simp only
    rw [err_fit b c]
    exact decide_eq_false (by omega)
  rw [hfar, decide_eq_true (by rw [List.length_map]; omega)]
  rfl
end Go.Sky
