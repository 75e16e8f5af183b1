/- MosaicOrder is true of all lists of plots and times. Conditions: the lists are shorter than 2^62. -/
import Derived.Test.YtfjchccilkgcnaaMc
import Derived.Test.YtfjchccilkgcnaaOk
namespace Go.Sky
open Go Go.Eng Go.Glue Go.Srt

theorem eqb_self (p : Plot) : Plot.eqb p p = true := by rw [Plot.eqb_eq, decide_eq_true rfl]
theorem eqb_of {p q : Plot} (h : Plot.eqb p q = true) : p = q := by rw [Plot.eqb_eq] at h; exact of_decide_eq_true h
theorem ltP_trans {a b c : Plot} (h1 : ltP a b = true) (h2 : ltP b c = true) : ltP a c = true := by
  cases h : ltP a c
  · have h3 := ordP.asym _ _ h2
    have := ordP.ntr _ _ _ h h3
    rw [h1] at this; cases this
  · rfl

theorem cptA_sub (q : Plot → Plot → Bool) : ∀ (l : List Plot) (p : Plot), (cptA q p l).Sublist l
  | [], _ => .slnil
  | b :: l, p => by
    unfold cptA
    split
    · exact (cptA_sub q l b).cons b
    · exact (cptA_sub q l b).cons_cons b
theorem cpt_sub (q : Plot → Plot → Bool) : ∀ l : List Plot, (cpt q l).Sublist l
  | [] => .slnil
  | a :: l => (cptA_sub q l a).cons_cons a

theorem cptA_strict : ∀ (l : List Plot) (p : Plot), Up ltP (p :: l) → (∀ x ∈ cptA Plot.eqb p l, ltP p x = true) ∧ (cptA Plot.eqb p l).Pairwise (fun a b => ltP a b = true)
  | [], _, _ => ⟨fun _ h => (List.not_mem_nil h).elim, List.Pairwise.nil⟩
  | b :: l, p, h => by
    obtain ⟨h1, h2⟩ := List.pairwise_cons.1 h
    have ih := cptA_strict l b h2
    unfold cptA
    split
    · rename_i hq
      have := eqb_of hq
      subst this
      exact ih
    · rename_i hq
      have hb : ltP p b = true := by
        cases hc : ltP p b
        · have := triP hc (h1 b (List.mem_cons_self ..))
          subst this
          exact absurd (eqb_self p) hq
        · rfl
      exact ⟨fun x hx => by
        rcases List.mem_cons.1 hx with rfl | hx
        · exact hb
        · exact ltP_trans hb (ih.1 x hx), List.pairwise_cons.2 ih⟩
theorem cpt_strict : ∀ l : List Plot, Up ltP l → (cpt Plot.eqb l).Pairwise (fun a b => ltP a b = true)
  | [], _ => .nil
  | a :: l, h => List.pairwise_cons.2 (cptA_strict l a h)

/-- What a feed must be. -/
def Feed (l : List Plot) : Prop := l.length ≤ 256 ∧ mosaic_Merge_L2 l l 0 = .inl ()
theorem feed_run (l : List Plot) : ∀ (xs : List Plot) (k : Nat), (mosaic_Merge_L2 l xs k = .inl () ∧ ∀ p ∈ xs, radar_CheckPlot p = 0) ∨ ∃ e, mosaic_Merge_L2 l xs k = .inr ([], e) ∧ e ≠ 0
  | [], _ => .inl ⟨rfl, fun _ h => by cases h⟩
  | x :: xs, k => by
    unfold mosaic_Merge_L2
    simp only
    cases h1 : (radar_CheckPlot x != 0)
    · have h0 : radar_CheckPlot x = 0 := by simpa using h1
      rw [cond_false]
      have ih := feed_run l xs (k + 1)
      have fin : (mosaic_Merge_L2 l xs (k + 1) = .inl () ∧ ∀ p ∈ x :: xs, radar_CheckPlot p = 0) ∨ ∃ e, mosaic_Merge_L2 l xs (k + 1) = .inr ([], e) ∧ e ≠ 0 := by
        rcases ih with ⟨e, h⟩ | h
        · refine .inl ⟨e, fun p hp => ?_⟩
          rcases List.mem_cons.1 hp with rfl | hp
          · exact h0
          · exact h p hp
        · exact .inr h
      cases decide ((k : Int) > 0)
      · exact fin
      · rw [cond_true]
        cases decide (x.Time < ((l[(k - 1)]?.getD Plot.zero).Time))
        · exact fin
        · exact .inr ⟨12, rfl, by decide⟩
    · exact .inr ⟨_, rfl, by simpa using h1⟩

theorem merge_two (a b : List Plot) : (mosaic_Merge [a, b] = (cpt Plot.eqb (isort ltP (a ++ b)), 0) ∧ Feed a ∧ Feed b) ∨ (∃ e, mosaic_Merge [a, b] = ([], e) ∧ e ≠ 0) ∧ ¬ (Feed a ∧ Feed b) := by
  unfold mosaic_Merge
  rw [show decide ((([a, b] : List (List Plot)).length : Int) > 4) = false from rfl, cond_false]
  unfold mosaic_Merge_L1
  cases ha : decide ((a.length : Int) > 256)
  · have ha := of_decide_eq_false ha
    rw [cond_false]
    rcases feed_run a a 0 with ⟨ea, _⟩ | ⟨e, he, hz⟩
    · rw [ea]
      simp only [Sum.elim_inl]
      unfold mosaic_Merge_L1
      cases hb : decide ((b.length : Int) > 256)
      · have hb := of_decide_eq_false hb
        rw [cond_false]
        rcases feed_run b b 0 with ⟨eb, _⟩ | ⟨e, he, hz⟩
        · rw [eb]
          exact .inl ⟨rfl, ⟨by omega, ea⟩, by omega, eb⟩
        · rw [he]
          exact .inr ⟨⟨e, rfl, hz⟩, fun h => by rw [h.2.2] at he; cases he⟩
      · have hb := of_decide_eq_true hb
        exact .inr ⟨⟨2, rfl, by decide⟩, fun h => by have := h.2.1; omega⟩
    · rw [he]
      exact .inr ⟨⟨e, rfl, hz⟩, fun h => by rw [h.1.2] at he; cases he⟩
  · have ha := of_decide_eq_true ha
    exact .inr ⟨⟨2, rfl, by decide⟩, fun h => by have := h.1.1; omega⟩

theorem feed_plots {l : List Plot} (h : Feed l) : ∀ p ∈ l, radar_CheckPlot p = 0 := by
  rcases feed_run l l 0 with ⟨_, h2⟩ | ⟨e, he, _⟩
  · exact h2
  · rw [h.2] at he; cases he

theorem check_run : ∀ (xs : List Plot) (k : Nat), (∀ p ∈ xs, radar_CheckPlot p = 0) → mosaic_checkPlots_L1 xs k = .inl ()
  | [], _, _ => rfl
  | x :: xs, k, h => by
    unfold mosaic_checkPlots_L1
    simp only
    rw [h x (List.mem_cons_self ..), bne_self_eq_false, cond_false]
    exact check_run xs (k + 1) fun p hp => h p (List.mem_cons_of_mem _ hp)
theorem check_plots {l : List Plot} (h1 : l.length ≤ 1024) (h : ∀ p ∈ l, radar_CheckPlot p = 0) : mosaic_checkPlots l = 0 := by
  unfold mosaic_checkPlots
  rw [show decide ((l.length : Int) > 1024) = false from decide_eq_false (by omega), cond_false, check_run l 0 h]
  rfl
theorem window_run (f t : Int) : ∀ (xs : List Plot) (k : Nat) (o : List Plot), mosaic_Window_L1 f t xs k o = o ++ xs.filter (fun x => (decide (x.Time ≥ f)) && (decide (x.Time < t)))
  | [], _, o => by unfold mosaic_Window_L1; simp
  | x :: xs, k, o => by
    unfold mosaic_Window_L1
    rw [List.filter_cons]
    cases ((decide (x.Time ≥ f)) && (decide (x.Time < t)))
    · rw [cond_false, window_run f t xs (k + 1) o]; simp
    · rw [cond_true, window_run f t xs (k + 1) (o ++ [x])]; simp
theorem window_eq {l : List Plot} (f t : Int) (h1 : l.length ≤ 1024) (h : ∀ p ∈ l, radar_CheckPlot p = 0) : mosaic_Window l f t = (l.filter (fun x => (decide (x.Time ≥ f)) && (decide (x.Time < t))), 0) := by
  unfold mosaic_Window
  rw [check_plots h1 h]
  show (mosaic_Window_L1 f t l 0 [], (0 : Int)) = _
  rw [window_run, List.nil_append]

theorem time_of {p : Plot} (h : radar_CheckPlot p = 0) : 0 ≤ p.Time ∧ p.Time ≤ 200000 := by
  unfold radar_CheckPlot at h
  cases h1 : radar_out p.Radar 0 255 <;> cases h2 : radar_out p.Time 0 200000 <;> simp only [h1, h2, cond_true, cond_false] at h <;> try (exact absurd h (by decide))
  unfold radar_out at h2
  simp only [Bool.or_eq_false_iff, decide_eq_false_iff_not] at h2
  omega

theorem lt_time {a b : Plot} (h : ltP a b = true) : a.Time ≤ b.Time := by
  rw [ltP_lx] at h
  unfold keyP lx at h
  simp only [Bool.or_eq_true, Bool.and_eq_true, decide_eq_true_eq] at h
  omega

theorem two_parts (t : Int) (h1 : 0 ≤ t) : ∀ (l : List Plot), l.Pairwise (fun a b => a.Time ≤ b.Time) → (∀ p ∈ l, 0 ≤ p.Time ∧ p.Time ≤ 200000) →
    l.filter (fun x => (decide (x.Time ≥ 0)) && (decide (x.Time < t))) ++ l.filter (fun x => (decide (x.Time ≥ t)) && (decide (x.Time < 200001))) = l
  | [], _, _ => rfl
  | a :: l, hp, hv => by
    obtain ⟨p1, p2⟩ := List.pairwise_cons.1 hp
    have va := hv a (List.mem_cons_self ..)
    have ih := two_parts t h1 l p2 fun p h => hv p (List.mem_cons_of_mem _ h)
    rcases Int.lt_or_le a.Time t with h | h
    · rw [List.filter_cons, List.filter_cons, if_pos (by simp; omega), if_neg (by simp; omega), List.cons_append, ih]
    · have e1 : (a :: l).filter (fun x => (decide (x.Time ≥ 0)) && (decide (x.Time < t))) = [] := by
        rw [List.filter_eq_nil_iff]
        intro x hx
        have : a.Time ≤ x.Time := by
          rcases List.mem_cons.1 hx with rfl | hx
          · exact Int.le_refl _
          · exact p1 x hx
        simp; omega
      have e2 : (a :: l).filter (fun x => (decide (x.Time ≥ t)) && (decide (x.Time < 200001))) = a :: l := by
        rw [List.filter_eq_self]
        intro x hx
        have : a.Time ≤ x.Time := by
          rcases List.mem_cons.1 hx with rfl | hx
          · exact Int.le_refl _
          · exact p1 x hx
        have := (hv x hx).2
        simp; omega
      rw [e1, e2]; rfl

theorem equal_run {s : List Plot} : ∀ (xs : List Plot) (k : Nat), s.drop k = xs → slices_Equal_api_Plot_api_Plot_L1 s xs k = .inl ()
  | [], _, _ => rfl
  | x :: xs, k, hd => by
    have d1 : s.drop (k + 1) = xs := by rw [← List.drop_drop, hd]; rfl
    have d2 : s[k]? = some x := by
      have : (s.drop k)[0]? = some x := by rw [hd]; rfl
      rwa [List.getElem?_drop, Nat.add_zero] at this
    unfold slices_Equal_api_Plot_api_Plot_L1
    rw [d2, Option.getD_some, eqb_self, Bool.not_true, cond_false]
    exact equal_run xs (k + 1) d1
theorem equal_self (s : List Plot) : slices_Equal_api_Plot_api_Plot s s = true := by
  unfold slices_Equal_api_Plot_api_Plot
  rw [bne_self_eq_false, cond_false, equal_run s 0 List.drop_zero]
  rfl
theorem concat_two (a b : List Plot) : slices_Concat_api_Plot_api_Plot [a, b] = a ++ b := by
  unfold slices_Concat_api_Plot_api_Plot bindv
  simp only
  generalize slices_Concat_api_Plot_api_Plot_L1 [a, b] 0 0 = n
  have : slices_Grow_api_Plot_api_Plot n = [] := List.length_eq_zero_iff.1 (grow_len rfl)
  rw [this]
  rfl

theorem order_run {r : List Plot × Int} (h : r.1.Pairwise (fun a b => ltP a b = true)) (hl : r.1.length < 4611686018427387904) : ∀ (m k : Nat), k + m + 1 ≤ r.1.length → skywaykeep2_MosaicOrder_L1 r m k = .inl ()
  | 0, _, _ => rfl
  | m + 1, k, hk => by
    unfold skywaykeep2_MosaicOrder_L1
    simp only
    have e1 : (w64 ((1 + (k : Int)) - 1)).toNat = k := by rw [w64_id (by omega)]; omega
    have e2 : (1 + (k : Int)).toNat = k + 1 := by omega
    rw [e1, e2, List.getElem?_eq_getElem (by omega), List.getElem?_eq_getElem (by omega), Option.getD_some, Option.getD_some]
    have hp := (List.pairwise_iff_getElem.1 h) k (k + 1) (by omega) (by omega) (by omega)
    unfold ltP at hp
    have hp := of_decide_eq_true hp
    rw [show decide (mosaic_Compare r.1[k] r.1[k + 1] ≥ 0) = false from decide_eq_false (by omega), cond_false]
    exact order_run h hl m (k + 1) (by omega)

theorem fine_no {e e' : Int} (h : e ≠ 0) : skywaykeep2_fine [e, e'] = false := by
  have h1 : skywaykeep2_fine_1 e = true := by unfold skywaykeep2_fine_1; simpa using h
  unfold skywaykeep2_fine ContainsFunc_fine IndexFunc_fine IndexFunc_fine_L1
  simp only
  rw [h1]
  rfl

theorem first_merge : mosaic_Merge [[(⟨0, 2, 0, 0, 0, 0⟩ : Plot)], [(⟨0, 1, 0, 0, 0, 0⟩ : Plot)]] = ([(⟨0, 1, 0, 0, 0, 0⟩ : Plot), (⟨0, 2, 0, 0, 0, 0⟩ : Plot)], 0) := by kernel_rfl

theorem MosaicOrder_true (x0 x1 : List Plot) (x2 : Int) (_s0 : x0.length < 4611686018427387904) (_k0 : ∀ a ∈ x0, a.ok) (_s1 : x1.length < 4611686018427387904) (_k1 : ∀ a ∈ x1, a.ok) (_k2 : I64 x2) : skywaykeep2_MosaicOrder x0 x1 x2 = true := by
  unfold skywaykeep2_MosaicOrder
  rw [first_merge]
  simp only
  rw [show (((0 : Int) != 0) || (((([(⟨0, 1, 0, 0, 0, 0⟩ : Plot), (⟨0, 2, 0, 0, 0, 0⟩ : Plot)] : List Plot).length : Int) != 2))) = false from rfl, cond_false]
  rw [show ((([(⟨0, 1, 0, 0, 0, 0⟩ : Plot), (⟨0, 2, 0, 0, 0, 0⟩ : Plot)][0]?.getD Plot.zero).Time) != 1) = false from rfl, cond_false]
  rcases merge_two x0 x1 with ⟨e1, f0, f1⟩ | ⟨⟨e, e1, hz⟩, hn⟩
  · rcases merge_two x1 x0 with ⟨e2, _⟩ | ⟨_, hn⟩
    · have hx : isort ltP (x1 ++ x0) = isort ltP (x0 ++ x1) := isort_congr ordP (fun _ _ => triP) List.perm_append_comm
      rw [hx] at e2
      rw [e1, e2]
      have hs := cpt_strict _ (isort_up ordP (x0 ++ x1))
      have hsub := cpt_sub Plot.eqb (isort ltP (x0 ++ x1))
      have hmem : ∀ p ∈ cpt Plot.eqb (isort ltP (x0 ++ x1)), radar_CheckPlot p = 0 := fun p hp => by
        have h2 := (isort_perm _).mem_iff.1 (hsub.subset hp)
        rcases List.mem_append.1 h2 with h | h
        · exact feed_plots f0 p h
        · exact feed_plots f1 p h
      have hlen : (cpt Plot.eqb (isort ltP (x0 ++ x1))).length ≤ 512 := by
        have h1 := hsub.length_le
        rw [isort_len, List.length_append] at h1
        have := f0.1; have := f1.1; omega
      generalize cpt Plot.eqb (isort ltP (x0 ++ x1)) = x at hs hmem hlen
      simp only
      rw [show skywaykeep2_fine [0, 0] = true by kernel_rfl, Bool.not_true, cond_false]
      have hr : skywaykeep2_MosaicOrder_L1 (x, 0) (x.length - 1) 0 = .inl () := by
        rcases Nat.eq_zero_or_pos x.length with h | h
        · rw [h]; rfl
        · exact order_run (r := (x, 0)) hs (by simp only; omega) _ _ (by simp only; omega)
      rw [hr]
      simp only [Sum.elim_inl]
      rw [window_eq 0 x2 (by omega) hmem, window_eq x2 200001 (by omega) hmem]
      simp only
      rw [equal_self, cond_true, show skywaykeep2_fine [0, 0] = true by kernel_rfl, cond_true]
      cases h1 : decide (x2 < 0)
      · rw [cond_false]
        cases h2 : decide (x2 > 200000)
        · have h1 := of_decide_eq_false h1
          rw [cond_false, concat_two, two_parts x2 (by omega) x (hs.imp fun h => lt_time h) (fun p hp => time_of (hmem p hp)), equal_self]
        · rfl
      · rfl
    · exact absurd ⟨f1, f0⟩ hn
  · rcases merge_two x1 x0 with ⟨_, g1, g0⟩ | ⟨⟨e', e2, hz'⟩, _⟩
    · exact absurd ⟨g0, g1⟩ hn
    · rw [e1, e2]
      simp only
      rw [show skywaykeep2_fine [e, e'] = false from fine_no hz]
      rfl
end Go.Sky
