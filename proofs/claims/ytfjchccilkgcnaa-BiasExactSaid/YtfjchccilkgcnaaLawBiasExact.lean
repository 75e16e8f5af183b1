/- BiasExact is true of all plots, offsets and wrong plots. Conditions: the lists are shorter than 2^62. -/
import Derived.Test.YtfjchccilkgcnaaBc
import Derived.Test.YtfjchccilkgcnaaOk
namespace Go.Sky
open Go Go.Eng Go.Glue

theorem norm_eq {h : Int} (h1 : -1000000000000 ≤ h) (h2 : h ≤ 1000000000000) : angle_Norm h = h % 4096 := by
  unfold angle_Norm
  rcases Int.lt_or_le h 0 with h3 | h3
  · obtain ⟨m, rfl⟩ : ∃ m, h = -m := ⟨-h, by omega⟩
    rw [Int.neg_tmod, Int.tmod_eq_emod_of_nonneg (a := m) (by omega), w64_id (by omega), Int.tmod_eq_emod_of_nonneg (by omega)]
    omega
  · rw [Int.tmod_eq_emod_of_nonneg h3, w64_id (by omega), Int.tmod_eq_emod_of_nonneg (by omega)]
    omega

theorem plot_of {p : Plot} (h : radar_CheckPlot p = 0) : (0 ≤ p.Time ∧ p.Time ≤ 200000) ∧ (0 ≤ p.Range ∧ p.Range ≤ 2000000) ∧ 0 ≤ p.Azimuth ∧ p.Azimuth ≤ 4095 := by
  unfold radar_CheckPlot at h
  cases h1 : radar_out p.Radar 0 255 <;> cases h2 : radar_out p.Time 0 200000 <;> cases h3 : radar_out p.Range 0 2000000 <;> cases h4 : radar_out p.Azimuth 0 4095 <;> simp only [h1, h2, h3, h4, cond_true, cond_false] at h <;> try (exact absurd h (by decide))
  unfold radar_out at h2 h3 h4
  simp only [Bool.or_eq_false_iff, decide_eq_false_iff_not] at h2 h3 h4
  omega
theorem check_of {o : BiasOffset} (h : bias_Check o = 0) : (-10000 ≤ o.Range ∧ o.Range ≤ 10000) ∧ (-2047 ≤ o.Azimuth ∧ o.Azimuth ≤ 2048) ∧ -1000 ≤ o.Time ∧ o.Time ≤ 1000 := by
  unfold bias_Check at h
  cases hc : ((((((decide (o.Range < (-10000))) || (decide (o.Range > 10000))) || (decide (o.Azimuth < (-2047)))) || (decide (o.Azimuth > 2048))) || (decide (o.Time < (-1000)))) || (decide (o.Time > 1000)))
  · simp only [Bool.or_eq_false_iff, decide_eq_false_iff_not] at hc
    omega
  · rw [hc] at h; exact absurd h (by decide)

/-- What an offset that was applied shows of itself. -/
theorem apply_of {p : Plot} {o : BiasOffset} (h : (bias_Apply p o).2 = 0) : bias_Check o = 0 ∧ radar_CheckPlot p = 0 ∧ radar_CheckPlot (bias_Apply p o).1 = 0 ∧
    w64 ((bias_Apply p o).1.Range - p.Range) = o.Range ∧ angle_Diff p.Azimuth (bias_Apply p o).1.Azimuth = o.Azimuth ∧ w64 ((bias_Apply p o).1.Time - p.Time) = o.Time := by
  unfold bias_Apply bias_moved at *
  simp only at *
  cases h1 : (bias_Check o != 0)
  · rw [h1] at h
    rw [cond_false] at h ⊢
    have c0 : bias_Check o = 0 := by simpa using h1
    cases h2 : (radar_CheckPlot p != 0)
    · rw [h2] at h
      rw [cond_false] at h ⊢
      have p0 : radar_CheckPlot p = 0 := by simpa using h2
      have co := check_of c0
      have cp := plot_of p0
      have e1 : w64 (1 * o.Azimuth) = o.Azimuth := by rw [w64_id (by omega)]; omega
      have e2 : w64 (1 * o.Time) = o.Time := by rw [w64_id (by omega)]; omega
      have e3 : w64 (1 * o.Range) = o.Range := by rw [w64_id (by omega)]; omega
      rw [e1, e2, e3, w64_id (x := p.Azimuth + o.Azimuth) (by omega), w64_id (x := p.Time + o.Time) (by omega), w64_id (x := p.Range + o.Range) (by omega), norm_eq (by omega) (by omega)] at h ⊢
      generalize hq : (⟨p.Radar, p.Time + o.Time, p.Range + o.Range, (p.Azimuth + o.Azimuth) % 4096, p.Height, p.Code⟩ : Plot) = q at h ⊢
      cases h3 : (radar_CheckPlot q != 0)
      · rw [cond_false]
        have q0 : radar_CheckPlot q = 0 := by simpa using h3
        refine ⟨c0, p0, q0, ?_, ?_, ?_⟩
        · subst hq; simp only; rw [w64_id (by omega)]; omega
        · subst hq
          simp only
          unfold angle_Diff
          rw [w64_id (x := (p.Azimuth + o.Azimuth) % 4096 - p.Azimuth) (by omega), norm_eq (by omega) (by omega)]
          simp only
          rcases Int.lt_or_le o.Azimuth 0 with hn | hn
          · rw [show decide (((p.Azimuth + o.Azimuth) % 4096 - p.Azimuth) % 4096 > 2048) = true from decide_eq_true (by omega), cond_true, w64_id (by omega)]; omega
          · rw [show decide (((p.Azimuth + o.Azimuth) % 4096 - p.Azimuth) % 4096 > 2048) = false from decide_eq_false (by omega), cond_false]; omega
        · subst hq; simp only; rw [w64_id (by omega)]; omega
      · rw [h3, cond_true] at h; exact absurd h (by decide)
    · rw [h2, cond_true] at h; exact absurd h (by simpa using h2)
  · rw [h1, cond_true] at h; exact absurd h (by simpa using h1)

/-- How many of the seen plots are the true ones with the offset. -/
def fits (o : BiasOffset) : List Plot → List Plot → Nat
  | x :: xs, y :: ys => (if (bias_Apply x o).2 = 0 ∧ Plot.eqb (bias_Apply x o).1 y = true then 1 else 0) + fits o xs ys
  | _, _ => 0
theorem eqb_self (p : Plot) : Plot.eqb p p = true := by rw [Plot.eqb_eq, decide_eq_true rfl]
theorem eqb_of {p q : Plot} (h : Plot.eqb p q = true) : p = q := by rw [Plot.eqb_eq] at h; exact of_decide_eq_true h

theorem fits_count (o : BiasOffset) (f : Plot → Plot → Int) (v : Int) (hf : ∀ x, (bias_Apply x o).2 = 0 → f x (bias_Apply x o).1 = v) : ∀ (xs ys : List Plot), fits o xs ys ≤ (List.zipWith f xs ys).count v
  | [], _ => by simp [fits]
  | _ :: _, [] => by simp [fits]
  | x :: xs, y :: ys => by
    have ih := fits_count o f v hf xs ys
    rw [List.zipWith_cons_cons, List.count_cons]
    unfold fits
    split
    · rename_i h
      have := eqb_of h.2
      subst this
      rw [hf x h.1]
      simp; omega
    · omega

theorem estimate_L3 (seen : List Plot) : ∀ (xs : List Plot) (k : Nat) (ys : List Plot) (a b c : List Int), seen.drop k = ys → ys.length = xs.length → bias_Estimate_L3 seen xs k a b c =
    (a ++ List.zipWith (fun x y => w64 (y.Range - x.Range)) xs ys, b ++ List.zipWith (fun x y => angle_Diff x.Azimuth y.Azimuth) xs ys, c ++ List.zipWith (fun x y => w64 (y.Time - x.Time)) xs ys)
  | [], _, ys, a, b, c, _, _ => by unfold bias_Estimate_L3; simp
  | x :: xs, k, [], _, _, _, _, h => by simp at h
  | x :: xs, k, y :: ys, a, b, c, hd, hl => by
    have d1 : seen.drop (k + 1) = ys := by rw [← List.drop_drop, hd]; rfl
    have d2 : seen[k]? = some y := by
      have : (seen.drop k)[0]? = some y := by rw [hd]; rfl
      rwa [List.getElem?_drop, Nat.add_zero] at this
    unfold bias_Estimate_L3
    simp only
    rw [d2, Option.getD_some, estimate_L3 seen xs (k + 1) ys _ _ _ d1 (by simpa using hl)]
    simp only [List.zipWith_cons_cons, List.append_assoc, List.singleton_append]

theorem estimate_L2 : ∀ (xs : List Plot) (k : Nat), (∀ p ∈ xs, radar_CheckPlot p = 0) → bias_Estimate_L2 xs k = .inl ()
  | [], _, _ => rfl
  | x :: xs, k, h => by
    unfold bias_Estimate_L2
    simp only
    rw [h x (List.mem_cons_self ..), bne_self_eq_false, cond_false]
    exact estimate_L2 xs (k + 1) fun p hp => h p (List.mem_cons_of_mem _ hp)

theorem estimate_most {o : BiasOffset} {xs ys : List Plot} (hl : ys.length = xs.length) (h0 : 0 < xs.length) (h1 : xs.length ≤ 256) (hx : ∀ p ∈ xs, radar_CheckPlot p = 0) (hy : ∀ p ∈ ys, radar_CheckPlot p = 0)
    (ho : bias_Check o = 0) (hf : xs.length < 2 * fits o xs ys) : bias_Estimate xs ys = (o, 0) := by
  have zl : ∀ f : Plot → Plot → Int, (List.zipWith f xs ys).length = xs.length := fun f => by rw [List.length_zipWith, hl, Nat.min_self]
  unfold bias_Estimate
  rw [show (decide ((xs.length : Int) > 256) || decide ((ys.length : Int) > 256)) = false by rw [decide_eq_false (by omega), decide_eq_false (by omega)]; rfl, cond_false]
  have e1 : bias_Estimate_L1 xs ys ((2 : Int).toNat) 0 = .inl () := by
    show bias_Estimate_L1 xs ys 2 0 = _
    unfold bias_Estimate_L1
    rw [show decide (((0 : Nat) : Int) = 0) = true from rfl, cond_true, estimate_L2 xs 0 hx]
    simp only [Sum.elim_inl]
    unfold bias_Estimate_L1
    rw [show decide (((0 + 1 : Nat) : Int) = 0) = false from rfl, cond_false, estimate_L2 ys 0 hy]
    rfl
  rw [e1]
  simp only [Sum.elim_inl]
  rw [show ((xs.length : Int) != (ys.length : Int)) = false by rw [hl]; simp, cond_false, show ((ys.length : Int) == 0) = false by simp; intro h; rw [h] at hl; simp at hl; omega, cond_false]
  rw [estimate_L3 ys xs 0 ys [] [] [] List.drop_zero hl]
  unfold bindv
  simp only [List.nil_append]
  have m := fun (f : Plot → Plot → Int) (v : Int) (hv : ∀ x, (bias_Apply x o).2 = 0 → f x (bias_Apply x o).1 = v) => median_most (List.zipWith f xs ys) v (by have := fits_count o f v hv xs ys; rw [zl f]; omega)
  rw [m _ o.Range (fun x h => (apply_of h).2.2.2.1), m _ o.Azimuth (fun x h => (apply_of h).2.2.2.2.1), m _ o.Time (fun x h => (apply_of h).2.2.2.2.2)]
  rw [ho, bne_self_eq_false, cond_false]

theorem seen_run (truth : List Plot) (o : BiasOffset) (wrong : List Plot) (hn : truth.length ≤ 30) : ∀ (xs : List Plot) (k : Nat) (seen : List Plot) (bad : Int), 0 ≤ bad → bad + xs.length ≤ 100 →
    skywaykeep2_BiasExact_L2 truth o wrong xs k seen bad = .inr true ∨ ∃ ys d, skywaykeep2_BiasExact_L2 truth o wrong xs k seen bad = .inl (seen ++ ys) ∧ ys.length = xs.length ∧ (∀ p ∈ xs, (bias_Apply p o).2 = 0) ∧ (∀ p ∈ ys, radar_CheckPlot p = 0) ∧
      (xs.length : Int) ≤ fits o xs ys + d ∧ 0 ≤ d ∧ (d = 0 ∨ 2 * (bad + d) < truth.length)
  | [], _, seen, bad, _, _ => .inr ⟨[], 0, by unfold skywaykeep2_BiasExact_L2; simp, rfl, by simp, by simp, by simp, by omega, .inl rfl⟩
  | x :: xs, k, seen, bad, hb, hb2 => by
    simp only [List.length_cons] at hb2
    unfold skywaykeep2_BiasExact_L2
    simp only
    cases h1 : ((bias_Apply x o).2 != 0)
    · have a0 : (bias_Apply x o).2 = 0 := by simpa using h1
      rw [cond_false]
      have good : skywaykeep2_BiasExact_L2 truth o wrong xs (k + 1) (seen ++ [(bias_Apply x o).1]) bad = .inr true ∨ ∃ ys d, skywaykeep2_BiasExact_L2 truth o wrong xs (k + 1) (seen ++ [(bias_Apply x o).1]) bad = .inl (seen ++ ys) ∧ ys.length = (x :: xs).length ∧
          (∀ p ∈ x :: xs, (bias_Apply p o).2 = 0) ∧ (∀ p ∈ ys, radar_CheckPlot p = 0) ∧ ((x :: xs).length : Int) ≤ fits o (x :: xs) ys + d ∧ 0 ≤ d ∧ (d = 0 ∨ 2 * (bad + d) < truth.length) := by
        rcases seen_run truth o wrong hn xs (k + 1) (seen ++ [(bias_Apply x o).1]) bad hb (by omega) with h | ⟨ys, d, e, hl, hx, hy, hf, hd, hd2⟩
        · exact .inl h
        · refine .inr ⟨(bias_Apply x o).1 :: ys, d, by rw [e]; simp, by simp [hl], ?_, ?_, ?_, hd, hd2⟩
          · intro p hp
            rcases List.mem_cons.1 hp with rfl | hp
            · exact a0
            · exact hx p hp
          · intro p hp
            rcases List.mem_cons.1 hp with rfl | hp
            · exact (apply_of a0).2.2.1
            · exact hy p hp
          · unfold fits
            rw [if_pos ⟨a0, eqb_self _⟩, List.length_cons]; omega
      cases h2 : ((decide ((k : Int) < (wrong.length : Int))) && (decide ((w64 (2 * (w64 (bad + 1)))) < (truth.length : Int))))
      · exact good
      · rw [cond_true]
        cases h3 : (radar_CheckPlot (wrong[k]?.getD Plot.zero) == 0)
        · exact good
        · rw [cond_true]
          have w0 : radar_CheckPlot (wrong[k]?.getD Plot.zero) = 0 := by simpa using h3
          simp only [Bool.and_eq_true, decide_eq_true_eq] at h2
          have e1 : w64 (bad + 1) = bad + 1 := w64_id (by omega)
          have hlt := h2.2
          rw [e1, w64_id (x := 2 * (bad + 1)) (by omega)] at hlt
          rw [e1]
          rcases seen_run truth o wrong hn xs (k + 1) (seen ++ [wrong[k]?.getD Plot.zero]) (bad + 1) (by omega) (by omega) with h | ⟨ys, d, e, hl, hx, hy, hf, hd, hd2⟩
          · exact .inl h
          · refine .inr ⟨(wrong[k]?.getD Plot.zero) :: ys, d + 1, by rw [e]; simp, by simp [hl], ?_, ?_, ?_, by omega, .inr (by omega)⟩
            · intro p hp
              rcases List.mem_cons.1 hp with rfl | hp
              · exact a0
              · exact hx p hp
            · intro p hp
              rcases List.mem_cons.1 hp with rfl | hp
              · exact w0
              · exact hy p hp
            · unfold fits
              rw [List.length_cons]; omega
    · exact .inl rfl

theorem L1_eq (truth : List Plot) (o : BiasOffset) (wrong : List Plot) : ∀ (xs : List Plot) (k : Nat) (seen : List Plot) (bad : Int), skywaykeep2_BiasExact_L1 truth o wrong xs k seen bad = skywaykeep2_BiasExact_L2 (truth.take 30) o wrong xs k seen bad
  | [], _, _, _ => rfl
  | x :: xs, k, seen, bad => by
    unfold skywaykeep2_BiasExact_L1 skywaykeep2_BiasExact_L2
    simp only
    rw [L1_eq truth o wrong xs (k + 1), L1_eq truth o wrong xs (k + 1)]

theorem exact_run (truth : List Plot) (o : BiasOffset) (wrong : List Plot) (hn : truth.length ≤ 30) :
    Sum.elim (fun seen_4 =>
        let r7 := bias_Estimate truth seen_4
        cond (((truth.length : Int) == 0) && (r7.2 == 8)) (
          true) (
          cond (r7.2 == 0) (
            BiasOffset.eqb r7.1 o) (
            false))) (fun r => r) (skywaykeep2_BiasExact_L2 truth o wrong truth 0 ([] : List Plot) 0) = true := by
  rcases seen_run truth o wrong hn truth 0 [] 0 (by omega) (by omega) with h | ⟨ys, d, e, hl, hx, hy, hf, hd, hd2⟩
  · rw [h]; rfl
  · rw [e]
    simp only [Sum.elim_inl, List.nil_append]
    rcases Nat.eq_zero_or_pos truth.length with h0 | h0
    · have t0 : truth = [] := List.length_eq_zero_iff.1 h0
      have y0 : ys = [] := List.length_eq_zero_iff.1 (by omega)
      subst t0 y0
      rfl
    · obtain ⟨x, hxm⟩ := List.exists_mem_of_length_pos h0
      have ho := (apply_of (hx x hxm)).1
      rw [estimate_most hl h0 (by omega) (fun p hp => (apply_of (hx p hp)).2.1) hy ho (by omega)]
      rw [show ((truth.length : Int) == 0) = false by simp; intro h; rw [h] at h0; simp at h0, Bool.false_and, cond_false]
      rw [show ((0 : Int) == 0) = true from rfl, cond_true, BiasOffset.eqb_eq, decide_eq_true rfl]

theorem first_estimate : bias_Estimate ([(⟨0, 0, 5, 0, 0, 0⟩ : Plot)]) ([(⟨0, 0, 8, 0, 0, 0⟩ : Plot)]) = (⟨3, 0, 0⟩, 0) := by
  have h : bias_Apply ⟨0, 0, 5, 0, 0, 0⟩ ⟨3, 0, 0⟩ = (⟨0, 0, 8, 0, 0, 0⟩, 0) := by kernel_rfl
  refine estimate_most rfl (by decide) (by decide) ?_ ?_ (by kernel_rfl) ?_
  · intro p hp; rw [List.mem_singleton.1 hp]; kernel_rfl
  · intro p hp; rw [List.mem_singleton.1 hp]; kernel_rfl
  · unfold fits
    rw [h, if_pos ⟨rfl, eqb_self _⟩]
    decide

theorem BiasExact_true (x0 : List Plot) (x1 : BiasOffset) (x2 : List Plot) (_s0 : x0.length < 4611686018427387904) (_k0 : ∀ a ∈ x0, a.ok) (_k1 : x1.ok) (_s2 : x2.length < 4611686018427387904) (_k2 : ∀ a ∈ x2, a.ok) : skywaykeep2_BiasExact x0 x1 x2 = true := by
  unfold skywaykeep2_BiasExact
  rw [first_estimate]
  simp only
  rw [show (((0 : Int) != 0) || ((3 : Int) != 3)) = false from rfl, cond_false]
  cases h : decide ((x0.length : Int) > 30)
  · rw [cond_false]
    exact exact_run x0 x1 x2 (by have := of_decide_eq_false h; omega)
  · rw [cond_true, L1_eq]
    exact exact_run (x0.take 30) x1 x2 (by rw [List.length_take]; omega)
end Go.Sky
