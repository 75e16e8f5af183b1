/- The law TrackerNumbers in plain Lean. Conditions: none that are used. -/
import Derived.Test.YtehhgjhileappaaTrl
import Derived.Test.YtehhgjhileappaaKf
namespace Go.Sky
open Go Go.Eng Go.Glue Go.Srt

/-- What the tracker is behind k scans. -/
structure Inv (t : Tracker) (last : Int) (k : Nat) : Prop where
  rules : t.rules = skywaykeep2_rules 1 2
  len : t.all.length ≤ 32
  vals : Vals t.all
  asc : (ids t.all).Pairwise (· < ·)
  low : ∀ i ∈ ids t.all, i < t.next
  n0 : 0 ≤ t.next
  n1 : t.next ≤ 32 * (k : Int)
  l0 : t.last ≤ last
  l1 : 0 ≤ last
  l2 : last ≤ 5 * (k : Int)

theorem numbers_L3 {r4 : List Track × Int × Tracker} (hp : (r4.1.map (fun t => t.ID)).Pairwise (· < ·)) (hl : r4.1.length ≤ 32) : ∀ (xs : List Track) (k : Nat), r4.1.drop k = xs → skywaykeep2_TrackerNumbers_L3 r4 xs k = .inl ()
  | [], _, _ => rfl
  | x :: xs, k, hd => by
    have d1 : r4.1.drop (k + 1) = xs := by rw [← List.drop_drop, hd]; rfl
    have d2 : r4.1[k]? = some x := by
      have : (r4.1.drop k)[0]? = some x := by rw [hd]; rfl
      rwa [List.getElem?_drop, Nat.add_zero] at this
    obtain ⟨hk, hx⟩ := List.getElem?_eq_some_iff.1 d2
    unfold skywaykeep2_TrackerNumbers_L3
    have h32 : decide ((r4.1.length : Int) > 32) = false := decide_eq_false (by omega)
    rw [h32]
    by_cases h0 : (k : Int) > 0
    · rw [decide_eq_true h0, cond_true]
      have hk1 : k - 1 < r4.1.length := by omega
      have := List.pairwise_iff_getElem.1 hp (k - 1) k (by rw [List.length_map]; exact hk1) (by rw [List.length_map]; exact hk) (by omega)
      rw [List.getElem_map, List.getElem_map, hx] at this
      rw [List.getElem?_eq_getElem hk1, Option.getD_some, decide_eq_false (by omega), Bool.or_false, cond_false]
      exact numbers_L3 hp hl xs (k + 1) d1
    · rw [decide_eq_false h0, cond_false, cond_false]
      exact numbers_L3 hp hl xs (k + 1) d1

theorem numbers_L1 : ∀ (xs : List (List Spot)) (k : Nat) (last : Int) (t : Tracker), k + xs.length ≤ 5 → Inv t last k → ∃ last' t', skywaykeep2_TrackerNumbers_L1 xs k last t = .inl (last', t') ∧ Inv t' last' 5
  | [], k, last, t, hk, h => ⟨last, t, rfl, { h with n1 := by have := h.n1; simp at hk; omega, l2 := by have := h.l2; simp at hk; omega }⟩
  | x :: xs, k, last, t, hk, h => by
    rw [List.length_cons] at hk
    unfold skywaykeep2_TrackerNumbers_L1 bindv
    dsimp only
    rw [w64_id (x := 5 * (k : Int)) (by omega)]
    generalize skywaykeep2_TrackerNumbers_L2 k (x.take (imin (x.length : Int) 8).toNat) 0 [] = x4
    generalize hr : tracker_Tracker_Scan t x4 (5 * (k : Int)) = r4
    rcases scan_cases hr with ⟨h1, h2, h3⟩ | ⟨h1, h2, h3, h4, h5, h6, h7⟩
    · rw [show (r4.2.1 != 0) = true by simpa using h1, cond_true, h2, h3]
      rw [show decide ((([] : List Track).length : Int) > 0) = false from rfl, cond_false]
      exact numbers_L1 xs (k + 1) last t (by omega) { h with n1 := by have := h.n1; omega, l2 := by have := h.l2; omega }
    · obtain ⟨g1, g2, g3, g4, g5⟩ := h7 h.n0 (by have := h.n1; omega) h.asc h.low h.len
      have g6 := h6 h.len
      have hp : (r4.1.map (fun t => t.ID)).Pairwise (· < ·) := by
        rw [h3, List.map_map]; exact g2
      rw [h1, show ((0 : Int) != 0) = false from rfl, cond_false, numbers_L3 hp (by rw [h3, List.length_map]; exact g6) r4.1 0 List.drop_zero]
      exact numbers_L1 xs (k + 1) (5 * (k : Int)) r4.2.2 (by omega)
        { rules := h4.trans h.rules, len := g6, vals := g1, asc := g2, low := g3, n0 := Int.le_trans h.n0 g4, n1 := by have := h.n1; omega, l0 := by omega, l1 := by omega, l2 := by omega }

/-- The predictions. -/
def ahead (time : Int) (l : List FilterTrack) : List FilterTrack := l.filterMap fun f => cond ((filter_Predict f time 2).2 == 0) (some (filter_Predict f time 2).1) none
theorem at_L1 {t : Tracker} (ha : t.rules.Accel = 2) (time : Int) : ∀ (xs : List followed) (k : Nat) (out : List FilterTrack), tracker_Tracker_At_L1 t time xs k out = out ++ ahead time (xs.map fun x => x.f)
  | [], _, out => by unfold tracker_Tracker_At_L1 ahead; simp
  | x :: xs, k, out => by
    unfold tracker_Tracker_At_L1
    dsimp only
    rw [ha, List.map_cons]
    have e : ahead time (x.f :: xs.map fun x => x.f) = cond ((filter_Predict x.f time 2).2 == 0) [(filter_Predict x.f time 2).1] [] ++ ahead time (xs.map fun x => x.f) := by
      unfold ahead
      rw [List.filterMap_cons]
      cases ((filter_Predict x.f time 2).2 == 0) <;> rfl
    rw [e]
    cases ((filter_Predict x.f time 2).2 == 0) with
    | true => rw [cond_true, cond_true, at_L1 ha time xs (k + 1), List.append_assoc]
    | false => rw [cond_false, cond_false, at_L1 ha time xs (k + 1), List.nil_append]
theorem ahead_cons (time : Int) (f : FilterTrack) (l : List FilterTrack) : ahead time (f :: l) = cond ((filter_Predict f time 2).2 == 0) [(filter_Predict f time 2).1] [] ++ ahead time l := by
  unfold ahead
  rw [List.filterMap_cons]
  cases ((filter_Predict f time 2).2 == 0) <;> rfl
theorem numbers_L4 {last r5 : Int} {r7 : List FilterTrack × Int} (hl : r7.1.length ≤ 32) : ∀ (xs : List FilterTrack) (k : Nat) (pre : List FilterTrack), (∀ f ∈ xs, f.In) → r7.1 = pre ++ ahead (w64 (last + r5)) xs →
    skywaykeep2_TrackerNumbers_L4 last r5 r7 xs k (pre.length : Int) = .inl (r7.1.length : Int)
  | [], _, pre, _, e => by
    unfold skywaykeep2_TrackerNumbers_L4
    rw [e]; unfold ahead; simp
  | x :: xs, k, pre, hv, e => by
    have hx := check_iff.2 (hv x (List.mem_cons_self ..))
    have hxs : ∀ f ∈ xs, f.In := fun f hf => hv f (List.mem_cons_of_mem _ hf)
    unfold skywaykeep2_TrackerNumbers_L4
    dsimp only
    rw [hx, show ((0 : Int) != 0) = false from rfl, cond_false, cond_false]
    rw [ahead_cons] at e
    cases hp : ((filter_Predict x (w64 (last + r5)) 2).2 == 0) with
    | true =>
      rw [hp, cond_true] at e
      have hlt : pre.length < r7.1.length := by rw [e]; simp
      have hg : r7.1[pre.length]? = some (filter_Predict x (w64 (last + r5)) 2).1 := by rw [e]; simp
      rw [cond_true, show ((pre.length : Int) == (r7.1.length : Int)) = false from beq_eq_false_iff_ne.2 (by omega), cond_false, Int.toNat_natCast, hg, Option.getD_some, FilterTrack.eqb_eq, decide_eq_true rfl, Bool.not_true, cond_false, w64_id (by omega)]
      have := numbers_L4 hl xs (k + 1) (pre ++ [(filter_Predict x (w64 (last + r5)) 2).1]) hxs (by rw [e, List.append_assoc])
      rw [List.length_append, List.length_singleton] at this
      rw [← this]; rfl
    | false =>
      rw [hp, cond_false, List.nil_append] at e
      rw [cond_false]
      exact numbers_L4 hl xs (k + 1) pre hxs e
theorem ahead_len (time : Int) (l : List FilterTrack) : (ahead time l).length ≤ l.length := List.length_filterMap_le ..

theorem TrackerNumbers_true (x0 : List (List Spot)) (x1 : Int) (_s0 : x0.length < 4611686018427387904) (_k0 : ∀ r ∈ x0, r.length < 4611686018427387904 ∧ ∀ a ∈ r, a.ok) (_k1 : I64 x1) : skywaykeep2_TrackerNumbers x0 x1 = true := by
  have hn : tracker_New (skywaykeep2_rules 1 2) = (⟨skywaykeep2_rules 1 2, [], 0, -1⟩, 0) := by kernel_rfl
  unfold skywaykeep2_TrackerNumbers
  dsimp only
  rw [tracks_true, Bool.not_true, cond_false, hn]
  dsimp only
  rw [show ((0 : Int) != 0) = false from rfl, cond_false]
  have hi : (imin (x0.length : Int) 5).toNat ≤ 5 := by unfold imin; split <;> omega
  obtain ⟨last, t, e, h⟩ := numbers_L1 (x0.take (imin (x0.length : Int) 5).toNat) 0 0 ⟨skywaykeep2_rules 1 2, [], 0, -1⟩ (by have := List.length_take_le (imin (x0.length : Int) 5).toNat x0; omega)
    { rules := rfl, len := Nat.zero_le _, vals := (fun _ h => nomatch h), asc := .nil, low := (fun _ h => nomatch h), n0 := by decide, n1 := by decide, l0 := by decide, l1 := by decide, l2 := by decide }
  rw [e]
  dsimp only [Sum.elim_inl]
  generalize hw : skywaykeep2_within x1 0 30 = r5
  have hwi := within_in hw (by decide) (by decide) (by decide)
  have hl := h.l1; have hl2 := h.l2; have hl0 := h.l0
  have ht : w64 (last + r5) = last + r5 := w64_id (by omega)
  have hat : tracker_Tracker_At t (w64 (last + r5)) = (ahead (w64 (last + r5)) (t.all.map fun x => x.f), 0) := by
    unfold tracker_Tracker_At bindv
    rw [ht, decide_eq_false (show ¬ last + r5 < 0 by omega), decide_eq_false (show ¬ last + r5 > 200000 by omega), Bool.or_false, cond_false, decide_eq_false (show ¬ last + r5 < t.last by omega), cond_false]
    dsimp only
    rw [at_L1 (by rw [h.rules]; rfl)]
    rfl
  rw [hat, tracks_eq]
  have hle := ahead_len (w64 (last + r5)) (t.all.map fun x => x.f)
  have h32 : (t.all.map fun x => x.f).length ≤ 32 := by rw [List.length_map]; exact h.len
  have hv : ∀ f ∈ (t.all.map fun x => x.f), f.In := fun f hf => by
    obtain ⟨x, hx, rfl⟩ := List.mem_map.1 hf
    exact h.vals x hx
  generalize (t.all.map fun x => x.f) = all at hle h32 hv
  dsimp only
  rw [show ((0 : Int) != 0) = false from rfl, Bool.false_or, decide_eq_false (by omega), cond_false]
  have := numbers_L4 (last := last) (r5 := r5) (r7 := (ahead (w64 (last + r5)) all, 0)) (by show (ahead _ all).length ≤ 32; omega) all 0 [] hv rfl
  rw [List.length_nil] at this
  rw [show ((0 : Nat) : Int) = 0 from rfl] at this
  rw [this]
  dsimp only [Sum.elim_inl]
  simp
end Go.Sky
