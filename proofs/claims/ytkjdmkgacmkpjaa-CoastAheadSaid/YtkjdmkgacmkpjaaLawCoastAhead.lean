/- The law CoastAhead in plain Lean. Conditions: the arguments are 64-bit integers. -/
import Derived.Test.YtkjdmkgacmkpjaaWe
import Derived.Test.YtkjdmkgacmkpjaaPred
namespace Go.Sky
open Go Go.Eng Go.Glue

/-- The prediction some seconds later. -/
def later (f : FilterTrack) (acc : Int) (j : Nat) : FilterTrack × Int := filter_Predict f (f.Track.Time + (j : Int)) acc

theorem later_w {f : FilterTrack} (hf : f.In) (acc : Int) (j : Nat) (hj : j ≤ 700) : filter_Predict f (w64 (f.Track.Time + (j : Int))) acc = later f acc j := by
  have := hf.1.1
  unfold later; rw [w64_id (by omega)]
theorem later_radius {f : FilterTrack} {acc : Int} {j : Nat} (h : (later f acc j).2 = 0) : (later f acc j).1.Track.Radius = f.Track.Radius + (if j = 0 then 0 else grow f.Slack acc (j : Int)) := by
  unfold later at h ⊢
  rw [predict_radius h]
  by_cases e : j = 0
  · rw [if_pos (by omega), if_pos e]
  · rw [if_neg (by omega), if_neg e, show f.Track.Time + (j : Int) - f.Track.Time = (j : Int) by omega]
theorem later_mono {f : FilterTrack} {acc : Int} {i j : Nat} (h : i ≤ j) (hi : (later f acc i).2 = 0) (hj : (later f acc j).2 = 0) : (later f acc i).1.Track.Radius ≤ (later f acc j).1.Track.Radius := by
  rw [later_radius hi, later_radius hj]
  obtain ⟨g1, _, g3, g4⟩ := predict_ok hj
  have hs := g1.2.2.2.2.1
  have gm := grow_mono (slack := f.Slack) (acc := acc) (d := (i : Int)) (e := (j : Int)) hs.1 g3.1 (by omega) (by omega)
  have gi := grow_in (d := (j : Int)) hs g3 (by omega)
  by_cases e : i = 0
  · rw [if_pos e]; split <;> omega
  · rw [if_neg e, if_neg (by omega)]; omega

theorem ahead_L21 : coast_Ahead_L2 = coast_Ahead_L1 := by
  funext f acc m
  induction m with
  | zero => rfl
  | succ m ih =>
    funext k a
    unfold coast_Ahead_L2 coast_Ahead_L1
    rw [ih]
/-- The list of Ahead. -/
theorem ahead_L1 {f : FilterTrack} (hf : f.In) (acc : Int) : ∀ (m k : Nat) (a : List FilterTrack), m + k ≤ 300 →
    ∃ l : List FilterTrack, coast_Ahead_L1 f acc m k a = a ++ l ∧ l.length ≤ m ∧ ∀ (i : Nat) (x : FilterTrack), l[i]? = some x → later f acc (k + 1 + i) = (x, 0)
  | 0, k, a, _ => ⟨[], by simp [coast_Ahead_L1], Nat.le_refl _, by simp⟩
  | m + 1, k, a, hk => by
    unfold coast_Ahead_L1
    rw [show f.Track.Time + (1 + (k : Int)) = f.Track.Time + ((k + 1 : Nat) : Int) by omega, later_w hf acc (k + 1) (by omega)]
    by_cases h : (later f acc (k + 1)).2 = 0
    · have e : ((later f acc (k + 1)).2 != 0) = false := by simp [h]
      simp only [e, cond_false]
      obtain ⟨l, h1, h2, h3⟩ := ahead_L1 hf acc m (k + 1) (a ++ [(later f acc (k + 1)).1]) (by omega)
      refine ⟨(later f acc (k + 1)).1 :: l, by rw [h1, List.append_assoc]; rfl, by rw [List.length_cons]; omega, ?_⟩
      intro i x hx
      rcases i with _ | i
      · simp at hx
        exact Prod.ext hx h
      · have := h3 i x (by simpa using hx)
        rw [show k + 1 + (i + 1) = k + 1 + 1 + i by omega]; exact this
    · have e : ((later f acc (k + 1)).2 != 0) = true := by simpa using h
      simp only [e, cond_true]
      exact ⟨[], by simp, Nat.zero_le _, by simp⟩
theorem ahead_eq (f : FilterTrack) (sec acc : Int) : (coast_Ahead f sec acc).2 ≠ 0 ∧ (coast_Ahead f sec acc).1 = [] ∨
    f.In ∧ (coast_Ahead f sec acc).2 = 0 ∧ (coast_Ahead f sec acc).1.length ≤ sec.toNat ∧ sec.toNat ≤ 256 ∧ ∀ (i : Nat) (x : FilterTrack), (coast_Ahead f sec acc).1[i]? = some x → later f acc (i + 1) = (x, 0) := by
  unfold coast_Ahead
  rw [ahead_L21]
  by_cases h1 : filter_Check f = 0
  · have e : (filter_Check f != 0) = false := by simp [h1]
    simp only [e, cond_false]
    have hf := check_iff.1 h1
    by_cases h2 : 0 ≤ sec ∧ sec ≤ 256
    · have e2 : ((decide (sec < 0)) || (decide (sec > 256))) = false := by simp; omega
      simp only [e2, cond_false]
      obtain ⟨l, g1, g2, g3⟩ := ahead_L1 hf acc sec.toNat 0 [] (by omega)
      rw [g1]
      simp only [List.nil_append, bindv]
      have fin : f.In ∧ ((l, (0 : Int)) : List FilterTrack × Int).2 = 0 ∧ ((l, (0 : Int)) : List FilterTrack × Int).1.length ≤ sec.toNat ∧ sec.toNat ≤ 256 ∧ ∀ (i : Nat) (x : FilterTrack), ((l, (0 : Int)) : List FilterTrack × Int).1[i]? = some x → later f acc (i + 1) = (x, 0) :=
        ⟨hf, rfl, g2, by omega, fun i x hx => by have := g3 i x hx; rw [show i + 1 = 0 + 1 + i by omega]; exact this⟩
      cases decide (sec > 0)
      · exact .inr fin
      · cases decide (acc < 0)
        · cases decide (acc > 20)
          · exact .inr fin
          · exact .inl ⟨show (4 : Int) ≠ 0 by decide, rfl⟩
        · exact .inl ⟨show (4 : Int) ≠ 0 by decide, rfl⟩
    · have e2 : ((decide (sec < 0)) || (decide (sec > 256))) = true := by simp; omega
      simp only [e2, cond_true]
      exact .inl ⟨by decide, trivial⟩
  · have e : (filter_Check f != 0) = true := by simpa using h1
    simp only [e, cond_true]
    exact .inl ⟨h1, trivial⟩

theorem lost_L1 {f : FilterTrack} (hf : f.In) (rad acc : Int) : ∀ (m k : Nat), m + k ≤ 601 →
    ((∃ c, c ≠ 0 ∧ Sum.elim (fun _ => ((0 : Int), (8 : Int))) (fun r => r) (coast_Lost_L1 f rad acc m k) = (0, c)) ∨
      ∃ n : Nat, k ≤ n ∧ Sum.elim (fun _ => ((0 : Int), (8 : Int))) (fun r => r) (coast_Lost_L1 f rad acc m k) = ((n : Int), 0) ∧ (later f acc n).2 = 0 ∧ (later f acc n).1.Track.Radius > rad ∧
        ∀ i : Nat, k ≤ i → i < n → (later f acc i).2 = 0 ∧ (later f acc i).1.Track.Radius ≤ rad)
  | 0, k, _ => .inl ⟨8, by decide, rfl⟩
  | m + 1, k, hk => by
    unfold coast_Lost_L1
    rw [later_w hf acc k (by omega)]
    by_cases h : (later f acc k).2 = 0
    · have e : ((later f acc k).2 != 0) = false := by simp [h]
      simp only [e, cond_false]
      by_cases h2 : (later f acc k).1.Track.Radius > rad
      · have e2 : decide ((later f acc k).1.Track.Radius > rad) = true := by simpa using h2
        simp only [e2, cond_true]
        exact .inr ⟨k, Nat.le_refl _, rfl, h, h2, fun i h1 h2 => by omega⟩
      · have e2 : decide ((later f acc k).1.Track.Radius > rad) = false := by simpa using h2
        simp only [e2, cond_false]
        rcases lost_L1 hf rad acc m (k + 1) (by omega) with g | ⟨n, g1, g2, g3, g4, g5⟩
        · exact .inl g
        · refine .inr ⟨n, by omega, g2, g3, g4, fun i hi hn => ?_⟩
          by_cases hik : i = k
          · subst hik; exact ⟨h, by omega⟩
          · exact g5 i (by omega) hn
    · have e : ((later f acc k).2 != 0) = true := by simpa using h
      simp only [e, cond_true]
      exact .inl ⟨8, by decide, rfl⟩
theorem lost_eq (f : FilterTrack) (rad acc : Int) : (coast_Lost f rad acc).2 ≠ 0 ∨ f.In ∧ ∃ n : Nat, coast_Lost f rad acc = ((n : Int), 0) ∧ (later f acc n).2 = 0 ∧ (later f acc n).1.Track.Radius > rad ∧ ∀ i : Nat, i < n → (later f acc i).2 = 0 ∧ (later f acc i).1.Track.Radius ≤ rad := by
  unfold coast_Lost
  by_cases h1 : filter_Check f = 0
  · have e : (filter_Check f != 0) = false := by simp [h1]
    simp only [e, cond_false]
    cases ((((decide (rad < 0)) || (decide (rad > 4000000))) || (decide (acc < 0))) || (decide (acc > 20)))
    · simp only [cond_false]
      rcases lost_L1 (check_iff.1 h1) rad acc ((601 : Int).toNat) 0 (by decide) with ⟨c, hc, g⟩ | ⟨n, _, g2, g3, g4, g5⟩
      · rw [g]; exact .inl hc
      · exact .inr ⟨check_iff.1 h1, n, g2, g3, g4, fun i hi => g5 i (Nat.zero_le _) hi⟩
    · exact .inl (by show (4 : Int) ≠ 0; decide)
  · have e : (filter_Check f != 0) = true := by simpa using h1
    simp only [e, cond_true]
    exact .inl h1

theorem rounds {f : FilterTrack} (hf : f.In) (rad acc : Int) (r3 : List FilterTrack × Int) (h3 : ∀ (i : Nat) (x : FilterTrack), r3.1[i]? = some x → later f acc (i + 1) = (x, 0)) (hlen : r3.1.length ≤ 300) :
    ∀ (xs : List FilterTrack) (k : Nat), xs = r3.1.drop k → skywaykeep2_CoastAhead_L1 f rad acc r3 (coast_Lost f rad acc) xs k = .inl ()
  | [], _, _ => rfl
  | x :: xs, k, hx => by
    have hk : r3.1[k]? = some x := by
      have := congrArg (fun z => z[0]?) hx
      simpa using this.symm
    have hlt : k < r3.1.length := by
      rcases Nat.lt_or_ge k r3.1.length with g | g
      · exact g
      · rw [List.getElem?_eq_none g] at hk; cases hk
    have hxs : xs = r3.1.drop (k + 1) := by
      have := congrArg (List.drop 1) hx
      simpa [List.drop_drop, Nat.add_comm] using this
    have ih := rounds hf rad acc r3 h3 hlen xs (k + 1) hxs
    have hl := h3 k x hk
    have hT := hf.1.1
    unfold skywaykeep2_CoastAhead_L1
    have e0 : filter_Predict f (w64 (w64 (f.Track.Time + (k : Int)) + 1)) acc = (x, 0) := by
      rw [w64_id (x := f.Track.Time + (k : Int)) (by omega), w64_id (by omega), show f.Track.Time + (k : Int) + 1 = f.Track.Time + ((k + 1 : Nat) : Int) by omega]
      exact hl
    have e1 : ((0 : Int) != 0) = false := rfl
    have e2 : (!(FilterTrack.eqb x x)) = false := by simp [FilterTrack.eqb_eq]
    simp only [e0, e1, e2, cond_false, ih]
    have e3 : (((coast_Lost f rad acc).2 == 0) && (!((decide (x.Track.Radius > rad)) == (decide ((w64 ((k : Int) + 1)) ≥ (coast_Lost f rad acc).1))))) = false := by
      rcases lost_eq f rad acc with h | ⟨_, n, h, g1, g2, g3⟩
      · have : ((coast_Lost f rad acc).2 == 0) = false := by simpa using h
        rw [this]; rfl
      · rw [h, w64_id (by omega)]
        have hx1 : (later f acc (k + 1)).1 = x := by rw [hl]
        have hx2 : (later f acc (k + 1)).2 = 0 := by rw [hl]
        by_cases hn : n ≤ k + 1
        · have hm := later_mono hn g1 hx2
          rw [hx1] at hm
          have d1 : decide (x.Track.Radius > rad) = true := by simp; omega
          have d2 : decide (((k : Int) + 1) ≥ (n : Int)) = true := by simp; omega
          simp only [d1, d2]; rfl
        · have hm := (g3 (k + 1) (by omega)).2
          rw [hx1] at hm
          have d1 : decide (x.Track.Radius > rad) = false := by simp; omega
          have d2 : decide (((k : Int) + 1) ≥ (n : Int)) = false := by simp; omega
          simp only [d1, d2]; rfl
    have e4 : decide ((k : Int) > 0) = true → decide (x.Track.Radius < (((r3.1[(k - 1)]?.getD FilterTrack.zero).Track).Radius)) = false := by
      intro hp
      have hp' : (k : Int) > 0 := of_decide_eq_true hp
      have hy : r3.1[k - 1]? = some r3.1[k - 1] := List.getElem?_eq_getElem (by omega)
      have hly := h3 (k - 1) _ hy
      rw [hy]
      have hm := later_mono (f := f) (acc := acc) (i := k - 1 + 1) (j := k + 1) (by omega) (by rw [hly]) (by rw [hl])
      rw [hly, hl] at hm
      simp only [Option.getD_some]
      simp; omega
    cases hp : decide ((k : Int) > 0)
    · simp only [cond_false, e3]
    · simp only [cond_true, e4 hp, cond_false, e3]

theorem CoastAhead_true (x0 : FilterTrack) (x1 x2 x3 : Int) (_k0 : x0.ok) (_k1 : I64 x1) (_k2 : I64 x2) (_k3 : I64 x3) : skywaykeep2_CoastAhead x0 x1 x2 x3 = true := by
  unfold skywaykeep2_CoastAhead
  have e1 : coast_Ahead FilterTrack.zero 2 0 = ([⟨⟨0, 0, 1, ⟨0, 0⟩, ⟨0, 0⟩, 0, 0, 2, 0, 0, 0⟩, 0, ⟨0, ⟨0, 0⟩, 0, 0, 0⟩⟩, ⟨⟨0, 0, 2, ⟨0, 0⟩, ⟨0, 0⟩, 0, 0, 2, 0, 0, 0⟩, 0, ⟨0, ⟨0, 0⟩, 0, 0, 0⟩⟩], 0) := by kernel_rfl
  rw [e1]
  have z1 : (((0 : Int) != 0) || ((([⟨⟨0, 0, 1, ⟨0, 0⟩, ⟨0, 0⟩, 0, 0, 2, 0, 0, 0⟩, 0, ⟨0, ⟨0, 0⟩, 0, 0, 0⟩⟩, ⟨⟨0, 0, 2, ⟨0, 0⟩, ⟨0, 0⟩, 0, 0, 2, 0, 0, 0⟩, 0, ⟨0, ⟨0, 0⟩, 0, 0, 0⟩⟩] : List FilterTrack).length : Int) != 2)) = false := rfl
  simp only [z1, cond_false]
  have z2 : ((((([⟨⟨0, 0, 1, ⟨0, 0⟩, ⟨0, 0⟩, 0, 0, 2, 0, 0, 0⟩, 0, ⟨0, ⟨0, 0⟩, 0, 0, 0⟩⟩, ⟨⟨0, 0, 2, ⟨0, 0⟩, ⟨0, 0⟩, 0, 0, 2, 0, 0, 0⟩, 0, ⟨0, ⟨0, 0⟩, 0, 0, 0⟩⟩] : List FilterTrack)[1]?).getD FilterTrack.zero).Track).Radius != 2) = false := rfl
  simp only [z2, cond_false]
  obtain ⟨sec, hsec⟩ : ∃ n, n = skywaykeep2_within x1 0 60 := ⟨_, rfl⟩
  have hb := within_in hsec.symm (by omega) (by omega) (by omega)
  rw [← hsec]
  rcases ahead_eq x0 sec x3 with ⟨h1, h2⟩ | ⟨hf, h1, h2, h3, h4⟩
  · have : ((coast_Ahead x0 sec x3).2 != 0) = true := by simpa using h1
    simp only [this, cond_true, h2]
    rfl
  · have e2 : ((coast_Ahead x0 sec x3).2 != 0) = false := by simp [h1]
    have e3 := rounds hf x2 x3 (coast_Ahead x0 sec x3) h4 (by omega) (coast_Ahead x0 sec x3).1 0 rfl
    have e4 : decide (((coast_Ahead x0 sec x3).1.length : Int) ≤ sec) = true := by simp; omega
    simp only [e2, cond_false, e3, Sum.elim_inl, e4, cond_true]
    rcases lost_eq x0 x2 x3 with h | ⟨_, n, h, g1, g2, g3⟩
    · have : ((coast_Lost x0 x2 x3).2 != 0) = true := by simpa using h
      rw [this]; rfl
    · rw [h]
      have e5 : ((0 : Int) != 0) = false := rfl
      simp only [e5, cond_false]
      rcases n with _ | n
      · have hr := later_radius g1
        rw [if_pos rfl] at hr
        have d1 : decide (x0.Track.Radius > x2) = true := by simp; omega
        rw [d1]; rfl
      · have g := g3 0 (by omega)
        have hr := later_radius g.1
        rw [if_pos rfl] at hr
        have d1 : decide (x0.Track.Radius > x2) = false := by simp; omega
        have d2 : (((n + 1 : Nat) : Int) == 0) = false := by simp; omega
        rw [d1, d2]; rfl
end Go.Sky
