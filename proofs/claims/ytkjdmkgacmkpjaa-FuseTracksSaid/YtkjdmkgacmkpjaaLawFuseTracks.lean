/- The law FuseTracks in plain Lean. Conditions: none that are used. -/
import Derived.Test.YtkjdmkgacmkpjaaTc
namespace Go.Sky
open Go Go.Eng Go.Glue

theorem compare_int (x y : Int) : cmp_Compare_int x y = if x < y then -1 else if x > y then 1 else 0 := by
  unfold cmp_Compare_int cmp_isNaN_int
  simp only [bne_self_eq_false, cond_false]
  by_cases h : x < y
  · rw [decide_eq_true h, cond_true, if_pos h]
  · rw [decide_eq_false h, cond_false, if_neg h]
    by_cases h2 : x > y
    · rw [decide_eq_true h2, cond_true, if_pos h2]
    · rw [decide_eq_false h2, cond_false, if_neg h2]

/-- Lexicographic order of four numbers. -/
def lexlt (a b c d a' b' c' d' : Int) : Prop := a < a' ∨ a = a' ∧ (b < b' ∨ b = b' ∧ (c < c' ∨ c = c' ∧ d < d'))
theorem or_four (a b c d a' b' c' d' : Int) : decide (cmp_Or_int [cmp_Compare_int a a', cmp_Compare_int b b', cmp_Compare_int c c', cmp_Compare_int d d'] < 0) = true ↔ lexlt a b c d a' b' c' d' := by
  rw [decide_eq_true_iff]
  unfold cmp_Or_int lexlt
  simp only [cmp_Or_int_L1, compare_int]
  by_cases h1 : a < a'
  · rw [if_pos h1]; simp; omega
  · rw [if_neg h1]
    by_cases h2 : a > a'
    · rw [if_pos h2]; simp; omega
    · rw [if_neg h2]
      by_cases h3 : b < b'
      · rw [if_pos h3]; simp; omega
      · rw [if_neg h3]
        by_cases h4 : b > b'
        · rw [if_pos h4]; simp; omega
        · rw [if_neg h4]
          by_cases h5 : c < c'
          · rw [if_pos h5]; simp; omega
          · rw [if_neg h5]
            by_cases h6 : c > c'
            · rw [if_pos h6]; simp; omega
            · rw [if_neg h6]
              by_cases h7 : d < d'
              · rw [if_pos h7]; simp; omega
              · rw [if_neg h7]
                by_cases h8 : d > d'
                · rw [if_pos h8]; simp; omega
                · rw [if_neg h8]; simp; omega

def tk (l : List FilterTrack) (i : Nat) : Track := (l[i]?.getD FilterTrack.zero).Track
/-- The track i is preferred to k. -/
def Bet (l : List FilterTrack) (i k : Nat) : Prop := lexlt (tk l i).Radius (tk l k).Hits (tk l i).ID (i : Int) (tk l k).Radius (tk l i).Hits (tk l k).ID (k : Int)
theorem better_iff (l : List FilterTrack) (i k : Nat) : fuse_Tracks_1 (i : Int) (k : Int) l = true ↔ Bet l i k := by
  unfold fuse_Tracks_1 Bet
  simp only [Int.toNat_natCast]
  exact or_four ..
theorem Bet.irr {l : List FilterTrack} {i : Nat} (h : Bet l i i) : False := by unfold Bet lexlt at h; omega
theorem Bet.total {l : List FilterTrack} {i k : Nat} (h : i ≠ k) : Bet l i k ∨ Bet l k i := by unfold Bet lexlt; omega
theorem Bet.trans {l : List FilterTrack} {i j k : Nat} (h1 : Bet l i j) (h2 : Bet l j k) : Bet l i k := by unfold Bet lexlt at *; omega
theorem best_at (l : List FilterTrack) : ∀ n, 0 < n → ∃ i, i < n ∧ ∀ j, j < n → ¬ Bet l j i
  | 1, _ => ⟨0, by omega, fun j hj h => by obtain rfl : j = 0 := by omega
                                           exact h.irr⟩
  | n + 2, _ => by
    obtain ⟨i, hi, hb⟩ := best_at l (n + 1) (by omega)
    by_cases h : Bet l (n + 1) i
    · refine ⟨n + 1, by omega, fun j hj hj2 => ?_⟩
      by_cases e : j = n + 1
      · subst e; exact hj2.irr
      · exact hb j (by omega) (hj2.trans h)
    · refine ⟨i, by omega, fun j hj hj2 => ?_⟩
      by_cases e : j = n + 1
      · subst e; exact h hj2
      · exact hb j (by omega) hj2

theorem imax_swap (x y : Int) : imax x y = imax y x := imax_comm x y
theorem check_in {f : FilterTrack} (h : filter_Check f = 0) : f.Track.In := by
  unfold filter_Check at h
  simp only at h
  rcases checkTrack_eq f.Track with ⟨_, h2⟩ | ⟨h1, _⟩
  · exact h2
  · rw [h1, show ((4 : Int) != 0) = true from rfl, cond_true] at h
    exact absurd h (by decide)
theorem same_comm {a b : FilterTrack} {band : Int} (ha : filter_Check a = 0) (hb : filter_Check b = 0) : fuse_same a b band = fuse_same b a band := by
  obtain ⟨_, ap, _, _, ar⟩ := check_in ha
  obtain ⟨_, bp, _, _, br⟩ := check_in hb
  have w1 : plane_Within a.Track.At b.Track.At (w64 (a.Track.Radius + b.Track.Radius)) = plane_Within b.Track.At a.Track.At (w64 (b.Track.Radius + a.Track.Radius)) := by
    rw [w64_id (x := a.Track.Radius + b.Track.Radius) (by omega), w64_id (x := b.Track.Radius + a.Track.Radius) (by omega), within_iff ap bp (by omega), within_iff bp ap (by omega), Int.add_comm b.Track.Radius,
      show (b.Track.At.X - a.Track.At.X) * (b.Track.At.X - a.Track.At.X) = (a.Track.At.X - b.Track.At.X) * (a.Track.At.X - b.Track.At.X) by grind,
      show (b.Track.At.Y - a.Track.At.Y) * (b.Track.At.Y - a.Track.At.Y) = (a.Track.At.Y - b.Track.At.Y) * (a.Track.At.Y - b.Track.At.Y) by grind]
  unfold fuse_same fuse_near
  simp only [w1, imax_swap (w64 (b.Track.Height - a.Track.Height))]
  rw [show (b.Track.Time == a.Track.Time) = (a.Track.Time == b.Track.Time) by rw [Bool.eq_iff_iff]; simp; exact ⟨Eq.symm, Eq.symm⟩, show (b.Track.Code == a.Track.Code) = (a.Track.Code == b.Track.Code) by rw [Bool.eq_iff_iff]; simp; exact ⟨Eq.symm, Eq.symm⟩]
  cases (a.Track.Code == -1) <;> cases (b.Track.Code == -1) <;> rfl

/-- The track x at k goes because of y at i. -/
def Bad (l : List FilterTrack) (band : Int) (k : Nat) (x : FilterTrack) (i : Nat) (y : FilterTrack) : Prop := i ≠ k ∧ fuse_same x y band = true ∧ x.Track.Code = y.Track.Code ∧ x.Track.Code ≠ -1 ∧ Bet l i k

theorem keep_run {l : List FilterTrack} {band : Int} {k : Nat} {x : FilterTrack} : ∀ (xs : List FilterTrack) (j : Nat) (keep : Bool), fuse_Tracks_L3 l band k x xs j keep = true ↔ keep = true ∧ ∀ (i : Nat) (y : FilterTrack), xs[i]? = some y → ¬ Bad l band k x (j + i) y
  | [], j, keep => by
    unfold fuse_Tracks_L3
    exact ⟨fun h => ⟨h, fun i y hy => by cases i <;> cases hy⟩, fun h => h.1⟩
  | y :: xs, j, keep => by
    have tail : ∀ q : Bool, (∀ (i : Nat) (z : FilterTrack), (y :: xs)[i]? = some z → ¬ Bad l band k x (j + i) z) ↔ ¬ Bad l band k x j y ∧ ∀ (i : Nat) (z : FilterTrack), xs[i]? = some z → ¬ Bad l band k x (j + 1 + i) z := fun _ =>
      ⟨fun h => ⟨h 0 y rfl, fun i z hz => by have := h (i + 1) z (by simpa using hz); rwa [show j + (i + 1) = j + 1 + i by omega] at this⟩, fun h i z hz => by
        cases i with
        | zero => injection hz with hz; subst hz; exact h.1
        | succ i => have := h.2 i z (by simpa using hz); rwa [show j + (i + 1) = j + 1 + i by omega]⟩
    rw [tail true]
    unfold fuse_Tracks_L3
    simp only
    have no : ¬ Bad l band k x j y → (fuse_Tracks_L3 l band k x xs (j + 1) keep = true ↔ keep = true ∧ ¬ Bad l band k x j y ∧ ∀ (i : Nat) (z : FilterTrack), xs[i]? = some z → ¬ Bad l band k x (j + 1 + i) z) := fun hb => by
      rw [keep_run xs (j + 1) keep]
      exact ⟨fun h => ⟨h.1, hb, h.2⟩, fun h => ⟨h.1, h.2.2⟩⟩
    cases h1 : ((j : Int) != (k : Int))
    · rw [cond_false]
      exact no fun hb => hb.1 (by have : (j : Int) = k := by simpa using h1
                                  omega)
    · have h1' : j ≠ k := fun e => by subst e; simp at h1
      rw [cond_true]
      cases h2 : ((fuse_same x y band && (x.Track.Code == y.Track.Code)) && (x.Track.Code != (-1)))
      · rw [cond_false]
        exact no fun hb => by
          rw [hb.2.1, show (x.Track.Code == y.Track.Code) = true by simpa using hb.2.2.1, show (x.Track.Code != (-1)) = true by simpa using hb.2.2.2.1] at h2
          cases h2
      · rw [cond_true]
        simp only [Bool.and_eq_true, beq_iff_eq, bne_iff_ne] at h2
        cases h3 : fuse_Tracks_1 (j : Int) (k : Int) l
        · rw [cond_false]
          exact no fun hb => by rw [(better_iff l j k).2 hb.2.2.2.2] at h3; cases h3
        · rw [cond_true, keep_run xs (j + 1) false]
          exact ⟨(fun h => by cases h.1), fun h => absurd ⟨h1', h2.1.1, h2.1.2, h2.2, (better_iff l j k).1 h3⟩ h.2.1⟩

def Kept (l : List FilterTrack) (band : Int) (k : Nat) (x : FilterTrack) : Prop := ∀ (i : Nat) (y : FilterTrack), l[i]? = some y → ¬ Bad l band k x i y

/-- The same track, as the law says it. -/
def Twin (band : Int) (a b : FilterTrack) : Prop := fuse_same a b band = true ∧ 0 ≤ a.Track.Code ∧ a.Track.Code = b.Track.Code

theorem kept_apart {l : List FilterTrack} {band : Int} {p q : Nat} {x y : FilterTrack} (hc : ∀ f ∈ l, filter_Check f = 0) (hp : l[p]? = some x) (hq : l[q]? = some y) (hne : q ≠ p) (kx : Kept l band p x) (ky : Kept l band q y) : ¬ Twin band x y := by
  rintro ⟨h1, h2, h3⟩
  rcases Bet.total (l := l) hne with h | h
  · exact kx q y hq ⟨hne, h1, h3, by omega, h⟩
  · refine ky p x hp ⟨fun e => hne e.symm, ?_, h3.symm, by omega, h⟩
    rw [same_comm (hc y (List.mem_of_getElem? hq)) (hc x (List.mem_of_getElem? hp))]
    exact h1

structure Sel (l : List FilterTrack) (band : Int) (k : Nat) (out : List FilterTrack) : Prop where
  pw : out.Pairwise fun b a => ¬ Twin band a b
  of : ∀ a ∈ out, ∃ p, p < k ∧ l[p]? = some a ∧ Kept l band p a
  all : ∀ p a, p < k → l[p]? = some a → Kept l band p a → a ∈ out

theorem sel_run {l : List FilterTrack} {band : Int} (hc : ∀ f ∈ l, filter_Check f = 0) : ∀ (xs : List FilterTrack) (k : Nat) (out : List FilterTrack), l.drop k = xs → Sel l band k out → Sel l band l.length (fuse_Tracks_L2 l band xs k out)
  | [], k, out, hd, h => by
    have := List.drop_eq_nil_iff.1 hd
    unfold fuse_Tracks_L2
    exact ⟨h.pw, fun a ha => by
      obtain ⟨p, _, h2, h3⟩ := h.of a ha
      exact ⟨p, (List.getElem?_eq_some_iff.1 h2).1, h2, h3⟩, fun p a hp => h.all p a (by omega)⟩
  | x :: xs, k, out, hd, h => by
    have d1 : l.drop (k + 1) = xs := by rw [← List.drop_drop, hd]; rfl
    have d2 : l[k]? = some x := by
      have : (l.drop k)[0]? = some x := by rw [hd]; rfl
      rwa [List.getElem?_drop, Nat.add_zero] at this
    unfold fuse_Tracks_L2 bindv
    simp only
    have kr := keep_run (l := l) (band := band) (k := k) (x := x) l 0 true
    simp only [Nat.zero_add, true_and] at kr
    cases hk : fuse_Tracks_L3 l band k x l 0 true
    · rw [cond_false]
      refine sel_run hc xs (k + 1) out d1 ⟨h.pw, fun a ha => ?_, fun p a hp ha hka => ?_⟩
      · obtain ⟨p, h1, h2⟩ := h.of a ha
        exact ⟨p, by omega, h2⟩
      · by_cases e : p = k
        · subst e
          rw [d2] at ha
          injection ha with ha
          subst ha
          rw [kr.2 hka] at hk
          cases hk
        · exact h.all p a (by omega) ha hka
    · rw [cond_true]
      have hkx : Kept l band k x := kr.1 hk
      refine sel_run hc xs (k + 1) (out ++ [x]) d1 ⟨List.pairwise_append.2 ⟨h.pw, List.pairwise_singleton .., fun b hb a ha => ?_⟩, fun a ha => ?_, fun p a hp ha hka => ?_⟩
      · rw [List.mem_singleton.1 ha]
        obtain ⟨p, h1, h2, h3⟩ := h.of b hb
        exact kept_apart hc d2 h2 (by omega) hkx h3
      · rcases List.mem_append.1 ha with ha | ha
        · obtain ⟨p, h1, h2⟩ := h.of a ha
          exact ⟨p, by omega, h2⟩
        · rw [List.mem_singleton.1 ha]
          exact ⟨k, by omega, d2, hkx⟩
      · by_cases e : p = k
        · subst e
          rw [d2] at ha
          injection ha with ha
          subst ha
          exact List.mem_append_right _ (List.mem_singleton.2 rfl)
        · exact List.mem_append_left _ (h.all p a (by omega) ha hka)

theorem check_run : ∀ (xs : List FilterTrack) (k : Nat), (fuse_Tracks_L1 xs k = .inl () ∧ ∀ f ∈ xs, filter_Check f = 0) ∨ ∃ e, fuse_Tracks_L1 xs k = .inr ([], e) ∧ e ≠ 0
  | [], _ => .inl ⟨rfl, fun _ h => by cases h⟩
  | x :: xs, k => by
    unfold fuse_Tracks_L1
    simp only
    cases h1 : (filter_Check x != 0)
    · rw [cond_false]
      rcases check_run xs (k + 1) with ⟨e, h⟩ | h
      · refine .inl ⟨e, fun t ht => ?_⟩
        rcases List.mem_cons.1 ht with rfl | ht
        · simpa using h1
        · exact h t ht
      · exact .inr h
    · exact .inr ⟨_, rfl, by simpa using h1⟩

theorem tracks_eq (l : List FilterTrack) (band : Int) : (∃ e, fuse_Tracks l band = ([], e) ∧ e ≠ 0) ∨ ((fuse_Tracks l band).2 = 0 ∧ fuse_wrong band = false ∧ (∀ f ∈ l, filter_Check f = 0) ∧ Sel l band l.length (fuse_Tracks l band).1) := by
  unfold fuse_Tracks
  cases h1 : decide ((l.length : Int) > 32)
  · rw [cond_false]
    rcases check_run l 0 with ⟨e, hc⟩ | ⟨e, he, hz⟩
    · rw [e]
      simp only [Sum.elim_inl]
      cases h2 : fuse_wrong band
      · rw [cond_false]
        unfold bindv
        exact .inr ⟨rfl, rfl, hc, sel_run hc l 0 [] List.drop_zero ⟨.nil, (fun _ h => by cases h), (fun p _ hp => by omega)⟩⟩
      · exact .inl ⟨4, rfl, by decide⟩
    · rw [he]; exact .inl ⟨e, rfl, hz⟩
  · exact .inl ⟨2, rfl, by decide⟩

theorem twin_eq {a b : FilterTrack} {band : Int} (hb : fuse_wrong band = false) (h1 : filter_Check a = 0) (h2 : filter_Check b = 0) : skywaykeep2_FuseTracks_1 a b band = true ↔ Twin band a b := by
  have e : fuse_Same a b band = (fuse_same a b band, 0) := by
    unfold fuse_Same
    rw [show ((2 : Int).toNat) = 2 from rfl]
    simp only [fuse_Same_L1, List.getElem?_cons_zero, Option.getD_some, h1]
    simp [h2, hb]
  unfold skywaykeep2_FuseTracks_1 Twin
  simp only [e]
  simp [and_assoc]

theorem index_none {s : List FilterTrack} {f : FilterTrack → Bool} (g : List FilterTrack → Nat → ((Unit) ⊕ (Int))) (g0 : ∀ k, g [] k = .inl ()) (g1 : ∀ x xs k, g (x :: xs) k = cond (f x) (.inr (k : Int)) (g xs (k + 1))) :
    decide (Sum.elim (fun _ => (-1 : Int)) (fun r => r) (g s 0) ≥ 0) = true ↔ ∃ x ∈ s, f x = true := by
  have key : ∀ (xs : List FilterTrack) (k : Nat), (∃ x ∈ xs, f x = true) ∧ (∃ j : Int, 0 ≤ j ∧ g xs k = .inr j) ∨ ¬ (∃ x ∈ xs, f x = true) ∧ g xs k = .inl () := by
    intro xs
    induction xs with
    | nil => intro k; exact .inr ⟨(fun ⟨_, h, _⟩ => by cases h), g0 k⟩
    | cons x xs ih =>
      intro k
      rw [g1]
      cases hx : f x
      · rw [cond_false]
        rcases ih (k + 1) with ⟨⟨y, hy, hf⟩, h⟩ | ⟨h1, h2⟩
        · exact .inl ⟨⟨y, List.mem_cons_of_mem _ hy, hf⟩, h⟩
        · refine .inr ⟨fun ⟨y, hy, hf⟩ => ?_, h2⟩
          rcases List.mem_cons.1 hy with rfl | hy
          · rw [hx] at hf; cases hf
          · exact h1 ⟨y, hy, hf⟩
      · exact .inl ⟨⟨x, List.mem_cons_self .., hx⟩, (k : Int), by omega, rfl⟩
  rcases key s 0 with ⟨h1, j, h2, h3⟩ | ⟨h1, h2⟩
  · rw [h3]; exact ⟨fun _ => h1, fun _ => by simpa using h2⟩
  · rw [h2]; exact ⟨fun h => by simp at h, fun h => absurd h h1⟩
theorem contains_two (s : List FilterTrack) (band : Int) (a : FilterTrack) : ContainsFunc_two s band a = true ↔ ∃ x ∈ s, skywaykeep2_FuseTracks_1 a x band = true :=
  index_none (f := fun x => skywaykeep2_FuseTracks_1 a x band) (IndexFunc_two_L1 band a) (fun _ => rfl) (fun _ _ _ => rfl)
theorem contains_three (s : List FilterTrack) (band : Int) (a : FilterTrack) : ContainsFunc_three s band a = true ↔ ∃ x ∈ s, skywaykeep2_FuseTracks_1 a x band = true :=
  index_none (f := fun x => skywaykeep2_FuseTracks_1 a x band) (IndexFunc_three_L1 band a) (fun _ => rfl) (fun _ _ _ => rfl)
theorem contains_track (s : List FilterTrack) (v : FilterTrack) : slices_Contains_api_FilterTrack_api_FilterTrack s v = true ↔ v ∈ s := by
  have := index_none (s := s) (f := fun x => FilterTrack.eqb v x) (slices_Index_api_FilterTrack_api_FilterTrack_L1 v) (fun _ => rfl) (fun _ _ _ => rfl)
  refine Iff.trans this ⟨fun ⟨x, hx, e⟩ => ?_, fun h => ⟨v, h, by rw [FilterTrack.eqb_eq]; simp⟩⟩
  rw [FilterTrack.eqb_eq] at e
  rw [of_decide_eq_true e]
  exact hx

theorem concat_two (x y : List FilterTrack) : slices_Concat_api_FilterTrack_api_FilterTrack [x, y] = x ++ y := by
  have hg : ∀ n, slices_Grow_api_FilterTrack_api_FilterTrack n = [] := fun n => List.length_eq_zero_iff.1 (grow_len rfl)
  unfold slices_Concat_api_FilterTrack_api_FilterTrack bindv
  simp only [hg, slices_Concat_api_FilterTrack_api_FilterTrack_L2, List.nil_append]

theorem first_two : fuse_Tracks ([(⟨⟨0, 0, 0, ⟨0, 0⟩, ⟨0, 0⟩, 0, 0, 0, 5, 0, 0⟩, 0, ⟨0, ⟨0, 0⟩, 0, 0, 0⟩⟩ : FilterTrack), (⟨⟨0, 0, 0, ⟨0, 0⟩, ⟨0, 0⟩, 0, 0, 0, 5, 0, 0⟩, 0, ⟨0, ⟨0, 0⟩, 0, 0, 0⟩⟩ : FilterTrack)]) 0 = ([(⟨⟨0, 0, 0, ⟨0, 0⟩, ⟨0, 0⟩, 0, 0, 0, 5, 0, 0⟩, 0, ⟨0, ⟨0, 0⟩, 0, 0, 0⟩⟩ : FilterTrack)], 0) := by kernel_rfl

section
variable {l x0 : List FilterTrack} {band : Int} {r : List FilterTrack × Int}
theorem law_L1 (hl : x0.take (imin (x0.length : Int) 8).toNat = l) (hb : fuse_wrong band = false) (hc : ∀ f ∈ l, filter_Check f = 0) (s : Sel l band l.length r.1) : ∀ (xs : List FilterTrack) (k : Nat), r.1.drop k = xs → skywaykeep2_FuseTracks_L1 x0 band r xs k = .inl ()
  | [], _, _ => rfl
  | x :: xs, k, hd => by
    have d1 : r.1.drop (k + 1) = xs := by rw [← List.drop_drop, hd]; rfl
    have d2 : r.1[k]? = some x := by
      have : (r.1.drop k)[0]? = some x := by rw [hd]; rfl
      rwa [List.getElem?_drop, Nat.add_zero] at this
    obtain ⟨hk, ek⟩ := List.getElem?_eq_some_iff.1 d2
    have hx : x ∈ r.1 := List.mem_of_getElem? d2
    have ml : ∀ a ∈ r.1, a ∈ l := fun a ha => by obtain ⟨p, _, h, _⟩ := s.of a ha; exact List.mem_of_getElem? h
    unfold skywaykeep2_FuseTracks_L1
    simp only
    rw [show ContainsFunc_two (r.1.take k) band x = false by
      rw [Bool.eq_false_iff]
      intro h
      obtain ⟨b, hb2, ht⟩ := (contains_two _ _ _).1 h
      obtain ⟨n, hn, e⟩ := List.mem_iff_getElem.1 hb2
      have hn2 : n < k := by rw [List.length_take] at hn; omega
      rw [List.getElem_take] at e
      have := List.pairwise_iff_getElem.1 s.pw n k (by omega) hk hn2
      rw [ek, e] at this
      exact this ((twin_eq hb (hc _ (ml _ hx)) (hc _ (ml _ (by rw [← e]; exact List.getElem_mem _)))).1 ht), cond_false, hl, (contains_track l x).2 (ml x hx), Bool.not_true, cond_false]
    exact law_L1 hl hb hc s xs (k + 1) d1
theorem law_L2 (hl : x0.take (imin (x0.length : Int) 8).toNat = l) (hb : fuse_wrong band = false) (hc : ∀ f ∈ l, filter_Check f = 0) (s : Sel l band l.length r.1) : ∀ (xs : List FilterTrack) (k : Nat), l.drop k = xs → skywaykeep2_FuseTracks_L2 x0 band r xs k = .inl ()
  | [], _, _ => rfl
  | x :: xs, k, hd => by
    have d1 : l.drop (k + 1) = xs := by rw [← List.drop_drop, hd]; rfl
    have d2 : l[k]? = some x := by
      have : (l.drop k)[0]? = some x := by rw [hd]; rfl
      rwa [List.getElem?_drop, Nat.add_zero] at this
    obtain ⟨hk, ek⟩ := List.getElem?_eq_some_iff.1 d2
    have ih := law_L2 hl hb hc s xs (k + 1) d1
    have l8 : l.length ≤ 8 := by rw [← hl]; exact take8 x0
    unfold skywaykeep2_FuseTracks_L2
    cases hx : slices_Contains_api_FilterTrack_api_FilterTrack r.1 x
    · simp only [Bool.not_false, cond_true, hl]
      have hnk : ¬ Kept l band k x := fun h => by
        rw [(contains_track _ _).2 (s.all k x hk d2 h)] at hx
        cases hx
      obtain ⟨i, y, hy, hbad⟩ : ∃ (i : Nat) (y : FilterTrack), l[i]? = some y ∧ Bad l band k x i y := by
        refine Classical.byContradiction fun hn => hnk fun i y hy hb2 => hn ⟨i, y, hy, hb2⟩
      have hin := check_in (hc x (List.mem_of_getElem? d2))
      have hc0 := hin.2.2.2.1
      have ht : Twin band x y := ⟨hbad.2.1, by have := hbad.2.2.2.1; omega, hbad.2.2.1⟩
      rw [w64_id (by omega), show ((k : Int) + 1).toNat = k + 1 by omega, concat_two, (contains_three _ _ _).2 ⟨y, ?_, (twin_eq hb (hc x (List.mem_of_getElem? d2)) (hc y (List.mem_of_getElem? hy))).2 ht⟩, Bool.not_true, cond_false]
      · exact ih
      · have hik := hbad.1
        rw [List.mem_append]
        by_cases h : i < k
        · refine .inl (List.mem_of_getElem? (i := i) ?_)
          rw [List.getElem?_take, if_pos h]; exact hy
        · refine .inr (List.mem_of_getElem? (i := i - (k + 1)) ?_)
          rw [List.getElem?_drop, show k + 1 + (i - (k + 1)) = i by omega]; exact hy
    · simp only [Bool.not_true, cond_false]
      exact ih
end

theorem FuseTracks_true (x0 : List FilterTrack) (x1 : Int) (_s0 : x0.length < 4611686018427387904) (_k0 : ∀ a ∈ x0, a.ok) (_k1 : I64 x1) : skywaykeep2_FuseTracks x0 x1 = true := by
  unfold skywaykeep2_FuseTracks
  rw [first_two]
  simp only
  rw [show (((0 : Int) != 0) || ((([(⟨⟨0, 0, 0, ⟨0, 0⟩, ⟨0, 0⟩, 0, 0, 0, 5, 0, 0⟩, 0, ⟨0, ⟨0, 0⟩, 0, 0, 0⟩⟩ : FilterTrack)]).length : Int) != 1)) = false from rfl, cond_false]
  rcases tracks_eq (x0.take (imin (x0.length : Int) 8).toNat) x1 with ⟨e, he, hz⟩ | ⟨h0, hb, hc, s⟩
  · rw [he]
    simp only
    rw [show (e != 0) = true by simpa using hz, cond_true]
    rfl
  · generalize hl : x0.take (imin (x0.length : Int) 8).toNat = l at *
    rw [h0, show ((0 : Int) != 0) = false from rfl, cond_false, law_L1 hl hb hc s _ 0 List.drop_zero]
    simp only [Sum.elim_inl]
    rw [law_L2 hl hb hc s _ 0 List.drop_zero]
    simp only [Sum.elim_inl]
    by_cases hn : l.length = 0
    · rw [show ((l.length : Int) == 0) = true by simp; exact List.length_eq_zero_iff.1 hn]; rfl
    · obtain ⟨i, hi, hbest⟩ := best_at l l.length (by omega)
      have : l[i] ∈ (fuse_Tracks l x1).1 := s.all i _ hi (List.getElem?_eq_getElem hi) fun j y hy hbad => hbest j (List.getElem?_eq_some_iff.1 hy).1 hbad.2.2.2.2
      have hp := List.length_pos_of_mem this
      rw [show decide (((fuse_Tracks l x1).1.length : Int) > 0) = true by simp; exact hp, Bool.or_true]
end Go.Sky
