/- The law FuseOnce in plain Lean. Conditions: none that are used. -/
import Derived.Test.YtfjchccilkgcnaaRc
namespace Go.Sky
open Go Go.Eng Go.Glue Go.Srt

theorem w64_add (z m : Int) : w64 (z + 18446744073709551616 * m) = w64 z := by rw [w64_eq, w64_eq]; omega
theorem w64_part (x : Int) : ∃ k, w64 x = x + 18446744073709551616 * k := ⟨-((x + 9223372036854775808) / 18446744073709551616), by rw [w64_eq]; omega⟩
theorem w64_sq (x : Int) : w64 (w64 x * w64 x) = w64 (x * x) := by
  obtain ⟨k, hk⟩ := w64_part x
  rw [hk, show (x + 18446744073709551616 * k) * (x + 18446744073709551616 * k) = x * x + 18446744073709551616 * (2 * (k * x) + 18446744073709551616 * (k * k)) by grind, w64_add]
theorem square_swap (a b : P) : plane_Square a b = plane_Square b a := by
  unfold plane_Square plane_Sub plane_Dot
  simp only [w64_sq]
  rw [show (a.X - b.X) * (a.X - b.X) = (b.X - a.X) * (b.X - a.X) by grind, show (a.Y - b.Y) * (a.Y - b.Y) = (b.Y - a.Y) * (b.Y - a.Y) by grind]
theorem imax_turn (x y : Int) : imax x y = imax y x := by unfold imax; split <;> split <;> omega
theorem beq_turn (x y : Int) : (x == y) = (y == x) := by rw [Bool.eq_iff_iff]; simp; exact ⟨Eq.symm, Eq.symm⟩
theorem alike_swap (a b : Spot) (band : Int) : fuse_alike a b band = fuse_alike b a band := by
  have w : plane_Within a.At b.At (w64 (a.Error + b.Error)) = plane_Within b.At a.At (w64 (b.Error + a.Error)) := by
    unfold plane_Within
    rw [square_swap a.At b.At, Int.add_comm a.Error]
  unfold fuse_alike fuse_near
  simp only [w, imax_turn (w64 (a.Height - b.Height)), beq_turn a.Time]
  by_cases h : a.Code = b.Code
  · rw [h]
  · rw [show (a.Code == b.Code) = false by simpa using h, show (b.Code == a.Code) = false by simpa using fun e => h (Eq.symm e)]
    simp

theorem index_spot {s : List Spot} {f : Spot → Bool} (g : List Spot → Nat → ((Unit) ⊕ (Int))) (g0 : ∀ k, g [] k = .inl ()) (g1 : ∀ x xs k, g (x :: xs) k = cond (f x) (.inr (k : Int)) (g xs (k + 1))) :
    decide (Sum.elim (fun _ => (-1 : Int)) (fun r => r) (g s 0) ≥ 0) = true ↔ ∃ x ∈ s, f x = true := by
  have key : ∀ (xs : List Spot) (k : Nat), (∃ x ∈ xs, f x = true) ∧ (∃ j : Int, 0 ≤ j ∧ g xs k = .inr j) ∨ ¬ (∃ x ∈ xs, f x = true) ∧ g xs k = .inl () := by
    intro xs
    induction xs with
    | nil => intro k; exact .inr ⟨(fun ⟨_, h, _⟩ => by cases h), g0 k⟩
    | cons x xs ih =>
      intro k
      rw [g1]
      cases hx : f x
      · rw [cond_false]
        rcases ih (k + 1) with ⟨⟨y, hy, hf⟩, h⟩ | ⟨h1, h2⟩
        · exact .inl ⟨⟨y, List.mem_cons_of_mem _ hy, hf⟩, h⟩
        · refine .inr ⟨fun ⟨y, hy, hf⟩ => ?_, h2⟩
          rcases List.mem_cons.1 hy with rfl | hy
          · rw [hx] at hf; cases hf
          · exact h1 ⟨y, hy, hf⟩
      · exact .inl ⟨⟨x, List.mem_cons_self .., hx⟩, (k : Int), by omega, rfl⟩
  rcases key s 0 with ⟨h1, j, h2, h3⟩ | ⟨h1, h2⟩
  · rw [h3]; exact ⟨fun _ => h1, fun _ => by simpa using h2⟩
  · rw [h2]; exact ⟨fun h => by simp at h, fun h => absurd h h1⟩
theorem contains_spot (s : List Spot) (a : Spot) (band : Int) : ContainsFunc_spot s a band = true ↔ ∃ x ∈ s, fuse_alike x a band = true :=
  index_spot (f := fun x => fuse_alike x a band) (IndexFunc_spot_L1 a band) (fun _ => rfl) (fun _ _ _ => rfl)

/-- No two are alike. -/
def Lone (band : Int) (l : List Spot) : Prop := l.Pairwise fun a b => fuse_alike a b band = false

theorem keep_sub {band : Int} : ∀ (xs : List Spot) (k : Nat) (out : List Spot), ∃ ys, ys.Sublist xs ∧ fuse_Spots_L2 band xs k out = out ++ ys
  | [], _, out => ⟨[], .slnil, by unfold fuse_Spots_L2; rw [List.append_nil]⟩
  | x :: xs, k, out => by
    unfold fuse_Spots_L2
    simp only
    cases ContainsFunc_spot out x band
    · rw [Bool.not_false, cond_true]
      obtain ⟨ys, h1, h2⟩ := keep_sub (band := band) xs (k + 1) (out ++ [x])
      exact ⟨x :: ys, h1.cons_cons x, by rw [h2, List.append_assoc]; rfl⟩
    · rw [Bool.not_true, cond_false]
      obtain ⟨ys, h1, h2⟩ := keep_sub (band := band) xs (k + 1) out
      exact ⟨ys, h1.cons x, h2⟩
theorem keep_lone {band : Int} : ∀ (xs : List Spot) (k : Nat) (out : List Spot), Lone band out → Lone band (fuse_Spots_L2 band xs k out)
  | [], _, out, h => by unfold fuse_Spots_L2; exact h
  | x :: xs, k, out, h => by
    unfold fuse_Spots_L2
    simp only
    cases hc : ContainsFunc_spot out x band
    · rw [Bool.not_false, cond_true]
      refine keep_lone xs (k + 1) _ (List.pairwise_append.2 ⟨h, List.pairwise_singleton .., fun a ha b hb => ?_⟩)
      rw [List.mem_singleton.1 hb]
      rw [Bool.eq_false_iff]
      intro h2
      rw [(contains_spot _ _ _).2 ⟨a, ha, h2⟩] at hc
      cases hc
    · rw [Bool.not_true, cond_false]
      exact keep_lone xs (k + 1) out h
theorem keep_all {band : Int} : ∀ (xs : List Spot) (k : Nat) (out : List Spot), Lone band (out ++ xs) → fuse_Spots_L2 band xs k out = out ++ xs
  | [], _, out, _ => by unfold fuse_Spots_L2; rw [List.append_nil]
  | x :: xs, k, out, h => by
    have hc : ContainsFunc_spot out x band = false := by
      rw [Bool.eq_false_iff]
      intro h2
      obtain ⟨a, ha, h3⟩ := (contains_spot _ _ _).1 h2
      have := (List.pairwise_append.1 h).2.2 a ha x (List.mem_cons_self ..)
      rw [h3] at this
      cases this
    unfold fuse_Spots_L2
    simp only [hc]
    rw [Bool.not_false, cond_true, keep_all xs (k + 1) (out ++ [x]) (by rw [List.append_assoc]; exact h), List.append_assoc]
    rfl

/-- What Spots takes. -/
def Fit (band : Int) (l : List Spot) : Prop := l.length ≤ 128 ∧ (∀ s ∈ l, radar_CheckSpot s = 0) ∧ fuse_wrong band = false
theorem check_spots : ∀ (xs : List Spot) (k : Nat), (fuse_Spots_L1 xs k = .inl () ∧ ∀ s ∈ xs, radar_CheckSpot s = 0) ∨ ∃ e, fuse_Spots_L1 xs k = .inr ([], e) ∧ e ≠ 0 ∧ ¬ ∀ s ∈ xs, radar_CheckSpot s = 0
  | [], _ => .inl ⟨rfl, fun _ h => by cases h⟩
  | x :: xs, k => by
    unfold fuse_Spots_L1
    simp only
    cases h1 : (radar_CheckSpot x != 0)
    · rw [cond_false]
      rcases check_spots xs (k + 1) with ⟨e, h⟩ | ⟨e, he, hz, hn⟩
      · refine .inl ⟨e, fun t ht => ?_⟩
        rcases List.mem_cons.1 ht with rfl | ht
        · simpa using h1
        · exact h t ht
      · exact .inr ⟨e, he, hz, fun h => hn fun s hs => h s (List.mem_cons_of_mem _ hs)⟩
    · have h2 : radar_CheckSpot x ≠ 0 := by simpa using h1
      exact .inr ⟨_, rfl, h2, fun h => h2 (h x (List.mem_cons_self ..))⟩
theorem spots_eq (l : List Spot) (band : Int) : (∃ e, fuse_Spots l band = ([], e) ∧ e ≠ 0) ∧ ¬ Fit band l ∨ fuse_Spots l band = (fuse_Spots_L2 band (isort ltS l) 0 [], 0) ∧ Fit band l := by
  unfold fuse_Spots
  cases h1 : decide ((l.length : Int) > 128)
  · have h1 := of_decide_eq_false h1
    rw [cond_false]
    rcases check_spots l 0 with ⟨e, hc⟩ | ⟨e, he, hz, hn⟩
    · rw [e]
      simp only [Sum.elim_inl]
      cases h2 : fuse_wrong band
      · rw [cond_false]
        unfold bindv slices_Clone_api_Spot_api_Spot
        exact .inr ⟨rfl, by omega, hc, h2⟩
      · exact .inl ⟨⟨4, rfl, by decide⟩, fun h => by rw [h.2.2] at h2; cases h2⟩
    · rw [he]; exact .inl ⟨⟨e, rfl, hz⟩, fun h => hn h.2.1⟩
  · have h1 := of_decide_eq_true h1
    exact .inl ⟨⟨2, rfl, by decide⟩, fun h => by have := h.1; omega⟩
theorem spots_fit {l : List Spot} {band : Int} (h : Fit band l) : fuse_Spots l band = (fuse_Spots_L2 band (isort ltS l) 0 [], 0) := by
  rcases spots_eq l band with ⟨_, hn⟩ | ⟨e, _⟩
  · exact absurd h hn
  · exact e

theorem alike_fit {a b : Spot} {band : Int} (hb : fuse_wrong band = false) (h1 : radar_CheckSpot a = 0) (h2 : radar_CheckSpot b = 0) : fuse_Alike a b band = (fuse_alike a b band, 0) := by
  unfold fuse_Alike
  rw [show ((2 : Int).toNat) = 2 from rfl]
  simp only [fuse_Alike_L1, List.getElem?_cons_zero, Option.getD_some, h1]
  simp [h2, hb]

theorem equal_run {s : List Spot} : ∀ (xs : List Spot) (k : Nat), s.drop k = xs → slices_Equal_api_Spot_api_Spot_L1 s xs k = .inl ()
  | [], _, _ => rfl
  | x :: xs, k, hd => by
    have d1 : s.drop (k + 1) = xs := by rw [← List.drop_drop, hd]; rfl
    have d2 : s[k]? = some x := by
      have : (s.drop k)[0]? = some x := by rw [hd]; rfl
      rwa [List.getElem?_drop, Nat.add_zero] at this
    unfold slices_Equal_api_Spot_api_Spot_L1
    rw [d2, Option.getD_some, Spot.eqb_eq, decide_eq_true rfl, Bool.not_true, cond_false]
    exact equal_run xs (k + 1) d1
theorem equal_self (s : List Spot) : slices_Equal_api_Spot_api_Spot s s = true := by
  unfold slices_Equal_api_Spot_api_Spot
  rw [bne_self_eq_false, cond_false, equal_run s 0 List.drop_zero]
  rfl

theorem none_alike {band : Int} {x : Spot} : ∀ (ts : List Spot) (j : Nat), (∀ t ∈ ts, fuse_Alike x t band = (false, 0)) → skywaykeep2_FuseOnce_L2 band x ts j = .inl ()
  | [], _, _ => rfl
  | t :: ts, j, h => by
    unfold skywaykeep2_FuseOnce_L2
    simp only
    rw [h t (List.mem_cons_self ..)]
    exact none_alike ts (j + 1) fun u hu => h u (List.mem_cons_of_mem _ hu)
theorem all_lone {band : Int} {r : List Spot × Int} (hb : fuse_wrong band = false) (hc : ∀ s ∈ r.1, radar_CheckSpot s = 0) (h : Lone band r.1) : ∀ (xs : List Spot) (k : Nat), r.1.drop k = xs → skywaykeep2_FuseOnce_L1 band r xs k = .inl ()
  | [], _, _ => rfl
  | x :: xs, k, hd => by
    have d1 : r.1.drop (k + 1) = xs := by rw [← List.drop_drop, hd]; rfl
    have d2 : r.1[k]? = some x := by
      have : (r.1.drop k)[0]? = some x := by rw [hd]; rfl
      rwa [List.getElem?_drop, Nat.add_zero] at this
    obtain ⟨hk, ek⟩ := List.getElem?_eq_some_iff.1 d2
    unfold skywaykeep2_FuseOnce_L1
    rw [none_alike (r.1.take k) 0 fun t ht => ?_]
    · exact all_lone hb hc h xs (k + 1) d1
    · obtain ⟨n, hn, e⟩ := List.mem_iff_getElem.1 ht
      have hn2 : n < k := by rw [List.length_take] at hn; omega
      rw [List.getElem_take] at e
      have p := List.pairwise_iff_getElem.1 h n k (by omega) hk hn2
      rw [ek, e] at p
      rw [alike_fit hb (hc x (List.mem_of_getElem? d2)) (hc t (by rw [← e]; exact List.getElem_mem _)), alike_swap, p]

theorem first_spots : fuse_Spots ([(⟨0, ⟨0, 0⟩, 0, 5, 0⟩ : Spot), (⟨0, ⟨0, 0⟩, 0, 5, 0⟩ : Spot)]) 0 = ([(⟨0, ⟨0, 0⟩, 0, 5, 0⟩ : Spot)], 0) := by kernel_rfl

theorem FuseOnce_true (x0 : List Spot) (x1 x2 : Int) (_s0 : x0.length < 4611686018427387904) (_k0 : ∀ a ∈ x0, a.ok) (_k1 : I64 x1) (_k2 : I64 x2) : skywaykeep2_FuseOnce x0 x1 x2 = true := by
  unfold skywaykeep2_FuseOnce
  rw [first_spots]
  simp only
  rw [show (((0 : Int) != 0) || ((([(⟨0, ⟨0, 0⟩, 0, 5, 0⟩ : Spot)]).length : Int) != 1)) = false from rfl, cond_false]
  generalize x0.take (imin (x0.length : Int) 20).toNat = l
  rcases spots_eq l x1 with ⟨⟨e, he, hz⟩, _⟩ | ⟨e, hf⟩
  · rw [he]
    simp only
    rw [show (e != 0) = true by simpa using hz, Bool.true_or, cond_true]
    rfl
  · rw [e]
    simp only
    rw [show ((0 : Int) != 0) = false from rfl, Bool.false_or]
    obtain ⟨ys, hs, ey⟩ := keep_sub (band := x1) (isort ltS l) 0 []
    have hl := keep_lone (band := x1) (isort ltS l) 0 [] List.Pairwise.nil
    have mem : ∀ s ∈ ys, s ∈ l := fun s h => (isort_perm l).mem_iff.1 (hs.subset h)
    rw [List.nil_append] at ey
    rw [ey] at hl ⊢
    cases h0 : ((l.length : Int) == 0)
    · rw [cond_false]
      have fy : Fit x1 ys := ⟨by have := hs.length_le; have := isort_len (lt := ltS) l; have := hf.1; omega, fun s h => hf.2.1 s (mem s h), hf.2.2⟩
      unfold slices_Clone_api_Spot_api_Spot
      generalize (skywaykeep2_within x2 0 (w64 ((l.length : Int) - 1))).toNat = k
      have p : (l.drop k ++ l.take k).Perm l := List.perm_append_comm.trans (by rw [List.take_append_drop])
      have fp : Fit x1 (l.drop k ++ l.take k) := ⟨by rw [p.length_eq]; exact hf.1, fun s h => hf.2.1 s (p.mem_iff.1 h), hf.2.2⟩
      have e2 : fuse_Spots (l.drop k ++ l.take k) x1 = (ys, 0) := by rw [spots_fit fp, isort_congr ordS (fun _ _ => triS) p, ey]
      have up : Up ltS ys := (isort_up ordS l).sublist hs
      have e3 : fuse_Spots ys x1 = (ys, 0) := by rw [spots_fit fy, isort_self ordS (fun _ _ => triS) up, keep_all ys 0 [] hl]; rfl
      rw [e2, e3, all_lone (r := (ys, 0)) hf.2.2 fy.2.1 hl ys 0 List.drop_zero]
      simp only [Sum.elim_inl]
      rw [show skywaykeep2_fine [0, 0] = true by kernel_rfl, cond_true, equal_self, cond_true]
    · rw [cond_true]
      have : l.length = 0 := by simpa using h0
      have := hs.length_le
      rw [isort_len] at this
      simp
      exact List.length_eq_zero_iff.1 (by omega)
end Go.Sky
