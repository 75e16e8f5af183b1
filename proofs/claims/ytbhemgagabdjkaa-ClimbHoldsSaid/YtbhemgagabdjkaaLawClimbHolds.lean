/- The law ClimbHolds in plain Lean. Conditions: none. -/
import Derived.Test.YtbhemgagabdjkaaWg
import Derived.Test.YtbhemgagabdjkaaClimb
import Derived.Test.YtbhemgagabdjkaaOk
namespace Go.Sky
open Go Go.Eng Go.Glue

/-- The report is one of the climb. -/
def fits (H R : Int) (x : ClimbReport) : Prop := 100 * x.Level ≤ H + R * x.Time ∧ H + R * x.Time ≤ 100 * x.Level + 99

theorem good_snoc : ∀ {p : Option ClimbReport} {l : List ClimbReport} {x : ClimbReport}, Good p l → (∀ y, p = some y → y.Time < x.Time) → (∀ y ∈ l, y.Time < x.Time) → rok x → Good p (l ++ [x])
  | _, [], _, _, hp, _, hx => ⟨hx, hp, trivial⟩
  | _, z :: l, _, h, _, hl, hx => ⟨h.1, h.2.1, good_snoc h.2.2 (fun y hy => by cases hy; exact hl _ (List.mem_cons_self ..)) (fun y hy => hl y (List.mem_cons_of_mem _ hy)) hx⟩

theorem rate_mul {R t : Int} {n : Int} (hR : -100 ≤ R ∧ R ≤ 100) (ht : 0 ≤ t ∧ t ≤ n) (hn : n ≤ 1000000) : -100 * n ≤ R * t ∧ R * t ≤ 100 * n := by
  have h1 := Int.mul_le_mul_of_nonneg_right hR.2 ht.1
  have h2 := Int.mul_le_mul_of_nonneg_right hR.1 ht.1
  omega

def Reports (H R : Int) (k : Nat) (l : List ClimbReport) : Prop := l.length ≤ 8 ∧ Good none l ∧ ∀ x ∈ l, x.Time < k ∧ fits H R x

theorem holds_L1 {H R : Int} (hH : 20000 ≤ H ∧ H ≤ 40000) (hR : -100 ≤ R ∧ R ≤ 100) (times : List Int) : ∀ (m k : Nat) (l : List ClimbReport), k + m ≤ 100 → Reports H R k l →
    ∃ l', skywaykeep2_ClimbHolds_L1 times H R m k l = .inl l' ∧ Reports H R 100 l'
  | 0, k, l, hk, h => ⟨l, rfl, h.1, h.2.1, fun x hx => ⟨by have := (h.2.2 x hx).1; omega, (h.2.2 x hx).2⟩⟩
  | m + 1, k, l, hk, h => by
    have hb := rate_mul hR (t := (k : Int)) (n := 100) (by omega) (by omega)
    have e1 : w64 (H + w64 (R * (k : Int))) = H + R * (k : Int) := by rw [w64_id (x := R * (k : Int)) (by omega), w64_id (by omega)]
    have e2 : climb_Level (H + R * (k : Int)) = ((H + R * (k : Int)) / 100, 0) := by
      unfold climb_Level
      have c : ((decide (H + R * (k : Int) < 0)) || (decide (H + R * (k : Int) > 60000))) = false := by simp; omega
      rw [c, cond_false, tdiv_pos _ (by omega), w64_id (by omega)]
    rw [skywaykeep2_ClimbHolds_L1]
    simp only [e1, e2, ite_of_cond]
    split
    · exact holds_L1 hH hR times m (k + 1) l (by omega) ⟨h.1, h.2.1, fun x hx => ⟨by have := (h.2.2 x hx).1; omega, (h.2.2 x hx).2⟩⟩
    · rename_i h0
      rw [if_neg (by decide)]
      have h8 : l.length ≠ 8 := fun e => h0 (by simp [e])
      refine holds_L1 hH hR times m (k + 1) _ (by omega) ⟨by have := h.1; simp; omega, good_snoc h.2.1 (by simp) (fun y hy => (h.2.2 y hy).1) ⟨⟨?_, ?_⟩, ?_, ?_⟩, fun x hx => ?_⟩
      · show (0 : Int) ≤ (k : Int); omega
      · show (k : Int) ≤ 200000; omega
      · show 0 ≤ (H + R * (k : Int)) / 100; omega
      · show (H + R * (k : Int)) / 100 ≤ 600; omega
      · rcases List.mem_append.1 hx with hx | hx
        · exact ⟨by have := (h.2.2 x hx).1; omega, (h.2.2 x hx).2⟩
        · rw [List.mem_singleton] at hx
          subst hx
          refine ⟨by show (k : Int) < ((k + 1 : Nat) : Int); omega, ?_, ?_⟩
          · show 100 * ((H + R * (k : Int)) / 100) ≤ H + R * (k : Int); omega
          · show H + R * (k : Int) ≤ 100 * ((H + R * (k : Int)) / 100) + 99; omega

theorem ediv_le {a b c : Int} (hc : 0 < c) (h : a ≤ b * c) : a / c ≤ b := Int.ediv_le_of_le_mul hc h
theorem le_ediv {a b c : Int} (hc : 0 < c) (h : b * c ≤ a) : b ≤ a / c := (Int.le_ediv_iff_mul_le hc).2 h

theorem pair_bounds {H R : Int} {x y : ClimbReport} (hx : rok x) (hy : rok y) (fx : fits H R x) (fy : fits H R y) (ht : x.Time < y.Time) : lp x y ≤ 16 * R ∧ 16 * R ≤ hp x y := by
  unfold rok at hx hy
  unfold fits at fx fy
  have hm : R * (y.Time - x.Time) = R * y.Time - R * x.Time := Int.mul_sub _ _ _
  have w1 : w64 (y.Time - x.Time) = y.Time - x.Time := w64_id (by omega)
  have w2 : w64 (16 * (w64 ((w64 (100 * (w64 (y.Level - x.Level)))) - 99))) = 16 * (100 * (y.Level - x.Level) - 99) := by
    rw [w64_id (x := y.Level - x.Level) (by omega), w64_id (x := 100 * (y.Level - x.Level)) (by omega), w64_id (x := 100 * (y.Level - x.Level) - 99) (by omega), w64_id (by omega)]
  have w3 : w64 (16 * (w64 ((w64 (100 * (w64 (y.Level - x.Level)))) + 99))) = 16 * (100 * (y.Level - x.Level) + 99) := by
    rw [w64_id (x := y.Level - x.Level) (by omega), w64_id (x := 100 * (y.Level - x.Level)) (by omega), w64_id (x := 100 * (y.Level - x.Level) + 99) (by omega), w64_id (by omega)]
  have hass : 16 * R * (y.Time - x.Time) = 16 * (R * (y.Time - x.Time)) := Int.mul_assoc _ _ _
  have hneg : -(16 * R) * (y.Time - x.Time) = -(16 * (R * (y.Time - x.Time))) := by rw [Int.neg_mul, hass]
  unfold lp hp
  rw [w1, w2, w3, divDown_eq (by omega) (by omega), divUp_eq (by omega) (by omega)]
  refine ⟨ediv_le (by omega) ?_, ?_⟩
  · rw [hass]; omega
  · have := ediv_le (a := -(16 * (100 * (y.Level - x.Level) + 99))) (b := -(16 * R)) (c := y.Time - x.Time) (by omega) (by rw [hneg]; omega)
    show 16 * R ≤ -(-(16 * (100 * (y.Level - x.Level) + 99)) / (y.Time - x.Time))
    omega

theorem Good.pairs {H R : Int} : ∀ {p : Option ClimbReport} {l : List ClimbReport}, Good p l → (∀ x ∈ l, fits H R x) → l.Pairwise (fun x y => lp x y ≤ 16 * R) ∧ l.Pairwise (fun x y => 16 * R ≤ hp x y)
  | _, [], _, _ => ⟨.nil, .nil⟩
  | _, x :: xs, h, hf => by
    have ih := Good.pairs h.2.2 (fun y hy => hf y (List.mem_cons_of_mem _ hy))
    have hh : ∀ y ∈ xs, lp x y ≤ 16 * R ∧ 16 * R ≤ hp x y := fun y hy =>
      pair_bounds h.1 (Good.rok h.2.2 y hy) (hf x (List.mem_cons_self ..)) (hf y (List.mem_cons_of_mem _ hy)) (Good.after h.2.2 y hy)
    exact ⟨List.Pairwise.cons (fun y hy => (hh y hy).1) ih.1, List.Pairwise.cons (fun y hy => (hh y hy).2) ih.2⟩

/-- The bounds of the height that a report gives. -/
def loH (t a b : Int) (x : ClimbReport) : Int := w64 ((w64 (100 * x.Level)) + (num_DivDown (imin (w64 (a * (w64 (t - x.Time)))) (w64 (b * (w64 (t - x.Time))))) 16).1)
def hiH (t a b : Int) (x : ClimbReport) : Int := w64 ((w64 ((w64 (100 * x.Level)) + 99)) + (num_DivUp (imax (w64 (a * (w64 (t - x.Time)))) (w64 (b * (w64 (t - x.Time))))) 16).1)

theorem heights_L1 (t a b e v : Int) : ∀ (xs : List ClimbReport) (k : Nat) (lo hi : Int),
    ((climb_Heights_L1 t (a, b, e) xs k lo hi).1 ≤ v ↔ lo ≤ v ∧ ∀ x ∈ xs, loH t a b x ≤ v) ∧ (v ≤ (climb_Heights_L1 t (a, b, e) xs k lo hi).2 ↔ v ≤ hi ∧ ∀ x ∈ xs, v ≤ hiH t a b x)
  | [], _, _, _ => by simp [climb_Heights_L1]
  | x :: xs, k, lo, hi => by
    have ih := heights_L1 t a b e v xs (k + 1) (imax lo (loH t a b x)) (imin hi (hiH t a b x))
    have e1 : climb_Heights_L1 t (a, b, e) (x :: xs) k lo hi = climb_Heights_L1 t (a, b, e) xs (k + 1) (imax lo (loH t a b x)) (imin hi (hiH t a b x)) := rfl
    rw [e1, ih.1, ih.2, imax_le, le_imin]
    simp only [List.mem_cons, forall_eq_or_imp, and_assoc, and_self]

theorem between_mul {a b R d : Int} (h1 : a ≤ R) (h2 : R ≤ b) : imin (a * d) (b * d) ≤ R * d ∧ R * d ≤ imax (a * d) (b * d) := by
  by_cases hd : 0 ≤ d
  · have q1 := Int.mul_le_mul_of_nonneg_right h1 hd
    have q2 := Int.mul_le_mul_of_nonneg_right h2 hd
    unfold imin imax
    constructor <;> split <;> omega
  · have q1 := Int.mul_le_mul_of_nonpos_right h1 (show d ≤ 0 by omega)
    have q2 := Int.mul_le_mul_of_nonpos_right h2 (show d ≤ 0 by omega)
    unfold imin imax
    constructor <;> split <;> omega

theorem size_mul {a d : Int} (h1 : -3200 ≤ a ∧ a ≤ 3200) (h2 : -200000 ≤ d ∧ d ≤ 200000) : -640000000 ≤ a * d ∧ a * d ≤ 640000000 := by
  have h := between_mul (a := -3200) (b := 3200) (R := a) (d := d) h1.1 h1.2
  unfold imin imax at h
  split at h <;> split at h <;> omega

theorem height_bounds {H R a b t : Int} {x : ClimbReport} (hx : rok x) (fx : fits H R x) (ha : -3200 ≤ a ∧ a ≤ 16 * R) (hb : 16 * R ≤ b ∧ b ≤ 3200) (ht : 0 ≤ t ∧ t ≤ 200000) : loH t a b x ≤ H + R * t ∧ H + R * t ≤ hiH t a b x := by
  unfold rok at hx
  unfold fits at fx
  have w1 : w64 (t - x.Time) = t - x.Time := w64_id (by omega)
  have s1 := size_mul (a := a) (d := t - x.Time) (by omega) (by omega)
  have s2 := size_mul (a := b) (d := t - x.Time) (by omega) (by omega)
  have hm := between_mul (a := a) (b := b) (R := 16 * R) (d := t - x.Time) ha.2 hb.1
  have hass : 16 * R * (t - x.Time) = 16 * (R * (t - x.Time)) := Int.mul_assoc _ _ _
  have hsub : R * (t - x.Time) = R * t - R * x.Time := Int.mul_sub _ _ _
  have o1 := imin_or (a * (t - x.Time)) (b * (t - x.Time))
  have o2 := imax_or (a * (t - x.Time)) (b * (t - x.Time))
  unfold loH hiH
  rw [w1, w64_id (x := a * (t - x.Time)) (by omega), w64_id (x := b * (t - x.Time)) (by omega), w64_id (x := 100 * x.Level) (by omega), w64_id (x := 100 * x.Level + 99) (by omega)]
  obtain ⟨p, hp⟩ : ∃ p, p = imin (a * (t - x.Time)) (b * (t - x.Time)) := ⟨_, rfl⟩
  obtain ⟨q, hq⟩ : ∃ q, q = imax (a * (t - x.Time)) (b * (t - x.Time)) := ⟨_, rfl⟩
  rw [← hp] at hm o1 ⊢
  rw [← hq] at hm o2 ⊢
  rw [divDown_eq (by omega) (by omega), divUp_eq (by omega) (by omega)]
  simp only
  rw [w64_id (x := 100 * x.Level + p / 16) (by omega), w64_id (x := 100 * x.Level + 99 + -(-q / 16)) (by omega)]
  constructor <;> omega

theorem ClimbHolds_true (x0 x1 : Int) (x2 : List Int) (_k0 : I64 x0) (_k1 : I64 x1) (_s2 : x2.length < 4611686018427387904) (_k2 : ∀ a ∈ x2, I64 a) : skywaykeep2_ClimbHolds x0 x1 x2 = true := by
  unfold skywaykeep2_ClimbHolds
  have e0 : (((climb_Level 5199).2 != 0) || ((climb_Level 5199).1 != 51)) = false := by decide
  simp only [e0, cond_false]
  obtain ⟨H, hH0⟩ : ∃ H, H = skywaykeep2_within x0 20000 40000 := ⟨_, rfl⟩
  obtain ⟨R, hR0⟩ : ∃ R, R = skywaykeep2_within x1 (-100) 100 := ⟨_, rfl⟩
  have hH := within_in hH0.symm (by omega) (by omega) (by omega)
  have hR := within_in hR0.symm (by omega) (by omega) (by omega)
  rw [← hH0, ← hR0]
  obtain ⟨l, hl, hrep⟩ := holds_L1 hH hR x2 100 0 [] (by omega) ⟨by simp, trivial, by simp⟩
  have e100 : (100 : Int).toNat = 100 := rfl
  rw [e100, hl, Sum.elim_inl]
  have hpairs := Good.pairs hrep.2.1 (fun x hx => (hrep.2.2 x hx).2)
  have hlo : rlo l ≤ 16 * R := (rlo_le l _).2 ⟨by omega, hpairs.1⟩
  have hhi : 16 * R ≤ rhi l := (le_rhi l _).2 ⟨by omega, hpairs.2⟩
  have hlo2 := ((rlo_le l _).1 (Int.le_refl _)).1
  have hhi2 := ((le_rhi l _).1 (Int.le_refl _)).1
  have hval : Valid l := ⟨by have := hrep.1; omega, hrep.2.1⟩
  have hrates : climb_Rates l = (rlo l, rhi l, 0) := by
    rcases rates_eq l with ⟨h, _⟩ | ⟨_, ⟨h, _⟩ | ⟨_, h⟩⟩
    · exact absurd ((check_iff l).2 hval) h
    · omega
    · exact h
  rw [hrates]
  have w16 : w64 (16 * R) = 16 * R := w64_id (by omega)
  have c1 : (((((0 : Int) != 0)) || (decide (16 * R < rlo l))) || (decide (16 * R > rhi l))) = false := by simp; omega
  simp only [w16, c1, cond_false]
  have hh : ∀ t : Nat, t ≤ 140 → (climb_Heights l (t : Int)).2.2 = 0 ∧ (climb_Heights l (t : Int)).1 ≤ H + R * (t : Int) ∧ H + R * (t : Int) ≤ (climb_Heights l (t : Int)).2.1 := fun t ht => by
    have hb := rate_mul hR (t := (t : Int)) (n := 140) (by omega) (by omega)
    have hx : ∀ x ∈ l, loH (t : Int) (rlo l) (rhi l) x ≤ H + R * (t : Int) ∧ H + R * (t : Int) ≤ hiH (t : Int) (rlo l) (rhi l) x := fun x hx =>
      height_bounds (Good.rok hrep.2.1 x hx) (hrep.2.2 x hx).2 (by omega) (by omega) (by omega)
    have hL := heights_L1 (t : Int) (rlo l) (rhi l) 0 (H + R * (t : Int)) l 0 0 60000
    have h1 := hL.1.2 ⟨by omega, fun x h => (hx x h).1⟩
    have h2 := hL.2.2 ⟨by omega, fun x h => (hx x h).2⟩
    unfold climb_Heights
    rw [hrates]
    have c2 : ((decide ((t : Int) < 0)) || (decide ((t : Int) > 200000))) = false := by simp; omega
    have c3 : ((0 : Int) != 0) = false := rfl
    simp only [c2, c3, cond_false, bindv]
    have c4 : decide ((climb_Heights_L1 (t : Int) (rlo l, rhi l, 0) l 0 0 60000).1 > (climb_Heights_L1 (t : Int) (rlo l, rhi l, 0) l 0 0 60000).2) = false := by simp; omega
    rw [c4, cond_false]
    exact ⟨rfl, h1, h2⟩
  have hL2 : ∀ m k : Nat, k + m ≤ 20 → skywaykeep2_ClimbHolds_L2 H R l m k = .inl () := by
    intro m
    induction m with
    | zero => intro k _; rfl
    | succ m ih =>
      intro k hk
      have h := hh (7 * k) (by omega)
      have hb := rate_mul hR (t := ((7 * k : Nat) : Int)) (n := 140) (by omega) (by omega)
      rw [skywaykeep2_ClimbHolds_L2]
      have e1 : w64 (H + w64 (R * ((7 * k : Nat) : Int))) = H + R * ((7 * k : Nat) : Int) := by rw [w64_id (x := R * ((7 * k : Nat) : Int)) (by omega), w64_id (by omega)]
      simp only [e1, h.1]
      have c : (((((0 : Int) != 0)) || (decide (H + R * ((7 * k : Nat) : Int) < (climb_Heights l ((7 * k : Nat) : Int)).1))) || (decide (H + R * ((7 * k : Nat) : Int) > (climb_Heights l ((7 * k : Nat) : Int)).2.1))) = false := by
        have := h.2
        simp only [Bool.or_eq_false_iff, decide_eq_false_iff_not]
        exact ⟨⟨rfl, by omega⟩, by omega⟩
      rw [c, cond_false]
      exact ih (k + 1) (by omega)
  rw [hL2 20 0 (by omega)]
  rfl
end Go.Sky
