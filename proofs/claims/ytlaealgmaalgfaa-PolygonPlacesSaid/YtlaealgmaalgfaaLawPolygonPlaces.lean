/- The law PolygonPlaces in plain Lean: crossings of two rays have the same parity. Conditions: the arguments are 64-bit integers. -/
import Derived.Test.YtlaealgmaalgfaaWe
import Derived.Test.YtlaealgmaalgfaaGeo
namespace Go.Sky
open Go Go.Eng Go.Glue

theorem mul_sym {a b A B : Int} (ha : -A ≤ a ∧ a ≤ A) (hb : -B ≤ b ∧ b ≤ B) : -(A * B) ≤ a * b ∧ a * b ≤ A * B := by
  have hA : 0 ≤ A := by omega
  have hB : 0 ≤ B := by omega
  have h1 : 0 ≤ (A - a) * (B + b) := Int.mul_nonneg (by omega) (by omega)
  have h2 : 0 ≤ (A + a) * (B - b) := Int.mul_nonneg (by omega) (by omega)
  have h3 : 0 ≤ (A - a) * (B - b) := Int.mul_nonneg (by omega) (by omega)
  have h4 : 0 ≤ (A + a) * (B + b) := Int.mul_nonneg (by omega) (by omega)
  have e1 : (A - a) * (B + b) + (A + a) * (B - b) = 2 * (A * B) - 2 * (a * b) := by grind
  have e2 : (A - a) * (B - b) + (A + a) * (B + b) = 2 * (A * B) + 2 * (a * b) := by grind
  omega
/-- The cross product of an edge seen from a place. -/
def cr (a b q : P) : Int := (a.X - q.X) * (b.Y - q.Y) - (a.Y - q.Y) * (b.X - q.X)
theorem cross_in {a b q : P} (ha : a.In) (hb : b.In) (hq : q.In) : skywayref1_Cross a b q = cr a b q ∧ plane_Cross (plane_Sub b a) (plane_Sub q a) = cr a b q := by
  obtain ⟨a1, a2, a3, a4⟩ := ha
  obtain ⟨b1, b2, b3, b4⟩ := hb
  obtain ⟨q1, q2, q3, q4⟩ := hq
  have m1 : -(2000000 * 2000000) ≤ (b.X - a.X) * (q.Y - a.Y) ∧ (b.X - a.X) * (q.Y - a.Y) ≤ 2000000 * 2000000 := mul_sym (by omega) (by omega)
  have m2 : -(2000000 * 2000000) ≤ (b.Y - a.Y) * (q.X - a.X) ∧ (b.Y - a.Y) * (q.X - a.X) ≤ 2000000 * 2000000 := mul_sym (by omega) (by omega)
  have e : (b.X - a.X) * (q.Y - a.Y) - (b.Y - a.Y) * (q.X - a.X) = cr a b q := by unfold cr; grind
  unfold skywayref1_Cross plane_Cross plane_Sub
  simp only
  rw [w64_id (x := b.X - a.X) (by omega), w64_id (x := q.Y - a.Y) (by omega), w64_id (x := b.Y - a.Y) (by omega), w64_id (x := q.X - a.X) (by omega), w64_id (x := (b.X - a.X) * _) (by omega), w64_id (x := (b.Y - a.Y) * _) (by omega), w64_id (by omega), e]
  exact ⟨rfl, rfl⟩
def onE (a b q : P) : Bool := decide (cr a b q = 0 ∧ imin a.X b.X ≤ q.X ∧ q.X ≤ imax a.X b.X ∧ imin a.Y b.Y ≤ q.Y ∧ q.Y ≤ imax a.Y b.Y)
theorem turn_eq {a b q : P} (ha : a.In) (hb : b.In) (hq : q.In) : plane_Turn a b q = (if cr a b q > 0 then 1 else if cr a b q < 0 then -1 else 0) := by
  unfold plane_Turn
  simp only [(cross_in ha hb hq).2, ite_of_cond, decide_eq_true_eq]
theorem on_eq {a b q : P} (ha : a.In) (hb : b.In) (hq : q.In) : polygon_on a b q = onE a b q := by
  unfold polygon_on polygon_between onE
  rw [turn_eq ha hb hq, Bool.eq_iff_iff]
  simp only [ite_of_cond]
  by_cases h : cr a b q = 0
  · rw [if_neg (show ¬ cr a b q > 0 by omega), if_neg (show ¬ cr a b q < 0 by omega), if_pos (show ((0 : Int) == 0) = true from rfl)]
    simp only [h, Bool.and_eq_true, decide_eq_true_eq, true_and, and_assoc]
  · have : ¬ ((if cr a b q > 0 then (1 : Int) else if cr a b q < 0 then -1 else 0) == 0) = true := by
      rcases Int.lt_or_gt_of_ne h with g | g
      · rw [if_neg (by omega), if_pos g]; decide
      · rw [if_pos g]; decide
    rw [if_neg this]
    simp [h]
theorem onEdge_eq {a b q : P} (ha : a.In) (hb : b.In) (hq : q.In) : skywayref1_OnEdge a b q = onE a b q := by
  unfold skywayref1_OnEdge onE
  simp only [(cross_in ha hb hq).1]
  rw [Bool.eq_iff_iff]
  simp only [Bool.and_eq_true, decide_eq_true_eq, beq_iff_eq, and_assoc]

/-- The two rays' crossings of one edge, and the quadrant. -/
def hit1 (a b q : P) : Bool := decide (¬ (a.Y > q.Y ↔ b.Y > q.Y) ∧ (b.Y > a.Y ∧ cr a b q > 0 ∨ b.Y < a.Y ∧ cr a b q < 0))
def hit2 (a b q : P) : Bool := if a.X > b.X then decide ((b.X ≤ q.X ∧ q.X < a.X) ∧ cr b a q < 0) else decide ((a.X ≤ q.X ∧ q.X < b.X) ∧ cr a b q < 0)
def quad (v q : P) : Bool := decide (v.X > q.X ∧ v.Y > q.Y)

theorem sgn_mul (x y : Int) : (0 < x ∧ 0 < y ∧ 0 < x * y) ∨ (x ≤ 0 ∧ 0 < y ∧ x * y ≤ 0) ∨ (0 < x ∧ y ≤ 0 ∧ x * y ≤ 0) ∨ (x ≤ 0 ∧ y ≤ 0 ∧ 0 ≤ x * y) := by
  rcases Int.lt_or_le 0 x with h1 | h1 <;> rcases Int.lt_or_le 0 y with h2 | h2
  · exact .inl ⟨h1, h2, Int.mul_pos h1 h2⟩
  · exact .inr (.inr (.inl ⟨h1, h2, Int.mul_nonpos_of_nonneg_of_nonpos (by omega) h2⟩))
  · exact .inr (.inl ⟨h1, h2, Int.mul_nonpos_of_nonpos_of_nonneg h1 (by omega)⟩)
  · exact .inr (.inr (.inr ⟨h1, h2, Int.mul_nonneg_of_nonpos_of_nonpos h1 h2⟩))
theorem key4 {A B C D : Prop} [Decidable A] [Decidable B] [Decidable C] [Decidable D] (hh : (A ↔ ¬ B) ↔ (C ↔ ¬ D)) : (decide A ^^ decide B) = (decide C ^^ decide D) := by
  by_cases hA : A <;> by_cases hB : B <;> by_cases hC : C <;> by_cases hD : D <;> simp [hA, hB, hC, hD] at hh ⊢
/-- The same in plain numbers. -/
theorem edge_int {ax ay bx b_y c p1 p2 : Int} (s1 : (0 < ax ∧ 0 < b_y ∧ 0 < p1) ∨ (ax ≤ 0 ∧ 0 < b_y ∧ p1 ≤ 0) ∨ (0 < ax ∧ b_y ≤ 0 ∧ p1 ≤ 0) ∨ (ax ≤ 0 ∧ b_y ≤ 0 ∧ 0 ≤ p1))
    (s2 : (0 < ay ∧ 0 < bx ∧ 0 < p2) ∨ (ay ≤ 0 ∧ 0 < bx ∧ p2 ≤ 0) ∨ (0 < ay ∧ bx ≤ 0 ∧ p2 ≤ 0) ∨ (ay ≤ 0 ∧ bx ≤ 0 ∧ 0 ≤ p2)) (hc : c = p1 - p2)
    (hne : (ax ≤ 0 ∧ 0 < bx ∨ bx ≤ 0 ∧ 0 < ax) → (ay ≤ 0 ∧ 0 < b_y ∨ b_y ≤ 0 ∧ 0 < ay) → c ≠ 0) :
    ((¬ (0 < ay ↔ 0 < b_y) ∧ (ay < b_y ∧ 0 < c ∨ b_y < ay ∧ c < 0)) ↔ ¬ ((bx < ax ∧ (bx ≤ 0 ∧ 0 < ax) ∧ 0 < c) ∨ (¬ bx < ax ∧ (ax ≤ 0 ∧ 0 < bx) ∧ c < 0))) ↔ ((0 < ax ∧ 0 < ay) ↔ ¬ (0 < bx ∧ 0 < b_y)) := by
  rcases s1 with ⟨u1, u2, u3⟩ | ⟨u1, u2, u3⟩ | ⟨u1, u2, u3⟩ | ⟨u1, u2, u3⟩ <;> rcases s2 with ⟨v1, v2, v3⟩ | ⟨v1, v2, v3⟩ | ⟨v1, v2, v3⟩ | ⟨v1, v2, v3⟩
  all_goals
    have e1 := Int.not_lt.2 u1
    try have e2 := Int.not_lt.2 u2
    try have e3 := Int.not_lt.2 v1
    try have e4 := Int.not_lt.2 v2
    skip
  all_goals omega
theorem edge_par {a b q : P} (h : onE a b q = false) : (hit1 a b q ^^ hit2 a b q) = (quad a q ^^ quad b q) := by
  have c2 : cr b a q = -cr a b q := by unfold cr; grind
  unfold onE at h
  have h' := of_decide_eq_false h
  have i1 := imin_l a.X b.X
  have i2 := imin_r a.X b.X
  have i3 := imin_l a.Y b.Y
  have i4 := imin_r a.Y b.Y
  have i5 := imax_ge a.X b.X
  have i6 := imax_ge a.Y b.Y
  have hne : (a.X - q.X ≤ 0 ∧ 0 < b.X - q.X ∨ b.X - q.X ≤ 0 ∧ 0 < a.X - q.X) → (a.Y - q.Y ≤ 0 ∧ 0 < b.Y - q.Y ∨ b.Y - q.Y ≤ 0 ∧ 0 < a.Y - q.Y) → cr a b q ≠ 0 := by
    intro h1 h2 h3
    exact h' ⟨h3, by omega, by omega, by omega, by omega⟩
  have core := edge_int (sgn_mul (a.X - q.X) (b.Y - q.Y)) (sgn_mul (a.Y - q.Y) (b.X - q.X)) rfl hne
  have e2 : hit2 a b q = decide ((b.X - q.X < a.X - q.X ∧ (b.X - q.X ≤ 0 ∧ 0 < a.X - q.X) ∧ 0 < cr a b q) ∨ (¬ b.X - q.X < a.X - q.X ∧ (a.X - q.X ≤ 0 ∧ 0 < b.X - q.X) ∧ cr a b q < 0)) := by
    unfold hit2
    rw [c2]
    by_cases g : a.X > b.X
    · rw [if_pos g, decide_eq_decide]
      constructor
      · rintro ⟨g1, g2⟩; exact .inl ⟨by omega, by omega, by omega⟩
      · rintro (⟨_, g1, g2⟩ | ⟨g1, _⟩)
        · exact ⟨by omega, by omega⟩
        · omega
    · rw [if_neg g, decide_eq_decide]
      constructor
      · rintro ⟨g1, g2⟩; exact .inr ⟨by omega, by omega, g2⟩
      · rintro (⟨g1, _⟩ | ⟨_, g1, g2⟩)
        · omega
        · exact ⟨by omega, g2⟩
  have e1 : hit1 a b q = decide (¬ (0 < a.Y - q.Y ↔ 0 < b.Y - q.Y) ∧ (a.Y - q.Y < b.Y - q.Y ∧ 0 < cr a b q ∨ b.Y - q.Y < a.Y - q.Y ∧ cr a b q < 0)) := by
    unfold hit1
    rw [decide_eq_decide]
    have k1 : (a.Y > q.Y) ↔ (0 < a.Y - q.Y) := by omega
    have k2 : (b.Y > q.Y) ↔ (0 < b.Y - q.Y) := by omega
    have k3 : (b.Y > a.Y) ↔ (a.Y - q.Y < b.Y - q.Y) := by omega
    have k4 : (b.Y < a.Y) ↔ (b.Y - q.Y < a.Y - q.Y) := by omega
    rw [k1, k2, k3, k4]
  have e3 : ∀ v : P, quad v q = decide (0 < v.X - q.X ∧ 0 < v.Y - q.Y) := by
    intro v
    unfold quad
    rw [decide_eq_decide]
    omega
  rw [e1, e2, e3, e3]
  exact key4 core

def xorN (f : Nat → Bool) : Nat → Bool
  | 0 => false
  | n + 1 => xorN f n ^^ f n
theorem xorN_congr {f g : Nat → Bool} : ∀ {n : Nat}, (∀ i, i < n → f i = g i) → xorN f n = xorN g n
  | 0, _ => rfl
  | n + 1, h => by
    unfold xorN
    rw [xorN_congr (fun i hi => h i (by omega)), h n (by omega)]
theorem xorN_xor (f g : Nat → Bool) : ∀ n, xorN (fun i => f i ^^ g i) n = (xorN f n ^^ xorN g n)
  | 0 => rfl
  | n + 1 => by
    unfold xorN
    rw [xorN_xor f g n]
    cases xorN f n <;> cases xorN g n <;> cases f n <;> cases g n <;> rfl
theorem xorN_shift (f : Nat → Bool) : ∀ n, (xorN (fun i => f (i + 1)) n ^^ f 0) = xorN f (n + 1)
  | 0 => by unfold xorN; simp [xorN]
  | n + 1 => by
    rw [xorN, xorN, ← xorN_shift f n]
    cases xorN (fun i => f (i + 1)) n <;> cases f 0 <;> cases f (n + 1) <;> rfl
theorem xorN_turn (f : Nat → Bool) {n : Nat} (hn : 1 ≤ n) : xorN (fun i => f ((i + 1) % n)) n = xorN f n := by
  obtain ⟨m, rfl⟩ : ∃ m, n = m + 1 := ⟨n - 1, by omega⟩
  rw [← xorN_shift f m, xorN]
  congr 1
  · exact xorN_congr (fun i hi => by rw [Nat.mod_eq_of_lt (by omega)])
  · rw [Nat.mod_self]

abbrev pt (p : List P) (k : Nat) : P := p[k]?.getD P.zero
def nxt (p : List P) (k : Nat) : P := pt p ((k + 1) % p.length)
def prv (p : List P) (k : Nat) : P := pt p ((k + p.length - 1) % p.length)

theorem next_eq {p : List P} {k : Nat} (hn : 1 ≤ p.length ∧ p.length ≤ 16) (hk : k < p.length) : polygon_next p (k : Int) = nxt p k := by
  unfold polygon_next nxt
  rw [w64_id (by omega), Int.tmod_eq_emod_of_nonneg (by omega)]
  have : ((k : Int) + 1) % (p.length : Int) = (((k + 1) % p.length : Nat) : Int) := by rw [Int.natCast_emod]; rfl
  rw [this, Int.toNat_natCast]
theorem prev_eq {p : List P} {k : Nat} (hn : 1 ≤ p.length ∧ p.length ≤ 16) (hk : k < p.length) : (p[((w64 ((w64 ((k : Int) + (p.length : Int))) - 1)).tmod (p.length : Int)).toNat]?.getD P.zero) = prv p k := by
  unfold prv
  rw [w64_id (x := (k : Int) + (p.length : Int)) (by omega), w64_id (by omega), Int.tmod_eq_emod_of_nonneg (by omega)]
  congr 2
  have : ((k : Int) + (p.length : Int) - 1) % (p.length : Int) = (((k + p.length - 1) % p.length : Nat) : Int) := by
    rw [Int.natCast_emod]; congr 1; omega
  rw [this, Int.toNat_natCast]
theorem drop_step {p xs : List P} {x : P} {k : Nat} (h : x :: xs = p.drop k) : k < p.length ∧ pt p k = x ∧ xs = p.drop (k + 1) := by
  have hk : p[k]? = some x := by
    have := congrArg (fun z => z[0]?) h
    simpa using this.symm
  refine ⟨?_, by unfold pt; rw [hk]; rfl, ?_⟩
  · rcases Nat.lt_or_ge k p.length with g | g
    · exact g
    · rw [List.getElem?_eq_none g] at hk; cases hk
  · have := congrArg (List.drop 1) h
    simpa [List.drop_drop, Nat.add_comm] using this

def sg (b : Bool) : Int := if b then 1 else -1
theorem sg_not (b : Bool) : w64 (0 - sg b) = sg (!b) := by cases b <;> decide

theorem sgn3 (c : Int) : ((if c > 0 then (1 : Int) else if c < 0 then -1 else 0) > 0 ↔ c > 0) ∧ ((if c > 0 then (1 : Int) else if c < 0 then -1 else 0) < 0 ↔ c < 0) := by
  by_cases u : c > 0
  · rw [if_pos u]; omega
  · rw [if_neg u]
    by_cases v : c < 0
    · rw [if_pos v]; omega
    · rw [if_neg v]; omega

theorem main_L1 {p : List P} {q : P} (hn : 1 ≤ p.length ∧ p.length ≤ 16) (hp : ∀ k, k < p.length → (pt p k).In) (hq : q.In) : ∀ (xs : List P) (k : Nat), xs = p.drop k → k ≤ p.length →
    ((∀ i, k ≤ i → i < p.length → onE (pt p i) (nxt p i) q = false) → polygon_Place_L1 p q xs k (sg (xorN (fun i => hit1 (pt p i) (nxt p i) q) k)) = .inl (sg (xorN (fun i => hit1 (pt p i) (nxt p i) q) p.length))) ∧
    ((∃ i, k ≤ i ∧ i < p.length ∧ onE (pt p i) (nxt p i) q = true) → ∀ s, polygon_Place_L1 p q xs k s = .inr 0)
  | [], k, hx, hk => by
    have : p.length ≤ k := by
      have := congrArg List.length hx
      rw [List.length_drop] at this
      simp at this; omega
    have e : k = p.length := by omega
    subst e
    exact ⟨fun _ => rfl, fun ⟨i, h1, h2, _⟩ => by omega⟩
  | x :: xs, k, hx, _ => by
    obtain ⟨hk, hx1, hx2⟩ := drop_step hx
    have ih := main_L1 hn hp hq xs (k + 1) hx2 (by omega)
    have hxi := hp k hk
    have hni : (nxt p k).In := hp _ (Nat.mod_lt _ (by omega))
    rw [hx1] at hxi
    have step : ∀ s : Int, polygon_Place_L1 p q (x :: xs) k s = if onE x (nxt p k) q = true then .inr 0 else polygon_Place_L1 p q xs (k + 1) (if hit1 x (nxt p k) q = true then w64 (0 - s) else s) := by
      intro s
      show (cond (polygon_on x (polygon_next p (k : Int)) q) (.inr 0) (cond (!((decide (x.Y > q.Y)) == (decide ((polygon_next p (k : Int)).Y > q.Y))))
        (cond ((decide ((polygon_next p (k : Int)).Y > x.Y)) && (decide (plane_Turn x (polygon_next p (k : Int)) q > 0))) (polygon_Place_L1 p q xs (k + 1) (w64 (0 - s)))
          (cond (decide ((polygon_next p (k : Int)).Y < x.Y)) (cond (decide (plane_Turn x (polygon_next p (k : Int)) q < 0)) (polygon_Place_L1 p q xs (k + 1) (w64 (0 - s))) (polygon_Place_L1 p q xs (k + 1) s)) (polygon_Place_L1 p q xs (k + 1) s)))
        (polygon_Place_L1 p q xs (k + 1) s)) : Int ⊕ Int) = _
      rw [next_eq hn hk, on_eq hxi hni hq, turn_eq hxi hni hq]
      simp only [ite_of_cond]
      by_cases h0 : onE x (nxt p k) q = true
      · rw [if_pos h0, if_pos h0]
      · rw [if_neg h0, if_neg h0]
        obtain ⟨t1, t2⟩ := sgn3 (cr x (nxt p k) q)
        simp only [t1, t2]
        unfold hit1
        simp only [decide_eq_true_eq, Bool.and_eq_true, Bool.not_eq_true', beq_eq_false_iff_ne, ne_eq, decide_eq_decide]
        by_cases c1 : (x.Y > q.Y ↔ (nxt p k).Y > q.Y)
        · rw [if_neg (by simpa using c1), if_neg (fun hh => hh.1 c1)]
        · rw [if_pos c1]
          by_cases c2 : (nxt p k).Y > x.Y ∧ cr x (nxt p k) q > 0
          · rw [if_pos c2, if_pos ⟨c1, .inl c2⟩]
          · rw [if_neg c2]
            by_cases c3 : (nxt p k).Y < x.Y
            · rw [if_pos c3]
              by_cases c4 : cr x (nxt p k) q < 0
              · rw [if_pos c4, if_pos ⟨c1, .inr ⟨c3, c4⟩⟩]
              · rw [if_neg c4, if_neg (fun hh => hh.2.elim c2 (fun g => c4 g.2))]
            · rw [if_neg c3, if_neg (fun hh => hh.2.elim c2 (fun g => c3 g.1))]
    constructor
    · intro hall
      have h0 := hall k (Nat.le_refl _) hk
      rw [hx1] at h0
      rw [step, if_neg (by simp [h0])]
      have e : (if hit1 x (nxt p k) q = true then w64 (0 - sg (xorN (fun i => hit1 (pt p i) (nxt p i) q) k)) else sg (xorN (fun i => hit1 (pt p i) (nxt p i) q) k)) = sg (xorN (fun i => hit1 (pt p i) (nxt p i) q) (k + 1)) := by
        rw [xorN, hx1, sg_not]
        cases hit1 x (nxt p k) q <;> cases xorN (fun i => hit1 (pt p i) (nxt p i) q) k <;> rfl
      rw [e]
      exact ih.1 (fun i h1 h2 => hall i (by omega) h2)
    · rintro ⟨i, h1, h2, h3⟩ s
      rw [step]
      by_cases h0 : onE x (nxt p k) q = true
      · rw [if_pos h0]
      · rw [if_neg h0]
        have : i ≠ k := by rintro rfl; rw [hx1] at h3; exact h0 h3
        exact ih.2 ⟨i, by omega, h2, h3⟩ _

theorem ref_L1 {p : List P} {q : P} (hn : 1 ≤ p.length ∧ p.length ≤ 16) (hp : ∀ k, k < p.length → (pt p k).In) (hq : q.In) : ∀ (xs : List P) (k : Nat), xs = p.drop k → k ≤ p.length →
    ((∀ i, k ≤ i → i < p.length → onE (prv p i) (pt p i) q = false) → ∀ c : Nat, c ≤ k → (c % 2 == 1) = xorN (fun i => hit2 (prv p i) (pt p i) q) k → ∃ d : Nat, skywayref1_Place_L1 p q xs k (c : Int) = .inl (d : Int) ∧ (d % 2 == 1) = xorN (fun i => hit2 (prv p i) (pt p i) q) p.length) ∧
    ((∃ i, k ≤ i ∧ i < p.length ∧ onE (prv p i) (pt p i) q = true) → ∀ s, skywayref1_Place_L1 p q xs k s = .inr 0)
  | [], k, hx, hk => by
    have : p.length ≤ k := by
      have := congrArg List.length hx
      rw [List.length_drop] at this
      simp at this; omega
    have e : k = p.length := by omega
    subst e
    exact ⟨fun _ c _ hc => ⟨c, rfl, hc⟩, fun ⟨i, h1, h2, _⟩ => by omega⟩
  | x :: xs, k, hx, _ => by
    obtain ⟨hk, hx1, hx2⟩ := drop_step hx
    have ih := ref_L1 hn hp hq xs (k + 1) hx2 (by omega)
    have hxi := hp k hk
    have hni : (prv p k).In := hp _ (Nat.mod_lt _ (by omega))
    rw [hx1] at hxi
    have step : ∀ s : Int, skywayref1_Place_L1 p q (x :: xs) k s = if onE (prv p k) x q = true then .inr 0 else skywayref1_Place_L1 p q xs (k + 1) (if hit2 (prv p k) x q = true then w64 (s + 1) else s) := by
      intro s
      conv => lhs; unfold skywayref1_Place_L1
      simp only [prev_eq hn hk, onEdge_eq hni hxi hq, (cross_in hxi hni hq).1, (cross_in hni hxi hq).1, ite_of_cond, decide_eq_true_eq, Bool.and_eq_true]
      by_cases h0 : onE (prv p k) x q = true
      · rw [if_pos h0, if_pos h0]
      · rw [if_neg h0, if_neg h0]
        unfold hit2
        by_cases c1 : (prv p k).X > x.X
        · simp only [if_pos c1, decide_eq_true_eq]
          by_cases c2 : x.X ≤ q.X ∧ q.X < (prv p k).X
          · rw [if_pos c2]
            by_cases c3 : cr x (prv p k) q < 0
            · rw [if_pos c3, if_pos ⟨c2, c3⟩]
            · rw [if_neg c3, if_neg (fun hh => c3 hh.2)]
          · rw [if_neg c2, if_neg (fun hh => c2 hh.1)]
        · simp only [if_neg c1, decide_eq_true_eq]
          by_cases c2 : (prv p k).X ≤ q.X ∧ q.X < x.X
          · rw [if_pos c2]
            by_cases c3 : cr (prv p k) x q < 0
            · rw [if_pos c3, if_pos ⟨c2, c3⟩]
            · rw [if_neg c3, if_neg (fun hh => c3 hh.2)]
          · rw [if_neg c2, if_neg (fun hh => c2 hh.1)]
    constructor
    · intro hall c hc hpar
      have h0 := hall k (Nat.le_refl _) hk
      rw [hx1] at h0
      rw [step, if_neg (by simp [h0])]
      have ih1 := ih.1 (fun i h1 h2 => hall i (by omega) h2)
      cases hh : hit2 (prv p k) x q
      · rw [if_neg (by simp)]
        exact ih1 c (by omega) (by rw [hpar, xorN, hx1, hh, Bool.xor_false])
      · rw [if_pos rfl, w64_id (by omega), show (c : Int) + 1 = ((c + 1 : Nat) : Int) by omega]
        refine ih1 (c + 1) (by omega) ?_
        rw [xorN, hx1, hh, ← hpar, Bool.xor_true]
        rw [Bool.eq_iff_iff]
        simp only [beq_iff_eq, Bool.not_eq_true', beq_eq_false_iff_ne, ne_eq]
        omega
    · rintro ⟨i, h1, h2, h3⟩ s
      rw [step]
      by_cases h0 : onE (prv p k) x q = true
      · rw [if_pos h0]
      · rw [if_neg h0]
        have : i ≠ k := by rintro rfl; rw [hx1] at h3; exact h0 h3
        exact ih.2 ⟨i, by omega, h2, h3⟩ _

theorem place_eq {p : List P} {q : P} (hn : 1 ≤ p.length ∧ p.length ≤ 16) (hp : ∀ k, k < p.length → (pt p k).In) (hq : q.In) : polygon_Place p q = skywayref1_Place p q := by
  have m := main_L1 hn hp hq p 0 rfl (Nat.zero_le _)
  have r := ref_L1 hn hp hq p 0 rfl (Nat.zero_le _)
  have turn : ∀ i, i < p.length → prv p ((i + 1) % p.length) = pt p i ∧ pt p ((i + 1) % p.length) = nxt p i := by
    intro i hi
    refine ⟨?_, rfl⟩
    unfold prv
    by_cases e : i + 1 = p.length
    · rw [e, Nat.mod_self, Nat.zero_add, Nat.mod_eq_of_lt (by omega)]; congr 1; omega
    · rw [Nat.mod_eq_of_lt (show i + 1 < p.length by omega), show i + 1 + p.length - 1 = i + p.length by omega, Nat.add_mod_right, Nat.mod_eq_of_lt hi]
  unfold polygon_Place skywayref1_Place
  by_cases h : ∃ i, i < p.length ∧ onE (pt p i) (nxt p i) q = true
  · obtain ⟨i, h1, h2⟩ := h
    rw [m.2 ⟨i, Nat.zero_le _, h1, h2⟩, r.2 ⟨(i + 1) % p.length, Nat.zero_le _, Nat.mod_lt _ (by omega), by rw [(turn i h1).1, (turn i h1).2]; exact h2⟩]
    rfl
  · have hno : ∀ i, i < p.length → onE (pt p i) (nxt p i) q = false := fun i hi => by
      cases hc : onE (pt p i) (nxt p i) q
      · rfl
      · exact absurd ⟨i, hi, hc⟩ h
    have hno2 : ∀ k, k < p.length → onE (prv p k) (pt p k) q = false := fun k hk => by
      have hj : (k + p.length - 1) % p.length < p.length := Nat.mod_lt _ (by omega)
      have := hno _ hj
      have e : ((k + p.length - 1) % p.length + 1) % p.length = k := by
        by_cases e : k = 0
        · subst e
          rw [Nat.zero_add, Nat.mod_eq_of_lt (show p.length - 1 < p.length by omega), Nat.sub_add_cancel hn.1, Nat.mod_self]
        · rw [show k + p.length - 1 = (k - 1) + p.length by omega, Nat.add_mod_right, Nat.mod_eq_of_lt (show k - 1 < p.length by omega), Nat.sub_add_cancel (by omega), Nat.mod_eq_of_lt hk]
      unfold nxt at this
      rw [e] at this
      exact this
    have e1 := m.1 (fun i _ hi => hno i hi)
    obtain ⟨d, e2, e3⟩ := r.1 (fun i _ hi => hno2 i hi) 0 (Nat.le_refl _) rfl
    rw [show (-1 : Int) = sg (xorN (fun i => hit1 (pt p i) (nxt p i) q) 0) from rfl, e1, show (0 : Int) = ((0 : Nat) : Int) from rfl, e2]
    have key : xorN (fun i => hit1 (pt p i) (nxt p i) q) p.length = xorN (fun i => hit2 (prv p i) (pt p i) q) p.length := by
      have a1 : xorN (fun i => hit1 (pt p i) (nxt p i) q ^^ hit2 (pt p i) (nxt p i) q) p.length = xorN (fun i => quad (pt p i) q ^^ quad (nxt p i) q) p.length := xorN_congr (fun i hi => edge_par (hno i hi))
      rw [xorN_xor, xorN_xor] at a1
      have a2 : xorN (fun i => quad (nxt p i) q) p.length = xorN (fun i => quad (pt p i) q) p.length := xorN_turn (fun k => quad (pt p k) q) hn.1
      have a3 : xorN (fun i => hit2 (pt p i) (nxt p i) q) p.length = xorN (fun i => hit2 (prv p i) (pt p i) q) p.length := by
        rw [← xorN_turn (fun k => hit2 (prv p k) (pt p k) q) hn.1]
        exact xorN_congr (fun i hi => by rw [(turn i hi).1, (turn i hi).2])
      rw [a2, a3] at a1
      revert a1
      cases xorN (fun i => hit1 (pt p i) (nxt p i) q) p.length <;> cases xorN (fun i => hit2 (prv p i) (pt p i) q) p.length <;> cases xorN (fun i => quad (pt p i) q) p.length <;> simp
    simp only [Sum.elim_inl]
    have e4 : (((d : Int)).tmod 2 == 1) = (d % 2 == 1) := by
      rw [Int.tmod_eq_emod_of_nonneg (by omega), Bool.eq_iff_iff]
      simp only [beq_iff_eq]
      omega
    rw [e4, e3, key]
    cases xorN (fun i => hit2 (prv p i) (pt p i) q) p.length <;> rfl

theorem polyCheck_L1 : ∀ (xs : List P) (k : Nat), (polygon_Check_L1 xs k = .inl () ∧ ∀ x ∈ xs, x.In) ∨ ∃ c, c ≠ 0 ∧ polygon_Check_L1 xs k = .inr c
  | [], _ => .inl ⟨rfl, by simp⟩
  | x :: xs, k => by
    unfold polygon_Check_L1
    by_cases h : plane_Check x = 0
    · have e : (plane_Check x != 0) = false := by simp [h]
      simp only [e, cond_false]
      rcases polyCheck_L1 xs (k + 1) with ⟨h1, h2⟩ | g
      · refine .inl ⟨h1, fun y hy => ?_⟩
        rcases List.mem_cons.1 hy with rfl | hy
        · exact checkP_iff.1 h
        · exact h2 y hy
      · exact .inr g
    · have e : (plane_Check x != 0) = true := by simpa using h
      simp only [e, cond_true]
      exact .inr ⟨_, h, rfl⟩
theorem poly_ok {p : List P} (h : polygon_Check p = 0) : (1 ≤ p.length ∧ p.length ≤ 16) ∧ ∀ k, k < p.length → (pt p k).In := by
  unfold polygon_Check at h
  by_cases h1 : (p.length : Int) > 16
  · rw [decide_eq_true h1] at h; cases h
  · rw [decide_eq_false h1, cond_false] at h
    by_cases h2 : (p.length : Int) < 3
    · rw [decide_eq_true h2] at h; cases h
    · rw [decide_eq_false h2, cond_false] at h
      refine ⟨by omega, fun k hk => ?_⟩
      rcases polyCheck_L1 p 0 with ⟨_, g⟩ | ⟨c, hc, g⟩
      · unfold pt
        rw [List.getElem?_eq_getElem hk]
        exact g _ (List.getElem_mem hk)
      · rw [g] at h; exact absurd h hc

theorem PolygonPlaces_true (x0 : List P) (x1 : P) (_s0 : x0.length < 4611686018427387904) (_k0 : ∀ a ∈ x0, a.ok) (_k1 : x1.ok) : skywaylaw1_PolygonPlaces x0 x1 = true := by
  unfold skywaylaw1_PolygonPlaces
  have e1 : skywaylaw1_polygonWorks = true := by kernel_rfl
  simp only [e1, Bool.not_true, cond_false]
  unfold polygon_Locate
  by_cases c1 : polygon_Check x0 = 0
  · have e2 : (polygon_Check x0 != 0) = false := by simp [c1]
    simp only [e2, cond_false]
    obtain ⟨hn, hp⟩ := poly_ok c1
    by_cases c2 : plane_Check x1 = 0
    · have e3 : (plane_Check x1 != 0) = false := by simp [c2]
      have hq := checkP_iff.1 c2
      have e4 : skywayref1_Good x1 = true := by
        obtain ⟨q1, q2, q3, q4⟩ := hq
        unfold skywayref1_Good; simp; omega
      simp only [e3, e4, Bool.not_true, cond_false, place_eq hn hp hq]
      simp
    · have h4 : plane_Check x1 = 4 := ((checkP_eq x1).resolve_left (fun g => c2 g.1)).1
      have hni := ((checkP_eq x1).resolve_left (fun g => c2 g.1)).2
      have e4 : skywayref1_Good x1 = false := by
        cases hgd : skywayref1_Good x1
        · rfl
        · exfalso
          unfold skywayref1_Good at hgd
          simp at hgd
          exact hni ⟨by omega, by omega, by omega, by omega⟩
      simp only [e4, Bool.not_false, cond_true, h4]
      rfl
  · have e2 : (polygon_Check x0 != 0) = true := by simpa using c1
    simp only [e2, cond_true]
    simp
end Go.Sky
