/- A plot's place is near to what was seen: the geometry. Conditions: in each theorem. -/
import Derived.Test.YtakjcphknccdnaaDoorRadT
namespace Go.Sky
open Go Go.Eng

theorem nn_sq (x : Int) : 0 ≤ x * x := by
  rcases Int.le_total 0 x with g | g
  · exact Int.mul_nonneg g g
  · rw [← Int.neg_mul_neg]; exact Int.mul_nonneg (by omega) (by omega)
theorem sq_mono {x y : Int} (h0 : 0 ≤ x) (h : x ≤ y) : x * x ≤ y * y := Int.mul_le_mul h h h0 (by omega)
theorem sq_in {x y : Int} (h1 : -y ≤ x) (h2 : x ≤ y) : x * x ≤ y * y := by
  rcases Int.le_total 0 x with g | g
  · exact sq_mono g h2
  · rw [← Int.neg_mul_neg]; exact sq_mono (by omega) (by omega)
theorem in_sq {x y : Int} (hy : 0 ≤ y) (h : x * x ≤ y * y) : -y ≤ x ∧ x ≤ y := by
  constructor
  · rcases Int.lt_or_le x (-y) with g | g
    · exfalso
      have := sq_mono (x := y + 1) (y := -x) (by omega) (by omega)
      rw [Int.neg_mul_neg] at this
      have e : (y + 1) * (y + 1) = y * y + 2 * y + 1 := by grind
      omega
    · exact g
  · rcases Int.lt_or_le y x with g | g
    · exfalso
      have := sq_mono (x := y + 1) (y := x) (by omega) (by omega)
      have e : (y + 1) * (y + 1) = y * y + 2 * y + 1 := by grind
      omega
    · exact g
/-- A place within the sum of two distances. -/
theorem tri {a b c d R S : Int} (hR : 0 ≤ R) (hS : 0 ≤ S) (h1 : a * a + b * b ≤ R * R) (h2 : c * c + d * d ≤ S * S) : (a + c) * (a + c) + (b + d) * (b + d) ≤ (R + S) * (R + S) := by
  have hRS : 0 ≤ R * S := Int.mul_nonneg hR hS
  have e1 : (a * c + b * d) * (a * c + b * d) + (a * d - b * c) * (a * d - b * c) = (a * a + b * b) * (c * c + d * d) := by grind
  have e2 := nn_sq (a * d - b * c)
  have e3 : (a * a + b * b) * (c * c + d * d) ≤ (R * R) * (S * S) := Int.mul_le_mul h1 h2 (by have := nn_sq c; have := nn_sq d; omega) (nn_sq R)
  have e4 : (R * R) * (S * S) = (R * S) * (R * S) := by grind
  have key := (in_sq hRS (x := a * c + b * d) (by omega)).2
  have e7 : (a + c) * (a + c) + (b + d) * (b + d) = (a * a + b * b) + (c * c + d * d) + 2 * (a * c + b * d) := by grind
  have e8 : (R + S) * (R + S) = R * R + S * S + 2 * (R * S) := by grind
  omega
/-- A bound that holds after a multiplication. -/
theorem div_sq {a b R m : Int} (hm : 0 < m) (h : (m * a) * (m * a) + (m * b) * (m * b) ≤ (m * R) * (m * R)) : a * a + b * b ≤ R * R := by
  have e1 : (m * a) * (m * a) + (m * b) * (m * b) = (m * m) * (a * a + b * b) := by grind
  have e2 : (m * R) * (m * R) = (m * m) * (R * R) := by grind
  rw [e1, e2] at h
  exact Int.le_of_mul_le_mul_left h (Int.mul_pos hm hm)
theorem mul_sq {a b R m : Int} (hR : a * a + b * b ≤ R * R) : (m * a) * (m * a) + (m * b) * (m * b) ≤ (m * R) * (m * R) := by
  have e1 : (m * a) * (m * a) + (m * b) * (m * b) = (m * m) * (a * a + b * b) := by grind
  have e2 : (m * R) * (m * R) = (m * m) * (R * R) := by grind
  rw [e1, e2]
  exact Int.mul_le_mul_of_nonneg_left hR (nn_sq m)

/-! The table, in all four quarters. -/
theorem quarter_ind {Q : Nat → Prop} (h1 : ∀ k, k < 1024 → Q k) (h2 : ∀ k, Q k → Q (k + 1024)) : ∀ k, Q k := by
  have key : ∀ q i, i < 1024 → Q (i + 1024 * q) := by
    intro q
    induction q with
    | zero => intro i hi; exact h1 i hi
    | succ q ih =>
      intro i hi
      rw [show i + 1024 * (q + 1) = i + 1024 * q + 1024 by omega]
      exact h2 _ (ih i hi)
  intro k
  have := key (k / 1024) (k % 1024) (by omega)
  rwa [show k % 1024 + 1024 * (k / 1024) = k by omega] at this
theorem len_all (k : Nat) : (268412285 ≤ sn k * sn k + cs k * cs k ∧ sn k * sn k + cs k * cs k ≤ 268458627) ∧ (sn k - sn (k + 1)) * (sn k - sn (k + 1)) + (cs k - cs (k + 1)) * (cs k - cs (k + 1)) ≤ 729 := by
  refine quarter_ind (Q := fun k => (268412285 ≤ sn k * sn k + cs k * cs k ∧ sn k * sn k + cs k * cs k ≤ 268458627) ∧ (sn k - sn (k + 1)) * (sn k - sn (k + 1)) + (cs k - cs (k + 1)) * (cs k - cs (k + 1)) ≤ 729) ?_ ?_ k
  · intro k hk
    have h := allB_at _ 1024 0 len_ok k (by omega) (by omega)
    unfold lenB at h
    simp only [Bool.and_eq_true, decide_eq_true_eq] at h
    exact h
  · intro k h
    rw [show k + 1024 + 1 = k + 1 + 1024 by omega, sn_turn, sn_turn, cs_turn, cs_turn]
    generalize sn k = a at *; generalize cs k = b at *; generalize sn (k + 1) = c at *; generalize cs (k + 1) = d at *
    have e1 : b * b + -a * -a = a * a + b * b := by grind
    have e2 : (b - d) * (b - d) + (-a - -c) * (-a - -c) = (a - c) * (a - c) + (b - d) * (b - d) := by grind
    rw [e1, e2]; exact h
theorem chord_all (k j : Nat) (hj : j < 100) : 423801 * ((sn k - sn (k + j)) * (sn k - sn (k + j)) + (cs k - cs (k + j)) * (cs k - cs (k + j))) ≤ (16384 * ((j : Int) + 1) - 10416) * (16384 * ((j : Int) + 1) - 10416) := by
  refine quarter_ind (Q := fun k => 423801 * ((sn k - sn (k + j)) * (sn k - sn (k + j)) + (cs k - cs (k + j)) * (cs k - cs (k + j))) ≤ (16384 * ((j : Int) + 1) - 10416) * (16384 * ((j : Int) + 1) - 10416)) ?_ ?_ k
  · intro k hk
    have h : chordB k j = true := by
      by_cases c1 : k < 256
      · exact allB_at _ 100 0 (allB_at _ 256 0 chord_a k (by omega) (by omega)) j (by omega) (by omega)
      by_cases c2 : k < 512
      · exact allB_at _ 100 0 (allB_at _ 256 256 chord_b k (by omega) (by omega)) j (by omega) (by omega)
      by_cases c3 : k < 768
      · exact allB_at _ 100 0 (allB_at _ 256 512 chord_c k (by omega) (by omega)) j (by omega) (by omega)
      · exact allB_at _ 100 0 (allB_at _ 256 768 chord_d k (by omega) (by omega)) j (by omega) (by omega)
    exact of_decide_eq_true h
  · intro k h
    rw [show k + 1024 + j = k + j + 1024 by omega, sn_turn, sn_turn, cs_turn, cs_turn]
    generalize sn k = a at *; generalize cs k = b at *; generalize sn (k + j) = c at *; generalize cs (k + j) = d at *
    have e2 : (b - d) * (b - d) + (-a - -c) * (-a - -c) = (a - c) * (a - c) + (b - d) * (b - d) := by grind
    rw [e2]; exact h

/-- The direction h is the nearest one to (x, y), or as near. -/
def NearV (a b x y : Int) : Prop := 0 ≤ a * x + b * y ∧ 4 * ((b * x - a * y) * (b * x - a * y)) ≤ 729 * (x * x + y * y)
def NearD (h : Nat) (x y : Int) : Prop := NearV (sn h) (cs h) x y

set_option maxRecDepth 20000 in
theorem front_next {k : Nat} {x y : Int} (hk : k < 4096) (h : Sec k x y) : 0 ≤ sn (k + 1) * x + cs (k + 1) * y := by
  have first : ∀ (i : Nat) (x y : Int), i < 1024 → 0 ≤ x → 0 < y → 0 ≤ sn (i + 1) * x + cs (i + 1) * y := by
    intro i x y hi hx hy
    rw [sn_q (by omega), cs_q (by omega)]
    have a := Int.mul_nonneg (Int.natCast_nonneg (quart (i + 1))) hx
    have b := Int.mul_nonneg (Int.natCast_nonneg (quart (1024 - (i + 1)))) (Int.le_of_lt hy)
    omega
  have turn : ∀ (i : Nat) (x y : Int), 0 ≤ sn (i + 1) * -y + cs (i + 1) * x → 0 ≤ sn (i + 1024 + 1) * x + cs (i + 1024 + 1) * y := by
    intro i x y h
    rw [show i + 1024 + 1 = i + 1 + 1024 by omega, sn_turn, cs_turn]
    generalize sn (i + 1) = a at *; generalize cs (i + 1) = b at *
    have e : b * x + -a * y = a * -y + b * x := by grind
    rw [e]; exact h
  rcases sec_split hk h with a | a | a | a
  · exact first k x y a.1 a.2.1 a.2.2.1
  · have := first (k - 1024) (-y) x (by omega) a.2.2.1 a.2.2.2.1
    have t := turn (k - 1024) x y this
    rwa [show k - 1024 + 1024 = k by omega] at t
  · have := first (k - 2048) (-x) (-y) (by omega) a.2.2.1 a.2.2.2.1
    have t := turn (k - 2048) (-y) x (by exact this)
    have t2 := turn (k - 2048 + 1024) x y t
    rwa [show k - 2048 + 1024 + 1024 = k by omega] at t2
  · have := first (k - 3072) y (-x) (by omega) a.2.1 a.2.2.1
    have t := turn (k - 3072) (-x) (-y) (by rw [Int.neg_neg]; exact this)
    have t2 := turn (k - 3072 + 1024) (-y) x (by exact t)
    have t3 := turn (k - 3072 + 1024 + 1024) x y t2
    rwa [show k - 3072 + 1024 + 1024 + 1024 = k by omega] at t3
theorem cauchy (a b x y : Int) : (a * x + b * y) * (a * x + b * y) ≤ (a * a + b * b) * (x * x + y * y) := by
  have e : (a * x + b * y) * (a * x + b * y) + (a * y - b * x) * (a * y - b * x) = (a * a + b * b) * (x * x + y * y) := by grind
  have := nn_sq (a * y - b * x)
  omega
theorem near_of_sec {k : Nat} {x y : Int} (hk : k < 4096) (h : Sec k x y) :
    (cs k * x - sn k * y ≤ y * sn (k + 1) - x * cs (k + 1) → NearD k x y) ∧ (¬ cs k * x - sn k * y ≤ y * sn (k + 1) - x * cs (k + 1) → NearD (k + 1) x y) := by
  have hc := cauchy (cs k - cs (k + 1)) (-(sn k - sn (k + 1))) x y
  have hl := (len_all k).2
  have hf := front_next hk h
  obtain ⟨h1, h2, h3⟩ := h
  unfold NearD
  generalize sn k = a at *; generalize cs k = b at *; generalize sn (k + 1) = c at *; generalize cs (k + 1) = d at *
  have e0 : (b - d) * (b - d) + -(a - c) * -(a - c) = (a - c) * (a - c) + (b - d) * (b - d) := by grind
  rw [e0] at hc
  have hn : 0 ≤ x * x + y * y := by have := nn_sq x; have := nn_sq y; omega
  have h729 : ((a - c) * (a - c) + (b - d) * (b - d)) * (x * x + y * y) ≤ 729 * (x * x + y * y) := Int.mul_le_mul_of_nonneg_right hl hn
  have e1 : (b - d) * x + -(a - c) * y = (b * x - a * y) + (y * c - x * d) := by grind
  rw [e1] at hc
  generalize hp : b * x - a * y = p at *
  generalize hq : y * c - x * d = q at *
  constructor
  · intro hle
    have s := sq_mono (x := 2 * p) (y := p + q) (by omega) (by omega)
    have e2 : (2 * p) * (2 * p) = 4 * (p * p) := by grind
    exact ⟨by omega, by rw [hp]; omega⟩
  · intro hlt
    have s := sq_mono (x := 2 * q) (y := p + q) (by omega) (by omega)
    have e2 : (2 * q) * (2 * q) = 4 * (q * q) := by grind
    have e3 : d * x - c * y = -q := by rw [← hq]; grind
    exact ⟨hf, by rw [e3, Int.neg_mul_neg]; omega⟩
theorem NearD.round {k : Nat} {x y : Int} (h : NearD k x y) : NearD (k % 4096) x y := by
  unfold NearD at *
  rw [sn_round, cs_round]; exact h

section
variable {h : Nat} {x y r : Int}
/-- The vector, and as long a one in its nearest direction. -/
theorem away (hN : NearD h x y) (hr : 0 ≤ r) (h1 : r * r ≤ x * x + y * y) (h2 : x * x + y * y < (r + 1) * (r + 1)) :
    (16384 * x - r * sn h) * (16384 * x - r * sn h) + (16384 * y - r * cs h) * (16384 * y - r * cs h) ≤ (16 * r + 16401) * (16 * r + 16401) := by
  obtain ⟨f, sd⟩ := hN
  have hU := (len_all h).1
  generalize sn h = a at *; generalize cs h = b at *
  obtain ⟨U, eU⟩ : ∃ U, a * a + b * b = U := ⟨_, rfl⟩
  obtain ⟨n, en⟩ : ∃ n, x * x + y * y = n := ⟨_, rfl⟩
  obtain ⟨g, eg⟩ : ∃ g, a * x + b * y = g := ⟨_, rfl⟩
  obtain ⟨c, ec⟩ : ∃ c, b * x - a * y = c := ⟨_, rfl⟩
  have lag : g * g + c * c = n * U := by rw [← eg, ← ec, ← en, ← eU]; grind
  have ident : U * ((16384 * x - r * a) * (16384 * x - r * a) + (16384 * y - r * b) * (16384 * y - r * b)) = (16384 * g - U * r) * (16384 * g - U * r) + (16384 * c) * (16384 * c) := by
    have i1 : (16384 * x - r * a) * (16384 * x - r * a) + (16384 * y - r * b) * (16384 * y - r * b) = 268435456 * n - 32768 * r * g + r * r * U := by rw [← en, ← eg, ← eU]; grind
    have i2 : (16384 * g - U * r) * (16384 * g - U * r) + (16384 * c) * (16384 * c) = 268435456 * (g * g + c * c) - 32768 * g * U * r + U * r * (U * r) := by grind
    rw [i1, i2, lag]; grind
  rw [eU] at hU
  rw [eg] at f
  rw [ec, en] at sd
  rw [en] at h1 h2
  have cc := nn_sq c
  have n0 : 0 ≤ n := by have := nn_sq r; omega
  -- g from above
  have g1 : g * g ≤ (16385 * (r + 1)) * (16385 * (r + 1)) := by
    have q1 : n * U ≤ ((r + 1) * (r + 1)) * 268468225 := Int.mul_le_mul (by omega) (by omega) (by omega) (nn_sq _)
    have q2 : (16385 * (r + 1)) * (16385 * (r + 1)) = ((r + 1) * (r + 1)) * 268468225 := by grind
    omega
  have g2 := (in_sq (by omega) g1).2
  -- g from below
  have g3 : (16383 * r) * (16383 * r) ≤ g * g := by
    have q1 : (r * r) * 1073648411 ≤ n * (4 * U - 729) := Int.mul_le_mul h1 (by omega) (by omega) n0
    have q2 : n * (4 * U - 729) = 4 * (n * U) - 729 * n := by grind
    have q3 : (16383 * r) * (16383 * r) = (r * r) * 268402689 := by grind
    have := nn_sq r
    omega
  have g4 : 16383 * r ≤ g := by
    rcases Int.lt_or_le g (16383 * r) with hlt | hle
    · exfalso
      have := sq_mono (x := g + 1) (y := 16383 * r) (by omega) (by omega)
      have e : (g + 1) * (g + 1) = g * g + 2 * g + 1 := by grind
      omega
    · exact hle
  -- along
  have ur1 : U * r ≤ 268458627 * r := Int.mul_le_mul_of_nonneg_right (by omega) hr
  have ur2 : 268412285 * r ≤ U * r := Int.mul_le_mul_of_nonneg_right (by omega) hr
  have al1 : 16384 * g - U * r ≤ 39555 * r + 268451840 := by omega
  have al2 : -(39555 * r + 268451840) ≤ 16384 * g - U * r := by omega
  -- across
  have c1 : (2 * c) * (2 * c) ≤ (27 * (r + 1)) * (27 * (r + 1)) := by
    have q1 : (2 * c) * (2 * c) = 4 * (c * c) := by grind
    have q2 : (27 * (r + 1)) * (27 * (r + 1)) = 729 * ((r + 1) * (r + 1)) := by grind
    omega
  have c2 := in_sq (by omega) c1
  have b1 : (16384 * g - U * r) * (16384 * g - U * r) ≤ (39555 * r + 268451840) * (39555 * r + 268451840) := sq_in al2 al1
  have b2 : (16384 * c) * (16384 * c) ≤ (221184 * (r + 1)) * (221184 * (r + 1)) := sq_in (by omega) (by omega)
  have b3 : (39555 * r + 268451840) * (39555 * r + 268451840) + (221184 * (r + 1)) * (221184 * (r + 1)) ≤ (39555 * r + 268451840 + 221184 * (r + 1)) * (39555 * r + 268451840 + 221184 * (r + 1)) := by
    have q := Int.mul_nonneg (show 0 ≤ 39555 * r + 268451840 by omega) (show 0 ≤ 221184 * (r + 1) by omega)
    generalize 39555 * r + 268451840 = A at *
    generalize 221184 * (r + 1) = B at *
    have e : (A + B) * (A + B) = A * A + B * B + 2 * (A * B) := by grind
    omega
  have b4 : (39555 * r + 268451840 + 221184 * (r + 1)) * (39555 * r + 268451840 + 221184 * (r + 1)) ≤ (16383 * (16 * r + 16401)) * (16383 * (16 * r + 16401)) := sq_mono (by omega) (by omega)
  have b5 : (16383 * (16 * r + 16401)) * (16383 * (16 * r + 16401)) ≤ U * ((16 * r + 16401) * (16 * r + 16401)) := by
    have q : (16383 * (16 * r + 16401)) * (16383 * (16 * r + 16401)) = 268402689 * ((16 * r + 16401) * (16 * r + 16401)) := by grind
    rw [q]
    exact Int.mul_le_mul_of_nonneg_right (by omega) (nn_sq _)
  refine Int.le_of_mul_le_mul_left (a := U) ?_ (by omega)
  omega
/-- .. of another length. -/
theorem away_rho {p : Int} (hN : NearD h x y) (hr : 0 ≤ r) (h1 : r * r ≤ x * x + y * y) (h2 : x * x + y * y < (r + 1) * (r + 1)) (hp : 0 ≤ p) {m : Int} (hm1 : p - r ≤ m) (hm2 : r - p ≤ m) :
    (16384 * x - p * sn h) * (16384 * x - p * sn h) + (16384 * y - p * cs h) * (16384 * y - p * cs h) ≤ (16384 * m + 16 * p + 16401) * (16384 * m + 16 * p + 16401) := by
  have hE := away hN hr h1 h2
  have hU := (len_all h).1
  generalize sn h = a at *; generalize cs h = b at *
  by_cases c : r ≤ p
  · have q1 : (-((p - r) * a)) * (-((p - r) * a)) + (-((p - r) * b)) * (-((p - r) * b)) ≤ (16385 * (p - r)) * (16385 * (p - r)) := by
      have e1 : (-((p - r) * a)) * (-((p - r) * a)) + (-((p - r) * b)) * (-((p - r) * b)) = ((p - r) * (p - r)) * (a * a + b * b) := by grind
      have e2 : (16385 * (p - r)) * (16385 * (p - r)) = ((p - r) * (p - r)) * 268468225 := by grind
      rw [e1, e2]
      exact Int.mul_le_mul_of_nonneg_left (by omega) (nn_sq _)
    have t := tri (by omega) (by omega) hE q1
    have e3 : 16384 * x - r * a + -((p - r) * a) = 16384 * x - p * a := by grind
    have e4 : 16384 * y - r * b + -((p - r) * b) = 16384 * y - p * b := by grind
    rw [e3, e4] at t
    exact Int.le_trans t (sq_mono (by omega) (by omega))
  · have hrp : 0 < r := by omega
    refine Int.le_trans ?_ (sq_mono (x := 16384 * (r - p) + 16 * p + 16401) (by omega) (by omega))
    refine div_sq hrp ?_
    have q1 : (16384 * (r - p) * x) * (16384 * (r - p) * x) + (16384 * (r - p) * y) * (16384 * (r - p) * y) ≤ (16384 * (r - p) * (r + 1)) * (16384 * (r - p) * (r + 1)) := by
      refine mul_sq ?_
      omega
    have q2 := mul_sq (m := p) hE
    have n1 : 0 ≤ 16384 * (r - p) * (r + 1) := Int.mul_nonneg (by omega) (by omega)
    have n2 : 0 ≤ p * (16 * r + 16401) := Int.mul_nonneg hp (by omega)
    have t := tri n1 n2 q1 q2
    have e3 : 16384 * (r - p) * x + p * (16384 * x - r * a) = r * (16384 * x - p * a) := by grind
    have e4 : 16384 * (r - p) * y + p * (16384 * y - r * b) = r * (16384 * y - p * b) := by grind
    rw [e3, e4] at t
    refine Int.le_trans t (sq_mono (by omega) ?_)
    have e5 : r * (16384 * (r - p) + 16 * p + 16401) - (16384 * (r - p) * (r + 1) + p * (16 * r + 16401)) = 17 * (r - p) := by grind
    omega
/-- The place of a plot whose range and azimuth are wrong, rounded, is as near as the bound says. -/
theorem place_near {p A R e vx vy : Int} {g j : Nat} (hN : NearD h x y) (hr : 0 ≤ r) (h1 : r * r ≤ x * x + y * y) (h2 : x * x + y * y < (r + 1) * (r + 1)) (hp : 0 ≤ p) (hm1 : p - r ≤ R - 1) (hm2 : r - p ≤ R - 1)
    (hg : g = h + j ∨ h = g + j) (hj : (j : Int) + 1 ≤ A) (hA : A ≤ 100) (hvx : -8192 ≤ p * sn g - 16384 * vx ∧ p * sn g - 16384 * vx ≤ 8192) (hvy : -8192 ≤ p * cs g - 16384 * vy ∧ p * cs g - 16384 * vy ≤ 8192)
    (he : 651 * (R + 2) + p * A ≤ 651 * e) : (x - vx) * (x - vx) + (y - vy) * (y - vy) ≤ e * e := by
  have t1 := mul_sq (m := 651) (away_rho hN hr h1 h2 hp hm1 hm2)
  have hch : 423801 * ((sn h - sn g) * (sn h - sn g) + (cs h - cs g) * (cs h - cs g)) ≤ (16384 * ((j : Int) + 1) - 10416) * (16384 * ((j : Int) + 1) - 10416) := by
    rcases hg with rfl | rfl
    · exact chord_all h j (by omega)
    · have := chord_all g j (by omega)
      generalize sn g = a at *; generalize cs g = b at *; generalize sn (g + j) = c at *; generalize cs (g + j) = d at *
      have e : (c - a) * (c - a) + (d - b) * (d - b) = (a - c) * (a - c) + (b - d) * (b - d) := by grind
      rw [e]; exact this
  have hch2 : (651 * (sn h - sn g)) * (651 * (sn h - sn g)) + (651 * (cs h - cs g)) * (651 * (cs h - cs g)) ≤ (16384 * A - 10416) * (16384 * A - 10416) := by
    have e : (651 * (sn h - sn g)) * (651 * (sn h - sn g)) + (651 * (cs h - cs g)) * (651 * (cs h - cs g)) = 423801 * ((sn h - sn g) * (sn h - sn g) + (cs h - cs g) * (cs h - cs g)) := by grind
    rw [e]
    exact Int.le_trans hch (sq_mono (by omega) (by omega))
  have t2 := mul_sq (m := p) hch2
  have t3 : (651 * (p * sn g - 16384 * vx)) * (651 * (p * sn g - 16384 * vx)) + (651 * (p * cs g - 16384 * vy)) * (651 * (p * cs g - 16384 * vy)) ≤ (651 * 11586) * (651 * 11586) := by
    refine mul_sq ?_
    have a := sq_in hvx.1 hvx.2
    have b := sq_in hvy.1 hvy.2
    omega
  have n2 : 0 ≤ p * (16384 * A - 10416) := Int.mul_nonneg hp (by omega)
  have u1 := tri (by omega) n2 t1 t2
  have u2 := tri (by omega) (by decide) u1 t3
  generalize sn h = a at *; generalize cs h = b at *; generalize sn g = c at *; generalize cs g = d at *
  have e1 : 651 * (16384 * x - p * a) + p * (651 * (a - c)) + 651 * (p * c - 16384 * vx) = 10665984 * (x - vx) := by grind
  have e2 : 651 * (16384 * y - p * b) + p * (651 * (b - d)) + 651 * (p * d - 16384 * vy) = 10665984 * (y - vy) := by grind
  rw [e1, e2] at u2
  refine div_sq (m := 10665984) (by decide) (Int.le_trans u2 (sq_mono (by omega) ?_))
  have e3 : p * (16384 * A - 10416) = 16384 * (p * A) - 10416 * p := by grind
  omega
end
end Go.Sky
