/- Mixing two estimates, and the velocity seen between two spots. Conditions: in each theorem. -/
import Derived.Test.YtkjdmkgacmkpjaaInv
namespace Go.Sky
open Go Go.Eng Go.Glue

theorem mix_ball {ax ay bx b_y x y g A B : Int} (hA : Ball (ax - x) (ay - y) A) (hB : Ball (bx - x) (b_y - y) B) (hg : 0 ≤ g ∧ g ≤ 256) :
    Ball (ax + (bx - ax) * g / 256 - x) (ay + (b_y - ay) * g / 256 - y) (-(-((256 - g) * A + g * B) / 256) + 2) := by
  obtain ⟨rx, hrx⟩ : ∃ r, r = (bx - ax) * g % 256 := ⟨_, rfl⟩
  obtain ⟨ry, hry⟩ : ∃ r, r = (b_y - ay) * g % 256 := ⟨_, rfl⟩
  have b3 : Ball (-rx) (-ry) 512 := Ball.box (b := 255) (by omega) (by omega) (by omega) (by decide)
  have b := ((hA.scale (k := 256 - g) (by omega)).add (hB.scale (k := g) hg.1)).add b3
  have g1 : (256 - g) * (ax - x) + g * (bx - x) + -rx = 256 * (ax + (bx - ax) * g / 256 - x) := by
    have e : (256 - g) * (ax - x) + g * (bx - x) = 256 * (ax - x) + (bx - ax) * g := by grind
    omega
  have g2 : (256 - g) * (ay - y) + g * (b_y - y) + -ry = 256 * (ay + (b_y - ay) * g / 256 - y) := by
    have e : (256 - g) * (ay - y) + g * (b_y - y) = 256 * (ay - y) + (b_y - ay) * g := by grind
    omega
  rw [g1, g2] at b
  exact Ball.unscale (k := 256) (by decide) (b.mono (by omega))

/-- The velocity seen between two spots. -/
theorem seen_ball {x v : Nat → P} {accel : Int} {K : Nat} (h : Run x v accel K) {t d : Nat} (hd : t + d ≤ K) (hd1 : 1 ≤ d) {s l : P} {E L : Int} (hs : Ball (s.X - (x (t + d)).X) (s.Y - (x (t + d)).Y) E) (hl : Ball (l.X - (x t).X) (l.Y - (x t).Y) L) :
    Ball (16 * (s.X - l.X) / (d : Int) - 16 * (v (t + d)).X) (16 * (s.Y - l.Y) / (d : Int) - 16 * (v (t + d)).Y) (-(-(16 * (E + L)) / (d : Int)) + 16 * accel * (d : Int) + 2) := by
  have ha := h.acc
  have hdp : (0 : Int) < (d : Int) := by omega
  obtain ⟨rx, hrx⟩ : ∃ r, r = 16 * (s.X - l.X) % (d : Int) := ⟨_, rfl⟩
  obtain ⟨ry, hry⟩ : ∃ r, r = 16 * (s.Y - l.Y) % (d : Int) := ⟨_, rfl⟩
  have rx0 := Int.emod_nonneg (16 * (s.X - l.X)) (show (d : Int) ≠ 0 by omega)
  have rx1 := Int.emod_lt_of_pos (16 * (s.X - l.X)) hdp
  have ry0 := Int.emod_nonneg (16 * (s.Y - l.Y)) (show (d : Int) ≠ 0 by omega)
  have ry1 := Int.emod_lt_of_pos (16 * (s.Y - l.Y)) hdp
  have qx := Int.mul_ediv_add_emod (16 * (s.X - l.X)) (d : Int)
  have qy := Int.mul_ediv_add_emod (16 * (s.Y - l.Y)) (d : Int)
  rw [← hrx] at rx0 rx1 qx
  rw [← hry] at ry0 ry1 qy
  have dd : (2 : Int) * ((d : Int) * (d : Int)) ≤ 2 * (d : Int) * (2 * (d : Int)) := by
    have e : 2 * (d : Int) * (2 * (d : Int)) = 4 * ((d : Int) * (d : Int)) := by grind
    have := Int.mul_nonneg (show (0 : Int) ≤ (d : Int) by omega) (show (0 : Int) ≤ (d : Int) by omega)
    omega
  have b3 : Ball (-rx) (-ry) (2 * (d : Int)) := Ball.box (b := (d : Int)) (by omega) (by omega) (by omega) dd
  have b := (((hs.scale (k := 16) (by omega)).add (hl.neg.scale (k := 16) (by omega))).add ((h.behind t d hd).scale (k := 8) (by omega))).add b3
  have g1 : 16 * (s.X - (x (t + d)).X) + 16 * -(l.X - (x t).X) + 8 * (2 * ((x (t + d)).X - (x t).X - (d : Int) * (v (t + d)).X)) + -rx = (d : Int) * (16 * (s.X - l.X) / (d : Int) - 16 * (v (t + d)).X) := by
    have e : (d : Int) * (16 * (s.X - l.X) / (d : Int) - 16 * (v (t + d)).X) = (d : Int) * (16 * (s.X - l.X) / (d : Int)) - 16 * ((d : Int) * (v (t + d)).X) := by grind
    omega
  have g2 : 16 * (s.Y - (x (t + d)).Y) + 16 * -(l.Y - (x t).Y) + 8 * (2 * ((x (t + d)).Y - (x t).Y - (d : Int) * (v (t + d)).Y)) + -ry = (d : Int) * (16 * (s.Y - l.Y) / (d : Int) - 16 * (v (t + d)).Y) := by
    have e : (d : Int) * (16 * (s.Y - l.Y) / (d : Int) - 16 * (v (t + d)).Y) = (d : Int) * (16 * (s.Y - l.Y) / (d : Int)) - 16 * ((d : Int) * (v (t + d)).Y) := by grind
    omega
  rw [g1, g2] at b
  refine Ball.unscale hdp (b.mono ?_)
  have u := Int.mul_ediv_add_emod (-(16 * (E + L))) (d : Int)
  have u0 := Int.emod_nonneg (-(16 * (E + L))) (show (d : Int) ≠ 0 by omega)
  have e1 : (d : Int) * (-(-(16 * (E + L)) / (d : Int)) + 16 * accel * (d : Int) + 2) = -((d : Int) * (-(16 * (E + L)) / (d : Int))) + 16 * (accel * (d : Int) * (d : Int)) + 2 * (d : Int) := by grind
  have e2 : accel * (d : Int) * ((d : Int) + 1) = accel * (d : Int) * (d : Int) + accel * (d : Int) := by rw [Int.mul_add, Int.mul_one]
  have m1 : accel * (d : Int) * 1 ≤ accel * (d : Int) * (d : Int) := Int.mul_le_mul_of_nonneg_left (by omega) (Int.mul_nonneg ha.1 (by omega))
  rw [e1, e2]
  omega

theorem mix_eq {a b g : Int} (ha : -10000000 ≤ a ∧ a ≤ 10000000) (hb : -10000000 ≤ b ∧ b ≤ 10000000) (hg : 0 ≤ g ∧ g ≤ 256) : filter_mix a b g = a + (b - a) * g / 256 := by
  have m := mul_in (a := b - a) (A := 20000000) (by omega) hg
  unfold filter_mix filter_down
  rw [w64_id (x := b - a) (by omega), w64_id (x := (b - a) * g) (by omega), divDown_eq (by decide) (by omega)]
  show w64 (a + (b - a) * g / 256) = _
  rw [w64_id (by omega)]
/-- A mixed number lies between its parts. -/
theorem mix_between {a b g lo hi : Int} (ha : lo ≤ a ∧ a ≤ hi) (hb : lo ≤ b ∧ b ≤ hi) (hg : 0 ≤ g ∧ g ≤ 256) : lo ≤ a + (b - a) * g / 256 ∧ a + (b - a) * g / 256 ≤ hi := by
  have l1 : (lo - a) * g ≤ (b - a) * g := Int.mul_le_mul_of_nonneg_right (by omega) hg.1
  have l2 : (lo - a) * 256 ≤ (lo - a) * g := Int.mul_le_mul_of_nonpos_left (by omega) hg.2
  have u1 : (b - a) * g ≤ (hi - a) * g := Int.mul_le_mul_of_nonneg_right (by omega) hg.1
  have u2 : (hi - a) * g ≤ (hi - a) * 256 := Int.mul_le_mul_of_nonneg_left hg.2 (by omega)
  omega
/-- The mixed bound is at most the greater one. -/
theorem up_le {A B g M : Int} (hA : 0 ≤ A ∧ A ≤ M) (hB : 0 ≤ B ∧ B ≤ M) (hg : 0 ≤ g ∧ g ≤ 256) : (0 ≤ (256 - g) * A + g * B ∧ (256 - g) * A + g * B ≤ 256 * M) ∧ 0 ≤ -(-((256 - g) * A + g * B) / 256) ∧ -(-((256 - g) * A + g * B) / 256) ≤ M := by
  have h1 : 0 ≤ (256 - g) * A := Int.mul_nonneg (by omega) hA.1
  have h2 : 0 ≤ g * B := Int.mul_nonneg hg.1 hB.1
  have h3 : (256 - g) * A ≤ (256 - g) * M := Int.mul_le_mul_of_nonneg_left hA.2 (by omega)
  have h4 : g * B ≤ g * M := Int.mul_le_mul_of_nonneg_left hB.2 hg.1
  have h5 : (256 - g) * M + g * M = 256 * M := by grind
  omega
end Go.Sky
