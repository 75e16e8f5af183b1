/- A course: its places and velocities. Conditions: in each theorem. -/
import Derived.Test.YtkjdmkgacmkpjaaWg
import Derived.Test.YtkjdmkgacmkpjaaPred
namespace Go.Sky
open Go Go.Eng Go.Glue

def nextv (pushes : List Int) (accel : Int) (k : Nat) (v : P) : P :=
  cond (decide ((k : Int) ≥ (pushes.length : Int))) v (
    cond (((((k : Int).tmod 2) == 0) && (decide ((w64 (v.X + skywaykeep2_within (pushes[k]?.getD 0) (w64 (0 - accel)) accel)) ≥ (-200)))) && (decide ((w64 (v.X + skywaykeep2_within (pushes[k]?.getD 0) (w64 (0 - accel)) accel)) ≤ 200)))
      (cond (((((k : Int).tmod 2) == 1) && (decide ((w64 (v.Y + skywaykeep2_within (pushes[k]?.getD 0) (w64 (0 - accel)) accel)) ≥ (-200)))) && (decide ((w64 (v.Y + skywaykeep2_within (pushes[k]?.getD 0) (w64 (0 - accel)) accel)) ≤ 200)))
        ⟨w64 (v.X + skywaykeep2_within (pushes[k]?.getD 0) (w64 (0 - accel)) accel), w64 (v.Y + skywaykeep2_within (pushes[k]?.getD 0) (w64 (0 - accel)) accel)⟩
        ⟨w64 (v.X + skywaykeep2_within (pushes[k]?.getD 0) (w64 (0 - accel)) accel), v.Y⟩)
      (cond (((((k : Int).tmod 2) == 1) && (decide ((w64 (v.Y + skywaykeep2_within (pushes[k]?.getD 0) (w64 (0 - accel)) accel)) ≥ (-200)))) && (decide ((w64 (v.Y + skywaykeep2_within (pushes[k]?.getD 0) (w64 (0 - accel)) accel)) ≤ 200)))
        ⟨v.X, w64 (v.Y + skywaykeep2_within (pushes[k]?.getD 0) (w64 (0 - accel)) accel)⟩ v))
def padd (p v : P) : P := ⟨w64 (p.X + v.X), w64 (p.Y + v.Y)⟩
theorem course_step (pushes : List Int) (accel : Int) (m k : Nat) (out : List P) (p v : P) :
    skywaykeep2_course_L1 pushes accel (m + 1) k out p v = skywaykeep2_course_L1 pushes accel m (k + 1) (out ++ [padd p v]) (padd p v) (nextv pushes accel k v) := by
  conv => lhs; unfold skywaykeep2_course_L1
  unfold nextv padd
  cases decide ((k : Int) ≥ (pushes.length : Int))
  · simp only [cond_false]
    cases (((((k : Int).tmod 2) == 0) && (decide ((w64 (v.X + skywaykeep2_within (pushes[k]?.getD 0) (w64 (0 - accel)) accel)) ≥ (-200)))) && (decide ((w64 (v.X + skywaykeep2_within (pushes[k]?.getD 0) (w64 (0 - accel)) accel)) ≤ 200))) <;>
    cases (((((k : Int).tmod 2) == 1) && (decide ((w64 (v.Y + skywaykeep2_within (pushes[k]?.getD 0) (w64 (0 - accel)) accel)) ≥ (-200)))) && (decide ((w64 (v.Y + skywaykeep2_within (pushes[k]?.getD 0) (w64 (0 - accel)) accel)) ≤ 200))) <;> rfl
  · rfl
def pv (pushes : List Int) (accel : Int) (p0 v0 : P) : Nat → P × P
  | 0 => (p0, v0)
  | k + 1 => (padd (pv pushes accel p0 v0 k).1 (pv pushes accel p0 v0 k).2, nextv pushes accel k (pv pushes accel p0 v0 k).2)
theorem course_list (pushes : List Int) (accel : Int) (p0 v0 : P) : ∀ (m k : Nat) (out : List P),
    (skywaykeep2_course_L1 pushes accel m k out (pv pushes accel p0 v0 k).1 (pv pushes accel p0 v0 k).2).1 = out ++ (List.range m).map (fun i => (pv pushes accel p0 v0 (k + 1 + i)).1)
  | 0, k, out => by simp [skywaykeep2_course_L1]
  | m + 1, k, out => by
    rw [course_step]
    have ih := course_list pushes accel p0 v0 m (k + 1) (out ++ [padd (pv pushes accel p0 v0 k).1 (pv pushes accel p0 v0 k).2])
    have e : (pv pushes accel p0 v0 (k + 1)) = (padd (pv pushes accel p0 v0 k).1 (pv pushes accel p0 v0 k).2, nextv pushes accel k (pv pushes accel p0 v0 k).2) := rfl
    rw [e] at ih
    rw [ih, List.range_succ_eq_map, List.map_cons, List.map_map, List.append_assoc]
    congr 1
    show _ :: _ = _ :: _
    congr 1
    refine List.map_congr_left (fun i _ => ?_)
    show _ = (pv pushes accel p0 v0 (k + 1 + (i + 1))).1
    rw [show k + 1 + 1 + i = k + 1 + (i + 1) by omega]

/-- A ball: the length of a vector is at most R. -/
def Ball (x y R : Int) : Prop := 0 ≤ R ∧ x * x + y * y ≤ R * R
theorem Ball.add {x y R a b S : Int} (h : Ball x y R) (g : Ball a b S) : Ball (x + a) (y + b) (R + S) := ⟨by have := h.1; have := g.1; omega, triangle h.1 g.1 h.2 g.2⟩
theorem Ball.mono {x y R S : Int} (h : Ball x y R) (hs : R ≤ S) : Ball x y S := ⟨by have := h.1; omega, by have := Int.mul_le_mul hs hs h.1 (by have := h.1; omega : (0 : Int) ≤ S); have := h.2; omega⟩
theorem Ball.scale {x y R k : Int} (h : Ball x y R) (hk : 0 ≤ k) : Ball (k * x) (k * y) (k * R) := by
  refine ⟨Int.mul_nonneg hk h.1, ?_⟩
  have e1 : k * x * (k * x) + k * y * (k * y) = k * k * (x * x + y * y) := by grind
  have e2 : k * R * (k * R) = k * k * (R * R) := by grind
  rw [e1, e2]
  exact Int.mul_le_mul_of_nonneg_left h.2 (Int.mul_nonneg hk hk)
theorem Ball.unscale {x y R k : Int} (hk : 0 < k) (h : Ball (k * x) (k * y) (k * R)) : Ball x y R := by
  refine ⟨by rcases Int.lt_or_le R 0 with g | g; · have := Int.mul_neg_of_pos_of_neg hk g; have := h.1; omega
             · exact g, ?_⟩
  have e1 : k * x * (k * x) + k * y * (k * y) = k * k * (x * x + y * y) := by grind
  have e2 : k * R * (k * R) = k * k * (R * R) := by grind
  have h2 := h.2
  rw [e1, e2] at h2
  exact Int.le_of_mul_le_mul_left h2 (Int.mul_pos hk hk)
theorem Ball.box {x y b R : Int} (hx : -b ≤ x ∧ x ≤ b) (hy : -b ≤ y ∧ y ≤ b) (hR : 0 ≤ R) (h : 2 * (b * b) ≤ R * R) : Ball x y R := ⟨hR, by have := sq_bound hx; have := sq_bound hy; omega⟩
theorem Ball.axis {x R : Int} (h : -R ≤ x ∧ x ≤ R) : Ball x 0 R ∧ Ball 0 x R := by
  have := sq_bound h
  exact ⟨⟨by omega, by omega⟩, ⟨by omega, by omega⟩⟩
theorem Ball.neg {x y R : Int} (h : Ball x y R) : Ball (-x) (-y) R := ⟨h.1, by rw [Int.neg_mul_neg, Int.neg_mul_neg]; exact h.2⟩
theorem Ball.abs {x y R : Int} (h : Ball x y R) : (-R ≤ x ∧ x ≤ R) ∧ (-R ≤ y ∧ y ≤ R) := by
  have nn : ∀ z : Int, 0 ≤ z * z := fun z => by
    rcases Int.le_total 0 z with g | g
    · exact Int.mul_nonneg g g
    · rw [← Int.neg_mul_neg]; exact Int.mul_nonneg (by omega) (by omega)
  have key : ∀ z : Int, z * z ≤ R * R → -R ≤ z ∧ z ≤ R := by
    intro z hz
    have h0 := h.1
    constructor
    · rcases Int.lt_or_le z (-R) with g | g
      · have : (R + 1) * (R + 1) ≤ (-z) * (-z) := Int.mul_le_mul (by omega) (by omega) (by omega) (by omega)
        rw [Int.neg_mul_neg] at this
        have e : (R + 1) * (R + 1) = R * R + 2 * R + 1 := by grind
        omega
      · exact g
    · rcases Int.lt_or_le R z with g | g
      · have : (R + 1) * (R + 1) ≤ z * z := Int.mul_le_mul (by omega) (by omega) (by omega) (by omega)
        have e : (R + 1) * (R + 1) = R * R + 2 * R + 1 := by grind
        omega
      · exact g
  have n1 := nn x
  have n2 := nn y
  have h2 := h.2
  exact ⟨key x (by omega), key y (by omega)⟩
end Go.Sky
