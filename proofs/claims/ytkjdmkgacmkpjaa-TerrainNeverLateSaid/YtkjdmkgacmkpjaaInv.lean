/- What a track knows of an aircraft on a course, and that Predict keeps it. Conditions: in each theorem. -/
import Derived.Test.YtkjdmkgacmkpjaaCourseTwo
namespace Go.Sky
open Go Go.Eng Go.Glue

/-- A course in exact numbers: places x, velocities v, and the change of the velocity in each second, up to second K. -/
structure Run (x v : Nat → P) (accel : Int) (K : Nat) : Prop where
  acc : 0 ≤ accel ∧ accel ≤ 1000
  vel : ∀ k, k ≤ K → (-200 ≤ (v k).X ∧ (v k).X ≤ 200) ∧ (-200 ≤ (v k).Y ∧ (v k).Y ≤ 200)
  pos : ∀ k, k ≤ K → (-112000 ≤ (x k).X ∧ (x k).X ≤ 112000) ∧ (-112000 ≤ (x k).Y ∧ (x k).Y ≤ 112000)
  step : ∀ k, k < K → (x (k + 1)).X = (x k).X + (v k).X ∧ (x (k + 1)).Y = (x k).Y + (v k).Y
  turn : ∀ k, k < K → Ball ((v (k + 1)).X - (v k).X) ((v (k + 1)).Y - (v k).Y) accel

theorem pv_run {pushes : List Int} {accel : Int} (ha : 0 ≤ accel ∧ accel ≤ 1000) {p0 v0 : P} (hp : (-100000 ≤ p0.X ∧ p0.X ≤ 100000) ∧ (-100000 ≤ p0.Y ∧ p0.Y ≤ 100000)) (hv : (-200 ≤ v0.X ∧ v0.X ≤ 200) ∧ (-200 ≤ v0.Y ∧ v0.Y ≤ 200)) :
    Run (fun k => (pv pushes accel p0 v0 k).1) (fun k => (pv pushes accel p0 v0 k).2) accel 60 where
  acc := ha
  vel k hk := (pv_ok ha hp hv k (by omega)).2.1
  pos k hk := by have := (pv_ok (pushes := pushes) ha hp hv k (by omega)).1; omega
  step k hk := (pv_ok ha hp hv k (by omega)).2.2.1
  turn k hk := (pv_ok ha hp hv k (by omega)).2.2.2

theorem Run.veld {x v : Nat → P} {accel : Int} {K : Nat} (h : Run x v accel K) (t : Nat) : ∀ d : Nat, t + d ≤ K → Ball ((v (t + d)).X - (v t).X) ((v (t + d)).Y - (v t).Y) (accel * (d : Int))
  | 0, _ => by
    rw [Nat.add_zero, Int.sub_self, Int.sub_self]
    exact Ball.box (b := 0) (by omega) (by omega) (by simp) (by simp)
  | d + 1, hd => by
    have ih := Run.veld h t d (by omega)
    have s := ih.add (h.turn (t + d) (by omega))
    rw [show (v (t + d)).X - (v t).X + ((v (t + d + 1)).X - (v (t + d)).X) = (v (t + d + 1)).X - (v t).X by omega, show (v (t + d)).Y - (v t).Y + ((v (t + d + 1)).Y - (v (t + d)).Y) = (v (t + d + 1)).Y - (v t).Y by omega] at s
    rw [show t + (d + 1) = t + d + 1 by omega, show accel * ((d + 1 : Nat) : Int) = accel * (d : Int) + accel by rw [Int.natCast_succ, Int.mul_add, Int.mul_one]]
    exact s
/-- The way ahead, against the velocity at its start (doubled). -/
theorem Run.ahead {x v : Nat → P} {accel : Int} {K : Nat} (h : Run x v accel K) (t : Nat) : ∀ d : Nat, t + d ≤ K →
    Ball (2 * ((x (t + d)).X - (x t).X - (d : Int) * (v t).X)) (2 * ((x (t + d)).Y - (x t).Y - (d : Int) * (v t).Y)) (accel * (d : Int) * ((d : Int) - 1))
  | 0, _ => by
    rw [Nat.add_zero]
    refine Ball.box (b := 0) (by simp) (by simp) (by simp) (by simp)
  | d + 1, hd => by
    have ih := Run.ahead h t d (by omega)
    have s := ih.add ((Run.veld h t d (by omega)).scale (k := 2) (by omega))
    obtain ⟨e1, e2⟩ := h.step (t + d) (by omega)
    rw [show t + (d + 1) = t + d + 1 by omega, e1, e2]
    have f1 : 2 * ((x (t + d)).X - (x t).X - (d : Int) * (v t).X) + 2 * ((v (t + d)).X - (v t).X) = 2 * ((x (t + d)).X + (v (t + d)).X - (x t).X - ((d + 1 : Nat) : Int) * (v t).X) := by rw [Int.natCast_succ, Int.add_mul]; omega
    have f2 : 2 * ((x (t + d)).Y - (x t).Y - (d : Int) * (v t).Y) + 2 * ((v (t + d)).Y - (v t).Y) = 2 * ((x (t + d)).Y + (v (t + d)).Y - (x t).Y - ((d + 1 : Nat) : Int) * (v t).Y) := by rw [Int.natCast_succ, Int.add_mul]; omega
    have f3 : accel * (d : Int) * ((d : Int) - 1) + 2 * (accel * (d : Int)) = accel * ((d + 1 : Nat) : Int) * (((d + 1 : Nat) : Int) - 1) := by rw [Int.natCast_succ]; grind
    rw [f1, f2, f3] at s
    exact s
/-- The way ahead, against the velocity at its end (doubled). -/
theorem Run.behind {x v : Nat → P} {accel : Int} {K : Nat} (h : Run x v accel K) (t : Nat) : ∀ d : Nat, t + d ≤ K →
    Ball (2 * ((x (t + d)).X - (x t).X - (d : Int) * (v (t + d)).X)) (2 * ((x (t + d)).Y - (x t).Y - (d : Int) * (v (t + d)).Y)) (accel * (d : Int) * ((d : Int) + 1))
  | 0, _ => by
    rw [Nat.add_zero]
    refine Ball.box (b := 0) (by simp) (by simp) (by simp) (by simp)
  | d + 1, hd => by
    have ih := Run.behind h t d (by omega)
    have s := ih.add ((h.turn (t + d) (by omega)).neg.scale (k := 2 * ((d : Int) + 1)) (by omega))
    obtain ⟨e1, e2⟩ := h.step (t + d) (by omega)
    rw [show t + (d + 1) = t + d + 1 by omega, e1, e2]
    have f1 : 2 * ((x (t + d)).X - (x t).X - (d : Int) * (v (t + d)).X) + 2 * ((d : Int) + 1) * -((v (t + d + 1)).X - (v (t + d)).X) = 2 * ((x (t + d)).X + (v (t + d)).X - (x t).X - ((d + 1 : Nat) : Int) * (v (t + d + 1)).X) := by rw [Int.natCast_succ]; grind
    have f2 : 2 * ((x (t + d)).Y - (x t).Y - (d : Int) * (v (t + d)).Y) + 2 * ((d : Int) + 1) * -((v (t + d + 1)).Y - (v (t + d)).Y) = 2 * ((x (t + d)).Y + (v (t + d)).Y - (x t).Y - ((d + 1 : Nat) : Int) * (v (t + d + 1)).Y) := by rw [Int.natCast_succ]; grind
    have f3 : accel * (d : Int) * ((d : Int) + 1) + 2 * ((d : Int) + 1) * accel = accel * ((d + 1 : Nat) : Int) * (((d + 1 : Nat) : Int) + 1) := by rw [Int.natCast_succ]; grind
    rw [f1, f2, f3] at s
    exact s

/-- What a track knows of an aircraft at a place with a velocity. -/
def Knows (f : FilterTrack) (p v : P) : Prop :=
  Ball (f.Track.At.X - p.X) (f.Track.At.Y - p.Y) f.Track.Radius ∧ Ball (f.Track.Speed.X - 16 * v.X) (f.Track.Speed.Y - 16 * v.Y) f.Slack

theorem predict_knows {x v : Nat → P} {accel : Int} {K : Nat} (h : Run x v accel K) {f : FilterTrack} {t d : Nat} (hk : Knows f (x t) (v t)) (ht : f.Track.Time = (t : Int)) (hd : t + d ≤ K) (hd1 : 1 ≤ d) :
    Knows (predAt f ((t + d : Nat) : Int) accel) (x (t + d)) (v (t + d)) := by
  have e0 : ((t + d : Nat) : Int) - f.Track.Time = (d : Int) := by omega
  have ha := h.acc
  obtain ⟨k1, k2⟩ := hk
  have vd := h.veld t d hd
  have xd := h.ahead t d hd
  constructor
  · unfold predAt
    simp only [e0]
    obtain ⟨rx, hrx⟩ : ∃ r, r = f.Track.Speed.X * (d : Int) % 16 := ⟨_, rfl⟩
    obtain ⟨ry, hry⟩ : ∃ r, r = f.Track.Speed.Y * (d : Int) % 16 := ⟨_, rfl⟩
    have brx : 0 ≤ rx ∧ rx ≤ 15 := by omega
    have bry : 0 ≤ ry ∧ ry ≤ 15 := by omega
    have b1 := k1.scale (k := 16) (by omega)
    have b2 := k2.scale (k := (d : Int)) (by omega)
    have b3 : Ball (-rx) (-ry) 32 := Ball.box (b := 15) (by omega) (by omega) (by omega) (by decide)
    have b4 := xd.neg.scale (k := 8) (by omega)
    have b := ((b1.add b2).add b3).add b4
    have q1 : f.Track.Speed.X * (d : Int) = 16 * (f.Track.Speed.X * (d : Int) / 16) + rx := by omega
    have q2 : f.Track.Speed.Y * (d : Int) = 16 * (f.Track.Speed.Y * (d : Int) / 16) + ry := by omega
    have g1 : 16 * (f.Track.At.X - (x t).X) + (d : Int) * (f.Track.Speed.X - 16 * (v t).X) + -rx + 8 * -(2 * ((x (t + d)).X - (x t).X - (d : Int) * (v t).X)) = 16 * (f.Track.At.X + f.Track.Speed.X * (d : Int) / 16 - (x (t + d)).X) := by
      have e : (d : Int) * (f.Track.Speed.X - 16 * (v t).X) = f.Track.Speed.X * (d : Int) - 16 * ((d : Int) * (v t).X) := by grind
      omega
    have g2 : 16 * (f.Track.At.Y - (x t).Y) + (d : Int) * (f.Track.Speed.Y - 16 * (v t).Y) + -ry + 8 * -(2 * ((x (t + d)).Y - (x t).Y - (d : Int) * (v t).Y)) = 16 * (f.Track.At.Y + f.Track.Speed.Y * (d : Int) / 16 - (x (t + d)).Y) := by
      have e : (d : Int) * (f.Track.Speed.Y - 16 * (v t).Y) = f.Track.Speed.Y * (d : Int) - 16 * ((d : Int) * (v t).Y) := by grind
      omega
    rw [g1, g2] at b
    refine Ball.unscale (k := 16) (by decide) (b.mono ?_)
    unfold grow
    have m1 : 0 ≤ accel * (d : Int) := Int.mul_nonneg ha.1 (by omega)
    have m2 : accel * (d : Int) * ((d : Int) - 1) = accel * (d : Int) * (d : Int) - accel * (d : Int) := by rw [Int.mul_sub, Int.mul_one]
    have m3 : (d : Int) * f.Slack = f.Slack * (d : Int) := Int.mul_comm ..
    omega
  · unfold predAt
    simp only [e0]
    have b := k2.add (vd.neg.scale (k := 16) (by omega))
    have g1 : f.Track.Speed.X - 16 * (v t).X + 16 * -((v (t + d)).X - (v t).X) = f.Track.Speed.X - 16 * (v (t + d)).X := by omega
    have g2 : f.Track.Speed.Y - 16 * (v t).Y + 16 * -((v (t + d)).Y - (v t).Y) = f.Track.Speed.Y - 16 * (v (t + d)).Y := by omega
    rw [g1, g2, show f.Slack + 16 * (accel * (d : Int)) = f.Slack + 16 * accel * (d : Int) by rw [Int.mul_assoc]] at b
    exact b
end Go.Sky
