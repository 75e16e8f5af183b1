/- Update keeps what a track knows, and never fails on a course. Conditions: in each theorem. -/
import Derived.Test.YtkjdmkgacmkpjaaMix
namespace Go.Sky
open Go Go.Eng Go.Glue

/-- A track in order at second t of a course, with spots of the error far. -/
structure Good (f : FilterTrack) (t : Nat) (far : Int) : Prop where
  inn : f.In
  time : f.Track.Time = (t : Int)
  last : f.Last.Time = (t : Int)
  slack : f.Slack ≤ 10402 + 100 * (t : Int)
  rad : f.Track.Radius ≤ 300 + 1100 * (t : Int)
  speed : (-12800 ≤ f.Track.Speed.X ∧ f.Track.Speed.X ≤ 12800) ∧ (-12800 ≤ f.Track.Speed.Y ∧ f.Track.Speed.Y ≤ 12800)
  high : f.Track.Height = 5000 ∧ f.Track.Rate = 0 ∧ f.Last.Height = 5000
  err : f.Last.Error = far
  hits : f.Track.Hits ≤ (t : Int) + 1

theorem grow_le {slack acc d S A D : Int} (hs : 0 ≤ slack ∧ slack ≤ S) (ha : 0 ≤ acc ∧ acc ≤ A) (hd : 0 ≤ d ∧ d ≤ D) : grow slack acc d ≤ (S * d + 15) / 16 + (A * D * d + 1) / 2 + 2 := by
  have h1 : slack * d ≤ S * d := Int.mul_le_mul_of_nonneg_right hs.2 hd.1
  have h2 : acc * d ≤ A * D := (mul_in0 ha hd).2
  have h3 : acc * d * d ≤ A * D * d := Int.mul_le_mul_of_nonneg_right h2 hd.1
  unfold grow
  omega

/-- A track in order, predicted: it stays in its ranges. -/
theorem pred_in {x v : Nat → P} {accel far : Int} {K : Nat} (h : Run x v accel K) (hacc : accel ≤ 5) {f : FilterTrack} {t d : Nat} (hg : Good f t far) (hk : Knows f (x t) (v t)) (hd : t + d ≤ K) (hd1 : 1 ≤ d) (hd2 : d ≤ 60) (ht : t ≤ 60) :
    (filter_Predict f ((t + d : Nat) : Int) accel).2 = 0 ∧ (filter_Predict f ((t + d : Nat) : Int) accel).1 = predAt f ((t + d : Nat) : Int) accel ∧ (predAt f ((t + d : Nat) : Int) accel).In ∧ Knows (predAt f ((t + d : Nat) : Int) accel) (x (t + d)) (v (t + d)) ∧
      grow f.Slack accel (d : Int) ≤ 2000 * (d : Int) := by
  have hkn := predict_knows h hk hg.time hd hd1
  have ha := h.acc
  have hi := hg.inn
  have e0 : ((t + d : Nat) : Int) - f.Track.Time = (d : Int) := by rw [hg.time]; omega
  have hsl := hg.slack
  have g1 := grow_le (slack := f.Slack) (acc := accel) (d := (d : Int)) (S := 16402) (A := 5) (D := 60) ⟨hi.2.2.2.2.1.1, by omega⟩ ⟨ha.1, hacc⟩ (by omega)
  have hgr : grow f.Slack accel (d : Int) ≤ 2000 * (d : Int) := by omega
  have g2 := grow_in (slack := f.Slack) (acc := accel) (d := (d : Int)) hi.2.2.2.2.1 ⟨ha.1, by omega⟩ (by omega)
  have hin : (predAt f ((t + d : Nat) : Int) accel).In := by
    have hpos := h.pos (t + d) hd
    have hr := hg.rad
    have hrad : (predAt f ((t + d : Nat) : Int) accel).Track.Radius = f.Track.Radius + grow f.Slack accel (d : Int) := by unfold predAt; simp only [e0]
    have hslk : (predAt f ((t + d : Nat) : Int) accel).Slack = f.Slack + 16 * accel * (d : Int) := by unfold predAt; simp only [e0]
    have hhigh : (predAt f ((t + d : Nat) : Int) accel).Track.Height = 5000 := by
      unfold predAt
      simp only [e0, hg.high.1, hg.high.2.1]
      rw [Int.zero_mul]; decide
    have b := hkn.1.abs
    rw [hrad] at b
    have hm := mul_in0 (a := accel) (b := (d : Int)) (A := 5) (B := 60) ⟨ha.1, hacc⟩ (by omega)
    have hm2 : 16 * accel * (d : Int) = 16 * (accel * (d : Int)) := Int.mul_assoc ..
    refine ⟨⟨by show 0 ≤ ((t + d : Nat) : Int) ∧ ((t + d : Nat) : Int) ≤ 200000; omega, ⟨by omega, by omega, by omega, by omega⟩, by rw [hhigh]; decide, hi.1.2.2.2.1, by rw [hrad]; have := hi.1.2.2.2.2; omega⟩,
      hi.2.1, hi.2.2.1, hi.2.2.2.1, by rw [hslk, hm2]; have := hi.2.2.2.2.1; omega, hi.2.2.2.2.2.1, hi.2.2.2.2.2.2.1, hi.2.2.2.2.2.2.2.1, by show f.Last.Time ≤ ((t + d : Nat) : Int); rw [hg.last]; omega⟩
  rcases predict_eq (f := f) (t := ((t + d : Nat) : Int)) (a := accel) hi (by omega) ⟨ha.1, by omega⟩ (by rw [e0]; omega) with ⟨p1, p2, _⟩ | ⟨_, p2⟩
  · exact ⟨p1, p2, hin, hkn, hgr⟩
  · exact absurd hin p2
end Go.Sky
