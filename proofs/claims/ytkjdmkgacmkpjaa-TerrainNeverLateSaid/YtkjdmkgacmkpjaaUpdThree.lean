/- Update never fails on a course, and keeps the track in order. Conditions: in each theorem. -/
import Derived.Test.YtkjdmkgacmkpjaaUpdTwo
namespace Go.Sky
open Go Go.Eng Go.Glue

theorem update_good {x v : Nat → P} {accel far : Int} {K : Nat} (h : Run x v accel K) (hacc : accel ≤ 5) (hfar : 0 ≤ far ∧ far ≤ 300) {f : FilterTrack} {t d : Nat} (hg : Good f t far) (hk : Knows f (x t) (v t)) (hl : Ball (f.Last.At.X - (x t).X) (f.Last.At.Y - (x t).Y) far)
    (hd : t + d ≤ K) (hd1 : 1 ≤ d ∧ d ≤ 10) (ht : t + d ≤ 60) {a : P} (hs : Ball (a.X - (x (t + d)).X) (a.Y - (x (t + d)).Y) far) {pl sp : Int} (hpl : 0 ≤ pl ∧ pl ≤ 256) (hsp : 0 ≤ sp ∧ sp ≤ 256) :
    ∃ r, filter_Update f ⟨((t + d : Nat) : Int), a, 5000, 1234, far⟩ accel pl sp = (r, 0) ∧ Good r (t + d) far ∧ Knows r (x (t + d)) (v (t + d)) ∧ r.Last = ⟨((t + d : Nat) : Int), a, 5000, 1234, far⟩ := by
  obtain ⟨s, hse⟩ : ∃ s : Spot, s = ⟨((t + d : Nat) : Int), a, 5000, 1234, far⟩ := ⟨_, rfl⟩
  rw [← hse]
  have s1 : s.Time = ((t + d : Nat) : Int) := by rw [hse]
  have s2 : s.At = a := by rw [hse]
  have s3 : s.Height = 5000 := by rw [hse]
  have s4 : s.Code = 1234 := by rw [hse]
  have s5 : s.Error = far := by rw [hse]
  have ha := h.acc
  have hi := hg.inn
  obtain ⟨p1, p2, p3, p4, p5⟩ := pred_in h hacc hg hk hd hd1.1 (by omega) (by omega)
  rw [← s1] at p1 p2 p3 p4
  have hpos := h.pos (t + d) hd
  have hpos0 := h.pos t (by omega)
  have hvel := h.vel (t + d) hd
  have sa := hs.abs
  have la := hl.abs
  have e0 : s.Time - f.Track.Time = (d : Int) := by rw [s1, hg.time]; omega
  have sin : s.In := ⟨by rw [s1]; omega, by rw [s2]; exact ⟨by omega, by omega, by omega, by omega⟩, by rw [s3]; decide, by rw [s4]; decide, by rw [s5]; omega⟩
  have prad : (predAt f s.Time accel).Track.Radius = f.Track.Radius + grow f.Slack accel (d : Int) := by unfold predAt; simp only [e0]
  have pslk : (predAt f s.Time accel).Slack = f.Slack + 16 * accel * (d : Int) := by unfold predAt; simp only [e0]
  have pspd : (predAt f s.Time accel).Track.Speed = f.Track.Speed := rfl
  have hR := p3.1.2.2.2.2
  have hsl := hg.slack
  have hrd := hg.rad
  have gb := grow_le (slack := f.Slack) (acc := accel) (d := (d : Int)) (S := 16402) (A := 5) (D := 10) ⟨hi.2.2.2.2.1.1, by omega⟩ ⟨ha.1, hacc⟩ (by omega)
  have hgr : grow f.Slack accel (d : Int) ≤ 1090 * (d : Int) := by omega
  have hw : plane_Within (predAt f s.Time accel).Track.At s.At (w64 ((predAt f s.Time accel).Track.Radius + s.Error)) = true := by
    rw [s5, w64_id (by omega), within_iff p3.1.2.1 sin.2.1 (by omega)]
    have b := p4.1.add hs.neg
    rw [decide_eq_true_eq, s2]
    refine ⟨by omega, ?_⟩
    have b2 := b.2
    rw [show (predAt f s.Time accel).Track.At.X - (x (t + d)).X + -(a.X - (x (t + d)).X) = (predAt f s.Time accel).Track.At.X - a.X by omega, show (predAt f s.Time accel).Track.At.Y - (x (t + d)).Y + -(a.Y - (x (t + d)).Y) = (predAt f s.Time accel).Track.At.Y - a.Y by omega] at b2
    exact b2
  have hm := mul_in0 (a := accel) (b := (d : Int)) (A := 5) (B := 10) ⟨ha.1, hacc⟩ (by omega)
  have hm5 : accel * (d : Int) ≤ 5 * (d : Int) := Int.mul_le_mul_of_nonneg_right hacc (by omega)
  have hm2 : 16 * accel * (d : Int) = 16 * (accel * (d : Int)) := Int.mul_assoc ..
  have hll : f.Last.Error = far := hg.err
  -- the velocity seen
  have sb := seen_ball h hd hd1.1 hs hl
  have zu : 0 ≤ -(-(16 * (far + far)) / (d : Int)) ∧ -(-(16 * (far + far)) / (d : Int)) ≤ 16 * (far + far) := by
    have q0 : -(16 * (far + far)) / (d : Int) < 1 := by rw [Int.ediv_lt_iff_lt_mul (by omega)]; omega
    have q1 : -(16 * (far + far)) ≤ -(16 * (far + far)) / (d : Int) := by
      rw [Int.le_ediv_iff_mul_le (by omega)]
      have : -(16 * (far + far)) * (d : Int) ≤ -(16 * (far + far)) * 1 := Int.mul_le_mul_of_nonpos_left (by omega) (by omega)
      omega
    omega
  obtain ⟨M, hM⟩ : ∃ M, M = -(-(16 * (far + far)) / (d : Int)) + 16 * accel * (d : Int) + 2 := ⟨_, rfl⟩
  have hMb : 0 ≤ M ∧ M ≤ 10402 := by omega
  rw [← hM] at sb
  have run1 : ∀ e : Nat, t + e ≤ K → (-200 * (e : Int) ≤ (x (t + e)).X - (x t).X ∧ (x (t + e)).X - (x t).X ≤ 200 * (e : Int)) ∧ (-200 * (e : Int) ≤ (x (t + e)).Y - (x t).Y ∧ (x (t + e)).Y - (x t).Y ≤ 200 * (e : Int)) := by
    intro e
    induction e with
    | zero => intro _; simp
    | succ e ih =>
      intro he
      have := ih (by omega)
      have st := h.step (t + e) (by omega)
      have ve := h.vel (t + e) (by omega)
      rw [show t + (e + 1) = t + e + 1 by omega, st.1, st.2]
      omega
  have rd := run1 d hd
  have seen : ∀ z : Int, -200 * (d : Int) - 600 ≤ z → z ≤ 200 * (d : Int) + 600 → -(16 * 800) ≤ 16 * z / (d : Int) ∧ 16 * z / (d : Int) ≤ 16 * 800 := by
    intro z z1 z2
    constructor
    · rw [Int.le_ediv_iff_mul_le (by omega)]; omega
    · have : 16 * z / (d : Int) < 16 * 800 + 1 := by rw [Int.ediv_lt_iff_lt_mul (by omega)]; omega
      omega
  have sx := seen (a.X - f.Last.At.X) (by omega) (by omega)
  have sy := seen (a.Y - f.Last.At.Y) (by omega) (by omega)
  have ux := up_le (A := (predAt f s.Time accel).Track.Radius) (B := far) (M := 300 + 1100 * ((t + d : Nat) : Int) - 2) (by omega) (by omega) hpl
  have us := up_le (A := (predAt f s.Time accel).Slack) (B := M) (M := 10402 + 100 * ((t + d : Nat) : Int) - 2) (by rw [pslk]; have := hi.2.2.2.2.1; omega) (by omega) hsp
  have spx := mix_between (g := sp) hi.2.1 sx hsp
  have spy := mix_between (g := sp) hi.2.2.1 sy hsp
  have kb1 := mix_ball p4.1 hs hpl
  have kb2 := mix_ball p4.2 sb hsp
  obtain ⟨r, hr⟩ : ∃ r, r = updAt f s accel pl sp (d : Int) := ⟨_, rfl⟩
  have rrad : r.Track.Radius = -(-((256 - pl) * (predAt f s.Time accel).Track.Radius + pl * far) / 256) + 2 := by rw [hr, ← s5]; rfl
  have rslk : r.Slack = -(-((256 - sp) * (predAt f s.Time accel).Slack + sp * M) / 256) + 2 := by rw [hr, hM, ← s5]; unfold updAt; simp only [s5, hll]
  have rx : r.Track.At.X = (predAt f s.Time accel).Track.At.X + (a.X - (predAt f s.Time accel).Track.At.X) * pl / 256 := by rw [hr, ← s2]; rfl
  have ry : r.Track.At.Y = (predAt f s.Time accel).Track.At.Y + (a.Y - (predAt f s.Time accel).Track.At.Y) * pl / 256 := by rw [hr, ← s2]; rfl
  have rvx : r.Track.Speed.X = f.Track.Speed.X + (16 * (a.X - f.Last.At.X) / (d : Int) - f.Track.Speed.X) * sp / 256 := by rw [hr, ← s2]; rfl
  have rvy : r.Track.Speed.Y = f.Track.Speed.Y + (16 * (a.Y - f.Last.At.Y) / (d : Int) - f.Track.Speed.Y) * sp / 256 := by rw [hr, ← s2]; rfl
  have hkn : Knows r (x (t + d)) (v (t + d)) := by
    refine ⟨?_, ?_⟩
    · rw [rx, ry, rrad]; exact kb1
    · rw [rvx, rvy, rslk]; exact kb2
  have kab := hkn.1.abs
  have rh : r.Track.Height = 5000 := by rw [hr, ← s3]; rfl
  have rrt : r.Track.Rate = 0 := by rw [hr]; rfl
  have rtm : r.Track.Time = ((t + d : Nat) : Int) := by rw [hr, ← s1]; rfl
  have rls : r.Last = s := by rw [hr]; rfl
  have rht : r.Track.Hits = f.Track.Hits + 1 := by rw [hr]; rfl
  have hhi := hg.hits
  have rin : r.In := by
    refine ⟨⟨by rw [rtm]; omega, ⟨by omega, by omega, by omega, by omega⟩, by rw [rh]; decide, by rw [hr]; show -1 ≤ s.Code ∧ s.Code ≤ 4095; rw [s4]; decide, by rw [rrad]; omega⟩,
      by rw [rvx]; omega, by rw [rvy]; omega, by rw [rrt]; decide, by rw [rslk]; omega, ⟨by rw [hr]; exact hi.2.2.2.2.2.1.1, by rw [rht]; have := hi.2.2.2.2.2.1.2.1; omega, by rw [hr]; show (0 : Int) ≤ 0; decide⟩, by rw [hr]; exact hi.2.2.2.2.2.2.1, by rw [rls]; exact sin, by rw [rls, rtm, s1]; exact Int.le_refl _⟩
  refine ⟨r, ?_, ⟨rin, rtm, by rw [rls, s1], by rw [rslk]; omega, by rw [rrad]; omega, ⟨by rw [rvx]; omega, by rw [rvy]; omega⟩, ⟨rh, rrt, by rw [rls, s3]⟩, by rw [rls, s5], by rw [rht]; omega⟩, hkn, rls⟩
  have e := upd_eq (f := f) (s := s) (accel := accel) (pl := pl) (sp := sp) (d := (d : Int)) hi sin hpl hsp ⟨by rw [s1, hg.last]; omega, by omega, by omega⟩ ⟨ha.1, by omega⟩ ⟨p1, p2, p3⟩ hw (by rw [s3, hg.high.2.2]) (by rw [s4]; decide) (by omega) (by rw [s2]; exact ⟨by omega, by omega⟩) (by rw [← hr]; exact rin)
  rw [e, ← hr]
end Go.Sky
