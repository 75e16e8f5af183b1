/- Update keeps what a track knows, and never fails on a course. Conditions: in each theorem. -/
import Derived.Test.YtkjdmkgacmkpjaaUpd
namespace Go.Sky
open Go Go.Eng Go.Glue

/-- The track behind a spot, in exact numbers. -/
def updAt (f : FilterTrack) (s : Spot) (accel pl sp d : Int) : FilterTrack :=
  let p := predAt f s.Time accel
  ⟨⟨p.Track.ID, p.Track.State, s.Time, ⟨p.Track.At.X + (s.At.X - p.Track.At.X) * pl / 256, p.Track.At.Y + (s.At.Y - p.Track.At.Y) * pl / 256⟩,
    ⟨p.Track.Speed.X + (16 * (s.At.X - f.Last.At.X) / d - p.Track.Speed.X) * sp / 256, p.Track.Speed.Y + (16 * (s.At.Y - f.Last.At.Y) / d - p.Track.Speed.Y) * sp / 256⟩,
    s.Height, 0, -(-((256 - pl) * p.Track.Radius + pl * s.Error) / 256) + 2, s.Code, p.Track.Hits + 1, 0⟩,
    -(-((256 - sp) * p.Slack + sp * (-(-(16 * (s.Error + f.Last.Error)) / d) + 16 * accel * d + 2)) / 256) + 2, s⟩

theorem upd_eq {f : FilterTrack} {s : Spot} {accel pl sp d : Int} (hf : f.In) (hs : s.In) (hpl : 0 ≤ pl ∧ pl ≤ 256) (hsp : 0 ≤ sp ∧ sp ≤ 256) (hd : s.Time - f.Last.Time = d ∧ 1 ≤ d ∧ d ≤ 600) (hacc : 0 ≤ accel ∧ accel ≤ 20)
    (hp : (filter_Predict f s.Time accel).2 = 0 ∧ (filter_Predict f s.Time accel).1 = predAt f s.Time accel ∧ (predAt f s.Time accel).In)
    (hw : plane_Within (predAt f s.Time accel).Track.At s.At (w64 ((predAt f s.Time accel).Track.Radius + s.Error)) = true)
    (hh : s.Height = f.Last.Height) (hc : s.Code ≠ -1) (hhits : f.Track.Hits ≤ 1000000)
    (hseen : (-12800 ≤ 16 * (s.At.X - f.Last.At.X) / d ∧ 16 * (s.At.X - f.Last.At.X) / d ≤ 12800) ∧ (-12800 ≤ 16 * (s.At.Y - f.Last.At.Y) / d ∧ 16 * (s.At.Y - f.Last.At.Y) / d ≤ 12800))
    (hin : (updAt f s accel pl sp d).In) : filter_Update f s accel pl sp = (updAt f s accel pl sp d, 0) := by
  obtain ⟨q1, q2, q3⟩ := hp
  have hla := hf.2.2.2.2.2.2.2.1
  unfold filter_Update
  have c1 : (filter_Check f != 0) = false := by simp [check_iff.2 hf]
  have c2 : (radar_CheckSpot s != 0) = false := by simp [checkSpot_iff.2 hs]
  have c3 : filter_out pl 0 256 = false := by rw [out_filter]; simp; omega
  have c4 : filter_out sp 0 256 = false := by rw [out_filter]; simp; omega
  have wd : w64 (s.Time - f.Last.Time) = d := by rw [hd.1, w64_id (by omega)]
  have c5 : decide (d ≤ 0) = false := by simp; omega
  have c6 : ((filter_Predict f s.Time accel).2 != 0) = false := by simp [q1]
  have c8 : (s.Code != -1) = true := by simpa using hc
  simp only [c1, c2, c3, c4, wd, c5, c6, c8, cond_false, cond_true, q2, hw, Bool.not_true]
  obtain ⟨p, hpe⟩ : ∃ p, p = predAt f s.Time accel := ⟨_, rfl⟩
  have hpt : p.Track.Time = s.Time := by rw [hpe]; rfl
  have hph : p.Track.Hits = f.Track.Hits := by rw [hpe]; rfl
  rw [← hpe] at q3 ⊢
  obtain ⟨a1, a2, a3, a4⟩ := q3.1.2.1
  obtain ⟨b1, b2, b3, b4⟩ := hs.2.1
  obtain ⟨l1, l2, l3, l4⟩ := hla.2.1
  have hR := q3.1.2.2.2.2
  have hE := hs.2.2.2.2
  have hL := hla.2.2.2.2
  have hS := q3.2.2.2.2.1
  have hv1 := q3.2.1
  have hv2 := q3.2.2.1
  have hhi := hs.2.2.1
  have m1 := mul_in0 (a := 256 - pl) (b := p.Track.Radius) (A := 256) (by omega) hR
  have m2 := mul_in0 hpl hE
  have m3 := mul_in0 (a := 256 - sp) (b := p.Slack) (A := 256) (by omega) hS
  have m4 := mul_in0 hacc (show 0 ≤ d ∧ d ≤ 600 by omega)
  have m5 : 16 * accel * d = 16 * (accel * d) := Int.mul_assoc ..
  have zu := Int.mul_ediv_add_emod (-(16 * (s.Error + f.Last.Error))) d
  have zq : 0 ≤ -(-(16 * (s.Error + f.Last.Error)) / d) ∧ -(-(16 * (s.Error + f.Last.Error)) / d) ≤ 32000000 := by
    have q0 : -(16 * (s.Error + f.Last.Error)) / d ≤ 0 := by
      have : -(16 * (s.Error + f.Last.Error)) / d < 1 := by rw [Int.ediv_lt_iff_lt_mul (by omega)]; omega
      omega
    have q1 : -32000000 ≤ -(16 * (s.Error + f.Last.Error)) / d := by
      rw [Int.le_ediv_iff_mul_le (by omega)]
      have : -32000000 * d ≤ -32000000 * 1 := Int.mul_le_mul_of_nonpos_left (by omega) (by omega)
      omega
    omega
  obtain ⟨M, hM⟩ : ∃ M, M = -(-(16 * (s.Error + f.Last.Error)) / d) + 16 * accel * d + 2 := ⟨_, rfl⟩
  have hMb : 0 ≤ M ∧ M ≤ 33000000 := by omega
  have m6 := mul_in0 hsp hMb
  have r7 : filter_mix p.Track.At.X s.At.X pl = p.Track.At.X + (s.At.X - p.Track.At.X) * pl / 256 := mix_eq (by omega) (by omega) hpl
  have r8 : filter_mix p.Track.At.Y s.At.Y pl = p.Track.At.Y + (s.At.Y - p.Track.At.Y) * pl / 256 := mix_eq (by omega) (by omega) hpl
  have r9 : filter_up (w64 (w64 (w64 (256 - pl) * p.Track.Radius) + w64 (pl * s.Error))) 256 = -(-((256 - pl) * p.Track.Radius + pl * s.Error) / 256) := by
    unfold filter_up
    rw [w64_id (x := 256 - pl) (by omega), w64_id (x := (256 - pl) * p.Track.Radius) (by omega), w64_id (x := pl * s.Error) (by omega), w64_id (x := _ + _) (by omega), divUp_eq (by decide) (by omega)]
  have r10 : filter_down (w64 (16 * w64 (s.At.X - f.Last.At.X))) d = 16 * (s.At.X - f.Last.At.X) / d := by
    unfold filter_down
    rw [w64_id (x := s.At.X - f.Last.At.X) (by omega), w64_id (x := 16 * _) (by omega), divDown_eq (by omega) (by omega)]
  have r11 : filter_down (w64 (16 * w64 (s.At.Y - f.Last.At.Y))) d = 16 * (s.At.Y - f.Last.At.Y) / d := by
    unfold filter_down
    rw [w64_id (x := s.At.Y - f.Last.At.Y) (by omega), w64_id (x := 16 * _) (by omega), divDown_eq (by omega) (by omega)]
  have r12 : filter_mix p.Track.Speed.X (16 * (s.At.X - f.Last.At.X) / d) sp = p.Track.Speed.X + (16 * (s.At.X - f.Last.At.X) / d - p.Track.Speed.X) * sp / 256 := mix_eq (by omega) (by omega) hsp
  have r13 : filter_mix p.Track.Speed.Y (16 * (s.At.Y - f.Last.At.Y) / d) sp = p.Track.Speed.Y + (16 * (s.At.Y - f.Last.At.Y) / d - p.Track.Speed.Y) * sp / 256 := mix_eq (by omega) (by omega) hsp
  have r14 : filter_up (w64 (16 * w64 (s.Error + f.Last.Error))) d = -(-(16 * (s.Error + f.Last.Error)) / d) := by
    unfold filter_up
    rw [w64_id (x := s.Error + f.Last.Error) (by omega), w64_id (x := 16 * _) (by omega), divUp_eq (by omega) (by omega)]
  have rM : w64 (w64 (-(-(16 * (s.Error + f.Last.Error)) / d) + w64 (w64 (16 * accel) * d)) + 2) = M := by
    rw [w64_id (x := 16 * accel) (by omega), w64_id (x := 16 * accel * d) (by omega), w64_id (x := _ + 16 * accel * d) (by omega), w64_id (by omega), hM]
  have r15 : filter_up (w64 (w64 (w64 (256 - sp) * p.Slack) + w64 (sp * M))) 256 = -(-((256 - sp) * p.Slack + sp * M) / 256) := by
    unfold filter_up
    rw [w64_id (x := 256 - sp) (by omega), w64_id (x := (256 - sp) * p.Slack) (by omega), w64_id (x := sp * M) (by omega), w64_id (x := _ + _) (by omega), divUp_eq (by decide) (by omega)]
  have r16 : num_Between (filter_down (w64 (16 * w64 (s.Height - f.Last.Height))) d) (-3200) 3200 = 0 := by
    rw [hh, Int.sub_self, show w64 (16 * w64 0) = 0 by decide]
    unfold filter_down
    rw [divDown_eq (by omega) (by omega)]
    show num_Between (0 / d) (-3200) 3200 = 0
    rw [Int.zero_ediv]; decide
  simp only [r7, r8, r9, r10, r11, r12, r13, r14, rM, r15, r16]
  rw [w64_id (x := -(-((256 - pl) * p.Track.Radius + pl * s.Error) / 256) + 2) (by omega), w64_id (x := p.Track.Hits + 1) (by have := hf.2.2.2.2.2.1; omega), w64_id (x := -(-((256 - sp) * p.Slack + sp * M) / 256) + 2) (by omega), hpt]
  have hU : updAt f s accel pl sp d = (⟨⟨p.Track.ID, p.Track.State, s.Time, ⟨p.Track.At.X + (s.At.X - p.Track.At.X) * pl / 256, p.Track.At.Y + (s.At.Y - p.Track.At.Y) * pl / 256⟩,
    ⟨p.Track.Speed.X + (16 * (s.At.X - f.Last.At.X) / d - p.Track.Speed.X) * sp / 256, p.Track.Speed.Y + (16 * (s.At.Y - f.Last.At.Y) / d - p.Track.Speed.Y) * sp / 256⟩,
    s.Height, 0, -(-((256 - pl) * p.Track.Radius + pl * s.Error) / 256) + 2, s.Code, p.Track.Hits + 1, 0⟩, -(-((256 - sp) * p.Slack + sp * M) / 256) + 2, s⟩ : FilterTrack) := by
    rw [hM, hpe]; rfl
  rw [← hU]
  have c9 : (filter_Check (updAt f s accel pl sp d) != 0) = false := by simp [check_iff.2 hin]
  rw [c9, cond_false]
end Go.Sky
