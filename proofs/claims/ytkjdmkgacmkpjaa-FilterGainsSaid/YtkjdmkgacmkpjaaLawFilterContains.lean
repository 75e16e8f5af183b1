/- The law FilterContains in plain Lean. Conditions: the arguments are 64-bit integers. -/
import Derived.Test.YtkjdmkgacmkpjaaKin
namespace Go.Sky
open Go Go.Eng Go.Glue

theorem within_self {a : P} {d : Int} (hd : 0 ≤ d ∧ d ≤ 4000000) : plane_Within a a d = true := by
  unfold plane_Within plane_Square plane_Sub plane_Dot
  have e1 : ((decide (d ≥ 0)) && (decide (d ≤ 8000000))) = true := by simp; omega
  have hdd : 0 ≤ d * d ∧ d * d ≤ 16000000000000 := ⟨Int.mul_nonneg hd.1 hd.1, by have := Int.mul_le_mul hd.2 hd.2 hd.1 (by decide); omega⟩
  have w0 : w64 (a.X - a.X) = 0 := by rw [Int.sub_self]; decide
  have w1 : w64 (a.Y - a.Y) = 0 := by rw [Int.sub_self]; decide
  have w2 : w64 (w64 (0 * 0) + w64 (0 * 0)) = 0 := by decide
  simp only [e1, cond_true, w0, w1, w2, w64_id (x := d * d) (by omega)]
  simp; omega

theorem contains_self {f : FilterTrack} (h : f.In) : filter_Contains f f.Track.At = (true, 0) := by
  unfold filter_Contains
  have h1 : (filter_Check f != 0) = false := by simp [check_iff.2 h]
  have h2 : (plane_Check f.Track.At != 0) = false := by simp [checkP_iff.2 h.1.2.1]
  simp only [h1, h2, cond_false, within_self h.1.2.2.2.2]
theorem contains_err {f : FilterTrack} {p : P} (h : ¬ f.In) : (filter_Contains f p).2 ≠ 0 ∧ (filter_Contains f p).1 = false := by
  unfold filter_Contains
  have h0 : ¬ filter_Check f = 0 := fun e => h (check_iff.1 e)
  have h1 : (filter_Check f != 0) = true := by simpa using h0
  simp only [h1, cond_true]
  exact ⟨h0, trivial⟩

theorem mix_full {a b : Int} (ha : -1000000 ≤ a ∧ a ≤ 1000000) (hb : -1000000 ≤ b ∧ b ≤ 1000000) : filter_mix a b 256 = b := by
  unfold filter_mix filter_down
  rw [w64_id (x := b - a) (by omega), w64_id (x := (b - a) * 256) (by omega)]
  rw [divDown_eq (by decide) (by omega)]
  have : (b - a) * 256 / 256 = b - a := Int.mul_ediv_cancel _ (by decide)
  rw [this]
  show w64 (a + (b - a)) = b
  rw [w64_id (by omega)]; omega

/-- What Update hands back with the code 0. -/
theorem update_ok {f : FilterTrack} {s : Spot} {a pl sp : Int} (h : (filter_Update f s a pl sp).2 = 0) :
    (filter_Update f s a pl sp).1.In ∧ f.In ∧ s.In ∧ (0 ≤ pl ∧ pl ≤ 256) ∧ (0 ≤ sp ∧ sp ≤ 256) ∧ (filter_Predict f s.Time a).2 = 0 ∧ (0 < w64 (s.Time - f.Last.Time)) ∧
    ∃ p, p = (filter_Predict f s.Time a).1 ∧
      (filter_Update f s a pl sp).1.Track.At = ⟨filter_mix p.Track.At.X s.At.X pl, filter_mix p.Track.At.Y s.At.Y pl⟩ ∧
      (filter_Update f s a pl sp).1.Track.Radius = w64 (filter_up (w64 (w64 (w64 (256 - pl) * p.Track.Radius) + w64 (pl * s.Error))) 256 + 2) ∧
      (filter_Update f s a pl sp).1.Track.Speed = ⟨filter_mix p.Track.Speed.X (filter_down (w64 (16 * w64 (s.At.X - f.Last.At.X))) (w64 (s.Time - f.Last.Time))) sp, filter_mix p.Track.Speed.Y (filter_down (w64 (16 * w64 (s.At.Y - f.Last.At.Y))) (w64 (s.Time - f.Last.Time))) sp⟩ ∧
      (filter_Update f s a pl sp).1.Track.Hits = w64 (p.Track.Hits + 1) := by
  unfold filter_Update at h ⊢
  simp only [ite_of_cond, out_filter, decide_eq_true_eq, bne_iff_ne, ne_eq] at h ⊢
  by_cases h1 : filter_Check f = 0
  · rw [if_neg (by simpa using h1)] at h ⊢
    have c1 := check_iff.1 h1
    by_cases h2 : radar_CheckSpot s = 0
    · rw [if_neg (by simpa using h2)] at h ⊢
      have c2 := checkSpot_iff.1 h2
      by_cases h3 : 0 ≤ pl ∧ pl ≤ 256
      · rw [if_neg (by simpa using h3)] at h ⊢
        by_cases h4 : 0 ≤ sp ∧ sp ≤ 256
        · rw [if_neg (by simpa using h4)] at h ⊢
          by_cases h5 : w64 (s.Time - f.Last.Time) ≤ 0
          · rw [if_pos h5] at h; cases h
          · rw [if_neg h5] at h ⊢
            by_cases h6 : (filter_Predict f s.Time a).2 = 0
            · rw [if_neg (by simpa using h6)] at h ⊢
              by_cases h7 : (!plane_Within (filter_Predict f s.Time a).1.Track.At s.At (w64 ((filter_Predict f s.Time a).1.Track.Radius + s.Error))) = true
              · rw [if_pos h7] at h; cases h
              · rw [if_neg h7] at h ⊢
                by_cases h8 : s.Code = -1
                · rw [if_neg (by simpa using h8)] at h ⊢
                  split at h
                  · cases h
                  · rename_i h9
                    rw [if_neg h9]
                    exact ⟨check_iff.1 (by simpa using h9), c1, c2, h3, h4, h6, by omega, _, rfl, rfl, rfl, rfl, rfl⟩
                · rw [if_pos (by simpa using h8)] at h ⊢
                  split at h
                  · cases h
                  · rename_i h9
                    rw [if_neg h9]
                    exact ⟨check_iff.1 (by simpa using h9), c1, c2, h3, h4, h6, by omega, _, rfl, rfl, rfl, rfl, rfl⟩
            · rw [if_pos (by simpa using h6)] at h; exact absurd h h6
        · rw [if_pos (by simpa using h4)] at h; cases h
      · rw [if_pos (by simpa using h3)] at h; cases h
    · rw [if_pos (by simpa using h2)] at h; exact absurd h h2
  · rw [if_pos (by simpa using h1)] at h; exact absurd h h1

theorem begins_true : skywaykeep2_begins = true := by decide

theorem FilterContains_true (x0 : FilterTrack) (x1 : Spot) (_k0 : x0.ok) (_k1 : x1.ok) : skywaykeep2_FilterContains x0 x1 = true := by
  unfold skywaykeep2_FilterContains
  simp only [begins_true, Bool.not_true, cond_false]
  by_cases h : x0.In
  · have e := contains_self h
    simp only [e]
    have e0 : ((0 : Int) != 0) = false := rfl
    simp only [e0, cond_false, cond_true]
    by_cases hu : (filter_Update x0 x1 0 256 0).2 = 0
    · obtain ⟨u1, _, u2, _, _, u3, _, p, hp, u4, _, _, _⟩ := update_ok hu
      have hpi : p.In := by rw [hp]; exact predict_in u3
      have hat : (filter_Update x0 x1 0 256 0).1.Track.At = x1.At := by
        rw [u4, mix_full ⟨hpi.1.2.1.1, hpi.1.2.1.2.1⟩ ⟨u2.2.1.1, u2.2.1.2.1⟩, mix_full ⟨hpi.1.2.1.2.2.1, hpi.1.2.1.2.2.2⟩ ⟨u2.2.1.2.2.1, u2.2.1.2.2.2⟩]
      have e2 := contains_self u1
      rw [hat] at e2
      simp only [hu, e2]
      rfl
    · have : ((filter_Update x0 x1 0 256 0).2 != 0) = true := by simpa using hu
      simp only [this, cond_true]
  · have e := contains_err (p := x0.Track.At) h
    have e1 : ((filter_Contains x0 x0.Track.At).2 != 0) = true := by simpa using e.1
    simp only [e1, cond_true, e.2]
    rfl
end Go.Sky
