/- The law CoastTurns in plain Lean. Conditions: the arguments are 64-bit integers. -/
import Derived.Test.YtbhemgagabdjkaaWd
import Derived.Test.YtbhemgagabdjkaaNum
import Derived.Test.YtbhemgagabdjkaaOk
namespace Go.Sky
open Go Go.Eng Go.Glue

/-- A track with another state and another number of misses. -/
def upd (f : FilterTrack) (s m : Int) : FilterTrack := ⟨⟨f.Track.ID, s, f.Track.Time, f.Track.At, f.Track.Speed, f.Track.Height, f.Track.Rate, f.Track.Radius, f.Track.Code, f.Track.Hits, m⟩, f.Slack, f.Last⟩
theorem upd_upd (f : FilterTrack) (s m s' m' : Int) : upd (upd f s m) s' m' = upd f s' m' := rfl

theorem check_upd {f : FilterTrack} {s m : Int} (h : filter_Check f = 0) (hs : 0 ≤ s ∧ s ≤ 2) (hm : 0 ≤ m) : filter_Check (upd f s m) = 0 ∧ (0 ≤ f.Track.State ∧ f.Track.State ≤ 2) := by
  have e0 : gate_CheckTrack (upd f s m).Track = gate_CheckTrack f.Track := rfl
  have e1 : (upd f s m).Track.Speed = f.Track.Speed := rfl
  have e2 : (upd f s m).Track.Rate = f.Track.Rate := rfl
  have e3 : (upd f s m).Slack = f.Slack := rfl
  have e4 : (upd f s m).Track.ID = f.Track.ID := rfl
  have e5 : (upd f s m).Track.Hits = f.Track.Hits := rfl
  have e6 : (upd f s m).Last = f.Last := rfl
  have e7 : (upd f s m).Track.Time = f.Track.Time := rfl
  have e8 : (upd f s m).Track.State = s := rfl
  have e9 : (upd f s m).Track.Misses = m := rfl
  have o1 : ∀ n, filter_out n 0 2 = decide (n < 0 ∨ n > 2) := fun n => by
    unfold filter_out
    rw [Bool.eq_iff_iff]
    simp
  unfold filter_Check at h ⊢
  simp only [ite_of_cond, e0, e1, e2, e3, e4, e5, e6, e7, e8, e9, o1, Bool.or_eq_true, decide_eq_true_eq] at h ⊢
  cases h1 : (gate_CheckTrack f.Track != 0) with
  | true => rw [if_pos h1] at h; simp [h] at h1
  | false =>
    rw [if_neg (by simp [h1])] at h ⊢
    by_cases h2 : filter_out f.Track.Speed.X (-12800) 12800 = true
    · rw [if_pos h2] at h; cases h
    · rw [if_neg h2] at h ⊢
      by_cases h3 : filter_out f.Track.Speed.Y (-12800) 12800 = true
      · rw [if_pos h3] at h; cases h
      · rw [if_neg h3] at h ⊢
        by_cases h4 : filter_out f.Track.Rate (-3200) 3200 = true
        · rw [if_pos h4] at h; cases h
        · rw [if_neg h4] at h ⊢
          by_cases h5 : ((filter_out f.Slack 0 409600 = true ∨ f.Track.ID < 0) ∨ f.Track.Hits < 0) ∨ f.Track.Misses < 0
          · rw [if_pos h5] at h; cases h
          · rw [if_neg h5] at h
            rw [if_neg (by rintro (hh | hh); exact h5 (.inl hh); omega)]
            by_cases h6 : f.Track.State < 0 ∨ f.Track.State > 2
            · rw [if_pos h6] at h; cases h
            · rw [if_neg h6] at h
              rw [if_neg (by omega)]
              exact ⟨h, by omega⟩

theorem miss_eq {f : FilterTrack} {n : Int} (h : filter_Check f = 0) (hn : 0 ≤ n ∧ n ≤ 20) (hm : 0 ≤ f.Track.Misses ∧ f.Track.Misses ≤ 50) :
    coast_Miss f n = (upd f (if f.Track.State = 1 then 2 else f.Track.State) (f.Track.Misses + 1), decide (f.Track.Misses + 1 > n), 0) := by
  unfold coast_Miss
  have e0 : (filter_Check f != 0) = false := by simp [h]
  have e1 : ((decide (n < 0)) || (decide (n > 100))) = false := by simp; omega
  have e2 : decide (f.Track.Misses < 101) = true := by simp; omega
  simp only [e0, e1, e2, cond_true, cond_false]
  rw [w64_id (by omega)]
  by_cases h1 : f.Track.State = 1
  · have : (f.Track.State == 1) = true := by simp [h1]
    rw [this, cond_true, if_pos h1]; rfl
  · have : (f.Track.State == 1) = false := by simp [h1]
    rw [this, cond_false, if_neg h1]; rfl
theorem hit_eq {f : FilterTrack} (h : filter_Check f = 0) : coast_Hit f = (upd f (if f.Track.State = 2 then 1 else f.Track.State) 0, 0) := by
  unfold coast_Hit
  have e0 : (filter_Check f != 0) = false := by simp [h]
  simp only [e0, cond_false]
  by_cases h1 : f.Track.State = 2
  · have : (f.Track.State == 2) = true := by simp [h1]
    rw [this, cond_true, if_pos h1]; rfl
  · have : (f.Track.State == 2) = false := by simp [h1]
    rw [this, cond_false, if_neg h1]; rfl

/-- The rounds of misses. -/
theorem turns_L1 {f : FilterTrack} {n : Int} (h : filter_Check f = 0) (hn : 0 ≤ n ∧ n ≤ 20) : ∀ (m k : Nat) (s : Int), (m : Int) + k = n + 1 → 0 ≤ s ∧ s ≤ 2 →
    skywaykeep2_CoastTurns_L1 n m k (decide ((k : Int) > n)) (upd f s k) = .inl (true, upd f (if s = 1 ∧ m ≠ 0 then 2 else s) (n + 1))
  | 0, k, s, hk, _ => by
    have e : (k : Int) = n + 1 := by omega
    simp only [skywaykeep2_CoastTurns_L1, e]
    have : decide (n + 1 > n) = true := by simp; omega
    rw [this, if_neg (by simp)]
  | m + 1, k, s, hk, hs => by
    unfold skywaykeep2_CoastTurns_L1
    have e1 : decide ((k : Int) > n) = false := by simp; omega
    rw [e1, cond_false]
    have hc := (check_upd (s := s) (m := (k : Int)) h hs (by omega)).1
    simp only [miss_eq hc hn (show 0 ≤ (upd f s k).Track.Misses ∧ (upd f s k).Track.Misses ≤ 50 from ⟨by show (0 : Int) ≤ (k : Int); omega, by show (k : Int) ≤ 50; omega⟩)]
    have e2 : ((0 : Int) != 0) = false := rfl
    rw [e2, cond_false, upd_upd]
    show skywaykeep2_CoastTurns_L1 n m (k + 1) (decide ((k : Int) + 1 > n)) (upd f (if s = 1 then 2 else s) ((k : Int) + 1)) = _
    have ih := turns_L1 h hn m (k + 1) (if s = 1 then 2 else s) (by omega) (by split <;> omega)
    rw [show (((k + 1 : Nat)) : Int) = (k : Int) + 1 by omega] at ih
    rw [ih]
    congr 3
    by_cases h1 : s = 1
    · rw [if_pos h1]
      have : ¬ ((2 : Int) = 1 ∧ m ≠ 0) := by omega
      rw [if_neg this, if_pos ⟨h1, by omega⟩]
    · rw [if_neg h1, if_neg (fun hh => h1 hh.1), if_neg (fun hh => h1 hh.1)]

theorem CoastTurns_true (x0 : FilterTrack) (x1 : Int) (_k0 : x0.ok) (_k1 : I64 x1) : skywaykeep2_CoastTurns x0 x1 = true := by
  unfold skywaykeep2_CoastTurns
  have e0 : coast_Miss ⟨⟨0, 1, 0, ⟨0, 0⟩, ⟨0, 0⟩, 0, 0, 0, 0, 0, 0⟩, 0, ⟨0, ⟨0, 0⟩, 0, 0, 0⟩⟩ 5 = (⟨⟨0, 2, 0, ⟨0, 0⟩, ⟨0, 0⟩, 0, 0, 0, 0, 0, 1⟩, 0, ⟨0, ⟨0, 0⟩, 0, 0, 0⟩⟩, false, 0) := by decide
  rw [e0]
  have e1 : ((((0 : Int) != 0) || false) || ((2 : Int) != 2)) = false := rfl
  simp only [e1, cond_false]
  obtain ⟨n, hn⟩ : ∃ n, n = skywaykeep2_within x1 0 20 := ⟨_, rfl⟩
  have hb := within_in hn.symm (by omega) (by omega) (by omega)
  rw [← hn]
  by_cases h : filter_Check x0 = 0
  · have hs := (check_upd (s := 0) (m := 0) h (by omega) (by omega)).2
    rw [hit_eq h]
    have e2 : ((0 : Int) != 0) = false := rfl
    simp only [e2, cond_false]
    obtain ⟨s, hse⟩ : ∃ s, s = if x0.Track.State = 2 then 1 else x0.Track.State := ⟨_, rfl⟩
    rw [← hse]
    have hs1 : s = 0 ∨ s = 1 := by rw [hse]; split <;> omega
    have hl := turns_L1 h hb (n + 1).toNat 0 s (by omega) (by omega)
    have e3 : decide (((0 : Nat) : Int) > n) = false := by simp; omega
    rw [e3] at hl
    rw [show upd x0 s ((0 : Nat) : Int) = upd x0 s 0 from rfl] at hl
    rw [hl]
    simp only [Sum.elim_inl]
    have hc := (check_upd (s := if s = 1 ∧ (n + 1).toNat ≠ 0 then 2 else s) (m := n + 1) h (by split <;> omega) (by omega)).1
    rw [hit_eq hc]
    simp only [upd_upd]
    have e4 : (if (upd x0 (if s = 1 ∧ (n + 1).toNat ≠ 0 then 2 else s) (n + 1)).Track.State = 2 then (1 : Int) else (upd x0 (if s = 1 ∧ (n + 1).toNat ≠ 0 then 2 else s) (n + 1)).Track.State) = s := by
      show (if (if s = 1 ∧ (n + 1).toNat ≠ 0 then (2 : Int) else s) = 2 then (1 : Int) else (if s = 1 ∧ (n + 1).toNat ≠ 0 then 2 else s)) = s
      rcases hs1 with rfl | rfl
      · rfl
      · rw [if_pos (show (1 : Int) = 1 ∧ (n + 1).toNat ≠ 0 from ⟨rfl, by omega⟩)]; rfl
    rw [e4, FilterTrack.eqb_eq]
    simp
  · have e2 : (filter_Check x0 != 0) = true := by simpa using h
    have e3 : coast_Hit x0 = (⟨⟨0, 0, 0, ⟨0, 0⟩, ⟨0, 0⟩, 0, 0, 0, 0, 0, 0⟩, 0, ⟨0, ⟨0, 0⟩, 0, 0, 0⟩⟩, filter_Check x0) := by
      unfold coast_Hit
      simp only [e2, cond_true]
    rw [e3]
    simp only [e2, cond_true]
    rfl
end Go.Sky
