/- The law AlertSure in plain Lean. Conditions: the arguments are 64-bit integers. -/
import Derived.Test.YtkjdmkgacmkpjaaAlert
namespace Go.Sky
open Go Go.Eng Go.Glue

theorem searchv_ok {T : Int → Int → Int → Int → Sep → Bool} {a b : FilterTrack} {s : Sep} {sec acc cl : Int} (h : (searchv T a b s sec acc cl).2 = 0) :
    filter_Check a = 0 ∧ filter_Check b = 0 ∧ sepIn s sec acc cl ∧ scanv (okF a b acc) (hitF T a b acc cl s) (sec + 1).toNat 0 = ((searchv T a b s sec acc cl).1, 0) := by
  unfold searchv at h ⊢
  by_cases h1 : filter_Check a = 0
  · by_cases h2 : filter_Check b = 0
    · by_cases h3 : sepIn s sec acc cl
      · rw [if_pos h1, if_pos h2, if_pos h3] at h ⊢
        exact ⟨h1, h2, h3, Prod.ext rfl h⟩
      · rw [if_pos h1, if_pos h2, if_neg h3] at h; cases h
    · rw [if_pos h1, if_neg h2] at h; exact absurd h h2
  · rw [if_neg h1] at h; exact absurd h h1

theorem search_mono {T1 T2 : Int → Int → Int → Int → Sep → Bool} {a b : FilterTrack} {s1 s2 : Sep} {sec acc cl : Int} (h2 : sepIn s2 sec acc cl)
    (himp : ∀ sq R H B : Int, (0 ≤ sq ∧ sq ≤ 8000000000000) → (0 ≤ R ∧ R ≤ 8000000) → (0 ≤ H ∧ H ≤ 60000) → (200 ≤ B ∧ B ≤ 200000000) → T1 sq R H B s1 = true → T2 sq R H B s2 = true)
    (h : (searchv T1 a b s1 sec acc cl).2 = 0) : (searchv T2 a b s2 sec acc cl).2 = 0 ∧ (searchv T2 a b s2 sec acc cl).1 ≤ (searchv T1 a b s1 sec acc cl).1 := by
  obtain ⟨c1, c2, _, e⟩ := searchv_ok h
  have hs := h2.2.2.1
  obtain ⟨n', g1, g2, _⟩ := scanv_mono (hit2 := hitF T2 a b acc cl s2) (K := 301) (fun j hj ho hh => by
    obtain ⟨sq, R, H, B, k1, _, _, b1, b2, b3, b4, k2⟩ := hit_eq T1 s1 (check_iff.1 c1) (check_iff.1 c2) h2.2.2.2.2 hj ho
    rw [k2 T2 s2]
    rw [k1] at hh
    exact himp sq R H B b1 b2 b3 b4 hh) (sec + 1).toNat 0 _ (by omega) e
  have e2 : searchv T2 a b s2 sec acc cl = (n', 0) := by unfold searchv; rw [if_pos c1, if_pos c2, if_pos h2]; exact g1
  rw [e2]
  exact ⟨rfl, g2⟩

theorem search_sym {T : Int → Int → Int → Int → Sep → Bool} {a b : FilterTrack} {s : Sep} {sec acc cl : Int} (c1 : filter_Check a = 0) (c2 : filter_Check b = 0) : searchv T a b s sec acc cl = searchv T b a s sec acc cl := by
  unfold searchv
  rw [if_pos c1, if_pos c2, if_pos c2, if_pos c1]
  by_cases h : sepIn s sec acc cl
  · rw [if_pos h, if_pos h]
    have hs := h.2.2.1
    refine scanv_congr (K := 301) (fun j hj => ?_) (fun j hj ho => ?_) _ _ (by omega)
    · unfold okF at_
      rw [imax_comm b.Track.Time]
      rw [Bool.eq_iff_iff]
      simp only [decide_eq_true_eq]
      exact ⟨fun h => ⟨h.2, h.1⟩, fun h => ⟨h.2, h.1⟩⟩
    · obtain ⟨sq, R, H, B, k1, k2, _⟩ := hit_eq T s (check_iff.1 c1) (check_iff.1 c2) h.2.2.2.2 hj ho
      rw [k1, k2]
  · rw [if_neg h, if_neg h]

theorem sq_le {x y : Int} (h0 : 0 ≤ x) (h : x ≤ y) : x * x ≤ y * y := Int.mul_le_mul h h h0 (by omega)
theorem sq_w {x : Int} (h : -10000000 ≤ x ∧ x ≤ 10000000) : w64 (x * x) = x * x := w64_id (by have := sq_bound h; omega)

theorem first_cert {s : Sep} (hs : (0 ≤ s.Lateral ∧ s.Lateral ≤ 1000000) ∧ (0 ≤ s.Vertical ∧ s.Vertical ≤ 60000)) {sq R H B : Int} (hR : 0 ≤ R ∧ R ≤ 8000000) (hB : 200 ≤ B ∧ B ≤ 200000000)
    (h : alert_Certain_1 sq R H B s = true) : alert_First_1 sq R H B s = true := by
  unfold alert_Certain_1 at h
  unfold alert_First_1
  rw [w64_id (x := s.Lateral - R) (by omega), w64_id (x := s.Vertical - B) (by omega), sq_w (by omega)] at h
  rw [w64_id (x := s.Lateral + R) (by omega), w64_id (x := s.Vertical + B) (by omega), sq_w (by omega)]
  simp only [ite_of_cond, Bool.and_eq_true, decide_eq_true_eq] at h ⊢
  by_cases h1 : s.Lateral - R > 0 ∧ sq < (s.Lateral - R) * (s.Lateral - R)
  · rw [if_pos h1, decide_eq_true_eq] at h
    have := sq_le (x := s.Lateral - R) (y := s.Lateral + R) (by omega) (by omega)
    rw [if_pos (by omega), decide_eq_true_eq]; omega
  · rw [if_neg h1] at h; cases h
theorem first_more {s : Sep} {L : Int} (hs : (0 ≤ s.Lateral ∧ s.Lateral ≤ 1000000) ∧ (0 ≤ s.Vertical ∧ s.Vertical ≤ 60000)) (hL : s.Lateral ≤ L ∧ L ≤ 1000000) {sq R H B : Int} (hR : 0 ≤ R ∧ R ≤ 8000000)
    (h : alert_First_1 sq R H B s = true) : alert_First_1 sq R H B ⟨L, s.Vertical⟩ = true := by
  unfold alert_First_1 at h ⊢
  show cond (decide (sq < w64 (w64 (L + R) * w64 (L + R)))) (decide (H < w64 (s.Vertical + B))) false = true
  rw [w64_id (x := s.Lateral + R) (by omega), sq_w (by omega)] at h
  rw [w64_id (x := L + R) (by omega), sq_w (by omega)]
  simp only [ite_of_cond, decide_eq_true_eq] at h ⊢
  have := sq_le (x := s.Lateral + R) (y := L + R) (by omega) (by omega)
  by_cases h1 : sq < (s.Lateral + R) * (s.Lateral + R)
  · rw [if_pos h1] at h
    rw [if_pos (by omega)]; exact h
  · rw [if_neg h1] at h; cases h

theorem AlertSure_true (x0 x1 : FilterTrack) (x2 : Sep) (x3 x4 : Int) (_k0 : x0.ok) (_k1 : x1.ok) (_k2 : x2.ok) (_k3 : I64 x3) (_k4 : I64 x4) : skywaykeep2_AlertSure x0 x1 x2 x3 x4 = true := by
  unfold skywaykeep2_AlertSure
  have e1 : alert_Certain FilterTrack.zero FilterTrack.zero (⟨10, 1000⟩ : Sep) 1 0 0 = (0, 0) := by kernel_rfl
  have e2 : alert_Certain FilterTrack.zero (⟨⟨0, 0, 0, ⟨100000, 0⟩, ⟨0, 0⟩, 0, 0, 0, 0, 0, 0⟩, 0, ⟨0, ⟨0, 0⟩, 0, 0, 0⟩⟩ : FilterTrack) (⟨10, 1000⟩ : Sep) 1 0 0 = (0, 8) := by kernel_rfl
  obtain ⟨sec, hsec⟩ : ∃ n, n = skywaykeep2_within x4 0 40 := ⟨_, rfl⟩
  obtain ⟨mo, hmo⟩ : ∃ n, n = skywaykeep2_within x3 0 500 := ⟨_, rfl⟩
  have b1 := within_in hsec.symm (by omega) (by omega) (by omega)
  have b2 := within_in hmo.symm (by omega) (by omega) (by omega)
  rw [e1, e2]
  have z1 : (((0 : Int) != 0) || ((0 : Int) != 0)) = false := rfl
  have z2 : ((8 : Int) != 8) = false := rfl
  simp only [z1, z2, cond_false, ← hsec, ← hmo, First_eq, Certain_eq]
  have A : (searchv alert_Certain_1 x0 x1 x2 sec 1 10).2 = 0 → (searchv alert_First_1 x0 x1 x2 sec 1 10).2 = 0 ∧ (searchv alert_First_1 x0 x1 x2 sec 1 10).1 ≤ (searchv alert_Certain_1 x0 x1 x2 sec 1 10).1 := fun h => by
    have hs := (searchv_ok h).2.2.1
    exact search_mono (T1 := alert_Certain_1) (T2 := alert_First_1) hs (fun sq R H B _ hR _ hB hh => first_cert ⟨hs.1, hs.2.1⟩ hR hB hh) h
  have BC : (searchv alert_First_1 x0 x1 x2 sec 1 10).2 = 0 → ((searchv alert_First_1 x0 x1 ⟨w64 (x2.Lateral + mo), x2.Vertical⟩ sec 1 10).2 = 0 → (searchv alert_First_1 x0 x1 ⟨w64 (x2.Lateral + mo), x2.Vertical⟩ sec 1 10).1 ≤ (searchv alert_First_1 x0 x1 x2 sec 1 10).1) ∧ (searchv alert_First_1 x0 x1 ⟨w64 (x2.Lateral + mo), x2.Vertical⟩ sec 1 10).2 ≠ 8 := fun h => by
    obtain ⟨c1, c2, hs, _⟩ := searchv_ok h
    have hl := hs.1
    rw [w64_id (x := x2.Lateral + mo) (by omega)]
    by_cases h3 : sepIn ⟨x2.Lateral + mo, x2.Vertical⟩ sec 1 10
    · have hl3 : 0 ≤ x2.Lateral + mo ∧ x2.Lateral + mo ≤ 1000000 := h3.1
      have := search_mono (T1 := alert_First_1) (T2 := alert_First_1) h3 (fun sq R H B _ hR _ _ hh => first_more (L := x2.Lateral + mo) ⟨hs.1, hs.2.1⟩ ⟨by omega, by omega⟩ hR hh) h
      exact ⟨fun _ => this.2, by omega⟩
    · have e : searchv alert_First_1 x0 x1 ⟨x2.Lateral + mo, x2.Vertical⟩ sec 1 10 = (0, 4) := by unfold searchv; rw [if_pos c1, if_pos c2, if_neg h3]
      rw [e]
      exact ⟨fun h => (by cases h), by decide⟩
  have D : ((searchv alert_First_1 x0 x1 x2 sec 1 10).2 = (searchv alert_First_1 x1 x0 x2 sec 1 10).2 ∨ (searchv alert_First_1 x0 x1 x2 sec 1 10).2 = 4 ∨ (searchv alert_First_1 x1 x0 x2 sec 1 10).2 = 4 ∨ (searchv alert_First_1 x0 x1 x2 sec 1 10).2 = 1 ∨ (searchv alert_First_1 x1 x0 x2 sec 1 10).2 = 1)
      ∧ ((searchv alert_First_1 x0 x1 x2 sec 1 10).2 = 0 → (searchv alert_First_1 x0 x1 x2 sec 1 10).1 = (searchv alert_First_1 x1 x0 x2 sec 1 10).1) := by
    by_cases c1 : filter_Check x0 = 0
    · by_cases c2 : filter_Check x1 = 0
      · rw [search_sym c1 c2]; exact ⟨.inl rfl, fun _ => rfl⟩
      · have f1 : searchv alert_First_1 x0 x1 x2 sec 1 10 = (0, filter_Check x1) := by unfold searchv; rw [if_pos c1, if_neg c2]
        have f2 : searchv alert_First_1 x1 x0 x2 sec 1 10 = (0, filter_Check x1) := by unfold searchv; rw [if_neg c2]
        rw [f1, f2]; exact ⟨.inl rfl, fun _ => rfl⟩
    · have f1 : searchv alert_First_1 x0 x1 x2 sec 1 10 = (0, filter_Check x0) := by unfold searchv; rw [if_neg c1]
      have k1 := (check_eq x0).resolve_left (fun h => c1 h.1)
      rw [f1]
      by_cases c2 : filter_Check x1 = 0
      · have f2 : searchv alert_First_1 x1 x0 x2 sec 1 10 = (0, filter_Check x0) := by unfold searchv; rw [if_pos c2, if_neg c1]
        rw [f2]; exact ⟨.inl rfl, fun _ => rfl⟩
      · have f2 : searchv alert_First_1 x1 x0 x2 sec 1 10 = (0, filter_Check x1) := by unfold searchv; rw [if_neg c2]
        have k2 := (check_eq x1).resolve_left (fun h => c2 h.1)
        rw [f2]
        exact ⟨by show filter_Check x0 = filter_Check x1 ∨ filter_Check x0 = 4 ∨ filter_Check x1 = 4 ∨ filter_Check x0 = 1 ∨ filter_Check x1 = 1; omega, fun _ => rfl⟩
  revert A BC D
  generalize (searchv alert_First_1 x0 x1 x2 sec 1 10) = r4
  generalize (searchv alert_Certain_1 x0 x1 x2 sec 1 10) = r5
  generalize (searchv alert_First_1 x0 x1 ⟨w64 (x2.Lateral + mo), x2.Vertical⟩ sec 1 10) = r7
  generalize (searchv alert_First_1 x1 x0 x2 sec 1 10) = r8
  intro A BC D
  obtain ⟨D, E⟩ := D
  have hD : (((((r4.2 == r8.2) || (r4.2 == 4)) || (r8.2 == 4)) || (r4.2 == 1)) || (r8.2 == 1)) = true := by simp; omega
  by_cases h4 : r4.2 = 0
  · have q1 : (r4.2 == 0) = true := by simp [h4]
    have q2 : (r4.2 != 0) = false := by simp [h4]
    have q3 : (r7.2 == 8) = false := by simpa using (BC h4).2
    have q4 : (r4.1 == r8.1) = true := by simpa using E h4
    by_cases h7 : r7.2 = 0
    · have q5 : (r7.2 == 0) = true := by simp [h7]
      have q6 : decide (r7.1 > r4.1) = false := by have := (BC h4).1 h7; simp; omega
      by_cases h5 : r5.2 = 0
      · have q7 : (r5.2 == 0) = true := by simp [h5]
        have q8 : decide (r4.1 > r5.1) = false := by have := (A h5).2; simp; omega
        simp only [q1, q2, q3, q4, q5, q6, q7, q8, hD, cond_true, cond_false]
      · have q7 : (r5.2 == 0) = false := by simp [h5]
        simp only [q1, q2, q3, q4, q5, q6, q7, hD, cond_true, cond_false]
    · have q5 : (r7.2 == 0) = false := by simp [h7]
      by_cases h5 : r5.2 = 0
      · have q7 : (r5.2 == 0) = true := by simp [h5]
        have q8 : decide (r4.1 > r5.1) = false := by have := (A h5).2; simp; omega
        simp only [q1, q2, q3, q4, q5, q7, q8, hD, cond_true, cond_false]
      · have q7 : (r5.2 == 0) = false := by simp [h5]
        simp only [q1, q2, q3, q4, q5, q7, hD, cond_true, cond_false]
  · have q1 : (r4.2 == 0) = false := by simp [h4]
    have q2 : (r4.2 != 0) = true := by simp [h4]
    have q7 : (r5.2 == 0) = false := by
      have : ¬ r5.2 = 0 := fun h => h4 (A h).1
      simp [this]
    simp only [q1, q2, q7, hD, cond_true, cond_false]
end Go.Sky
