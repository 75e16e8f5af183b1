/- The angle of a vector. Conditions: none. -/
import Derived.Test.YtakjcphknccdnaaDoorGf
namespace Go.Sky
open Go Go.Eng

theorem floor_bd {e x r : Nat} [h : Bd e x] (hr : math_Floor x = r) : Bd (e + 1) r := by subst hr; exact bdF
theorem guess_in {q r : Nat} {g : Int} (_h : Bd 46 q) (h1 : math_Floor (fdiv (fmul q 4656722014701092864) 4614256656552045848) = r) (h2 : f2i r = g) : -1152921504606846976 ≤ g ∧ g ≤ 1152921504606846976 := by
  have i_ := floor_bd h1
  have j_ : Bd 60 r := inst_bd
  obtain ⟨s, a, h3, _, h5⟩ := f2i_bd (x := r) (e := 60) (by decide)
  have : (2 : Nat) ^ 60 = 1152921504606846976 := rfl
  rw [← h2, h5]
  split <;> omega
/-- The angle of a vector, and the error. -/
def ofF (v : P) : Int × Int :=
  if v.X < -2000000 ∨ 2000000 < v.X ∨ v.Y < -2000000 ∨ 2000000 < v.Y then (0, 4)
  else if v.X = 0 ∧ v.Y = 0 then (0, 10)
  else (if cs (secN v.X v.Y) * v.X - sn (secN v.X v.Y) * v.Y ≤ v.Y * sn (secN v.X v.Y + 1) - v.X * cs (secN v.X v.Y + 1) then (secN v.X v.Y : Int) else ((secN v.X v.Y + 1) % 4096 : Nat), 0)
theorem of_nzb {v : P} (h : ((v.X == 0) && (v.Y == 0)) = false) : ¬ (v.X = 0 ∧ v.Y = 0) := by
  rintro ⟨h1, h2⟩
  rw [h1, h2] at h; cases h
def OfIn (v : P) : Prop := -2000000 ≤ v.X ∧ v.X ≤ 2000000 ∧ -2000000 ≤ v.Y ∧ v.Y ≤ 2000000
theorem of_inb {v : P} (h : ((((decide (v.X < (-2000000))) || (decide (v.X > 2000000))) || (decide (v.Y < (-2000000)))) || (decide (v.Y > 2000000))) = false) : OfIn v := by
  simp only [Bool.or_eq_false_iff, decide_eq_false_iff_not] at h
  unfold OfIn; omega
theorem of_out {v : P} (h : v.X < -2000000 ∨ 2000000 < v.X ∨ v.Y < -2000000 ∨ 2000000 < v.Y) : 0 = (ofF v).1 ∧ 4 = (ofF v).2 := by unfold ofF; rw [if_pos h]; exact ⟨rfl, rfl⟩
theorem of_zero {v : P} (h : OfIn v) (h0 : v.X = 0 ∧ v.Y = 0) : 0 = (ofF v).1 ∧ 10 = (ofF v).2 := by
  obtain ⟨a1, a2, a3, a4⟩ := h
  unfold ofF; rw [if_neg (by omega), if_pos h0]; exact ⟨rfl, rfl⟩
theorem mul_in {a b : Int} (ha : -16384 ≤ a ∧ a ≤ 16384) (hb : -2000000 ≤ b ∧ b ≤ 2000000) : -32768000000 ≤ a * b ∧ a * b ≤ 32768000000 := by
  have h : (a * b).natAbs ≤ 16384 * 2000000 := by rw [Int.natAbs_mul]; exact Nat.mul_le_mul (by omega) (by omega)
  omega
theorem unit_val {h : Int} (hh : 0 ≤ h) : angle_unit h = ⟨sn h.toNat, cs h.toNat⟩ ∧ angle_unit (h + 1) = ⟨sn (h.toNat + 1), cs (h.toNat + 1)⟩ := by
  obtain ⟨k, rfl⟩ : ∃ k : Nat, h = k := ⟨h.toNat, by omega⟩
  unfold angle_unit
  simp only
  rw [show (k : Int) + 1 = ((k + 1 : Nat) : Int) by omega, sin_nat, cos_nat, sin_nat, cos_nat, Int.toNat_natCast]
  exact ⟨rfl, rfl⟩
theorem cross_val {v : P} {h : Int} (hv : OfIn v) (hh : 0 ≤ h ∧ h < 4096) : angle_cross (angle_unit h) v = cs h.toNat * v.X - sn h.toNat * v.Y ∧ angle_cross v (angle_unit (h + 1)) = v.Y * sn (h.toNat + 1) - v.X * cs (h.toNat + 1) ∧
    w64 ((w64 ((angle_unit h).X * v.X)) + (w64 ((angle_unit h).Y * v.Y))) = sn h.toNat * v.X + cs h.toNat * v.Y := by
  unfold OfIn at hv
  rw [(unit_val hh.1).1, (unit_val hh.1).2]
  unfold angle_cross
  have a1 := mul_in (cs_in h.toNat) ⟨hv.1, hv.2.1⟩
  have a2 := mul_in (sn_in h.toNat) ⟨hv.1, hv.2.1⟩
  have a3 := mul_in (cs_in h.toNat) hv.2.2
  have a4 := mul_in (sn_in h.toNat) hv.2.2
  have a5 := mul_in (cs_in (h.toNat + 1)) ⟨hv.1, hv.2.1⟩
  have a6 := mul_in (sn_in (h.toNat + 1)) hv.2.2
  rw [Int.mul_comm _ v.X] at a5
  rw [Int.mul_comm _ v.Y] at a6
  simp only
  refine ⟨?_, ?_, ?_⟩
  · rw [w64_id (x := cs h.toNat * v.X) (by omega), w64_id (x := sn h.toNat * v.Y) (by omega), w64_id (by omega)]
  · rw [w64_id (x := v.Y * sn (h.toNat + 1)) (by omega), w64_id (x := v.X * cs (h.toNat + 1)) (by omega), w64_id (by omega)]
  · rw [w64_id (x := sn h.toNat * v.X) (by omega), w64_id (x := cs h.toNat * v.Y) (by omega), w64_id (by omega)]
theorem sec_iff {v : P} {h : Int} (hv : OfIn v) (hh : 0 ≤ h ∧ h < 4096) : (((decide (angle_cross (angle_unit h) v ≥ 0)) && (decide (angle_cross v (angle_unit (h + 1)) > 0))) && (decide ((w64 ((w64 ((angle_unit h).X * v.X)) + (w64 ((angle_unit h).Y * v.Y)))) > 0))) = true ↔ Sec h.toNat v.X v.Y := by
  obtain ⟨e1, e2, e3⟩ := cross_val hv hh
  rw [e1, e2, e3, Bool.and_eq_true, Bool.and_eq_true, decide_eq_true_eq, decide_eq_true_eq, decide_eq_true_eq]
  unfold Sec
  exact and_assoc
theorem of_sec {v : P} {h : Int} (hv : OfIn v) (h0 : ¬ (v.X = 0 ∧ v.Y = 0)) (hh : 0 ≤ h ∧ h < 4096) (c : (((decide (angle_cross (angle_unit h) v ≥ 0)) && (decide (angle_cross v (angle_unit (h + 1)) > 0))) && (decide ((w64 ((w64 ((angle_unit h).X * v.X)) + (w64 ((angle_unit h).Y * v.Y)))) > 0))) = true) :
    ofF v = (if angle_cross (angle_unit h) v ≤ angle_cross v (angle_unit (h + 1)) then h else angle_Norm (h + 1), 0) := by
  have hs := secN_eq (by omega) ((sec_iff hv hh).1 c)
  obtain ⟨e1, e2, _⟩ := cross_val hv hh
  unfold OfIn at hv
  unfold ofF
  rw [if_neg (by omega), if_neg h0, hs, e1, e2, norm_eq]
  generalize cs h.toNat * v.X - sn h.toNat * v.Y = a
  generalize v.Y * sn (h.toNat + 1) - v.X * cs (h.toNat + 1) = b
  by_cases d : a ≤ b
  · rw [if_pos d, if_pos d, Int.toNat_of_nonneg hh.1]
  · rw [if_neg d, if_neg d, show (((h.toNat + 1) % 4096 : Nat) : Int) = (h + 1) % 4096 by omega]
theorem of_T {v : P} {h : Int} (hv : OfIn v) (h0 : ¬ (v.X = 0 ∧ v.Y = 0)) (hh : 0 ≤ h ∧ h < 4096) (c : (((decide (angle_cross (angle_unit h) v ≥ 0)) && (decide (angle_cross v (angle_unit (h + 1)) > 0))) && (decide ((w64 ((w64 ((angle_unit h).X * v.X)) + (w64 ((angle_unit h).Y * v.Y)))) > 0))) = true)
    (d : decide (angle_cross (angle_unit h) v ≤ angle_cross v (angle_unit (h + 1))) = true) : h = (ofF v).1 ∧ 0 = (ofF v).2 := by
  rw [of_sec hv h0 hh c, if_pos (of_decide_eq_true d)]; exact ⟨rfl, rfl⟩
theorem of_F {v : P} {h : Int} (hv : OfIn v) (h0 : ¬ (v.X = 0 ∧ v.Y = 0)) (hh : 0 ≤ h ∧ h < 4096) (c : (((decide (angle_cross (angle_unit h) v ≥ 0)) && (decide (angle_cross v (angle_unit (h + 1)) > 0))) && (decide ((w64 ((w64 ((angle_unit h).X * v.X)) + (w64 ((angle_unit h).Y * v.Y)))) > 0))) = true)
    (d : decide (angle_cross (angle_unit h) v ≤ angle_cross v (angle_unit (h + 1))) = false) : angle_Norm (h + 1) = (ofF v).1 ∧ 0 = (ofF v).2 := by
  rw [of_sec hv h0 hh c, if_neg (of_decide_eq_false d)]; exact ⟨rfl, rfl⟩
/-- The place that is looked at in round j. -/
def resN (g : Int) (j : Nat) : Nat := ((if j % 2 = 1 then g - j else g + j) % 4096).toNat
def OfInv (v : P) (g s : Int) : Prop := (0 ≤ s ∧ s ≤ 4096) ∧ ∀ j : Nat, (j : Int) < s → ¬ Sec (resN g j) v.X v.Y
theorem of_step {v : P} {g s h : Int} (hv : OfIn v) (hi : OfInv v g s) (hs : s < 4096) (hh : (resN g s.toNat : Int) = h) (c : (((decide (angle_cross (angle_unit h) v ≥ 0)) && (decide (angle_cross v (angle_unit (h + 1)) > 0))) && (decide ((w64 ((w64 ((angle_unit h).X * v.X)) + (w64 ((angle_unit h).Y * v.Y)))) > 0))) = false) :
    OfInv v g (s + 1) := by
  unfold OfInv at hi ⊢
  refine ⟨by omega, fun j hj => ?_⟩
  by_cases hjs : (j : Int) < s
  · exact hi.2 j hjs
  · intro hx
    have e : s.toNat = j := by omega
    rw [e] at hh
    have l : resN g j < 4096 := by unfold resN; omega
    rw [(sec_iff hv (by omega)).2 (by rw [← hh, Int.toNat_natCast]; exact hx)] at c
    cases c
theorem step_T {v : P} {g s : Int} (hv : OfIn v) (hi : OfInv v g s) (hs : s < 4096) (ho : (s.tmod 2 == 1) = true) (c : (((decide (angle_cross (angle_unit (angle_Norm (g - s))) v ≥ 0)) && (decide (angle_cross v (angle_unit (angle_Norm (g - s) + 1)) > 0))) && (decide ((w64 ((w64 ((angle_unit (angle_Norm (g - s))).X * v.X)) + (w64 ((angle_unit (angle_Norm (g - s))).Y * v.Y)))) > 0))) = false) :
    OfInv v g (s + 1) := by
  have o := beq_iff_eq.1 ho
  rw [Int.tmod_eq_emod_of_nonneg hi.1.1] at o
  have := hi.1.1
  refine of_step hv hi hs ?_ c
  rw [norm_eq]; unfold resN
  rw [if_pos (by omega)]; omega
theorem step_F {v : P} {g s : Int} (hv : OfIn v) (hi : OfInv v g s) (hs : s < 4096) (ho : (s.tmod 2 == 1) = false) (c : (((decide (angle_cross (angle_unit (angle_Norm (g + s))) v ≥ 0)) && (decide (angle_cross v (angle_unit (angle_Norm (g + s) + 1)) > 0))) && (decide ((w64 ((w64 ((angle_unit (angle_Norm (g + s))).X * v.X)) + (w64 ((angle_unit (angle_Norm (g + s))).Y * v.Y)))) > 0))) = false) :
    OfInv v g (s + 1) := by
  have o := beq_eq_false_iff_ne.1 ho
  rw [Int.tmod_eq_emod_of_nonneg hi.1.1] at o
  have := hi.1.1
  refine of_step hv hi hs ?_ c
  rw [norm_eq]; unfold resN
  rw [if_neg (by omega)]; omega
theorem ret_T {v u w : P} {g h a b : Int} (hv : OfIn v) (h0 : ¬ (v.X = 0 ∧ v.Y = 0)) (hn : angle_Norm g = h) (hu : angle_unit h = u) (hw : angle_unit (h + 1) = w) (ha : angle_cross u v = a) (hb : angle_cross v w = b) (c : (((decide (a ≥ 0)) && (decide (b > 0))) && (decide ((w64 ((w64 (u.X * v.X)) + (w64 (u.Y * v.Y)))) > 0))) = true) (d : decide (a ≤ b) = true) : h = (ofF v).1 ∧ 0 = (ofF v).2 := by
  subst hu hw ha hb; exact of_T hv h0 (norm_in hn) c d
theorem ret_F {v u w : P} {g h a b r : Int} (hv : OfIn v) (h0 : ¬ (v.X = 0 ∧ v.Y = 0)) (hn : angle_Norm g = h) (hu : angle_unit h = u) (hw : angle_unit (h + 1) = w) (ha : angle_cross u v = a) (hb : angle_cross v w = b) (c : (((decide (a ≥ 0)) && (decide (b > 0))) && (decide ((w64 ((w64 (u.X * v.X)) + (w64 (u.Y * v.Y)))) > 0))) = true) (d : decide (a ≤ b) = false) (hr : angle_Norm (h + 1) = r) : r = (ofF v).1 ∧ 0 = (ofF v).2 := by
  subst hu hw ha hb hr; exact of_F hv h0 (norm_in hn) c d
theorem nxt_T {v u w : P} {g s h a b : Int} (hv : OfIn v) (hi : OfInv v g s) (hs : s < 4096) (ho : (s.tmod 2 == 1) = true) (hn : angle_Norm (g - s) = h) (hu : angle_unit h = u) (hw : angle_unit (h + 1) = w) (ha : angle_cross u v = a) (hb : angle_cross v w = b) (c : (((decide (a ≥ 0)) && (decide (b > 0))) && (decide ((w64 ((w64 (u.X * v.X)) + (w64 (u.Y * v.Y)))) > 0))) = false) : OfInv v g (s + 1) := by
  subst hn; subst hu hw ha hb; exact step_T hv hi hs ho c
theorem nxt_F {v u w : P} {g s h a b : Int} (hv : OfIn v) (hi : OfInv v g s) (hs : s < 4096) (ho : (s.tmod 2 == 1) = false) (hn : angle_Norm (g + s) = h) (hu : angle_unit h = u) (hw : angle_unit (h + 1) = w) (ha : angle_cross u v = a) (hb : angle_cross v w = b) (c : (((decide (a ≥ 0)) && (decide (b > 0))) && (decide ((w64 ((w64 (u.X * v.X)) + (w64 (u.Y * v.Y)))) > 0))) = false) : OfInv v g (s + 1) := by
  subst hn; subst hu hw ha hb; exact step_F hv hi hs ho c
theorem of_start (v : P) (g : Int) : OfInv v g 0 := ⟨by omega, fun j hj => by omega⟩
theorem of_end {v : P} {g s : Int} (h0 : ¬ (v.X = 0 ∧ v.Y = 0)) (hi : OfInv v g s) (hs : ¬ s < 4096) : False := by
  obtain ⟨h1, h2⟩ := secN_ok h0
  generalize secN v.X v.Y = K at *
  obtain ⟨e, he⟩ : ∃ e : Nat, ((K : Int) - g) % 4096 = e := ⟨(((K : Int) - g) % 4096).toNat, by omega⟩
  by_cases ho : e % 2 = 1
  · refine hi.2 (4096 - e) (by omega) ?_
    have : resN g (4096 - e) = K := by unfold resN; rw [if_pos (by omega)]; omega
    rw [this]; exact h2
  · refine hi.2 e (by omega) ?_
    have : resN g e = K := by unfold resN; rw [if_neg ho]; omega
    rw [this]; exact h2
end Go.Sky
