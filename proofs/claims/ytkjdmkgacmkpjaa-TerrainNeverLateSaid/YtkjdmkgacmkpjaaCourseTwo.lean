/- What a course keeps: bounds of places and velocities, and the change of the velocity. Conditions: in each theorem. -/
import Derived.Test.YtkjdmkgacmkpjaaCourse
namespace Go.Sky
open Go Go.Eng Go.Glue

theorem nextv_ok {pushes : List Int} {accel : Int} (ha : 0 ≤ accel ∧ accel ≤ 1000) {k : Nat} {v : P} (hv : (-200 ≤ v.X ∧ v.X ≤ 200) ∧ (-200 ≤ v.Y ∧ v.Y ≤ 200)) :
    ((-200 ≤ (nextv pushes accel k v).X ∧ (nextv pushes accel k v).X ≤ 200) ∧ (-200 ≤ (nextv pushes accel k v).Y ∧ (nextv pushes accel k v).Y ≤ 200)) ∧ Ball ((nextv pushes accel k v).X - v.X) ((nextv pushes accel k v).Y - v.Y) accel := by
  have b0 : Ball (v.X - v.X) (v.Y - v.Y) accel := by
    rw [Int.sub_self, Int.sub_self]; exact Ball.box (b := 0) (by omega) (by omega) ha.1 (by have := Int.mul_nonneg ha.1 ha.1; omega)
  obtain ⟨n, hn⟩ : ∃ n, n = skywaykeep2_within (pushes[k]?.getD 0) (w64 (0 - accel)) accel := ⟨_, rfl⟩
  have hb : -accel ≤ n ∧ n ≤ accel := by
    rw [w64_id (x := 0 - accel) (by omega)] at hn
    have := within_in hn.symm (by omega) (by omega) (by omega)
    omega
  unfold nextv
  rw [← hn, w64_id (x := v.X + n) (by omega), w64_id (x := v.Y + n) (by omega)]
  cases decide ((k : Int) ≥ (pushes.length : Int))
  · simp only [cond_false]
    have ax := Ball.axis hb
    have bx : Ball (v.X + n - v.X) (v.Y - v.Y) accel := by rw [show v.X + n - v.X = n by omega, Int.sub_self]; exact ax.1
    have by_ : Ball (v.X - v.X) (v.Y + n - v.Y) accel := by rw [show v.Y + n - v.Y = n by omega, Int.sub_self]; exact ax.2
    cases h1 : (((((k : Int).tmod 2) == 0) && (decide ((v.X + n) ≥ (-200)))) && (decide ((v.X + n) ≤ 200))) <;>
    cases h2 : (((((k : Int).tmod 2) == 1) && (decide ((v.Y + n) ≥ (-200)))) && (decide ((v.Y + n) ≤ 200)))
    · exact ⟨hv, b0⟩
    · simp at h2
      exact ⟨⟨hv.1, by simp only [cond_true, cond_false]; omega⟩, by_⟩
    · simp at h1
      exact ⟨⟨by simp only [cond_true, cond_false]; omega, hv.2⟩, bx⟩
    · simp only [Bool.and_eq_true, beq_iff_eq] at h1 h2
      omega
  · exact ⟨hv, b0⟩

/-- The course of the law: bounds and steps. -/
theorem pv_ok {pushes : List Int} {accel : Int} (ha : 0 ≤ accel ∧ accel ≤ 1000) {p0 v0 : P} (hp : (-100000 ≤ p0.X ∧ p0.X ≤ 100000) ∧ (-100000 ≤ p0.Y ∧ p0.Y ≤ 100000)) (hv : (-200 ≤ v0.X ∧ v0.X ≤ 200) ∧ (-200 ≤ v0.Y ∧ v0.Y ≤ 200)) : ∀ k : Nat, k ≤ 1000 →
    ((-100000 - 200 * (k : Int) ≤ (pv pushes accel p0 v0 k).1.X ∧ (pv pushes accel p0 v0 k).1.X ≤ 100000 + 200 * (k : Int)) ∧ (-100000 - 200 * (k : Int) ≤ (pv pushes accel p0 v0 k).1.Y ∧ (pv pushes accel p0 v0 k).1.Y ≤ 100000 + 200 * (k : Int))) ∧
    ((-200 ≤ (pv pushes accel p0 v0 k).2.X ∧ (pv pushes accel p0 v0 k).2.X ≤ 200) ∧ (-200 ≤ (pv pushes accel p0 v0 k).2.Y ∧ (pv pushes accel p0 v0 k).2.Y ≤ 200)) ∧
    ((pv pushes accel p0 v0 (k + 1)).1.X = (pv pushes accel p0 v0 k).1.X + (pv pushes accel p0 v0 k).2.X ∧ (pv pushes accel p0 v0 (k + 1)).1.Y = (pv pushes accel p0 v0 k).1.Y + (pv pushes accel p0 v0 k).2.Y) ∧
    Ball ((pv pushes accel p0 v0 (k + 1)).2.X - (pv pushes accel p0 v0 k).2.X) ((pv pushes accel p0 v0 (k + 1)).2.Y - (pv pushes accel p0 v0 k).2.Y) accel
  | 0, _ => by
    have e : pv pushes accel p0 v0 0 = (p0, v0) := rfl
    have e1 : pv pushes accel p0 v0 (0 + 1) = (padd p0 v0, nextv pushes accel 0 v0) := rfl
    rw [e, e1]
    refine ⟨by simp only; omega, hv, ⟨w64_id (by omega), w64_id (by omega)⟩, (nextv_ok ha hv).2⟩
  | k + 1, hk => by
    obtain ⟨i1, i2, ⟨i3, i4⟩, _⟩ := pv_ok ha hp hv k (by omega)
    have n := nextv_ok (pushes := pushes) (k := k) ha i2
    have e1 : pv pushes accel p0 v0 (k + 1) = (padd (pv pushes accel p0 v0 k).1 (pv pushes accel p0 v0 k).2, nextv pushes accel k (pv pushes accel p0 v0 k).2) := rfl
    have hvk : ((-200 ≤ (pv pushes accel p0 v0 (k + 1)).2.X ∧ (pv pushes accel p0 v0 (k + 1)).2.X ≤ 200) ∧ (-200 ≤ (pv pushes accel p0 v0 (k + 1)).2.Y ∧ (pv pushes accel p0 v0 (k + 1)).2.Y ≤ 200)) := by rw [e1]; exact n.1
    have n2 := nextv_ok (pushes := pushes) (k := k + 1) ha hvk
    have e2 : pv pushes accel p0 v0 (k + 1 + 1) = (padd (pv pushes accel p0 v0 (k + 1)).1 (pv pushes accel p0 v0 (k + 1)).2, nextv pushes accel (k + 1) (pv pushes accel p0 v0 (k + 1)).2) := rfl
    refine ⟨by rw [i3, i4]; omega, hvk, ?_, by rw [e2]; exact n2.2⟩
    rw [e2]
    constructor
    · show w64 _ = _
      exact w64_id (by rw [i3]; omega)
    · show w64 _ = _
      exact w64_id (by rw [i4]; omega)

/-- The places of the law's list. -/
theorem course_pv (p v : P) (pushes : List Int) (accel sec : Int) : ∃ p0 v0 : P, ((-100000 ≤ p0.X ∧ p0.X ≤ 100000) ∧ (-100000 ≤ p0.Y ∧ p0.Y ≤ 100000)) ∧ ((-200 ≤ v0.X ∧ v0.X ≤ 200) ∧ (-200 ≤ v0.Y ∧ v0.Y ≤ 200)) ∧
    ∀ i : Nat, (i : Int) ≤ sec → (skywaykeep2_course p v pushes accel sec)[i]?.getD P.zero = (pv pushes accel p0 v0 i).1 := by
  refine ⟨⟨skywaykeep2_within p.X (-100000) 100000, skywaykeep2_within p.Y (-100000) 100000⟩, ⟨skywaykeep2_within v.X (-200) 200, skywaykeep2_within v.Y (-200) 200⟩, ⟨within_in rfl (by omega) (by omega) (by omega), within_in rfl (by omega) (by omega) (by omega)⟩, ⟨within_in rfl (by omega) (by omega) (by omega), within_in rfl (by omega) (by omega) (by omega)⟩, ?_⟩
  intro i hi
  obtain ⟨p0, hp0⟩ : ∃ x : P, x = ⟨skywaykeep2_within p.X (-100000) 100000, skywaykeep2_within p.Y (-100000) 100000⟩ := ⟨_, rfl⟩
  obtain ⟨v0, hv0⟩ : ∃ x : P, x = ⟨skywaykeep2_within v.X (-200) 200, skywaykeep2_within v.Y (-200) 200⟩ := ⟨_, rfl⟩
  have e : skywaykeep2_course p v pushes accel sec = [p0] ++ (List.range sec.toNat).map (fun i => (pv pushes accel p0 v0 (0 + 1 + i)).1) := by
    rw [← course_list pushes accel p0 v0 sec.toNat 0 [p0], hp0, hv0]
    rfl
  rw [e, ← hp0, ← hv0]
  rcases i with _ | i
  · rfl
  · rw [List.singleton_append, List.getElem?_cons_succ, List.getElem?_map, List.getElem?_range (by omega)]
    show (pv pushes accel p0 v0 (0 + 1 + i)).1 = _
    rw [show 0 + 1 + i = i + 1 by omega]
end Go.Sky
