/- The law TerrainGrows in plain Lean. Conditions: the arguments are 64-bit integers. -/
import Derived.Test.YtkjdmkgacmkpjaaGrid
namespace Go.Sky
open Go Go.Eng Go.Glue

/-- What Highest says. -/
theorem Highest_eq (g : TerrainGrid) (p : P) (r : Int) : ((terrain_Highest g p r).2 ≠ 0 ∧ (terrain_Highest g p r).1 = 0) ∨ (g.In ∧ p.In ∧ (0 ≤ r ∧ r ≤ 4000000) ∧ terrain_Highest g p r = (terrain_highest g p r, 0)) := by
  unfold terrain_Highest
  rcases checkGrid_eq g with ⟨h1, h2⟩ | ⟨h1, h2⟩
  · have c1 : (terrain_Check g != 0) = false := by simp [h1]
    simp only [c1, cond_false]
    rcases checkP_eq p with ⟨p1, p2⟩ | ⟨p1, p2⟩
    · have c2 : (plane_Check p != 0) = false := by simp [p1]
      simp only [c2, cond_false, out_terrain]
      by_cases hr : 0 ≤ r ∧ r ≤ 4000000
      · rw [decide_eq_false (not_not_intro hr), cond_false]; exact .inr ⟨h2, p2, hr, rfl⟩
      · rw [decide_eq_true hr, cond_true]; exact .inl ⟨by decide, rfl⟩
    · have c2 : (plane_Check p != 0) = true := by simp [p1]
      simp only [c2, cond_true]
      exact .inl ⟨by decide, trivial⟩
  · have c1 : (terrain_Check g != 0) = true := by simp; omega
    simp only [c1, cond_true]
    exact .inl ⟨by omega, trivial⟩

theorem TerrainGrows_true (x0 : TerrainGrid) (x1 : P) (x2 x3 x4 : Int) (_k0 : x0.ok) (_k1 : x1.ok) (_k2 : I64 x2) (_k3 : I64 x3) (_k4 : I64 x4) : skywaykeep2_TerrainGrows x0 x1 x2 x3 x4 = true := by
  unfold skywaykeep2_TerrainGrows
  have ex : terrain_Safe (skywaykeep2_ground 500) (⟨1500, 0⟩ : P) 0 100 = (600, 0) := by decide
  have z0 : ((0 : Int) != 0) = false := rfl
  have z6 : ((600 : Int) != 600) = false := rfl
  simp only [ex, z0, z6, Bool.or_false, cond_false]
  obtain ⟨mo, hmo⟩ : ∃ a, skywaykeep2_within x3 0 100000 = a := ⟨_, rfl⟩
  have bmo := within_in hmo (by omega) (by omega) (by omega)
  rw [hmo]
  rcases Highest_eq x0 x1 x2 with ⟨h1, h2⟩ | ⟨hg, hp, hr, h⟩
  · have e1 : ((terrain_Highest x0 x1 x2).2 != 0) = true := by simpa using h1
    have e2 : (terrain_Safe x0 x1 x2 x4).1 = 0 := by unfold terrain_Safe; simp only [e1, cond_true]
    simp only [e1, cond_true, h2, e2]
    rfl
  · have hz : (x1.X - x1.X) * (x1.X - x1.X) + (x1.Y - x1.Y) * (x1.Y - x1.Y) ≤ x2 * x2 := by
      rw [Int.sub_self, Int.sub_self]; have := Int.mul_nonneg hr.1 hr.1; omega
    obtain ⟨g1, g2, g3⟩ := highest_ge hg hp hp hr hz
    have hin := highest_in hg x1 x2
    have e3 : (((terrain_Highest x0 x1 (w64 (x2 + mo))).2 != 0) || (decide (terrain_highest x0 x1 x2 ≤ (terrain_Highest x0 x1 (w64 (x2 + mo))).1))) = true := by
      rw [w64_id (by omega)]
      rcases Highest_eq x0 x1 (x2 + mo) with ⟨h1, _⟩ | ⟨_, _, hr2, h'⟩
      · have : ((terrain_Highest x0 x1 (x2 + mo)).2 != 0) = true := by simpa using h1
        rw [this]; rfl
      · rw [h']
        have m := highest_mono (g := x0) x1 hr.1 (show x2 ≤ x2 + mo by omega) (by omega)
        show (_ || decide (_ ≤ terrain_highest x0 x1 (x2 + mo))) = true
        rw [decide_eq_true m, Bool.or_true]
    have e4 : ((terrain_Height x0 x1).2 == 0) = true := by simp [g1]
    simp only [h, z0, cond_false, e3, e4, decide_eq_true g3, Bool.and_self, cond_true]
    unfold terrain_Safe
    simp only [h, z0, cond_false, out_terrain]
    by_cases hc : 0 ≤ x4 ∧ x4 ≤ 60000
    · rw [decide_eq_false (not_not_intro hc)]
      simp only [cond_false, z0]
      rw [w64_id (by omega)]
      simp
    · rw [decide_eq_true hc]; rfl
end Go.Sky
