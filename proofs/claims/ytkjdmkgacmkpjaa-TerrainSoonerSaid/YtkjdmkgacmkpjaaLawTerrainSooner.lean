/- The law TerrainSooner in plain Lean. Conditions: the arguments are 64-bit integers. -/
import Derived.Test.YtkjdmkgacmkpjaaScan
namespace Go.Sky
open Go Go.Eng Go.Glue

theorem TerrainSooner_true (x0 : TerrainGrid) (x1 : FilterTrack) (x2 x3 x4 : Int) (_k0 : x0.ok) (_k1 : x1.ok) (_k2 : I64 x2) (_k3 : I64 x3) (_k4 : I64 x4) : skywaykeep2_TerrainSooner x0 x1 x2 x3 x4 = true := by
  unfold skywaykeep2_TerrainSooner
  have e1 : terrain_Warn (skywaykeep2_ground 0) (⟨⟨0, 0, 0, ⟨0, 0⟩, ⟨0, 0⟩, 3000, 0, 0, 0, 0, 0⟩, 0, ⟨0, ⟨0, 0⟩, 0, 0, 0⟩⟩ : FilterTrack) 5 0 0 5000 = (0, 0) := by decide
  have e2 : (terrain_Warn (skywaykeep2_ground 0) (⟨⟨0, 0, 0, ⟨0, 0⟩, ⟨0, 0⟩, 3000, 0, 0, 0, 0, 0⟩, 0, ⟨0, ⟨0, 0⟩, 0, 0, 0⟩⟩ : FilterTrack) 5 0 0 100).2 = 8 := by decide
  have z0 : ((0 : Int) != 0) = false := rfl
  have z8 : ((8 : Int) != 8) = false := rfl
  simp only [e1, e2, z0, z8, Bool.or_false, cond_false]
  obtain ⟨sec, hs⟩ : ∃ a, skywaykeep2_within x2 0 40 = a := ⟨_, rfl⟩
  obtain ⟨c, hc⟩ : ∃ a, skywaykeep2_within x3 0 5000 = a := ⟨_, rfl⟩
  obtain ⟨mo, hmo⟩ : ∃ a, skywaykeep2_within x4 0 5000 = a := ⟨_, rfl⟩
  have bs := within_in hs (by omega) (by omega) (by omega)
  have bc := within_in hc (by omega) (by omega) (by omega)
  have bm := within_in hmo (by omega) (by omega) (by omega)
  rw [hs, hc, hmo, w64_id (x := c + mo) (by omega)]
  rcases Warn_eq x0 x1 sec 1 10 c with ⟨_, h1, h2⟩ | ⟨hin, h⟩
  · have q : ((terrain_Warn x0 x1 sec 1 10 c).2 == 0) = false := by simpa using h1
    simp only [q, cond_false, h2]
    rfl
  · rcases Warn_eq x0 x1 sec 1 10 (c + mo) with ⟨hn, _⟩ | ⟨_, h'⟩
    · exact absurd ⟨hin.1, hin.2.1, hin.2.2.1, hin.2.2.2.1, hin.2.2.2.2.1, by omega⟩ hn
    · by_cases hz : (scanw (warnOk x1 1) (warnHit x0 x1 1 10 c) (sec + 1).toNat 0).2 = 0
      · obtain ⟨n', g1, g2, _⟩ := scanw_mono (hit2 := warnHit x0 x1 1 10 (c + mo)) (K := (sec + 1).toNat) (fun j _ _ hj => by
          unfold warnHit at hj ⊢
          have hh := highest_in hin.1 (filter_Predict x1 (w64 (x1.Track.Time + (j : Int))) 1).1.Track.At (filter_Predict x1 (w64 (x1.Track.Time + (j : Int))) 1).1.Track.Radius
          rw [decide_eq_true_eq] at hj ⊢
          rw [w64_id (x := terrain_highest x0 _ _ + c) (by omega)] at hj
          rw [w64_id (x := terrain_highest x0 _ _ + (c + mo)) (by omega)]
          omega) (sec + 1).toNat 0 (scanw (warnOk x1 1) (warnHit x0 x1 1 10 c) (sec + 1).toNat 0).1 (by omega) (Prod.ext rfl hz)
        rw [h, h', g1]
        have q : ((scanw (warnOk x1 1) (warnHit x0 x1 1 10 c) (sec + 1).toNat 0).2 == 0) = true := by simp [hz]
        simp only [q, cond_true, decide_eq_true g2]
        rfl
      · have q : ((scanw (warnOk x1 1) (warnHit x0 x1 1 10 c) (sec + 1).toNat 0).2 == 0) = false := by simpa using hz
        have q2 := scanw_err _ _ hz
        rw [h]
        simp only [q, cond_false, q2]
        rfl
end Go.Sky
