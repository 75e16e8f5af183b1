/- A search over seconds for the first one at which something holds. Conditions: in each theorem. -/
import Derived.Test.YtkjdmkgacmkpjaaGrid
namespace Go.Sky
open Go Go.Eng Go.Glue

def scanw (ok hit : Nat → Bool) : Nat → Nat → Int × Int
  | 0, _ => (0, 8)
  | m + 1, k => if ok k = true then (if hit k = true then ((k : Int), 0) else scanw ok hit m (k + 1)) else (0, 12)

theorem scanw_mono {ok hit1 hit2 : Nat → Bool} {K : Nat} (h : ∀ j, j < K → ok j = true → hit1 j = true → hit2 j = true) : ∀ (m k : Nat) (n : Int), m + k ≤ K → scanw ok hit1 m k = (n, 0) →
    ∃ n', scanw ok hit2 m k = (n', 0) ∧ n' ≤ n ∧ (k : Int) ≤ n'
  | 0, k, n, _, e => by cases e
  | m + 1, k, n, hK, e => by
    unfold scanw at e ⊢
    by_cases ho : ok k = true
    · rw [if_pos ho] at e ⊢
      by_cases h1 : hit1 k = true
      · rw [if_pos h1] at e
        rw [if_pos (h k (by omega) ho h1)]
        injection e with e1 _
        exact ⟨k, rfl, by omega, by omega⟩
      · rw [if_neg h1] at e
        obtain ⟨n', g1, g2, g3⟩ := scanw_mono h m (k + 1) n (by omega) e
        have hlow : (k : Int) ≤ n := by omega
        by_cases h2 : hit2 k = true
        · rw [if_pos h2]; exact ⟨k, rfl, hlow, by omega⟩
        · rw [if_neg h2]; exact ⟨n', g1, g2, by omega⟩
    · rw [if_neg ho] at e; cases e
theorem scanw_err {ok hit : Nat → Bool} : ∀ (m k : Nat), (scanw ok hit m k).2 ≠ 0 → (scanw ok hit m k).1 = 0
  | 0, _, _ => rfl
  | m + 1, k, h => by
    unfold scanw at h ⊢
    split
    · split
      · rename_i h1 h2; rw [if_pos h1, if_pos h2] at h; exact absurd rfl h
      · rename_i h1 h2; rw [if_pos h1, if_neg h2] at h; exact scanw_err m (k + 1) h
    · rfl
theorem scanw_hit {ok hit : Nat → Bool} {K : Nat} (hok : ∀ j, j < K → ok j = true) : ∀ (m k : Nat), m + k ≤ K →
    ((scanw ok hit m k).2 = 0 ∨ (scanw ok hit m k).2 = 8) ∧ ∀ j, k ≤ j → j < m + k → hit j = true → (scanw ok hit m k).2 = 0 ∧ (scanw ok hit m k).1 ≤ (j : Int)
  | 0, k, _ => ⟨.inr rfl, fun j h1 h2 _ => by omega⟩
  | m + 1, k, hK => by
    unfold scanw
    rw [if_pos (hok k (by omega))]
    by_cases h1 : hit k = true
    · rw [if_pos h1]; exact ⟨.inl rfl, fun j h2 _ _ => ⟨rfl, by dsimp only; omega⟩⟩
    · rw [if_neg h1]
      obtain ⟨g1, g2⟩ := scanw_hit hok m (k + 1) (by omega)
      refine ⟨g1, fun j h2 h3 h4 => ?_⟩
      by_cases e : j = k
      · subst e; exact absurd h4 h1
      · exact g2 j (by omega) (by omega) h4

def warnOk (f : FilterTrack) (acc : Int) (k : Nat) : Bool := (filter_Predict f (w64 (f.Track.Time + (k : Int))) acc).2 == 0
def warnHit (g : TerrainGrid) (f : FilterTrack) (acc climb c : Int) (k : Nat) : Bool :=
  decide (w64 (w64 ((filter_Predict f (w64 (f.Track.Time + (k : Int))) acc).1.Track.Height - 100) - w64 (climb * (k : Int))) < w64 (terrain_highest g (filter_Predict f (w64 (f.Track.Time + (k : Int))) acc).1.Track.At (filter_Predict f (w64 (f.Track.Time + (k : Int))) acc).1.Track.Radius + c))
theorem warn_L1 (g : TerrainGrid) (f : FilterTrack) (acc climb c : Int) : ∀ (m k : Nat), Sum.elim (fun _ => ((0 : Int), (8 : Int))) (fun r => r) (terrain_Warn_L1 g f acc climb c m k) = scanw (warnOk f acc) (warnHit g f acc climb c) m k
  | 0, _ => rfl
  | m + 1, k => by
    have ih := warn_L1 g f acc climb c m (k + 1)
    unfold terrain_Warn_L1 scanw
    by_cases h : (filter_Predict f (w64 (f.Track.Time + (k : Int))) acc).2 = 0
    · have e : ((filter_Predict f (w64 (f.Track.Time + (k : Int))) acc).2 != 0) = false := by simp [h]
      have e2 : warnOk f acc k = true := by unfold warnOk; simp [h]
      rw [if_pos e2]
      simp only [e, cond_false]
      by_cases h2 : warnHit g f acc climb c k = true
      · rw [if_pos h2]
        unfold warnHit at h2
        rw [h2, cond_true]; rfl
      · rw [if_neg h2]
        have h3 : warnHit g f acc climb c k = false := by simpa using h2
        unfold warnHit at h3
        rw [h3, cond_false]
        exact ih
    · have e : ((filter_Predict f (w64 (f.Track.Time + (k : Int))) acc).2 != 0) = true := by simpa using h
      have e2 : ¬ warnOk f acc k = true := by unfold warnOk; simpa using h
      rw [if_neg e2]
      simp only [e, cond_true]
      rfl
def warnIn (g : TerrainGrid) (f : FilterTrack) (sec acc climb c : Int) : Prop := g.In ∧ f.In ∧ (0 ≤ sec ∧ sec ≤ 300) ∧ (0 ≤ acc ∧ acc ≤ 20) ∧ (0 ≤ climb ∧ climb ≤ 200) ∧ (0 ≤ c ∧ c ≤ 60000)
theorem Warn_eq (g : TerrainGrid) (f : FilterTrack) (sec acc climb c : Int) :
    (¬ warnIn g f sec acc climb c ∧ (terrain_Warn g f sec acc climb c).2 ≠ 0 ∧ (terrain_Warn g f sec acc climb c).1 = 0) ∨ (warnIn g f sec acc climb c ∧ terrain_Warn g f sec acc climb c = scanw (warnOk f acc) (warnHit g f acc climb c) (sec + 1).toNat 0) := by
  unfold terrain_Warn
  rcases checkGrid_eq g with ⟨h1, h2⟩ | ⟨h1, h2⟩
  · have c1 : (terrain_Check g != 0) = false := by simp [h1]
    simp only [c1, cond_false]
    rcases check_eq f with ⟨f1, f2⟩ | ⟨f1, f2⟩
    · have c2 : (filter_Check f != 0) = false := by simp [f1]
      simp only [c2, cond_false, out_terrain]
      by_cases a1 : 0 ≤ sec ∧ sec ≤ 300
      · rw [decide_eq_false (not_not_intro a1), cond_false]
        by_cases a2 : 0 ≤ acc ∧ acc ≤ 20
        · rw [decide_eq_false (not_not_intro a2), cond_false]
          by_cases a3 : 0 ≤ climb ∧ climb ≤ 200
          · rw [decide_eq_false (not_not_intro a3), cond_false]
            by_cases a4 : 0 ≤ c ∧ c ≤ 60000
            · rw [decide_eq_false (not_not_intro a4), cond_false, warn_L1]
              exact .inr ⟨⟨h2, f2, a1, a2, a3, a4⟩, rfl⟩
            · rw [decide_eq_true a4, cond_true]; exact .inl ⟨fun h => a4 h.2.2.2.2.2, by decide, rfl⟩
          · rw [decide_eq_true a3, cond_true]; exact .inl ⟨fun h => a3 h.2.2.2.2.1, by decide, rfl⟩
        · rw [decide_eq_true a2, cond_true]; exact .inl ⟨fun h => a2 h.2.2.2.1, by decide, rfl⟩
      · rw [decide_eq_true a1, cond_true]; exact .inl ⟨fun h => a1 h.2.2.1, by decide, rfl⟩
    · have c2 : (filter_Check f != 0) = true := by simp; omega
      simp only [c2, cond_true]
      exact .inl ⟨fun h => f2 h.2.1, by omega, trivial⟩
  · have c1 : (terrain_Check g != 0) = true := by simp; omega
    simp only [c1, cond_true]
    exact .inl ⟨fun h => h2 h.1, by omega, trivial⟩
end Go.Sky
