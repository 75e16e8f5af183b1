/- The law TerrainNeverLate in plain Lean. Conditions: the arguments are 64-bit integers. -/
import Derived.Test.YtkjdmkgacmkpjaaNever
import Derived.Test.YtkjdmkgacmkpjaaScan
import Derived.Test.YtkjdmkgacmkpjaaWn
namespace Go.Sky
open Go Go.Eng Go.Glue

theorem warn_at {x v : Nat → P} {a far : Int} (h : Run x v a 60) (ha : a ≤ 5) {f : FilterTrack} {e : Nat} (hg : Good f e far) (hk : Knows f (x e) (v e)) {g : TerrainGrid} (hgr : g.In) {c : Int} (hc : 0 ≤ c ∧ c ≤ 3000) {k : Nat} (hek : e + k ≤ 60) :
    warnOk f a k = true ∧ (terrain_Height g (x (e + k))).2 = 0 ∧ 0 ≤ (terrain_Height g (x (e + k))).1 ∧ (terrain_Height g (x (e + k))).1 ≤ 60000 ∧ (5000 < (terrain_Height g (x (e + k))).1 + c → warnHit g f a 0 c k = true) := by
  obtain ⟨r, r1, r2, r3, r4⟩ := good_later h ha hg hk hek
  have wt : w64 (f.Track.Time + (k : Int)) = (e : Int) + (k : Int) := by rw [hg.time]; exact w64_id (by omega)
  have pos := h.pos (e + k) hek
  have hq : (x (e + k)).In := ⟨by omega, by omega, by omega, by omega⟩
  obtain ⟨g1, g2, g3⟩ := highest_ge hgr r2.1.2.1 hq r2.1.2.2.2.2 r3.1.2
  have hin := highest_in hgr r.Track.At r.Track.Radius
  refine ⟨?_, g1, g2, by omega, fun hh => ?_⟩
  · unfold warnOk; rw [wt, r1]; rfl
  · unfold warnHit
    rw [wt, r1]
    dsimp only
    rw [r4, Int.zero_mul, show w64 (w64 (5000 - 100) - w64 0) = 4900 by decide, w64_id (by omega)]
    exact decide_eq_true (by omega)

theorem never_low {c : Int} (hc : 0 ≤ c ∧ c ≤ 3000) {g : TerrainGrid} {l : List P} {x : Nat → P} {r7 : FilterTrack × Int × Bool} {e : Nat} (he : r7.2.1 = (e : Int)) (hh : r7.1.Track.Height = 5000) (r9 : Int × Int) (hl : ∀ k : Nat, k ≤ 50 → l[k]?.getD P.zero = x k)
    (hcode : r9.2 = 0 ∨ r9.2 = 8)
    (hit : ∀ k, e + k ≤ 60 → k < 41 → (terrain_Height g (x (e + k))).2 = 0 ∧ 0 ≤ (terrain_Height g (x (e + k))).1 ∧ (terrain_Height g (x (e + k))).1 ≤ 60000 ∧ (5000 < (terrain_Height g (x (e + k))).1 + c → r9.2 = 0 ∧ r9.1 ≤ (k : Int))) :
    ∀ (n k : Nat), e + k + n ≤ 51 → k + n ≤ 41 → Sum.elim (fun _ => (r9.2 == 0) || (r9.2 == 8)) (fun r => r) (skywaykeep2_TerrainNeverLate_L1 g c l r7 r9 n k) = true
  | 0, k, _, _ => by
    show ((r9.2 == 0) || (r9.2 == 8)) = true
    rcases hcode with h | h <;> rw [h] <;> rfl
  | n + 1, k, h1, h2 => by
    unfold skywaykeep2_TerrainNeverLate_L1
    rw [he, w64_id (x := (e : Int) + (k : Int)) (by omega), show ((e : Int) + (k : Int)).toNat = e + k by omega, hl (e + k) (by omega)]
    obtain ⟨q1, q2, q3, q4⟩ := hit k (by omega) (by omega)
    have e1 : ((terrain_Height g (x (e + k))).2 != 0) = false := by simp [q1]
    dsimp only
    rw [e1, cond_false, hh, w64_id (x := (terrain_Height g (x (e + k))).1 + c) (by omega)]
    by_cases hlow : 5000 < (terrain_Height g (x (e + k))).1 + c
    · rw [decide_eq_true hlow, cond_true]
      obtain ⟨q5, q6⟩ := q4 hlow
      show ((r9.2 == 0) && (decide (r9.1 ≤ (k : Int)))) = true
      rw [q5, decide_eq_true q6]; rfl
    · rw [decide_eq_false hlow, cond_false]
      exact never_low hc he hh r9 hl hcode hit n (k + 1) (by omega) (by omega)

theorem TerrainNeverLate_true (x0 : TerrainGrid) (x1 x2 : P) (x3 : List Int) (x4 x5 x6 : Int) (_k0 : x0.ok) (_k1 : x1.ok) (_k2 : x2.ok) (_s3 : x3.length < 4611686018427387904) (_k3 : ∀ a ∈ x3, I64 a) (_k4 : I64 x4) (_k5 : I64 x5) (_k6 : I64 x6) : skywaykeep2_TerrainNeverLate x0 x1 x2 x3 x4 x5 x6 = true := by
  unfold skywaykeep2_TerrainNeverLate
  have ex : (((terrain_Warn (skywaykeep2_ground 3000) (⟨⟨0, 0, 0, ⟨0, 0⟩, ⟨1600, 0⟩, 3000, 0, 0, 0, 0, 0⟩, 0, ⟨0, ⟨0, 0⟩, 0, 0, 0⟩⟩ : FilterTrack) 60 0 0 500).2 != 0) || (decide ((terrain_Warn (skywaykeep2_ground 3000) (⟨⟨0, 0, 0, ⟨0, 0⟩, ⟨1600, 0⟩, 3000, 0, 0, 0, 0, 0⟩, 0, ⟨0, ⟨0, 0⟩, 0, 0, 0⟩⟩ : FilterTrack) 60 0 0 500).1 < 9)) || (decide ((terrain_Warn (skywaykeep2_ground 3000) (⟨⟨0, 0, 0, ⟨0, 0⟩, ⟨1600, 0⟩, 3000, 0, 0, 0, 0, 0⟩, 0, ⟨0, ⟨0, 0⟩, 0, 0, 0⟩⟩ : FilterTrack) 60 0 0 500).1 > 10))) = false := by decide
  simp only [ex, cond_false]
  obtain ⟨a, ha⟩ : ∃ a, skywaykeep2_within x4 0 3 = a := ⟨_, rfl⟩
  obtain ⟨far, hfar⟩ : ∃ a, skywaykeep2_within x5 0 100 = a := ⟨_, rfl⟩
  obtain ⟨c, hc⟩ : ∃ a, skywaykeep2_within x6 0 3000 = a := ⟨_, rfl⟩
  have ba := within_in ha (by omega) (by omega) (by omega)
  have bfar := within_in hfar (by omega) (by omega) (by omega)
  have bc := within_in hc (by omega) (by omega) (by omega)
  rw [ha, hfar, hc]
  obtain ⟨l, hl⟩ : ∃ l, skywaykeep2_course x1 x2 x3 a 50 = l := ⟨_, rfl⟩
  rw [hl]
  have hlen := course_len50 hl
  obtain ⟨p0, v0, hp0, hv0, hpv⟩ := course_pv x1 x2 x3 a 50
  rw [hl] at hpv
  have hrun := pv_run (pushes := x3) ⟨ba.1, by omega⟩ hp0 hv0
  have hx : ∀ k : Nat, k ≤ 50 → l[k]?.getD P.zero = (fun k => (pv x3 a p0 v0 k).1) k := fun k hk => hpv k (by omega)
  have hon : On (l.take 9) (fun k => (pv x3 a p0 v0 k).1) := by
    intro k hk
    rw [List.length_take] at hk
    rw [List.getElem?_take_of_lt (by omega)]
    exact hx k (by omega)
  obtain ⟨g, e, hf, he, hg, hk⟩ := follow_good (place := 128) (speed := 128) (far := far) (every := 4) hrun (by omega) (by omega) (by omega) (by omega) (by omega) hon (by rw [List.length_take]; omega) (by rw [List.length_take]; omega) []
  rw [List.length_take] at he
  simp only [hf, Bool.not_true, cond_false]
  rcases checkGrid_eq x0 with ⟨h1, h2⟩ | ⟨h1, h2⟩
  · have c1 : (terrain_Check x0 != 0) = false := by simp [h1]
    simp only [c1, cond_false]
    rcases Warn_eq x0 g 40 a 0 c with ⟨hn, _⟩ | ⟨hin, hw⟩
    · exact absurd ⟨h2, hg.inn, by omega, by omega, by omega, by omega⟩ hn
    · have sc := scanw_hit (ok := warnOk g a) (hit := warnHit x0 g a 0 c) (K := 41) (fun j hj => (warn_at hrun (by omega) hg hk h2 bc (k := j) (by omega)).1) 41 0 (by omega)
      rw [hw]
      refine never_low (e := e) bc rfl hg.high.1 _ hx sc.1 (fun k h3 h4 => ?_) 41 0 (by omega) (by omega)
      obtain ⟨w1, w2, w3, w4, w5⟩ := warn_at hrun (by omega) hg hk h2 bc (k := k) h3
      exact ⟨w2, w3, w4, fun hlow => sc.2 k (by omega) (by omega) (w5 hlow)⟩
  · have c1 : (terrain_Check x0 != 0) = true := by simp; omega
    simp only [c1, cond_true]
end Go.Sky
