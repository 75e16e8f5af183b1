/- follow on a course. Conditions: in each theorem. -/
import Derived.Test.YtkjdmkgacmkpjaaUpdThree
namespace Go.Sky
open Go Go.Eng Go.Glue

/-- The places of a list are those of a run. -/
def On (l : List P) (x : Nat → P) : Prop := ∀ k, k < l.length → l[k]?.getD P.zero = x k

theorem spot_near {p : P} {far a b : Int} {t : Int} (hfar : 0 ≤ far ∧ far ≤ 300) (hp : (-112000 ≤ p.X ∧ p.X ≤ 112000) ∧ (-112000 ≤ p.Y ∧ p.Y ≤ 112000)) : ∃ q : P, skywaykeep2_spotAt t p far a b = ⟨t, q, 5000, 1234, far⟩ ∧ Ball (q.X - p.X) (q.Y - p.Y) far := by
  have hh := half (far := far) (by omega)
  obtain ⟨n1, h1⟩ : ∃ n, n = skywaykeep2_within a (-(far / 2)) (far / 2) := ⟨_, rfl⟩
  obtain ⟨n2, h2⟩ : ∃ n, n = skywaykeep2_within b (-(far / 2)) (far / 2) := ⟨_, rfl⟩
  have b1 := within_in h1.symm (by omega) (by omega) (by omega)
  have b2 := within_in h2.symm (by omega) (by omega) (by omega)
  refine ⟨⟨p.X + n1, p.Y + n2⟩, ?_, ?_⟩
  · unfold skywaykeep2_spotAt
    simp only [hh.1, hh.2, ← h1, ← h2]
    rw [w64_id (x := p.X + n1) (by omega), w64_id (x := p.Y + n2) (by omega)]
  · have e : 2 * ((far / 2) * (far / 2)) ≤ far * far := by
      have m : (2 * (far / 2)) * (2 * (far / 2)) ≤ far * far := Int.mul_le_mul (by omega) (by omega) (by omega) (by omega)
      have e2 : (2 * (far / 2)) * (2 * (far / 2)) = 4 * ((far / 2) * (far / 2)) := by grind
      have n : 0 ≤ (far / 2) * (far / 2) := Int.mul_nonneg (by omega) (by omega)
      omega
    show Ball (p.X + n1 - p.X) (p.Y + n2 - p.Y) far
    rw [show p.X + n1 - p.X = n1 by omega, show p.Y + n2 - p.Y = n2 by omega]
    exact Ball.box (b := far / 2) (by omega) (by omega) hfar.1 e

theorem follow_L1_good {x v : Nat → P} {accel far every place speed : Int} {K : Nat} (h : Run x v accel K) (hacc : accel ≤ 5) (hfar : 0 ≤ far ∧ far ≤ 300) (hev : 1 ≤ every ∧ every ≤ 10) (hpl : 0 ≤ place ∧ place ≤ 256) (hsp : 0 ≤ speed ∧ speed ≤ 256)
    {l : List P} (hl : On l x) (hK : l.length ≤ K + 1) (hlen : l.length ≤ 61) (noise : List Int) : ∀ (m : Nat) (t : Nat) (f : FilterTrack) (R : (Int × FilterTrack) ⊕ (FilterTrack × Int × Bool)), t < l.length → Good f t far → Knows f (x t) (v t) → Ball (f.Last.At.X - (x t).X) (f.Last.At.Y - (x t).Y) far →
      skywaykeep2_follow_L1 l every far accel place speed noise m (t : Int) ((t : Int) + every) f = some R → ∃ (g : FilterTrack) (e : Nat), R = .inl ((e : Int), g) ∧ e < l.length ∧ Good g e far ∧ Knows g (x e) (v e)
  | 0, t, f, R, _, _, _, _, hr => by cases hr
  | m + 1, t, f, R, htl, hg, hk, hb, hr => by
    unfold skywaykeep2_follow_L1 at hr
    by_cases hlt : (t : Int) + every < (l.length : Int)
    · obtain ⟨d, hd⟩ : ∃ d : Nat, every = (d : Int) := ⟨every.toNat, by omega⟩
      have hte : (t : Int) + every = ((t + d : Nat) : Int) := by omega
      have hpos := h.pos (t + d) (by omega)
      have hx : l[((t : Int) + every).toNat]?.getD P.zero = x (t + d) := by rw [hte, Int.toNat_natCast]; exact hl (t + d) (by omega)
      have key : ∀ a b : Int, ∃ r, filter_Update f (skywaykeep2_spotAt ((t : Int) + every) (x (t + d)) far a b) accel place speed = (r, 0) ∧ Good r (t + d) far ∧ Knows r (x (t + d)) (v (t + d)) ∧ Ball (r.Last.At.X - (x (t + d)).X) (r.Last.At.Y - (x (t + d)).Y) far := by
        intro a b
        obtain ⟨q, hq, hqb⟩ := spot_near (t := (t : Int) + every) (a := a) (b := b) hfar hpos
        rw [hq, hte]
        obtain ⟨r, r1, r2, r3, r4⟩ := update_good h hacc hfar hg hk hb (d := d) (by omega) (by omega) (by omega) hqb hpl hsp
        exact ⟨r, r1, r2, r3, by rw [r4]; exact hqb⟩
      have z0 : ((0 : Int) != 0) = false := rfl
      rw [decide_eq_true hlt, cond_true] at hr
      rw [w64_id (x := (t : Int) + every + every) (by omega)] at hr
      simp only [hx] at hr
      have fin : ∀ r : FilterTrack, Good r (t + d) far → Knows r (x (t + d)) (v (t + d)) → Ball (r.Last.At.X - (x (t + d)).X) (r.Last.At.Y - (x (t + d)).Y) far → skywaykeep2_follow_L1 l every far accel place speed noise m ((t : Int) + every) ((t : Int) + every + every) r = some R → ∃ (g : FilterTrack) (e : Nat), R = .inl ((e : Int), g) ∧ e < l.length ∧ Good g e far ∧ Knows g (x e) (v e) := by
        intro r g1 g2 g3 g4
        rw [hte] at g4
        exact follow_L1_good h hacc hfar hev hpl hsp hl hK hlen noise m (t + d) r R (by omega) g1 g2 g3 g4
      cases hn : decide (w64 (w64 (w64 (((t : Int) + every).tdiv every) * 2) + 1) < (noise.length : Int))
      · rw [hn, cond_false] at hr
        obtain ⟨r, r1, r2, r3, r4⟩ := key 0 0
        simp only [r1, z0, cond_false] at hr
        exact fin r r2 r3 r4 hr
      · rw [hn, cond_true] at hr
        obtain ⟨r, r1, r2, r3, r4⟩ := key (noise[(w64 (w64 (((t : Int) + every).tdiv every) * 2)).toNat]?.getD 0) (noise[(w64 (w64 (w64 (((t : Int) + every).tdiv every) * 2) + 1)).toNat]?.getD 0)
        simp only [r1, z0, cond_false] at hr
        exact fin r r2 r3 r4 hr
    · rw [decide_eq_false hlt, cond_false] at hr
      injection hr with hr
      exact ⟨f, t, hr.symm, htl, hg, hk⟩

/-- follow on a course: it succeeds, and its track is in order at the second it tells. -/
theorem follow_good {x v : Nat → P} {accel far every place speed : Int} {K : Nat} (h : Run x v accel K) (hacc : accel ≤ 5) (hfar : 0 ≤ far ∧ far ≤ 300) (hev : 1 ≤ every ∧ every ≤ 10) (hpl : 0 ≤ place ∧ place ≤ 256) (hsp : 0 ≤ speed ∧ speed ≤ 256)
    {l : List P} (hl : On l x) (hK : l.length ≤ K + 1) (hlen : 1 ≤ l.length ∧ l.length ≤ 61) (noise : List Int) :
    ∃ (g : FilterTrack) (e : Nat), skywaykeep2_follow l every far accel place speed noise = (g, (e : Int), true) ∧ e < l.length ∧ Good g e far ∧ Knows g (x e) (v e) := by
  have hpos := h.pos 0 (Nat.zero_le _)
  have hvel := h.vel 0 (Nat.zero_le _)
  obtain ⟨q, hq, hqb⟩ := spot_near (t := 0) (a := 0) (b := 0) hfar hpos
  have h0 : l[0]?.getD P.zero = x 0 := hl 0 (by omega)
  have qa := hqb.abs
  have sin : (⟨0, q, 5000, 1234, far⟩ : Spot).In := by unfold Spot.In P.In; dsimp only; omega
  obtain ⟨f, hf⟩ : ∃ f : FilterTrack, f = ⟨⟨0, 0, 0, q, ⟨0, 0⟩, 5000, 0, far, 1234, 1, 0⟩, 6400, ⟨0, q, 5000, 1234, far⟩⟩ := ⟨_, rfl⟩
  have hbeg : filter_Begin ⟨0, q, 5000, 1234, far⟩ = (f, 0) := by
    unfold filter_Begin
    have c : (radar_CheckSpot ⟨0, q, 5000, 1234, far⟩ != 0) = false := by simp [checkSpot_iff.2 sin]
    simp only [c, cond_false, hf]
  have hgood : Good f 0 far := by
    subst hf
    have inn : (⟨⟨0, 0, 0, q, ⟨0, 0⟩, 5000, 0, far, 1234, 1, 0⟩, 6400, ⟨0, q, 5000, 1234, far⟩⟩ : FilterTrack).In := by
      unfold FilterTrack.In Track.In
      dsimp only
      exact ⟨⟨by omega, sin.2.1, by omega, by omega, by omega⟩, by omega, by omega, by omega, by omega, by omega, by omega, sin, by omega⟩
    refine ⟨inn, rfl, rfl, ?_, ?_, ?_, ⟨rfl, rfl, rfl⟩, rfl, ?_⟩ <;> (dsimp only; omega)
  have hkn : Knows f (x 0) (v 0) := by
    subst hf
    refine ⟨hqb, ?_⟩
    show Ball (0 - 16 * (v 0).X) (0 - 16 * (v 0).Y) 6400
    exact Ball.box (b := 3200) (by omega) (by omega) (by decide) (by decide)
  have hlast : Ball (f.Last.At.X - (x 0).X) (f.Last.At.Y - (x 0).Y) far := by subst hf; exact hqb
  unfold skywaykeep2_follow
  have z0 : ((0 : Int) != 0) = false := rfl
  simp only [h0, hq, hbeg, z0, cond_false]
  obtain ⟨R, hR⟩ := follow_total l every far accel place speed noise (by omega) (by omega) (l.length + 1) 0 every f (by omega)
  have hR2 : skywaykeep2_follow_L1 l every far accel place speed noise (l.length + 1) ((0 : Nat) : Int) (((0 : Nat) : Int) + every) f = some R := by
    rw [show ((0 : Nat) : Int) = 0 from rfl, Int.zero_add]; exact hR
  obtain ⟨g, e, g1, g2, g3, g4⟩ := follow_L1_good h hacc hfar hev hpl hsp hl hK hlen.2 noise (l.length + 1) 0 f R (by omega) hgood hkn hlast hR2
  rw [hR, g1]
  exact ⟨g, e, rfl, g2, g3, g4⟩
end Go.Sky
