/- A track in order on a course, at later seconds; and at which second follow ends. Conditions: in each theorem. -/
import Derived.Test.YtkjdmkgacmkpjaaFollow
namespace Go.Sky
open Go Go.Eng Go.Glue

/-- Predict of a track in order, at a second from its own on. -/
theorem good_later {x v : Nat → P} {a far : Int} (h : Run x v a 60) (ha : a ≤ 5) {g : FilterTrack} {e : Nat} (hg : Good g e far) (hk : Knows g (x e) (v e)) {k : Nat} (hek : e + k ≤ 60) :
    ∃ r : FilterTrack, filter_Predict g ((e : Int) + (k : Int)) a = (r, 0) ∧ r.In ∧ Knows r (x (e + k)) (v (e + k)) ∧ r.Track.Height = 5000 := by
  have ha0 := h.acc
  by_cases hk0 : k = 0
  · subst hk0
    refine ⟨g, ?_, hg.inn, hk, hg.high.1⟩
    rw [show (e : Int) + ((0 : Nat) : Int) = g.Track.Time by rw [hg.time]; omega]
    exact predict_same hg.inn ⟨ha0.1, by omega⟩
  · obtain ⟨p1, p2, p3, p4, _⟩ := pred_in h ha hg hk (d := k) (by omega) (by omega) (by omega) (by omega)
    refine ⟨_, ?_, p3, p4, ?_⟩
    · rw [show (e : Int) + (k : Int) = ((e + k : Nat) : Int) by omega]
      exact Prod.ext p2 p1
    · unfold predAt
      simp only [hg.high.1, hg.high.2.1]
      rw [Int.zero_mul]; decide

theorem square_mid {p q : P} (hp : p.In) (hq : q.In) : skywaykeep2_square p q = (p.X - q.X) * (p.X - q.X) + (p.Y - q.Y) * (p.Y - q.Y) := by
  obtain ⟨p1, p2, p3, p4⟩ := hp
  obtain ⟨q1, q2, q3, q4⟩ := hq
  have b1 := sq_bound (x := p.X - q.X) (n := 2000000) (by omega)
  have b2 := sq_bound (x := p.Y - q.Y) (n := 2000000) (by omega)
  unfold skywaykeep2_square
  rw [w64_id (x := p.X - q.X) (by omega), w64_id (x := p.Y - q.Y) (by omega), w64_id (x := (p.X - q.X) * (p.X - q.X)) (by omega), w64_id (x := (p.Y - q.Y) * (p.Y - q.Y)) (by omega), w64_id (by omega)]

theorem begins_true2 : skywaykeep2_begins = true := by decide

theorem on_take {l : List P} {x : Nat → P} (hl : ∀ k : Nat, k ≤ 60 → l[k]?.getD P.zero = x k) {n : Nat} (hn : n ≤ 61) : On (l.take n) x := by
  intro k hk
  rw [List.length_take] at hk
  rw [List.getElem?_take_of_lt (by omega)]
  exact hl k (by omega)

/-- The second of the last spot. -/
def fend (len : Nat) (every : Int) : Nat → Int → Int → Int
  | 0, last, _ => last
  | m + 1, last, t => if t < (len : Int) then fend len every m t (w64 (t + every)) else last

theorem follow_L1_end {l : List P} {every far accel place speed : Int} {noise : List Int} : ∀ (m : Nat) (last t : Int) (f : FilterTrack) (e : Int) (g : FilterTrack),
    skywaykeep2_follow_L1 l every far accel place speed noise m last t f = some (.inl (e, g)) → e = fend l.length every m last t
  | 0, last, t, f, e, g, h => by cases h
  | m + 1, last, t, f, e, g, h => by
    unfold skywaykeep2_follow_L1 at h
    unfold fend
    by_cases hk : t < (l.length : Int)
    · rw [decide_eq_true hk, cond_true] at h
      rw [if_pos hk]
      have ih := fun q => follow_L1_end (l := l) (every := every) (far := far) (accel := accel) (place := place) (speed := speed) (noise := noise) m t (w64 (t + every)) q e g
      simp only [ite_of_cond] at h
      repeat' split at h
      all_goals first | exact ih _ h | (injection h with h; cases h)
    · rw [decide_eq_false hk, cond_false] at h
      rw [if_neg hk]
      injection h with h
      injection h with h
      injection h with h1 h2
      exact h1.symm
theorem follow_end {l : List P} {every far accel place speed : Int} {noise : List Int} {g : FilterTrack} {e : Int} (hl : (1 ≤ l.length ∧ l.length ≤ 1000) ∧ 1 ≤ every ∧ every ≤ 1000) (h : skywaykeep2_follow l every far accel place speed noise = (g, e, true)) : e = fend l.length every (l.length + 1) 0 every := by
  unfold skywaykeep2_follow at h
  simp only [ite_of_cond] at h
  split at h
  · cases h
  · obtain ⟨R, hR⟩ := follow_total l every far accel place speed noise hl.2 hl.1 (l.length + 1) 0 every (filter_Begin (skywaykeep2_spotAt 0 (l[0]?.getD P.zero) far 0 0)).1 (by omega)
    rw [hR] at h
    rcases R with ⟨e', g'⟩ | ⟨a, b, c⟩
    · simp only [Option.getD_some, Sum.elim_inl, Prod.mk.injEq, and_true] at h
      rw [follow_L1_end _ _ _ _ _ _ hR] at h
      exact h.2.symm
    · exfalso
      simp only [Option.getD_some, Sum.elim_inr, Prod.mk.injEq] at h
      obtain ⟨rfl, rfl, rfl⟩ := h
      have : ∀ (m : Nat) (last t : Int) (f : FilterTrack) (a : FilterTrack) (b : Int), skywaykeep2_follow_L1 l every far accel place speed noise m last t f ≠ some (.inr (a, b, true)) := by
        intro m
        induction m with
        | zero => intro last t f a b hh; cases hh
        | succ m ih =>
          intro last t f a b hh
          unfold skywaykeep2_follow_L1 at hh
          simp only [ite_of_cond] at hh
          repeat' split at hh
          all_goals first | exact ih _ _ _ _ _ hh | (injection hh with hh; cases hh)
      exact this _ _ _ _ _ _ hR
theorem dot_le {a b c d R S : Int} (hR : 0 ≤ R) (hS : 0 ≤ S) (h1 : a * a + b * b ≤ R * R) (h2 : c * c + d * d ≤ S * S) : a * c + b * d ≤ R * S := by
  rcases Int.lt_or_le (R * S) (a * c + b * d) with h | h
  · exfalso
    have hRS : 0 ≤ R * S := Int.mul_nonneg hR hS
    have e1 : (a * c + b * d) * (a * c + b * d) + (a * d - b * c) * (a * d - b * c) = (a * a + b * b) * (c * c + d * d) := by grind
    have e2 : 0 ≤ (a * d - b * c) * (a * d - b * c) := by
      rcases Int.le_total 0 (a * d - b * c) with g | g
      · exact Int.mul_nonneg g g
      · rw [← Int.neg_mul_neg]; exact Int.mul_nonneg (by omega) (by omega)
    have n1 : ∀ x : Int, 0 ≤ x * x := fun x => by
      rcases Int.le_total 0 x with g | g
      · exact Int.mul_nonneg g g
      · rw [← Int.neg_mul_neg]; exact Int.mul_nonneg (by omega) (by omega)
    have e3 : (a * a + b * b) * (c * c + d * d) ≤ (R * R) * (S * S) := Int.mul_le_mul h1 h2 (by have := n1 c; have := n1 d; omega) (n1 R)
    have e4 : (R * R) * (S * S) = (R * S) * (R * S) := by grind
    have e5 : (R * S + 1) * (R * S + 1) ≤ (a * c + b * d) * (a * c + b * d) := Int.mul_le_mul (by omega) (by omega) (by omega) (by omega)
    have e6 : (R * S + 1) * (R * S + 1) = (R * S) * (R * S) + 2 * (R * S) + 1 := by grind
    omega
  · exact h

theorem triangle_lt {a b c d R S : Int} (hR : 0 ≤ R) (hS : 0 ≤ S) (h1 : a * a + b * b < R * R) (h2 : c * c + d * d ≤ S * S) : (a + c) * (a + c) + (b + d) * (b + d) < (R + S) * (R + S) := by
  have k := dot_le hR hS (Int.le_of_lt h1) h2
  have e7 : (a + c) * (a + c) + (b + d) * (b + d) = (a * a + b * b) + (c * c + d * d) + 2 * (a * c + b * d) := by grind
  have e8 : (R + S) * (R + S) = R * R + S * S + 2 * (R * S) := by grind
  omega
end Go.Sky
