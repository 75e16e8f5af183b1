/- The law BeginRemembers in plain Lean. Conditions: none. -/
import Derived.Test.YtbhemgagabdjkaaBegin
import Derived.Test.YtbhemgagabdjkaaOk
namespace Go.Sky
open Go Go.Eng Go.Glue

theorem step16 {b : BeginState} {s : Nat} (x : Bool) (hs : b.Scans = (s : Int)) (h16 : s ≤ 16) (h : 0 ≤ b.Hits ∧ b.Hits < 2 ^ s) :
    (begin_Step b x 16 16).1 = ⟨pushHit b.Hits x, min 16 ((s : Int) + 1)⟩ ∧ (begin_Step b x 16 16).2.2 = 0 := by
  have hp := pow_scans h16
  unfold begin_Step
  have e1 : begin_CheckRule 16 16 = 0 := by decide
  simp only [beginCheck_eq hs h16 h, e1]
  have e2 : ((0 : Int) != 0) = false := rfl
  simp only [e2, cond_false]
  exact ⟨by rw [step_state x 16 16 (by omega) (by omega), hs], trivial⟩

theorem remembers_L1 : ∀ (l : List Bool) (k : Nat) (w : Int) (b : BeginState), k + l.length ≤ 40 → b = ⟨w, ((min k 16 : Nat) : Int)⟩ → 0 ≤ w ∧ w < 2 ^ (min k 16) → ∃ b', skywaykeep2_BeginRemembers_L1 l k w b = .inl b'
  | [], _, _, b, _, _, _ => ⟨b, rfl⟩
  | x :: xs, k, w, b, hk, hb, hw => by
    simp only [List.length_cons] at hk
    have hp := pow_scans (show min k 16 ≤ 16 by omega)
    obtain ⟨s1, s2⟩ := step16 (b := b) (s := min k 16) x (by rw [hb]) (by omega) (by rw [hb]; exact hw)
    have eh : b.Hits = w := by rw [hb]
    rw [eh] at s1
    have esc : min 16 (((min k 16 : Nat) : Int) + 1) = ((min (k + 1) 16 : Nat) : Int) := by omega
    rw [esc] at s1
    have hr : 0 ≤ pushHit w x ∧ pushHit w x < 2 ^ (min (k + 1) 16) := by
      refine ⟨(push_range w x).1, ?_⟩
      by_cases h16 : k < 16
      · have e1 : min k 16 = k := by omega
        have e2 : min (k + 1) 16 = k + 1 := by omega
        rw [e1] at hw hp
        rw [e2, Int.pow_succ]
        unfold pushHit
        split <;> omega
      · have e2 : min (k + 1) 16 = 16 := by omega
        rw [e2]
        have := (push_range w x).2
        have e : (2 : Int) ^ 16 = 65536 := rfl
        omega
    have hc : begin_Check ⟨pushHit w x, ((min (k + 1) 16 : Nat) : Int)⟩ = 0 := beginCheck_eq (s := min (k + 1) 16) rfl (by omega) hr
    have ei : imin (w64 ((k : Int) + 1)) 16 = ((min (k + 1) 16 : Nat) : Int) := by
      rw [w64_id (by omega)]; unfold imin; split <;> omega
    obtain ⟨b', ih⟩ := remembers_L1 xs (k + 1) (pushHit w x) ⟨pushHit w x, ((min (k + 1) 16 : Nat) : Int)⟩ (by omega) rfl hr
    refine ⟨b', ?_⟩
    unfold skywaykeep2_BeginRemembers_L1
    have e2 : ((0 : Int) != 0) = false := rfl
    have hw2 : 0 ≤ w ∧ w < 65536 := by omega
    cases x
    · simp only [s1, s2, e2, cond_false, ei, push_no hw2, hc, ih]
      simp
    · rw [push_yes hw2]
      simp only [s1, s2, e2, cond_false, ei, cond_true, hc, ih]
      simp

theorem BeginRemembers_true (x0 : List Bool) (_s0 : x0.length < 4611686018427387904) (_k0 : ∀ a ∈ x0, True) : skywaykeep2_BeginRemembers x0 = true := by
  unfold skywaykeep2_BeginRemembers
  obtain ⟨b', e⟩ := remembers_L1 (x0.take (imin (x0.length : Int) 40).toNat) 0 0 ⟨0, 0⟩ (by
    have := imin_r (x0.length : Int) 40
    simp only [List.length_take]
    omega) rfl (by decide)
  rw [e]
  show (((begin_Step BeginState.zero true 16 16).2.2 == 0) && ((begin_Step BeginState.zero true 16 16).1.Hits == 1)) && ((begin_Step BeginState.zero true 16 16).1.Scans == 1) = true
  decide
end Go.Sky
