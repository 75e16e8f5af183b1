/- The law BeginAlways in plain Lean. Conditions: none. -/
import Derived.Test.YtbhemgagabdjkaaLawBeginSooner
namespace Go.Sky
open Go Go.Eng Go.Glue

theorem pcN_ones : ∀ (k j : Nat), pcN k (2 ^ j - 1) = min k j
  | 0, j => by simp [pcN]
  | k + 1, 0 => by simp [pcN_zero]
  | k + 1, j + 1 => by
    have h1 : (2 : Nat) ^ (j + 1) = 2 * 2 ^ j := by rw [Nat.pow_succ, Nat.mul_comm]
    have h2 : 0 < 2 ^ j := Nat.two_pow_pos j
    have e : (2 ^ (j + 1) - 1) / 2 = 2 ^ j - 1 := by omega
    have ih := pcN_ones k j
    unfold pcN
    rw [e, ih]; omega

theorem pow16 {j : Nat} (h : j ≤ 16) : 2 ^ j ≤ 65536 := by
  have : (2 : Nat) ^ j ≤ 2 ^ 16 := Nat.pow_le_pow_right (by decide) h
  exact this

/-- A hit in each scan. -/
theorem run_yes {n : Nat} (hn : 1 ≤ n ∧ n ≤ 16) {need : Nat} (hd : need ≤ n) : ∀ (d j m : Nat), j + d + 1 = need → runR (need : Int) (n : Int) (List.replicate (m + d + 1) true) j ⟨((2 ^ j - 1 : Nat) : Int), (j : Int)⟩ = ((need : Int), 1, 0)
  | d, j, m, h => by
    have hp := pow16 (show j + 1 ≤ 16 by omega)
    have hp2 : (2 : Nat) ^ (j + 1) = 2 * 2 ^ j := by rw [Nat.pow_succ, Nat.mul_comm]
    have hp3 : 0 < 2 ^ j := Nat.two_pow_pos j
    have hpush : pushN (2 ^ j - 1) true = 2 ^ (j + 1) - 1 := by unfold pushN; simp only [Bool.toNat_true]; omega
    have hs : min 16 ((j : Int) + 1) = ((j + 1 : Nat) : Int) := by omega
    rw [List.replicate_succ, runR_cons true _ j need (by omega) (by omega) hn (by omega), hpush, hs]
    have hc : pcN n (2 ^ (j + 1) - 1) = j + 1 := by rw [pcN_ones]; omega
    cases d with
    | zero =>
      have hv : verdict (2 ^ (j + 1) - 1) ((j + 1 : Nat) : Int) need n = 1 := by unfold verdict; rw [hc, if_pos (by omega)]
      rw [hv, if_pos (by decide)]
      have : (j : Int) + 1 = need := by omega
      rw [this]
    | succ d =>
      have hv : verdict (2 ^ (j + 1) - 1) ((j + 1 : Nat) : Int) need n = 0 := by unfold verdict; rw [hc, if_neg (by omega), if_pos (by omega)]
      rw [hv, if_neg (by decide)]
      exact run_yes hn hd d (j + 1) m (by omega)

/-- None at all. -/
theorem run_no {n : Nat} (hn : 1 ≤ n ∧ n ≤ 16) {need : Nat} (hd : 1 ≤ need) : ∀ (d j m : Nat), j + d + 1 = n → runR (need : Int) (n : Int) (List.replicate (m + d + 1) false) j ⟨((0 : Nat) : Int), (j : Int)⟩ = ((n : Int), 2, 0)
  | d, j, m, h => by
    have hpush : pushN 0 false = 0 := rfl
    have hs : min 16 ((j : Int) + 1) = ((j + 1 : Nat) : Int) := by omega
    rw [List.replicate_succ, runR_cons false _ j need (by omega) (by omega) hn (by omega), hpush, hs]
    cases d with
    | zero =>
      have hv : verdict 0 ((j + 1 : Nat) : Int) need n = 2 := by unfold verdict; rw [pcN_zero, if_neg (by omega), if_neg (by omega), alive_zero]; rfl
      rw [hv, if_pos (by decide)]
      have : (j : Int) + 1 = n := by omega
      rw [this]
    | succ d =>
      have hv : verdict 0 ((j + 1 : Nat) : Int) need n = 0 := by unfold verdict; rw [pcN_zero, if_neg (by omega), if_pos (by omega)]
      rw [hv, if_neg (by decide)]
      exact run_no hn hd d (j + 1) m (by omega)

theorem rule_ok {need n : Nat} (h1 : 1 ≤ need) (h2 : need ≤ n) (h3 : n ≤ 16) : begin_CheckRule (need : Int) (n : Int) = 0 := by
  unfold begin_CheckRule
  have e : ((((decide ((n : Int) < 1)) || (decide ((n : Int) > 16))) || (decide ((need : Int) < 1))) || (decide ((need : Int) > n))) = false := by simp; omega
  rw [e]; rfl

theorem BeginAlways_true (x0 x1 : Int) (_k0 : I64 x0) (_k1 : I64 x1) : skywaykeep2_BeginAlways x0 x1 = true := by
  unfold skywaykeep2_BeginAlways
  obtain ⟨a, ha⟩ : ∃ a, a = skywaykeep2_within x1 1 16 := ⟨_, rfl⟩
  have hb := within_in ha.symm (by omega) (by omega) (by omega)
  obtain ⟨b, hbb⟩ : ∃ b, b = skywaykeep2_within x0 1 a := ⟨_, rfl⟩
  have hc := within_in hbb.symm (by omega) (by omega) (by omega)
  simp only [← ha, ← hbb, bindv]
  obtain ⟨n, rfl⟩ : ∃ n : Nat, a = (n : Int) := ⟨a.toNat, by omega⟩
  obtain ⟨need, rfl⟩ : ∃ m : Nat, b = (m : Int) := ⟨b.toNat, by omega⟩
  have hl : skywaykeep2_BeginAlways_L1 20 0 (List.replicate 20 false) = List.replicate 20 true := by decide
  have hr := rule_ok (need := need) (n := n) (by omega) (by omega) (by omega)
  have e1 : begin_Run (List.replicate 20 true) (need : Int) (n : Int) = ((need : Int), 1, 0) := by
    have h := run_yes (n := n) (by omega) (need := need) (by omega) (need - 1) 0 (20 - need) (by omega)
    rw [show 20 - need + (need - 1) + 1 = 20 by omega] at h
    unfold begin_Run
    rw [hr]
    exact h
  have e2 : begin_Run (List.replicate 20 false) (need : Int) (n : Int) = ((n : Int), 2, 0) := by
    have h := run_no (n := n) (by omega) (need := need) (by omega) (n - 1) 0 (20 - n) (by omega)
    rw [show 20 - n + (n - 1) + 1 = 20 by omega] at h
    unfold begin_Run
    rw [hr]
    exact h
  rw [hl, e1, e2]
  have ef : skywaykeep2_fine [0, 0] = true := by decide
  simp [ef]
end Go.Sky
