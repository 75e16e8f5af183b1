/- What the begin functions compute, in plain Lean. Conditions: in each lemma. -/
import Derived.Test.YtbhemgagabdjkaaWe
import Derived.Test.YtbhemgagabdjkaaNum
namespace Go.Sky
open Go Go.Eng

theorem kand_mask {x : Int} (h : 0 ≤ x ∧ x < 4611686018427387904) : kand .i64 x 65535 = x % 65536 := by
  obtain ⟨n, rfl⟩ : ∃ n : Nat, x = (n : Int) := ⟨x.toNat, by omega⟩
  have hs : (2 : Nat) ^ IntKind.i64.bits = 18446744073709551616 := rfl
  have e : (BitVec.ofInt IntKind.i64.bits (n : Int) &&& BitVec.ofInt IntKind.i64.bits (65535 : Int)).toNat = n % 65536 := by
    rw [BitVec.toNat_and, BitVec.ofInt_natCast, show (65535 : Int) = ((65535 : Nat) : Int) from rfl, BitVec.ofInt_natCast, BitVec.toNat_ofNat, BitVec.toNat_ofNat, hs, Nat.mod_eq_of_lt (show n < 18446744073709551616 by omega)]
    exact Nat.and_two_pow_sub_one_eq_mod n 16
  unfold kand
  rw [e]
  refine (w64_id (x := ((n % 65536 : Nat) : Int)) (by omega)).trans (by omega)
theorem kor_one {x : Int} (h : 0 ≤ x ∧ x < 4611686018427387904) (h2 : x % 2 = 0) : kor .i64 x 1 = x + 1 := by
  obtain ⟨n, rfl⟩ : ∃ n : Nat, x = (n : Int) := ⟨x.toNat, by omega⟩
  have hs : (2 : Nat) ^ IntKind.i64.bits = 18446744073709551616 := rfl
  have e : (BitVec.ofInt IntKind.i64.bits (n : Int) ||| BitVec.ofInt IntKind.i64.bits (1 : Int)).toNat = n + 1 := by
    rw [BitVec.toNat_or, BitVec.ofInt_natCast, show (1 : Int) = ((1 : Nat) : Int) from rfl, BitVec.ofInt_natCast, BitVec.toNat_ofNat, BitVec.toNat_ofNat, hs, Nat.mod_eq_of_lt (show n < 18446744073709551616 by omega)]
    have : n = 2 * (n / 2) := by omega
    show n ||| 1 = n + 1
    rw [this]
    exact (Nat.two_pow_add_eq_or_of_lt (i := 1) (b := 1) (by decide) (n / 2)).symm
  unfold kor
  rw [e]
  exact w64_id (x := ((n + 1 : Nat) : Int)) (by omega)

/-- The history behind a scan. -/
def pushHit (w : Int) (x : Bool) : Int := (2 * w) % 65536 + (if x then 1 else 0)
theorem push_range (w : Int) (x : Bool) : 0 ≤ pushHit w x ∧ pushHit w x < 65536 := by
  unfold pushHit; split <;> omega
theorem push_no {w : Int} (h : 0 ≤ w ∧ w < 65536) : kand .i64 (w64 (w * 2 ^ 1)) 65535 = pushHit w false := by
  have e : w * 2 ^ 1 = 2 * w := by have : (2 : Int) ^ 1 = 2 := rfl; omega
  rw [e, w64_id (by omega), kand_mask (by omega)]
  simp [pushHit]
theorem push_yes {w : Int} (h : 0 ≤ w ∧ w < 65536) : kor .i64 (kand .i64 (w64 (w * 2 ^ 1)) 65535) 1 = pushHit w true := by
  rw [push_no h, kor_one (by have := push_range w false; omega) (by simp only [pushHit]; simp)]
  simp [pushHit]

theorem step_L1 (b : BeginState) (need n : Int) : ∀ m k, begin_step_L1 b need n m k = .inl () ∨ begin_step_L1 b need n m k = .inr ((⟨kor .i64 (kand .i64 (w64 (b.Hits * 2 ^ 1)) 65535) 1, imin 16 (w64 (b.Scans + 1))⟩ : BeginState), 0)
  | 0, _ => .inl rfl
  | m + 1, k => by
    unfold begin_step_L1
    simp only [ite_of_cond]
    split
    · exact .inr rfl
    · exact step_L1 b need n m (k + 1)
theorem step_L2 (b : BeginState) (need n : Int) : ∀ m k, begin_step_L2 b need n m k = .inl () ∨ begin_step_L2 b need n m k = .inr ((⟨kand .i64 (w64 (b.Hits * 2 ^ 1)) 65535, imin 16 (w64 (b.Scans + 1))⟩ : BeginState), 0)
  | 0, _ => .inl rfl
  | m + 1, k => by
    unfold begin_step_L2
    simp only [ite_of_cond]
    split
    · exact .inr rfl
    · exact step_L2 b need n m (k + 1)

theorem step_state {b : BeginState} (x : Bool) (need n : Int) (h : 0 ≤ b.Hits ∧ b.Hits < 65536) (hs : 0 ≤ b.Scans ∧ b.Scans ≤ 16) : (begin_step b x need n).1 = ⟨pushHit b.Hits x, min 16 (b.Scans + 1)⟩ := by
  have e : imin 16 (w64 (b.Scans + 1)) = min 16 (b.Scans + 1) := by
    rw [w64_id (by omega)]; unfold imin; split <;> omega
  unfold begin_step
  cases x
  · rw [cond_false, ← push_no h, ← e]
    simp only [ite_of_cond]
    split
    · rfl
    · split
      · rfl
      · rcases step_L2 b need n (n - 1).toNat 0 with q | q <;> rw [q] <;> rfl
  · rw [cond_true, ← push_yes h, ← e]
    simp only [ite_of_cond]
    split
    · rfl
    · split
      · rfl
      · rcases step_L1 b need n (n - 1).toNat 0 with q | q <;> rw [q] <;> rfl

theorem pow_scans {s : Nat} (h : s ≤ 16) : (2 : Int) ^ s ≤ 65536 ∧ 1 ≤ (2 : Int) ^ s := by
  have h1 : (2 : Nat) ^ s ≤ 2 ^ 16 := Nat.pow_le_pow_right (by decide) h
  have h2 : 0 < (2 : Nat) ^ s := Nat.two_pow_pos s
  have e : (2 : Int) ^ s = ((2 ^ s : Nat) : Int) := by simp
  rw [e]
  omega
theorem beginCheck_eq {b : BeginState} {s : Nat} (hs : b.Scans = (s : Int)) (h16 : s ≤ 16) (h : 0 ≤ b.Hits ∧ b.Hits < 2 ^ s) : begin_Check b = 0 := by
  unfold begin_Check
  have e1 : ((decide (b.Scans < 0)) || (decide (b.Scans > 16))) = false := by simp; omega
  have e2 : decide (b.Hits < 0) = false := by simp; omega
  have hp := pow_scans h16
  have e3 : w64 (1 * 2 ^ (min b.Scans.toNat 64)) = 2 ^ s := by
    rw [hs, show min ((s : Int).toNat) 64 = s by omega, w64_id (by omega)]
    omega
  have e4 : decide (b.Hits ≥ w64 (1 * 2 ^ (min b.Scans.toNat 64))) = false := by rw [e3]; simp; omega
  rw [e1, e2, e4]
  rfl
end Go.Sky
