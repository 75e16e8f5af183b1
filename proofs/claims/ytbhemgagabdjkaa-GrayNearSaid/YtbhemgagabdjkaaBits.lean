/- Counting the bits of small numbers. Conditions: the numbers are less than 4096. -/
import Derived.Test.YtbhemgagabdjkaaWc
import Derived.Test.YtbhemgagabdjkaaNum
import Derived.KernelRfl
namespace Go.Sky
open Go Go.Eng

def pc (n : Nat) : Nat :=
  (n.testBit 0).toNat + (n.testBit 1).toNat + (n.testBit 2).toNat + (n.testBit 3).toNat + (n.testBit 4).toNat + (n.testBit 5).toNat + (n.testBit 6).toNat + (n.testBit 7).toNat + (n.testBit 8).toNat + (n.testBit 9).toNat + (n.testBit 10).toNat + (n.testBit 11).toNat

theorem ones_table : (List.range 4096).all (fun n => math_bits_OnesCount (n : Int) == (pc n : Int)) = true := by kernel_rfl
theorem ones_eq {n : Nat} (h : n < 4096) : math_bits_OnesCount (n : Int) = (pc n : Int) := by
  have := List.all_eq_true.1 ones_table n (List.mem_range.2 h)
  exact eq_of_beq this

theorem kxor_eq {a b : Nat} (ha : a < 4096) (hb : b < 4096) : kxor .i64 (a : Int) (b : Int) = ((a ^^^ b : Nat) : Int) := by
  have hx : a ^^^ b < 4096 := Nat.xor_lt_two_pow (n := 12) ha hb
  have e : (BitVec.ofInt IntKind.i64.bits (a : Int) ^^^ BitVec.ofInt IntKind.i64.bits (b : Int)).toNat = a ^^^ b := by
    rw [BitVec.toNat_xor, BitVec.ofInt_natCast, BitVec.ofInt_natCast, BitVec.toNat_ofNat, BitVec.toNat_ofNat]
    have hs : (2 : Nat) ^ IntKind.i64.bits = 18446744073709551616 := rfl
    rw [hs, Nat.mod_eq_of_lt (by omega), Nat.mod_eq_of_lt (by omega)]
  unfold kxor
  rw [e]
  exact w64_id (by omega)
theorem wu64_nat {n : Nat} (h : n < 4096) : wu64 (n : Int) = (n : Int) := by
  unfold wu64
  rw [IntKind.wrap_u64]
  omega

theorem bit_tri (x y z : Bool) : (x ^^ z).toNat ≤ (x ^^ y).toNat + (y ^^ z).toNat := by cases x <;> cases y <;> cases z <;> decide
theorem pc_tri (a b c : Nat) : pc (a ^^^ c) ≤ pc (a ^^^ b) + pc (b ^^^ c) := by
  unfold pc
  simp only [Nat.testBit_xor]
  have h := fun i => bit_tri (a.testBit i) (b.testBit i) (c.testBit i)
  have h0 := h 0; have h1 := h 1; have h2 := h 2; have h3 := h 3; have h4 := h 4; have h5 := h 5
  have h6 := h 6; have h7 := h 7; have h8 := h 8; have h9 := h 9; have h10 := h 10; have h11 := h 11
  omega
theorem bit_le (x : Bool) : x.toNat ≤ 1 := by cases x <;> decide
theorem pc_le (n : Nat) : pc n ≤ 12 := by
  unfold pc
  have h := fun i => bit_le (n.testBit i)
  have h0 := h 0; have h1 := h 1; have h2 := h 2; have h3 := h 3; have h4 := h 4; have h5 := h 5
  have h6 := h 6; have h7 := h 7; have h8 := h 8; have h9 := h 9; have h10 := h 10; have h11 := h 11
  omega
theorem bit_zero {x y : Bool} (h : (x ^^ y).toNat = 0) : x = y := by cases x <;> cases y <;> simp_all
theorem pc_zero {a b : Nat} (ha : a < 4096) (hb : b < 4096) : pc (a ^^^ b) = 0 ↔ a = b := by
  constructor
  · intro h
    unfold pc at h
    simp only [Nat.testBit_xor] at h
    apply Nat.eq_of_testBit_eq
    intro i
    by_cases hi : i < 12
    · have hz : ((a.testBit i) ^^ (b.testBit i)).toNat = 0 := by
        match i, hi with
        | 0, _ => omega
        | 1, _ => omega
        | 2, _ => omega
        | 3, _ => omega
        | 4, _ => omega
        | 5, _ => omega
        | 6, _ => omega
        | 7, _ => omega
        | 8, _ => omega
        | 9, _ => omega
        | 10, _ => omega
        | 11, _ => omega
      exact bit_zero hz
    · have h12 : (2 : Nat) ^ 12 ≤ 2 ^ i := Nat.pow_le_pow_right (by decide) (by omega)
      rw [Nat.testBit_lt_two_pow (by omega : a < 2 ^ i), Nat.testBit_lt_two_pow (by omega : b < 2 ^ i)]
  · rintro rfl
    rw [Nat.xor_self]
    decide

theorem wrong_eq (a : Int) : gray_wrong a = !(decide (0 ≤ a ∧ a ≤ 4095)) := by
  unfold gray_wrong
  rw [Bool.eq_iff_iff]
  simp
theorem change_eq {a b : Nat} (ha : a < 4096) (hb : b < 4096) : gray_Change (a : Int) (b : Int) = ((pc (a ^^^ b) : Int), 0) := by
  have hx : a ^^^ b < 4096 := Nat.xor_lt_two_pow (n := 12) ha hb
  unfold gray_Change
  have e1 : gray_wrong (a : Int) = false := by rw [wrong_eq]; simp; omega
  have e2 : gray_wrong (b : Int) = false := by rw [wrong_eq]; simp; omega
  simp only [e1, e2, cond_false, kxor_eq ha hb, wu64_nat hx, ones_eq hx]
theorem change_bad {a b : Int} (h : ¬ ((0 ≤ a ∧ a ≤ 4095) ∧ (0 ≤ b ∧ b ≤ 4095))) : gray_Change a b = (0, 4) := by
  unfold gray_Change
  by_cases h1 : 0 ≤ a ∧ a ≤ 4095
  · have e1 : gray_wrong a = false := by rw [wrong_eq]; simp; omega
    have e2 : gray_wrong b = true := by rw [wrong_eq]; simp; omega
    simp only [e1, e2, cond_false, cond_true]
  · have e1 : gray_wrong a = true := by rw [wrong_eq]; simp; omega
    simp only [e1, cond_true]
end Go.Sky
