/- Masks, disjunction and shifts of unsigned words. Conditions: in each theorem. -/
import Derived.Test.YtlaealgmaalgfaaNum
import Derived.Test.YtlaealgmaalgfaaStr
namespace Go.Sky
open Go Go.Eng

theorem kand_u64 {a b : Nat} (ha : a < 18446744073709551616) (hb : b < 18446744073709551616) : kand .u64 (a : Int) (b : Int) = ((a &&& b : Nat) : Int) := by
  have hx : a &&& b < 18446744073709551616 := Nat.lt_of_le_of_lt Nat.and_le_left ha
  have e : (BitVec.ofInt IntKind.u64.bits (a : Int) &&& BitVec.ofInt IntKind.u64.bits (b : Int)).toNat = a &&& b := by
    rw [BitVec.toNat_and, BitVec.ofInt_natCast, BitVec.ofInt_natCast, BitVec.toNat_ofNat, BitVec.toNat_ofNat]
    have hs : (2 : Nat) ^ IntKind.u64.bits = 18446744073709551616 := rfl
    rw [hs, Nat.mod_eq_of_lt ha, Nat.mod_eq_of_lt hb]
  unfold kand
  rw [e]
  exact wu64_id (by omega)
theorem kor_u64 {a b : Nat} (ha : a < 18446744073709551616) (hb : b < 18446744073709551616) : kor .u64 (a : Int) (b : Int) = ((a ||| b : Nat) : Int) := by
  have hx : a ||| b < 18446744073709551616 := Nat.or_lt_two_pow (n := 64) ha hb
  have e : (BitVec.ofInt IntKind.u64.bits (a : Int) ||| BitVec.ofInt IntKind.u64.bits (b : Int)).toNat = a ||| b := by
    rw [BitVec.toNat_or, BitVec.ofInt_natCast, BitVec.ofInt_natCast, BitVec.toNat_ofNat, BitVec.toNat_ofNat]
    have hs : (2 : Nat) ^ IntKind.u64.bits = 18446744073709551616 := rfl
    rw [hs, Nat.mod_eq_of_lt ha, Nat.mod_eq_of_lt hb]
  unfold kor
  rw [e]
  exact wu64_id (by omega)
theorem kor_in (a b : Int) : 0 ≤ kor .u64 a b ∧ kor .u64 a b < 18446744073709551616 := by
  unfold kor
  show 0 ≤ wu64 _ ∧ wu64 _ < _
  rw [wu64_eq]; omega
theorem mask32 {x : Int} (h : 0 ≤ x ∧ x < 18446744073709551616) : kand .u64 x 4294967295 = x % 4294967296 := by
  obtain ⟨n, rfl⟩ : ∃ n : Nat, x = (n : Int) := ⟨x.toNat, by omega⟩
  have e := kand_u64 (a := n) (b := 4294967295) (by omega) (by decide)
  rw [show ((4294967295 : Nat) : Int) = 4294967295 from rfl] at e
  rw [e, show (4294967295 : Nat) = 2 ^ 32 - 1 by decide, Nat.and_two_pow_sub_one_eq_mod]
  show ((n % 4294967296 : Nat) : Int) = _
  omega
/-- A disjunction of parts that do not meet. -/
theorem kor_add {a b : Int} {s : Nat} (hs : s ≤ 64) (ha : 0 ≤ a) (hb : 0 ≤ b ∧ b < 2 ^ s) (h : 2 ^ s * a < 18446744073709551616) : kor .u64 (2 ^ s * a) b = 2 ^ s * a + b := by
  obtain ⟨n, rfl⟩ : ∃ n : Nat, a = (n : Int) := ⟨a.toNat, by omega⟩
  obtain ⟨m, rfl⟩ : ∃ n : Nat, b = (n : Int) := ⟨b.toNat, by omega⟩
  have e1 : (2 : Int) ^ s * (n : Int) = ((2 ^ s * n : Nat) : Int) := by simp
  have e2 : ((2 : Int) ^ s) = ((2 ^ s : Nat) : Int) := by simp
  rw [e1] at h ⊢
  rw [e2] at hb
  have hm : m < 2 ^ s := by omega
  have hp : (2 : Nat) ^ s ≤ 2 ^ 64 := Nat.pow_le_pow_right (by decide) hs
  have hm3 : m < 18446744073709551616 := Nat.lt_of_lt_of_le hm hp
  rw [kor_u64 (by omega) hm3, ← Nat.two_pow_add_eq_or_of_lt hm]
  simp
theorem fdiv_pow (x : Int) (k : Nat) : x.fdiv (2 ^ k) = x / 2 ^ k := Int.fdiv_eq_ediv_of_nonneg _ (Int.le_of_lt (Int.pow_pos (by decide)))
end Go.Sky
