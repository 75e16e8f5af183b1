/- Powers of two above a number. Conditions: in each theorem. -/
import Derived.Test.YtfjchccilkgcnaaSf
import Derived.Test.YtfjchccilkgcnaaSorting
namespace Go.Srt
open Go Go.Eng Go.Sky

theorem kand_le (x : Int) {y : Int} (h : 0 ≤ y ∧ y < 9223372036854775808) : 0 ≤ kand .u64 x y ∧ kand .u64 x y ≤ y := by
  unfold kand
  have e2 : (BitVec.ofInt (IntKind.u64).bits y).toNat = y.toNat := by
    obtain ⟨n, rfl⟩ := Int.eq_ofNat_of_zero_le h.1
    show (BitVec.ofInt 64 (n : Int)).toNat = _
    rw [BitVec.ofInt_natCast, BitVec.toNat_ofNat, Nat.mod_eq_of_lt (by omega)]; rfl
  have le : (BitVec.ofInt (IntKind.u64).bits x &&& BitVec.ofInt (IntKind.u64).bits y).toNat ≤ y.toNat := by
    rw [BitVec.toNat_and, e2]; exact Nat.and_le_right
  have e3 : (IntKind.u64).wrap ((BitVec.ofInt (IntKind.u64).bits x &&& BitVec.ofInt (IntKind.u64).bits y).toNat : Int) = ((BitVec.ofInt (IntKind.u64).bits x &&& BitVec.ofInt (IntKind.u64).bits y).toNat : Int) := IntWalk.u64_in _ (by omega)
  rw [e3]
  omega

def tab8 : ByteArray := ⟨#[0, 1, 2, 2, 3, 3, 3, 3, 4, 4, 4, 4, 4, 4, 4, 4, 5, 5, 5, 5, 5, 5, 5, 5, 5, 5, 5, 5, 5, 5, 5, 5, 6, 6, 6, 6, 6, 6, 6, 6, 6, 6, 6, 6, 6, 6, 6, 6, 6, 6, 6, 6, 6, 6, 6, 6, 6, 6, 6, 6, 6, 6, 6, 6, 7, 7, 7, 7, 7, 7, 7, 7, 7, 7, 7, 7, 7, 7, 7, 7, 7, 7, 7, 7, 7, 7, 7, 7, 7, 7, 7, 7, 7, 7, 7, 7, 7, 7, 7, 7, 7, 7, 7, 7, 7, 7, 7, 7, 7, 7, 7, 7, 7, 7, 7, 7, 7, 7, 7, 7, 7, 7, 7, 7, 7, 7, 7, 7, 8, 8, 8, 8, 8, 8, 8, 8, 8, 8, 8, 8, 8, 8, 8, 8, 8, 8, 8, 8, 8, 8, 8, 8, 8, 8, 8, 8, 8, 8, 8, 8, 8, 8, 8, 8, 8, 8, 8, 8, 8, 8, 8, 8, 8, 8, 8, 8, 8, 8, 8, 8, 8, 8, 8, 8, 8, 8, 8, 8, 8, 8, 8, 8, 8, 8, 8, 8, 8, 8, 8, 8, 8, 8, 8, 8, 8, 8, 8, 8, 8, 8, 8, 8, 8, 8, 8, 8, 8, 8, 8, 8, 8, 8, 8, 8, 8, 8, 8, 8, 8, 8, 8, 8, 8, 8, 8, 8, 8, 8, 8, 8, 8, 8, 8, 8, 8, 8, 8, 8, 8, 8, 8, 8, 8, 8, 8, 8]⟩
theorem tab8_all : (List.range 256).all (fun k => k == 0 || (decide (0 ≤ bat tab8 k) && decide (bat tab8 k ≤ 8) && decide (2 ^ (bat tab8 k).toNat ≤ 2 * k))) = true := by kernel_rfl
theorem tab8_at {k : Nat} (h : 1 ≤ k ∧ k < 256) : (0 ≤ bat tab8 k ∧ bat tab8 k ≤ 8) ∧ 2 ^ (bat tab8 k).toNat ≤ 2 * k := by
  have := List.all_eq_true.1 tab8_all k (List.mem_range.2 h.2)
  simp only [Bool.or_eq_true, Bool.and_eq_true, beq_iff_eq, decide_eq_true_eq] at this
  exact ⟨⟨(this.resolve_left (by omega)).1.1, (this.resolve_left (by omega)).1.2⟩, (this.resolve_left (by omega)).2⟩
theorem len_low {x : Int} (h : 0 ≤ x ∧ x < 256) : math_bits_Len64 x = w64 (0 + (w64 (bat tab8 ((wu8 x).toNat)))) := by
  unfold math_bits_Len64
  rw [show decide (x ≥ 4294967296) = false by simp; omega, cond_false, show decide (x ≥ 65536) = false by simp; omega, cond_false, show decide (x ≥ 256) = false by simp; omega, cond_false]
  rfl
theorem len_mid {x : Int} (h : 256 ≤ x ∧ x < 65536) : math_bits_Len64 x = w64 ((w64 (0 + 8)) + (w64 (bat tab8 ((wu8 (x.fdiv (2 ^ 8))).toNat)))) := by
  unfold math_bits_Len64
  rw [show decide (x ≥ 4294967296) = false by simp; omega, cond_false, show decide (x ≥ 65536) = false by simp; omega, cond_false, show decide (x ≥ 256) = true by simp; omega, cond_true]
  rfl
theorem len_spec {x : Int} (h : 1 ≤ x ∧ x < 65536) : ∃ t : Nat, math_bits_Len64 x = (t : Int) ∧ t ≤ 16 ∧ (2 : Int) ^ t ≤ 2 * x := by
  by_cases h1 : x < 256
  · rw [len_low ⟨by omega, h1⟩, show wu8 x = x from IntWalk.u8_in _ (by omega)]
    obtain ⟨⟨t1, t2⟩, t3⟩ := tab8_at (k := x.toNat) (by omega)
    obtain ⟨t, et⟩ := Int.eq_ofNat_of_zero_le t1
    rw [et] at t2 t3 ⊢
    rw [Int.toNat_natCast] at t3
    rw [w64_id (x := (t : Int)) (by omega), Int.zero_add, w64_id (by omega)]
    refine ⟨t, rfl, by omega, ?_⟩
    have : ((2 ^ t : Nat) : Int) ≤ ((2 * x.toNat : Nat) : Int) := Int.ofNat_le.2 t3
    rw [Int.natCast_pow, show ((2 : Nat) : Int) = 2 from rfl] at this
    omega
  · have e8 : x.fdiv (2 ^ 8) = x / 256 := Int.fdiv_eq_ediv_of_nonneg _ (by decide)
    rw [len_mid ⟨by omega, h.2⟩, e8, show wu8 (x / 256) = x / 256 from IntWalk.u8_in _ (by omega)]
    obtain ⟨⟨t1, t2⟩, t3⟩ := tab8_at (k := (x / 256).toNat) (by omega)
    obtain ⟨t, et⟩ := Int.eq_ofNat_of_zero_le t1
    rw [et] at t2 t3 ⊢
    rw [Int.toNat_natCast] at t3
    rw [w64_id (x := (t : Int)) (by omega), show w64 (0 + 8) = 8 from rfl, w64_id (by omega)]
    refine ⟨8 + t, by omega, by omega, ?_⟩
    have : ((2 ^ t : Nat) : Int) ≤ ((2 * (x / 256).toNat : Nat) : Int) := Int.ofNat_le.2 t3
    rw [Int.natCast_pow, show ((2 : Nat) : Int) = 2 from rfl] at this
    rw [Int.pow_add]
    omega
theorem npot_side {length r1 : Int} (h : 1 ≤ length ∧ length < 65536) (hr : math_bits_Len (wu64 length) = r1) : 0 ≤ r1 := by
  subst hr
  unfold math_bits_Len
  rw [show wu64 length = length from IntWalk.u64_in _ (by omega)]
  obtain ⟨t, e, _⟩ := len_spec h
  simp only [e]
  omega
end Go.Srt
