/- The library's count of the bits of a number below 65536, in plain Lean. Conditions: none. -/
import Derived.Test.YtbhemgagabdjkaaWc
import Derived.Test.YtbhemgagabdjkaaNum
import Derived.KernelRfl
namespace Go.Sky
open Go Go.Eng
/-- The bits of a number, counted one by one. -/
def pcN : Nat → Nat → Nat
  | 0, _ => 0
  | k + 1, n => n % 2 + pcN k (n / 2)
/-- .. and as the library counts them. -/
def swar (n : Nat) : Nat :=
  let a := (n / 2 &&& 6148914691236517205) + (n &&& 6148914691236517205)
  let b := (a / 4 &&& 3689348814741910323) + (a &&& 3689348814741910323)
  let c := (b / 16 + b) &&& 1085102592571150095
  let d := c + c / 256
  let e := d + d / 65536
  (e + e / 4294967296) &&& 127
def swarOk (h : Nat) : Nat → Bool
  | 0 => true
  | n + 1 => Nat.beq (swar (h + n)) (pcN 16 (h + n)) && swarOk h n
theorem swar_0 : swarOk 0 4096 = true := by kernel_rfl
theorem swar_1 : swarOk 4096 4096 = true := by kernel_rfl
theorem swar_2 : swarOk 8192 4096 = true := by kernel_rfl
theorem swar_3 : swarOk 12288 4096 = true := by kernel_rfl
theorem swar_4 : swarOk 16384 4096 = true := by kernel_rfl
theorem swar_5 : swarOk 20480 4096 = true := by kernel_rfl
theorem swar_6 : swarOk 24576 4096 = true := by kernel_rfl
theorem swar_7 : swarOk 28672 4096 = true := by kernel_rfl
theorem swar_8 : swarOk 32768 4096 = true := by kernel_rfl
theorem swar_9 : swarOk 36864 4096 = true := by kernel_rfl
theorem swar_10 : swarOk 40960 4096 = true := by kernel_rfl
theorem swar_11 : swarOk 45056 4096 = true := by kernel_rfl
theorem swar_12 : swarOk 49152 4096 = true := by kernel_rfl
theorem swar_13 : swarOk 53248 4096 = true := by kernel_rfl
theorem swar_14 : swarOk 57344 4096 = true := by kernel_rfl
theorem swar_15 : swarOk 61440 4096 = true := by kernel_rfl
theorem swarOk_spec (h : Nat) : ∀ n, swarOk h n = true → ∀ i, i < n → swar (h + i) = pcN 16 (h + i)
  | 0, _, i, hi => absurd hi (Nat.not_lt_zero _)
  | n + 1, hk, i, hi => by
    simp only [swarOk, Bool.and_eq_true] at hk
    rcases Nat.lt_or_ge i n with h1 | h1
    · exact swarOk_spec h n hk.2 i h1
    · rw [show i = n by omega]; exact Nat.eq_of_beq_eq_true hk.1
theorem swar_all {n : Nat} (h : n < 65536) : swar n = pcN 16 n := by
  have key : ∀ q, swarOk (4096 * q) 4096 = true → n / 4096 = q → swar n = pcN 16 n := fun q hq e => by
    have := swarOk_spec _ _ hq (n % 4096) (Nat.mod_lt _ (by decide))
    rwa [show 4096 * q + n % 4096 = n by omega] at this
  have hq : n / 4096 < 16 := by omega
  match h2 : n / 4096, hq with
  | 0, _ => exact key 0 swar_0 h2
  | 1, _ => exact key 1 swar_1 h2
  | 2, _ => exact key 2 swar_2 h2
  | 3, _ => exact key 3 swar_3 h2
  | 4, _ => exact key 4 swar_4 h2
  | 5, _ => exact key 5 swar_5 h2
  | 6, _ => exact key 6 swar_6 h2
  | 7, _ => exact key 7 swar_7 h2
  | 8, _ => exact key 8 swar_8 h2
  | 9, _ => exact key 9 swar_9 h2
  | 10, _ => exact key 10 swar_10 h2
  | 11, _ => exact key 11 swar_11 h2
  | 12, _ => exact key 12 swar_12 h2
  | 13, _ => exact key 13 swar_13 h2
  | 14, _ => exact key 14 swar_14 h2
  | 15, _ => exact key 15 swar_15 h2
  | k + 16, hq => exact absurd hq (by omega)

theorem kand_nat {a b : Nat} (ha : a < 18446744073709551616) (hb : b < 9223372036854775808) : kand .u64 (a : Int) (b : Int) = ((a &&& b : Nat) : Int) := by
  have hs : (2 : Nat) ^ IntKind.u64.bits = 18446744073709551616 := rfl
  have e : (BitVec.ofInt IntKind.u64.bits (a : Int) &&& BitVec.ofInt IntKind.u64.bits (b : Int)).toNat = a &&& b := by
    rw [BitVec.toNat_and, BitVec.ofInt_natCast, BitVec.ofInt_natCast, BitVec.toNat_ofNat, BitVec.toNat_ofNat, hs, Nat.mod_eq_of_lt ha, Nat.mod_eq_of_lt (by omega)]
  have hle : a &&& b ≤ b := Nat.and_le_right
  unfold kand
  rw [e, IntKind.wrap_u64]
  omega
theorem kand_nat64 {a b : Nat} (ha : a < 9223372036854775808) (hb : b < 9223372036854775808) : kand .i64 (a : Int) (b : Int) = ((a &&& b : Nat) : Int) := by
  have hs : (2 : Nat) ^ IntKind.i64.bits = 18446744073709551616 := rfl
  have e : (BitVec.ofInt IntKind.i64.bits (a : Int) &&& BitVec.ofInt IntKind.i64.bits (b : Int)).toNat = a &&& b := by
    rw [BitVec.toNat_and, BitVec.ofInt_natCast, BitVec.ofInt_natCast, BitVec.toNat_ofNat, BitVec.toNat_ofNat, hs, Nat.mod_eq_of_lt (by omega), Nat.mod_eq_of_lt (by omega)]
  have hle : a &&& b ≤ b := Nat.and_le_right
  unfold kand
  rw [e]
  exact w64_id (by omega)
theorem fdiv_nat (a b : Nat) : (a : Int).fdiv (b : Int) = ((a / b : Nat) : Int) := by
  rw [Int.fdiv_eq_ediv_of_nonneg _ (by omega)]; rfl
theorem wu64_nat' {n : Nat} (h : n < 18446744073709551616) : wu64 (n : Int) = (n : Int) := by
  unfold wu64; rw [IntKind.wrap_u64]; omega

theorem ones_swar {n : Nat} (h : n < 65536) : math_bits_OnesCount (n : Int) = (swar n : Int) := by
  have c1 : (6148914691236517205 : Int) = ((6148914691236517205 : Nat) : Int) := rfl
  have c2 : (3689348814741910323 : Int) = ((3689348814741910323 : Nat) : Int) := rfl
  have c3 : (1085102592571150095 : Int) = ((1085102592571150095 : Nat) : Int) := rfl
  have c4 : (127 : Int) = ((127 : Nat) : Int) := rfl
  have p1 : (2 : Int) ^ 1 = ((2 : Nat) : Int) := rfl
  have p2 : (2 : Int) ^ 2 = ((4 : Nat) : Int) := rfl
  have p4 : (2 : Int) ^ 4 = ((16 : Nat) : Int) := rfl
  have p8 : (2 : Int) ^ 8 = ((256 : Nat) : Int) := rfl
  have p16 : (2 : Int) ^ 16 = ((65536 : Nat) : Int) := rfl
  have p32 : (2 : Int) ^ 32 = ((4294967296 : Nat) : Int) := rfl
  have a1 : n / 2 &&& 6148914691236517205 ≤ 6148914691236517205 := Nat.and_le_right
  have a2 : n &&& 6148914691236517205 ≤ 6148914691236517205 := Nat.and_le_right
  obtain ⟨a, ha⟩ : ∃ a, a = (n / 2 &&& 6148914691236517205) + (n &&& 6148914691236517205) := ⟨_, rfl⟩
  have b1 : a / 4 &&& 3689348814741910323 ≤ 3689348814741910323 := Nat.and_le_right
  have b2 : a &&& 3689348814741910323 ≤ 3689348814741910323 := Nat.and_le_right
  obtain ⟨b, hb⟩ : ∃ b, b = (a / 4 &&& 3689348814741910323) + (a &&& 3689348814741910323) := ⟨_, rfl⟩
  have d1 : (b / 16 + b) &&& 1085102592571150095 ≤ 1085102592571150095 := Nat.and_le_right
  obtain ⟨c, hc⟩ : ∃ c, c = (b / 16 + b) &&& 1085102592571150095 := ⟨_, rfl⟩
  obtain ⟨d, hd⟩ : ∃ d, d = c + c / 256 := ⟨_, rfl⟩
  obtain ⟨e, he⟩ : ∃ e, e = d + d / 65536 := ⟨_, rfl⟩
  have hsw : swar n = (e + e / 4294967296) &&& 127 := by subst he; subst hd; subst hc; subst hb; subst ha; rfl
  unfold math_bits_OnesCount
  simp only
  unfold math_bits_OnesCount64
  have ea : wu64 ((kand .u64 ((n : Int).fdiv (2 ^ 1)) 6148914691236517205) + (kand .u64 (n : Int) 6148914691236517205)) = (a : Int) := by
    rw [p1, fdiv_nat, c1, kand_nat (by omega) (by omega), kand_nat (by omega) (by omega), ← Int.natCast_add, wu64_nat' (by omega), ha]
  have eb : wu64 ((kand .u64 ((a : Int).fdiv (2 ^ 2)) 3689348814741910323) + (kand .u64 (a : Int) 3689348814741910323)) = (b : Int) := by
    rw [p2, fdiv_nat, c2, kand_nat (by omega) (by omega), kand_nat (by omega) (by omega), ← Int.natCast_add, wu64_nat' (by omega), hb]
  have ec : kand .u64 (wu64 (((b : Int).fdiv (2 ^ 4)) + (b : Int))) 1085102592571150095 = (c : Int) := by
    rw [p4, fdiv_nat, ← Int.natCast_add, wu64_nat' (by omega), c3, kand_nat (by omega) (by omega), hc]
  have ed : wu64 ((c : Int) + ((c : Int).fdiv (2 ^ 8))) = (d : Int) := by
    rw [p8, fdiv_nat, ← Int.natCast_add, wu64_nat' (by omega), hd]
  have ee : wu64 ((d : Int) + ((d : Int).fdiv (2 ^ 16))) = (e : Int) := by
    rw [p16, fdiv_nat, ← Int.natCast_add, wu64_nat' (by omega), he]
  simp only [ea, eb, ec, ed, ee]
  rw [p32, fdiv_nat, ← Int.natCast_add, wu64_nat' (by omega), w64_id (by omega), c4, kand_nat64 (by omega) (by omega), hsw]
end Go.Sky
