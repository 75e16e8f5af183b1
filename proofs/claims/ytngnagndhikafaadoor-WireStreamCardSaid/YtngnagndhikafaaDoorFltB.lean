/- The bits of doubles: which products are numbers, the fields of a word. Conditions: in each theorem. -/
import Derived.Test.YtngnagndhikafaaDoorFlt
import Derived.Test.YtngnagndhikafaaDoorStrs
import Derived.Laws.FloatBits
namespace Go.Sky
open Go Go.Eng

theorem fkand_u64 {a b : Nat} (ha : a < 18446744073709551616) (hb : b < 18446744073709551616) : kand .u64 (a : Int) (b : Int) = ((a &&& b : Nat) : Int) := by
  have hx : a &&& b < 18446744073709551616 := Nat.lt_of_le_of_lt Nat.and_le_left ha
  have e : (BitVec.ofInt IntKind.u64.bits (a : Int) &&& BitVec.ofInt IntKind.u64.bits (b : Int)).toNat = a &&& b := by
    rw [BitVec.toNat_and, BitVec.ofInt_natCast, BitVec.ofInt_natCast, BitVec.toNat_ofNat, BitVec.toNat_ofNat]
    have hs : (2 : Nat) ^ IntKind.u64.bits = 18446744073709551616 := rfl
    rw [hs, Nat.mod_eq_of_lt ha, Nat.mod_eq_of_lt hb]
  unfold kand
  rw [e]
  exact wu64_id (by omega)
theorem fkor_u64 {a b : Nat} (ha : a < 18446744073709551616) (hb : b < 18446744073709551616) : kor .u64 (a : Int) (b : Int) = ((a ||| b : Nat) : Int) := by
  have hx : a ||| b < 18446744073709551616 := Nat.or_lt_two_pow (n := 64) ha hb
  have e : (BitVec.ofInt IntKind.u64.bits (a : Int) ||| BitVec.ofInt IntKind.u64.bits (b : Int)).toNat = a ||| b := by
    rw [BitVec.toNat_or, BitVec.ofInt_natCast, BitVec.ofInt_natCast, BitVec.toNat_ofNat, BitVec.toNat_ofNat]
    have hs : (2 : Nat) ^ IntKind.u64.bits = 18446744073709551616 := rfl
    rw [hs, Nat.mod_eq_of_lt ha, Nat.mod_eq_of_lt hb]
  unfold kor
  rw [e]
  exact wu64_id (by omega)
theorem fkandnot_u64 {a b : Nat} (ha : a < 18446744073709551616) (hb : b < 18446744073709551616) : kandnot .u64 (a : Int) (b : Int) = ((a &&& (18446744073709551615 - b) : Nat) : Int) := by
  have hx : a &&& (18446744073709551615 - b) < 18446744073709551616 := Nat.lt_of_le_of_lt Nat.and_le_left ha
  have e : (BitVec.ofInt IntKind.u64.bits (a : Int) &&& ~~~BitVec.ofInt IntKind.u64.bits (b : Int)).toNat = a &&& (18446744073709551615 - b) := by
    rw [BitVec.toNat_and, BitVec.toNat_not, BitVec.ofInt_natCast, BitVec.ofInt_natCast, BitVec.toNat_ofNat, BitVec.toNat_ofNat]
    have hs : (2 : Nat) ^ IntKind.u64.bits = 18446744073709551616 := rfl
    rw [hs, Nat.mod_eq_of_lt ha, Nat.mod_eq_of_lt hb]
  unfold kandnot
  rw [e]
  exact wu64_id (by omega)
theorem kandnot_bits (b : Int) (m : Int) : ∃ n : Nat, n < 18446744073709551616 ∧ kandnot .u64 b m = kandnot .u64 (n : Int) m := by
  refine ⟨(BitVec.ofInt 64 b).toNat, (BitVec.ofInt 64 b).isLt, ?_⟩
  unfold kandnot
  have : BitVec.ofInt IntKind.u64.bits (((BitVec.ofInt 64 b).toNat : Nat) : Int) = BitVec.ofInt IntKind.u64.bits b := by
    show BitVec.ofInt 64 _ = BitVec.ofInt 64 b
    rw [BitVec.ofInt_natCast, BitVec.ofNat_toNat, BitVec.setWidth_eq]
  rw [this]

/-- The magnitude of a word. -/
theorem andnot_sign {x : Nat} (h : x < 18446744073709551616) : kandnot .u64 (x : Int) 9223372036854775808 = ((x % 9223372036854775808 : Nat) : Int) := by
  have e := fkandnot_u64 (a := x) (b := 9223372036854775808) h (by decide)
  rw [show ((9223372036854775808 : Nat) : Int) = 9223372036854775808 from rfl] at e
  rw [e, show 18446744073709551615 - 9223372036854775808 = 2 ^ 63 - 1 by decide, Nat.and_two_pow_sub_one_eq_mod]

/-- A word without its exponent. -/
theorem andnot_exp {x : Nat} (h : x < 18446744073709551616) : kandnot .u64 (x : Int) 9218868437227405312 = ((x / 9223372036854775808 * 9223372036854775808 + x % 4503599627370496 : Nat) : Int) := by
  have e := fkandnot_u64 (a := x) (b := 9218868437227405312) h (by decide)
  rw [show ((9218868437227405312 : Nat) : Int) = 9218868437227405312 from rfl] at e
  rw [e]
  congr 1
  have h1 : 18446744073709551615 - 9218868437227405312 = 2 ^ 63 ||| (2 ^ 52 - 1) := by decide
  have h2 : x / 9223372036854775808 * 9223372036854775808 + x % 4503599627370496 = 2 ^ 63 * (x / 2 ^ 63) ||| x % 2 ^ 52 := by
    rw [← Nat.two_pow_add_eq_or_of_lt (by omega)]
    omega
  rw [h1, h2, Nat.and_or_distrib_left, Nat.and_two_pow_sub_one_eq_mod]
  congr 1
  apply Nat.eq_of_testBit_eq
  intro i
  rw [Nat.testBit_and, Nat.testBit_two_pow, Nat.testBit_two_pow_mul, Nat.testBit_div_two_pow]
  rcases Nat.lt_trichotomy i 63 with h3 | h3 | h3
  · simp [show ¬ 63 = i by omega, show ¬ i ≥ 63 by omega]
  · subst h3; simp
  · have h4 : x.testBit i = false := Nat.testBit_lt_two_pow (Nat.lt_of_lt_of_le h (by have := Nat.pow_le_pow_right (show 0 < 2 by decide) (show 64 ≤ i by omega); exact this))
    simp only [h4, Bool.false_and, show i - 63 + 63 = i by omega, Bool.and_false]

/-- A word with another exponent. -/
theorem or_exp {x e : Nat} (h : x < 18446744073709551616) (he : e < 2048) : kor .u64 (kandnot .u64 (x : Int) 9218868437227405312) (wu64 ((wu64 (e : Int)) * 2 ^ 52)) =
    ((x / 9223372036854775808 * 9223372036854775808 + e * 4503599627370496 + x % 4503599627370496 : Nat) : Int) := by
  rw [andnot_exp h, wu64_id (x := (e : Int)) (by omega)]
  have e1 : wu64 ((e : Int) * 2 ^ 52) = ((e * 4503599627370496 : Nat) : Int) := by rw [wu64_id (by omega)]; omega
  rw [e1, fkor_u64 (by omega) (by omega)]
  congr 1
  have h1 : x / 9223372036854775808 * 9223372036854775808 + x % 4503599627370496 = 2 ^ 63 * (x / 2 ^ 63) ||| x % 2 ^ 52 := by
    rw [← Nat.two_pow_add_eq_or_of_lt (by omega)]
    omega
  have h2 : 2 ^ 52 * e + x % 2 ^ 52 = 2 ^ 52 * e ||| x % 2 ^ 52 := Nat.two_pow_add_eq_or_of_lt (by omega) e
  have h3 : 2 ^ 63 * (x / 2 ^ 63) + (2 ^ 52 * e + x % 2 ^ 52) = 2 ^ 63 * (x / 2 ^ 63) ||| (2 ^ 52 * e + x % 2 ^ 52) := Nat.two_pow_add_eq_or_of_lt (by omega) _
  rw [h1, Nat.or_assoc, Nat.or_comm (x % 2 ^ 52), show e * 4503599627370496 = 2 ^ 52 * e from Nat.mul_comm e 4503599627370496, ← h2, ← h3]
  omega

theorem read_num {x : Nat} (h : x % 9223372036854775808 < 9218868437227405312) : ∃ s m p, FloatKind.f64.format.read x = .number s m p := by
  unfold Ieee.Format.read
  have e1 : FloatKind.f64.format.signWeight = 9223372036854775808 := rfl
  have e2 : FloatKind.f64.format.binade = 4503599627370496 := rfl
  have e3 : FloatKind.f64.format.infRung = 9218868437227405312 := rfl
  simp only [e1, e2, e3]
  by_cases h1 : x % 9223372036854775808 < 4503599627370496
  · rw [if_pos h1]; exact ⟨_, _, _, rfl⟩
  · rw [if_neg h1, if_pos h]; exact ⟨_, _, _, rfl⟩
theorem mul_some {x y : Nat} (hx : x % 9223372036854775808 < 9218868437227405312) (hy : y % 9223372036854775808 < 9218868437227405312) : (FloatKind.f64.format.mul x y).isSome = true := by
  obtain ⟨s, m, p, e1⟩ := read_num hx
  obtain ⟨s', m', p', e2⟩ := read_num hy
  unfold Ieee.Format.mul
  rw [e1, e2]; rfl
theorem dbl_lt (n : Int) : dbl n < 18446744073709551616 := FloatKind.f64.format.write_lt (.number (n < 0) n.natAbs 0)
theorem mul_lt' {x y : Nat} (h : (FloatKind.f64.format.mul x y).isSome = true) : fmul x y < 18446744073709551616 := by
  obtain ⟨r, hr⟩ := Option.isSome_iff_exists.1 h
  unfold fmul
  rw [hr]
  exact FloatKind.f64.format.mul_lt hr

/-- What is less than a number is one. -/
theorem lt_num {x : Nat} (h0 : x < 9223372036854775808) (h : flt x 4503599627370496 = true) : x < 9218868437227405312 := by
  rcases Nat.lt_or_ge x 9218868437227405312 with h1 | h1
  · exact h1
  · exfalso
    have e : FloatKind.f64.format.read x = .infinity false ∨ ∃ f, FloatKind.f64.format.read x = .nan false f := by
      unfold Ieee.Format.read
      have e1 : FloatKind.f64.format.signWeight = 9223372036854775808 := rfl
      have e2 : FloatKind.f64.format.binade = 4503599627370496 := rfl
      have e3 : FloatKind.f64.format.infRung = 9218868437227405312 := rfl
      simp only [e1, e2, e3]
      rw [Nat.mod_eq_of_lt h0, if_neg (by omega), if_neg (by omega), Nat.div_eq_of_lt h0]
      by_cases h2 : x = 9218868437227405312
      · rw [if_pos h2]; exact .inl rfl
      · rw [if_neg h2]; exact .inr ⟨_, rfl⟩
    obtain ⟨s', m', p', e2⟩ := read_num (x := 4503599627370496) (by decide)
    unfold flt fcm Ieee.Format.order at h
    rw [e2] at h
    rcases e with e | ⟨f, e⟩ <;> rw [e] at h <;> simp [Ieee.Datum.order] at h
theorem norm_some {x : Nat} (hx : x < 18446744073709551616) (h : flt (kandnot .u64 (x : Int) 9223372036854775808).toNat 4503599627370496 = true) : (FloatKind.f64.format.mul x 4841369599423283200).isSome = true := by
  rw [andnot_sign hx, Int.toNat_natCast] at h
  exact mul_some (lt_num (by omega) h) (by decide)

theorem ld_field (b : Int) {e : Int} (h : 1 ≤ e ∧ e ≤ 2046) : (kor .u64 (kandnot .u64 b 9218868437227405312) (wu64 ((wu64 e) * 2 ^ 52))).toNat % 9223372036854775808 < 9218868437227405312 := by
  obtain ⟨n, hn, hb⟩ := kandnot_bits b 9218868437227405312
  obtain ⟨k, rfl⟩ : ∃ k : Nat, e = (k : Int) := ⟨e.toNat, by omega⟩
  rw [hb, or_exp hn (by omega), Int.toNat_natCast]
  omega
theorem ld_some {m : Nat} (hm : m = 4368491638549381120 ∨ m = 4607182418800017408) (b : Int) {e : Int} (h : 1 ≤ e ∧ e ≤ 2046) : (FloatKind.f64.format.mul m (kor .u64 (kandnot .u64 b 9218868437227405312) (wu64 ((wu64 e) * 2 ^ 52))).toNat).isSome = true :=
  mul_some (by rcases hm with rfl | rfl <;> decide) (ld_field b h)
theorem ld_den {X : Int} (h1 : -1075 ≤ X) (h2 : X < -1022) : 1 ≤ w64 (w64 (X + 53) + 1023) ∧ w64 (w64 (X + 53) + 1023) ≤ 2046 := by
  rw [w64_id (x := X + 53) (by omega), w64_id (by omega)]; omega
theorem ld_nor {X : Int} (h1 : -1022 ≤ X) (h2 : X ≤ 1023) : 1 ≤ w64 (X + 1023) ∧ w64 (X + 1023) ≤ 2046 := by
  rw [w64_id (by omega)]; omega
end Go.Sky
