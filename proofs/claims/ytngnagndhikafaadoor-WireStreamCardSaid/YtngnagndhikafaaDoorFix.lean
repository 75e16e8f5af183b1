/- Doubles by their fields: order, exact products, Ldexp. Conditions: in each theorem. -/
import Derived.Test.YtngnagndhikafaaDoorFa
namespace Go.Sky
open Go Go.Eng

abbrev D := FloatKind.f64.format
theorem d_sign : D.signWeight = 9223372036854775808 := rfl
theorem d_bin : D.binade = 4503599627370496 := rfl
theorem d_inf : D.infRung = 9218868437227405312 := rfl
theorem d_least : D.leastPlace = -1074 := rfl
theorem d_frac : D.fractionBits = 52 := rfl

/-- A word by its sign, exponent and fraction. -/
def wd (s : Bool) (E F : Nat) : Nat := s.toNat * 9223372036854775808 + E * 4503599627370496 + F
theorem wd_lt {s : Bool} {E F : Nat} (hE : E ≤ 2046) (hF : F < 4503599627370496) : wd s E F < 18446744073709551616 := by
  unfold wd; cases s <;> simp <;> omega
theorem read_wd {s : Bool} {E F : Nat} (h1 : 1 ≤ E) (h2 : E ≤ 2046) (hF : F < 4503599627370496) : D.read (wd s E F) = .number s (4503599627370496 + F) ((E : Int) - 1075) := by
  have hm : wd s E F % 9223372036854775808 = E * 4503599627370496 + F := by unfold wd; cases s <;> simp <;> omega
  have hd : wd s E F / 9223372036854775808 % 2 = s.toNat := by unfold wd; cases s <;> simp <;> omega
  unfold Ieee.Format.read
  simp only [d_sign, d_bin, d_inf, d_least, hm, hd]
  rw [if_neg (by omega), if_pos (by omega)]
  have e1 : (E * 4503599627370496 + F) / 4503599627370496 = E := by omega
  have e2 : (E * 4503599627370496 + F) % 4503599627370496 = F := by omega
  rw [e1, e2]
  congr 1
  · cases s <;> rfl
  · omega
theorem read_zero : D.read 0 = .number false 0 (-1074) := by
  unfold Ieee.Format.read
  simp only [d_sign, d_bin, d_inf, d_least]
  rfl

theorem cmp_self (a : Int) : compare a a = Ordering.eq := by
  show compareOfLessAndEq a a = _
  unfold compareOfLessAndEq
  rw [if_neg (by omega), if_pos rfl]
theorem cmp_lt {a b : Int} (h : a < b) : compare a b = Ordering.lt := by
  show compareOfLessAndEq a b = _
  unfold compareOfLessAndEq
  rw [if_pos h]
theorem cmp_gt {a b : Int} (h : b < a) : compare a b = Ordering.gt := by
  show compareOfLessAndEq a b = _
  unfold compareOfLessAndEq
  rw [if_neg (by omega), if_neg (by omega)]
theorem cmp_ge {a b : Int} (h : b ≤ a) : compare a b ≠ Ordering.lt := by
  rcases Int.lt_or_eq_of_le h with h1 | h1
  · rw [cmp_gt h1]; decide
  · rw [h1, cmp_self]; decide
theorem cmp_le {a b : Int} (h : a ≤ b) : compare a b ≠ Ordering.gt := by
  rcases Int.lt_or_eq_of_le h with h1 | h1
  · rw [cmp_lt h1]; decide
  · rw [h1, cmp_self]; decide

theorem sg_f (m k : Nat) : Ieee.signed false m k = ((m <<< k : Nat) : Int) := rfl
theorem sg_t (m k : Nat) : Ieee.signed true m k = -((m <<< k : Nat) : Int) := rfl
theorem sg_z (k : Nat) : Ieee.signed false 0 k = 0 := by rw [sg_f, Nat.zero_shiftLeft]; rfl
theorem shl_pos (m k : Nat) : m ≤ m <<< k := by
  rw [Nat.shiftLeft_eq]; exact Nat.le_mul_of_pos_right _ (Nat.two_pow_pos k)
theorem feq_zero {s : Bool} {E F : Nat} (h1 : 1 ≤ E) (h2 : E ≤ 2046) (hF : F < 4503599627370496) : feq (wd s E F) 0 = false := by
  unfold feq fcm Ieee.Format.order
  rw [read_wd h1 h2 hF, read_zero]
  unfold Ieee.Datum.order
  simp only
  have hk := shl_pos (4503599627370496 + F) ((E : Int) - 1075 - min ((E : Int) - 1075) (-1074)).toNat
  rw [sg_z]
  cases s
  · rw [sg_f, cmp_gt (by omega)]; rfl
  · rw [sg_t, cmp_lt (by omega)]; rfl
theorem fne_self {s : Bool} {E F : Nat} (h1 : 1 ≤ E) (h2 : E ≤ 2046) (hF : F < 4503599627370496) : fne (wd s E F) (wd s E F) = false := by
  unfold fne fcm Ieee.Format.order
  rw [read_wd h1 h2 hF]
  unfold Ieee.Datum.order
  simp only
  rw [cmp_self]
  rfl
/-- No number is above the greatest. -/
theorem fgt_max {E F : Nat} (h1 : 1 ≤ E) (h2 : E ≤ 2046) (hF : F < 4503599627370496) : fgt (wd false E F) 9218868437227405311 = false := by
  have e : (9218868437227405311 : Nat) = wd false 2046 4503599627370495 := rfl
  unfold fgt fcm Ieee.Format.order
  rw [e, read_wd h1 h2 hF, read_wd (by decide) (by decide) (by decide)]
  unfold Ieee.Datum.order
  simp only
  rw [sg_f, sg_f, show min ((E : Int) - 1075) (((2046 : Nat) : Int) - 1075) = (E : Int) - 1075 by omega, Int.sub_self, show ((0 : Int).toNat) = 0 from rfl, Nat.shiftLeft_zero]
  have hk := shl_pos (4503599627370496 + 4503599627370495) (((2046 : Nat) : Int) - 1075 - ((E : Int) - 1075)).toNat
  have := cmp_le (a := ((4503599627370496 + F : Nat) : Int)) (b := (((4503599627370496 + 4503599627370495) <<< (((2046 : Nat) : Int) - 1075 - ((E : Int) - 1075)).toNat : Nat) : Int)) (by omega)
  cases hc : compare ((4503599627370496 + F : Nat) : Int) (((4503599627370496 + 4503599627370495) <<< (((2046 : Nat) : Int) - 1075 - ((E : Int) - 1075)).toNat : Nat) : Int)
  · rfl
  · rfl
  · exact absurd hc this
/-- None is below the least that is normal. -/
theorem flt_min {E F : Nat} (h1 : 1 ≤ E) (h2 : E ≤ 2046) (hF : F < 4503599627370496) : flt (wd false E F) 4503599627370496 = false := by
  have e : (4503599627370496 : Nat) = wd false 1 0 := rfl
  unfold flt fcm Ieee.Format.order
  rw [show D.read 4503599627370496 = .number false (4503599627370496 + 0) (((1 : Nat) : Int) - 1075) from by rw [e]; exact read_wd (by decide) (by decide) (by decide), read_wd h1 h2 hF]
  unfold Ieee.Datum.order
  simp only
  rw [sg_f, sg_f, show min ((E : Int) - 1075) (((1 : Nat) : Int) - 1075) = ((1 : Nat) : Int) - 1075 by omega, Int.sub_self, show ((0 : Int).toNat) = 0 from rfl, Nat.shiftLeft_zero]
  have hk := shl_pos (4503599627370496 + F) ((E : Int) - 1075 - (((1 : Nat) : Int) - 1075)).toNat
  have := cmp_ge (a := (((4503599627370496 + F) <<< ((E : Int) - 1075 - (((1 : Nat) : Int) - 1075)).toNat : Nat) : Int)) (b := ((4503599627370496 + 0 : Nat) : Int)) (by omega)
  cases hc : compare (((4503599627370496 + F) <<< ((E : Int) - 1075 - (((1 : Nat) : Int) - 1075)).toNat : Nat) : Int) ((4503599627370496 + 0 : Nat) : Int)
  · exact absurd hc this
  · rfl
  · rfl

theorem log2_of {m k : Nat} (h1 : 2 ^ k ≤ m) (h2 : m < 2 ^ (k + 1)) : m.log2 = k := by
  have h0 : m ≠ 0 := by have := Nat.two_pow_pos k; omega
  have a := (Nat.le_log2 h0).2 h1
  have b := (Nat.log2_lt h0).2 h2
  omega

/-- A number that the format has is written as it is. -/
theorem nearest_same {s : Bool} {M : Nat} {p : Int} {E F : Nat} (h1 : 1 ≤ E) (h2 : E ≤ 2046) (hF : F < 4503599627370496) (hM : M = 4503599627370496 * (4503599627370496 + F)) (hp : p = (E : Int) - 1075 - 52) : D.nearest s M p = wd s E F := by
  have hl : M.log2 = 104 := log2_of (by rw [hM]; omega) (by rw [hM]; omega)
  unfold Ieee.Format.nearest
  rw [if_neg (by omega)]
  simp only [hl, d_frac, d_least, d_bin, d_inf]
  rw [show max (p + ((104 : Nat) : Int) - ((52 : Nat) : Int)) (-1074) = (E : Int) - 1075 by omega]
  rw [show (p - ((E : Int) - 1075)).toNat = 0 by omega, show ((E : Int) - 1075 - p).toNat = 52 by omega, show ((E : Int) - 1075 - -1074).toNat = E - 1 by omega, Nat.shiftLeft_zero]
  have hc : Ieee.Toward.even.cut s M 52 = 4503599627370496 + F := by
    unfold Ieee.Toward.cut
    rw [hl, show min 52 (104 + 2) = 52 from rfl]
    have hg : 1 <<< 52 = 4503599627370496 := rfl
    simp only [hg]
    have hq : M / 4503599627370496 = 4503599627370496 + F := by rw [hM]; exact Nat.mul_div_cancel_left _ (by decide)
    have hr : M % 4503599627370496 = 0 := by rw [hM]; exact Nat.mul_mod_right _ _
    rw [hq, hr]
    simp
  rw [hc]
  unfold Ieee.Format.word wd
  rw [d_sign]
  cases s <;> simp <;> omega

theorem one_times {s : Bool} {E F : Nat} (h1 : 1 ≤ E) (h2 : E ≤ 2046) (hF : F < 4503599627370496) : fmul 4607182418800017408 (wd s E F) = wd s E F := by
  have e : (4607182418800017408 : Nat) = wd false 1023 0 := rfl
  unfold fmul Ieee.Format.mul
  rw [show D.read 4607182418800017408 = .number false (4503599627370496 + 0) (((1023 : Nat) : Int) - 1075) from by rw [e]; exact read_wd (by decide) (by decide) (by decide), read_wd h1 h2 hF]
  unfold Ieee.Datum.product
  simp only [Option.map_some, Option.getD_some, Bool.false_xor, Nat.add_zero]
  exact nearest_same h1 h2 hF rfl (by omega)
end Go.Sky
