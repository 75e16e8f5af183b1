/- The double nearest to a number, and FromFixed of it. Conditions: in each theorem. -/
import Derived.Test.YtjopamopbpggiaaFixB
namespace Go.Sky
open Go Go.Eng

/-- The digits that are kept of a, whose highest has number L: 53 of them, rounded to the nearest, ties to even (2^53 if that carries). -/
def kp (a L : Nat) : Nat := if L ≤ 52 then a * 2 ^ (52 - L) else a / 2 ^ (L - 52) + (if 2 ^ (L - 52) < 2 * (a % 2 ^ (L - 52)) ∨ 2 ^ (L - 52) = 2 * (a % 2 ^ (L - 52)) ∧ a / 2 ^ (L - 52) % 2 = 1 then 1 else 0)
/-- The word of the double nearest to n / 2^scale. -/
def dblW (n : Int) (scale : Nat) : Nat :=
  if n = 0 then 0
  else if kp n.natAbs n.natAbs.log2 < 9007199254740992 then wd (decide (n < 0)) (n.natAbs.log2 + 1023 - scale) (kp n.natAbs n.natAbs.log2 - 4503599627370496)
  else wd (decide (n < 0)) (n.natAbs.log2 + 1024 - scale) 0

theorem kp_in {a L : Nat} (h1 : 2 ^ L ≤ a) (h2 : a < 2 ^ (L + 1)) (hL : L ≤ 64) : 4503599627370496 ≤ kp a L ∧ kp a L ≤ 9007199254740992 := by
  unfold kp
  split
  · rename_i h
    have e : (2 : Nat) ^ L * 2 ^ (52 - L) = 4503599627370496 := by rw [← Nat.pow_add, show L + (52 - L) = 52 by omega]
    have e2 : (2 : Nat) ^ (L + 1) * 2 ^ (52 - L) = 9007199254740992 := by rw [← Nat.pow_add, show L + 1 + (52 - L) = 53 by omega]
    have a1 := Nat.mul_le_mul_right (2 ^ (52 - L)) h1
    have a2 := Nat.mul_lt_mul_of_pos_right h2 (Nat.two_pow_pos (52 - L))
    omega
  · rename_i h
    have e : (2 : Nat) ^ L = 4503599627370496 * 2 ^ (L - 52) := by rw [show (4503599627370496 : Nat) = 2 ^ 52 from rfl, ← Nat.pow_add]; congr 1; omega
    have e2 : (2 : Nat) ^ (L + 1) = 9007199254740992 * 2 ^ (L - 52) := by rw [show (9007199254740992 : Nat) = 2 ^ 53 from rfl, ← Nat.pow_add]; congr 1; omega
    have p := Nat.two_pow_pos (L - 52)
    have a1 : 4503599627370496 ≤ a / 2 ^ (L - 52) := (Nat.le_div_iff_mul_le p).2 (by omega)
    have a2 : a / 2 ^ (L - 52) < 9007199254740992 := (Nat.div_lt_iff_lt_mul p).2 (by omega)
    split <;> omega

theorem nearest_kp (s : Bool) {a L : Nat} (h1 : 2 ^ L ≤ a) (h2 : a < 2 ^ (L + 1)) (hL : L ≤ 64) : D.nearest s a 0 = s.toNat * 9223372036854775808 + (L + 1022) * 4503599627370496 + kp a L := by
  have hl := log2_of h1 h2
  have h0 : 0 < a := by have := Nat.two_pow_pos L; omega
  have hin := kp_in h1 h2 hL
  unfold Ieee.Format.nearest
  rw [if_neg (by omega)]
  simp only [hl, d_frac, d_least, d_bin, d_inf]
  rw [show max (0 + (L : Int) - ((52 : Nat) : Int)) (-1074) = (L : Int) - 52 by omega, show ((L : Int) - 52 - -1074).toNat = L + 1022 by omega, Nat.shiftLeft_eq]
  have hc : Ieee.Toward.even.cut s (a * 2 ^ (0 - ((L : Int) - 52)).toNat) ((L : Int) - 52 - 0).toNat = kp a L := by
    unfold kp
    split
    · rename_i h
      rw [show (0 - ((L : Int) - 52)).toNat = 52 - L by omega, show ((L : Int) - 52 - 0).toNat = 0 by omega]
      unfold Ieee.Toward.cut
      rw [Nat.zero_min]
      simp [Nat.mod_one]
    · rename_i h
      rw [show (0 - ((L : Int) - 52)).toNat = 0 by omega, show ((L : Int) - 52 - 0).toNat = L - 52 by omega, Nat.pow_zero, Nat.mul_one]
      unfold Ieee.Toward.cut
      rw [hl, Nat.min_eq_left (by omega), Nat.one_shiftLeft]
      simp only
      congr 1
      by_cases c1 : 2 ^ (L - 52) < 2 * (a % 2 ^ (L - 52))
      · simp [c1]
      · by_cases c2 : 2 ^ (L - 52) = 2 * (a % 2 ^ (L - 52))
        · by_cases c3 : a / 2 ^ (L - 52) % 2 = 1
          · simp [← c2, c3]
          · simp [← c2, c3]
        · simp [c1, c2]
  rw [hc]
  unfold Ieee.Format.word
  rw [d_sign, Nat.min_eq_left (by omega)]
  cases s <;> simp <;> omega

theorem dbl_any {n : Int} (h0 : n ≠ 0) (hn : -9223372036854775808 ≤ n ∧ n ≤ 9223372036854775807) : ∃ E F, dbl n = wd (decide (n < 0)) E F ∧ 1023 ≤ E ∧ E ≤ 1088 ∧ F < 4503599627370496 ∧ ∀ scale, scale ≤ 60 → dblW n scale = wd (decide (n < 0)) (E - scale) F := by
  have ha : n.natAbs ≠ 0 := by omega
  have h1 : 2 ^ n.natAbs.log2 ≤ n.natAbs := (Nat.le_log2 ha).1 (Nat.le_refl _)
  have h2 : n.natAbs < 2 ^ (n.natAbs.log2 + 1) := (Nat.log2_lt ha).1 (Nat.lt_succ_self _)
  have h3 : n.natAbs.log2 ≤ 63 := by
    have : n.natAbs.log2 < 64 := (Nat.log2_lt ha).2 (by have e : (2 : Nat) ^ 64 = 18446744073709551616 := rfl; omega)
    omega
  have hin := kp_in h1 h2 (by omega)
  have e : dbl n = (decide (n < 0)).toNat * 9223372036854775808 + (n.natAbs.log2 + 1022) * 4503599627370496 + kp n.natAbs n.natAbs.log2 := nearest_kp _ h1 h2 (by omega)
  by_cases hk : kp n.natAbs n.natAbs.log2 < 9007199254740992
  · refine ⟨n.natAbs.log2 + 1023, kp n.natAbs n.natAbs.log2 - 4503599627370496, by rw [e]; unfold wd; omega, by omega, by omega, by omega, fun scale hs => ?_⟩
    unfold dblW
    rw [if_neg h0, if_pos hk]
  · refine ⟨n.natAbs.log2 + 1024, 0, by rw [e]; unfold wd; omega, by omega, by omega, by omega, fun scale hs => ?_⟩
    unfold dblW
    rw [if_neg h0, if_neg hk]

theorem from_any {n : Int} {scale : Nat} (hn : -9223372036854775808 ≤ n ∧ n ≤ 9223372036854775807) (hs : scale ≤ 60) : bits_FromFixed n (scale : Int) = (((dblW n scale : Nat) : Int), 0) := by
  unfold bits_FromFixed math_Ldexp
  rw [show (decide ((scale : Int) < 0) || decide ((scale : Int) > 60)) = false by rw [decide_eq_false (by omega), decide_eq_false (by omega)]; rfl, cond_false]
  simp only
  rw [w64_id (x := 0 - (scale : Int)) (by omega)]
  by_cases h0 : n = 0
  · subst h0
    have e : dblW 0 scale = 0 := rfl
    have e2 : dbl 0 = 0 := by kernel_rfl
    rw [e, e2]
    unfold math_ldexp
    rw [show feq 0 0 = true by kernel_rfl, cond_true]
  · obtain ⟨E, F, e, b1, b2, b3, b4⟩ := dbl_any h0 hn
    rw [e, ldexp_wd _ (by omega) (by omega) b3 (by omega) (by omega), b4 scale hs]
    rw [show ((E : Int) + (0 - (scale : Int))).toNat = E - scale by omega]
end Go.Sky
