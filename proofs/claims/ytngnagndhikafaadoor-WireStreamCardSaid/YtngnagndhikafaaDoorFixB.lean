/- Ldexp of normal doubles; FromFixed and ToFixed of small numbers. Conditions: in each theorem. -/
import Derived.Test.YtngnagndhikafaaDoorFix
import Derived.Test.YtngnagndhikafaaDoorFc
namespace Go.Sky
open Go Go.Eng

theorem fkand_i64 {a b : Nat} (ha : a < 9223372036854775808) (hb : b < 9223372036854775808) : kand .i64 (a : Int) (b : Int) = ((a &&& b : Nat) : Int) := by
  have hx : a &&& b ≤ a := Nat.and_le_left
  have e : (BitVec.ofInt IntKind.i64.bits (a : Int) &&& BitVec.ofInt IntKind.i64.bits (b : Int)).toNat = a &&& b := by
    rw [BitVec.toNat_and, BitVec.ofInt_natCast, BitVec.ofInt_natCast, BitVec.toNat_ofNat, BitVec.toNat_ofNat]
    have hs : (2 : Nat) ^ IntKind.i64.bits = 18446744073709551616 := rfl
    rw [hs, Nat.mod_eq_of_lt (by omega), Nat.mod_eq_of_lt (by omega)]
  unfold kand
  rw [e]
  exact w64_id (by omega)
theorem wd_parts (s : Bool) {E F : Nat} (h2 : E ≤ 2046) (hF : F < 4503599627370496) : wd s E F / 9223372036854775808 = s.toNat ∧ wd s E F % 9223372036854775808 = wd false E F ∧ wd s E F / 4503599627370496 = s.toNat * 2048 + E ∧ wd s E F % 4503599627370496 = F := by
  unfold wd; cases s <;> simp <;> omega
theorem wd_exp (s : Bool) {E F : Nat} (h2 : E ≤ 2046) (hF : F < 4503599627370496) : ((wd s E F : Nat) : Int).fdiv (2 ^ 52) = ((s.toNat * 2048 + E : Nat) : Int) := by
  rw [Int.fdiv_eq_ediv_of_nonneg _ (by decide), show (2 : Int) ^ 52 = ((4503599627370496 : Nat) : Int) from rfl, ← Int.natCast_ediv, (wd_parts s h2 hF).2.2.1]
theorem and_2047 (s : Bool) {E : Nat} (h2 : E ≤ 2046) : (s.toNat * 2048 + E) &&& 2047 = E := by
  rw [show (2047 : Nat) = 2 ^ 11 - 1 from rfl, Nat.and_two_pow_sub_one_eq_mod]
  cases s <;> simp <;> omega

theorem abs_wd (s : Bool) {E F : Nat} (h2 : E ≤ 2046) (hF : F < 4503599627370496) : math_Abs (wd s E F) = wd false E F := by
  unfold math_Abs
  rw [andnot_sign (wd_lt h2 hF), (wd_parts s h2 hF).2.1]; rfl
theorem ldexp_wd (s : Bool) {E F : Nat} {e : Int} (h1 : 1 ≤ E) (h2 : E ≤ 2046) (hF : F < 4503599627370496) (he : 1 ≤ (E : Int) + e) (he2 : (E : Int) + e ≤ 2046) : math_ldexp (wd s E F) e = wd s ((E : Int) + e).toNat F := by
  unfold math_ldexp
  rw [feq_zero h1 h2 hF, cond_false]
  have hi : math_IsInf (wd s E F) 0 = false := by
    unfold math_IsInf
    rw [show ((0 : Int) == 0) = true from rfl, cond_true]
    simp only
    rw [abs_wd s h2 hF]
    exact fgt_max h1 h2 hF
  have hnan : math_IsNaN (wd s E F) = false := fne_self h1 h2 hF
  have hnorm : math_normalize (wd s E F) = (wd s E F, 0) := by
    unfold math_normalize
    simp only
    rw [abs_wd s h2 hF, flt_min h1 h2 hF, cond_false]
  simp only
  rw [hi, cond_false, hnan, cond_false, hnorm]
  simp only
  have hx : w64 ((w64 (e + 0)) + (w64 ((kand .i64 (w64 (((wd s E F : Nat) : Int).fdiv (2 ^ 52))) 2047) - 1023))) = (E : Int) + e - 1023 := by
    rw [wd_exp s h2 hF, w64_id (x := ((s.toNat * 2048 + E : Nat) : Int)) (by cases s <;> simp <;> omega)]
    have := fkand_i64 (a := s.toNat * 2048 + E) (b := 2047) (by cases s <;> simp <;> omega) (by decide)
    rw [show ((2047 : Nat) : Int) = 2047 from rfl, and_2047 s h2] at this
    rw [this, w64_id (x := (E : Int) - 1023) (by omega), w64_id (x := e + 0) (by omega), w64_id (by omega)]
    omega
  rw [hx]
  rw [decide_eq_false (show ¬ (E : Int) + e - 1023 < -1075 by omega), cond_false, decide_eq_false (show ¬ (E : Int) + e - 1023 > 1023 by omega), cond_false, decide_eq_false (show ¬ (E : Int) + e - 1023 < -1022 by omega), cond_false]
  rw [w64_id (x := (E : Int) + e - 1023 + 1023) (by omega), show (E : Int) + e - 1023 + 1023 = ((((E : Int) + e).toNat : Nat) : Int) by omega]
  rw [or_exp (wd_lt h2 hF) (by omega), Int.toNat_natCast, (wd_parts s h2 hF).1, (wd_parts s h2 hF).2.2.2]
  exact one_times (by omega) (by omega) hF

/-- The double of a number of at most 52 binary digits. -/
theorem dbl_small {r L : Nat} (h1 : 2 ^ L ≤ r) (h2 : r < 2 ^ (L + 1)) (hL : L ≤ 51) : dbl (r : Int) = wd false (L + 1023) (r * 2 ^ (52 - L) - 4503599627370496) ∧ 4503599627370496 ≤ r * 2 ^ (52 - L) ∧ r * 2 ^ (52 - L) < 9007199254740992 := by
  have hl := log2_of h1 h2
  have h0 : 0 < r := by have := Nat.two_pow_pos L; omega
  have hlow : 4503599627370496 ≤ r * 2 ^ (52 - L) := by
    have e : (2 : Nat) ^ L * 2 ^ (52 - L) = 4503599627370496 := by rw [← Nat.pow_add, show L + (52 - L) = 52 by omega]
    have := Nat.mul_le_mul_right (2 ^ (52 - L)) h1
    omega
  have hhigh : r * 2 ^ (52 - L) < 9007199254740992 := by
    have e : (2 : Nat) ^ (L + 1) * 2 ^ (52 - L) = 9007199254740992 := by rw [← Nat.pow_add, show L + 1 + (52 - L) = 53 by omega]
    have := Nat.mul_lt_mul_of_pos_right h2 (Nat.two_pow_pos (52 - L))
    omega
  refine ⟨?_, hlow, hhigh⟩
  show D.nearest (decide ((r : Int) < 0)) (r : Int).natAbs 0 = _
  rw [decide_eq_false (by omega), Int.natAbs_natCast]
  unfold Ieee.Format.nearest
  rw [if_neg (by omega)]
  simp only [hl, d_frac, d_least, d_bin, d_inf]
  rw [show max (0 + (L : Int) - ((52 : Nat) : Int)) (-1074) = (L : Int) - 52 by omega]
  rw [show (0 - ((L : Int) - 52)).toNat = 52 - L by omega, show ((L : Int) - 52 - 0).toNat = 0 by omega, show ((L : Int) - 52 - -1074).toNat = L + 1022 by omega, Nat.shiftLeft_eq]
  have hc : ∀ m, Ieee.Toward.even.cut false m 0 = m := fun m => by
    unfold Ieee.Toward.cut
    rw [Nat.zero_min]
    simp [Nat.mod_one]
  rw [hc]
  unfold Ieee.Format.word wd
  simp
  omega

theorem from_small {r L : Nat} (h1 : 2 ^ L ≤ r) (h2 : r < 2 ^ (L + 1)) (hL : L ≤ 51) : bits_FromFixed (r : Int) 0 = (((wd false (L + 1023) (r * 2 ^ (52 - L) - 4503599627370496) : Nat) : Int), 0) := by
  obtain ⟨e, hlow, hhigh⟩ := dbl_small h1 h2 hL
  unfold bits_FromFixed math_Ldexp
  rw [show (decide ((0 : Int) < 0) || decide ((0 : Int) > 60)) = false from rfl, cond_false]
  simp only
  rw [e, show w64 (0 - 0) = 0 from rfl, ldexp_wd false (by omega) (by omega) (by omega) (by omega) (by omega)]
  rw [show (((L + 1023 : Nat) : Int) + 0).toNat = L + 1023 by omega]

theorem to_small {r L : Nat} (h1 : 2 ^ L ≤ r) (h2 : r < 2 ^ (L + 1)) (hL : L ≤ 51) : ∃ b, bits_ToFixed ((wd false (L + 1023) (r * 2 ^ (52 - L) - 4503599627370496) : Nat) : Int) 0 = ((r : Int), b, 0) := by
  obtain ⟨_, hlow, hhigh⟩ := dbl_small h1 h2 hL
  have hF : r * 2 ^ (52 - L) - 4503599627370496 < 4503599627370496 := by omega
  have hM : r * 2 ^ (52 - L) - 4503599627370496 + 4503599627370496 = r * 2 ^ (52 - L) := by omega
  generalize hFd : r * 2 ^ (52 - L) - 4503599627370496 = F at hF hM
  have hx : wd false (L + 1023) F < 9223372036854775808 := by unfold wd; simp; omega
  have hexp : bits_exponent ((wd false (L + 1023) F : Nat) : Int) = ((L + 1023 : Nat) : Int) := by
    unfold bits_exponent
    rw [wd_exp false (by omega) hF]
    have := fkand_u64 (a := false.toNat * 2048 + (L + 1023)) (b := 2047) (by simp; omega) (by decide)
    rw [show ((2047 : Nat) : Int) = 2047 from rfl, and_2047 false (by omega)] at this
    rw [this, w64_id (by omega)]
  have hfrac : bits_fraction ((wd false (L + 1023) F : Nat) : Int) = (F : Int) := by
    unfold bits_fraction
    have := fkand_u64 (a := wd false (L + 1023) F) (b := 4503599627370495) (by omega) (by decide)
    rw [show ((4503599627370495 : Nat) : Int) = 4503599627370495 from rfl] at this
    rw [this, show (4503599627370495 : Nat) = 2 ^ 52 - 1 from rfl, Nat.and_two_pow_sub_one_eq_mod]
    have := (wd_parts false (E := L + 1023) (by omega) hF).2.2.2
    exact congrArg _ this
  have hor : kor .u64 (F : Int) 4503599627370496 = ((r * 2 ^ (52 - L) : Nat) : Int) := by
    have := fkor_u64 (a := F) (b := 4503599627370496) (by omega) (by decide)
    rw [show ((4503599627370496 : Nat) : Int) = 4503599627370496 from rfl] at this
    rw [this, Nat.or_comm]
    have h3 : 2 ^ 52 * 1 + F = 2 ^ 52 * 1 ||| F := Nat.two_pow_add_eq_or_of_lt (by omega) 1
    rw [show (4503599627370496 : Nat) = 2 ^ 52 * 1 from rfl, ← h3]
    omega
  have hmin : ((((wd false (L + 1023) F : Nat) : Int).fdiv (2 ^ 63)) == 1) = false := by
    rw [Int.fdiv_eq_ediv_of_nonneg _ (by decide), show (2 : Int) ^ 63 = 9223372036854775808 from rfl, Int.ediv_eq_zero_of_lt (by omega) (by omega)]; rfl
  unfold bits_ToFixed
  rw [show (decide ((0 : Int) < 0) || decide ((0 : Int) > 60)) = false from rfl, cond_false]
  simp only
  rw [hexp, show (((L + 1023 : Nat) : Int) == 2047) = false from beq_eq_false_iff_ne.2 (by omega), cond_false, show (((L + 1023 : Nat) : Int) == 0) = false from beq_eq_false_iff_ne.2 (by omega), cond_false, hfrac, hor]
  rw [show (((r * 2 ^ (52 - L) : Nat) : Int) == 0) = false from beq_eq_false_iff_ne.2 (by omega), cond_false]
  rw [w64_id (x := ((L + 1023 : Nat) : Int) - 1075) (by omega), w64_id (x := ((L + 1023 : Nat) : Int) - 1075 + 0) (by omega)]
  rw [decide_eq_false (show ¬ ((L + 1023 : Nat) : Int) - 1075 + 0 ≥ 0 by omega), cond_false, hmin, Bool.not_false, cond_true]
  have hk : (min (imin (w64 (0 - (((L + 1023 : Nat) : Int) - 1075 + 0))) 63).toNat 64) = 52 - L := by
    rw [w64_id (by omega)]
    unfold imin
    split <;> omega
  rw [hk]
  have hdiv : ((r * 2 ^ (52 - L) : Nat) : Int).fdiv (2 ^ (52 - L)) = (r : Int) := by
    rw [Int.natCast_mul, show ((2 ^ (52 - L) : Nat) : Int) = (2 : Int) ^ (52 - L) by simp]
    exact Int.mul_fdiv_cancel _ (Int.ne_of_gt (Int.pow_pos (by decide)))
  have hr : r < 4503599627370496 := by
    have := Nat.pow_le_pow_right (show 0 < 2 by decide) (show L + 1 ≤ 52 by omega)
    have e : (2 : Nat) ^ 52 = 4503599627370496 := rfl
    omega
  rw [hdiv, decide_eq_false (by omega), cond_false, w64_id (by omega)]
  exact ⟨_, rfl⟩

/-- What FromFixed writes ToFixed reads. -/
theorem fix_back {r : Int} (h0 : 0 ≤ r) (h : r ≤ 2000000) : (bits_ToFixed (bits_FromFixed r 0).1 0).1 = r ∧ (bits_ToFixed (bits_FromFixed r 0).1 0).2.2 = 0 ∧ 0 ≤ (bits_FromFixed r 0).1 ∧ (bits_FromFixed r 0).1 < 18446744073709551616 := by
  obtain ⟨n, rfl⟩ : ∃ n : Nat, r = (n : Int) := ⟨r.toNat, by omega⟩
  rcases Nat.eq_zero_or_pos n with hn | hn
  · subst hn
    have e1 : (bits_FromFixed ((0 : Nat) : Int) 0).1 = 0 := by kernel_rfl
    rw [e1]
    exact ⟨by kernel_rfl, by kernel_rfl, by decide, by decide⟩
  · have h1 : 2 ^ n.log2 ≤ n := (Nat.le_log2 (by omega)).1 (Nat.le_refl _)
    have h2 : n < 2 ^ (n.log2 + 1) := (Nat.log2_lt (by omega)).1 (Nat.lt_succ_self _)
    have h3 : n.log2 ≤ 51 := by
      have : n.log2 < 21 := (Nat.log2_lt (by omega)).2 (by omega)
      omega
    obtain ⟨_, hlow, hhigh⟩ := dbl_small h1 h2 h3
    obtain ⟨b, e⟩ := to_small h1 h2 h3
    rw [from_small h1 h2 h3, e]
    have := wd_lt (s := false) (E := n.log2 + 1023) (F := n * 2 ^ (52 - n.log2) - 4503599627370496) (by omega) (by omega)
    exact ⟨rfl, rfl, by omega, by omega⟩
end Go.Sky
