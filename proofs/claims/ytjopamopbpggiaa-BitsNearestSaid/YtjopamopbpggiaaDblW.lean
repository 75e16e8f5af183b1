/- How the reference rounds by hand to the nearest double. Conditions: in each theorem. -/
import Derived.Test.YtjopamopbpggiaaDbl
namespace Go.Sky
open Go Go.Eng

/-- The digits m and the exponent e of the double nearest to n / 2^scale. -/
def DW (n scale m e : Int) : Prop := ∃ E F : Nat, F < 4503599627370496 ∧ 1 ≤ E ∧ E ≤ 2046 ∧ m = ((4503599627370496 + F : Nat) : Int) ∧ e = (E : Int) - 1023 ∧ dblW n scale.toNat = wd (decide (n < 0)) E F

theorem du_pos {n : Int} (hn : -9223372036854775808 ≤ n ∧ n ≤ 9223372036854775807) (h : ¬ n < 0) : wu64 n = (n.natAbs : Int) := by rw [wu64_id (by omega)]; omega
theorem du_neg {n : Int} (hn : -9223372036854775808 ≤ n ∧ n ≤ 9223372036854775807) (h : n < 0) : wu64 (0 - (wu64 n)) = (n.natAbs : Int) := by rw [wu64_eq n, wu64_eq]; omega
theorem dn_pos {n : Int} (h : ¬ n < 0) : (0 : Int) = (((decide (n < 0)).toNat * 9223372036854775808 : Nat) : Int) := by rw [decide_eq_false h]; rfl
theorem dn_neg {n : Int} (h : n < 0) : (9223372036854775808 : Int) = (((decide (n < 0)).toNat * 9223372036854775808 : Nat) : Int) := by rw [decide_eq_true h]; rfl
theorem dw_zero {n scale : Int} (h : n = 0) : (0 : Int) = ((dblW n scale.toNat : Nat) : Int) := by subst h; rfl
theorem dl_init {n : Int} (hn : -9223372036854775808 ≤ n ∧ n ≤ 9223372036854775807) : n.natAbs < 2 ^ ((63 : Int).toNat + 1) := by
  have e : (2 : Nat) ^ ((63 : Int).toNat + 1) = 18446744073709551616 := rfl
  omega

theorem shr_nat {m : Int} {a : Nat} (hm : m = (a : Int)) (t : Nat) : m.fdiv (2 ^ t) = ((a / 2 ^ t : Nat) : Int) := by
  rw [hm, Int.fdiv_eq_ediv_of_nonneg _ (Int.le_of_lt (Int.pow_pos (by decide))), show (2 : Int) ^ t = ((2 ^ t : Nat) : Int) by simp, ← Int.natCast_ediv]
theorem dl_step {m top : Int} {a : Nat} (hm : m = (a : Int)) (_h : a < 2 ^ (top.toNat + 1)) (hz : ((m.fdiv (2 ^ (min top.toNat 64))) == 0) = true) (h0 : a ≠ 0) (ht : 0 ≤ top ∧ top ≤ 63) : 0 < top ∧ a < 2 ^ ((top - 1).toNat + 1) := by
  rw [Nat.min_eq_left (by omega), shr_nat hm] at hz
  have hz : a / 2 ^ top.toNat = 0 := Int.natCast_eq_zero.1 (beq_iff_eq.1 hz)
  have hlt : a < 2 ^ top.toNat := by
    rcases Nat.lt_or_ge a (2 ^ top.toNat) with h | h
    · exact h
    · have := Nat.div_pos h (Nat.two_pow_pos _); omega
  have h1 : 0 < top := by
    rcases Int.lt_or_le 0 top with h | h
    · exact h
    · rw [show top.toNat = 0 by omega] at hlt; simp at hlt; omega
  exact ⟨h1, by rw [show (top - 1).toNat + 1 = top.toNat by omega]; exact hlt⟩
theorem dl_exit {m top : Int} {a : Nat} (hm : m = (a : Int)) (hz : ((m.fdiv (2 ^ (min top.toNat 64))) == 0) = false) (ht : 0 ≤ top ∧ top ≤ 63) : 2 ^ top.toNat ≤ a := by
  rw [Nat.min_eq_left (by omega), shr_nat hm] at hz
  rcases Nat.lt_or_ge a (2 ^ top.toNat) with h | h
  · rw [Nat.div_eq_of_lt h] at hz; exact absurd hz (by decide)
  · exact h

section
variable {n scale top m m' e' K : Int}
theorem dm_fin (hs : 0 ≤ scale ∧ scale ≤ 60) (h0 : n ≠ 0) (ho : (0 ≤ top ∧ top ≤ 63) ∧ 2 ^ top.toNat ≤ n.natAbs ∧ n.natAbs < 2 ^ (top.toNat + 1)) (hK : K = ((kp n.natAbs top.toNat : Nat) : Int)) :
    (K = 9007199254740992 → DW n scale 4503599627370496 (top - scale + 1)) ∧ (K ≠ 9007199254740992 → DW n scale K (top - scale)) := by
  have hl : n.natAbs.log2 = top.toNat := log2_of ho.2.1 ho.2.2
  have hin := kp_in ho.2.1 ho.2.2 (by omega)
  have e : dblW n scale.toNat = if kp n.natAbs top.toNat < 9007199254740992 then wd (decide (n < 0)) (top.toNat + 1023 - scale.toNat) (kp n.natAbs top.toNat - 4503599627370496) else wd (decide (n < 0)) (top.toNat + 1024 - scale.toNat) 0 := by
    unfold dblW
    rw [if_neg h0, hl]
  refine ⟨fun h => ⟨top.toNat + 1024 - scale.toNat, 0, by decide, by omega, by omega, rfl, by omega, by rw [e, if_neg (by omega)]⟩, fun h => ⟨top.toNat + 1023 - scale.toNat, kp n.natAbs top.toNat - 4503599627370496, by omega, by omega, by omega, by omega, by omega, by rw [e, if_pos (by omega)]⟩⟩
theorem dmT (hs : 0 ≤ scale ∧ scale ≤ 60) (h0 : n ≠ 0) (ho : (0 ≤ top ∧ top ≤ 63) ∧ 2 ^ top.toNat ≤ n.natAbs ∧ n.natAbs < 2 ^ (top.toNat + 1)) (hK : K = ((kp n.natAbs top.toNat : Nat) : Int)) (h : K = 9007199254740992) (hm : m' = wu64 (K.tdiv 2)) (he : e' = top - scale + 1) : DW n scale m' e' := by
  subst hm he
  have := (dm_fin hs h0 ho hK).1 h
  rw [h, show wu64 ((9007199254740992 : Int).tdiv 2) = 4503599627370496 from rfl]; exact this
theorem dmF (hs : 0 ≤ scale ∧ scale ≤ 60) (h0 : n ≠ 0) (ho : (0 ≤ top ∧ top ≤ 63) ∧ 2 ^ top.toNat ≤ n.natAbs ∧ n.natAbs < 2 ^ (top.toNat + 1)) (hK : K = ((kp n.natAbs top.toNat : Nat) : Int)) (h : K ≠ 9007199254740992) (hm : m' = K) (he : e' = top - scale) : DW n scale m' e' := by
  subst hm he
  exact (dm_fin hs h0 ho hK).2 h

theorem k_small (hm : m = (n.natAbs : Int)) (ho : (0 ≤ top ∧ top ≤ 63) ∧ 2 ^ top.toNat ≤ n.natAbs ∧ n.natAbs < 2 ^ (top.toNat + 1)) (ht : top ≤ 52) : wu64 (m * 2 ^ (min (52 - top).toNat 64)) = ((kp n.natAbs top.toNat : Nat) : Int) ∧ wu64 (m * 2 ^ (min (52 - top).toNat 64)) ≠ 9007199254740992 := by
  have hin := kp_in ho.2.1 ho.2.2 (by omega)
  have e2 : (2 : Nat) ^ (top.toNat + 1) * 2 ^ (52 - top.toNat) = 9007199254740992 := by rw [← Nat.pow_add, show top.toNat + 1 + (52 - top.toNat) = 53 by omega]
  have a2 := Nat.mul_lt_mul_of_pos_right ho.2.2 (Nat.two_pow_pos (52 - top.toNat))
  have ek : kp n.natAbs top.toNat = n.natAbs * 2 ^ (52 - top.toNat) := by unfold kp; rw [if_pos (by omega)]
  have e : m * 2 ^ (min (52 - top).toNat 64) = ((kp n.natAbs top.toNat : Nat) : Int) := by
    rw [ek, hm, Nat.min_eq_left (by omega), show (52 - top).toNat = 52 - top.toNat by omega, Int.natCast_mul]; simp
  rw [e, wu64_id (by omega)]
  exact ⟨rfl, by omega⟩
theorem k_rest (hm : m = (n.natAbs : Int)) (hn : n.natAbs ≤ 9223372036854775808) (ht : 52 < top ∧ top ≤ 63) : kand .u64 m (wu64 ((wu64 (1 * 2 ^ (min (top - 52).toNat 64))) - 1)) = ((n.natAbs % 2 ^ (top.toNat - 52) : Nat) : Int) ∧
    wu64 (1 * 2 ^ (min ((top - 52) - 1).toNat 64)) = ((2 ^ (top.toNat - 52 - 1) : Nat) : Int) ∧ m.fdiv (2 ^ (min (top - 52).toNat 64)) = ((n.natAbs / 2 ^ (top.toNat - 52) : Nat) : Int) := by
  have hp : 2 ^ (top.toNat - 52) ≤ 2048 := Nat.pow_le_pow_right (n := 2) (by decide) (show top.toNat - 52 ≤ 11 by omega)
  have hp1 : 2 ^ (top.toNat - 52 - 1) ≤ 2048 := Nat.pow_le_pow_right (n := 2) (by decide) (show top.toNat - 52 - 1 ≤ 11 by omega)
  have hq := Nat.two_pow_pos (top.toNat - 52)
  have hq1 := Nat.two_pow_pos (top.toNat - 52 - 1)
  rw [Nat.min_eq_left (by omega), Nat.min_eq_left (by omega), show (top - 52).toNat = top.toNat - 52 by omega, show (top - 52 - 1).toNat = top.toNat - 52 - 1 by omega, shr_nat hm]
  have c1 : (1 : Int) * 2 ^ (top.toNat - 52) = ((2 ^ (top.toNat - 52) : Nat) : Int) := by rw [Int.one_mul]; simp
  have c2 : (1 : Int) * 2 ^ (top.toNat - 52 - 1) = ((2 ^ (top.toNat - 52 - 1) : Nat) : Int) := by rw [Int.one_mul]; simp
  rw [c1, c2, wu64_id (x := ((2 ^ (top.toNat - 52) : Nat) : Int)) (by omega), wu64_id (x := ((2 ^ (top.toNat - 52 - 1) : Nat) : Int)) (by omega), wu64_id (by omega)]
  refine ⟨?_, rfl, rfl⟩
  rw [hm, show ((2 ^ (top.toNat - 52) : Nat) : Int) - 1 = ((2 ^ (top.toNat - 52) - 1 : Nat) : Int) by omega, fkand_u64 (by omega) (by omega), Nat.and_two_pow_sub_one_eq_mod]
theorem k_up (hm : m = (n.natAbs : Int)) (hn : n.natAbs ≤ 9223372036854775808) (ho : (0 ≤ top ∧ top ≤ 63) ∧ 2 ^ top.toNat ≤ n.natAbs ∧ n.natAbs < 2 ^ (top.toNat + 1)) (ht : 52 < top)
    (h : kand .u64 m (wu64 ((wu64 (1 * 2 ^ (min (top - 52).toNat 64))) - 1)) > wu64 (1 * 2 ^ (min ((top - 52) - 1).toNat 64)) ∨ kand .u64 m (wu64 ((wu64 (1 * 2 ^ (min (top - 52).toNat 64))) - 1)) = wu64 (1 * 2 ^ (min ((top - 52) - 1).toNat 64)) ∧ (m.fdiv (2 ^ (min (top - 52).toNat 64))).tmod 2 = 1) :
    wu64 (m.fdiv (2 ^ (min (top - 52).toNat 64)) + 1) = ((kp n.natAbs top.toNat : Nat) : Int) := by
  obtain ⟨e1, e2, e3⟩ := k_rest (n := n) hm hn ⟨ht, ho.1.2⟩
  have hin := kp_in ho.2.1 ho.2.2 (by omega)
  have e4 : 2 ^ (top.toNat - 52) = 2 * 2 ^ (top.toNat - 52 - 1) := by
    have c : top.toNat - 52 = (top.toNat - 52 - 1) + 1 := by omega
    rw [Nat.mul_comm, ← Nat.pow_succ]; exact congrArg (2 ^ ·) c
  rw [e1, e2, e3, Int.tmod_eq_emod_of_nonneg (Int.natCast_nonneg _)] at h
  rw [e3]
  have ek : kp n.natAbs top.toNat = n.natAbs / 2 ^ (top.toNat - 52) + 1 := by
    unfold kp
    clear e1 e2 e3 hin
    generalize n.natAbs / 2 ^ (top.toNat - 52) = q at h ⊢
    generalize n.natAbs % 2 ^ (top.toNat - 52) = r at h ⊢
    rw [if_neg (by omega), if_pos (by omega)]
  generalize n.natAbs / 2 ^ (top.toNat - 52) = q at ek h ⊢
  rw [wu64_id (by omega)]; omega
theorem k_dn (hm : m = (n.natAbs : Int)) (hn : n.natAbs ≤ 9223372036854775808) (ho : (0 ≤ top ∧ top ≤ 63) ∧ 2 ^ top.toNat ≤ n.natAbs ∧ n.natAbs < 2 ^ (top.toNat + 1)) (ht : 52 < top)
    (h : ¬ (kand .u64 m (wu64 ((wu64 (1 * 2 ^ (min (top - 52).toNat 64))) - 1)) > wu64 (1 * 2 ^ (min ((top - 52) - 1).toNat 64)) ∨ kand .u64 m (wu64 ((wu64 (1 * 2 ^ (min (top - 52).toNat 64))) - 1)) = wu64 (1 * 2 ^ (min ((top - 52) - 1).toNat 64)) ∧ (m.fdiv (2 ^ (min (top - 52).toNat 64))).tmod 2 = 1)) :
    m.fdiv (2 ^ (min (top - 52).toNat 64)) = ((kp n.natAbs top.toNat : Nat) : Int) := by
  obtain ⟨e1, e2, e3⟩ := k_rest (n := n) hm hn ⟨ht, ho.1.2⟩
  have e4 : 2 ^ (top.toNat - 52) = 2 * 2 ^ (top.toNat - 52 - 1) := by
    have c : top.toNat - 52 = (top.toNat - 52 - 1) + 1 := by omega
    rw [Nat.mul_comm, ← Nat.pow_succ]; exact congrArg (2 ^ ·) c
  rw [e1, e2, e3, Int.tmod_eq_emod_of_nonneg (Int.natCast_nonneg _)] at h
  rw [e3]
  have ek : kp n.natAbs top.toNat = n.natAbs / 2 ^ (top.toNat - 52) := by
    unfold kp
    clear e1 e2 e3
    generalize n.natAbs / 2 ^ (top.toNat - 52) = q at h ⊢
    generalize n.natAbs % 2 ^ (top.toNat - 52) = r at h ⊢
    rw [if_neg (by omega), if_neg (by omega)]; rfl
  rw [ek]

theorem dw_end {out : Int} (_hn : -9223372036854775808 ≤ n ∧ n ≤ 9223372036854775807) (_hs : 0 ≤ scale ∧ scale ≤ 60) (ho : out = (((decide (n < 0)).toNat * 9223372036854775808 : Nat) : Int)) (h : DW n scale m e') :
    kor .u64 (kor .u64 out (wu64 ((wu64 (w64 (e' + 1023))) * 2 ^ 52))) (kand .u64 m 4503599627370495) = ((dblW n scale.toNat : Nat) : Int) := by
  obtain ⟨E, F, hF, h1, h2, rfl, rfl, hd⟩ := h
  have hb : (decide (n < 0)).toNat ≤ 1 := by cases decide (n < 0) <;> decide
  unfold wd at hd
  generalize (decide (n < 0)).toNat = b at *
  rw [hd, ho, w64_id (by omega), wu64_id (x := (E : Int) - 1023 + 1023) (by omega), show (((E : Int) - 1023 + 1023) * 2 ^ 52) = ((E * 4503599627370496 : Nat) : Int) by omega, wu64_id (by omega)]
  have f1 := fkand_u64 (a := 4503599627370496 + F) (b := 4503599627370495) (by omega) (by decide)
  rw [show (((4503599627370495 : Nat)) : Int) = 4503599627370495 from rfl] at f1
  rw [f1, show (4503599627370495 : Nat) = 2 ^ 52 - 1 from rfl, Nat.and_two_pow_sub_one_eq_mod, show (4503599627370496 + F) % 2 ^ 52 = F by omega, fkor_u64 (by omega) (by omega)]
  have o1 : b * 9223372036854775808 ||| E * 4503599627370496 = b * 9223372036854775808 + E * 4503599627370496 := by
    have := Nat.two_pow_add_eq_or_of_lt (i := 63) (b := E * 4503599627370496) (by omega) b
    rw [show (2 : Nat) ^ 63 = 9223372036854775808 from rfl, Nat.mul_comm] at this
    exact this.symm
  rw [o1, fkor_u64 (by omega) (by omega)]
  have o2 : (b * 9223372036854775808 + E * 4503599627370496) ||| F = b * 9223372036854775808 + E * 4503599627370496 + F := by
    have := Nat.two_pow_add_eq_or_of_lt (i := 52) (b := F) (by omega) (b * 2048 + E)
    rw [show (2 : Nat) ^ 52 * (b * 2048 + E) = b * 9223372036854775808 + E * 4503599627370496 by omega] at this
    exact this.symm
  rw [o2]
end
end Go.Sky
