/- Doubles: sums, products, quotients and whole parts as functions of the words; how great they can be. Conditions: in each theorem. -/
import Derived.Test.YtakjcphknccdnaaDoorFltB
import Derived.Laws.FloatArith
namespace Go.Eng

def fadd (x y : Nat) : Nat := (FloatKind.f64.format.add x y).getD 0
def fsub (x y : Nat) : Nat := (FloatKind.f64.format.sub x y).getD 0
def fdiv (x y : Nat) : Nat := (FloatKind.f64.format.div x y).getD 0
def fneg (x : Nat) : Nat := x ^^^ 9223372036854775808
def fle (x y : Nat) : Bool := fcm x y == some .lt || fcm x y == some .eq
def fge (x y : Nat) : Bool := fcm x y == some .gt || fcm x y == some .eq
/-- The whole part, towards zero. -/
def f2i (x : Nat) : Int := ((FloatKind.f64.decode x).toInt .zero).getD 0
def ffloor (x : Nat) : Nat := FloatKind.f64.encode ((FloatKind.f64.decode x).integral .down)

section
variable {P : Program} {w : World} {t : TypeId} {x y : Nat}
theorem run_fadd (h : (FloatKind.f64.format.add x y).isSome = true) : (sV (binOp .add t (.float .f64 x) (.float .f64 y))).run P w = .ok (.value (.float .f64 (fadd x y))) w := by
  obtain ⟨r, hr⟩ := Option.isSome_iff_exists.1 h
  rw [show fadd x y = r by unfold fadd; rw [hr]; rfl]
  exact run_sV (run_float_arith w .add t .f64 x y r hr)
theorem run_fsub (h : (FloatKind.f64.format.sub x y).isSome = true) : (sV (binOp .sub t (.float .f64 x) (.float .f64 y))).run P w = .ok (.value (.float .f64 (fsub x y))) w := by
  obtain ⟨r, hr⟩ := Option.isSome_iff_exists.1 h
  rw [show fsub x y = r by unfold fsub; rw [hr]; rfl]
  exact run_sV (run_float_arith w .sub t .f64 x y r hr)
theorem run_fdiv (h : (FloatKind.f64.format.div x y).isSome = true) : (sV (binOp .quo t (.float .f64 x) (.float .f64 y))).run P w = .ok (.value (.float .f64 (fdiv x y))) w := by
  obtain ⟨r, hr⟩ := Option.isSome_iff_exists.1 h
  rw [show fdiv x y = r by unfold fdiv; rw [hr]; rfl]
  exact run_sV (run_float_arith w .quo t .f64 x y r hr)
theorem run_f2i {src dst : TypeId} {k : IntKind} (hs : (P.underlying src).isSome = true) (hd : P.underlying dst = some (.int k)) (h : floatToIntVal .f64 x k = some (f2i x)) :
    (sV (convert src dst (.float .f64 x))).run P w = .ok (.value (.int k (f2i x))) w := run_sV (run_convert_float_int w src dst .f64 k x _ hs hd h)
end

/-! ### The bounds. -/
abbrev DD := FloatKind.f64.format
theorem dd_sign : DD.signWeight = 9223372036854775808 := rfl
theorem dd_bin : DD.binade = 4503599627370496 := rfl
theorem dd_inf : DD.infRung = 9218868437227405312 := rfl
theorem dd_least : DD.leastPlace = -1074 := rfl
theorem dd_frac : DD.fractionBits = 52 := rfl

theorem dlog_of {m k : Nat} (h1 : 2 ^ k ≤ m) (h2 : m < 2 ^ (k + 1)) : m.log2 = k := by
  have h0 : m ≠ 0 := by have := Nat.two_pow_pos k; omega
  have a := (Nat.le_log2 h0).2 h1
  have b := (Nat.log2_lt h0).2 h2
  omega

/-- The word of a sign and a rung, read back. -/
theorem read_word {s : Bool} {r : Nat} (h : r < 9218868437227405312) : DD.read (DD.word s r) = if r < 4503599627370496 then .number s r (-1074) else .number s (4503599627370496 + r % 4503599627370496) (-1074 + (r / 4503599627370496 - 1 : Nat)) := by
  have hm : DD.word s r % 9223372036854775808 = r := by unfold Ieee.Format.word; rw [dd_sign]; cases s <;> simp <;> omega
  have hd : (DD.word s r / 9223372036854775808 % 2 == 1) = s := by unfold Ieee.Format.word; rw [dd_sign]; cases s <;> simp <;> omega
  unfold Ieee.Format.read
  simp only [dd_sign, dd_bin, dd_inf, dd_least, hm, hd]
  by_cases h1 : r < 4503599627370496
  · rw [if_pos h1, if_pos h1]
  · rw [if_neg h1, if_neg h1, if_pos h]

theorem cut_le (way : Ieee.Toward) (neg : Bool) (n drop : Nat) : n / 2 ^ (min drop (n.log2 + 2)) ≤ way.cut neg n drop ∧ way.cut neg n drop ≤ n / 2 ^ (min drop (n.log2 + 2)) + 1 := by
  unfold Ieee.Toward.cut
  simp only [Nat.one_shiftLeft]
  refine ⟨Nat.le_add_right _ _, Nat.add_le_add_left (Bool.toNat_le _) _⟩
theorem cut_zero (neg : Bool) (n : Nat) : Ieee.Toward.even.cut neg n 0 = n := by
  unfold Ieee.Toward.cut
  rw [Nat.zero_min]
  simp [Nat.mod_one]

/-- m * 2^p is no more than 2^e. -/
def Lw (m : Nat) (p e : Int) : Prop := m = 0 ∨ (m.log2 : Int) + p < e ∨ (m = 2 ^ m.log2 ∧ (m.log2 : Int) + p = e)
theorem cut_exact (neg : Bool) {n drop : Nat} (h : n % 2 ^ (min drop (n.log2 + 2)) = 0) : Ieee.Toward.even.cut neg n drop = n / 2 ^ (min drop (n.log2 + 2)) := by
  unfold Ieee.Toward.cut
  have hp := Nat.two_pow_pos (min drop (n.log2 + 2))
  simp only [Nat.one_shiftLeft, h]
  have h1 : decide (2 ^ (min drop (n.log2 + 2)) < 2 * 0) = false := decide_eq_false (by omega)
  have h2 : (2 ^ (min drop (n.log2 + 2)) == 2 * 0) = false := by
    generalize 2 ^ (min drop (n.log2 + 2)) = q at hp
    cases q with
    | zero => omega
    | succ q => rfl
  rw [h1, h2]; rfl

/-- To round does not pass a power of two. -/
theorem round_bd (s : Bool) {m : Nat} {p e : Int} (h : Lw m p e) (h0 : 0 ≤ e) (h1 : e ≤ 1000) :
    ∃ m' p', DD.read (DD.nearest s m p) = .number s m' p' ∧ Lw m' p' e ∧ (m ≠ 0 → 0 ≤ (m.log2 : Int) + p → m' ≠ 0 ∧ 0 ≤ (m'.log2 : Int) + p') := by
  unfold Lw at h ⊢
  by_cases hm : m = 0
  · refine ⟨0, -1074, ?_, .inl rfl, fun h => absurd hm h⟩
    unfold Ieee.Format.nearest
    rw [if_pos hm, read_word (by decide)]
    rfl
  have h := h.resolve_left hm
  have l1 := Nat.log2_self_le hm
  have l2 : m < 2 ^ (m.log2 + 1) := Nat.lt_log2_self
  unfold Ieee.Format.nearest
  rw [if_neg hm]
  simp only [dd_frac, dd_least, dd_bin, dd_inf]
  generalize hL : m.log2 = L at *
  have hc : ((52 : Nat) : Int) = 52 := rfl
  rw [hc]
  by_cases hA : -1074 ≤ p + (L : Int) - 52
  · -- a normal number
    rw [show max (p + (L : Int) - 52) (-1074) = p + L - 52 by omega]
    have hk : (4503599627370496 ≤ Ieee.Toward.even.cut s (m <<< (p - (p + (L : Int) - 52)).toNat) (p + (L : Int) - 52 - p).toNat ∧ Ieee.Toward.even.cut s (m <<< (p - (p + (L : Int) - 52)).toNat) (p + (L : Int) - 52 - p).toNat ≤ 9007199254740992) ∧
        (m = 2 ^ L → Ieee.Toward.even.cut s (m <<< (p - (p + (L : Int) - 52)).toNat) (p + (L : Int) - 52 - p).toNat = 4503599627370496) := by
      by_cases hl : L ≤ 52
      · rw [show (p - (p + (L : Int) - 52)).toNat = 52 - L by omega, show (p + (L : Int) - 52 - p).toNat = 0 by omega, cut_zero, Nat.shiftLeft_eq]
        have e1 : (2 : Nat) ^ L * 2 ^ (52 - L) = 4503599627370496 := by rw [← Nat.pow_add, show L + (52 - L) = 52 by omega]
        have e2 : (2 : Nat) ^ (L + 1) * 2 ^ (52 - L) = 9007199254740992 := by rw [← Nat.pow_add, show L + 1 + (52 - L) = 53 by omega]
        have a1 := Nat.mul_le_mul_right (2 ^ (52 - L)) l1
        have a2 := Nat.mul_lt_mul_of_pos_right l2 (Nat.two_pow_pos (52 - L))
        exact ⟨by omega, fun h => by rw [h]; exact e1⟩
      · rw [show (p - (p + (L : Int) - 52)).toNat = 0 by omega, show (p + (L : Int) - 52 - p).toNat = L - 52 by omega, Nat.shiftLeft_zero]
        have c := cut_le .even s m (L - 52)
        have x := cut_exact s (n := m) (drop := L - 52)
        rw [hL, Nat.min_eq_left (by omega)] at c x
        have e1 : (2 : Nat) ^ L = 4503599627370496 * 2 ^ (L - 52) := by rw [show (4503599627370496 : Nat) = 2 ^ 52 from rfl, ← Nat.pow_add]; congr 1; omega
        have e2 : (2 : Nat) ^ (L + 1) = 9007199254740992 * 2 ^ (L - 52) := by rw [show (9007199254740992 : Nat) = 2 ^ 53 from rfl, ← Nat.pow_add]; congr 1; omega
        have p1 := Nat.two_pow_pos (L - 52)
        have a1 : 4503599627370496 ≤ m / 2 ^ (L - 52) := (Nat.le_div_iff_mul_le p1).2 (by omega)
        have a2 : m / 2 ^ (L - 52) < 9007199254740992 := (Nat.div_lt_iff_lt_mul p1).2 (by omega)
        refine ⟨by omega, fun h => ?_⟩
        rw [x (by rw [h, e1]; exact Nat.mul_mod_left _ _)]
        rw [h, e1]; exact Nat.mul_div_cancel _ p1
    generalize Ieee.Toward.even.cut s (m <<< (p - (p + (L : Int) - 52)).toNat) (p + (L : Int) - 52 - p).toNat = k at hk
    obtain ⟨E, hE⟩ : ∃ E : Nat, (p + (L : Int) - 52 - -1074).toNat = E := ⟨_, rfl⟩
    have hE' : (E : Int) = p + L + 1022 := by omega
    have hLe : p + (L : Int) ≤ e := by omega
    rw [hE, Nat.min_eq_left (by omega), read_word (by omega), if_neg (by omega)]
    have lg : ∀ F, F < 4503599627370496 → (4503599627370496 + F).log2 = 52 := fun F hF => dlog_of (by omega) (by omega)
    by_cases hk2 : k = 9007199254740992
    · have hn : ¬ m = 2 ^ L := fun h => by have := hk.2 h; omega
      have e1 : (E * 4503599627370496 + k) / 4503599627370496 = E + 2 := by omega
      have e2 : (E * 4503599627370496 + k) % 4503599627370496 = 0 := by omega
      rw [e1, e2]
      refine ⟨_, _, rfl, .inr ?_, fun _ _ => ⟨by omega, ?_⟩⟩ <;> rw [lg 0 (by decide)]
      · have : (4503599627370496 + 0 : Nat) = 2 ^ 52 := rfl
        rcases h with h | h
        · by_cases h5 : p + (L : Int) + 1 = e
          · exact .inr ⟨this, by omega⟩
          · exact .inl (by omega)
        · exact absurd h.1 hn
      · omega
    · have e1 : (E * 4503599627370496 + k) / 4503599627370496 = E + 1 := by omega
      have e2 : (E * 4503599627370496 + k) % 4503599627370496 = k - 4503599627370496 := by omega
      rw [e1, e2]
      refine ⟨_, _, rfl, .inr ?_, fun _ _ => ⟨by omega, ?_⟩⟩ <;> rw [lg _ (by omega)]
      · rcases h with h | h
        · exact .inl (by omega)
        · have h6 := hk.2 h.1
          subst h6
          exact .inr ⟨rfl, by omega⟩
      · omega
  · -- a small one
    have h : (L : Int) + p < e := by omega
    rw [show max (p + (L : Int) - 52) (-1074) = -1074 by omega]
    have hk : Ieee.Toward.even.cut s (m <<< (p - -1074).toNat) (-1074 - p).toNat ≤ 4503599627370496 := by
      by_cases hp : -1074 ≤ p
      · rw [show (-1074 - p).toNat = 0 by omega, cut_zero, Nat.shiftLeft_eq]
        obtain ⟨q, hq⟩ : ∃ q : Nat, (p - -1074).toNat = q := ⟨_, rfl⟩
        rw [hq]
        have a2 := Nat.mul_lt_mul_of_pos_right l2 (Nat.two_pow_pos q)
        rw [← Nat.pow_add] at a2
        have a3 : 2 ^ (L + 1 + q) ≤ 2 ^ 52 := Nat.pow_le_pow_right (by decide) (by omega)
        have : (2 : Nat) ^ 52 = 4503599627370496 := rfl
        omega
      · rw [show (p - -1074).toNat = 0 by omega, Nat.shiftLeft_zero]
        have c := cut_le .even s m (-1074 - p).toNat
        rw [hL] at c
        obtain ⟨q, hq⟩ : ∃ q : Nat, (-1074 - p).toNat = q := ⟨_, rfl⟩
        rw [hq] at c ⊢
        by_cases hd : q ≤ L + 2
        · rw [Nat.min_eq_left hd] at c
          have a1 : m / 2 ^ q < 4503599627370496 := by
            rw [Nat.div_lt_iff_lt_mul (Nat.two_pow_pos q)]
            have a3 : 2 ^ (L + 1) ≤ 2 ^ (52 + q) := Nat.pow_le_pow_right (by decide) (by omega)
            rw [Nat.pow_add 2 52 q, show (2 : Nat) ^ 52 = 4503599627370496 from rfl] at a3
            omega
          omega
        · rw [Nat.min_eq_right (by omega)] at c
          have a1 : m / 2 ^ (L + 2) = 0 := Nat.div_eq_of_lt (Nat.lt_of_lt_of_le l2 (Nat.pow_le_pow_right (by decide) (by omega)))
          omega
    generalize Ieee.Toward.even.cut s (m <<< (p - -1074).toNat) (-1074 - p).toNat = k at hk
    rw [show ((-1074 : Int) - -1074).toNat = 0 by decide, Nat.zero_mul, Nat.zero_add, Nat.min_eq_left (by omega), read_word (by omega)]
    by_cases hk2 : k < 4503599627370496
    · rw [if_pos hk2]
      refine ⟨_, _, rfl, ?_, fun _ _ => by omega⟩
      by_cases hk0 : k = 0
      · exact .inl hk0
      · have := (Nat.log2_lt hk0).2 (show k < 2 ^ 52 by omega)
        exact .inr (.inl (by omega))
    · rw [if_neg hk2, show k = 4503599627370496 by omega]
      refine ⟨_, _, rfl, .inr (.inl ?_), fun _ _ => by omega⟩
      rw [show Nat.log2 (4503599627370496 + 4503599627370496 % 4503599627370496) = 52 from dlog_of (by decide) (by decide)]
      have : (4503599627370496 / 4503599627370496 - 1 : Nat) = 0 := rfl
      omega
theorem Lw.mono {m : Nat} {p e f : Int} (h : Lw m p e) (hf : e ≤ f) : Lw m p f := by
  unfold Lw at *
  by_cases h2 : e = f
  · subst h2; exact h
  · omega

/-- A number of magnitude 2^e or less (where e is no more than 1000). -/
class Bd (e : outParam Nat) (x : Nat) : Prop where
  bd : e ≤ 1000 → ∃ s m p, DD.read x = .number s m p ∧ Lw m p e
/-- .. that is not negative. -/
class Po (e : outParam Nat) (x : Nat) : Prop where
  po : e ≤ 1000 → ∃ m p, DD.read x = .number false m p ∧ Lw m p e
/-- .. of magnitude 1 or more. -/
class Ge (e : outParam Nat) (x : Nat) : Prop where
  ge : e ≤ 1000 → ∃ s m p, DD.read x = .number s m p ∧ Lw m p e ∧ m ≠ 0 ∧ 0 ≤ (m.log2 : Int) + p
/-- .. 1 or more. -/
class Pg (e : outParam Nat) (x : Nat) : Prop where
  pg : e ≤ 1000 → ∃ m p, DD.read x = .number false m p ∧ Lw m p e ∧ m ≠ 0 ∧ 0 ≤ (m.log2 : Int) + p

section
variable {e f x y : Nat}
instance po_bd [h : Po e x] : Bd e x := ⟨fun he => by obtain ⟨m, p, h1, h2⟩ := h.po he; exact ⟨_, _, _, h1, h2⟩⟩
instance pg_po [h : Pg e x] : Po e x := ⟨fun he => by obtain ⟨m, p, h1, h2, _⟩ := h.pg he; exact ⟨_, _, h1, h2⟩⟩
instance pg_ge [h : Pg e x] : Ge e x := ⟨fun he => by obtain ⟨m, p, h1, h2⟩ := h.pg he; exact ⟨_, _, _, h1, h2⟩⟩
instance ge_bd [h : Ge e x] : Bd e x := ⟨fun he => by obtain ⟨s, m, p, h1, h2, _⟩ := h.ge he; exact ⟨_, _, _, h1, h2⟩⟩

theorem log_mul {m n : Nat} (hm : m ≠ 0) (hn : n ≠ 0) : (m * n).log2 ≤ m.log2 + n.log2 + 1 := by
  have a : m < 2 ^ (m.log2 + 1) := Nat.lt_log2_self
  have b : n < 2 ^ (n.log2 + 1) := Nat.lt_log2_self
  have c := Nat.mul_lt_mul'' a b
  rw [← Nat.pow_add] at c
  have := (Nat.log2_lt (Nat.mul_ne_zero hm hn)).2 c
  omega
theorem fmul_eq {s t : Bool} {m n : Nat} {i j : Int} (hx : DD.read x = .number s m i) (hy : DD.read y = .number t n j) : DD.mul x y = some (DD.nearest (s ^^ t) (m * n) (i + j)) := by
  unfold Ieee.Format.mul; rw [hx, hy]; rfl
theorem mul_bd {m n : Nat} {i j : Int} (hm : Lw m i e) (hn : Lw n j f) : Lw (m * n) (i + j) ((e + f : Nat) : Int) := by
  unfold Lw at *
  by_cases h1 : m = 0
  · exact .inl (by rw [h1, Nat.zero_mul])
  by_cases h2 : n = 0
  · exact .inl (by rw [h2, Nat.mul_zero])
  have hl := log_mul h1 h2
  have a : m < 2 ^ (m.log2 + 1) := Nat.lt_log2_self
  have b : n < 2 ^ (n.log2 + 1) := Nat.lt_log2_self
  have h0 := Nat.mul_ne_zero h1 h2
  refine .inr ?_
  rcases hm.resolve_left h1 with c | ⟨c1, c2⟩
  · rcases hn.resolve_left h2 with d | ⟨d1, d2⟩
    · exact .inl (by omega)
    · have g : m * n < 2 ^ (m.log2 + 1 + n.log2) := by
        rw [Nat.pow_add, ← d1]; exact Nat.mul_lt_mul_of_pos_right a (Nat.pos_of_ne_zero h2)
      have := (Nat.log2_lt h0).2 g
      exact .inl (by omega)
  · rcases hn.resolve_left h2 with d | ⟨d1, d2⟩
    · have g : m * n < 2 ^ (m.log2 + (n.log2 + 1)) := by
        rw [Nat.pow_add, ← c1]; exact Nat.mul_lt_mul_of_pos_left b (Nat.pos_of_ne_zero h1)
      have := (Nat.log2_lt h0).2 g
      exact .inl (by omega)
    · have g : m * n = 2 ^ (m.log2 + n.log2) := by rw [Nat.pow_add, ← c1, ← d1]
      have g2 : (m * n).log2 = m.log2 + n.log2 := by rw [g]; exact dlog_of (Nat.le_refl _) (Nat.pow_lt_pow_right (by decide) (by omega))
      exact .inr ⟨by rw [g2]; exact g, by omega⟩
theorem fmS [hx : Bd e x] [hy : Bd f y] (h : e ≤ 1000 ∧ f ≤ 1000 := by decide) : (FloatKind.f64.format.mul x y).isSome = true := by
  obtain ⟨s, m, i, h1, _⟩ := hx.bd h.1
  obtain ⟨t, n, j, h2, _⟩ := hy.bd h.2
  rw [fmul_eq h1 h2]; rfl
instance bdM [hx : Bd e x] [hy : Bd f y] : Bd (e + f) (fmul x y) := ⟨fun he => by
  obtain ⟨s, m, i, h1, k1⟩ := hx.bd (by omega)
  obtain ⟨t, n, j, h2, k2⟩ := hy.bd (by omega)
  obtain ⟨m', p', r1, r2, _⟩ := round_bd (s ^^ t) (mul_bd k1 k2) (by omega) (by omega)
  refine ⟨(s ^^ t : Bool), m', p', ?_, r2.mono (by omega)⟩
  unfold fmul; rw [fmul_eq h1 h2]; exact r1⟩
instance poM [hx : Po e x] [hy : Po f y] : Po (e + f) (fmul x y) := ⟨fun he => by
  obtain ⟨m, i, h1, k1⟩ := hx.po (by omega)
  obtain ⟨n, j, h2, k2⟩ := hy.po (by omega)
  obtain ⟨m', p', r1, r2, _⟩ := round_bd (false ^^ false) (mul_bd k1 k2) (by omega) (by omega)
  refine ⟨m', p', ?_, r2.mono (by omega)⟩
  unfold fmul; rw [fmul_eq h1 h2]; exact r1⟩
instance poS [hx : Bd e x] : Po (e + e) (fmul x x) := ⟨fun he => by
  obtain ⟨s, m, i, h1, k1⟩ := hx.bd (by omega)
  obtain ⟨m', p', r1, r2, _⟩ := round_bd (s ^^ s) (mul_bd k1 k1) (by omega) (by omega)
  refine ⟨m', p', ?_, r2.mono (by omega)⟩
  unfold fmul; rw [fmul_eq h1 h1]
  rw [Bool.xor_self] at r1 ⊢; exact r1⟩

theorem shl_le {m : Nat} {i b : Int} {K : Nat} (hm : Lw m i (b + K)) (hi : b ≤ i) : m <<< (i - b).toNat ≤ 2 ^ K := by
  unfold Lw at hm
  rw [Nat.shiftLeft_eq]
  by_cases h1 : m = 0
  · rw [h1, Nat.zero_mul]; exact Nat.zero_le _
  have a : m < 2 ^ (m.log2 + 1) := Nat.lt_log2_self
  rcases hm.resolve_left h1 with h | ⟨h, h3⟩
  · have c := Nat.mul_lt_mul_of_pos_right a (Nat.two_pow_pos (i - b).toNat)
    rw [← Nat.pow_add] at c
    exact Nat.le_of_lt (Nat.lt_of_lt_of_le c (Nat.pow_le_pow_right (by decide) (by omega)))
  · rw [show K = m.log2 + (i - b).toNat by omega, Nat.pow_add, ← h]
    exact Nat.le_refl _
theorem sum_eq {s t : Bool} {m n : Nat} {i j : Int} (hx : DD.read x = .number s m i) (hy : DD.read y = .number t n j) : ∃ tot : Int, tot = Ieee.signed s m (i - min i j).toNat + Ieee.signed t n (j - min i j).toNat ∧
    DD.add x y = some (DD.nearest (if tot = 0 then s && t else tot < 0) tot.natAbs (min i j)) := by
  refine ⟨_, rfl, ?_⟩
  unfold Ieee.Format.add; rw [hx, hy]; rfl
theorem sub_eq' {s t : Bool} {m n : Nat} {i j : Int} (hx : DD.read x = .number s m i) (hy : DD.read y = .number t n j) : ∃ tot : Int, tot = Ieee.signed s m (i - min i j).toNat + Ieee.signed (!t) n (j - min i j).toNat ∧
    DD.sub x y = some (DD.nearest (if tot = 0 then s && !t else tot < 0) tot.natAbs (min i j)) := by
  refine ⟨_, rfl, ?_⟩
  unfold Ieee.Format.sub; rw [hx, hy]; rfl
theorem signed_abs (s : Bool) (m a : Nat) : (Ieee.signed s m a).natAbs = m <<< a := by
  unfold Ieee.signed; cases s
  · exact Int.natAbs_natCast (m <<< a)
  · exact (Int.natAbs_neg _).trans (Int.natAbs_natCast (m <<< a))
theorem sum_bd {s t : Bool} {m n : Nat} {i j : Int} (hm : Lw m i e) (hn : Lw n j f) {tot : Int} (h : tot = Ieee.signed s m (i - min i j).toNat + Ieee.signed t n (j - min i j).toNat) :
    Lw tot.natAbs (min i j) ((max e f + 1 : Nat) : Int) := by
  unfold Lw
  by_cases h0 : tot.natAbs = 0
  · exact .inl h0
  refine .inr ?_
  have s1 := signed_abs s m (i - min i j).toNat
  have s2 := signed_abs t n (j - min i j).toNat
  by_cases hz : 0 ≤ ((max e f : Nat) : Int) - min i j
  · obtain ⟨K, hK⟩ : ∃ K : Nat, K = (((max e f : Nat) : Int) - min i j).toNat := ⟨_, rfl⟩
    have a1 := shl_le (m := m) (i := i) (b := min i j) (K := K) (hm.mono (by omega)) (by omega)
    have a2 := shl_le (m := n) (i := j) (b := min i j) (K := K) (hn.mono (by omega)) (by omega)
    have a3 : tot.natAbs ≤ 2 ^ (K + 1) := by
      rw [Nat.pow_succ]
      generalize m <<< (i - min i j).toNat = A at *
      generalize n <<< (j - min i j).toNat = B at *
      omega
    by_cases a5 : tot.natAbs = 2 ^ (K + 1)
    · have a4 : tot.natAbs.log2 = K + 1 := by rw [a5]; exact dlog_of (Nat.le_refl _) (Nat.pow_lt_pow_right (by decide) (by omega))
      exact .inr ⟨by rw [a4]; exact a5, by omega⟩
    · have a4 := (Nat.log2_lt h0).2 (show tot.natAbs < 2 ^ (K + 1) by omega)
      exact .inl (by omega)
  · exfalso
    have m0 : m = 0 := by unfold Lw at hm; omega
    have n0 : n = 0 := by unfold Lw at hn; omega
    rw [m0, Nat.zero_shiftLeft] at s1
    rw [n0, Nat.zero_shiftLeft] at s2
    rw [m0, n0] at h
    omega
theorem faS [hx : Bd e x] [hy : Bd f y] (h : e ≤ 1000 ∧ f ≤ 1000 := by decide) : (FloatKind.f64.format.add x y).isSome = true := by
  obtain ⟨s, m, i, h1, _⟩ := hx.bd h.1
  obtain ⟨t, n, j, h2, _⟩ := hy.bd h.2
  obtain ⟨_, _, h3⟩ := sum_eq h1 h2
  rw [h3]; rfl
theorem fsS [hx : Bd e x] [hy : Bd f y] (h : e ≤ 1000 ∧ f ≤ 1000 := by decide) : (FloatKind.f64.format.sub x y).isSome = true := by
  obtain ⟨s, m, i, h1, _⟩ := hx.bd h.1
  obtain ⟨t, n, j, h2, _⟩ := hy.bd h.2
  obtain ⟨_, _, h3⟩ := sub_eq' h1 h2
  rw [h3]; rfl
instance bdA [hx : Bd e x] [hy : Bd f y] : Bd (max e f + 1) (fadd x y) := ⟨fun he => by
  obtain ⟨s, m, i, h1, k1⟩ := hx.bd (by omega)
  obtain ⟨t, n, j, h2, k2⟩ := hy.bd (by omega)
  obtain ⟨tot, h3, h4⟩ := sum_eq h1 h2
  obtain ⟨m', p', r1, r2, _⟩ := round_bd (if tot = 0 then s && t else tot < 0) (sum_bd k1 k2 h3) (by omega) (by omega)
  refine ⟨(if tot = 0 then s && t else tot < 0 : Bool), m', p', ?_, r2.mono (by omega)⟩
  unfold fadd; rw [h4]; exact r1⟩
instance bdB [hx : Bd e x] [hy : Bd f y] : Bd (max e f + 1) (fsub x y) := ⟨fun he => by
  obtain ⟨s, m, i, h1, k1⟩ := hx.bd (by omega)
  obtain ⟨t, n, j, h2, k2⟩ := hy.bd (by omega)
  obtain ⟨tot, h3, h4⟩ := sub_eq' h1 h2
  obtain ⟨m', p', r1, r2, _⟩ := round_bd (if tot = 0 then s && !t else tot < 0) (sum_bd k1 k2 h3) (by omega) (by omega)
  refine ⟨(if tot = 0 then s && !t else tot < 0 : Bool), m', p', ?_, r2.mono (by omega)⟩
  unfold fsub; rw [h4]; exact r1⟩
theorem signed_pos (m a : Nat) : Ieee.signed false m a = ((m <<< a : Nat) : Int) := rfl
instance poA [hx : Po e x] [hy : Po f y] : Po (max e f + 1) (fadd x y) := ⟨fun he => by
  obtain ⟨m, i, h1, k1⟩ := hx.po (by omega)
  obtain ⟨n, j, h2, k2⟩ := hy.po (by omega)
  obtain ⟨tot, h3, h4⟩ := sum_eq h1 h2
  obtain ⟨m', p', r1, r2, _⟩ := round_bd (if tot = 0 then false && false else tot < 0) (sum_bd k1 k2 h3) (by omega) (by omega)
  rw [signed_pos, signed_pos] at h3
  have h5 : 0 ≤ tot := by rw [h3]; exact Int.add_nonneg (Int.natCast_nonneg _) (Int.natCast_nonneg _)
  have e1 : (if tot = 0 then false && false else decide (tot < 0)) = false := by split; rfl; exact decide_eq_false (by omega)
  refine ⟨m', p', ?_, r2.mono (by omega)⟩
  unfold fadd; rw [h4]
  rw [e1] at r1 ⊢; exact r1⟩
instance pgA [hx : Po e x] [hy : Pg f y] : Pg (max e f + 1) (fadd x y) := ⟨fun he => by
  obtain ⟨m, i, h1, k1⟩ := hx.po (by omega)
  obtain ⟨n, j, h2, k2, k3, k4⟩ := hy.pg (by omega)
  obtain ⟨tot, h3, h4⟩ := sum_eq h1 h2
  obtain ⟨m', p', r1, r2, r3⟩ := round_bd (if tot = 0 then false && false else tot < 0) (sum_bd k1 k2 h3) (by omega) (by omega)
  rw [signed_pos, signed_pos] at h3
  have h5 : 0 ≤ tot := by rw [h3]; exact Int.add_nonneg (Int.natCast_nonneg _) (Int.natCast_nonneg _)
  have e1 : (if tot = 0 then false && false else decide (tot < 0)) = false := by split; rfl; exact decide_eq_false (by omega)
  have q1 : 2 ^ (n.log2 + (j - min i j).toNat) ≤ n <<< (j - min i j).toNat := by
    rw [Nat.shiftLeft_eq, Nat.pow_add]; exact Nat.mul_le_mul_right _ (Nat.log2_self_le k3)
  have h6 : tot.natAbs = m <<< (i - min i j).toNat + n <<< (j - min i j).toNat := by rw [h3, ← Int.natCast_add]; exact Int.natAbs_natCast _
  generalize n <<< (j - min i j).toNat = B at q1 h6
  generalize m <<< (i - min i j).toNat = A at h6
  have q2 : tot.natAbs ≠ 0 := by have := Nat.two_pow_pos (n.log2 + (j - min i j).toNat); omega
  have q3 : n.log2 + (j - min i j).toNat ≤ tot.natAbs.log2 := (Nat.le_log2 q2).2 (by omega)
  have r4 := r3 q2 (by omega)
  refine ⟨m', p', ?_, r2.mono (by omega), r4⟩
  unfold fadd; rw [h4]
  rw [e1] at r1 ⊢; exact r1⟩

theorem quo_bd {m n : Nat} {i j : Int} (hm : Lw m i e) (hm0 : m ≠ 0) (hn : n ≠ 0) (hn2 : 0 ≤ (n.log2 : Int) + j) (more : Nat) (hmore : n.log2 ≤ m.log2 + more) :
    Lw (2 * (m <<< more / n) + (m <<< more % n != 0).toNat) (i - j - more - 1) e := by
  unfold Lw at *
  by_cases h0 : 2 * (m <<< more / n) + (m <<< more % n != 0).toNat = 0
  · exact .inl h0
  refine .inr ?_
  have b := Bool.toNat_le (m <<< more % n != 0)
  have a : m < 2 ^ (m.log2 + 1) := Nat.lt_log2_self
  have a1 := Nat.log2_self_le hn
  rcases hm.resolve_left hm0 with h | ⟨h, h3⟩
  · have c := Nat.mul_lt_mul_of_pos_right a (Nat.two_pow_pos more)
    rw [← Nat.pow_add, ← Nat.shiftLeft_eq] at c
    obtain ⟨k, hk⟩ : ∃ k, k = m.log2 + 1 + more - n.log2 := ⟨_, rfl⟩
    have d : m <<< more / n < 2 ^ k := by
      rw [Nat.div_lt_iff_lt_mul (Nat.pos_of_ne_zero hn)]
      refine Nat.lt_of_lt_of_le c ?_
      rw [show m.log2 + 1 + more = k + n.log2 by omega, Nat.pow_add]
      exact Nat.mul_le_mul_left _ a1
    have g : 2 * (m <<< more / n) + (m <<< more % n != 0).toNat < 2 ^ (k + 1) := by rw [Nat.pow_succ]; omega
    have := (Nat.log2_lt h0).2 g
    exact .inl (by omega)
  · obtain ⟨k, hk⟩ : ∃ k, k = m.log2 + more - n.log2 := ⟨_, rfl⟩
    have hD : m <<< more = 2 ^ k * 2 ^ n.log2 := by rw [Nat.shiftLeft_eq, ← Nat.pow_add, show k + n.log2 = m.log2 + more by omega, Nat.pow_add, ← h]
    by_cases hn3 : n = 2 ^ n.log2
    · have d : m <<< more / n = 2 ^ k := by rw [hD, ← hn3]; exact Nat.mul_div_cancel _ (Nat.pos_of_ne_zero hn)
      have d2 : m <<< more % n = 0 := by rw [hD, ← hn3]; exact Nat.mul_mod_left _ _
      rw [d, d2] at h0 ⊢
      have g : 2 * 2 ^ k + ((0 : Nat) != 0).toNat = 2 ^ (k + 1) := by rw [Nat.pow_succ, Nat.mul_comm]; rfl
      rw [g]
      have g2 : (2 ^ (k + 1)).log2 = k + 1 := dlog_of (Nat.le_refl _) (Nat.pow_lt_pow_right (by decide) (by omega))
      rw [g2]
      by_cases g3 : (n.log2 : Int) + j = 0
      · exact .inr ⟨rfl, by omega⟩
      · exact .inl (by omega)
    · have d : m <<< more / n < 2 ^ k := by
        rw [Nat.div_lt_iff_lt_mul (Nat.pos_of_ne_zero hn), hD]
        exact Nat.mul_lt_mul_of_pos_left (by omega) (Nat.two_pow_pos k)
      have g : 2 * (m <<< more / n) + (m <<< more % n != 0).toNat < 2 ^ (k + 1) := by rw [Nat.pow_succ]; omega
      have := (Nat.log2_lt h0).2 g
      exact .inl (by omega)
theorem div_eq' {s t : Bool} {m n : Nat} {i j : Int} (hx : DD.read x = .number s m i) (hy : DD.read y = .number t n j) (hn : n ≠ 0) : ∃ more : Nat, more = 54 + n.log2 - m.log2 ∧
    DD.div x y = some (DD.nearest (s ^^ t) (2 * (m <<< more / n) + (m <<< more % n != 0).toNat) (i - j - more - 1)) := by
  refine ⟨_, rfl, ?_⟩
  unfold Ieee.Format.div; rw [hx, hy]
  simp only [Ieee.Datum.quotient, if_neg hn, dd_frac]
  rfl
theorem fdS [hx : Bd e x] [hy : Ge f y] (h : e ≤ 1000 ∧ f ≤ 1000 := by decide) : (FloatKind.f64.format.div x y).isSome = true := by
  obtain ⟨s, m, i, h1, _⟩ := hx.bd h.1
  obtain ⟨t, n, j, h2, _, h4, _⟩ := hy.ge h.2
  obtain ⟨_, _, h3⟩ := div_eq' h1 h2 h4
  rw [h3]; rfl
theorem zero_div {n more : Nat} : 2 * (0 <<< more / n) + (0 <<< more % n != 0).toNat = 0 := by simp
theorem quo_bd' {m n : Nat} {i j : Int} (hm2 : Lw m i e) (hn : n ≠ 0) (hn2 : 0 ≤ (n.log2 : Int) + j) {more : Nat} (hmore : more = 54 + n.log2 - m.log2) :
    Lw (2 * (m <<< more / n) + (m <<< more % n != 0).toNat) (i - j - more - 1) e := by
  by_cases hm : m = 0
  · subst hm; exact .inl zero_div
  · exact quo_bd hm2 hm hn hn2 more (by omega)
theorem bd_mono (e : Nat) {f : Nat} [h : Bd e x] (hf : e ≤ f := by decide) : Bd f x := ⟨fun he => by obtain ⟨s, m, p, h1, h2⟩ := h.bd (by omega); exact ⟨s, m, p, h1, h2.mono (by omega)⟩⟩
theorem bd_div [hx : Bd e x] [hy : Ge f y] (hf : f ≤ 1000 := by decide) : Bd e (fdiv x y) := ⟨fun he => by
  obtain ⟨s, m, i, h1, k1⟩ := hx.bd he
  obtain ⟨t, n, j, h2, k2, k3, k4⟩ := hy.ge hf
  obtain ⟨more, h3, h4⟩ := div_eq' h1 h2 k3
  obtain ⟨m', p', r1, r2, _⟩ := round_bd (s ^^ t) (quo_bd' k1 k3 k4 h3) (by omega) (by omega)
  refine ⟨(s ^^ t : Bool), m', p', ?_, r2⟩
  unfold fdiv; rw [h4]; exact r1⟩
instance bdD [hx : Bd e x] [hy : Ge f y] : Bd (max e f) (fdiv x y) := ⟨fun he => by
  obtain ⟨s, m, i, h1, k1⟩ := hx.bd (by omega)
  obtain ⟨t, n, j, h2, k2, k3, k4⟩ := hy.ge (by omega)
  obtain ⟨more, h3, h4⟩ := div_eq' h1 h2 k3
  obtain ⟨m', p', r1, r2, _⟩ := round_bd (s ^^ t) (quo_bd' k1 k3 k4 h3) (by omega) (by omega)
  refine ⟨(s ^^ t : Bool), m', p', ?_, r2.mono (by omega)⟩
  unfold fdiv; rw [h4]; exact r1⟩
instance poD [hx : Po e x] [hy : Pg f y] : Po (max e f) (fdiv x y) := ⟨fun he => by
  obtain ⟨m, i, h1, k1⟩ := hx.po (by omega)
  obtain ⟨n, j, h2, k2, k3, k4⟩ := hy.pg (by omega)
  obtain ⟨more, h3, h4⟩ := div_eq' h1 h2 k3
  obtain ⟨m', p', r1, r2, _⟩ := round_bd (false ^^ false) (quo_bd' k1 k3 k4 h3) (by omega) (by omega)
  refine ⟨m', p', ?_, r2.mono (by omega)⟩
  unfold fdiv; rw [h4]; exact r1⟩
end
end Go.Eng
