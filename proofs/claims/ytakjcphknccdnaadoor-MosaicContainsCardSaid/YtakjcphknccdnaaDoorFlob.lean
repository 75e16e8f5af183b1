/- Doubles: literals, whole numbers, comparisons; tables of doubles that are read. Conditions: in each theorem. -/
import Derived.Test.YtakjcphknccdnaaDoorFlo
namespace Go.Eng
open Go.RowKit (Below)

def litB (e x : Nat) (s g : Bool) : Bool := match DD.read x with
  | .number t m p => (!s || !t) && (decide (m = 0) || (decide ((m.log2 : Int) + p < e) || (decide (m = 2 ^ m.log2) && decide ((m.log2 : Int) + p = e)))) && (!g || (decide (m ≠ 0) && decide (0 ≤ (m.log2 : Int) + p)))
  | _ => false
theorem lit_ok {e x : Nat} {s g : Bool} (h : litB e x s g = true) : ∃ t m p, DD.read x = .number t m p ∧ (s = true → t = false) ∧ Lw m p e ∧ (g = true → m ≠ 0 ∧ 0 ≤ (m.log2 : Int) + p) := by
  unfold litB at h
  split at h
  · rename_i t m p hr
    simp only [Bool.and_eq_true, Bool.or_eq_true, Bool.not_eq_true', decide_eq_true_eq] at h
    refine ⟨t, m, p, hr, fun hs => h.1.1.resolve_left (by rw [hs]; decide), h.1.2, fun hg => h.2.resolve_left (by rw [hg]; decide)⟩
  · cases h
section
variable {e x : Nat}
theorem bd_lit (h : litB e x false false = true) : Bd e x := ⟨fun _ => by obtain ⟨t, m, p, h1, _, h2, _⟩ := lit_ok h; exact ⟨t, m, p, h1, h2⟩⟩
theorem po_lit (h : litB e x true false = true) : Po e x := ⟨fun _ => by obtain ⟨t, m, p, h1, h0, h2, _⟩ := lit_ok h; rw [h0 rfl] at h1; exact ⟨m, p, h1, h2⟩⟩
theorem pg_lit (h : litB e x true true = true) : Pg e x := ⟨fun _ => by obtain ⟨t, m, p, h1, h0, h2, h3⟩ := lit_ok h; rw [h0 rfl] at h1; exact ⟨m, p, h1, h2, h3 rfl⟩⟩
end
set_option maxRecDepth 4000
instance : Pg 1 4608412980311869571 := pg_lit (by decide)
instance : Pg 0 4607182418800017408 := pg_lit (by decide)
instance : Po 0 4605249456957292544 := po_lit (by decide)
instance : Po 0 4495793288086814720 := po_lit (by decide)
instance : Po 0 4388835458085048688 := po_lit (by decide)
instance : Po 0 4602678819172646912 := po_lit (by decide)
instance : Po 0 4460209587652500685 := po_lit (by decide)
instance : Bd 0 13716528389658582877 := bd_lit (by decide)
instance : Po 0 4523617212962785441 := po_lit (by decide)
instance : Bd 0 13774824197404483331 := bd_lit (by decide)
instance : Po 0 4575957461383575504 := po_lit (by decide)
instance : Bd 0 13818544856648471880 := bd_lit (by decide)
instance : Bd 0 13666448263388469915 := bd_lit (by decide)
instance : Po 0 4477121864728985349 := po_lit (by decide)
instance : Bd 0 13732177093698800582 := bd_lit (by decide)
instance : Po 0 4537941361668146421 := po_lit (by decide)
instance : Bd 0 13787419979223748497 := bd_lit (by decide)
instance : Po 0 4586165620538955083 := po_lit (by decide)
instance : Pg 14 4670232813583204352 := pg_lit (by decide)
instance : Pg 2 4614256656552045848 := pg_lit (by decide)
instance : Pg 11 4656722014701092864 := pg_lit (by decide)
instance : Bd 0 13829429103926125972 := bd_lit (by decide)
instance : Bd 5 13848613196940411002 := bd_lit (by decide)
instance : Bd 7 13858350711815275123 := bd_lit (by decide)
instance : Bd 7 13861719834326579749 := bd_lit (by decide)
instance : Bd 7 13857635882265799822 := bd_lit (by decide)
instance : Pg 5 4627690253511319612 := pg_lit (by decide)
instance : Pg 8 4640010388282866213 := pg_lit (by decide)
instance : Pg 9 4646322940342877755 := pg_lit (by decide)
instance : Pg 9 4647246694406179306 := pg_lit (by decide)
instance : Pg 8 4641049159275471596 := pg_lit (by decide)
instance : Po 0 4604119971053405471 := po_lit (by decide)
instance : Pg 2 4612618744449965542 := pg_lit (by decide)
instance : Pg 1 4609753056924675352 := pg_lit (by decide)
instance : Po 0 4364452196894661639 := po_lit (by decide)
instance : Po 0 4605249457297304856 := po_lit (by decide)
instance : Po 0 4359948597267291143 := po_lit (by decide)
instance : Po 0 0 := po_lit (by decide)

section
variable {e f x y : Nat}
/-! Whole numbers. -/
theorem dbl_near (n : Int) : dbl n = DD.nearest (n < 0) n.natAbs 0 := rfl
theorem dbl_log {n : Int} (h : n.natAbs < 2 ^ e) : Lw n.natAbs 0 e := by
  by_cases h0 : n.natAbs = 0
  · exact .inl h0
  · have := (Nat.log2_lt h0).2 h; exact .inr (.inl (by omega))
theorem bd_dbl {n : Int} (e : Nat) (h : n.natAbs < 2 ^ e) : Bd e (dbl n) := ⟨fun he => by
  obtain ⟨m', p', r1, r2, _⟩ := round_bd (n < 0) (dbl_log h) (by omega) (by omega)
  exact ⟨_, m', p', r1, r2⟩⟩
theorem ge_dbl {n : Int} (e : Nat) (h : n.natAbs < 2 ^ e) (h0 : n ≠ 0) : Ge e (dbl n) := ⟨fun he => by
  obtain ⟨m', p', r1, r2, r3⟩ := round_bd (n < 0) (dbl_log h) (by omega) (by omega)
  have := r3 (by omega) (by omega)
  exact ⟨_, m', p', r1, r2, this⟩⟩
theorem po_dbl {n : Int} (e : Nat) (h : n.natAbs < 2 ^ e) (h0 : 0 ≤ n) : Po e (dbl n) := ⟨fun he => by
  obtain ⟨m', p', r1, r2, _⟩ := round_bd false (dbl_log h) (by omega) (by omega)
  refine ⟨m', p', ?_, r2⟩
  rw [dbl_near, decide_eq_false (by omega)]; exact r1⟩

theorem int_bd {m : Nat} {p : Int} (h : Lw m p e) : (m <<< p.toNat) / 2 ^ (min (-p).toNat ((m <<< p.toNat).log2 + 2)) ≤ 2 ^ e := by
  by_cases hp : 0 ≤ p
  · rw [show (-p).toNat = 0 by omega, Nat.zero_min, Nat.pow_zero, Nat.div_one]
    have := shl_le (b := 0) (K := e) (by rw [Int.zero_add]; exact h) hp
    rwa [Int.sub_zero] at this
  unfold Lw at h
  by_cases h0 : m = 0
  · rw [h0, Nat.zero_shiftLeft, Nat.zero_div]; exact Nat.zero_le _
  have h := h.resolve_left h0
  have a : m < 2 ^ (m.log2 + 1) := Nat.lt_log2_self
  rw [show p.toNat = 0 by omega, Nat.shiftLeft_zero]
  by_cases hq : (-p).toNat ≤ m.log2 + 2
  · rw [Nat.min_eq_left hq]
    rcases h with h | ⟨h, h3⟩
    · refine Nat.le_of_lt ?_
      rw [Nat.div_lt_iff_lt_mul (Nat.two_pow_pos _), ← Nat.pow_add]
      exact Nat.lt_of_lt_of_le a (Nat.pow_le_pow_right (by decide) (by omega))
    · refine Nat.div_le_of_le_mul ?_
      rw [← Nat.pow_add]
      refine Nat.le_trans (Nat.le_of_eq h) (Nat.pow_le_pow_right (by decide) (by omega))
  · rw [Nat.min_eq_right (by omega), Nat.div_eq_of_lt (Nat.lt_of_lt_of_le a (Nat.pow_le_pow_right (by decide) (by omega)))]
    exact Nat.zero_le _
theorem cutz (neg : Bool) (n drop : Nat) : Ieee.Toward.zero.cut neg n drop = n / 2 ^ (min drop (n.log2 + 2)) := by
  unfold Ieee.Toward.cut
  simp only [Nat.one_shiftLeft, Bool.toNat_false, Nat.add_zero]
theorem f2i_bd [h : Bd e x] (he : e ≤ 1000) : ∃ (s : Bool) (a : Nat), a ≤ 2 ^ e ∧ (FloatKind.f64.decode x).toInt .zero = some (if s then -(a : Int) else a) ∧ f2i x = if s then -(a : Int) else a := by
  obtain ⟨s, m, p, h1, h2⟩ := h.bd he
  have hb := int_bd h2
  have hr : FloatKind.f64.decode x = .number s m p := h1
  have ht : (FloatKind.f64.decode x).toInt .zero = some (if s then -((m <<< p.toNat / 2 ^ (min (-p).toNat ((m <<< p.toNat).log2 + 2)) : Nat) : Int) else (m <<< p.toNat / 2 ^ (min (-p).toNat ((m <<< p.toNat).log2 + 2)) : Nat)) := by
    rw [hr]
    simp only [Ieee.Datum.toInt, Ieee.Datum.integral, cutz, Ieee.signed, Nat.shiftLeft_zero]
  exact ⟨s, _, hb, ht, by unfold f2i; rw [ht]; rfl⟩
theorem f2S_i64 [h : Bd e x] (he : e ≤ 62 := by decide) : floatToIntVal .f64 x .i64 = some (f2i x) := by
  obtain ⟨s, a, h1, h2, h3⟩ := f2i_bd (x := x) (e := e) (by omega)
  have h4 : 2 ^ e ≤ 2 ^ 62 := Nat.pow_le_pow_right (by decide) he
  have h5 : (2 : Nat) ^ 62 = 4611686018427387904 := rfl
  have m1 : IntKind.i64.min = -9223372036854775808 := rfl
  have m2 : IntKind.i64.max = 9223372036854775807 := rfl
  unfold floatToIntVal
  rw [h2, h3]
  simp only
  rw [m1, m2, if_pos (by split <;> omega)]
theorem f2S_u64 [h : Po e x] (he : e ≤ 62 := by decide) : floatToIntVal .f64 x .u64 = some (f2i x) := by
  obtain ⟨m, p, h1, h2⟩ := h.po (by omega)
  have hb := int_bd h2
  have hr : FloatKind.f64.decode x = .number false m p := h1
  have h4 : 2 ^ e ≤ 2 ^ 62 := Nat.pow_le_pow_right (by decide) he
  have h5 : (2 : Nat) ^ 62 = 4611686018427387904 := rfl
  have ht : (FloatKind.f64.decode x).toInt .zero = some ((m <<< p.toNat / 2 ^ (min (-p).toNat ((m <<< p.toNat).log2 + 2)) : Nat) : Int) := by
    rw [hr]
    simp only [Ieee.Datum.toInt, Ieee.Datum.integral, cutz, Ieee.signed, Nat.shiftLeft_zero, Bool.false_eq_true, if_false]
  have m1 : IntKind.u64.min = 0 := rfl
  have m2 : IntKind.u64.max = 18446744073709551615 := rfl
  obtain ⟨a, ha⟩ : ∃ a, m <<< p.toNat / 2 ^ (min (-p).toNat ((m <<< p.toNat).log2 + 2)) = a := ⟨_, rfl⟩
  rw [ha] at hb ht
  unfold floatToIntVal f2i
  rw [ht]
  simp only
  rw [m1, m2, if_pos (by omega)]
  rfl
theorem f2i_po [h : Po e x] (he : e ≤ 1000 := by decide) : 0 ≤ f2i x ∧ (f2i x).natAbs ≤ 2 ^ e := by
  obtain ⟨m, p, h1, h2⟩ := h.po he
  have hb := int_bd h2
  have hr : FloatKind.f64.decode x = .number false m p := h1
  have ht : f2i x = ((m <<< p.toNat / 2 ^ (min (-p).toNat ((m <<< p.toNat).log2 + 2)) : Nat) : Int) := by
    unfold f2i; rw [hr]
    simp only [Ieee.Datum.toInt, Ieee.Datum.integral, cutz, Ieee.signed, Nat.shiftLeft_zero, Bool.false_eq_true, if_false, Option.getD_some]
  rw [ht]
  exact ⟨Int.natCast_nonneg _, by rw [Int.natAbs_natCast]; exact hb⟩

/-! The whole part below. -/
theorem floor_read [h : Bd e x] (he : e ≤ 1000) : ∃ (s : Bool) (a : Nat), a ≤ 2 ^ e + 1 ∧ FloatKind.f64.encode ((FloatKind.f64.decode x).integral .down) = DD.nearest s a 0 := by
  obtain ⟨s, m, p, h1, h2⟩ := h.bd he
  have hb := int_bd h2
  have hr : FloatKind.f64.decode x = .number s m p := h1
  refine ⟨s, Ieee.Toward.down.cut s (m <<< p.toNat) (-p).toNat, ?_, by rw [hr]; rfl⟩
  have := (cut_le .down s (m <<< p.toNat) (-p).toNat).2
  omega
instance bdF [h : Bd e x] : Bd (e + 1) (ffloor x) := ⟨fun he => by
  obtain ⟨s, a, h1, h2⟩ := floor_read (x := x) (e := e) (by omega)
  have h3 : Lw a 0 ((e + 1 : Nat) : Int) := by
    by_cases h0 : a = 0
    · exact .inl h0
    have hp := Nat.two_pow_pos e
    by_cases h5 : a = 2 ^ (e + 1)
    · have a4 : a.log2 = e + 1 := by rw [h5]; exact dlog_of (Nat.le_refl _) (Nat.pow_lt_pow_right (by decide) (by omega))
      exact .inr (.inr ⟨by rw [a4]; exact h5, by omega⟩)
    · have := (Nat.log2_lt h0).2 (show a < 2 ^ (e + 1) by rw [Nat.pow_succ] at h5 ⊢; omega)
      exact .inr (.inl (by omega))
  obtain ⟨m', p', r1, r2, _⟩ := round_bd s h3 (by omega) (by omega)
  refine ⟨s, m', p', ?_, r2⟩
  unfold ffloor; rw [h2]; exact r1⟩
theorem fflS [h : Bd e x] (he : e ≤ 1000 := by decide) : ∃ s m p, FloatKind.f64.decode x = .number s m p := by
  obtain ⟨s, m, p, h1, _⟩ := h.bd he
  exact ⟨s, m, p, h1⟩
theorem run_ffloor {f : FuncId} {P : Program} {w : World} {fn : Func} {b : Nat} (hf : P.funcs[f]? = some fn) (hname : (fn.name == "runtime.NumGoroutine") = false) (hb : fn.body.isNone = true) (hn : Extern.findNext fn = none)
    (he : Extern.find fn = some (Extern.MathFloor.toIntegral "math.archFloor" .down)) (hx : ∃ s m p, FloatKind.f64.decode b = .number s m p) : (callFunc f #[.float .f64 b]).run P w = .ok (.value (.float .f64 (ffloor b))) w := by
  rw [run_callFunc_extern hf hname hb hn he]
  obtain ⟨s, m, p, h⟩ := hx
  have e : Extern.MathFloor.toIntegral "math.archFloor" .down #[.float .f64 b] = pure (.float .f64 (ffloor b)) := by
    unfold ffloor
    conv => lhs; whnf
    rw [h]
  rw [e]
  rfl

/-! Signs. -/
/-- A sign and a rung, read. -/
def mkD (s : Bool) (r : Nat) : Ieee.Datum :=
  if r < DD.binade then .number s r DD.leastPlace else if r < DD.infRung then .number s (DD.binade + r % DD.binade) (DD.leastPlace + (r / DD.binade - 1 : Nat)) else if r = DD.infRung then .infinity s else .nan s (r - DD.infRung)
theorem read_mk (x : Nat) : DD.read x = mkD (x / DD.signWeight % 2 == 1) (x % DD.signWeight) := rfl
theorem mkD_opp (s : Bool) (r : Nat) : mkD (!s) r = (mkD s r).opposite := by
  unfold mkD
  by_cases c1 : r < DD.binade
  · rw [if_pos c1, if_pos c1]; rfl
  rw [if_neg c1, if_neg c1]
  by_cases c2 : r < DD.infRung
  · rw [if_pos c2, if_pos c2]; rfl
  rw [if_neg c2, if_neg c2]
  by_cases c3 : r = DD.infRung
  · rw [if_pos c3, if_pos c3]; rfl
  · rw [if_neg c3, if_neg c3]; rfl
theorem mkD_num {s : Bool} {r m : Nat} {p : Int} (h : mkD s r = .number s m p) (t : Bool) : mkD t r = .number t m p := by
  unfold mkD at h ⊢
  by_cases c1 : r < DD.binade
  · rw [if_pos c1] at h ⊢; cases h; rfl
  rw [if_neg c1] at h ⊢
  by_cases c2 : r < DD.infRung
  · rw [if_pos c2] at h ⊢; cases h; rfl
  rw [if_neg c2] at h
  by_cases c3 : r = DD.infRung
  · rw [if_pos c3] at h; cases h
  · rw [if_neg c3] at h; cases h
theorem mkD_sign {s t : Bool} {r m : Nat} {p : Int} (h : mkD s r = .number t m p) : t = s := by
  unfold mkD at h
  by_cases c1 : r < DD.binade
  · rw [if_pos c1] at h; cases h; rfl
  rw [if_neg c1] at h
  by_cases c2 : r < DD.infRung
  · rw [if_pos c2] at h; cases h; rfl
  rw [if_neg c2] at h
  by_cases c3 : r = DD.infRung
  · rw [if_pos c3] at h; cases h
  · rw [if_neg c3] at h; cases h
theorem read_sign (x : Nat) : DD.read (fneg x) = (DD.read x).opposite := by
  have h1 : (x ^^^ 9223372036854775808) % 9223372036854775808 = x % 9223372036854775808 := by
    have := Nat.xor_mod_two_pow (a := x) (b := 9223372036854775808) (n := 63)
    rw [show (2 : Nat) ^ 63 = 9223372036854775808 from rfl, Nat.mod_self, Nat.xor_zero] at this
    exact this
  have h2 : (x ^^^ 9223372036854775808) / 9223372036854775808 = (x / 9223372036854775808) ^^^ 1 := by
    have := Nat.xor_div_two_pow (a := x) (b := 9223372036854775808) (n := 63)
    rw [show (2 : Nat) ^ 63 = 9223372036854775808 from rfl] at this
    rw [this]
  have h3 : (((x / 9223372036854775808) ^^^ 1) % 2 == 1) = !(x / 9223372036854775808 % 2 == 1) := by
    have := Nat.xor_mod_two_pow (a := x / 9223372036854775808) (b := 1) (n := 1)
    rw [Nat.pow_one] at this
    rw [this]
    rcases Nat.mod_two_eq_zero_or_one (x / 9223372036854775808) with h | h <;> rw [h] <;> rfl
  rw [read_mk, read_mk, fneg, dd_sign, h1, h2, h3, mkD_opp]
instance bdN [h : Bd e x] : Bd e (fneg x) := ⟨fun he => by
  obtain ⟨s, m, p, h1, h2⟩ := h.bd he
  exact ⟨!s, m, p, by rw [read_sign, h1]; rfl, h2⟩⟩

/-! Comparisons. -/
theorem order_num {s t : Bool} {m n : Nat} {i j : Int} (hx : DD.read x = .number s m i) (hy : DD.read y = .number t n j) : fcm x y = some (compare (Ieee.signed s m (i - min i j).toNat) (Ieee.signed t n (j - min i j).toNat)) := by
  unfold fcm Ieee.Format.order
  rw [show FloatKind.f64.format.read x = .number s m i from hx, show FloatKind.f64.format.read y = .number t n j from hy]; rfl
theorem dcmp_self (a : Int) : compare a a = Ordering.eq := by
  show compareOfLessAndEq a a = _
  unfold compareOfLessAndEq
  rw [if_neg (by omega), if_pos rfl]
theorem dcmp_lt {a b : Int} : compare a b = Ordering.lt ↔ a < b := by
  show compareOfLessAndEq a b = _ ↔ _
  unfold compareOfLessAndEq
  by_cases h : a < b
  · simp [h]
  · by_cases h2 : a = b <;> simp [h, h2]
theorem dcmp_gt {a b : Int} : compare a b = Ordering.gt ↔ b < a := by
  show compareOfLessAndEq a b = _ ↔ _
  unfold compareOfLessAndEq
  by_cases h : a < b
  · simp [h]; omega
  · by_cases h2 : a = b <;> simp [h, h2]; omega
theorem fne_self [h : Bd e x] (he : e ≤ 1000 := by decide) : fne x x = false := by
  obtain ⟨s, m, p, h1, _⟩ := h.bd he
  unfold fne; rw [order_num h1 h1, dcmp_self]; rfl
theorem signed_le {s : Bool} {m a : Nat} : Ieee.signed s m a ≤ ((m <<< a : Nat) : Int) := by
  unfold Ieee.signed; cases s
  · exact Int.le_refl _
  · have := Int.natCast_nonneg (m <<< a)
    show -((m <<< a : Nat) : Int) ≤ _
    generalize ((m <<< a : Nat) : Int) = z at this ⊢
    omega
/-- What is less than 2^e is not a number n with 2^e ≤ n. -/
theorem fge_no [h : Bd e x] {n : Nat} {j : Int} (hy : DD.read y = .number false n j) (hn : n ≠ 0) (hj : (e : Int) < n.log2 + j) (he : e ≤ 1000) : fge x y = false := by
  obtain ⟨s, m, i, h1, h2⟩ := h.bd he
  have hlt : Ieee.signed s m (i - min i j).toNat < Ieee.signed false n (j - min i j).toNat := by
    refine Int.lt_of_le_of_lt signed_le ?_
    rw [signed_pos]
    refine Int.ofNat_lt.2 ?_
    have q1 : 2 ^ (n.log2 + (j - min i j).toNat) ≤ n <<< (j - min i j).toNat := by
      rw [Nat.shiftLeft_eq, Nat.pow_add]; exact Nat.mul_le_mul_right _ (Nat.log2_self_le hn)
    refine Nat.lt_of_lt_of_le ?_ q1
    by_cases hz : 0 ≤ (e : Int) - min i j
    · have c := shl_le (m := m) (i := i) (b := min i j) (K := ((e : Int) - min i j).toNat) (h2.mono (by omega)) (by omega)
      exact Nat.lt_of_le_of_lt c (Nat.pow_lt_pow_right (by decide) (by omega))
    · have m0 : m = 0 := by unfold Lw at h2; omega
      rw [m0, Nat.zero_shiftLeft]; exact Nat.two_pow_pos _
  unfold fge; rw [order_num h1 hy, dcmp_lt.2 hlt]; rfl
theorem fge_thr [h : Bd e x] (he : e < 29 := by decide) : fge x 4737786807993761792 = false := by
  refine fge_no (n := 4503599627370496) (j := -23) rfl (by decide) ?_ (by omega)
  rw [show Nat.log2 4503599627370496 = 52 from dlog_of (by decide) (by decide)]; omega
theorem fgt_max [h : Bd e x] (he : e ≤ 1000 := by decide) : fgt x 9218868437227405311 = false := by
  have g : fge x 9218868437227405311 = false := by
    refine fge_no (n := 9007199254740991) (j := 971) rfl (by decide) ?_ he
    rw [show Nat.log2 9007199254740991 = 52 from dlog_of (by decide) (by decide)]; omega
  unfold fge at g; unfold fgt
  exact (Bool.or_eq_false_iff.1 g).1
theorem read_z : DD.read 0 = .number false 0 (-1074) := rfl
theorem sgn_zero (a : Nat) : Ieee.signed false 0 a = 0 := by unfold Ieee.signed; rw [Nat.zero_shiftLeft]; rfl
theorem flt_po [h : Po e x] (he : e ≤ 1000 := by decide) : flt x 0 = false := by
  obtain ⟨m, p, h1, _⟩ := h.po he
  unfold flt; rw [order_num h1 read_z, sgn_zero, signed_pos]
  have : ¬ compare ((m <<< (p - min p (-1074)).toNat : Nat) : Int) 0 = Ordering.lt := by
    rw [dcmp_lt]; exact Int.not_lt.2 (Int.natCast_nonneg _)
  generalize compare ((m <<< (p - min p (-1074)).toNat : Nat) : Int) 0 = c at this
  cases c
  · exact absurd rfl this
  · rfl
  · rfl
/-- What is greater than zero is positive. -/
theorem po_of_gt [h : Bd e x] (hg : fgt x 0 = true) : Po e x := ⟨fun he => by
  obtain ⟨s, m, p, h1, h2⟩ := h.bd he
  unfold fgt at hg; rw [order_num h1 read_z, sgn_zero] at hg
  have : compare (Ieee.signed s m (p - min p (-1074)).toNat) 0 = Ordering.gt := by
    generalize compare (Ieee.signed s m (p - min p (-1074)).toNat) 0 = c at hg
    cases c
    · cases hg
    · cases hg
    · rfl
  rw [dcmp_gt] at this
  cases s
  · exact ⟨m, p, h1, h2⟩
  · exfalso
    have e1 : Ieee.signed true m (p - min p (-1074)).toNat = -((m <<< (p - min p (-1074)).toNat : Nat) : Int) := rfl
    rw [e1] at this
    have := Int.natCast_nonneg (m <<< (p - min p (-1074)).toNat)
    generalize ((m <<< (p - min p (-1074)).toNat : Nat) : Int) = z at *
    omega⟩
theorem po_of_neg [h : Bd e x] (hz : feq x 0 = false) (hg : fgt x 0 = false) : Po e (fneg x) := ⟨fun he => by
  obtain ⟨s, m, p, h1, h2⟩ := h.bd he
  cases s
  · exfalso
    unfold feq at hz; unfold fgt at hg
    rw [order_num h1 read_z, sgn_zero, signed_pos] at hz hg
    have n1 := Int.natCast_nonneg (m <<< (p - min p (-1074)).toNat)
    generalize ((m <<< (p - min p (-1074)).toNat : Nat) : Int) = z at *
    rcases Int.lt_trichotomy 0 z with c | c | c
    · rw [dcmp_gt.2 c] at hg; cases hg
    · subst c; cases hz
    · omega
  · exact ⟨m, p, by rw [read_sign, h1]; rfl, h2⟩⟩
/-- What is greater than a number that is 1 or more is so too. -/
theorem pg_of_gt [h : Bd e x] [hy : Pg f y] (hf : f ≤ 1000) (hg : fgt x y = true) : Pg e x := ⟨fun he => by
  obtain ⟨s, m, i, h1, h2⟩ := h.bd he
  obtain ⟨n, j, k1, k2, k3, k4⟩ := hy.pg hf
  unfold fgt at hg; rw [order_num h1 k1, signed_pos] at hg
  have : compare (Ieee.signed s m (i - min i j).toNat) ((n <<< (j - min i j).toNat : Nat) : Int) = Ordering.gt := by
    generalize compare (Ieee.signed s m (i - min i j).toNat) ((n <<< (j - min i j).toNat : Nat) : Int) = c at hg
    cases c
    · cases hg
    · cases hg
    · rfl
  rw [dcmp_gt] at this
  have q1 : 2 ^ (n.log2 + (j - min i j).toNat) ≤ n <<< (j - min i j).toNat := by
    rw [Nat.shiftLeft_eq, Nat.pow_add]; exact Nat.mul_le_mul_right _ (Nat.log2_self_le k3)
  cases s
  · rw [signed_pos] at this
    have t2 := Int.ofNat_lt.1 this
    have m0 : m ≠ 0 := by
      intro hm; rw [hm, Nat.zero_shiftLeft] at t2; exact Nat.not_lt_zero _ t2
    have a : m < 2 ^ (m.log2 + 1) := Nat.lt_log2_self
    have c := Nat.mul_lt_mul_of_pos_right a (Nat.two_pow_pos (i - min i j).toNat)
    rw [← Nat.pow_add, ← Nat.shiftLeft_eq] at c
    have d : 2 ^ (n.log2 + (j - min i j).toNat) < 2 ^ (m.log2 + 1 + (i - min i j).toNat) := Nat.lt_of_le_of_lt q1 (Nat.lt_trans t2 c)
    have d2 := (Nat.pow_lt_pow_iff_right (by decide : 1 < 2)).1 d
    exact ⟨m, i, h1, h2, m0, by omega⟩
  · exfalso
    have e1 : Ieee.signed true m (i - min i j).toNat = -((m <<< (i - min i j).toNat : Nat) : Int) := rfl
    rw [e1] at this
    have n1 := Int.natCast_nonneg (m <<< (i - min i j).toNat)
    have n2 := Int.natCast_nonneg (n <<< (j - min i j).toNat)
    generalize ((m <<< (i - min i j).toNat : Nat) : Int) = z at *
    generalize ((n <<< (j - min i j).toNat : Nat) : Int) = z2 at *
    omega⟩
theorem lw_of_shl {m : Nat} {i b : Int} {K : Nat} (h : m <<< (i - b).toNat ≤ 2 ^ K) (hi : b ≤ i) : Lw m i (b + K) := by
  by_cases h0 : m = 0
  · exact .inl h0
  rw [Nat.shiftLeft_eq] at h
  have a1 := Nat.mul_le_mul_right (2 ^ (i - b).toNat) (Nat.log2_self_le h0)
  rw [← Nat.pow_add] at a1
  have a2 := (Nat.pow_le_pow_iff_right (by decide : 1 < 2)).1 (Nat.le_trans a1 h)
  by_cases h3 : m.log2 + (i - b).toNat = K
  · refine .inr (.inr ⟨?_, by omega⟩)
    rw [← h3, Nat.pow_add] at h
    exact Nat.le_antisymm (Nat.le_of_mul_le_mul_right h (Nat.two_pow_pos _)) (Nat.log2_self_le h0)
  · exact .inr (.inl (by omega))
/-- What is no more than a number is bounded as it is. -/
theorem po_of_ngt [h : Po e x] [hy : Po f y] (hg : fgt x y = false) (he : e ≤ 1000 := by decide) : Po f x := ⟨fun hf => by
  obtain ⟨m, i, h1, h2⟩ := h.po he
  obtain ⟨n, j, k1, k2⟩ := hy.po hf
  unfold fgt at hg; rw [order_num h1 k1, signed_pos, signed_pos] at hg
  have hc : ¬ compare ((m <<< (i - min i j).toNat : Nat) : Int) ((n <<< (j - min i j).toNat : Nat) : Int) = Ordering.gt := by
    intro hc; rw [hc] at hg; cases hg
  rw [dcmp_gt] at hc
  have hle : m <<< (i - min i j).toNat ≤ n <<< (j - min i j).toNat := Int.ofNat_le.1 (Int.not_lt.1 hc)
  refine ⟨m, i, h1, ?_⟩
  by_cases hz : 0 ≤ (f : Int) - min i j
  · have c := shl_le (m := n) (i := j) (b := min i j) (K := ((f : Int) - min i j).toNat) (k2.mono (by omega)) (by omega)
    exact (lw_of_shl (Nat.le_trans hle c) (by omega)).mono (by omega)
  · have n0 : n = 0 := by unfold Lw at k2; omega
    rw [n0, Nat.zero_shiftLeft, Nat.shiftLeft_eq] at hle
    have p1 := Nat.two_pow_pos (i - min i j).toNat
    rcases Nat.eq_zero_or_pos m with hm | hm
    · exact .inl hm
    · have := Nat.mul_pos hm p1; omega⟩
theorem fle_ngt (h : fle x y = true) : fgt x y = false := by
  unfold fle at h; unfold fgt
  generalize fcm x y = c at h
  rcases c with _ | _ | _ | _ <;> first | rfl | cases h
theorem bd_up (h : Bd e x) (hf : e ≤ f := by decide) : Bd f x := ⟨fun he => by obtain ⟨s, m, p, h1, h2⟩ := h.bd (by omega); exact ⟨s, m, p, h1, h2.mono (by omega)⟩⟩
theorem po_up (h : Po e x) (hf : e ≤ f := by decide) : Po f x := ⟨fun he => by obtain ⟨m, p, h1, h2⟩ := h.po (by omega); exact ⟨m, p, h1, h2.mono (by omega)⟩⟩
theorem bd_let [h : Bd e x] (hr : x = y) : Bd e y := hr ▸ h
theorem po_let [h : Po e x] (hr : x = y) : Po e y := hr ▸ h
theorem inst_bd [h : Bd e x] (hf : e ≤ f := by decide) : Bd f x := bd_up h hf
theorem inst_po [h : Po e x] (hf : e ≤ f := by decide) : Po f x := po_up h hf
/-- The double of a whole number that is not great. -/
def IsI (y : Nat) : Prop := ∃ n : Int, n.natAbs < 2 ^ 21 ∧ y = dbl n
theorem isI_bd (h : IsI y) : Bd 21 y := by obtain ⟨n, h1, rfl⟩ := h; exact bd_dbl 21 h1
theorem isI_lt (h : IsI y) : y < 18446744073709551616 := by obtain ⟨n, h1, rfl⟩ := h; exact Go.Sky.dbl_lt n
theorem dbl_ne {n : Int} (h : feq (dbl n) 0 = false) : n ≠ 0 := by
  intro h0; subst h0; cases h
theorem isI_ge (h : IsI y) (h0 : feq y 0 = false) : Ge 21 y := by obtain ⟨n, h1, rfl⟩ := h; exact ge_dbl 21 h1 (dbl_ne h0)

/-! The sign of another, the magnitude. -/
theorem bd_mod (hxy : x % 9223372036854775808 = y % 9223372036854775808) [h : Bd e y] : Bd e x := ⟨fun he => by
  obtain ⟨s, m, p, h1, h2⟩ := h.bd he
  rw [read_mk] at h1 ⊢
  rw [show x % DD.signWeight = y % DD.signWeight from hxy]
  have hs := mkD_sign h1
  subst hs
  exact ⟨_, m, p, mkD_num h1 _, h2⟩⟩
end

/-! Tables. -/
/-- The variable g holds these doubles. -/
def TabF (w : World) (g : Nat) (zs : List Nat) : Prop := g < w.heap.size ∧ ∀ i z, zs[i]? = some z → w.cell? ⟨g, i, none⟩ = some (.float .f64 z)
theorem feet_no {b : Nat} : ¬ feet [] b := by rintro ⟨_, h, _⟩; cases h
theorem TabF.sat {w0 w : World} {D : Nat → Prop} {M : Mem} {g : Nat} {zs : List Nat} (h : TabF w0 g zs) (hM : Sat ⟨w0, D⟩ M w) (hD : ¬ D g := by first | exact (fun h => h) | exact feet_no) : TabF w g zs := by
  refine ⟨Nat.lt_of_lt_of_le h.1 hM.chg.size, fun i z hz => ?_⟩
  have := h.2 i z hz
  unfold World.cell? at this ⊢
  rw [show w.heap[(⟨g, i, none⟩ : Addr).block]? = w0.heap[(⟨g, i, none⟩ : Addr).block]? from hM.chg.block g h.1 hD]
  exact this
theorem run_load_tab {P : Program} {w : World} {T g i z : Nat} {zs : List Nat} (h : TabF w g zs) (hz : zs[i]? = some z) (hT : isOne P T = true) :
    (sV (Instr.loadAt T (.pointer (some ⟨g, i, none⟩)))).run P w = .ok (.value (.float .f64 z)) w := by
  have hR : Rd w 1 (some ⟨g, i, none⟩) [#[.float .f64 z]] := ⟨show 1 < 4611686018427387904 by decide, fun k r hk => by
    cases k with
    | succ k => cases hk
    | zero =>
      cases hk
      refine ⟨rfl, _, rfl, h.1, fun j v hj => ?_⟩
      cases j with
      | succ j => simp at hj
      | zero =>
        simp at hj; subst hj
        exact h.2 i z hz⟩
  exact run_load_one (off := 0) (i := 0) (.float .f64 z) hR rfl hT rfl
end Go.Eng
