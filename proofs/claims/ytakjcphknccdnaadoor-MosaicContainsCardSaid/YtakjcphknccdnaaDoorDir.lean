/- The 4096 directions: each vector lies in one sector. Conditions: none. -/
import Derived.Test.YtakjcphknccdnaaDoorTab
namespace Go.Sky
open Go Go.Eng

def quarts (a : Nat) : Nat → Bool
  | 0 => true
  | n + 1 => (decide (quart a ≤ 16384) && decide (0 < quart (1024 - a)) && decide (quart a * quart (1024 - (a + 1)) < quart (1024 - a) * quart (a + 1))) && quarts (a + 1) n
theorem quarts_zero (a : Nat) : quarts a 0 = true := rfl
theorem quarts_succ (a n : Nat) : quarts a (n + 1) = ((decide (quart a ≤ 16384) && decide (0 < quart (1024 - a)) && decide (quart a * quart (1024 - (a + 1)) < quart (1024 - a) * quart (a + 1))) && quarts (a + 1) n) := rfl
theorem quarts_at (n : Nat) : ∀ a, quarts a n = true → ∀ k, a ≤ k → k < a + n → quart k ≤ 16384 ∧ 0 < quart (1024 - k) ∧ quart k * quart (1024 - (k + 1)) < quart (1024 - k) * quart (k + 1) := by
  induction n with
  | zero => intro a _ k h1 h2; omega
  | succ n ih =>
    intro a h k h1 h2
    rw [quarts_succ, Bool.and_eq_true, Bool.and_eq_true, Bool.and_eq_true] at h
    by_cases he : a = k
    · rw [← he]; exact ⟨of_decide_eq_true h.1.1.1, of_decide_eq_true h.1.1.2, of_decide_eq_true h.1.2⟩
    · exact ih (a + 1) h.2 k (by omega) (by omega)
set_option maxRecDepth 100000 in
theorem quarts_ok : quarts 0 1024 = true := by kernel_rfl
theorem quart_lo : quart 0 = 0 := by kernel_rfl
theorem quart_hi : quart 1024 = 16384 := by kernel_rfl
theorem quart_le {k : Nat} (h : k ≤ 1024) : quart k ≤ 16384 := by
  by_cases he : k = 1024
  · subst he; rw [quart_hi]; decide
  · exact (quarts_at 1024 0 quarts_ok k (by omega) (by omega)).1
theorem quart_pos {k : Nat} (h : k < 1024) : 0 < quart (1024 - k) := (quarts_at 1024 0 quarts_ok k (by omega) (by omega)).2.1
theorem quart_turn {k : Nat} (h : k < 1024) : quart k * quart (1024 - (k + 1)) < quart (1024 - k) * quart (k + 1) := (quarts_at 1024 0 quarts_ok k (by omega) (by omega)).2.2

theorem tab1 {n : Nat} (h : n ≤ 1024) : tabS n = (quart n : Int) := by unfold tabS; rw [Nat.ble_eq_true_of_le h]; rfl
theorem ble_f {a b : Nat} (h : b < a) : Nat.ble a b = false := by
  cases hb : Nat.ble a b with
  | false => rfl
  | true => have := Nat.le_of_ble_eq_true hb; omega
theorem tab2 {n : Nat} (h1 : 1024 < n) (h : n ≤ 2048) : tabS n = (quart (2048 - n) : Int) := by unfold tabS; rw [ble_f h1, Nat.ble_eq_true_of_le h]; rfl
theorem tab3 {n : Nat} (h1 : 2048 < n) (h : n ≤ 3072) : tabS n = -(quart (n - 2048) : Int) := by unfold tabS; rw [ble_f (show 1024 < n by omega), ble_f h1, Nat.ble_eq_true_of_le h]; rfl
theorem tab4 {n : Nat} (h1 : 3072 < n) : tabS n = -(quart (4096 - n) : Int) := by unfold tabS; rw [ble_f (show 1024 < n by omega), ble_f (show 2048 < n by omega), ble_f h1]; rfl
theorem tab_in {n : Nat} (h : n < 4096) : -16384 ≤ tabS n ∧ tabS n ≤ 16384 := by
  by_cases c1 : n ≤ 1024
  · rw [tab1 c1]; have := quart_le c1; omega
  by_cases c2 : n ≤ 2048
  · rw [tab2 (by omega) c2]; have := quart_le (show 2048 - n ≤ 1024 by omega); omega
  by_cases c3 : n ≤ 3072
  · rw [tab3 (by omega) c3]; have := quart_le (show n - 2048 ≤ 1024 by omega); omega
  · rw [tab4 (by omega)]; have := quart_le (show 4096 - n ≤ 1024 by omega); omega
theorem tab_half {n : Nat} (h : n < 4096) : tabS ((n + 2048) % 4096) = -tabS n := by
  by_cases c0 : n = 0
  · subst c0; rw [show (0 + 2048) % 4096 = 2048 from rfl, tab2 (n := 2048) (by decide) (by decide), tab1 (n := 0) (by decide), show 2048 - 2048 = 0 from rfl, quart_lo]; rfl
  by_cases c1 : n ≤ 1024
  · rw [show (n + 2048) % 4096 = n + 2048 by omega, tab3 (by omega) (by omega), tab1 c1, show n + 2048 - 2048 = n by omega]
  by_cases c2 : n ≤ 2048
  · by_cases c : n = 2048
    · subst c; rw [show (2048 + 2048) % 4096 = 0 from rfl, tab2 (n := 2048) (by decide) (by decide), tab1 (n := 0) (by decide), show 2048 - 2048 = 0 from rfl, quart_lo]; rfl
    · rw [show (n + 2048) % 4096 = n + 2048 by omega, tab4 (by omega), tab2 (by omega) c2, show 4096 - (n + 2048) = 2048 - n by omega]
  by_cases c3 : n ≤ 3072
  · rw [show (n + 2048) % 4096 = n - 2048 by omega, tab1 (by omega), tab3 (by omega) c3]; omega
  · rw [show (n + 2048) % 4096 = n - 2048 by omega, tab2 (by omega) (by omega), tab4 (by omega), show 2048 - (n - 2048) = 4096 - n by omega]; omega

def sn (k : Nat) : Int := tabS (k % 4096)
def cs (k : Nat) : Int := tabS ((k + 1024) % 4096)
theorem sn_in (k : Nat) : -16384 ≤ sn k ∧ sn k ≤ 16384 := tab_in (Nat.mod_lt _ (by decide))
theorem cs_in (k : Nat) : -16384 ≤ cs k ∧ cs k ≤ 16384 := tab_in (Nat.mod_lt _ (by decide))
theorem sn_turn (k : Nat) : sn (k + 1024) = cs k := rfl
theorem cs_turn (k : Nat) : cs (k + 1024) = -sn k := by
  unfold cs sn
  rw [show (k + 1024 + 1024) % 4096 = (k % 4096 + 2048) % 4096 by omega]
  exact tab_half (Nat.mod_lt _ (by decide))
theorem sn_round (k : Nat) : sn (k % 4096) = sn k := by unfold sn; rw [Nat.mod_mod]
theorem cs_round (k : Nat) : cs (k % 4096) = cs k := by unfold cs; rw [show (k % 4096 + 1024) % 4096 = (k + 1024) % 4096 by omega]
theorem sn_q {k : Nat} (h : k ≤ 1024) : sn k = (quart k : Int) := by unfold sn; rw [Nat.mod_eq_of_lt (by omega)]; exact tab1 h
theorem cs_q {k : Nat} (h : k ≤ 1024) : cs k = (quart (1024 - k) : Int) := by
  unfold cs
  rw [Nat.mod_eq_of_lt (by omega)]
  by_cases h0 : k = 0
  · subst h0; exact tab1 (by decide)
  · rw [tab2 (by omega) (by omega), show 2048 - (k + 1024) = 1024 - k by omega]

/-- The vector (x, y) lies in the sector k. -/
def Sec (k : Nat) (x y : Int) : Prop := 0 ≤ cs k * x - sn k * y ∧ 0 < y * sn (k + 1) - x * cs (k + 1) ∧ 0 < sn k * x + cs k * y
instance (k : Nat) (x y : Int) : Decidable (Sec k x y) := by unfold Sec; infer_instance
theorem sec_turn (k : Nat) (x y : Int) : Sec (k + 1024) x y ↔ Sec k (-y) x := by
  unfold Sec
  rw [show k + 1024 + 1 = k + 1 + 1024 by omega, sn_turn, sn_turn, cs_turn, cs_turn]
  generalize cs k = a; generalize sn k = b; generalize cs (k + 1) = c; generalize sn (k + 1) = d
  have e1 : -b * x - a * y = a * -y - b * x := by grind
  have e2 : y * c - x * -d = x * d - -y * c := by grind
  have e3 : a * x + -b * y = b * -y + a * x := by grind
  rw [e1, e2, e3]
theorem sec_round (k : Nat) (x y : Int) : Sec (k % 4096) x y ↔ Sec k x y := by
  unfold Sec
  have e1 : sn (k % 4096 + 1) = sn (k + 1) := by rw [← sn_round (k % 4096 + 1), ← sn_round (k + 1)]; congr 1; omega
  have e2 : cs (k % 4096 + 1) = cs (k + 1) := by rw [← cs_round (k % 4096 + 1), ← cs_round (k + 1)]; congr 1; omega
  rw [sn_round, cs_round, e1, e2]

theorem mul_nn {a b : Int} (ha : 0 ≤ a) (hb : 0 ≤ b) : 0 ≤ a * b := Int.mul_nonneg ha hb
theorem sec_first {k : Nat} {x y : Int} (hk : k < 1024) (h : Sec k x y) : 0 ≤ x ∧ 0 < y := by
  obtain ⟨h1, h2, h3⟩ := h
  rw [sn_q (by omega), cs_q (by omega)] at h1 h3
  rw [sn_q (by omega), cs_q (by omega)] at h2
  have p1 := quart_pos hk
  have p4 : 0 < quart (k + 1) := by
    have := quart_turn hk
    rcases Nat.eq_zero_or_pos (quart (k + 1)) with h | h
    · rw [h, Nat.mul_zero] at this; omega
    · exact h
  generalize quart k = a at *; generalize quart (1024 - k) = b at *; generalize quart (k + 1) = c at *; generalize quart (1024 - (k + 1)) = d at *
  have hy : 0 < y := by
    rcases Int.lt_or_le 0 y with hy | hy
    · exact hy
    · exfalso
      -- x <= 0, and the vector is behind
      have n1 : (a : Int) * y ≤ 0 := Int.mul_nonpos_of_nonneg_of_nonpos (Int.natCast_nonneg _) hy
      have n2 : (b : Int) * y ≤ 0 := Int.mul_nonpos_of_nonneg_of_nonpos (Int.natCast_nonneg _) hy
      have n3 : y * (c : Int) ≤ 0 := Int.mul_nonpos_of_nonpos_of_nonneg hy (Int.natCast_nonneg _)
      rcases Int.lt_or_le 0 x with hx | hx
      · have n4 : 0 ≤ x * (d : Int) := Int.mul_nonneg (Int.le_of_lt hx) (Int.natCast_nonneg _)
        omega
      · have n4 : (a : Int) * x ≤ 0 := Int.mul_nonpos_of_nonneg_of_nonpos (Int.natCast_nonneg _) hx
        omega
  refine ⟨?_, hy⟩
  rcases Int.lt_or_le x 0 with hx | hx
  · exfalso
    have n1 : 0 ≤ (a : Int) * y := Int.mul_nonneg (Int.natCast_nonneg _) (Int.le_of_lt hy)
    have n2 : (b : Int) * x < 0 := Int.mul_neg_of_pos_of_neg (by omega) hx
    omega
  · exact hx
/-- Behind a direction is behind the one before. -/
theorem behind_step {k : Nat} {x y : Int} (hk : k < 1024) (hy : 0 < y) (h : 0 ≤ cs (k + 1) * x - sn (k + 1) * y) : 0 ≤ cs k * x - sn k * y := by
  rw [sn_q (by omega), cs_q (by omega)] at h ⊢
  have p1 := quart_pos hk
  have t := quart_turn hk
  generalize quart k = a at *; generalize quart (1024 - k) = b at *; generalize quart (k + 1) = c at *; generalize quart (1024 - (k + 1)) = d at *
  have p4 : 0 < c := by rcases Nat.eq_zero_or_pos c with h | h; rw [h, Nat.mul_zero] at t; omega; exact h
  have t' : (a : Int) * d < b * c := by rw [← Int.natCast_mul, ← Int.natCast_mul]; exact Int.ofNat_lt.2 t
  rcases Nat.eq_zero_or_pos d with hd | hd
  · exfalso
    subst hd
    have : 0 < (c : Int) * y := Int.mul_pos (by omega) hy
    simp at h; omega
  · -- d (b x - a y) >= b (d x) - a d y >= b c y - a d y > 0
    have e1 : (d : Int) * ((b : Int) * x - a * y) = b * (d * x - c * y) + (b * c - a * d) * y := by grind
    have q1 : 0 ≤ (b : Int) * (d * x - c * y) := Int.mul_nonneg (by omega) h
    have q2 : 0 < ((b : Int) * c - a * d) * y := Int.mul_pos (by omega) hy
    have q3 : 0 < (d : Int) * ((b : Int) * x - a * y) := by omega
    rcases Int.lt_or_le ((b : Int) * x - a * y) 0 with h5 | h5
    · have := Int.mul_neg_of_pos_of_neg (show (0 : Int) < d by omega) h5; omega
    · exact h5
theorem behind_all {x y : Int} (hy : 0 < y) : ∀ (n k : Nat), k + n ≤ 1024 → 0 ≤ cs (k + n) * x - sn (k + n) * y → 0 ≤ cs k * x - sn k * y := by
  intro n
  induction n with
  | zero => intro k _ h; exact h
  | succ n ih => intro k hk h; exact ih k (by omega) (behind_step (k := k + n) (by omega) hy h)
theorem sec_one_lt {k l : Nat} {x y : Int} (hl : l < 1024) (hkl : k < l) (hy : 0 < y) (h : Sec k x y) (h' : Sec l x y) : False := by
  have a := behind_all (x := x) hy (l - (k + 1)) (k + 1) (by omega) (by rw [show k + 1 + (l - (k + 1)) = l by omega]; exact h'.1)
  have b := h.2.1
  generalize cs (k + 1) = c at *; generalize sn (k + 1) = d at *
  have e : y * d - x * c = -(c * x - d * y) := by grind
  omega
theorem sec_one {k l : Nat} {x y : Int} (hk : k < 1024) (hl : l < 1024) (h : Sec k x y) (h' : Sec l x y) : k = l := by
  have hy := (sec_first hk h).2
  rcases Nat.lt_trichotomy k l with c | c | c
  · exact (sec_one_lt hl c hy h h').elim
  · exact c
  · exact (sec_one_lt hk c hy h' h).elim
theorem sec_some {x y : Int} (hx : 0 ≤ x) (hy : 0 < y) : ∃ k, k < 1024 ∧ Sec k x y := by
  have key : ∀ n, n ≤ 1024 → (∃ k, k < n ∧ Sec k x y) ∨ 0 ≤ cs n * x - sn n * y := by
    intro n
    induction n with
    | zero =>
      intro _
      refine .inr ?_
      rw [sn_q (by omega), cs_q (by omega), quart_lo, show 1024 - 0 = 1024 from rfl, quart_hi]
      simp; omega
    | succ n ih =>
      intro hn
      rcases ih (by omega) with ⟨k, h1, h2⟩ | h
      · exact .inl ⟨k, by omega, h2⟩
      · by_cases c : 0 ≤ cs (n + 1) * x - sn (n + 1) * y
        · exact .inr c
        · refine .inl ⟨n, by omega, h, ?_, ?_⟩
          · generalize cs (n + 1) = q at *; generalize sn (n + 1) = d at *
            have e : y * d - x * q = -(q * x - d * y) := by grind
            omega
          · rw [sn_q (by omega), cs_q (by omega)]
            have p1 := quart_pos (show n < 1024 by omega)
            have q1 : 0 ≤ (quart n : Int) * x := Int.mul_nonneg (Int.natCast_nonneg _) hx
            have q2 : 0 < (quart (1024 - n) : Int) * y := Int.mul_pos (by omega) hy
            omega
  rcases key 1024 (by omega) with h | h
  · exact h
  · exfalso
    rw [sn_q (by omega), cs_q (by omega), show 1024 - 1024 = 0 from rfl, quart_lo, quart_hi] at h
    simp at h; omega

theorem sec_split {k : Nat} {x y : Int} (hk : k < 4096) (h : Sec k x y) : (k < 1024 ∧ 0 ≤ x ∧ 0 < y ∧ Sec k x y) ∨ (1024 ≤ k ∧ k < 2048 ∧ 0 ≤ -y ∧ 0 < x ∧ Sec (k - 1024) (-y) x) ∨
    (2048 ≤ k ∧ k < 3072 ∧ 0 ≤ -x ∧ 0 < -y ∧ Sec (k - 2048) (-x) (-y)) ∨ (3072 ≤ k ∧ 0 ≤ y ∧ 0 < -x ∧ Sec (k - 3072) y (-x)) := by
  by_cases c1 : k < 1024
  · exact .inl ⟨c1, (sec_first c1 h).1, (sec_first c1 h).2, h⟩
  have h1 : Sec (k - 1024) (-y) x := (sec_turn (k - 1024) x y).1 (by rw [show k - 1024 + 1024 = k by omega]; exact h)
  by_cases c2 : k < 2048
  · exact .inr (.inl ⟨by omega, c2, (sec_first (by omega) h1).1, (sec_first (by omega) h1).2, h1⟩)
  have h2 : Sec (k - 2048) (-x) (-y) := (sec_turn (k - 2048) (-y) x).1 (by rw [show k - 2048 + 1024 = k - 1024 by omega]; exact h1)
  by_cases c3 : k < 3072
  · exact .inr (.inr (.inl ⟨by omega, c3, (sec_first (by omega) h2).1, (sec_first (by omega) h2).2, h2⟩))
  have h3 : Sec (k - 3072) y (-x) := by
    have := (sec_turn (k - 3072) (-x) (-y)).1 (by rw [show k - 3072 + 1024 = k - 2048 by omega]; exact h2)
    rwa [Int.neg_neg] at this
  exact .inr (.inr (.inr ⟨by omega, (sec_first (by omega) h3).1, (sec_first (by omega) h3).2, h3⟩))
theorem sec_only {k l : Nat} {x y : Int} (hk : k < 4096) (hl : l < 4096) (h : Sec k x y) (h' : Sec l x y) : k = l := by
  rcases sec_split hk h with a | a | a | a <;> rcases sec_split hl h' with b | b | b | b <;> first | omega | skip
  · exact sec_one a.1 b.1 a.2.2.2 b.2.2.2
  · have := sec_one (by omega) (by omega) a.2.2.2.2 b.2.2.2.2; omega
  · have := sec_one (by omega) (by omega) a.2.2.2.2 b.2.2.2.2; omega
  · have := sec_one (by omega) (by omega) a.2.2.2 b.2.2.2; omega
theorem sec_any {x y : Int} (h : ¬ (x = 0 ∧ y = 0)) : ∃ k, k < 4096 ∧ Sec k x y := by
  by_cases c1 : 0 ≤ x ∧ 0 < y
  · obtain ⟨k, h1, h2⟩ := sec_some c1.1 c1.2
    exact ⟨k, by omega, h2⟩
  by_cases c2 : 0 ≤ -y ∧ 0 < x
  · obtain ⟨k, h1, h2⟩ := sec_some c2.1 c2.2
    exact ⟨k + 1024, by omega, (sec_turn k x y).2 h2⟩
  by_cases c3 : 0 ≤ -x ∧ 0 < -y
  · obtain ⟨k, h1, h2⟩ := sec_some c3.1 c3.2
    exact ⟨k + 1024 + 1024, by omega, (sec_turn _ x y).2 ((sec_turn k (-y) x).2 h2)⟩
  · obtain ⟨k, h1, h2⟩ := sec_some (x := y) (y := -x) (by omega) (by omega)
    exact ⟨k + 1024 + 1024 + 1024, by omega, (sec_turn _ x y).2 ((sec_turn _ (-y) x).2 ((sec_turn k (-x) (-y)).2 (by rw [Int.neg_neg]; exact h2)))⟩

/-- The sector of a vector. -/
def secN (x y : Int) : Nat := ((List.range 4096).find? (fun k => decide (Sec k x y))).getD 0
theorem secN_ok {x y : Int} (h : ¬ (x = 0 ∧ y = 0)) : secN x y < 4096 ∧ Sec (secN x y) x y := by
  obtain ⟨k, h1, h2⟩ := sec_any h
  unfold secN
  cases hf : (List.range 4096).find? (fun k => decide (Sec k x y)) with
  | none =>
    rw [List.find?_eq_none] at hf
    exact absurd (decide_eq_true h2) (hf k (List.mem_range.2 h1))
  | some l =>
    have a := List.find?_some hf
    have b := List.mem_of_find?_eq_some hf
    exact ⟨List.mem_range.1 b, of_decide_eq_true a⟩
theorem secN_eq {k : Nat} {x y : Int} (hk : k < 4096) (h : Sec k x y) : secN x y = k := by
  have h0 : ¬ (x = 0 ∧ y = 0) := by
    rintro ⟨rfl, rfl⟩
    have := h.2.2
    simp at this
  exact sec_only (secN_ok h0).1 hk (secN_ok h0).2 h
end Go.Sky
