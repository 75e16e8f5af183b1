/- What a scan decides, in plain Lean: by the counted bits of the history. Conditions: in each lemma. -/
import Derived.Test.YtbhemgagabdjkaaBegin
import Derived.Test.YtbhemgagabdjkaaBegSwar
namespace Go.Sky
open Go Go.Eng

theorem pcN_le : ∀ k n, pcN k n ≤ k
  | 0, _ => Nat.le_refl _
  | k + 1, n => by have := pcN_le k (n / 2); unfold pcN; omega
theorem pcN_zero : ∀ k, pcN k 0 = 0
  | 0 => rfl
  | k + 1 => by have := pcN_zero k; unfold pcN; rw [Nat.zero_div]; omega
theorem pcN_mod : ∀ (k j n : Nat), j ≤ k → pcN k (n % 2 ^ j) = pcN j n
  | k, 0, n, _ => by rw [Nat.pow_zero, Nat.mod_one, pcN_zero]; rfl
  | 0, j + 1, n, h => absurd h (by omega)
  | k + 1, j + 1, n, h => by
    have h2 : (2 : Nat) ^ (j + 1) = 2 * 2 ^ j := by rw [Nat.pow_succ, Nat.mul_comm]
    have e1 : n % 2 ^ (j + 1) % 2 = n % 2 := by rw [h2]; exact Nat.mod_mul_right_mod n 2 (2 ^ j)
    have e2 : n % 2 ^ (j + 1) / 2 = n / 2 % 2 ^ j := by rw [h2]; exact Nat.mod_mul_right_div_self n 2 (2 ^ j)
    unfold pcN
    rw [e1, e2, pcN_mod k j (n / 2) (by omega)]
/-- Each bit of a is one of b. -/
def Sub (a b : Nat) : Prop := ∀ i, a.testBit i = true → b.testBit i = true
theorem Sub.refl (a : Nat) : Sub a a := fun _ h => h
theorem Sub.half {a b : Nat} (h : Sub a b) : Sub (a / 2) (b / 2) := fun i hi => by
  rw [Nat.testBit_div_two] at hi ⊢; exact h _ hi
theorem Sub.low {a b : Nat} (h : Sub a b) : a % 2 ≤ b % 2 := by
  have := h 0
  rw [Nat.testBit_zero, Nat.testBit_zero] at this
  simp only [decide_eq_true_eq] at this
  omega
theorem Sub.count : ∀ (k : Nat) {a b : Nat}, Sub a b → pcN k a ≤ pcN k b
  | 0, _, _, _ => Nat.le_refl _
  | k + 1, a, b, h => by
    have h1 := Sub.count k h.half
    have h2 := h.low
    unfold pcN; omega
theorem Sub.push {a b : Nat} (h : Sub a b) {x y : Bool} (hxy : x = true → y = true) : Sub ((2 * a) % 65536 + x.toNat) ((2 * b) % 65536 + y.toNat) := fun i hi => by
  have hx := x.toNat_le
  have hy := y.toNat_le
  cases i with
  | zero =>
    rw [Nat.testBit_zero] at hi ⊢
    simp only [decide_eq_true_eq] at hi ⊢
    cases x
    · simp only [Bool.toNat_false] at hi; omega
    · rw [hxy rfl]; simp only [Bool.toNat_true]; omega
  | succ i =>
    rw [← Nat.testBit_div_two] at hi ⊢
    have e1 : ((2 * a) % 65536 + x.toNat) / 2 = a % 2 ^ 15 := by
      have : (2 : Nat) ^ 15 = 32768 := rfl
      omega
    have e2 : ((2 * b) % 65536 + y.toNat) / 2 = b % 2 ^ 15 := by
      have : (2 : Nat) ^ 15 = 32768 := rfl
      omega
    rw [e1, Nat.testBit_mod_two_pow] at hi
    rw [e2, Nat.testBit_mod_two_pow]
    simp only [Bool.and_eq_true, decide_eq_true_eq] at hi ⊢
    exact ⟨hi.1, h i hi.2⟩

theorem hits_eq {H n : Nat} (s : Int) (hH : H < 65536) (hn : n ≤ 16) : begin_hits ⟨(H : Int), s⟩ (n : Int) = (pcN n H : Int) := by
  have hp := pow_scans hn
  have hp2 : (2 : Int) ^ n = ((2 ^ n : Nat) : Int) := by simp
  rw [hp2] at hp
  have h1 : w64 (1 * 2 ^ (min (n : Int).toNat 64)) = ((2 ^ n : Nat) : Int) := by
    rw [show min ((n : Int).toNat) 64 = n by omega, hp2, w64_id (by omega)]; omega
  have h2 : w64 (((2 ^ n : Nat) : Int) - 1) = ((2 ^ n - 1 : Nat) : Int) := by rw [w64_id (by omega)]; omega
  have h3 : H % 2 ^ n < 65536 := Nat.lt_of_le_of_lt (Nat.mod_le _ _) hH
  unfold begin_hits
  simp only [h1, h2]
  rw [kand_nat64 (by omega) (by omega), Nat.and_two_pow_sub_one_eq_mod, wu64_nat' (by omega), ones_swar h3, swar_all h3, pcN_mod 16 n H hn]

/-- Whether a confirmation is still possible. -/
def alive (H : Nat) (need : Int) (n : Nat) : Nat → Nat → Bool
  | 0, _ => false
  | m + 1, k => (decide ((pcN (n - (1 + k)) H : Int) > 0) && decide ((pcN (n - (1 + k)) H : Int) + (1 + (k : Int)) ≥ need)) || alive H need n m (k + 1)
theorem alive_mono {H H' : Nat} (h : Sub H H') (need : Int) (n : Nat) : ∀ m k, alive H need n m k = true → alive H' need n m k = true
  | 0, _, e => e
  | m + 1, k, e => by
    have h1 := h.count (n - (1 + k))
    unfold alive at e ⊢
    simp only [Bool.or_eq_true, Bool.and_eq_true, decide_eq_true_eq] at e ⊢
    rcases e with e | e
    · left; omega
    · right; exact alive_mono h need n m (k + 1) e
theorem alive_zero (need : Int) (n : Nat) : ∀ m k, alive 0 need n m k = false
  | 0, _ => rfl
  | m + 1, k => by
    unfold alive
    rw [alive_zero need n m (k + 1), pcN_zero]
    rfl

/-- 1: confirmed; 2: dropped. -/
def verdict (H : Nat) (s need : Int) (n : Nat) : Int :=
  if (pcN n H : Int) ≥ need then 1 else if s < n then 0 else if alive H need n (n - 1) 0 then 0 else 2

def pushN (H : Nat) (x : Bool) : Nat := (2 * H) % 65536 + x.toNat
theorem pushN_lt (H : Nat) (x : Bool) : pushN H x < 65536 := by
  have := x.toNat_le; unfold pushN; omega
theorem pushN_hit (H : Nat) (x : Bool) : pushHit (H : Int) x = (pushN H x : Int) := by
  unfold pushHit pushN; cases x <;> simp

theorem step_alive1 {b : BeginState} {H n : Nat} {s : Int} (hb : (⟨kor .i64 (kand .i64 (w64 (b.Hits * 2 ^ 1)) 65535) 1, imin 16 (w64 (b.Scans + 1))⟩ : BeginState) = ⟨(H : Int), s⟩) (hH : H < 65536) (hn : n ≤ 16) (need : Int) : ∀ m k, k + m = n - 1 →
    begin_step_L1 b need (n : Int) m k = if alive H need n m k = true then .inr (⟨(H : Int), s⟩, 0) else .inl ()
  | 0, _, _ => by simp [begin_step_L1, alive]
  | m + 1, k, hk => by
    have ih := step_alive1 hb hH hn need m (k + 1) (by omega)
    have e0 : w64 ((n : Int) - (1 + (k : Int))) = ((n - (1 + k) : Nat) : Int) := by rw [w64_id (by omega)]; omega
    have hle := pcN_le (n - (1 + k)) H
    have e1 : w64 ((pcN (n - (1 + k)) H : Int) + (1 + (k : Int))) = (pcN (n - (1 + k)) H : Int) + (1 + (k : Int)) := w64_id (by omega)
    unfold begin_step_L1 alive
    rw [hb]
    simp only [e0, hits_eq s hH (show n - (1 + k) ≤ 16 by omega), e1, ih]
    cases (decide ((pcN (n - (1 + k)) H : Int) > 0) && decide ((pcN (n - (1 + k)) H : Int) + (1 + (k : Int)) ≥ need)) <;> simp
theorem step_alive2 {b : BeginState} {H n : Nat} {s : Int} (hb : (⟨kand .i64 (w64 (b.Hits * 2 ^ 1)) 65535, imin 16 (w64 (b.Scans + 1))⟩ : BeginState) = ⟨(H : Int), s⟩) (hH : H < 65536) (hn : n ≤ 16) (need : Int) : ∀ m k, k + m = n - 1 →
    begin_step_L2 b need (n : Int) m k = if alive H need n m k = true then .inr (⟨(H : Int), s⟩, 0) else .inl ()
  | 0, _, _ => by simp [begin_step_L2, alive]
  | m + 1, k, hk => by
    have ih := step_alive2 hb hH hn need m (k + 1) (by omega)
    have e0 : w64 ((n : Int) - (1 + (k : Int))) = ((n - (1 + k) : Nat) : Int) := by rw [w64_id (by omega)]; omega
    have hle := pcN_le (n - (1 + k)) H
    have e1 : w64 ((pcN (n - (1 + k)) H : Int) + (1 + (k : Int))) = (pcN (n - (1 + k)) H : Int) + (1 + (k : Int)) := w64_id (by omega)
    unfold begin_step_L2 alive
    rw [hb]
    simp only [e0, hits_eq s hH (show n - (1 + k) ≤ 16 by omega), e1, ih]
    cases (decide ((pcN (n - (1 + k)) H : Int) > 0) && decide ((pcN (n - (1 + k)) H : Int) + (1 + (k : Int)) ≥ need)) <;> simp

theorem step_eq {H n : Nat} {s : Int} (x : Bool) (need : Int) (hH : H < 65536) (hs : 0 ≤ s ∧ s ≤ 16) (hn : 1 ≤ n ∧ n ≤ 16) :
    begin_step ⟨(H : Int), s⟩ x need (n : Int) = (⟨(pushN H x : Int), min 16 (s + 1)⟩, verdict (pushN H x) (min 16 (s + 1)) need n) := by
  have e : imin 16 (w64 (s + 1)) = min 16 (s + 1) := by rw [w64_id (by omega)]; unfold imin; split <;> omega
  have hlt := pushN_lt H x
  have hm : ((n : Int) - 1).toNat = n - 1 := by omega
  unfold begin_step verdict
  cases x
  · have hb : (⟨kand .i64 (w64 ((H : Int) * 2 ^ 1)) 65535, imin 16 (w64 (s + 1))⟩ : BeginState) = ⟨(pushN H false : Int), min 16 (s + 1)⟩ := by rw [push_no (by omega), e, pushN_hit]
    have hl := step_alive2 (b := ⟨(H : Int), s⟩) (n := n) hb hlt hn.2 need (n - 1) 0 (by omega)
    rw [cond_false]
    simp only [hb]
    simp only [hits_eq _ hlt hn.2, e, hm, hl, ite_of_cond, decide_eq_true_eq]
    split
    · rfl
    · split
      · rfl
      · split <;> rfl
  · have hb : (⟨kor .i64 (kand .i64 (w64 ((H : Int) * 2 ^ 1)) 65535) 1, imin 16 (w64 (s + 1))⟩ : BeginState) = ⟨(pushN H true : Int), min 16 (s + 1)⟩ := by rw [push_yes (by omega), e, pushN_hit]
    have hl := step_alive1 (b := ⟨(H : Int), s⟩) (n := n) hb hlt hn.2 need (n - 1) 0 (by omega)
    rw [cond_true]
    simp only [hb]
    simp only [hits_eq _ hlt hn.2, e, hm, hl, ite_of_cond, decide_eq_true_eq]
    split
    · rfl
    · split
      · rfl
      · split <;> rfl
end Go.Sky
