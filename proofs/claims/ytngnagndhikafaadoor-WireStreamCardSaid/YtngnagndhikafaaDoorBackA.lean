/- Bytes of an encoded frame, read back. Conditions: in each theorem. -/
import Derived.Test.YtngnagndhikafaaDoorBytes
import Derived.Test.YtngnagndhikafaaDoorFixB
namespace Go.Sky
open Go Go.Eng

def val (a : Nat) : List Nat → Nat
  | [] => a
  | b :: l => val (a * 256 + b) l
theorem kor_acc {a b : Nat} (ha : a < 72057594037927936) (hb : b ≤ 255) : kor .u64 (wu64 ((a : Int) * 2 ^ 8)) (wu64 (b : Int)) = ((a * 256 + b : Nat) : Int) := by
  rw [wu64_id (x := (b : Int)) (by omega), wu64_id (x := (a : Int) * 2 ^ 8) (by omega)]
  have e : ((a : Int) * 2 ^ 8) = ((a * 256 : Nat) : Int) := by omega
  rw [e, fkor_u64 (by omega) (by omega)]
  have h : 2 ^ 8 * a + b = 2 ^ 8 * a ||| b := Nat.two_pow_add_eq_or_of_lt (by omega) a
  rw [show a * 256 = 2 ^ 8 * a from Nat.mul_comm a 256, ← h]
theorem get_L (x : ByteArray) : ∀ (l : List Nat) (k a : Nat), (∀ b ∈ l, b ≤ 255) → (∀ i, i < l.length → bat x (k + i) = ((l[i]?.getD 0 : Nat) : Int)) → (a + 1) * 256 ^ l.length ≤ 18446744073709551616 → wire_get_L1 x l.length k (a : Int) = ((val a l : Nat) : Int)
  | [], _, _, _, _, _ => rfl
  | b :: l, k, a, hb, hx, hlt => by
    have h0 := hx 0 (by simp)
    simp only [Nat.add_zero, List.getElem?_cons_zero, Option.getD_some] at h0
    have hb0 := hb b (List.mem_cons_self ..)
    rw [List.length_cons, Nat.pow_succ] at hlt
    have h1 : 1 ≤ 256 ^ l.length := Nat.pow_pos (show 0 < 256 by decide)
    have h2 : (a + 1) * 256 ≤ 18446744073709551616 := Nat.le_trans (by
      have := Nat.mul_le_mul_left ((a + 1) * 256) h1
      rw [Nat.mul_one] at this
      exact this) (by rw [Nat.mul_assoc, Nat.mul_comm 256]; exact hlt)
    show wire_get_L1 x (l.length + 1) k (a : Int) = _
    unfold wire_get_L1
    rw [h0, kor_acc (by omega) hb0]
    unfold val
    refine get_L x l (k + 1) (a * 256 + b) (fun c hc => hb c (List.mem_cons_of_mem _ hc)) (fun i hi => ?_) ?_
    · have := hx (i + 1) (by simp; omega)
      rw [show k + (i + 1) = k + 1 + i by omega, List.getElem?_cons_succ] at this
      exact this
    · have : (a * 256 + b + 1) * 256 ^ l.length ≤ ((a + 1) * 256) * 256 ^ l.length := Nat.mul_le_mul_right _ (by omega)
      refine Nat.le_trans this ?_
      rw [Nat.mul_assoc, Nat.mul_comm 256]; exact hlt

/-- The same bytes as natural numbers. -/
def ben (n : Nat) : Nat → List Nat
  | 0 => []
  | m + 1 => n / 256 ^ m % 256 :: ben n m
theorem ben_length (n : Nat) : ∀ m, (ben n m).length = m
  | 0 => rfl
  | m + 1 => by rw [ben, List.length_cons, ben_length n m]
theorem ben_le (n : Nat) : ∀ m, ∀ b ∈ ben n m, b ≤ 255
  | 0, b, h => absurd h List.not_mem_nil
  | m + 1, b, h => by
    rw [ben] at h
    rcases List.mem_cons.1 h with rfl | h
    · have := Nat.mod_lt (n / 256 ^ m) (show 0 < 256 by decide); omega
    · exact ben_le n m b h
theorem be_ben (n : Nat) : ∀ m, m ≤ 8 → be (n : Int) m = (ben n m).map (fun b : Nat => (b : Int))
  | 0, _ => rfl
  | m + 1, h => by
    rw [be, ben, List.map_cons, be_ben n m (by omega)]
    congr 1
    rw [Nat.min_eq_left (by omega), Int.fdiv_eq_ediv_of_nonneg _ (Int.le_of_lt (Int.pow_pos (by decide))), show (2 : Int) ^ (8 * m) = ((256 ^ m : Nat) : Int) by rw [show (256 : Nat) ^ m = 2 ^ (8 * m) by rw [Nat.pow_mul]]; simp, ← Int.natCast_ediv]
    exact IntKind.wrap_u8 _
theorem val_ben (n : Nat) : ∀ (m a : Nat), val a (ben n m) = a * 256 ^ m + n % 256 ^ m
  | 0, a => by simp [ben, val, Nat.mod_one]
  | m + 1, a => by
    rw [ben, val, val_ben n m, Nat.pow_succ, Nat.mod_mul, Nat.add_mul]
    have : a * 256 * 256 ^ m = a * (256 ^ m * 256) := by rw [Nat.mul_assoc, Nat.mul_comm 256]
    rw [this, Nat.mul_comm (256 ^ m) (n / 256 ^ m % 256)]
    omega
/-- get reads what put wrote. -/
theorem get_be {x : ByteArray} {n m : Nat} (hm : m ≤ 8) (hn : n < 256 ^ m) (hs : x.size = m) (h : ∀ i, i < m → bat x i = (be (n : Int) m)[i]?.getD 0) : wire_get x = (n : Int) := by
  unfold wire_get bindv
  rw [hs]
  have e := get_L x (ben n m) 0 0 (ben_le n m) (fun i hi => by
    rw [ben_length] at hi
    rw [Nat.zero_add, h i hi, be_ben n m hm, List.getElem?_map]
    cases (ben n m)[i]? <;> rfl) (by
    rw [ben_length, Nat.zero_add, Nat.one_mul]
    exact Nat.le_trans (Nat.pow_le_pow_right (by decide) hm) (by decide))
  rw [ben_length, val_ben, Nat.zero_mul, Nat.zero_add, Nat.mod_eq_of_lt hn] at e
  exact e
end Go.Sky
