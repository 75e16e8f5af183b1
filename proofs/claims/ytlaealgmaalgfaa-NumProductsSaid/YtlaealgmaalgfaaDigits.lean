/- Numbers as digits of 16 bits: the reference's products and their comparison. Conditions: in each theorem. -/
import Derived.Test.YtlaealgmaalgfaaWp
namespace Go.Sky
open Go Go.Eng

def val : List Int → Int
  | [] => 0
  | d :: l => d + 65536 * val l
theorem val_append : ∀ (l m : List Int), val (l ++ m) = val l + 65536 ^ l.length * val m
  | [], m => by simp [val]
  | d :: l, m => by
    rw [List.cons_append, val, val, val_append l m, List.length_cons, Int.pow_succ]
    grind
theorem val_set : ∀ (l : List Int) (i : Nat) (v : Int), i < l.length → val (l.set i v) = val l + 65536 ^ i * (v - l[i]?.getD 0)
  | [], i, v, h => by simp at h
  | d :: l, 0, v, _ => by simp [val]; omega
  | d :: l, i + 1, v, h => by
    rw [List.length_cons] at h
    rw [List.set_cons_succ, val, val, val_set l i v (by omega), List.getElem?_cons_succ, Int.pow_succ]
    grind
def Dig (l : List Int) : Prop := ∀ d ∈ l, 0 ≤ d ∧ d < 65536
theorem val_bound : ∀ (l : List Int), Dig l → 0 ≤ val l ∧ val l < 65536 ^ l.length
  | [], _ => by simp [val]
  | d :: l, h => by
    have h1 := h d (List.mem_cons_self ..)
    have h2 := val_bound l (fun x hx => h x (List.mem_cons_of_mem _ hx))
    rw [val, List.length_cons, Int.pow_succ]
    omega
theorem val_nonneg : ∀ (l : List Int), (∀ d ∈ l, 0 ≤ d) → 0 ≤ val l
  | [], _ => Int.le_refl _
  | d :: l, h => by
    have h1 := h d (List.mem_cons_self ..)
    have h2 := val_nonneg l (fun x hx => h x (List.mem_cons_of_mem _ hx))
    rw [val]; omega

theorem kand16 (x : Int) : kand .i64 x 65535 = x % 65536 := by
  have e : (BitVec.ofInt IntKind.i64.bits x &&& BitVec.ofInt IntKind.i64.bits 65535).toNat = (x % 65536).toNat := by
    rw [BitVec.toNat_and, BitVec.toNat_ofInt, show (BitVec.ofInt IntKind.i64.bits 65535).toNat = 2 ^ 16 - 1 by decide, Nat.and_two_pow_sub_one_eq_mod]
    have hs : ((2 ^ IntKind.i64.bits : Nat) : Int) = 18446744073709551616 := rfl
    rw [hs]
    show (x % 18446744073709551616).toNat % 65536 = _
    omega
  unfold kand
  rw [e]
  show w64 _ = _
  rw [w64_id (by omega)]; omega

/-- The digits of the two's complement. -/
theorem limbs1 (n : Int) : skywayref1_limbs_L1 n (4 : Int).toNat 0 [] = [n % 65536, n / 65536 % 65536, n / 4294967296 % 65536, n / 281474976710656 % 65536] := by
  show skywayref1_limbs_L1 n 4 0 [] = _
  simp only [skywayref1_limbs_L1, kand16, fdiv_pow]
  simp only [List.nil_append, List.cons_append]
  congr 1
  · simp [w64_id]
theorem limbs2 {d0 d1 d2 d3 : Int} (h0 : 0 ≤ d0 ∧ d0 < 65536) (h1 : 0 ≤ d1 ∧ d1 < 65536) (h2 : 0 ≤ d2 ∧ d2 < 65536) (h3 : 0 ≤ d3 ∧ d3 < 65536) (hne : 1 ≤ val [d0, d1, d2, d3]) :
    ∃ e0 e1 e2 e3 : Int, skywayref1_limbs_L2 4 0 1 [d0, d1, d2, d3] = [e0, e1, e2, e3] ∧ Dig [e0, e1, e2, e3] ∧ val [e0, e1, e2, e3] = 18446744073709551616 - val [d0, d1, d2, d3] := by
  have step : ∀ r d : Int, 0 ≤ r ∧ r ≤ 1 → 0 ≤ d ∧ d < 65536 → (w64 (r + w64 (65535 - d))).tdiv 65536 = (r + (65535 - d)) / 65536 ∧ (w64 (r + w64 (65535 - d))).tmod 65536 = (r + (65535 - d)) % 65536 ∧ w64 ((r + (65535 - d)) / 65536) = (r + (65535 - d)) / 65536 ∧ (0 ≤ (r + (65535 - d)) / 65536 ∧ (r + (65535 - d)) / 65536 ≤ 1) := by
    intro r d hr hd
    rw [w64_id (x := 65535 - d) (by omega), w64_id (x := r + (65535 - d)) (by omega), Int.tdiv_eq_ediv_of_nonneg (by omega), Int.tmod_eq_emod_of_nonneg (by omega)]
    exact ⟨rfl, rfl, w64_id (by omega), by omega⟩
  obtain ⟨a1, a2, a3, a4⟩ := step 1 d0 (by omega) h0
  obtain ⟨b1, b2, b3, b4⟩ := step _ d1 a4 h1
  obtain ⟨c1, c2, c3, c4⟩ := step _ d2 b4 h2
  obtain ⟨f1, f2, f3, f4⟩ := step _ d3 c4 h3
  refine ⟨(1 + (65535 - d0)) % 65536, ((1 + (65535 - d0)) / 65536 + (65535 - d1)) % 65536, (((1 + (65535 - d0)) / 65536 + (65535 - d1)) / 65536 + (65535 - d2)) % 65536, ((((1 + (65535 - d0)) / 65536 + (65535 - d1)) / 65536 + (65535 - d2)) / 65536 + (65535 - d3)) % 65536, ?_, ?_, ?_⟩
  · unfold skywayref1_limbs_L2
    simp only [List.getElem?_cons_zero, Option.getD_some, List.set_cons_zero, a1, a2, a3]
    unfold skywayref1_limbs_L2
    simp only [Nat.zero_add, List.getElem?_cons_succ, List.getElem?_cons_zero, Option.getD_some, List.set_cons_zero, List.set_cons_succ, b1, b2, b3]
    unfold skywayref1_limbs_L2
    simp only [Nat.reduceAdd, List.getElem?_cons_succ, List.getElem?_cons_zero, Option.getD_some, List.set_cons_zero, List.set_cons_succ, c1, c2, c3]
    unfold skywayref1_limbs_L2
    simp only [Nat.reduceAdd, List.getElem?_cons_succ, List.getElem?_cons_zero, Option.getD_some, List.set_cons_zero, List.set_cons_succ, f1, f2, f3]
    rfl
  · intro d hd
    simp only [List.mem_cons, List.not_mem_nil, or_false] at hd
    rcases hd with rfl | rfl | rfl | rfl <;> omega
  · simp only [val] at hne ⊢
    omega
theorem limbs_spec {n : Int} (h : -9223372036854775808 ≤ n ∧ n ≤ 9223372036854775807) : (skywayref1_limbs n).length = 4 ∧ Dig (skywayref1_limbs n) ∧ val (skywayref1_limbs n) = if n ≥ 0 then n else -n := by
  refine ⟨limbs_len rfl, ?_⟩
  unfold skywayref1_limbs bindv
  rw [limbs1]
  by_cases hn : n ≥ 0
  · rw [decide_eq_true hn, if_pos hn]
    simp only [cond_true]
    refine ⟨fun d hd => ?_, ?_⟩
    · simp only [List.mem_cons, List.not_mem_nil, or_false] at hd
      rcases hd with rfl | rfl | rfl | rfl <;> omega
    · simp only [val]; omega
  · rw [decide_eq_false hn, if_neg hn]
    have hv : val [n % 65536, n / 65536 % 65536, n / 4294967296 % 65536, n / 281474976710656 % 65536] = n + 18446744073709551616 := by simp only [val]; omega
    obtain ⟨e0, e1, e2, e3, q1, q2, q3⟩ := limbs2 (d0 := n % 65536) (d1 := n / 65536 % 65536) (d2 := n / 4294967296 % 65536) (d3 := n / 281474976710656 % 65536) (by omega) (by omega) (by omega) (by omega) (by omega)
    simp only [cond_false]
    show Dig (skywayref1_limbs_L2 4 0 1 _) ∧ val (skywayref1_limbs_L2 4 0 1 _) = _
    rw [q1]
    exact ⟨q2, by omega⟩

def Bnd (l : List Int) (B : Int) : Prop := ∀ d ∈ l, 0 ≤ d ∧ d ≤ B
theorem Bnd.get {l : List Int} {B : Int} (h : Bnd l B) (hB : 0 ≤ B) (i : Nat) : 0 ≤ l[i]?.getD 0 ∧ l[i]?.getD 0 ≤ B := by
  cases hi : l[i]? with
  | none => exact ⟨Int.le_refl _, hB⟩
  | some d => exact h d (List.mem_of_getElem? hi)
theorem Bnd.set {l : List Int} {B C : Int} (h : Bnd l B) (i : Nat) {v : Int} (hv : 0 ≤ v ∧ v ≤ C) (hBC : B ≤ C) : Bnd (l.set i v) C := fun d hd => by
  rcases List.mem_or_eq_of_mem_set hd with g | rfl
  · have := h d g; omega
  · exact hv

theorem product2 {k : Nat} {x : Int} (hx : 0 ≤ x ∧ x < 65536) : ∀ (l : List Int) (j : Nat) (out : List Int) (B : Int), Dig l → k + j + l.length ≤ out.length → out.length ≤ 9 → 0 ≤ B → B + 4294836225 * (l.length : Int) ≤ 1000000000000 → Bnd out B →
    Bnd (skywayref1_product_L2 k x l j out) (B + 4294836225 * (l.length : Int)) ∧ val (skywayref1_product_L2 k x l j out) = val out + 65536 ^ (k + j) * (x * val l)
  | [], j, out, B, _, _, _, _, _, hb => by
    refine ⟨by rw [List.length_nil, show B + 4294836225 * ((0 : Nat) : Int) = B by omega]; exact hb, ?_⟩
    show val out = _
    simp [val]
  | y :: l, j, out, B, hl, h1, h2, hB, hs, hb => by
    rw [List.length_cons] at h1 hs
    have hy := hl y (List.mem_cons_self ..)
    have p : 0 ≤ x * y ∧ x * y ≤ 4294836225 := ⟨Int.mul_nonneg hx.1 hy.1, Int.le_trans (Int.mul_le_mul (show x ≤ 65535 by omega) (show y ≤ 65535 by omega) hy.1 (by decide)) (by decide)⟩
    unfold skywayref1_product_L2
    have ei : (w64 ((k : Int) + (j : Int))).toNat = k + j := by rw [w64_id (by omega)]; omega
    have g := hb.get hB (k + j)
    rw [ei, w64_id (x := x * y) (by omega), w64_id (x := out[k + j]?.getD 0 + x * y) (by omega)]
    obtain ⟨a1, a2⟩ := product2 (k := k) hx l (j + 1) (out.set (k + j) (out[k + j]?.getD 0 + x * y)) (B + 4294836225) (fun d hd => hl d (List.mem_cons_of_mem _ hd)) (by rw [List.length_set]; omega) (by rw [List.length_set]; exact h2) (by omega) (by omega) (hb.set (k + j) (by omega) (by omega))
    refine ⟨by rw [List.length_cons, show B + 4294836225 * ((l.length + 1 : Nat) : Int) = B + 4294836225 + 4294836225 * (l.length : Int) by omega]; exact a1, ?_⟩
    rw [a2, val_set out (k + j) _ (by omega), val, ← Nat.add_assoc, Int.pow_succ]
    grind
theorem product1 {r2 : List Int} (h2 : Dig r2) (hl2 : r2.length = 4) : ∀ (l : List Int) (k : Nat) (out : List Int) (B : Int), Dig l → k + l.length ≤ 4 → out.length = 9 → 0 ≤ B → B + 17179344900 * (l.length : Int) ≤ 900000000000 → Bnd out B →
    Bnd (skywayref1_product_L1 r2 l k out) (B + 17179344900 * (l.length : Int)) ∧ val (skywayref1_product_L1 r2 l k out) = val out + 65536 ^ k * (val l * val r2)
  | [], k, out, B, _, _, _, _, _, hb => by
    refine ⟨by rw [List.length_nil, show B + 17179344900 * ((0 : Nat) : Int) = B by omega]; exact hb, ?_⟩
    show val out = _
    simp [val]
  | x :: l, k, out, B, hl, hk, ho, hB, hs, hb => by
    rw [List.length_cons] at hk hs
    have hx := hl x (List.mem_cons_self ..)
    obtain ⟨a1, a2⟩ := product2 (k := k) hx r2 0 out B h2 (by omega) (by omega) hB (by rw [hl2]; omega) hb
    rw [hl2] at a1
    unfold skywayref1_product_L1 bindv
    obtain ⟨b1, b2⟩ := product1 h2 hl2 l (k + 1) (skywayref1_product_L2 k x r2 0 out) (B + 17179344900) (fun d hd => hl d (List.mem_cons_of_mem _ hd)) (by omega) (by rw [product_len2]; exact ho) (by omega) (by omega) (by rw [show B + 4294836225 * ((4 : Nat) : Int) = B + 17179344900 by omega] at a1; exact a1)
    refine ⟨by rw [List.length_cons, show B + 17179344900 * ((l.length + 1 : Nat) : Int) = B + 17179344900 + 17179344900 * (l.length : Int) by omega]; exact b1, ?_⟩
    show val (skywayref1_product_L1 r2 l (k + 1) (skywayref1_product_L2 k x r2 0 out)) = _
    rw [b2, a2, val, Nat.add_zero, Int.pow_succ]
    grind
/-- The carries. -/
theorem product3 : ∀ (m k : Nat) (r : Int) (out : List Int), m + k = out.length → 0 ≤ r ∧ r ≤ 1000000000000 → Bnd out 1000000000000 → Dig (out.take k) →
    ∃ r', 0 ≤ r' ∧ Dig (skywayref1_product_L3 m k r out) ∧ val (skywayref1_product_L3 m k r out) + 65536 ^ out.length * r' = val out + 65536 ^ k * r
  | 0, k, r, out, hm, hr, _, hd => by
    refine ⟨r, hr.1, ?_, ?_⟩
    · show Dig out
      rw [List.take_of_length_le (by omega)] at hd; exact hd
    · show val out + _ = _
      rw [show k = out.length by omega]
  | m + 1, k, r, out, hm, hr, hb, hd => by
    have g := hb.get (by decide) k
    have w : w64 (r + out[k]?.getD 0) = r + out[k]?.getD 0 := w64_id (by omega)
    unfold skywayref1_product_L3
    rw [w, Int.tdiv_eq_ediv_of_nonneg (by omega), Int.tmod_eq_emod_of_nonneg (by omega), w64_id (x := (r + out[k]?.getD 0) / 65536) (by omega)]
    obtain ⟨r', q1, q2, q3⟩ := product3 m (k + 1) ((r + out[k]?.getD 0) / 65536) (out.set k ((r + out[k]?.getD 0) % 65536)) (by rw [List.length_set]; omega) (by omega) (hb.set k (by omega) (Int.le_refl _)) (by
      intro d hmem
      rw [List.take_add_one, List.getElem?_set_self (by omega), List.take_set_of_le (Nat.le_refl _)] at hmem
      rcases List.mem_append.1 hmem with h1 | h1
      · exact hd d h1
      · simp at h1; omega)
    refine ⟨r', q1, q2, ?_⟩
    rw [List.length_set] at q3
    rw [q3, val_set out k _ (by omega), Int.pow_succ]
    have e := Int.mul_ediv_add_emod (r + out[k]?.getD 0) 65536
    obtain ⟨P, hP⟩ : ∃ P : Int, P = 65536 ^ k := ⟨_, rfl⟩
    rw [← hP]
    have e2 : P * (65536 * ((r + out[k]?.getD 0) / 65536) + (r + out[k]?.getD 0) % 65536) = P * (r + out[k]?.getD 0) := by rw [e]
    grind

theorem product_spec {a b : Int} (ha : -9223372036854775808 ≤ a ∧ a ≤ 9223372036854775807) (hb : -9223372036854775808 ≤ b ∧ b ≤ 9223372036854775807) : Dig (skywayref1_product a b) ∧ val (skywayref1_product a b) = (if a ≥ 0 then a else -a) * (if b ≥ 0 then b else -b) := by
  obtain ⟨a1, a2, a3⟩ := limbs_spec ha
  obtain ⟨b1, b2, b3⟩ := limbs_spec hb
  unfold skywayref1_product bindv
  dsimp only
  obtain ⟨p1, p2⟩ := product1 b2 b1 (skywayref1_limbs a) 0 (List.replicate 9 (0:Int)) 0 a2 (by omega) rfl (by decide) (by rw [a1]; decide) (fun d hd => by rw [List.eq_of_mem_replicate hd]; decide)
  have hlen : (skywayref1_product_L1 (skywayref1_limbs b) (skywayref1_limbs a) 0 (List.replicate 9 (0:Int))).length = 9 := by rw [product_len1]; rfl
  rw [a1] at p1
  obtain ⟨r', q1, q2, q3⟩ := product3 (skywayref1_product_L1 (skywayref1_limbs b) (skywayref1_limbs a) 0 (List.replicate 9 (0:Int))).length 0 0 _ rfl (by decide) (fun d hd => by have := p1 d hd; omega) (fun d hd => by simp at hd)
  refine ⟨q2, ?_⟩
  rw [hlen] at q3 q2 ⊢
  have z : val (List.replicate 9 (0:Int)) = 0 := by decide
  rw [p2, z, a3, b3, Int.pow_zero, Int.one_mul, Int.zero_add, Int.mul_zero, Int.add_zero] at q3
  obtain ⟨A, hA⟩ : ∃ A, A = (if a ≥ 0 then a else -a) := ⟨_, rfl⟩
  obtain ⟨B, hB⟩ : ∃ A, A = (if b ≥ 0 then b else -b) := ⟨_, rfl⟩
  rw [← hA, ← hB] at q3 ⊢
  have bA : 0 ≤ A ∧ A ≤ 9223372036854775808 := by rw [hA]; split <;> omega
  have bB : 0 ≤ B ∧ B ≤ 9223372036854775808 := by rw [hB]; split <;> omega
  have m1 : A * B ≤ 9223372036854775808 * 9223372036854775808 := Int.mul_le_mul bA.2 bB.2 bB.1 (by decide)
  have v0 := (val_bound _ q2).1
  have r0 : r' = 0 := by omega
  rw [r0] at q3
  omega

/-- The comparison from the highest digit on. -/
theorem val_take {l : List Int} {m : Nat} (hm : m < l.length) : val (l.take (m + 1)) = val (l.take m) + 65536 ^ m * l[m]?.getD 0 := by
  rw [List.take_add_one, val_append, List.length_take, Nat.min_eq_left (by omega), List.getElem?_eq_getElem hm]
  simp [val]
theorem cmp_L1 {r1 r2 : Int} {x y : List Int} (hx : x.length = 9) (hy : y.length = 9) (dx : Dig x) (dy : Dig y) : ∀ (m k : Nat), m + k = 9 →
    (val (x.take m) = val (y.take m) ∧ skywayref1_CmpProducts_L1 r1 r2 x y m k = .inl ()) ∨ (val (x.take m) > val (y.take m) ∧ skywayref1_CmpProducts_L1 r1 r2 x y m k = .inr (w64 (r1 * r2))) ∨ (val (x.take m) < val (y.take m) ∧ skywayref1_CmpProducts_L1 r1 r2 x y m k = .inr (w64 (0 - w64 (r1 * r2))))
  | 0, k, _ => .inl ⟨by simp [val], rfl⟩
  | m + 1, k, hk => by
    have ei : (((x.length : Int) - 1) - ((k : Nat) : Int)).toNat = m := by omega
    have tx := val_bound (x.take m) (fun d hd => dx d (List.mem_of_mem_take hd))
    have ty := val_bound (y.take m) (fun d hd => dy d (List.mem_of_mem_take hd))
    rw [List.length_take, Nat.min_eq_left (by omega)] at tx ty
    unfold skywayref1_CmpProducts_L1
    rw [ei, val_take (l := x) (by omega), val_take (l := y) (by omega)]
    obtain ⟨a, ha⟩ : ∃ a, a = x[m]?.getD 0 := ⟨_, rfl⟩
    obtain ⟨b, hb⟩ : ∃ a, a = y[m]?.getD 0 := ⟨_, rfl⟩
    obtain ⟨P, hP⟩ : ∃ P : Int, P = 65536 ^ m := ⟨_, rfl⟩
    rw [← ha, ← hb]
    rw [← hP] at tx ty ⊢
    by_cases hab : a = b
    · subst hab
      have e : (a != a) = false := by simp
      rw [e, cond_false]
      rcases cmp_L1 (r1 := r1) (r2 := r2) hx hy dx dy m (k + 1) (by omega) with ⟨h1, h2⟩ | ⟨h1, h2⟩ | ⟨h1, h2⟩
      · exact .inl ⟨by omega, h2⟩
      · exact .inr (.inl ⟨by omega, h2⟩)
      · exact .inr (.inr ⟨by omega, h2⟩)
    · have e : (a != b) = true := by simpa using hab
      rw [e, cond_true]
      by_cases hgt : a > b
      · rw [decide_eq_true hgt, cond_true]
        refine .inr (.inl ⟨?_, rfl⟩)
        have : P * (b + 1) ≤ P * a := Int.mul_le_mul_of_nonneg_left (by omega) (by omega)
        rw [Int.mul_add, Int.mul_one] at this
        omega
      · rw [decide_eq_false hgt, cond_false]
        refine .inr (.inr ⟨?_, rfl⟩)
        have : P * (a + 1) ≤ P * b := Int.mul_le_mul_of_nonneg_left (by omega) (by omega)
        rw [Int.mul_add, Int.mul_one] at this
        omega

theorem sign_spec (n : Int) : (n > 0 ∧ skywayref1_sign n = 1) ∨ (n < 0 ∧ skywayref1_sign n = -1) ∨ (n = 0 ∧ skywayref1_sign n = 0) := by
  unfold skywayref1_sign
  by_cases h1 : n > 0
  · exact .inl ⟨h1, by rw [decide_eq_true h1]; rfl⟩
  · by_cases h2 : n < 0
    · exact .inr (.inl ⟨h2, by rw [decide_eq_false h1, decide_eq_true h2]; rfl⟩)
    · exact .inr (.inr ⟨by omega, by rw [decide_eq_false h1, decide_eq_false h2]; rfl⟩)
theorem mag_prod (a b : Int) : (if a ≥ 0 then a else -a) * (if b ≥ 0 then b else -b) = if skywayref1_sign a * skywayref1_sign b ≥ 0 then a * b else -(a * b) := by
  rcases sign_spec a with ⟨h1, e1⟩ | ⟨h1, e1⟩ | ⟨h1, e1⟩ <;> rcases sign_spec b with ⟨h2, e2⟩ | ⟨h2, e2⟩ | ⟨h2, e2⟩ <;> rw [e1, e2]
  · rw [if_pos (by omega), if_pos (by omega)]; rfl
  · rw [if_pos (by omega), if_neg (by omega), if_neg (by decide), Int.mul_neg]
  · subst h2; simp
  · rw [if_neg (by omega), if_pos (by omega), if_neg (by decide), Int.neg_mul]
  · rw [if_neg (by omega), if_neg (by omega), if_pos (by decide), Int.neg_mul_neg]
  · subst h2; simp
  · subst h1; simp
  · subst h1; simp
  · subst h1; simp
theorem sign_prod (a b : Int) : (a * b > 0 ∧ w64 (skywayref1_sign a * skywayref1_sign b) = 1 ∧ skywayref1_sign a * skywayref1_sign b = 1) ∨ (a * b < 0 ∧ w64 (skywayref1_sign a * skywayref1_sign b) = -1 ∧ skywayref1_sign a * skywayref1_sign b = -1) ∨ (a * b = 0 ∧ w64 (skywayref1_sign a * skywayref1_sign b) = 0 ∧ skywayref1_sign a * skywayref1_sign b = 0) := by
  rcases sign_spec a with ⟨h1, e1⟩ | ⟨h1, e1⟩ | ⟨h1, e1⟩ <;> rcases sign_spec b with ⟨h2, e2⟩ | ⟨h2, e2⟩ | ⟨h2, e2⟩ <;> rw [e1, e2]
  · exact .inl ⟨Int.mul_pos h1 h2, by decide, by decide⟩
  · exact .inr (.inl ⟨Int.mul_neg_of_pos_of_neg h1 h2, by decide, by decide⟩)
  · exact .inr (.inr ⟨by rw [h2, Int.mul_zero], by decide, by decide⟩)
  · exact .inr (.inl ⟨Int.mul_neg_of_neg_of_pos h1 h2, by decide, by decide⟩)
  · exact .inl ⟨Int.mul_pos_of_neg_of_neg h1 h2, by decide, by decide⟩
  · exact .inr (.inr ⟨by rw [h2, Int.mul_zero], by decide, by decide⟩)
  · exact .inr (.inr ⟨by rw [h1, Int.zero_mul], by decide, by decide⟩)
  · exact .inr (.inr ⟨by rw [h1, Int.zero_mul], by decide, by decide⟩)
  · exact .inr (.inr ⟨by rw [h1, Int.zero_mul], by decide, by decide⟩)

/-- CmpProducts compares the products. -/
theorem cmp_spec {a b c d : Int} (ha : -9223372036854775808 ≤ a ∧ a ≤ 9223372036854775807) (hb : -9223372036854775808 ≤ b ∧ b ≤ 9223372036854775807) (hc : -9223372036854775808 ≤ c ∧ c ≤ 9223372036854775807) (hd : -9223372036854775808 ≤ d ∧ d ≤ 9223372036854775807) :
    (a * b = c * d ∧ skywayref1_CmpProducts a b c d = 0) ∨ (a * b > c * d ∧ skywayref1_CmpProducts a b c d = 1) ∨ (a * b < c * d ∧ skywayref1_CmpProducts a b c d = -1) := by
  obtain ⟨x1, x2⟩ := product_spec ha hb
  obtain ⟨y1, y2⟩ := product_spec hc hd
  rw [mag_prod] at x2 y2
  have lx := product_len (a := a) (b := b) rfl
  have ly := product_len (a := c) (b := d) rfl
  have k := fun r1 r2 => cmp_L1 (r1 := r1) (r2 := r2) lx ly x1 y1 9 0 rfl
  rw [List.take_of_length_le (by omega), List.take_of_length_le (by omega)] at k
  unfold skywayref1_CmpProducts
  dsimp only
  rw [lx, show (((9 : Nat) : Int) - 1 + 1).toNat = 9 from rfl]
  obtain ⟨sa, hsa⟩ : ∃ s, s = skywayref1_sign a := ⟨_, rfl⟩
  obtain ⟨sb, hsb⟩ : ∃ s, s = skywayref1_sign b := ⟨_, rfl⟩
  have s1 := sign_prod a b
  have s2 := sign_prod c d
  rw [← hsa, ← hsb] at s1 x2 ⊢
  have e1 : skywayref1_sign (w64 (1 - -1)) = 1 := by decide
  have e2 : skywayref1_sign (w64 (1 - 0)) = 1 := by decide
  have e3 : skywayref1_sign (w64 (-1 - 1)) = -1 := by decide
  have e4 : skywayref1_sign (w64 (-1 - 0)) = -1 := by decide
  have e5 : skywayref1_sign (w64 (0 - 1)) = -1 := by decide
  have e6 : skywayref1_sign (w64 (0 - -1)) = 1 := by decide
  rcases s1 with ⟨p1, p2, p3⟩ | ⟨p1, p2, p3⟩ | ⟨p1, p2, p3⟩ <;> rcases s2 with ⟨q1, q2, q3⟩ | ⟨q1, q2, q3⟩ | ⟨q1, q2, q3⟩ <;> rw [p2, q2]
  · rw [p3, if_pos (by decide)] at x2
    rw [q3, if_pos (by decide)] at y2
    rw [show ((1 : Int) != 1) = false from rfl, cond_false]
    rcases k sa sb with ⟨h1, h2⟩ | ⟨h1, h2⟩ | ⟨h1, h2⟩ <;> rw [h2]
    · exact .inl ⟨by omega, rfl⟩
    · exact .inr (.inl ⟨by omega, p2⟩)
    · refine .inr (.inr ⟨by omega, ?_⟩)
      show w64 (0 - w64 (sa * sb)) = -1
      rw [p2]; decide
  · exact .inr (.inl ⟨by omega, by rw [show ((1 : Int) != -1) = true from rfl, cond_true, e1]⟩)
  · exact .inr (.inl ⟨by omega, by rw [show ((1 : Int) != 0) = true from rfl, cond_true, e2]⟩)
  · exact .inr (.inr ⟨by omega, by rw [show ((-1 : Int) != 1) = true from rfl, cond_true, e3]⟩)
  · rw [p3, if_neg (by decide)] at x2
    rw [q3, if_neg (by decide)] at y2
    rw [show ((-1 : Int) != -1) = false from rfl, cond_false]
    rcases k sa sb with ⟨h1, h2⟩ | ⟨h1, h2⟩ | ⟨h1, h2⟩ <;> rw [h2]
    · exact .inl ⟨by omega, rfl⟩
    · exact .inr (.inr ⟨by omega, p2⟩)
    · refine .inr (.inl ⟨by omega, ?_⟩)
      show w64 (0 - w64 (sa * sb)) = 1
      rw [p2]; decide
  · exact .inr (.inr ⟨by omega, by rw [show ((-1 : Int) != 0) = true from rfl, cond_true, e4]⟩)
  · exact .inr (.inr ⟨by omega, by rw [show ((0 : Int) != 1) = true from rfl, cond_true, e5]⟩)
  · exact .inr (.inl ⟨by omega, by rw [show ((0 : Int) != -1) = true from rfl, cond_true, e6]⟩)
  · rw [p3, if_pos (by decide)] at x2
    rw [q3, if_pos (by decide)] at y2
    rw [show ((0 : Int) != 0) = false from rfl, cond_false]
    rcases k sa sb with ⟨h1, h2⟩ | ⟨h1, h2⟩ | ⟨h1, h2⟩ <;> rw [h2]
    · exact .inl ⟨by omega, rfl⟩
    · exact absurd h1 (by omega)
    · exact absurd h1 (by omega)
end Go.Sky
