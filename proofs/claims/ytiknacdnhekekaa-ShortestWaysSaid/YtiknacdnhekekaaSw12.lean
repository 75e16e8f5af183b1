/- Lemmas toward the given statement (part 12 of 16): OfC OfD OfL WayX My SecW. Each theorem states its own conditions; nothing is assumed beyond them. -/
import Derived.Test.YtiknacdnhekekaaSw11
import Derived.Test.YtiknacdnhekekaaSw06
import Derived.Test.YtiknacdnhekekaaSw05
import Derived.Lib.SliceRun
section
namespace Go.Sky
open Go Go.Eng Go.Srt
theorem ixL_is {n : ByteArray} : ∀ (xs : List Fix) (k : Nat), (IndexFunc_fix_L1 n xs k = .inl () ∧ ∀ x ∈ xs, x.Name ≠ n) ∨
    ∃ (j : Nat) (x : Fix), IndexFunc_fix_L1 n xs k = .inr ((k + j : Nat) : Int) ∧ xs[j]? = some x ∧ x.Name = n
  | [], _ => .inl ⟨rfl, fun _ h => by cases h⟩
  | y :: xs, k => by
    unfold IndexFunc_fix_L1 chart_index_1
    simp only
    cases e : seq y.Name n with
    | true => exact .inr ⟨0, y, rfl, rfl, seq_iff.1 e⟩
    | false =>
      rw [cond_false]
      rcases ixL_is xs (k + 1) with h | ⟨j, x, h, h2⟩
      · exact .inl ⟨h.1, fun x hx => by rcases List.mem_cons.1 hx with rfl | hx; exact seq_F.1 e; exact h.2 x hx⟩
      · exact .inr ⟨j + 1, x, by rw [h]; congr 2; omega, h2⟩
theorem ix_is (c : Chart) (s : ByteArray) : (chart_index c s = -1 ∧ ∀ x ∈ c.Fixes, x.Name ≠ s) ∨ ∃ (j : Nat) (x : Fix), chart_index c s = (j : Int) ∧ c.Fixes[j]? = some x ∧ x.Name = s := by
  unfold chart_index IndexFunc_fix
  simp only
  rcases ixL_is (n := s) c.Fixes 0 with h | ⟨j, x, h, h2⟩
  · rw [h.1]; exact .inl ⟨rfl, h.2⟩
  · rw [h]; exact .inr ⟨j, x, by simp only [Sum.elim_inr, Nat.zero_add], h2⟩
theorem ixL_first {n : ByteArray} : ∀ (xs : List Fix) (k j i : Nat) (x : Fix), IndexFunc_fix_L1 n xs k = .inr ((k + i : Nat) : Int) → xs[j]? = some x → x.Name = n → i ≤ j
  | [], _, _, _, _, h, _, _ => by cases h
  | y :: xs, k, j, i, x, h, hx, hn => by
    unfold IndexFunc_fix_L1 chart_index_1 at h
    simp only at h
    cases e : seq y.Name n with
    | true =>
      rw [e, cond_true] at h
      have := Sum.inr.inj h
      omega
    | false =>
      rw [e, cond_false] at h
      cases j with
      | zero => cases hx; exact absurd hn (seq_F.1 e)
      | succ j =>
        rcases ixL_is (n := n) xs (k + 1) with g | ⟨q, z, g, _⟩
        · rw [g.1] at h; cases h
        · rw [g] at h
          have hq := Sum.inr.inj h
          have := ixL_first xs (k + 1) j q x (by rw [g]) hx hn
          omega
theorem ix_first {c : Chart} {s : ByteArray} {i j : Nat} {x : Fix} (h : chart_index c s = (i : Int)) (hx : c.Fixes[j]? = some x) (hn : x.Name = s) : i ≤ j := by
  unfold chart_index IndexFunc_fix at h
  simp only at h
  rcases ixL_is (n := s) c.Fixes 0 with g | ⟨q, z, g, _⟩
  · rw [g.1] at h; simp only [Sum.elim_inl] at h; omega
  · rw [g] at h
    simp only [Sum.elim_inr] at h
    have := ixL_first c.Fixes 0 j q x g hx hn
    omega
theorem fixL {n : ByteArray} : ∀ (xs : List Fix) (k : Nat), skywayref1_fix_L1 n xs k = IndexFunc_fix_L1 n xs k
  | [], _ => rfl
  | y :: xs, k => by
    unfold skywayref1_fix_L1 IndexFunc_fix_L1 chart_index_1
    rw [fixL xs (k + 1)]
theorem fix_is (c : Chart) (s : ByteArray) : skywayref1_fix c s = chart_index c s := by
  unfold skywayref1_fix chart_index IndexFunc_fix
  rw [fixL]
theorem tiL_is {v : ByteArray} : ∀ (xs : List ByteArray) (k : Nat), (slices_Index_string_string_L1 v xs k = .inl () ∧ v ∉ xs) ∨
    ∃ j : Nat, slices_Index_string_string_L1 v xs k = .inr ((k + j : Nat) : Int) ∧ xs[j]? = some v
  | [], _ => .inl ⟨rfl, List.not_mem_nil⟩
  | y :: xs, k => by
    unfold slices_Index_string_string_L1
    cases e : seq v y with
    | true => exact .inr ⟨0, rfl, by rw [seq_iff.1 e]; rfl⟩
    | false =>
      rw [cond_false]
      rcases tiL_is (v := v) xs (k + 1) with h | ⟨j, h, h2⟩
      · exact .inl ⟨h.1, fun hx => by rcases List.mem_cons.1 hx with rfl | hx; exact seq_F.1 e rfl; exact h.2 hx⟩
      · exact .inr ⟨j + 1, by rw [h]; congr 2; omega, h2⟩
theorem ti_is (l : List ByteArray) (v : ByteArray) : (slices_Index_string_string l v = -1 ∧ v ∉ l) ∨ ∃ j : Nat, slices_Index_string_string l v = (j : Int) ∧ l[j]? = some v := by
  unfold slices_Index_string_string
  rcases tiL_is (v := v) l 0 with h | ⟨j, h, h2⟩
  · rw [h.1]; exact .inl ⟨rfl, h.2⟩
  · rw [h]; exact .inr ⟨j, by simp only [Sum.elim_inr, Nat.zero_add], h2⟩
abbrev at0 (c : Chart) (s : ByteArray) : P := (c.Fixes[(chart_index c s).toNat]?.getD Fix.zero).At
theorem chk_L1 {c : Chart} : ∀ (xs : List Fix) (k : Nat), (∃ r, chart_Check_L1 c xs k = .inr r ∧ r ≠ 0) ∨
    (chart_Check_L1 c xs k = .inl () ∧ ∀ (j : Nat) (x : Fix), xs[j]? = some x → ((k + j : Nat) : Int) ≤ chart_index c x.Name ∧ plane_Check x.At = 0)
  | [], _ => .inr ⟨rfl, fun j x h => by cases h⟩
  | y :: xs, k => by
    unfold chart_Check_L1
    simp only
    cases chart_Name y.Name with
    | false => exact .inl ⟨5, rfl, by decide⟩
    | true =>
      rw [Bool.not_true, cond_false]
      cases e : decide (chart_index c y.Name < (k : Int)) with
      | true => exact .inl ⟨7, rfl, by decide⟩
      | false =>
        have e := of_decide_eq_false e
        rw [cond_false]
        cases e2 : (plane_Check y.At != 0) with
        | true => exact .inl ⟨_, rfl, by simpa using e2⟩
        | false =>
          have e2 : plane_Check y.At = 0 := by simpa using e2
          rw [cond_false]
          rcases chk_L1 xs (k + 1) with h | ⟨h, h2⟩
          · exact .inl h
          · refine .inr ⟨h, fun j x hx => ?_⟩
            cases j with
            | zero => cases hx; exact ⟨by omega, e2⟩
            | succ j => have := h2 j x hx; exact ⟨by omega, this.2⟩
theorem chk_L2 {c : Chart} : ∀ (m k : Nat), (∃ r, chart_Check_L2 c m k = .inr r ∧ r ≠ 0) ∨
    (chart_Check_L2 c m k = .inl () ∧ ∀ j : Nat, k ≤ j → j < k + m → chart_checkAirway c (j : Int) = 0)
  | 0, _ => .inr ⟨rfl, fun j h h2 => by omega⟩
  | m + 1, k => by
    unfold chart_Check_L2
    simp only
    cases e2 : (chart_checkAirway c (k : Int) != 0) with
    | true => exact .inl ⟨_, rfl, by simpa using e2⟩
    | false =>
      have e2 : chart_checkAirway c (k : Int) = 0 := by simpa using e2
      rw [cond_false]
      rcases chk_L2 (c := c) m (k + 1) with h | ⟨h, h2⟩
      · exact .inl h
      · refine .inr ⟨h, fun j hj hj2 => ?_⟩
        rcases Nat.lt_or_ge k j with g | g
        · exact h2 j g (by omega)
        · rw [show j = k by omega]; exact e2
theorem chk_A {c : Chart} {i : Int} {F : List ByteArray} (hF : (c.Airways[i.toNat]?.getD Airway.zero).Fixes = F) : ∀ (xs : List ByteArray) (k : Nat), F.drop k = xs → (∃ r, chart_checkAirway_L1 c i xs k = .inr r ∧ r ≠ 0) ∨
    (chart_checkAirway_L1 c i xs k = .inl () ∧ ∀ (j : Nat) (x : ByteArray), k ≤ j → F[j]? = some x → 0 ≤ chart_index c x ∧ x ∉ F.take j ∧ (0 < j → at0 c x ≠ at0 c (nm F (j - 1))))
  | [], k, hd => .inr ⟨rfl, fun j x hj hx => by have := (List.getElem?_eq_some_iff.1 hx).1; have := List.drop_eq_nil_iff.1 hd; omega⟩
  | y :: xs, k, hd => by
    have hk : k < F.length := by
      rcases Nat.lt_or_ge k F.length with h | h
      · exact h
      · rw [List.drop_eq_nil_of_le h] at hd; cases hd
    have hyk : F[k]? = some y := by rw [← List.head?_drop, hd]; rfl
    have ih := chk_A hF xs (k + 1) (by rw [← List.drop_drop, hd]; rfl)
    unfold chart_checkAirway_L1
    rw [hF]
    simp only
    cases e : decide (chart_index c y < 0) with
    | true => exact .inl ⟨6, rfl, by decide⟩
    | false =>
      have e := of_decide_eq_false e
      rw [cond_false]
      unfold slices_Contains_string_string
      simp only
      rcases ti_is (F.take k) y with t | ⟨t, t1, t2⟩
      · rw [t.1, show decide ((-1 : Int) ≥ 0) = false from rfl, cond_false]
        have ne : (∃ r, chart_checkAirway_L1 c i xs (k + 1) = .inr r ∧ r ≠ 0) ∨
            (chart_checkAirway_L1 c i xs (k + 1) = .inl () ∧ ((0 < k → at0 c y ≠ at0 c (nm F (k - 1))) → ∀ (j : Nat) (x : ByteArray), k ≤ j → F[j]? = some x → 0 ≤ chart_index c x ∧ x ∉ F.take j ∧ (0 < j → at0 c x ≠ at0 c (nm F (j - 1))))) := by
          rcases ih with h | ⟨h, h2⟩
          · exact .inl h
          · refine .inr ⟨h, fun hg j x hj hx => ?_⟩
            rcases Nat.lt_or_ge k j with g | g
            · exact h2 j x g hx
            · obtain rfl : j = k := by omega
              rw [hyk] at hx
              cases hx
              exact ⟨by omega, t.2, hg⟩
        cases e2 : decide ((k : Int) > 0) with
        | false =>
          have e2 := of_decide_eq_false e2
          rw [cond_false]
          rcases ne with h | ⟨h, h2⟩
          · exact .inl h
          · exact .inr ⟨h, h2 fun h3 => by omega⟩
        | true =>
          rw [cond_true]
          cases e3 : P.eqb ((c.Fixes[(chart_index c y).toNat]?.getD Fix.zero).At) ((c.Fixes[(chart_index c (F[(k - 1)]?.getD (⟨#[]⟩ : ByteArray))).toNat]?.getD Fix.zero).At) with
          | true => exact .inl ⟨10, rfl, by decide⟩
          | false =>
            rw [cond_false]
            rcases ne with h | ⟨h, h2⟩
            · exact .inl h
            · refine .inr ⟨h, h2 fun _ h3 => ?_⟩
              change P.eqb (at0 c y) (at0 c (nm F (k - 1))) = false at e3
              rw [h3] at e3
              simp [P.eqb] at e3
      · rw [t1, decide_eq_true (by omega), cond_true]; exact .inl ⟨7, rfl, by decide⟩
def PIn (p : P) : Prop := (-1000000 ≤ p.X ∧ p.X ≤ 1000000) ∧ (-1000000 ≤ p.Y ∧ p.Y ≤ 1000000)
theorem pin_of {p : P} (h : plane_Check p = 0) : PIn p := by
  unfold plane_Check at h
  unfold PIn
  by_cases h1 : p.X < -1000000
  · simp [h1] at h
  by_cases h2 : p.X > 1000000
  · simp [h2] at h
  by_cases h3 : p.Y < -1000000
  · simp [h3] at h
  by_cases h4 : p.Y > 1000000
  · simp [h4] at h
  omega
structure Chk (c : Chart) : Prop where
  few : c.Fixes.length ≤ 64 ∧ c.Airways.length ≤ 16
  fst : ∀ (j : Nat) (x : Fix), c.Fixes[j]? = some x → chart_index c x.Name = (j : Int)
  pin : ∀ (j : Nat) (x : Fix), c.Fixes[j]? = some x → PIn x.At
  air : ∀ a ∈ c.Airways, 2 ≤ a.Fixes.length ∧ a.Fixes.length ≤ 24 ∧ ∀ (j : Nat) (x : ByteArray), a.Fixes[j]? = some x → 0 ≤ chart_index c x ∧ x ∉ a.Fixes.take j ∧ (0 < j → at0 c x ≠ at0 c (nm a.Fixes (j - 1)))
theorem chk_is {c : Chart} (h : chart_Check c = 0) : Chk c := by
  have few := chk_len h rfl
  unfold chart_Check at h
  rw [decide_eq_false (by omega), decide_eq_false (by omega), Bool.or_false, cond_false] at h
  rcases chk_L1 (c := c) c.Fixes 0 with ⟨r, h1, h2⟩ | ⟨h1, h2⟩
  · rw [h1] at h; exact absurd h h2
  rw [h1] at h
  simp only [Sum.elim_inl] at h
  rcases chk_L2 (c := c) c.Airways.length 0 with ⟨r, h3, h4⟩ | ⟨h3, h4⟩
  · rw [h3] at h; exact absurd h h4
  have first : ∀ (j : Nat) (x : Fix), c.Fixes[j]? = some x → chart_index c x.Name = (j : Int) := fun j => by
    induction j using Nat.strongRecOn with
    | ind j ih =>
      intro x hx
      have l := (h2 j x hx).1
      rcases ix_is c x.Name with g | ⟨i, y, g1, g2, g3⟩
      · omega
      · rcases Nat.lt_or_ge j i with k | k
        ·
          exact absurd k (by
            have := ix_first (c := c) g1 hx rfl
            omega)
        · omega
  refine ⟨few, first, fun j x hx => pin_of (h2 j x hx).2, fun a ha => ?_⟩
  obtain ⟨i, hi⟩ := List.getElem?_of_mem ha
  have hil := (List.getElem?_eq_some_iff.1 hi).1
  have hc := h4 i (Nat.zero_le _) (by omega)
  have ea : c.Airways[((i : Nat) : Int).toNat]?.getD Airway.zero = a := by rw [Int.toNat_natCast, hi]; rfl
  unfold chart_checkAirway at hc
  rw [ea] at hc
  simp only at hc
  cases e1 : chart_Name a.Name <;> rw [e1] at hc <;> simp only [Bool.not_true, Bool.not_false, cond_true, cond_false] at hc
  · cases hc
  cases e2 : decide (chart_index c a.Name ≥ 0) <;> rw [e2] at hc <;> simp only [cond_true, cond_false] at hc
  case true => cases hc
  cases e3 : ContainsFunc_air (c.Airways.take ((i : Nat) : Int).toNat) a <;> rw [e3] at hc <;> simp only [cond_true, cond_false] at hc
  case true => cases hc
  cases e4 : (decide ((a.Fixes.length : Int) < 2) || decide ((a.Fixes.length : Int) > 24)) <;> rw [e4] at hc <;> simp only [cond_true, cond_false] at hc
  case true => cases hc
  rw [Bool.or_eq_false_iff] at e4
  have e5 := of_decide_eq_false e4.1
  have e6 := of_decide_eq_false e4.2
  rcases chk_A (c := c) (i := (i : Int)) (F := a.Fixes) (by rw [ea]) a.Fixes 0 List.drop_zero with ⟨r, g1, g2⟩ | ⟨g1, g2⟩
  · rw [g1] at hc; exact absurd hc g2
  · exact ⟨by omega, by omega, fun j x hx => g2 j x (Nat.zero_le _) hx⟩
end Go.Sky
end
section
namespace Go.Sky
open Go Go.Eng Go.Srt
theorem nn_sq (x : Int) : 0 ≤ x * x := by
  rcases Int.le_total 0 x with g | g
  · exact Int.mul_nonneg g g
  · rw [← Int.neg_mul_neg]; exact Int.mul_nonneg (by omega) (by omega)
theorem sq_mono {x y : Int} (h0 : 0 ≤ x) (h : x ≤ y) : x * x ≤ y * y := Int.mul_le_mul h h h0 (by omega)
theorem sq_in {x y : Int} (h1 : -y ≤ x) (h2 : x ≤ y) : x * x ≤ y * y := by
  rcases Int.le_total 0 x with g | g
  · exact sq_mono g h2
  · rw [← Int.neg_mul_neg]; exact sq_mono (by omega) (by omega)
theorem sq_pos {x : Int} (h : x ≠ 0) : 1 ≤ x * x := by
  rcases Int.le_total 0 x with g | g
  · exact sq_mono (x := 1) (by decide) (by omega)
  · rw [← Int.neg_mul_neg]; exact sq_mono (x := 1) (by decide) (by omega)
def sq2 (p q : P) : Int := (p.X - q.X) * (p.X - q.X) + (p.Y - q.Y) * (p.Y - q.Y)
theorem sq2_comm (p q : P) : sq2 p q = sq2 q p := by
  unfold sq2
  rw [← Int.neg_mul_neg (p.X - q.X), ← Int.neg_mul_neg (p.Y - q.Y), Int.neg_sub, Int.neg_sub]
theorem sq2_in {p q : P} (hp : PIn p) (hq : PIn q) : 0 ≤ sq2 p q ∧ sq2 p q ≤ 8000000000000 ∧ plane_Square p q = sq2 p q ∧ skywayref1_Square p q = sq2 p q := by
  unfold PIn at hp hq
  have a1 := nn_sq (p.X - q.X)
  have b1 := nn_sq (p.Y - q.Y)
  have a := sq_in (x := p.X - q.X) (y := 2000000) (by omega) (by omega)
  have b := sq_in (x := p.Y - q.Y) (y := 2000000) (by omega) (by omega)
  unfold sq2 plane_Square plane_Sub plane_Dot skywayref1_Square
  simp only
  rw [w64_id (x := p.X - q.X) (by omega), w64_id (x := p.Y - q.Y) (by omega), w64_id (x := (p.X - q.X) * (p.X - q.X)) (by omega), w64_id (x := (p.Y - q.Y) * (p.Y - q.Y)) (by omega), w64_id (by omega)]
  exact ⟨by omega, by omega, rfl, rfl⟩
theorem sq2_pos {p q : P} (h : p ≠ q) : 1 ≤ sq2 p q := by
  have a1 := nn_sq (p.X - q.X)
  have b1 := nn_sq (p.Y - q.Y)
  unfold sq2
  by_cases hx : p.X = q.X
  · by_cases hy : p.Y = q.Y
    · exact absurd (by cases p; cases q; simp_all) h
    · have := sq_pos (x := p.Y - q.Y) (by omega); omega
  · have := sq_pos (x := p.X - q.X) (by omega); omega
theorem root_lp (n : Int) (hn : n ≤ 8000000000000) : ∀ (j : Nat) (a b : Int), (0 ≤ a ∧ a ≤ b ∧ b ≤ 3037000499 ∧ b - a < 2 ^ j) → a * a ≤ n → n < (b + 1) * (b + 1) → ∃ R, num_Root_L1 n (j + 1) a b = some R ∧ 0 ≤ R ∧ R * R ≤ n ∧ n < (R + 1) * (R + 1)
  | 0, a, b, h, h5, h6 => by
    have e : (2 : Int) ^ 0 = 1 := rfl
    have hab : a = b := by omega
    exact ⟨a, by rw [num_Root_L1, decide_eq_false (by omega)]; rfl, h.1, h5, by rw [hab]; exact h6⟩
  | j + 1, a, b, h, h5, h6 => by
    have e : (2 : Int) ^ (j + 1) = 2 * 2 ^ j := by rw [Int.pow_succ]; omega
    by_cases hk : a < b
    · have w1 : w64 (w64 (b - a) + 1) = b - a + 1 := by rw [w64_id (x := b - a) (by omega), w64_id (by omega)]
      have d1 : (b - a + 1).tdiv 2 = (b - a + 1) / 2 := Int.tdiv_eq_ediv_of_nonneg (by omega)
      have w2 : w64 ((w64 (w64 (b - a) + 1)).tdiv 2) = (b - a + 1) / 2 := by rw [w1, d1, w64_id (by omega)]
      have w3 : w64 (a + w64 ((w64 (w64 (b - a) + 1)).tdiv 2)) = a + (b - a + 1) / 2 := by rw [w2, w64_id (by omega)]
      have m1 := sq_in (x := a + (b - a + 1) / 2) (y := 3037000499) (by omega) (by omega)
      have m0 := nn_sq (a + (b - a + 1) / 2)
      rw [num_Root_L1, decide_eq_true hk]
      simp only [cond_true, w3]
      rw [w64_id (x := (a + (b - a + 1) / 2) * (a + (b - a + 1) / 2)) (by omega)]
      by_cases hc : (a + (b - a + 1) / 2) * (a + (b - a + 1) / 2) ≤ n
      · rw [decide_eq_true hc, cond_true]
        exact root_lp n hn j _ b (by omega) hc h6
      · rw [decide_eq_false hc, cond_false, w64_id (by omega)]
        exact root_lp n hn j a _ (by omega) h5 (by rw [show a + (b - a + 1) / 2 - 1 + 1 = a + (b - a + 1) / 2 by omega]; omega)
    · have hab : a = b := by omega
      exact ⟨a, by rw [num_Root_L1, decide_eq_false hk]; rfl, h.1, h5, by rw [hab]; exact h6⟩
theorem root_is {n : Int} (h : 0 ≤ n ∧ n ≤ 8000000000000) : 0 ≤ num_Root n ∧ num_Root n * num_Root n ≤ n ∧ n < (num_Root n + 1) * (num_Root n + 1) := by
  by_cases h0 : n ≤ 0
  · have e : num_Root n = 0 := by unfold num_Root; rw [decide_eq_true h0]; rfl
    rw [e]; omega
  · obtain ⟨R, h1, h2⟩ := root_lp n h.2 33 0 3037000499 (by decide) (by omega) (by omega)
    have e : num_Root n = R := by unfold num_Root bindv; rw [decide_eq_false h0, cond_false, h1]; rfl
    rw [e]; exact h2
theorem ref_spec (n : Int) (hn : 0 < n ∧ n ≤ 9223372036854775807) : ∀ (m k : Nat) (r : Int), m + k = 32 → 0 ≤ r → r ≤ 3037000499 → r * r ≤ n → n < (r + 2 ^ m) * (r + 2 ^ m) →
    0 ≤ skywayref1_Root_L1 n m k r ∧ skywayref1_Root_L1 n m k r * skywayref1_Root_L1 n m k r ≤ n ∧ n < (skywayref1_Root_L1 n m k r + 1) * (skywayref1_Root_L1 n m k r + 1)
  | 0, k, r, _, h1, h2, h3, h4 => ⟨h1, h3, h4⟩
  | m + 1, k, r, hk, h1, h2, h3, h4 => by
    have e : (2 : Int) ^ (m + 1) = 2 * 2 ^ m := by rw [Int.pow_succ]; omega
    have hmin : min (31 - ((k : Nat) : Int)).toNat 64 = m := by omega
    have hp : (0 : Int) < 2 ^ m := Int.pow_pos (by decide)
    have hp2 : (2 : Int) ^ m ≤ 2 ^ 31 := by exact_mod_cast Nat.pow_le_pow_right (show 0 < 2 by decide) (show m ≤ 31 by omega)
    have e31 : (2 : Int) ^ 31 = 2147483648 := rfl
    unfold skywayref1_Root_L1
    rw [hmin, Int.one_mul, w64_id (x := (2 : Int) ^ m) (by omega), w64_id (x := r + 2 ^ m) (by omega), decide_eq_true hn.1, Bool.true_and]
    obtain ⟨x, hx⟩ : ∃ x, x = r + 2 ^ m := ⟨_, rfl⟩
    rw [← hx]
    rw [e, show r + 2 * 2 ^ m = x + 2 ^ m by omega] at h4
    by_cases h5 : x ≤ 3037000499
    · have hm : x * x ≤ 3037000499 * 3037000499 := sq_mono (by omega) h5
      have hm0 : 0 ≤ x * x := Int.mul_nonneg (by omega) (by omega)
      rw [decide_eq_true h5, Bool.true_and, w64_id (x := x * x) (by omega)]
      by_cases h6 : x * x ≤ n
      · rw [decide_eq_true h6, cond_true]
        exact ref_spec n hn m (k + 1) x (by omega) (by omega) h5 h6 h4
      · rw [decide_eq_false h6, cond_false]
        exact ref_spec n hn m (k + 1) r (by omega) h1 h2 h3 (by rw [← hx]; omega)
    · rw [decide_eq_false h5, Bool.false_and, cond_false]
      have hm : (3037000500 : Int) * 3037000500 ≤ x * x := sq_mono (by decide) (by omega)
      exact ref_spec n hn m (k + 1) r (by omega) h1 h2 h3 (by rw [← hx]; omega)
theorem root_unique {n a b : Int} (ha : 0 ≤ a ∧ a * a ≤ n ∧ n < (a + 1) * (a + 1)) (hb : 0 ≤ b ∧ b * b ≤ n ∧ n < (b + 1) * (b + 1)) : a = b := by
  rcases Int.lt_trichotomy a b with h | h | h
  · have := sq_mono (x := a + 1) (y := b) (by omega) (by omega); omega
  · exact h
  · have := sq_mono (x := b + 1) (y := a) (by omega) (by omega); omega
theorem ref_zero {n : Int} (hn : ¬ n > 0) : ∀ (m k : Nat) (r : Int), skywayref1_Root_L1 n m k r = r
  | 0, _, _ => rfl
  | m + 1, k, r => by
    unfold skywayref1_Root_L1
    rw [decide_eq_false hn, Bool.false_and, Bool.false_and, cond_false]
    exact ref_zero hn m (k + 1) r
theorem ref_is {n : Int} (h : 0 ≤ n ∧ n ≤ 8000000000000) : skywayref1_Root n = num_Root n := by
  by_cases h0 : n > 0
  · refine root_unique ?_ (root_is h)
    unfold skywayref1_Root bindv
    exact ref_spec n (by omega) 32 0 0 rfl (by decide) (by decide) (by omega) (by rw [show ((0 : Int) + 2 ^ 32) * (0 + 2 ^ 32) = 18446744073709551616 by decide]; omega)
  · obtain rfl : n = 0 := by omega
    unfold skywayref1_Root bindv
    rw [ref_zero h0]; rfl
def dst (p q : P) : Int := (plane_Distance p q).2
theorem dst_eq (p q : P) : dst p q = cond (decide ((w64 (num_Root (plane_Square p q) * num_Root (plane_Square p q))) < plane_Square p q)) (w64 (num_Root (plane_Square p q) + 1)) (num_Root (plane_Square p q)) := by
  unfold dst plane_Distance
  simp only
  cases decide ((w64 (num_Root (plane_Square p q) * num_Root (plane_Square p q))) < plane_Square p q) <;> rfl
theorem dst_comm {p q : P} (hp : PIn p) (hq : PIn q) : dst p q = dst q p := by
  rw [dst_eq, dst_eq, (sq2_in hp hq).2.2.1, (sq2_in hq hp).2.2.1, sq2_comm]
theorem dst_in {p q : P} (hp : PIn p) (hq : PIn q) : 0 ≤ dst p q ∧ dst p q ≤ 3000000 ∧ (p ≠ q → 1 ≤ dst p q) := by
  have s := sq2_in hp hq
  have r := root_is ⟨s.1, s.2.1⟩
  have h1 : p ≠ q → 1 ≤ num_Root (sq2 p q) := fun h => by
    have := sq2_pos h
    by_cases e : num_Root (sq2 p q) = 0
    · rw [e] at r; omega
    · omega
  have h2 : num_Root (sq2 p q) ≤ 2900000 := by
    by_cases e : num_Root (sq2 p q) ≤ 2900000
    · exact e
    · have := sq_mono (x := 2900000) (y := num_Root (sq2 p q)) (by decide) (by omega); omega
  rw [dst_eq, s.2.2.1]
  cases decide ((w64 (num_Root (sq2 p q) * num_Root (sq2 p q))) < sq2 p q) with
  | true => rw [cond_true, w64_id (by omega)]; exact ⟨by omega, by omega, fun _ => by omega⟩
  | false => rw [cond_false]; exact ⟨by omega, by omega, h1⟩
theorem at0_in {c : Chart} (K : Chk c) {s : ByteArray} (hs : 0 ≤ chart_index c s) : PIn (at0 c s) := by
  rcases ix_is c s with h | ⟨j, x, h, h2, _⟩
  · omega
  · unfold at0
    rw [h, Int.toNat_natCast, h2]
    exact K.pin j x h2
theorem gap_is {c : Chart} (K : Chk c) {s t : ByteArray} (hs : 0 ≤ chart_index c s) (ht : 0 ≤ chart_index c t) : skywayref1_gap c s t = dst (at0 c s) (at0 c t) := by
  have q := sq2_in (at0_in K hs) (at0_in K ht)
  unfold skywayref1_gap
  simp only [fix_is]
  change cond (decide (w64 (skywayref1_Root (skywayref1_Square (at0 c s) (at0 c t)) * skywayref1_Root (skywayref1_Square (at0 c s) (at0 c t))) < skywayref1_Square (at0 c s) (at0 c t))) (w64 (skywayref1_Root (skywayref1_Square (at0 c s) (at0 c t)) + 1)) (skywayref1_Root (skywayref1_Square (at0 c s) (at0 c t))) = _
  rw [q.2.2.2, ref_is ⟨q.1, q.2.1⟩, dst_eq, q.2.2.1]
theorem len_is {c : Chart} (hc : chart_Check c = 0) {s t : ByteArray} (hs : 0 ≤ chart_index c s) (ht : 0 ≤ chart_index c t) : chart_Length c [s, t] = (dst (at0 c s) (at0 c t), 0) := by
  have K := chk_is hc
  have d := dst_in (at0_in K hs) (at0_in K ht)
  unfold chart_Length
  rw [hc]
  simp only
  rw [show ((0 : Int) != 0) = false from rfl, cond_false, show decide ((([s, t] : List ByteArray).length : Int) > 64) = false from rfl, cond_false]
  unfold chart_Length_L1
  simp only
  rw [decide_eq_false (show ¬ chart_index c s < 0 by omega), cond_false, show decide (((0 : Nat) : Int) > 0) = false from rfl, cond_false]
  unfold chart_Length_L1
  simp only
  rw [decide_eq_false (show ¬ chart_index c t < 0 by omega), cond_false, show decide (((0 + 1 : Nat) : Int) > 0) = true from rfl, cond_true]
  unfold chart_Length_L1
  change (w64 (0 + dst (at0 c s) (at0 c t)), (0 : Int)) = _
  rw [Int.zero_add, w64_id (by omega)]
def Hit (F : List ByteArray) (s t : ByteArray) : Prop := ∃ j : Nat, (F[j]? = some s ∧ F[j + 1]? = some t) ∨ (F[j]? = some t ∧ F[j + 1]? = some s)
def Adj (c : Chart) (s t : ByteArray) : Prop := ∃ a ∈ c.Airways, Hit a.Fixes s t
theorem Hit.comm {F : List ByteArray} {s t : ByteArray} (h : Hit F s t) : Hit F t s := h.elim fun j h => ⟨j, h.symm⟩
theorem Adj.comm {c : Chart} {s t : ByteArray} (h : Adj c s t) : Adj c t s := h.elim fun a h => ⟨a, h.1, h.2.comm⟩
theorem adj_in {c : Chart} (K : Chk c) {s t : ByteArray} (h : Adj c s t) : 0 ≤ chart_index c s ∧ 0 ≤ chart_index c t ∧ at0 c s ≠ at0 c t := by
  obtain ⟨a, ha, j, ⟨h1, h2⟩ | ⟨h1, h2⟩⟩ := h
  all_goals
    have A := (K.air a ha).2.2 j _ h1
    have B := (K.air a ha).2.2 (j + 1) _ h2
    have C := B.2.2 (Nat.succ_pos _)
    rw [Nat.add_sub_cancel, nm_of h1] at C
  · exact ⟨A.1, B.1, C.symm⟩
  · exact ⟨B.1, A.1, C⟩
theorem hit_at {F : List ByteArray} {s t : ByteArray} (hF : ∀ (j : Nat) (x : ByteArray), F[j]? = some x → x ∉ F.take j) {j : Nat} (hj : F[j]? = some s) : Hit F s t ↔ (0 < j ∧ nm F (j - 1) = t) ∨ (j + 1 < F.length ∧ nm F (j + 1) = t) := by
  have uni : ∀ i : Nat, F[i]? = some s → i = j := fun i hi => by
    rcases Nat.lt_trichotomy i j with g | g | g
    · exact absurd (List.mem_of_getElem? (by rw [List.getElem?_take_of_lt g]; exact hi)) (hF j s hj)
    · exact g
    · exact absurd (List.mem_of_getElem? (by rw [List.getElem?_take_of_lt g]; exact hj)) (hF i s hi)
  constructor
  · rintro ⟨i, ⟨h1, h2⟩ | ⟨h1, h2⟩⟩
    · obtain rfl := uni i h1
      exact .inr ⟨(List.getElem?_eq_some_iff.1 h2).1, nm_of h2⟩
    · obtain rfl := uni (i + 1) h2
      exact .inl ⟨Nat.succ_pos _, by rw [Nat.add_sub_cancel]; exact nm_of h1⟩
  · rintro (⟨h1, h2⟩ | ⟨h1, h2⟩)
    · have := (List.getElem?_eq_some_iff.1 hj).1
      exact ⟨j - 1, .inr ⟨by rw [← h2]; exact nm_at (by omega), by rw [show j - 1 + 1 = j by omega]; exact hj⟩⟩
    · exact ⟨j, .inl ⟨hj, by rw [← h2]; exact nm_at h1⟩⟩
theorem linkL1_is {s t : ByteArray} : ∀ (xs : List Airway) (k : Nat) (out : List ByteArray), (∀ a ∈ xs, a.Fixes.length ≤ 24 ∧ ∀ (j : Nat) (x : ByteArray), a.Fixes[j]? = some x → x ∉ a.Fixes.take j) → (t ∈ chart_Links_L1 s xs k out ↔ t ∈ out ∨ ∃ a ∈ xs, Hit a.Fixes s t)
  | [], _, _, _ => by unfold chart_Links_L1; simp
  | a :: xs, k, out, H => by
    have ih := fun out => linkL1_is (s := s) (t := t) xs (k + 1) out fun a ha => H a (List.mem_cons_of_mem _ ha)
    have Ha := H a (List.mem_cons_self ..)
    unfold chart_Links_L1
    simp only
    have ex : (∃ b ∈ a :: xs, Hit b.Fixes s t) ↔ Hit a.Fixes s t ∨ ∃ b ∈ xs, Hit b.Fixes s t := by simp
    rw [ex]
    rcases ti_is a.Fixes s with h | ⟨j, h, h2⟩
    · have no : ¬ Hit a.Fixes s t := by
        rintro ⟨i, ⟨h1, _⟩ | ⟨_, h1⟩⟩ <;> exact h.2 (List.mem_of_getElem? h1)
      rw [h.1, show decide ((-1 : Int) ≥ 0) = false from rfl, cond_false, ih]
      simp [no]
    · have hj := (List.getElem?_eq_some_iff.1 h2).1
      rw [hit_at Ha.2 h2, h, decide_eq_true (show (j : Int) ≥ 0 by omega), cond_true, w64_id (x := (j : Int) + 1) (by omega)]
      rw [show ((j : Int) + 1).toNat = j + 1 by omega]
      unfold nm
      generalize hp1 : a.Fixes[j + 1]?.getD (⟨#[]⟩ : ByteArray) = p1
      by_cases h0 : (j : Int) > 0
      · rw [decide_eq_true h0, cond_true, w64_id (x := (j : Int) - 1) (by omega), show ((j : Int) - 1).toNat = j - 1 by omega]
        generalize hp0 : a.Fixes[j - 1]?.getD (⟨#[]⟩ : ByteArray) = p0
        by_cases h1 : (j : Int) + 1 < (a.Fixes.length : Int)
        · rw [decide_eq_true h1, cond_true, ih, List.mem_append, List.mem_append, List.mem_singleton, List.mem_singleton]
          have h0' : 0 < j := by omega
          have h1' : j + 1 < a.Fixes.length := by omega
          clear ih H Ha ex hp0 hp1
          grind
        · rw [decide_eq_false h1, cond_false, ih, List.mem_append, List.mem_singleton]
          have h0' : 0 < j := by omega
          have h1' : ¬ j + 1 < a.Fixes.length := by omega
          clear ih H Ha ex hp0 hp1
          grind
      · rw [decide_eq_false h0, cond_false]
        by_cases h1 : (j : Int) + 1 < (a.Fixes.length : Int)
        · rw [decide_eq_true h1, cond_true, ih, List.mem_append, List.mem_singleton]
          have h0' : ¬ 0 < j := by omega
          have h1' : j + 1 < a.Fixes.length := by omega
          clear ih H Ha ex hp1
          grind
        · rw [decide_eq_false h1, cond_false, ih]
          have h0' : ¬ 0 < j := by omega
          have h1' : ¬ j + 1 < a.Fixes.length := by omega
          clear ih H Ha ex hp1
          grind
theorem links_is {c : Chart} (hc : chart_Check c = 0) {s : ByteArray} (hs : 0 ≤ chart_index c s) : (chart_Links c s).1.Pairwise lt_ ∧ ∀ t, t ∈ (chart_Links c s).1 ↔ Adj c s t := by
  have K := chk_is hc
  unfold chart_Links bindv
  rw [hc]
  simp only
  rw [show ((0 : Int) != 0) = false from rfl, cond_false, decide_eq_false (by omega), cond_false]
  have C := cpt_is (sortT_pw (chart_Links_L1 s c.Airways 0 []))
  refine ⟨C.1, fun t => (C.2 t).trans (((sortT_perm _).mem_iff).trans ((linkL1_is c.Airways 0 [] fun a ha => ⟨(K.air a ha).2.1, fun j x hx => ((K.air a ha).2.2 j x hx).2.1⟩).trans ?_))⟩
  simp [Adj]
theorem lnk_L2 {a b : ByteArray} {x : Airway} : ∀ (m k : Nat), k + m ≤ 64 → (skywayref1_linked_L2 a b x m k = .inr true ∧ ∃ j, k ≤ j ∧ j < k + m ∧ ((nm x.Fixes j = a ∧ nm x.Fixes (j + 1) = b) ∨ (nm x.Fixes j = b ∧ nm x.Fixes (j + 1) = a))) ∨
    (skywayref1_linked_L2 a b x m k = .inl () ∧ ∀ j, k ≤ j → j < k + m → ¬ ((nm x.Fixes j = a ∧ nm x.Fixes (j + 1) = b) ∨ (nm x.Fixes j = b ∧ nm x.Fixes (j + 1) = a)))
  | 0, _, _ => .inr ⟨rfl, fun j h h2 => by omega⟩
  | m + 1, k, hk => by
    have ih := lnk_L2 (a := a) (b := b) (x := x) m (k + 1) (by omega)
    unfold skywayref1_linked_L2
    rw [show (1 + (k : Int)) - 1 = (k : Int) by omega, w64_id (x := (k : Int)) (by omega), Int.toNat_natCast, show (1 + (k : Int)).toNat = k + 1 by omega]
    change (cond (seq (nm x.Fixes k) a) (cond (seq (nm x.Fixes (k + 1)) b) _ (cond (seq (nm x.Fixes k) b) (cond (seq (nm x.Fixes (k + 1)) a) _ _) _)) (cond (seq (nm x.Fixes k) b) (cond (seq (nm x.Fixes (k + 1)) a) _ _) _) = _ ∧ _) ∨ (cond (seq (nm x.Fixes k) a) (cond (seq (nm x.Fixes (k + 1)) b) _ (cond (seq (nm x.Fixes k) b) (cond (seq (nm x.Fixes (k + 1)) a) _ _) _)) (cond (seq (nm x.Fixes k) b) (cond (seq (nm x.Fixes (k + 1)) a) _ _) _) = _ ∧ _)
    have yes : ((nm x.Fixes k = a ∧ nm x.Fixes (k + 1) = b) ∨ (nm x.Fixes k = b ∧ nm x.Fixes (k + 1) = a)) → ∃ j, k ≤ j ∧ j < k + (m + 1) ∧ ((nm x.Fixes j = a ∧ nm x.Fixes (j + 1) = b) ∨ (nm x.Fixes j = b ∧ nm x.Fixes (j + 1) = a)) := fun h => ⟨k, Nat.le_refl _, by omega, h⟩
    have no : ¬ ((nm x.Fixes k = a ∧ nm x.Fixes (k + 1) = b) ∨ (nm x.Fixes k = b ∧ nm x.Fixes (k + 1) = a)) → (skywayref1_linked_L2 a b x m (k + 1) = .inr true ∧ ∃ j, k ≤ j ∧ j < k + (m + 1) ∧ ((nm x.Fixes j = a ∧ nm x.Fixes (j + 1) = b) ∨ (nm x.Fixes j = b ∧ nm x.Fixes (j + 1) = a))) ∨
        (skywayref1_linked_L2 a b x m (k + 1) = .inl () ∧ ∀ j, k ≤ j → j < k + (m + 1) → ¬ ((nm x.Fixes j = a ∧ nm x.Fixes (j + 1) = b) ∨ (nm x.Fixes j = b ∧ nm x.Fixes (j + 1) = a))) := fun h => by
      rcases ih with ⟨h1, j, h2, h3, h4⟩ | ⟨h1, h2⟩
      · exact .inl ⟨h1, j, by omega, by omega, h4⟩
      · refine .inr ⟨h1, fun j hj hj2 => ?_⟩
        rcases Nat.lt_or_ge k j with g | g
        · exact h2 j g (by omega)
        · rw [show j = k by omega]; exact h
    clear ih
    cases e1 : seq (nm x.Fixes k) a <;> cases e2 : seq (nm x.Fixes (k + 1)) b <;> cases e3 : seq (nm x.Fixes k) b <;> cases e4 : seq (nm x.Fixes (k + 1)) a <;> simp only [cond_true, cond_false] <;> simp only [seq_iff, seq_F] at e1 e2 e3 e4 <;>
      first
        | exact .inl ⟨trivial, yes (.inl ⟨e1, e2⟩)⟩
        | exact .inl ⟨trivial, yes (.inr ⟨e3, e4⟩)⟩
        | exact .inl ⟨rfl, yes (.inl ⟨e1, e2⟩)⟩
        | exact .inl ⟨rfl, yes (.inr ⟨e3, e4⟩)⟩
        | exact no fun h => by rcases h with h | h <;> first | exact e1 h.1 | exact e2 h.2 | exact e3 h.1 | exact e4 h.2
theorem hit_iff {F : List ByteArray} {s t : ByteArray} : Hit F s t ↔ ∃ j, j < F.length - 1 ∧ ((nm F j = s ∧ nm F (j + 1) = t) ∨ (nm F j = t ∧ nm F (j + 1) = s)) := by
  constructor
  · rintro ⟨j, h | h⟩
    · exact ⟨j, by have := (List.getElem?_eq_some_iff.1 h.2).1; omega, .inl ⟨nm_of h.1, nm_of h.2⟩⟩
    · exact ⟨j, by have := (List.getElem?_eq_some_iff.1 h.2).1; omega, .inr ⟨nm_of h.1, nm_of h.2⟩⟩
  · rintro ⟨j, hj, h | h⟩
    · exact ⟨j, .inl ⟨by rw [← h.1]; exact nm_at (by omega), by rw [← h.2]; exact nm_at (by omega)⟩⟩
    · exact ⟨j, .inr ⟨by rw [← h.1]; exact nm_at (by omega), by rw [← h.2]; exact nm_at (by omega)⟩⟩
theorem lnk_L1 {a b : ByteArray} : ∀ (xs : List Airway) (k : Nat), (∀ x ∈ xs, x.Fixes.length ≤ 24) → (skywayref1_linked_L1 a b xs k = .inr true ∧ ∃ x ∈ xs, Hit x.Fixes a b) ∨ (skywayref1_linked_L1 a b xs k = .inl () ∧ ∀ x ∈ xs, ¬ Hit x.Fixes a b)
  | [], _, _ => .inr ⟨rfl, fun _ h => by cases h⟩
  | x :: xs, k, H => by
    have ih := lnk_L1 (a := a) (b := b) xs (k + 1) fun y hy => H y (List.mem_cons_of_mem _ hy)
    have Hx := H x (List.mem_cons_self ..)
    unfold skywayref1_linked_L1
    rcases lnk_L2 (a := a) (b := b) (x := x) (x.Fixes.length - 1) 0 (by omega) with ⟨h1, j, _, h3, h4⟩ | ⟨h1, h2⟩
    · rw [h1]
      exact .inl ⟨rfl, x, List.mem_cons_self .., hit_iff.2 ⟨j, by omega, h4⟩⟩
    · rw [h1, Sum.elim_inl]
      rcases ih with ⟨g, y, hy, g2⟩ | ⟨g, g2⟩
      · exact .inl ⟨g, y, List.mem_cons_of_mem _ hy, g2⟩
      · refine .inr ⟨g, fun y hy hh => ?_⟩
        rcases List.mem_cons.1 hy with rfl | hy
        · obtain ⟨j, hj, h4⟩ := hit_iff.1 hh
          exact h2 j (Nat.zero_le _) (by omega) h4
        · exact g2 y hy hh
theorem linked_is {c : Chart} (K : Chk c) (a b : ByteArray) : skywayref1_linked c a b = true ↔ Adj c a b := by
  unfold skywayref1_linked
  rcases lnk_L1 (a := a) (b := b) c.Airways 0 fun x hx => (K.air x hx).2.1 with ⟨h, h2⟩ | ⟨h, h2⟩
  · rw [h]; exact ⟨fun _ => h2, fun _ => rfl⟩
  · rw [h]; exact ⟨fun h => (by cases h), fun ⟨x, hx, h3⟩ => absurd h3 (h2 x hx)⟩
end Go.Sky
end
section
namespace Go.Sky
open Go Go.Eng Go.Srt
theorem of_L1 : ∀ (xs : List Fix) (k : Nat) (out : List ByteArray), shortest_of_L1 xs k out = out ++ xs.map Fix.Name
  | [], _, out => by unfold shortest_of_L1; rw [List.map_nil, List.append_nil]
  | x :: xs, k, out => by unfold shortest_of_L1; rw [of_L1 xs, List.append_assoc]; rfl
theorem of_L3 {c : Chart} {r1 : List ByteArray} {s : ByteArray} : ∀ (xs : List ByteArray) (k : Nat) (a b : List Int), shortest_of_L3 c r1 s xs k a b = (a ++ xs.map (fun t => (slices_BinarySearch_string_string r1 t).1), b ++ xs.map fun t => (chart_Length c [s, t]).1)
  | [], _, a, b => by unfold shortest_of_L3; simp
  | x :: xs, k, a, b => by unfold shortest_of_L3; simp only; rw [of_L3 xs]; simp
abbrev lnkRow (c : Chart) (N : List ByteArray) (s : ByteArray) : List Int := (chart_Links c s).1.map fun t => (slices_BinarySearch_string_string N t).1
abbrev lenRow (c : Chart) (s : ByteArray) : List Int := (chart_Links c s).1.map fun t => (chart_Length c [s, t]).1
theorem of_L2 {c : Chart} {r1 : List ByteArray} : ∀ (xs : List ByteArray) (k : Nat) (a b : List (List Int)), shortest_of_L2 c r1 xs k a b = (a ++ xs.map (lnkRow c r1), b ++ xs.map (lenRow c))
  | [], _, a, b => by unfold shortest_of_L2; simp
  | x :: xs, k, a, b => by unfold shortest_of_L2 bindv; simp only; rw [of_L3]; simp only; rw [of_L2 xs]; simp
abbrev names_ (c : Chart) : List ByteArray := sortT (c.Fixes.map Fix.Name)
theorem of_is (c : Chart) : shortest_of c = ⟨names_ c, (names_ c).map (lnkRow c (names_ c)), (names_ c).map (lenRow c)⟩ := by
  unfold shortest_of bindv
  rw [of_L1]
  simp only [List.nil_append]
  rw [of_L2]
  simp
theorem names_mem {c : Chart} {s : ByteArray} : s ∈ names_ c ↔ 0 ≤ chart_index c s := by
  rw [(sortT_perm _).mem_iff, List.mem_map]
  rcases ix_is c s with ⟨h, h2⟩ | ⟨j, x, h, h2, h3⟩
  · exact ⟨fun ⟨x, hx, hn⟩ => absurd hn (h2 x hx), fun g => by omega⟩
  · exact ⟨fun _ => by omega, fun _ => ⟨x, List.mem_of_getElem? h2, h3⟩⟩
theorem names_nd {c : Chart} (K : Chk c) : (c.Fixes.map Fix.Name).Nodup := by
  unfold List.Nodup
  rw [List.pairwise_map, List.pairwise_iff_getElem]
  intro i j hi hj hij h
  have a := K.fst i _ (List.getElem?_eq_getElem hi)
  have b := K.fst j _ (List.getElem?_eq_getElem hj)
  rw [h] at a
  omega
theorem names_len (c : Chart) : (names_ c).length = c.Fixes.length := by rw [sortT_length, List.length_map]
abbrev nme (n : net) (k : Int) : ByteArray := nm n.names k.toNat
structure Net (c : Chart) (n : net) : Prop where
  ok : NetOk n
  sym : NetSym n
  srt : n.names.Pairwise lt_
  len : n.names.length = c.Fixes.length
  mem : ∀ s, s ∈ n.names ↔ 0 ≤ chart_index c s
  arc : ∀ k m d, In n k → ((∃ i, arc n k i m d) ↔ In n m ∧ Adj c (nme n k) (nme n m) ∧ d = dst (at0 c (nme n k)) (at0 c (nme n m)))
  find : ∀ s, (∃ k : Nat, n.names[k]? = some s ∧ shortest_net_find n s = (k : Int)) ∨ (s ∉ n.names ∧ shortest_net_find n s = -1)
theorem net_law {c : Chart} (hc : chart_Check c = 0) (h7 : c.Fixes.length ≤ 7) (h1 : 1 ≤ c.Fixes.length) : Net c (shortest_of c) := by
  have K := chk_is hc
  have nl := names_len c
  have np : (names_ c).Pairwise lt_ := sortT_lt (names_nd K)
  have bs := fun s => bs_is np (by omega) s
  rw [of_is]
  generalize hN : names_ c = N at nl np bs
  have nmem : ∀ s, s ∈ N ↔ 0 ≤ chart_index c s := fun s => by rw [← hN]; exact names_mem
  have at_ok : ∀ k : Nat, k < N.length → 0 ≤ chart_index c (nm N k) := fun k hk => (nmem _).1 (List.mem_of_getElem? (nm_at hk))
  have lkr : ∀ k : Nat, k < N.length → lk ⟨N, N.map (lnkRow c N), N.map (lenRow c)⟩ k = lnkRow c N (nm N k) := fun k hk => by
    unfold lk; simp only; rw [List.getElem?_map, nm_at hk]; rfl
  have lgr : ∀ k : Nat, k < N.length → lg ⟨N, N.map (lnkRow c N), N.map (lenRow c)⟩ k = lenRow c (nm N k) := fun k hk => by
    unfold lg; simp only; rw [List.getElem?_map, nm_at hk]; rfl
  have num : ∀ t, 0 ≤ chart_index c t → ∃ j : Nat, N[j]? = some t ∧ (slices_BinarySearch_string_string N t).1 = (j : Int) := fun t ht => by
    obtain ⟨j, hj⟩ := List.getElem?_of_mem ((nmem t).2 ht)
    exact ⟨j, hj, by rw [(bs t).1 j hj]⟩
  have uni : ∀ (i j : Nat) (t : ByteArray), N[i]? = some t → N[j]? = some t → i = j := fun i j t hi hj => by
    have li := (List.getElem?_eq_some_iff.1 hi).1
    have lj := (List.getElem?_eq_some_iff.1 hj).1
    rcases Nat.lt_trichotomy i j with g | g | g
    · have := nm_lt np g lj; rw [nm_of hi, nm_of hj] at this; exact absurd this (lt_irr _)
    · exact g
    · have := nm_lt np g li; rw [nm_of hi, nm_of hj] at this; exact absurd this (lt_irr _)
  have arcs : ∀ k m d, In ⟨N, N.map (lnkRow c N), N.map (lenRow c)⟩ k → ((∃ i, arc ⟨N, N.map (lnkRow c N), N.map (lenRow c)⟩ k i m d) ↔ In ⟨N, N.map (lnkRow c N), N.map (lenRow c)⟩ m ∧ Adj c (nm N k.toNat) (nm N m.toNat) ∧ d = dst (at0 c (nm N k.toNat)) (at0 c (nm N m.toNat))) := fun k m d hk => by
    have hk2 : k.toNat < N.length := by have a := hk.1; have b : k < (N.length : Int) := hk.2; omega
    have hks := at_ok _ hk2
    have L := links_is hc hks
    unfold arc
    rw [lkr _ hk2, lgr _ hk2]
    constructor
    · rintro ⟨i, h2, h3⟩
      rw [List.getElem?_map] at h2 h3
      obtain ⟨t, ht, h2⟩ := Option.map_eq_some_iff.1 h2
      rw [ht] at h3
      have h3 := Option.some.inj h3
      have ha := (L.2 t).1 (List.mem_of_getElem? ht)
      have hti := (adj_in K ha).2.1
      obtain ⟨j, hj, hj2⟩ := num t hti
      have hjl := (List.getElem?_eq_some_iff.1 hj).1
      rw [hj2] at h2
      subst h2
      refine ⟨⟨by omega, by show (j : Int) < (N.length : Int); omega⟩, ?_⟩
      rw [Int.toNat_natCast, nm_of hj]
      exact ⟨ha, by rw [← h3]; show (chart_Length c [nm N k.toNat, t]).1 = _; rw [len_is hc hks hti]⟩
    · rintro ⟨hm, ha, hd⟩
      have hm2 : m.toNat < N.length := by have a := hm.1; have b : m < (N.length : Int) := hm.2; omega
      obtain ⟨i, hi⟩ := List.getElem?_of_mem ((L.2 _).2 ha)
      have hti := at_ok _ hm2
      refine ⟨i, ?_, ?_⟩
      · rw [List.getElem?_map, hi, Option.map_some, (bs _).1 _ (nm_at hm2)]
        exact congrArg some (Int.toNat_of_nonneg hm.1)
      · rw [List.getElem?_map, hi, Option.map_some, len_is hc hks hti, hd]
  have rowm : ∀ k : Nat, k < N.length → ∀ m ∈ lnkRow c N (nm N k), 0 ≤ m ∧ m < (N.length : Int) := fun k hk m hm => by
    obtain ⟨t, ht, rfl⟩ := List.mem_map.1 hm
    obtain ⟨j, hj, hj2⟩ := num t (adj_in K (((links_is hc (at_ok k hk)).2 t).1 ht)).2.1
    have := (List.getElem?_eq_some_iff.1 hj).1
    show 0 ≤ (slices_BinarySearch_string_string N t).1 ∧ (slices_BinarySearch_string_string N t).1 < (N.length : Int)
    rw [hj2]; omega
  refine ⟨⟨by show 1 ≤ N.length; omega, by show N.length ≤ 7; omega, List.length_map _, List.length_map _, fun k hk => ?_, fun k hk m hm => ?_, fun k hk d hd => ?_⟩, ⟨fun k i m d hk ha => ?_, fun k hk => ?_⟩, np, nl, nmem, arcs, fun s => ?_⟩
  · rw [lkr k hk, lgr k hk, List.length_map, List.length_map]
    exact ⟨rfl, links_len hc rfl⟩
  · rw [lkr k hk] at hm; exact rowm k hk m hm
  · rw [lgr k hk] at hd
    obtain ⟨t, ht, rfl⟩ := List.mem_map.1 hd
    have ad := adj_in K (((links_is hc (at_ok k hk)).2 t).1 ht)
    rw [len_is hc ad.1 ad.2.1]
    have := dst_in (at0_in K ad.1) (at0_in K ad.2.1)
    exact ⟨this.2.2 ad.2.2, this.2.1⟩
  · have h := (arcs k m d hk).1 ⟨i, ha⟩
    refine (arcs m k d h.1).2 ⟨hk, h.2.1.comm, ?_⟩
    have ad := adj_in K h.2.1
    rw [h.2.2, dst_comm (at0_in K ad.1) (at0_in K ad.2.1)]
  · have hk2 : k.toNat < N.length := by have a := hk.1; have b : k < (N.length : Int) := hk.2; omega
    rw [lkr _ hk2, List.pairwise_map]
    have L := links_is hc (at_ok _ hk2)
    refine L.1.imp_of_mem fun {a b} ha hb hab => ?_
    obtain ⟨i, hi, hi2⟩ := num a (adj_in K ((L.2 a).1 ha)).2.1
    obtain ⟨j, hj, hj2⟩ := num b (adj_in K ((L.2 b).1 hb)).2.1
    have li := (List.getElem?_eq_some_iff.1 hi).1
    have lj := (List.getElem?_eq_some_iff.1 hj).1
    rw [hi2, hj2]
    rcases Nat.lt_trichotomy i j with g | g | g
    · omega
    · subst g; rw [hi] at hj; cases hj; exact absurd hab (lt_irr _)
    · have := nm_lt np g li; rw [nm_of hi, nm_of hj] at this; exact absurd (lt_trans this hab) (lt_irr _)
  · unfold shortest_net_find
    simp only
    by_cases hs : s ∈ N
    · obtain ⟨j, hj⟩ := List.getElem?_of_mem hs
      exact .inl ⟨j, hj, by rw [(bs s).1 j hj]; rfl⟩
    · exact .inr ⟨hs, by rw [(bs s).2 hs]; rfl⟩
theorem find_in {c : Chart} {n : net} (h : Net c n) {s : ByteArray} (h0 : ¬ shortest_net_find n s < 0) : In n (shortest_net_find n s) ∧ nme n (shortest_net_find n s) = s := by
  rcases h.find s with ⟨k, hk, e⟩ | ⟨_, e⟩
  · have := (List.getElem?_eq_some_iff.1 hk).1
    rw [e]
    exact ⟨⟨by omega, by omega⟩, by unfold nme; rw [Int.toNat_natCast]; exact nm_of hk⟩
  · omega
theorem find_none {c : Chart} (hc : c.Fixes = []) (s : ByteArray) : shortest_net_find (shortest_of c) s = -1 := by
  rw [of_is]
  have e : names_ c = [] := List.eq_nil_of_length_eq_zero (by rw [names_len, hc]; rfl)
  rw [e]
  rfl
theorem ends_is {c : Chart} {f t : ByteArray} (h7 : c.Fixes.length ≤ 7) {r : net × Int × Int × Int} (hr : shortest_ends c f t = r) (h0 : (r.2.2.2 != 0) = false) :
    Net c r.1 ∧ r.1 = shortest_of c ∧ In r.1 r.2.1 ∧ In r.1 r.2.2.1 ∧ nme r.1 r.2.1 = f ∧ nme r.1 r.2.2.1 = t := by
  subst hr
  unfold shortest_ends at h0 ⊢
  simp only at h0 ⊢
  cases e : (chart_Check c != 0) with
  | true => rw [e, cond_true] at h0; rw [e] at h0; cases h0
  | false =>
    have hc : chart_Check c = 0 := by simpa using e
    rw [e, cond_false] at h0
    rw [cond_false]
    cases e2 : (decide (shortest_net_find (shortest_of c) f < 0) || decide (shortest_net_find (shortest_of c) t < 0)) with
    | true => rw [e2] at h0; cases h0
    | false =>
      rw [Bool.or_eq_false_iff] at e2
      have e3 := of_decide_eq_false e2.1
      have e4 := of_decide_eq_false e2.2
      rw [cond_false]
      have h1 : 1 ≤ c.Fixes.length := by
        rcases Nat.eq_zero_or_pos c.Fixes.length with g | g
        · have := find_none (List.eq_nil_of_length_eq_zero g) f; omega
        · exact g
      have nt := net_law hc h7 h1
      have a := find_in nt e3
      have b := find_in nt e4
      exact ⟨nt, rfl, a.1, b.1, a.2, b.2⟩
end Go.Sky
end
section
namespace Go.Eng
open Go.RowKit
theorem nil_row {w : World} {sz : Nat} {A : Option Addr} {α : Type} {l : List α} {r : α → Array Value} (h : Rd w sz A (l.map r)) (h0 : l.length = 0 → A = none) : A.isNone = decide ((l.length : Int) = 0) := by
  cases l with
  | nil => rw [h0 rfl]; rfl
  | cons x l =>
    obtain ⟨_, ad, e, _⟩ := h.row 0 (r x) rfl
    rw [e, decide_eq_false (by rw [List.length_cons]; omega)]
    rfl
theorem run_nil {P : Program} {t e : TypeId} {A : Option Addr} {n c n' c' : Nat} {b : Bool} {x y : Operand} {w : World} (h : P.underlying t = some (.slice e)) (hb : A.isNone = b) :
    (sV (do eqGuard .eql t x y (.slice A n c) (.slice none n' c'); binOp .eql t (.slice A n c) (.slice none n' c'))).run P w = .ok (.value (.bool b)) w :=
  run_sV (by show (binOp .eql t (.slice A n c) (.slice none n' c')).run P w = _; rw [Go.Lib.run_eql_slice_nil w t e A n c n' c' h, hb])
end Go.Eng
namespace Go.Sky
open Go Go.Eng Go.Srt
theorem nodup_le : ∀ (N : Nat) (l : List Nat), l.Nodup → (∀ x ∈ l, x < N) → l.length ≤ N
  | 0, l, _, h => by
    cases l with
    | nil => exact Nat.le_refl _
    | cons x l => exact absurd (h x (List.mem_cons_self ..)) (Nat.not_lt_zero _)
  | N + 1, l, hd, h => by
    by_cases hm : N ∈ l
    · have e := List.length_erase_of_mem hm
      have ih := nodup_le N (l.erase N) (hd.erase N) (fun x hx => by
        have h1 := (hd.mem_erase_iff).1 hx
        have := h x h1.2
        have := h1.1
        omega)
      omega
    · have := nodup_le N l hd (fun x hx => by
        have := h x hx
        have : x ≠ N := fun e => hm (e ▸ hx)
        omega)
      omega
theorem in_le {n : net} {l : List Int} (hd : l.Nodup) (h : ∀ x ∈ l, In n x) : l.length ≤ n.names.length := by
  rw [← List.length_map (f := Int.toNat)]
  refine nodup_le _ _ ?_ fun x hx => ?_
  · unfold List.Nodup
    rw [List.pairwise_map]
    refine List.Pairwise.imp_of_mem (fun {a b} ha hb hab => ?_) hd
    have := (h a ha).1
    have := (h b hb).1
    omega
  · obtain ⟨y, hy, rfl⟩ := List.mem_map.1 hx
    have := (h y hy).1
    have := (h y hy).2
    omega
theorem pth_bd {n : net} (hN : NetOk n) {s : List Bool} {to : Int} {q : List Int} {e : Int} (h : Pth n s to q e) : ∀ v p, q = v :: p → In n v → e ≤ 3000000 * (p.length : Int) := by
  induction h with
  | last => intro v p hq _; cases hq; exact Int.le_refl _
  | cons ha _ _ ih =>
    intro v p hq hv
    cases hq
    have a := arc_in hN hv ha
    have := ih _ _ rfl a.1
    rw [List.length_cons]
    omega
structure Won (n : net) (f to b : Int) (s : List Bool) (tail : List Int) (c : Int) : Prop where
  pth : Pth n s to (f :: tail) c
  fst : ∀ m, tail.head? = some m → m ≠ b
  mem : ∀ x ∈ tail, In n x ∧ shut_ s x = false
  nd : (f :: tail).Nodup
  bd : 0 ≤ c ∧ c ≤ 18000000
  len : tail.length ≤ 6
  least : ∀ p e, Pth n s to (f :: p) e → (∀ m, p.head? = some m → m ≠ b) → c < e ∨ c = e ∧ lexle tail p
theorem way_all {n : net} {f to b : Int} {s0 : List Bool} (hN : NetOk n) (hS : NetSym n) (hf : In n f) (ht : In n to) (hc : s0.length = n.names.length) (hs : shut_ s0 to = false) :
    (∃ tail c, shortest_net_way n f to s0 b = (f :: tail, c, true) ∧ Won n f to b (s0.set f.toNat true) tail c) ∨
    (shortest_net_way n f to s0 b = ([], 0, false) ∧ ∀ p e, Pth n (s0.set f.toNat true) to (f :: p) e → (∀ m, p.head? = some m → m ≠ b) → False) := by
  by_cases hne : f = to
  · subst hne
    refine .inl ⟨[], 0, ?_, .last, fun m h => (by cases h), fun x h => (by cases h), by simp, by decide, by decide, fun p e hp _ => ?_⟩
    · unfold shortest_net_way; rw [show (f == f) = true by simp]; rfl
    · have g := (pth_pos hN hp f p rfl hf).1
      rcases Int.lt_or_eq_of_le g with g | g
      · exact .inl g
      · exact .inr ⟨g, trivial⟩
  · have A := ask_of hN hS hf ht hc hs (by simpa using hne) (rfl : slices_Clone_bool_bool s0 = s0) rfl
    rcases way_law (b := b) A with ⟨tail, c, h1, h2, G, h3⟩ | h
    · have nd : (f :: tail).Nodup := by
        refine List.nodup_cons.2 ⟨fun hx => ?_, G.nd⟩
        have := (G.mem f hx).2.1
        rw [A.sf] at this
        cases this
      have len := in_le (n := n) nd fun x hx => by
        rcases List.mem_cons.1 hx with rfl | hx
        · exact hf
        · exact (G.mem x hx).1
      rw [List.length_cons] at len
      have n7 := hN.n7
      have bd := pth_bd hN G.pth f tail rfl hf
      refine .inl ⟨tail, c, h1, G.pth, G.fst rfl, fun x hx => ⟨(G.mem x hx).1, (G.mem x hx).2.1⟩, nd, by omega, by omega, fun p e hp hb => ?_⟩
      have := h3 p e hp hb
      rcases Int.lt_or_eq_of_le this with g | g
      · exact .inl g
      · subst g
        exact .inr ⟨rfl, G.lex p hp fun _ => hb⟩
    · exact .inr h
theorem way_in {n : net} {f to b : Int} {s0 : List Bool} {r : List Int × Int × Bool} (hN : NetOk n) (hS : NetSym n) (hf : In n f) (ht : In n to) (hc : s0.length = n.names.length) (hs : shut_ s0 to = false) (hr : shortest_net_way n f to s0 b = r) :
    r.1.length ≤ 7 ∧ (∀ k ∈ r.1, 0 ≤ k ∧ k < (n.names.length : Int)) ∧ (0 ≤ r.2.1 ∧ r.2.1 ≤ 18000000) ∧ (r.2.2 = true → 1 ≤ r.1.length) := by
  subst hr
  rcases way_all (b := b) hN hS hf ht hc hs with ⟨tail, c, h1, W⟩ | ⟨h1, _⟩
  · rw [h1]
    have := W.len
    refine ⟨by rw [List.length_cons]; omega, fun k hk => ?_, W.bd, fun _ => by rw [List.length_cons]; omega⟩
    rcases List.mem_cons.1 hk with rfl | hk
    · exact hf
    · exact (W.mem k hk).1
  · rw [h1]
    exact ⟨Nat.zero_le _, fun k hk => (by cases hk), by decide, fun h => (by cases h)⟩
theorem open_all (n : Nat) (v : Int) : shut_ (List.replicate n false) v = false := by
  unfold shut_
  rw [List.getElem?_replicate]
  split <;> rfl
end Go.Sky
end
section
namespace Go.Sky
open Go Go.Eng Go.Proofs
open Go.Srt
def shortest_Path (c : Chart) (from_ : ByteArray) (to : ByteArray) : List ByteArray × Int × Int :=
  let r1 := shortest_ends c from_ to
  cond (r1.2.2.2 != 0) (
    ([], 0, r1.2.2.2)) (
    let r2 := shortest_net_way r1.1 r1.2.1 r1.2.2.1 (List.replicate ((r1.1.names.length : Int).toNat) false) (-1)
    cond (!r2.2.2) (
      ([], 0, 8)) (
      let r3 := shortest_net_text r1.1 r2.1
      (r3, r2.2.1, 0)))
set_option maxRecDepth 100000 in
theorem shortest_Path_w (c : Chart) (A_c_Fixes : Option Addr) (c_c_Fixes : Nat) (A_c_Airways : Option Addr) (c_c_Airways : Nat) (o_c_Airways : List (AirwayR)) (from_ : ByteArray) (to : ByteArray) (w : World) (h_c_Fixes : Rd w 3 A_c_Fixes (c.Fixes.map Fix.c)) (hc_c_Fixes : c.Fixes.length ≤ c_c_Fixes) (h_c_Airways : Rd w 2 A_c_Airways (o_c_Airways.map AirwayR.c)) (hc_c_Airways : c.Airways.length ≤ c_c_Airways) (hd_c_Airways : ∀ s ∈ (o_c_Airways.map AirwayR.Fixes), s.rd w 1 sc) (_he_c_Airways : c.Airways = o_c_Airways.map AirwayR.p) (h7 : c.Fixes.length ≤ 7) : Calls Try.prog 6 #[.agg #[.slice A_c_Fixes c.Fixes.length c_c_Fixes, .slice A_c_Airways c.Airways.length c_c_Airways], .string from_, .string to] w (RetM (Γ := (Option Addr × Nat)) (cx w) (fun g => .tuple #[.slice g.1 ((shortest_Path c from_ to).1.length) g.2, .int .i64 ((shortest_Path c from_ to).2.1), .int .i64 ((shortest_Path c from_ to).2.2)]) (fun g => [.inr (Own g.1 g.2 9 1 (((shortest_Path c from_ to).1).map sc))])) := by
  have s_c_Fixes := h_c_Fixes.short; rw [List.length_map] at s_c_Fixes
  have s_c_Airways := h_c_Airways.short; rw [← dl_len _he_c_Airways] at s_c_Airways
  refine calls_intro (vs := [.agg #[.slice A_c_Fixes c.Fixes.length c_c_Fixes, .slice A_c_Airways c.Airways.length c_c_Airways], .string from_, .string to]) (w := w) Try.func6 rfl Try.ntmps6 rfl (TC.sr (TL.nw 3 (fun b1 => .p0 b1) (fun b1 => Bk b1 #[.slice A_c_Fixes c.Fixes.length c_c_Fixes, .slice A_c_Airways c.Airways.length c_c_Airways] 25) (fun b1 => {}) (fun b1 => TL.r 4 [] [(6, .slice none 0 0), (7, .i 0), (8, .i 0)] {} (TL.nr (TL.r 3 [0] [(17, .agg #[.slice A_c_Fixes c.Fixes.length c_c_Fixes, .slice A_c_Airways c.Airways.length c_c_Airways]), (18, .string from_), (19, .string to)] {} (TL.cn (Γ := AN × (AN × List (Sl Int)) × (AN × List (Sl Int))) 20 (shortest_ends c from_ to) (fun r1 g => .tuple #[.agg #[.slice g.1.1 r1.1.names.length g.1.2, .slice g.2.1.1.1 r1.1.links.length g.2.1.1.2, .slice g.2.2.1.1 r1.1.long.length g.2.2.1.2], .i r1.2.1, .i r1.2.2.1, .i r1.2.2.2]) (fun r1 g => [.inr (Fact (r1.1.links = g.2.1.2.map Sl.l)), .inr (Fact (r1.1.long = g.2.2.2.map Sl.l)), Ow g.1.1 g.1.2 9 1 (r1.1.names.map sc), Ow g.2.1.1.1 g.2.1.1.2 53 1 (g.2.1.2.map Sl.c), .inr (Bag 3 1 ic g.2.1.2), Ow g.2.2.1.1 g.2.2.1.2 53 1 (g.2.2.2.map Sl.c), .inr (Bag 3 1 ic g.2.2.2)]) (fun w hM => shortest_ends_w c A_c_Fixes c_c_Fixes A_c_Airways c_c_Airways o_c_Airways from_ to w (h_c_Fixes.sat hM) hc_c_Fixes (h_c_Airways.sat hM) hc_c_Airways (fun s hs => (hd_c_Airways s hs).sat hM) _he_c_Airways) {} (fun r1 hr1 => ?_)))))))
  rintro ⟨⟨A, c_2⟩, ⟨⟨A_2, c_3⟩, o⟩, ⟨A_3, c_4⟩, o_2⟩
  refine TL.know (fun w hM => hM.fact_at 0 rfl) (fun he_r1_1 => TL.know (fun w hM => hM.fact_at 1 rfl) (fun he_r1_2 => TL.forget [Ow A c_2 9 1 (r1.1.names.map sc), Ow A_2 c_3 53 1 (o.map Sl.c), .inr (Bag 3 1 ic o), Ow A_3 c_4 53 1 (o_2.map Sl.c), .inr (Bag 3 1 ic o_2), Bk b1 #[.slice A_c_Fixes c.Fixes.length c_c_Fixes, .slice A_c_Airways c.Airways.length c_c_Airways] 25] (.cons _ (.cons _ (List.Sublist.refl _))) (TL.know (fun w hM => hM.short_at 0 rfl) (fun s_r1_0 => TL.know (fun w hM => hM.short_at 1 rfl) (fun s_r1_1 => TL.know (fun w hM => hM.short_at 3 rfl) (fun s_r1_3 => ?_))))))
  have sl_he_r1_1 := sl_len' he_r1_1
  have sl_he_r1_2 := sl_len' he_r1_2
  refine TL.r 9 [] [(21, .agg #[.slice A r1.1.names.length c_2, .slice A_2 r1.1.links.length c_3, .slice A_3 r1.1.long.length c_4]), (22, .i r1.2.1), (23, .i r1.2.2.1), (24, .i r1.2.2.2)] {} (TL.nw 9 (fun b2 => .p0 b2) (fun b2 => Bk b2 #[.slice none 0 0, .slice none 0 0, .slice none 0 0] 50) (fun b2 => {}) (fun b2 => TL.s 0 (Bk b2 #[.slice A r1.1.names.length c_2, .slice A_2 r1.1.links.length c_3, .slice A_3 r1.1.long.length c_4] 50) (fun _ => {}) (TL.r 14 [] [(10, .i r1.2.1), (11, .i r1.2.2.1), (12, .i r1.2.2.2)] {} (TL.ns (TC.sr (TL.r 2 [] [(26, .b (r1.2.2.2 != 0))] {} (TL.next rfl (TC.cond (r1.2.2.2 != 0) rfl Kr (fun h1 => ?_) (fun h1 => ?_)))))))))
  · refine TC.sr (TL.r 4 [] [(6, .slice none 0 0), (7, .i 0), (8, .i r1.2.2.2)] {} (TL.next rfl (TC.ret (TE.rt ?_))))
    have e : shortest_Path c from_ to = ([], 0, r1.2.2.2) := by subst hr1; unfold shortest_Path; exact cond_t h1 (rfl)
    refine TE.conv [Ow none 0 9 1 (([] : List ByteArray).map sc), Bk b2 #[.slice A r1.1.names.length c_2, .slice A_2 r1.1.links.length c_3, .slice A_3 r1.1.long.length c_4] 50, Ow A c_2 9 1 (r1.1.names.map sc), Ow A_2 c_3 53 1 (o.map Sl.c), .inr (Bag 3 1 ic o), Ow A_3 c_4 53 1 (o_2.map Sl.c), .inr (Bag 3 1 ic o_2), Bk b1 #[.slice A_c_Fixes c.Fixes.length c_c_Fixes, .slice A_c_Airways c.Airways.length c_c_Airways] 25] (fun _ hM => hM.emptyrow none 9 1) ?_
    rw [e]
    exact TE.retM (.inl rfl) (none, 0) [] (.tuple #[.slice none 0 0, .i 0, .i r1.2.2.2]) {} rfl (fun _ hM => hM.sub (sb 1))
  · have q1_0 := (bne_f h1)
    refine TC.sn (TC.seq ?_)
    obtain ⟨r2, hr2⟩ : ∃ r, shortest_net_way r1.1 r1.2.1 r1.2.2.1 (List.replicate ((r1.1.names.length : Int).toNat) false) (-1) = r := ⟨_, rfl⟩
    let Mr4_ : Mem := [Bk b2 #[.slice A r1.1.names.length c_2, .slice A_2 r1.1.links.length c_3, .slice A_3 r1.1.long.length c_4] 50, Ow A c_2 9 1 (r1.1.names.map sc), Ow A_2 c_3 53 1 (o.map Sl.c), .inr (Bag 3 1 ic o), Ow A_3 c_4 53 1 (o_2.map Sl.c), .inr (Bag 3 1 ic o_2), Bk b1 #[.slice A_c_Fixes c.Fixes.length c_c_Fixes, .slice A_c_Airways c.Airways.length c_c_Airways] 25]
    refine TC.plan (G := AN × AN) (base := [(9, .p0 b2), (10, .i r1.2.1), (11, .i r1.2.2.1)]) (vals := fun γ => [.agg #[.slice A r1.1.names.length c_2, .slice A_2 r1.1.links.length c_3, .slice A_3 r1.1.long.length c_4], .i r1.2.1, .i r1.2.2.1, .p0 b2, .slice A r1.1.names.length c_2, .i (r1.1.names.length : Int), .slice (γ.1.1) ((List.replicate ((r1.1.names.length : Int).toNat) false).length) (γ.1.2), .tuple #[.slice (γ.2.1) r2.1.length (γ.2.2), .i r2.2.1, .b r2.2.2], .tuple #[.slice (γ.2.1) r2.1.length (γ.2.2), .i r2.2.1, .b r2.2.2], .slice (γ.2.1) r2.1.length (γ.2.2), .i r2.2.1, .b r2.2.2, .slice (γ.2.1) r2.1.length (γ.2.2), .i r2.2.1, .b r2.2.2]) (writes := [6, 7]) (mem := fun bs γ => match bs with | [x6_, x7_] => (bif x6_ then [Ow (γ.1.1) (γ.1.2) 4 1 ((List.replicate ((r1.1.names.length : Int).toNat) false).map bc)] else []) ++ ((bif x7_ then [Ow (γ.2.1) (γ.2.2) 3 1 (r2.1.map ic)] else []) ++ (Mr4_)) | _ => []) ((none, 0), (none, 0)) (fun γ => [(9, .p0 b2), (13, .slice (γ.2.1) r2.1.length (γ.2.2)), (14, .i r2.2.1), (15, .b r2.2.2)]) Kr Kr Kr Kr Kr (fun γ => Kr) (fun _ hM => hM) (fun γ => Kr) ?_ ?_
    · skip
      exact Steps.run (i := 0) 6 [0, 0, 0, 0, 0, 0] Mr4_ Kr Kr (fun S (γ : AN × AN) w hM => by rw [mS2 rfl rfl] at hM; exact hM.sub (sub_skip (sub_skip (List.Sublist.refl _)))) Kr (fun (γ : AN × AN) => {}) (Steps.op (i := 6) (Γ := AN) (fun g (γ : AN × AN) => (g, γ.2)) (fun _ => []) (fun g (γ : AN × AN) => [Ow (g.1) (g.2) 4 1 ((List.replicate ((r1.1.names.length : Int).toNat) false).map bc)]) (fun S (γ : AN × AN) => (bif S 7 then [Ow (γ.2.1) (γ.2.2) 3 1 (r2.1.map ic)] else []) ++ (Mr4_)) [6, 7, 8, 9, 10, 11, 12, 13, 14] (fun (γ : AN × AN) => sV (Instr.makeSlice 56 (.i (r1.1.names.length : Int)) (.i (r1.1.names.length : Int)))) (some 35) (fun g (γ : AN × AN) => .slice (g.1) ((List.replicate ((r1.1.names.length : Int).toNat) false).length) (g.2)) (fun S (γ : AN × AN) hj hd hl => by rw [mS2 hj rfl]; exact List.Perm.refl _) (fun S (γ : AN × AN) g _ => (List.Perm.refl _).symm) (fun (γ : AN × AN) M' w hM => make_at (P := Try.prog) (c := bc) (t := 56) (e := 4) (sz := 1) (bytes := 1) false .i64 .i64 ((r1.1.names.length : Int).toNat) Kr Kr (by (try have E_ := ends_is h7 hr1 h1); (try have n7_ := (ends_is h7 hr1 h1).1.ok.n7); exact sd) (by (try have E_ := ends_is h7 hr1 h1); (try have n7_ := (ends_is h7 hr1 h1).1.ok.n7); exact sd) w hM) (fun (γ : AN × AN) => Kr) (fun (γ : AN × AN) g => Kr) Kr (fun (γ : AN × AN) g => Kr) (Steps.callN (i := 7) (Γ := AN) (fun g (γ : AN × AN) => (γ.1, g)) 15 (fun (γ : AN × AN) => #[.agg #[.slice A r1.1.names.length c_2, .slice A_2 r1.1.links.length c_3, .slice A_3 r1.1.long.length c_4], .i r1.2.1, .i r1.2.2.1, .slice (γ.1.1) ((List.replicate ((r1.1.names.length : Int).toNat) false).length) (γ.1.2), .i (-1)]) (fun (γ : AN × AN) => [Ow (γ.1.1) (γ.1.2) 4 1 ((List.replicate ((r1.1.names.length : Int).toNat) false).map bc), Bk b2 #[.slice A r1.1.names.length c_2, .slice A_2 r1.1.links.length c_3, .slice A_3 r1.1.long.length c_4] 50, Ow A c_2 9 1 (r1.1.names.map sc), Ow A_2 c_3 53 1 (o.map Sl.c), .inr (Bag 3 1 ic o), Ow A_3 c_4 53 1 (o_2.map Sl.c), .inr (Bag 3 1 ic o_2), Bk b1 #[.slice A_c_Fixes c.Fixes.length c_c_Fixes, .slice A_c_Airways c.Airways.length c_c_Airways] 25]) (fun g (γ : AN × AN) => [Ow (g.1) (g.2) 3 1 (r2.1.map ic)]) [7, 8, 9, 10, 11, 12, 13, 14] (some 36) (fun g (γ : AN × AN) => .tuple #[.slice (g.1) r2.1.length (g.2), .i r2.2.1, .b r2.2.2]) (fun S (γ : AN × AN) w hd hM => by rw [mS2 rfl rfl] at hM; exact hM.sub (sub_keep (by rw [hd 6 Kr]; rfl) (sub_skip (List.Sublist.refl _)))) (fun S (γ : AN × AN) g hj _ => by rw [mS2 rfl hj]; exact ((List.Perm.append_left _ (List.Perm.refl _)).trans (perm_mid _ _ _)).symm) (fun (γ : AN × AN) w hM => by have h := shortest_net_way_w r1.1 A c_2 A_2 c_3 o A_3 c_4 o_2 r1.2.1 r1.2.2.1 (γ.1.1) (γ.1.2) (List.replicate ((r1.1.names.length : Int).toNat) false) (-1) w (hM.rd_at 2 rfl) (hM.le_at 2 rfl) (hM.rd_at 3 rfl) (sl_le' he_r1_1 (hM.le_at 3 rfl)) (hM.bag_at 4 rfl) he_r1_1 (hM.rd_at 5 rfl) (sl_le' he_r1_2 (hM.le_at 5 rfl)) (hM.bag_at 6 rfl) he_r1_2 (hM.rd_at 0 rfl) (hM.le_at 0 rfl) (ends_is h7 hr1 h1).1.ok (ends_is h7 hr1 h1).1.sym (ends_is h7 hr1 h1).2.2.1 (ends_is h7 hr1 h1).2.2.2.1 List.length_replicate (open_all _ _); rw [hr2] at h; exact h) (fun (γ : AN × AN) => Kr) (fun (γ : AN × AN) g => Kr) Kr (fun (γ : AN × AN) g => Kr) (Steps.run (i := 8) 15 [0, 0, 0, 0, 0, 0, 0] Mr4_ Kr Kr (fun S (γ : AN × AN) w hM => by rw [mS2 rfl rfl] at hM; exact hM.sub (sub_skip (sub_skip (List.Sublist.refl _)))) Kr (fun (γ : AN × AN) => {}) (Steps.done Kr))))
    · rintro ⟨⟨A_4, c_5⟩, ⟨A_5, c_6⟩⟩
      refine TE.conv [Ow A_4 c_5 4 1 ((List.replicate ((r1.1.names.length : Int).toNat) false).map bc), Ow A_5 c_6 3 1 (r2.1.map ic), Bk b2 #[.slice A r1.1.names.length c_2, .slice A_2 r1.1.links.length c_3, .slice A_3 r1.1.long.length c_4] 50, Ow A c_2 9 1 (r1.1.names.map sc), Ow A_2 c_3 53 1 (o.map Sl.c), .inr (Bag 3 1 ic o), Ow A_3 c_4 53 1 (o_2.map Sl.c), .inr (Bag 3 1 ic o_2), Bk b1 #[.slice A_c_Fixes c.Fixes.length c_c_Fixes, .slice A_c_Airways c.Airways.length c_c_Airways] 25] (fun _ hM => hM) (TE.next (TC.seq (TC.sr (TL.r 2 [] [(41, .b (!r2.2.2))] {} (TL.next rfl (TC.cond (!r2.2.2) rfl Kr (fun h2 => ?_) (fun h2 => ?_)))))))
      · refine TC.sr (TL.r 3 [] [(6, .slice none 0 0), (7, .i 0), (8, .i 8)] {} (TL.next rfl (TC.ret (TE.rt ?_))))
        have e : shortest_Path c from_ to = ([], 0, 8) := by subst hr1 hr2; unfold shortest_Path; exact cond_f h1 (cond_t h2 (rfl))
        refine TE.conv [Ow none 0 9 1 (([] : List ByteArray).map sc), Ow A_4 c_5 4 1 ((List.replicate ((r1.1.names.length : Int).toNat) false).map bc), Ow A_5 c_6 3 1 (r2.1.map ic), Bk b2 #[.slice A r1.1.names.length c_2, .slice A_2 r1.1.links.length c_3, .slice A_3 r1.1.long.length c_4] 50, Ow A c_2 9 1 (r1.1.names.map sc), Ow A_2 c_3 53 1 (o.map Sl.c), .inr (Bag 3 1 ic o), Ow A_3 c_4 53 1 (o_2.map Sl.c), .inr (Bag 3 1 ic o_2), Bk b1 #[.slice A_c_Fixes c.Fixes.length c_c_Fixes, .slice A_c_Airways c.Airways.length c_c_Airways] 25] (fun _ hM => hM.emptyrow none 9 1) ?_
        rw [e]
        exact TE.retM (.inl rfl) (none, 0) [] (.tuple #[.slice none 0 0, .i 0, .i 8]) {} rfl (fun _ hM => hM.sub (sb 1))
      · refine TC.snr (TL.r 2 [2] [(42, .agg #[.slice A r1.1.names.length c_2, .slice A_2 r1.1.links.length c_3, .slice A_3 r1.1.long.length c_4]), (43, .slice A_5 r2.1.length c_6)] {} (TL.cn (Γ := AN) 44 (shortest_net_text r1.1 r2.1) (fun r3 g => .slice g.1 r3.length g.2) (fun r3 g => [Ow g.1 g.2 9 1 (r3.map sc)]) (fun w hM => shortest_net_text_w r1.1 A c_2 A_2 c_3 o A_3 c_4 o_2 A_5 c_6 r2.1 w (hM.rd_at 3 rfl) (hM.le_at 3 rfl) (hM.rd_at 4 rfl) (sl_le' he_r1_1 (hM.le_at 4 rfl)) (hM.bag_at 5 rfl) he_r1_1 (hM.rd_at 6 rfl) (sl_le' he_r1_2 (hM.le_at 6 rfl)) (hM.bag_at 7 rfl) he_r1_2 (hM.rd_at 1 rfl) (hM.le_at 1 rfl) (by have w_ := (way_in (ends_is h7 hr1 h1).1.ok (ends_is h7 hr1 h1).1.sym (ends_is h7 hr1 h1).2.2.1 (ends_is h7 hr1 h1).2.2.2.1 List.length_replicate (open_all _ _) hr2).1; omega) (way_in (ends_is h7 hr1 h1).1.ok (ends_is h7 hr1 h1).1.sym (ends_is h7 hr1 h1).2.2.1 (ends_is h7 hr1 h1).2.2.2.1 List.length_replicate (open_all _ _) hr2).2.1) {} (fun r3 hr3 => ?_)))
        rintro ⟨A_6, c_7⟩
        refine TL.know (fun w hM => hM.short_at 0 rfl) (fun s_r3_0 => TL.r 7 [] [(6, .slice A_6 r3.length c_7), (7, .i r2.2.1), (8, .i 0)] {} (TL.next rfl (TC.ret ?_)))
        have e : shortest_Path c from_ to = (r3, r2.2.1, 0) := by subst hr1 hr2 hr3; unfold shortest_Path; exact cond_f h1 (cond_f h2 (rfl))
        rw [e]
        exact TE.retM (.inl rfl) (A_6, c_7) [] (.tuple #[.slice A_6 r3.length c_7, .i r2.2.1, .i 0]) {} rfl (fun _ hM => hM.sub (sb 1))
end Go.Sky
end
section
namespace Go.Sky
open Go Go.Eng Go.Srt
abbrev iat (l : List Int) (k : Nat) : Int := l[k]?.getD 0
theorem iat_of {l : List Int} {k : Nat} {s : Int} (h : l[k]? = some s) : iat l k = s := by unfold iat; rw [h]; rfl
theorem iat_at {l : List Int} {k : Nat} (h : k < l.length) : l[k]? = some (iat l k) := by unfold iat; rw [List.getElem?_eq_getElem h]; rfl
structure Ln (n : net) (f to : Int) (l : List Int) : Prop where
  inn : ∀ x ∈ l, In n x
  nd : l.Nodup
  len : 1 ≤ l.length ∧ l.length ≤ 7
  hd : l[0]? = some f
  lst : l[l.length - 1]? = some to
  lk : ∀ k, k + 1 < l.length → ∃ i d, arc n (iat l k) i (iat l (k + 1)) d
theorem pth_ln {n : net} {s : List Bool} {to : Int} {q : List Int} {e : Int} (h : Pth n s to q e) : 1 ≤ q.length ∧ q[q.length - 1]? = some to ∧ ∀ k, k + 1 < q.length → ∃ i d, arc n (iat q k) i (iat q (k + 1)) d := by
  induction h with
  | last => exact ⟨Nat.le_refl _, rfl, fun k hk => by simp at hk⟩
  | @cons v m d e i p ha _ _ ih =>
    refine ⟨by simp, ?_, fun k hk => ?_⟩
    · rw [← ih.2.1]
      simp
    · cases k with
      | zero => exact ⟨i, d, ha⟩
      | succ k => exact ih.2.2 k (by simp at hk ⊢; omega)
theorem won_ln {n : net} {f to b : Int} {s : List Bool} {tail : List Int} {c : Int} (hf : In n f) (W : Won n f to b s tail c) : Ln n f to (f :: tail) := by
  have p := pth_ln W.pth
  refine ⟨fun x hx => ?_, W.nd, ⟨p.1, by have := W.len; rw [List.length_cons]; omega⟩, rfl, p.2.1, p.2.2⟩
  rcases List.mem_cons.1 hx with rfl | hx
  · exact hf
  · exact (W.mem x hx).1
theorem first_ln {n : net} {f to : Int} {N : Nat} {r : List Int × Int × Bool} (hN : NetOk n) (hS : NetSym n) (hf : In n f) (ht : In n to) (hc : N = n.names.length) (hr : shortest_net_way n f to (List.replicate N false) (-1) = r) (h : (!r.2.2) = false) : Ln n f to r.1 := by
  subst hr
  rcases way_all (b := -1) hN hS hf ht (s0 := List.replicate N false) (by rw [List.length_replicate, hc]) (open_all _ _) with ⟨tail, c, h1, W⟩ | ⟨h1, _⟩
  · rw [h1]; exact won_ln hf W
  · rw [h1] at h; cases h
theorem Ln.in_at {n : net} {f to : Int} {l : List Int} (h : Ln n f to l) {k : Nat} (hk : k < l.length) : In n (iat l k) := h.inn _ (List.mem_of_getElem? (iat_at hk))
theorem Ln.uni {n : net} {f to : Int} {l : List Int} (h : Ln n f to l) {i j : Nat} (hi : i < l.length) (hj : j < l.length) (he : iat l i = iat l j) : i = j := by
  have nd := h.nd
  unfold List.Nodup at nd
  rw [List.pairwise_iff_getElem] at nd
  unfold iat at he
  rw [List.getElem?_eq_getElem hi, List.getElem?_eq_getElem hj] at he
  rcases Nat.lt_trichotomy i j with g | g | g
  · exact absurd he (nd i j hi hj g)
  · exact g
  · exact absurd he.symm (nd j i hj hi g)
structure SecI (n : net) (l : List Int) (k : Nat) (closed : List Bool) : Prop where
  len : closed.length = n.names.length
  cl : ∀ v, In n v → (shut_ closed v = true ↔ v ∈ l.take k)
theorem SecI.init {n : net} {l : List Int} {N : Nat} (h : N = n.names.length) : SecI n l 0 (List.replicate N false) :=
  ⟨by rw [List.length_replicate, h], fun v _ => by rw [open_all]; simp⟩
theorem SecI.step {n : net} {f to : Int} {l : List Int} {k : Nat} {closed : List Bool} (L : Ln n f to l) (h : SecI n l k closed) (hk : k < l.length) : SecI n l (k + 1) (closed.set ((l[k]?.getD 0).toNat) true) := by
  have hin := L.in_at hk
  refine ⟨by rw [List.length_set]; exact h.len, fun v hv => ?_⟩
  have e : l.take (k + 1) = l.take k ++ [iat l k] := by rw [List.take_add_one, iat_at hk]; rfl
  rw [e, List.mem_append, List.mem_singleton, ← h.cl v hv]
  have a1 := hin.1
  have a2 := hin.2
  have a3 := hv.1
  have a4 := h.len
  show (closed.set (iat l k).toNat true)[v.toNat]?.getD false = true ↔ _
  by_cases hvk : v = iat l k
  · rw [← hvk, List.getElem?_set_self (by omega)]
    exact ⟨fun _ => .inr rfl, fun _ => rfl⟩
  · rw [List.getElem?_set_ne (by omega)]
    exact ⟨fun h => .inl h, fun h => h.resolve_right hvk⟩
theorem SecI.to {n : net} {f to : Int} {l : List Int} {k : Nat} {closed : List Bool} (L : Ln n f to l) (ht : In n to) (h : SecI n l k closed) (hk : k < l.length - 1) : shut_ closed to = false := by
  cases e : shut_ closed to with
  | false => rfl
  | true =>
    have m := (h.cl to ht).1 e
    obtain ⟨j, hj⟩ := List.getElem?_of_mem m
    have hjk := (List.getElem?_eq_some_iff.1 hj).1
    rw [List.length_take] at hjk
    rw [List.getElem?_take_of_lt (by omega)] at hj
    have := L.uni (i := j) (j := l.length - 1) (by omega) (by omega) (by rw [iat_of hj, iat_of L.lst])
    omega
theorem idxL {v : Int} : ∀ (xs : List Int) (k i : Nat), xs[i]? = some v → ∃ j : Nat, slices_Index_int_int_L1 v xs k = .inr ((k + j : Nat) : Int) ∧ xs[j]? = some v
  | [], _, _, h => by cases h
  | y :: xs, k, i, h => by
    unfold slices_Index_int_int_L1
    by_cases e : v = y
    · exact ⟨0, by rw [show (v == y) = true by simpa using e]; rfl, by rw [e]; rfl⟩
    · rw [show (v == y) = false by simpa using e, cond_false]
      cases i with
      | zero => cases h; exact absurd rfl e
      | succ i =>
        obtain ⟨j, h1, h2⟩ := idxL xs (k + 1) i h
        exact ⟨j + 1, by rw [h1]; congr 2; omega, h2⟩
theorem idx_is {l : List Int} {v : Int} {i : Nat} (h : l[i]? = some v) : ∃ j : Nat, slices_Index_int_int l v = (j : Int) ∧ l[j]? = some v := by
  unfold slices_Index_int_int
  obtain ⟨j, h1, h2⟩ := idxL l 0 i h
  exact ⟨j, by rw [h1]; simp only [Sum.elim_inr, Nat.zero_add], h2⟩
theorem sec_idx {n : net} {f to : Int} {l : List Int} (hN : NetOk n) (L : Ln n f to l) {k : Nat} (hk : k < l.length - 1) {r : Int} (hr : slices_Index_int_int (n.links[(l[k]?.getD 0).toNat]?.getD []) (l[(k + 1)]?.getD 0) = r) :
    0 ≤ r ∧ r < ((n.long[(l[k]?.getD 0).toNat]?.getD []).length : Int) := by
  obtain ⟨i, d, ha⟩ := L.lk k (by omega)
  obtain ⟨j, h1, h2⟩ := idx_is ha.1
  have hin := L.in_at (k := k) (by omega)
  have hi0 := hin.1
  have hi1 := hin.2
  have row := (hN.row (iat l k).toNat (by omega)).1
  have hjl := (List.getElem?_eq_some_iff.1 h2).1
  subst hr
  have h3 : slices_Index_int_int (n.links[(l[k]?.getD 0).toNat]?.getD []) (l[(k + 1)]?.getD 0) = (j : Int) := h1
  rw [h3]
  refine ⟨by omega, ?_⟩
  show (j : Int) < ((lg n (iat l k).toNat).length : Int)
  omega
theorem concat_two {a b : List Int} (ha : a.length ≤ 100) (hb : b.length ≤ 100) : slices_Concat_int_int [a, b] = a ++ b := by
  unfold slices_Concat_int_int bindv slices_Concat_int_int_L1
  rw [Int.zero_add, w64_id (x := (a.length : Int)) (by omega), decide_eq_false (by omega), cond_false]
  unfold slices_Concat_int_int_L1
  rw [w64_id (by omega), decide_eq_false (by omega), cond_false]
  unfold slices_Concat_int_int_L1 slices_Grow_int_int
  simp only
  rw [decide_eq_false (by omega), cond_false]
  cases decide (w64 ((a.length : Int) + (b.length : Int) - w64 (0 - 0)) > 0) <;> rfl
theorem sec_list {n : net} {f to b at_ : Int} {l : List Int} {k : Nat} {closed : List Bool} (hN : NetOk n) (hS : NetSym n) (ht : In n to) (L : Ln n f to l) (I : SecI n l k closed) (hk : k < l.length - 1) {r : List Int × Int × Bool} {r4 : List Int}
    (hat : l[k]?.getD 0 = at_) (hr : shortest_net_way n at_ to closed b = r) (h : r.2.2 = true) (h4 : slices_Concat_int_int [l.take k, r.1] = r4) : 1 ≤ r4.length ∧ r4.length ≤ 64 ∧ ∀ x ∈ r4, 0 ≤ x ∧ x < (n.names.length : Int) := by
  subst hat
  have len := L.len
  have w := way_in (b := b) hN hS (L.in_at (k := k) (by omega)) ht I.len (I.to L ht hk) hr
  rw [concat_two (by rw [List.length_take]; omega) (by omega)] at h4
  subst h4
  have := w.2.2.2 h
  rw [List.length_append, List.length_take]
  refine ⟨by omega, by omega, fun x hx => ?_⟩
  rcases List.mem_append.1 hx with hx | hx
  · exact L.inn x (List.mem_of_mem_take hx)
  · exact w.2.1 x hx
end Go.Sky
end
