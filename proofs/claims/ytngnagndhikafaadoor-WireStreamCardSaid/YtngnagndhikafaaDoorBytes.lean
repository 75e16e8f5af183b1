/- Bytes of strings; Sum and get over them. Conditions: in each theorem. -/
import Derived.Test.YtngnagndhikafaaDoorDecEq
namespace Go.Sky
open Go Go.Eng

theorem bat_extract (s : ByteArray) (a b i : Nat) (h : a + i < b) (hb : b ≤ s.size) : bat (s.extract a b) i = bat s (a + i) := by
  unfold bat
  rw [ByteArray.data_extract, Array.getElem?_extract]
  have : s.data.size = s.size := rfl
  rw [if_pos (by omega)]
theorem bat_append_left {s t : ByteArray} {i : Nat} (h : i < s.size) : bat (s ++ t) i = bat s i := by
  unfold bat
  rw [ByteArray.data_append, Array.getElem?_append_left h]
theorem bat_append_right {s t : ByteArray} {i : Nat} (h : s.size ≤ i) : bat (s ++ t) i = bat t (i - s.size) := by
  unfold bat
  rw [ByteArray.data_append, Array.getElem?_append_right h]; rfl
theorem bat_strOf (l : List Int) (i : Nat) (h : ∀ x ∈ l, 0 ≤ x ∧ x ≤ 255) : bat (strOf l) i = l[i]?.getD 0 := by
  unfold bat
  rw [← Array.getElem?_toList, data_strOf, List.getElem?_map]
  cases hx : l[i]? with
  | none => rfl
  | some x =>
    have := h x (List.mem_of_getElem? hx)
    simp only [Option.map_some, Option.getD_some]
    rw [UInt8.toNat_ofNat']
    omega

theorem be_in (n : Int) : ∀ m, ∀ x ∈ be n m, 0 ≤ x ∧ x ≤ 255
  | 0, x, h => absurd h List.not_mem_nil
  | m + 1, x, h => by
    rw [be] at h
    rcases List.mem_cons.1 h with rfl | h
    · exact wu8_in _
    · exact be_in n m x h
theorem app_in {a b : List Int} (h1 : ∀ x ∈ a, 0 ≤ x ∧ x ≤ 255) (h2 : ∀ x ∈ b, 0 ≤ x ∧ x ≤ 255) : ∀ x ∈ a ++ b, 0 ≤ x ∧ x ≤ 255 := fun x h => by
  rcases List.mem_append.1 h with h | h
  · exact h1 x h
  · exact h2 x h
theorem enc_L_in : ∀ (xs : List Plot) (k : Nat) (b : List Int), (∀ x ∈ b, 0 ≤ x ∧ x ≤ 255) → ∀ x ∈ wire_Encode_L1 xs k b, 0 ≤ x ∧ x ≤ 255
  | [], _, _, h => h
  | x :: xs, k, b, h => by
    unfold wire_Encode_L1
    exact enc_L_in xs (k + 1) _ (app_in (app_in (app_in (app_in h (be_in _ _)) (be_in _ _)) (be_in _ _)) (be_in _ _))
theorem enc_L_pre : ∀ (xs : List Plot) (k : Nat) (b : List Int), ∃ r, wire_Encode_L1 xs k b = b ++ r
  | [], _, b => ⟨[], by unfold wire_Encode_L1; simp⟩
  | x :: xs, k, b => by
    unfold wire_Encode_L1
    simp only
    obtain ⟨r, h⟩ := enc_L_pre xs (k + 1) (b ++ be (bits_FromFixed x.Range 0).1 (8 : Int).toNat ++ be (wu64 x.Azimuth) (2 : Int).toNat ++ be (wu64 x.Height) (4 : Int).toNat ++ be (wu64 (w64 (x.Code + 1))) (2 : Int).toNat)
    exact ⟨be (bits_FromFixed x.Range 0).1 (8 : Int).toNat ++ (be (wu64 x.Azimuth) (2 : Int).toNat ++ (be (wu64 x.Height) (4 : Int).toNat ++ (be (wu64 (w64 (x.Code + 1))) (2 : Int).toNat ++ r))), h.trans (by simp only [List.append_assoc])⟩
theorem body_in (f : WireFrame) : ∀ x ∈ body f, 0 ≤ x ∧ x ≤ 255 :=
  enc_L_in _ _ _ (app_in (app_in (app_in (by decide) (be_in _ _)) (be_in _ _)) (be_in _ _))

/-- The sum of m bytes from k on. -/
def tot (s : ByteArray) : Nat → Nat → Int
  | 0, _ => 0
  | m + 1, k => bat s k + tot s m (k + 1)
theorem tot_congr (s t : ByteArray) : ∀ (m k : Nat), (∀ i, k ≤ i → i < k + m → bat s i = bat t i) → tot s m k = tot t m k
  | 0, _, _ => rfl
  | m + 1, k, h => by
    unfold tot
    rw [h k (by omega) (by omega), tot_congr s t m (k + 1) (fun i h1 h2 => h i (by omega) (by omega))]
theorem tot_one (s t : ByteArray) (j : Nat) : ∀ (m k : Nat), k ≤ j → j < k + m → (∀ i, k ≤ i → i < k + m → i ≠ j → bat s i = bat t i) → tot t m k = tot s m k + (bat t j - bat s j)
  | 0, k, h1, h2, _ => by omega
  | m + 1, k, h1, h2, h => by
    unfold tot
    by_cases e : k = j
    · subst e
      rw [tot_congr s t m (k + 1) (fun i a b => h i (by omega) (by omega) (by omega))]; omega
    · rw [h k (by omega) (by omega) e, tot_one s t j m (k + 1) (by omega) (by omega) (fun i a b c => h i (by omega) (by omega) c)]; omega

theorem sum_L (s : ByteArray) : ∀ (m k : Nat) (a b : Int), 0 ≤ a → a < 255 → 0 ≤ b → b < 255 → ∃ b', wire_Sum_L1 s m k a b = ((a + tot s m k) % 255, b') ∧ 0 ≤ b' ∧ b' < 255
  | 0, _, a, b, h1, h2, h3, h4 => ⟨b, by unfold wire_Sum_L1 tot; rw [Int.add_zero, Int.emod_eq_of_lt h1 h2], h3, h4⟩
  | m + 1, k, a, b, h1, h2, h3, h4 => by
    have hb := bat_in s k
    unfold wire_Sum_L1 tot
    rw [w64_id (x := bat s k) (by omega), w64_id (x := a + bat s k) (by omega), Int.tmod_eq_emod_of_nonneg (a := a + bat s k) (by omega)]
    rw [w64_id (x := (a + bat s k) % 255 + b) (by omega), Int.tmod_eq_emod_of_nonneg (a := (a + bat s k) % 255 + b) (by omega)]
    obtain ⟨b', e, h5, h6⟩ := sum_L s m (k + 1) ((a + bat s k) % 255) (((a + bat s k) % 255 + b) % 255) (by omega) (by omega) (by omega) (by omega)
    refine ⟨b', ?_, h5, h6⟩
    rw [e]
    congr 1
    omega
theorem sum_eq (s : ByteArray) : ∃ b, wire_Sum s = 256 * b + tot s s.size 0 % 255 ∧ 0 ≤ b ∧ b < 255 := by
  obtain ⟨b, e, h1, h2⟩ := sum_L s s.size 0 0 0 (by decide) (by decide) (by decide) (by decide)
  refine ⟨b, ?_, h1, h2⟩
  unfold wire_Sum bindv
  rw [e]
  simp only
  rw [Int.zero_add, w64_id (x := 256 * b) (by omega), w64_id (by omega)]

theorem kor_bytes {a b : Int} (ha : 0 ≤ a ∧ a ≤ 255) (hb : 0 ≤ b ∧ b ≤ 255) : kor .u64 (a * 256) b = a * 256 + b := by
  obtain ⟨n, rfl⟩ : ∃ n : Nat, a = (n : Int) := ⟨a.toNat, by omega⟩
  obtain ⟨m, rfl⟩ : ∃ m : Nat, b = (m : Int) := ⟨b.toNat, by omega⟩
  have e : ((n : Int) * 256) = ((n * 256 : Nat) : Int) := by omega
  rw [e, fkor_u64 (by omega) (by omega)]
  have h : 2 ^ 8 * n + m = 2 ^ 8 * n ||| m := Nat.two_pow_add_eq_or_of_lt (by omega) n
  rw [show n * 256 = 2 ^ 8 * n from Nat.mul_comm n 256, ← h]
  omega
theorem get_two {s : ByteArray} (h : s.size = 2) : wire_get s = bat s 0 * 256 + bat s 1 := by
  have h0 := bat_in s 0
  have h1 := bat_in s 1
  unfold wire_get bindv
  rw [h]
  unfold wire_get_L1 wire_get_L1 wire_get_L1
  have e0 : kor .u64 (wu64 (0 * 2 ^ 8)) (wu64 (bat s 0)) = bat s 0 := by
    have := kor_bytes (a := 0) (b := bat s 0) (by decide) h0
    rw [wu64_id (x := bat s 0) (by omega), show wu64 (0 * 2 ^ 8) = 0 * 256 from rfl, this]; omega
  rw [e0, wu64_id (x := bat s 0 * 2 ^ 8) (by omega), wu64_id (x := bat s (0 + 1)) (by have := bat_in s (0 + 1); omega)]
  exact kor_bytes h0 h1
end Go.Sky
