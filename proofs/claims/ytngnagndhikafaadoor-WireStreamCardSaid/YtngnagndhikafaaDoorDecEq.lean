/- What Encode and Decode of frames answer. Conditions: none. -/
import Derived.Test.YtngnagndhikafaaDoorFd
namespace Go.Sky
open Go Go.Eng

theorem enc_L_len : ∀ (xs : List Plot) (k : Nat) (b : List Int), (wire_Encode_L1 xs k b).length = b.length + 16 * xs.length
  | [], _, _ => rfl
  | x :: xs, k, b => by
    unfold wire_Encode_L1
    simp only
    rw [enc_L_len xs]
    simp only [List.length_append, be_length, List.length_cons]
    show b.length + 8 + 2 + 4 + 2 + 16 * xs.length = _
    omega

/-- The bytes of a frame without its sum. -/
def body (f : WireFrame) : List Int := wire_Encode_L1 f.Plots 0 (((([83, 87] : List Int) ++ be (wu64 f.Radar) 1) ++ be (wu64 f.Time) 4) ++ be (wu64 (f.Plots.length : Int)) 2)
theorem body_len (f : WireFrame) : (body f).length = 9 + 16 * f.Plots.length := by
  unfold body
  rw [enc_L_len]
  simp only [List.length_append, be_length]
  rfl
theorem enc_cases (f : WireFrame) : (∃ e, wire_Encode f = (⟨#[]⟩, e) ∧ e ≠ 0 ∧ wire_Check f = e) ∨ wire_Check f = 0 ∧ f.Plots.length ≤ 32 ∧ wire_Encode f = (strOf (body f ++ be (wu64 (wire_Sum (strOf (body f)))) 2), 0) := by
  cases h : (wire_Check f != 0)
  · refine .inr ⟨by simpa using h, wchk_len rfl h, ?_⟩
    unfold wire_Encode
    show cond (wire_Check f != 0) _ _ = _
    rw [h]
    rfl
  · refine .inl ⟨wire_Check f, ?_, by simpa using h, rfl⟩
    unfold wire_Encode
    show cond (wire_Check f != 0) _ _ = _
    rw [h]
    rfl
theorem enc_size {f : WireFrame} {r : ByteArray × Int} (h : wire_Encode f = r) : r.1.size ≤ 140737488355328 := by
  subst h
  rcases enc_cases f with ⟨e, h, _⟩ | ⟨_, hl, h⟩
  · rw [h]; exact Nat.zero_le _
  · rw [h]
    show (strOf _).size ≤ _
    rw [size_strOf, List.length_append, be_length, body_len]
    omega

/-- What a decoded string holds. -/
structure Dec (s : ByteArray) (n : Int) (xs : List Plot) : Prop where
  n0 : 0 ≤ n
  n1 : n ≤ 32
  num : wire_get (s.extract 7 9) = n
  time : wire_get (s.extract 3 7) ≤ 200000
  b0 : bat s 0 = 83
  b1 : bat s 1 = 87
  long : 11 + 16 * n ≤ (s.size : Int)
  sum : wire_get (s.extract (9 + 16 * n).toNat (11 + 16 * n).toNat) = wu64 (wire_Sum (s.extract 0 (9 + 16 * n).toNat))
  plots : wire_Decode_L1 s (wire_get (s.extract 3 7)) n.toNat 0 [] = .inl xs
  enc : (wire_Encode ⟨w64 (bat s 2), w64 (wire_get (s.extract 3 7)), xs⟩).2 = 0
  same : seq (wire_Encode ⟨w64 (bat s 2), w64 (wire_get (s.extract 3 7)), xs⟩).1 (s.extract 0 (11 + 16 * n).toNat) = true

theorem dec_L1_err (s : ByteArray) (t : Int) : ∀ (m k : Nat) (o : List Plot), (∃ xs, wire_Decode_L1 s t m k o = .inl xs) ∨ wire_Decode_L1 s t m k o = .inr (⟨0, 0, []⟩, 0, 3)
  | 0, _, o => .inl ⟨o, rfl⟩
  | m + 1, k, o => by
    unfold wire_Decode_L1
    simp only
    cases h : ((bits_ToFixed (wire_get ((s).extract ((9 + ((16 * k : Nat) : Int)).toNat) ((w64 ((9 + ((16 * k : Nat) : Int)) + 8)).toNat))) 0).2.2 != 0)
    · rw [cond_false]; exact dec_L1_err s t m (k + 1) _
    · exact .inr rfl

def none9 : WireFrame := ⟨0, 0, []⟩
theorem dec_cases (s : ByteArray) : (∃ e, wire_Decode s = (⟨0, 0, []⟩, 0, e) ∧ e ≠ 0) ∨ ∃ n xs, Dec s n xs ∧ wire_Decode s = (⟨w64 (bat s 2), w64 (wire_get (s.extract 3 7)), xs⟩, 11 + 16 * n, 0) := by
  unfold wire_Decode
  cases h1 : decide ((s.size : Int) > 0)
  · have h := of_decide_eq_false h1
    exact .inl ⟨8, by rw [cond_false, decide_eq_false (show ¬ (s.size : Int) > 1 by omega), cond_false, decide_eq_true (show (s.size : Int) < 9 by omega), cond_true], by decide⟩
  rw [cond_true]
  cases h2 : ((bat s 0) != 83)
  case true => exact .inl ⟨3, rfl, by decide⟩
  rw [cond_false]
  cases h3 : decide ((s.size : Int) > 1)
  · have h := of_decide_eq_false h3
    exact .inl ⟨8, by rw [cond_false, decide_eq_true (show (s.size : Int) < 9 by omega), cond_true], by decide⟩
  rw [cond_true]
  cases h4 : ((bat s 1) != 87)
  case true => exact .inl ⟨3, rfl, by decide⟩
  rw [cond_false]
  cases h5 : decide ((s.size : Int) < 9)
  case true => exact .inl ⟨8, rfl, by decide⟩
  rw [cond_false]
  simp only
  cases h6 : ((decide (wire_get (s.extract 3 7) > 200000)) || (decide (wire_get (s.extract 7 9) > 32)))
  case true => exact .inl ⟨3, rfl, by decide⟩
  rw [cond_false]
  simp only [Bool.or_eq_false_iff, decide_eq_false_iff_not] at h6
  have hn0 := get_nn (s := s.extract 7 9) rfl
  have ht := h6.1
  have hn := h6.2
  obtain ⟨e1, e2, _, _⟩ := size_eqs hn0 hn
  generalize hn_ : wire_get (s.extract 7 9) = n at hn0 hn e1 e2 ⊢
  rw [e1]
  have e3 : w64 (11 + 16 * n - 2) = 9 + 16 * n := by rw [← e1]; exact e2
  rw [e3, show (11 + 16 * n - 11) / 16 = n by omega]
  cases h7 : decide ((s.size : Int) < 11 + 16 * n)
  case true => exact .inl ⟨8, rfl, by decide⟩
  rw [cond_false]
  have h7 := of_decide_eq_false h7
  cases h8 : (wire_get (s.extract (9 + 16 * n).toNat (11 + 16 * n).toNat) != wu64 (wire_Sum (s.extract 0 (9 + 16 * n).toNat)))
  case true => exact .inl ⟨13, rfl, by decide⟩
  rw [cond_false]
  rcases dec_L1_err s (wire_get (s.extract 3 7)) n.toNat 0 [] with ⟨xs, hx⟩ | hx
  case inr => rw [hx]; exact .inl ⟨3, rfl, by decide⟩
  rw [hx]
  simp only [Sum.elim_inl]
  cases h9 : ((wire_Encode ⟨w64 (bat s 2), w64 (wire_get (s.extract 3 7)), xs⟩).2 != 0)
  case true => exact .inl ⟨3, rfl, by decide⟩
  rw [cond_false]
  cases h10 : (seq (wire_Encode ⟨w64 (bat s 2), w64 (wire_get (s.extract 3 7)), xs⟩).1 (s.extract 0 (11 + 16 * n).toNat))
  · exact .inl ⟨3, rfl, by decide⟩
  rw [Bool.not_true, cond_false]
  exact .inr ⟨n, xs, ⟨hn0, by omega, hn_, by omega, by simpa using h2, by simpa using h4, by omega, by simpa using h8, hx, by simpa using h9, h10⟩, rfl⟩
theorem enc_fit {f : WireFrame} {r : ByteArray × Int} (h : wire_Encode f = r) (h2 : (r.2 != 0) = false) : 11 ≤ r.1.size ∧ r.1.size ≤ 600 := by
  subst h
  rcases enc_cases f with ⟨e, h, he, _⟩ | ⟨_, hl, h⟩
  · rw [h] at h2; exact absurd (by simpa using h2) he
  · rw [h]
    show 11 ≤ (strOf _).size ∧ (strOf _).size ≤ _
    rw [size_strOf, List.length_append, be_length, body_len]
    omega
theorem dec_nn {s : ByteArray} {r : WireFrame × Int × Int} (h : wire_Decode s = r) : 0 ≤ r.2.1 := by
  subst h
  rcases dec_cases s with ⟨e, h, _⟩ | ⟨n, xs, hd, h⟩
  · rw [h]; exact Int.le_refl _
  · rw [h]; have := hd.n0; show 0 ≤ 11 + 16 * n; omega
end Go.Sky
