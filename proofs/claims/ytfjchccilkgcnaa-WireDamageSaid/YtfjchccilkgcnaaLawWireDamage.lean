/- WireDamage is true of every frame, place and byte. Conditions: in the theorem. -/
import Derived.Test.YtfjchccilkgcnaaFf
import Derived.Test.YtfjchccilkgcnaaBytes
import Derived.Test.YtfjchccilkgcnaaGlueS
import Derived.Test.YtfjchccilkgcnaaOk
namespace Go.Sky
open Go Go.Eng Go.Glue

theorem frames_true : skywaykeep2_frames = true := by kernel_rfl

/-- What an encoded string holds. -/
structure Enc (s : ByteArray) (p : Nat) : Prop where
  p1 : p ≤ 32
  size : s.size = 11 + 16 * p
  num : bat s 7 * 256 + bat s 8 = p
  sum : bat s (9 + 16 * p) * 256 + bat s (10 + 16 * p) = wire_Sum (s.extract 0 (9 + 16 * p))

theorem two_bytes {n : Nat} (h : n < 65536) : be (n : Int) 2 = [((n / 256 : Nat) : Int), ((n % 256 : Nat) : Int)] := by
  have e1 : be (n : Int) 2 = [wu8 ((n : Int).fdiv (2 ^ (min (8 * 1) 64))), wu8 ((n : Int).fdiv (2 ^ (min (8 * 0) 64)))] := rfl
  rw [e1, show (2 : Int) ^ (min (8 * 1) 64) = 256 from rfl, show (2 : Int) ^ (min (8 * 0) 64) = 1 from rfl, Int.fdiv_one]
  rw [Int.fdiv_eq_ediv_of_nonneg _ (by decide)]
  have w8 : ∀ x : Int, wu8 x = x % 256 := fun x => IntKind.wrap_u8 x
  rw [w8, w8]
  congr 1
  · omega

theorem ext_sum (s : ByteArray) (l : List Int) (n : Nat) (hn : n ≤ s.size) (hl : l.length = n) (h : ∀ i, i < n → bat s i = bat (strOf l) i) : wire_Sum (s.extract 0 n) = wire_Sum (strOf l) := by
  have e1 : (s.extract 0 n).size = n := by rw [ByteArray.size_extract]; omega
  have e2 : (strOf l).size = n := by rw [size_strOf, hl]
  have gen : ∀ (m k : Nat) (a b : Int), k + m ≤ n → wire_Sum_L1 (s.extract 0 n) m k a b = wire_Sum_L1 (strOf l) m k a b := by
    intro m
    induction m with
    | zero => intro k a b _; rfl
    | succ m ih =>
      intro k a b hk
      unfold wire_Sum_L1
      rw [bat_extract s 0 n k (by omega) hn, Nat.zero_add, h k (by omega), ih (k + 1) _ _ (by omega)]
  unfold wire_Sum
  rw [e1, e2, gen n 0 0 0 (by omega)]

theorem enc_of {f : WireFrame} {r : ByteArray × Int} (h : wire_Encode f = r) (h2 : (r.2 != 0) = false) : Enc r.1 f.Plots.length := by
  subst h
  rcases enc_cases f with ⟨e, h, he, _⟩ | ⟨_, hl, h⟩
  · rw [h] at h2; exact absurd (by simpa using h2) he
  · rw [h]
    have hlen := body_len f
    obtain ⟨b, es, hb0, hb1⟩ := sum_eq (strOf (body f))
    have hm : 0 ≤ tot (strOf (body f)) (strOf (body f)).size 0 % 255 ∧ tot (strOf (body f)) (strOf (body f)).size 0 % 255 < 255 := by omega
    generalize hS : wire_Sum (strOf (body f)) = S at es
    obtain ⟨n, rfl⟩ : ∃ n : Nat, S = (n : Int) := ⟨S.toNat, by omega⟩
    have hn : n < 65536 := by omega
    have hw : wu64 (n : Int) = (n : Int) := wu64_id (by omega)
    rw [hw, two_bytes hn]
    have hin : ∀ x ∈ body f ++ [((n / 256 : Nat) : Int), ((n % 256 : Nat) : Int)], 0 ≤ x ∧ x ≤ 255 := app_in (body_in f) (by
      intro x hx
      simp only [List.mem_cons, List.not_mem_nil, or_false] at hx
      rcases hx with rfl | rfl <;> omega)
    have hb : ∀ i, bat (strOf (body f ++ [((n / 256 : Nat) : Int), ((n % 256 : Nat) : Int)])) i = (body f ++ [((n / 256 : Nat) : Int), ((n % 256 : Nat) : Int)])[i]?.getD 0 := fun i => bat_strOf _ i hin
    refine ⟨hl, by show (strOf _).size = _; rw [size_strOf, List.length_append, hlen]; simp; omega, ?_, ?_⟩
    · show bat (strOf _) 7 * 256 + bat (strOf _) 8 = _
      rw [hb, hb, List.getElem?_append_left (by omega), List.getElem?_append_left (by omega)]
      obtain ⟨r, hr⟩ := enc_L_pre f.Plots 0 (((([83, 87] : List Int) ++ be (wu64 f.Radar) 1) ++ be (wu64 f.Time) 4) ++ be (wu64 (f.Plots.length : Int)) 2)
      unfold body
      rw [hr, wu64_id (x := (f.Plots.length : Int)) (by omega), two_bytes (n := f.Plots.length) (by omega)]
      have e1 : be (wu64 f.Radar) 1 = [wu8 ((wu64 f.Radar).fdiv (2 ^ (min (8 * 0) 64)))] := rfl
      have e2 : be (wu64 f.Time) 4 = [wu8 ((wu64 f.Time).fdiv (2 ^ (min (8 * 3) 64))), wu8 ((wu64 f.Time).fdiv (2 ^ (min (8 * 2) 64))), wu8 ((wu64 f.Time).fdiv (2 ^ (min (8 * 1) 64))), wu8 ((wu64 f.Time).fdiv (2 ^ (min (8 * 0) 64)))] := rfl
      rw [e1, e2]
      simp only [List.cons_append, List.nil_append, List.getElem?_cons_succ, List.getElem?_cons_zero, Option.getD_some]
      omega
    · show bat (strOf _) (9 + 16 * f.Plots.length) * 256 + bat (strOf _) (10 + 16 * f.Plots.length) = wire_Sum ((strOf _).extract 0 (9 + 16 * f.Plots.length))
      rw [ext_sum _ (body f) (9 + 16 * f.Plots.length) (by rw [size_strOf, List.length_append, hlen]; omega) hlen (fun i hi => by
        rw [hb i, bat_strOf _ i (body_in f), List.getElem?_append_left (by omega)])]
      rw [hS, hb, hb, List.getElem?_append_right (by omega), List.getElem?_append_right (by omega), hlen, Nat.sub_self, show 10 + 16 * f.Plots.length - (9 + 16 * f.Plots.length) = 1 by omega]
      simp only [List.getElem?_cons_zero, List.getElem?_cons_succ, Option.getD_some]
      omega

/-- One byte changed. -/
theorem damage {s : ByteArray} {p k : Nat} {to : Int} (h : Enc s p) (hk : k < s.size) (h2 : 2 ≤ k) (h7 : k ≠ 7) (h8 : k ≠ 8) (ht : 0 ≤ to ∧ to ≤ 255) (hne : ((bat s k).tmod 255 == to.tmod 255) = false) :
    (((wire_Decode ((s.extract 0 k ++ strOf [to]) ++ s.extract (k + 1) s.size)).2.2 != 0) && ((wire_Decode ((s.extract 0 k ++ strOf [to]) ++ s.extract (k + 1) s.size)).2.1 == 0)) = true := by
  have hsz := h.size
  have s1 : (s.extract 0 k).size = k := by rw [ByteArray.size_extract]; omega
  have s2 : (strOf [to]).size = 1 := by rw [size_strOf]; rfl
  have s3 : (s.extract (k + 1) s.size).size = s.size - (k + 1) := by rw [ByteArray.size_extract]; omega
  generalize ht_ : (s.extract 0 k ++ strOf [to]) ++ s.extract (k + 1) s.size = t
  have hts : t.size = s.size := by rw [← ht_, ByteArray.size_append, ByteArray.size_append, s1, s2, s3]; omega
  have hbt : bat t k = to := by
    rw [← ht_, bat_append_left (by rw [ByteArray.size_append, s1, s2]; omega), bat_append_right (by omega), s1, Nat.sub_self, bat_strOf [to] 0 (by intro x hx; rw [List.mem_singleton.1 hx]; exact ht)]
    rfl
  have hbo : ∀ i, i < s.size → i ≠ k → bat s i = bat t i := fun i hi hik => by
    rw [← ht_]
    rcases Nat.lt_or_ge i k with h1 | h1
    · rw [bat_append_left (by rw [ByteArray.size_append, s1, s2]; omega), bat_append_left (by omega), bat_extract s 0 k i (by omega) (by omega), Nat.zero_add]
    · rw [bat_append_right (by rw [ByteArray.size_append, s1, s2]; omega), ByteArray.size_append, s1, s2, bat_extract s (k + 1) s.size (i - (k + 1)) (by omega) (by omega), show k + 1 + (i - (k + 1)) = i by omega]
  have hneq : (bat s k) % 255 ≠ to % 255 := fun e => by
    have hb := bat_in s k
    rw [Int.tmod_eq_emod_of_nonneg (by omega), Int.tmod_eq_emod_of_nonneg ht.1, e] at hne
    simp at hne
  rcases dec_cases t with ⟨e, hd, he⟩ | ⟨n, xs, hd, hdd⟩
  · rw [hd]
    simp only
    rw [show (e != 0) = true by simpa using he]; rfl
  · exfalso
    have g7 : wire_get (t.extract 7 9) = p := by
      rw [get_two (by rw [ByteArray.size_extract]; omega), bat_extract t 7 9 0 (by omega) (by omega), bat_extract t 7 9 1 (by omega) (by omega), ← hbo 7 (by omega) (by omega), ← hbo 8 (by omega) (by omega)]
      exact h.num
    have hn : n = p := by rw [← hd.num, g7]
    subst hn
    have hsum := hd.sum
    rw [show (9 + 16 * (p : Int)).toNat = 9 + 16 * p by omega, show (11 + 16 * (p : Int)).toNat = 11 + 16 * p by omega] at hsum
    rw [get_two (by rw [ByteArray.size_extract]; omega), bat_extract t _ _ 0 (by omega) (by omega), bat_extract t _ _ 1 (by omega) (by omega), Nat.add_zero, show 9 + 16 * p + 1 = 10 + 16 * p by omega] at hsum
    obtain ⟨b1, es, c1, c2⟩ := sum_eq (s.extract 0 (9 + 16 * p))
    obtain ⟨b2, et, d1, d2⟩ := sum_eq (t.extract 0 (9 + 16 * p))
    have z1 : (s.extract 0 (9 + 16 * p)).size = 9 + 16 * p := by rw [ByteArray.size_extract]; omega
    have z2 : (t.extract 0 (9 + 16 * p)).size = 9 + 16 * p := by rw [ByteArray.size_extract]; omega
    have hs := h.sum
    rw [z1] at es
    rw [z2] at et
    have x1 : ∀ i, i < 9 + 16 * p → bat (s.extract 0 (9 + 16 * p)) i = bat s i := fun i hi => by rw [bat_extract s 0 _ i (by omega) (by omega), Nat.zero_add]
    have x2 : ∀ i, i < 9 + 16 * p → bat (t.extract 0 (9 + 16 * p)) i = bat t i := fun i hi => by rw [bat_extract t 0 _ i (by omega) (by omega), Nat.zero_add]
    have q1 := tot_congr (s.extract 0 (9 + 16 * p)) s (9 + 16 * p) 0 (fun i _ hi => x1 i (by omega))
    have q2 := tot_congr (t.extract 0 (9 + 16 * p)) t (9 + 16 * p) 0 (fun i _ hi => x2 i (by omega))
    rw [q1] at es
    rw [q2] at et
    rw [wu64_id (x := wire_Sum (t.extract 0 (9 + 16 * p))) (by omega)] at hsum
    have i1 := bat_in t (9 + 16 * p)
    have i2 := bat_in t (10 + 16 * p)
    have j1 := bat_in s (9 + 16 * p)
    have j2 := bat_in s (10 + 16 * p)
    rcases Nat.lt_or_ge k (9 + 16 * p) with hlt | hge
    · have r1 := hbo (9 + 16 * p) (by omega) (by omega)
      have r2 := hbo (10 + 16 * p) (by omega) (by omega)
      have r3 := tot_one s t k (9 + 16 * p) 0 (by omega) (by omega) (fun i _ hi hik => hbo i (by omega) hik)
      rw [hbt] at r3
      have hAB : 256 * b1 + tot s (9 + 16 * p) 0 % 255 = 256 * b2 + tot t (9 + 16 * p) 0 % 255 := by omega
      generalize tot s (9 + 16 * p) 0 = T at r3 hAB
      rw [r3] at hAB
      have hA : T % 255 = (T + (to - bat s k)) % 255 := by omega
      exact hneq (by omega)
    · have r4 : wire_Sum (t.extract 0 (9 + 16 * p)) = wire_Sum (s.extract 0 (9 + 16 * p)) := by
        have gen : ∀ (m k' : Nat) (a b : Int), k' + m ≤ 9 + 16 * p → wire_Sum_L1 (t.extract 0 (9 + 16 * p)) m k' a b = wire_Sum_L1 (s.extract 0 (9 + 16 * p)) m k' a b := by
          intro m
          induction m with
          | zero => intro k' a b _; rfl
          | succ m ih =>
            intro k' a b hk'
            unfold wire_Sum_L1
            rw [x1 k' (by omega), x2 k' (by omega), hbo k' (by omega) (by omega), ih (k' + 1) _ _ (by omega)]
        unfold wire_Sum
        rw [z1, z2, gen _ 0 0 0 (by omega)]
      rcases (show k = 9 + 16 * p ∨ k = 10 + 16 * p by omega) with e | e
      · have r2 := hbo (10 + 16 * p) (by omega) (by omega)
        have u1 : bat s (9 + 16 * p) = bat s k := by rw [e]
        have u2 : bat t (9 + 16 * p) = to := by rw [← e]; exact hbt
        have hto : to = bat s k := by clear hneq; omega
        exact hneq (by rw [hto])
      · have r2 := hbo (9 + 16 * p) (by omega) (by omega)
        have u1 : bat s (10 + 16 * p) = bat s k := by rw [e]
        have u2 : bat t (10 + 16 * p) = to := by rw [← e]; exact hbt
        have hto : to = bat s k := by clear hneq; omega
        exact hneq (by rw [hto])

theorem WireDamage_true (x0 : WireFrame) (x1 x2 : Int) (_k0 : I64 x0.Radar ∧ I64 x0.Time ∧ x0.Plots.length < 4611686018427387904 ∧ ∀ a ∈ x0.Plots, a.ok) (_k1 : I64 x1) (k2 : 0 ≤ x2 ∧ x2 ≤ 255) : skywaykeep2_WireDamage x0 x1 x2 = true := by
  unfold skywaykeep2_WireDamage
  rw [frames_true]
  simp only [Bool.not_true, cond_false]
  cases h2 : ((wire_Encode x0).2 != 0)
  · rw [cond_false]
    have he := enc_of (f := x0) rfl h2
    have hz := enc_fit (f := x0) rfl h2
    generalize (wire_Encode x0).1 = s at he hz ⊢
    have hw := dam_in (a := x1) (n := s.size) rfl hz
    generalize skywaykeep2_within x1 0 (w64 ((s.size : Int) - 5)) = r at hw ⊢
    obtain ⟨e1, e2, e3, e4⟩ := dam_k hw hz
    have fin : ∀ k : Nat, k < s.size → 2 ≤ k → k ≠ 7 → k ≠ 8 → cond ((bat s k) == x2) true (cond (((bat s k).tmod 255) == (x2.tmod 255)) true (((wire_Decode ((s.extract 0 k ++ strOf [x2]) ++ s.extract (k + 1) s.size)).2.2 != 0) && ((wire_Decode ((s.extract 0 k ++ strOf [x2]) ++ s.extract (k + 1) s.size)).2.1 == 0))) = true := by
      intro k a1 a2 a3 a4
      cases (bat s k) == x2
      · rw [cond_false]
        cases hq : (((bat s k).tmod 255) == (x2.tmod 255))
        · rw [cond_false]; exact damage he a1 a2 a3 a4 k2 hq
        · rfl
      · rfl
    have hsz := he.size
    cases h5 : decide (r < 5)
    · have h5 := of_decide_eq_false h5
      rw [cond_false, e4, e2, show (r + 5).toNat = (r + 4).toNat + 1 by omega]
      exact fin _ (by omega) (by omega) (by omega) (by omega)
    · have h5 := of_decide_eq_true h5
      rw [cond_true, e3, e1, show (r + 3).toNat = (r + 2).toNat + 1 by omega]
      exact fin _ (by omega) (by omega) (by omega) (by omega)
  · rfl
end Go.Sky
