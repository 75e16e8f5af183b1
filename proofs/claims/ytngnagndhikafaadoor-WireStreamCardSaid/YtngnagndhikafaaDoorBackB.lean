/- Decode of what Encode wrote. Conditions: in each theorem. -/
import Derived.Test.YtngnagndhikafaaDoorBackA
namespace Go.Sky
open Go Go.Eng

theorem get_part {s : ByteArray} {base tot_ : Nat} (A C : List Int) {n m : Nat} (hl : ∀ i, i < tot_ → bat s (base + i) = (A ++ (be (n : Int) m ++ C))[i]?.getD 0) (ht : A.length + m ≤ tot_) (hs : base + A.length + m ≤ s.size) (hm : m ≤ 8) (hn : n < 256 ^ m) :
    wire_get (s.extract (base + A.length) (base + A.length + m)) = (n : Int) := by
  refine get_be hm hn (by rw [ByteArray.size_extract]; omega) (fun i hi => ?_)
  rw [bat_extract s _ _ i (by omega) hs, Nat.add_assoc, hl (A.length + i) (by omega), List.getElem?_append_right (by omega), Nat.add_sub_cancel_left, List.getElem?_append_left (by rw [be_length]; exact hi)]

/-- The bytes of a plot. -/
def pb (p : Plot) : List Int := be (bits_FromFixed p.Range 0).1 8 ++ (be (wu64 p.Azimuth) 2 ++ (be (wu64 p.Height) 4 ++ be (wu64 (w64 (p.Code + 1))) 2))
theorem pb_length (p : Plot) : (pb p).length = 16 := by
  unfold pb; simp only [List.length_append, be_length]
theorem enc_L_flat : ∀ (xs : List Plot) (k : Nat) (b : List Int), wire_Encode_L1 xs k b = b ++ (xs.map pb).flatten
  | [], _, b => by unfold wire_Encode_L1; simp
  | x :: xs, k, b => by
    unfold wire_Encode_L1
    simp only
    rw [enc_L_flat xs]
    simp only [List.map_cons, List.flatten_cons, pb, List.append_assoc]
    rfl

structure Fine (p : Plot) : Prop where
  r : 0 ≤ p.Range ∧ p.Range ≤ 2000000
  a : 0 ≤ p.Azimuth ∧ p.Azimuth ≤ 4095
  h : 0 ≤ p.Height ∧ p.Height ≤ 60000
  c : -1 ≤ p.Code ∧ p.Code ≤ 4095

theorem check_run {f : WireFrame} : ∀ (xs : List Plot) (k : Nat), wire_Check_L1 f xs k = .inl () → ∀ p ∈ xs, p.Radar = f.Radar ∧ p.Time = f.Time ∧ Fine p
  | [], _, _, p, h => absurd h List.not_mem_nil
  | x :: xs, k, hr, p, hp => by
    unfold wire_Check_L1 at hr
    cases h1 : ((x.Radar != f.Radar) || (x.Time != f.Time))
    · rw [h1, cond_false] at hr
      cases h2 : ((((((((decide (x.Range < 0)) || (decide (x.Range > 2000000))) || (decide (x.Azimuth < 0))) || (decide (x.Azimuth > 4095))) || (decide (x.Height < 0))) || (decide (x.Height > 60000))) || (decide (x.Code < (-1)))) || (decide (x.Code > 4095)))
      · rw [h2, cond_false] at hr
        rcases List.mem_cons.1 hp with rfl | hp
        · simp only [Bool.or_eq_false_iff, bne_eq_false_iff_eq] at h1
          simp only [Bool.or_eq_false_iff, decide_eq_false_iff_not] at h2
          exact ⟨h1.1, h1.2, ⟨by omega, by omega, by omega, by omega⟩⟩
        · exact check_run xs (k + 1) hr p hp
      · rw [h2, cond_true] at hr; cases hr
    · rw [h1, cond_true] at hr; cases hr
theorem check_all {f : WireFrame} (h : wire_Check f = 0) : (0 ≤ f.Radar ∧ f.Radar ≤ 255) ∧ (0 ≤ f.Time ∧ f.Time ≤ 200000) ∧ ∀ p ∈ f.Plots, p.Radar = f.Radar ∧ p.Time = f.Time ∧ Fine p := by
  unfold wire_Check at h
  cases h1 : decide ((f.Plots.length : Int) > 32)
  · rw [h1, cond_false] at h
    cases h2 : ((((decide (f.Radar < 0)) || (decide (f.Radar > 255))) || (decide (f.Time < 0))) || (decide (f.Time > 200000)))
    · rw [h2, cond_false] at h
      simp only [Bool.or_eq_false_iff, decide_eq_false_iff_not] at h2
      refine ⟨by omega, by omega, ?_⟩
      have shape : ∀ (xs : List Plot) (k : Nat), wire_Check_L1 f xs k = .inl () ∨ ∃ e, wire_Check_L1 f xs k = .inr e ∧ e ≠ 0 := by
        intro xs
        induction xs with
        | nil => intro k; exact .inl rfl
        | cons x xs ih =>
          intro k
          unfold wire_Check_L1
          cases (x.Radar != f.Radar) || (x.Time != f.Time)
          · rw [cond_false]
            cases ((((((((decide (x.Range < 0)) || (decide (x.Range > 2000000))) || (decide (x.Azimuth < 0))) || (decide (x.Azimuth > 4095))) || (decide (x.Height < 0))) || (decide (x.Height > 60000))) || (decide (x.Code < (-1)))) || (decide (x.Code > 4095)))
            · exact ih (k + 1)
            · exact .inr ⟨4, rfl, by decide⟩
          · exact .inr ⟨3, rfl, by decide⟩
      rcases shape f.Plots 0 with hc | ⟨e, hc, he⟩
      · exact check_run f.Plots 0 hc
      · rw [hc] at h; exact absurd h he
    · rw [h2, cond_true] at h; exact absurd h (by decide)
  · rw [h1, cond_true] at h; exact absurd h (by decide)

theorem dec_L_run (s : ByteArray) (t : Int) : ∀ (xs : List Plot) (k : Nat) (o : List Plot), (∀ p ∈ xs, Fine p ∧ p.Radar = w64 (bat s 2) ∧ p.Time = w64 t) → k + xs.length ≤ 32 → 9 + 16 * (k + xs.length) ≤ s.size →
    (∀ i, i < 16 * xs.length → bat s (9 + 16 * k + i) = ((xs.map pb).flatten)[i]?.getD 0) → wire_Decode_L1 s t xs.length k o = .inl (o ++ xs)
  | [], _, o, _, _, _, _ => by show Sum.inl o = _; rw [List.append_nil]
  | x :: xs, k, o, hp, hk, hs, hb => by
    obtain ⟨hf, hr, ht⟩ := hp x (List.mem_cons_self ..)
    simp only [List.length_cons] at hk hs hb
    simp only [List.map_cons, List.flatten_cons] at hb
    obtain ⟨f1, f2, f3, f4⟩ := fix_back hf.r.1 hf.r.2
    obtain ⟨w1, w2, w3, w4⟩ := wk_eqs k (by omega)
    have ha := hf.a; have hh := hf.h; have hc := hf.c
    obtain ⟨n1, e1⟩ : ∃ n : Nat, (bits_FromFixed x.Range 0).1 = (n : Int) := ⟨(bits_FromFixed x.Range 0).1.toNat, by omega⟩
    obtain ⟨n2, e2⟩ : ∃ n : Nat, x.Azimuth = (n : Int) := ⟨x.Azimuth.toNat, by omega⟩
    obtain ⟨n3, e3⟩ : ∃ n : Nat, x.Height = (n : Int) := ⟨x.Height.toNat, by omega⟩
    obtain ⟨n4, e4⟩ : ∃ n : Nat, x.Code + 1 = (n : Int) := ⟨(x.Code + 1).toNat, by omega⟩
    have pbe : pb x = be (n1 : Int) 8 ++ (be (n2 : Int) 2 ++ (be (n3 : Int) 4 ++ be (n4 : Int) 2)) := by
      unfold pb
      rw [e1, e4, e2, e3, wu64_id (x := (n2 : Int)) (by omega), wu64_id (x := (n3 : Int)) (by omega), w64_id (x := (n4 : Int)) (by omega), wu64_id (x := (n4 : Int)) (by omega)]
    rw [pbe] at hb
    generalize hR : (xs.map pb).flatten = R at hb
    have g1 := get_part (s := s) (base := 9 + 16 * k) (tot_ := 16 * (xs.length + 1)) [] (be (n2 : Int) 2 ++ (be (n3 : Int) 4 ++ (be (n4 : Int) 2 ++ R))) (n := n1) (m := 8) (fun i hi => by rw [hb i hi]; simp only [List.append_assoc, List.nil_append]) (by simp; omega) (by simp; omega) (by decide) (by show n1 < 18446744073709551616; omega)
    have g2 := get_part (s := s) (base := 9 + 16 * k) (tot_ := 16 * (xs.length + 1)) (be (n1 : Int) 8) (be (n3 : Int) 4 ++ (be (n4 : Int) 2 ++ R)) (n := n2) (m := 2) (fun i hi => by rw [hb i hi]; simp only [List.append_assoc]) (by rw [be_length]; omega) (by rw [be_length]; omega) (by decide) (by show n2 < 65536; omega)
    have g3 := get_part (s := s) (base := 9 + 16 * k) (tot_ := 16 * (xs.length + 1)) (be (n1 : Int) 8 ++ be (n2 : Int) 2) (be (n4 : Int) 2 ++ R) (n := n3) (m := 4) (fun i hi => by rw [hb i hi]; simp only [List.append_assoc]) (by simp only [List.length_append, be_length]; omega) (by simp only [List.length_append, be_length]; omega) (by decide) (by show n3 < 4294967296; omega)
    have g4 := get_part (s := s) (base := 9 + 16 * k) (tot_ := 16 * (xs.length + 1)) (be (n1 : Int) 8 ++ (be (n2 : Int) 2 ++ be (n3 : Int) 4)) R (n := n4) (m := 2) (fun i hi => by rw [hb i hi]; simp only [List.append_assoc]) (by simp only [List.length_append, be_length]; omega) (by simp only [List.length_append, be_length]; omega) (by decide) (by show n4 < 65536; omega)
    simp only [List.length_append, be_length, List.length_nil] at g1 g2 g3 g4
    show wire_Decode_L1 s t (xs.length + 1) k o = _
    unfold wire_Decode_L1
    rw [w1, w2, w3, w4]
    rw [show (9 + ((16 * k : Nat) : Int)).toNat = 9 + 16 * k + 0 by omega, show (17 + 16 * (k : Int)).toNat = 9 + 16 * k + 0 + 8 by omega, show (19 + 16 * (k : Int)).toNat = 9 + 16 * k + 8 + 2 by omega, show (23 + 16 * (k : Int)).toNat = 9 + 16 * k + (8 + 2) + 4 by omega, show (25 + 16 * (k : Int)).toNat = 9 + 16 * k + (8 + (2 + 4)) + 2 by omega]
    rw [g1, ← e1]
    rw [show 9 + 16 * k + 0 + 8 = 9 + 16 * k + 8 by omega, g2]
    rw [show 9 + 16 * k + 8 + 2 = 9 + 16 * k + (8 + 2) by omega, g3]
    rw [show 9 + 16 * k + (8 + 2) + 4 = 9 + 16 * k + (8 + (2 + 4)) by omega, g4]
    simp only
    rw [f2, bne_self_eq_false, cond_false, f1, w64_id (x := (n2 : Int)) (by omega), w64_id (x := (n3 : Int)) (by omega), w64_id (x := (n4 : Int)) (by omega), w64_id (x := (n4 : Int) - 1) (by omega)]
    have hx : (⟨w64 (bat s 2), w64 t, x.Range, (n2 : Int), (n3 : Int), (n4 : Int) - 1⟩ : Plot) = x := by
      rw [← hr, ← ht, ← e2, ← e3, ← e4, show x.Code + 1 - 1 = x.Code by omega]
    rw [hx]
    rw [dec_L_run s t xs (k + 1) (o ++ [x]) (fun p h => hp p (List.mem_cons_of_mem _ h)) (by omega) (by omega) (fun i hi => by
      have := hb (16 + i) (by omega)
      rw [show 9 + 16 * k + (16 + i) = 9 + 16 * (k + 1) + i by omega] at this
      rw [this, ← hR, List.getElem?_append_right (by simp only [List.length_append, be_length]; omega)]
      simp only [List.length_append, be_length]
      rw [show 16 + i - (8 + (2 + (4 + 2))) = i by omega])]
    rw [List.append_assoc]; rfl

theorem dec_go {s : ByteArray} {n : Int} {xs : List Plot} (hd : Dec s n xs) : wire_Decode s = (⟨w64 (bat s 2), w64 (wire_get (s.extract 3 7)), xs⟩, 11 + 16 * n, 0) := by
  have n0 := hd.n0; have n1 := hd.n1; have hl := hd.long
  unfold wire_Decode
  rw [decide_eq_true (show (s.size : Int) > 0 by omega), cond_true, hd.b0, bne_self_eq_false, cond_false, decide_eq_true (show (s.size : Int) > 1 by omega), cond_true, hd.b1, bne_self_eq_false, cond_false, decide_eq_false (show ¬ (s.size : Int) < 9 by omega), cond_false]
  simp only
  rw [hd.num, show (decide (wire_get (s.extract 3 7) > 200000) || decide (n > 32)) = false by rw [decide_eq_false (by have := hd.time; omega), decide_eq_false (by omega)]; rfl, cond_false]
  obtain ⟨e1, e2, _, _⟩ := size_eqs n0 (by omega)
  have e3 : w64 (11 + 16 * n - 2) = 9 + 16 * n := by rw [← e1]; exact e2
  rw [e1, e3, show (11 + 16 * n - 11) / 16 = n by omega, decide_eq_false (show ¬ (s.size : Int) < 11 + 16 * n by omega), cond_false, hd.sum, bne_self_eq_false, cond_false, hd.plots]
  simp only [Sum.elim_inl]
  rw [hd.enc, bne_self_eq_false, cond_false, hd.same, Bool.not_true, cond_false]

/-- The beginning of a frame. -/
theorem dec_short {s : ByteArray} (h0 : 0 < s.size → bat s 0 = 83) (h1 : 1 < s.size → bat s 1 = 87) (hl : 9 ≤ s.size → ∃ n, wire_get (s.extract 7 9) = n ∧ 0 ≤ n ∧ n ≤ 32 ∧ wire_get (s.extract 3 7) ≤ 200000 ∧ (s.size : Int) < 11 + 16 * n) : (wire_Decode s).2.2 = 8 := by
  unfold wire_Decode
  rcases Nat.eq_zero_or_pos s.size with z | z
  · rw [decide_eq_false (show ¬ (s.size : Int) > 0 by omega), cond_false, decide_eq_false (show ¬ (s.size : Int) > 1 by omega), cond_false, decide_eq_true (show (s.size : Int) < 9 by omega), cond_true]
  · rw [decide_eq_true (show (s.size : Int) > 0 by omega), cond_true, h0 z, bne_self_eq_false, cond_false]
    rcases Nat.lt_or_ge 1 s.size with z1 | z1
    · rw [decide_eq_true (show (s.size : Int) > 1 by omega), cond_true, h1 z1, bne_self_eq_false, cond_false]
      rcases Nat.lt_or_ge s.size 9 with z2 | z2
      · rw [decide_eq_true (show (s.size : Int) < 9 by omega), cond_true]
      · obtain ⟨n, hn, n0, n1, ht, hs⟩ := hl z2
        rw [decide_eq_false (show ¬ (s.size : Int) < 9 by omega), cond_false]
        simp only
        rw [hn, show (decide (wire_get (s.extract 3 7) > 200000) || decide (n > 32)) = false by rw [decide_eq_false (by omega), decide_eq_false (by omega)]; rfl, cond_false]
        obtain ⟨e1, _, _, _⟩ := size_eqs n0 (by omega)
        rw [e1, decide_eq_true hs, cond_true]
    · rw [decide_eq_false (show ¬ (s.size : Int) > 1 by omega), cond_false, decide_eq_true (show (s.size : Int) < 9 by omega), cond_true]
end Go.Sky
