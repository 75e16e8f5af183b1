/- What Decode answers at the bytes of a frame, and at a beginning of them. Conditions: in each theorem. -/
import Derived.Test.YtngnagndhikafaaDoorFe
import Derived.Test.YtngnagndhikafaaDoorBackB
import Derived.Test.YtngnagndhikafaaDoorOk
namespace Go.Sky
open Go Go.Eng

theorem frames_true : skywaykeep2_frames = true := by kernel_rfl

theorem ext_sum (s : ByteArray) (l : List Int) (n : Nat) (hn : n ≤ s.size) (hl : l.length = n) (h : ∀ i, i < n → bat s i = bat (strOf l) i) : wire_Sum (s.extract 0 n) = wire_Sum (strOf l) := by
  have e1 : (s.extract 0 n).size = n := by rw [ByteArray.size_extract]; omega
  have e2 : (strOf l).size = n := by rw [size_strOf, hl]
  have gen : ∀ (m k : Nat) (a b : Int), k + m ≤ n → wire_Sum_L1 (s.extract 0 n) m k a b = wire_Sum_L1 (strOf l) m k a b := by
    intro m
    induction m with
    | zero => intro k a b _; rfl
    | succ m ih =>
      intro k a b hk
      unfold wire_Sum_L1
      rw [bat_extract s 0 n k (by omega) hn, Nat.zero_add, h k (by omega), ih (k + 1) _ _ (by omega)]
  unfold wire_Sum
  rw [e1, e2, gen n 0 0 0 (by omega)]

theorem eqb_self (p : Plot) : Plot.eqb p p = true := by rw [Plot.eqb_eq, decide_eq_true rfl]
theorem equal_run {s : List Plot} : ∀ (xs : List Plot) (k : Nat), s.drop k = xs → slices_Equal_api_Plot_api_Plot_L1 s xs k = .inl ()
  | [], _, _ => rfl
  | x :: xs, k, hd => by
    have d1 : s.drop (k + 1) = xs := by rw [← List.drop_drop, hd]; rfl
    have d2 : s[k]? = some x := by
      have : (s.drop k)[0]? = some x := by rw [hd]; rfl
      rwa [List.getElem?_drop, Nat.add_zero] at this
    unfold slices_Equal_api_Plot_api_Plot_L1
    rw [d2, Option.getD_some, eqb_self, Bool.not_true, cond_false]
    exact equal_run xs (k + 1) d1
theorem same_self (f : WireFrame) : skywaykeep2_sameFrame f f = true := by
  unfold skywaykeep2_sameFrame slices_Equal_api_Plot_api_Plot
  rw [show ((f.Radar == f.Radar) && (f.Time == f.Time)) = true by simp, cond_true]
  simp only
  rw [bne_self_eq_false, cond_false, equal_run f.Plots 0 List.drop_zero]
  rfl

/-- The bytes of a frame. -/
structure Whole (f : WireFrame) (l : List Int) (t p q : Nat) : Prop where
  check : wire_Check f = 0
  enc : wire_Encode f = (strOf l, 0)
  tt : f.Time = (t : Int)
  pp : f.Plots.length = p
  p1 : p ≤ 32
  shape : l = (([83, 87] : List Int) ++ be f.Radar 1) ++ (be (t : Int) 4 ++ (be (p : Int) 2 ++ ((f.Plots.map pb).flatten ++ be (q : Int) 2)))
  qq : (q : Int) = wire_Sum (strOf ((([83, 87] : List Int) ++ be f.Radar 1) ++ (be (t : Int) 4 ++ (be (p : Int) 2 ++ (f.Plots.map pb).flatten))))
  q1 : q < 65536
  inn : ∀ x ∈ l, 0 ≤ x ∧ x ≤ 255
  len : l.length = 11 + 16 * p

theorem flat_len (xs : List Plot) : ((xs.map pb).flatten).length = 16 * xs.length := by
  induction xs with
  | nil => rfl
  | cons x xs ih => rw [List.map_cons, List.flatten_cons, List.length_append, pb_length, ih, List.length_cons]; omega

theorem whole_of {f : WireFrame} (h2 : ((wire_Encode f).2 != 0) = false) : ∃ l t q, Whole f l t f.Plots.length q := by
  rcases enc_cases f with ⟨e, h, he, _⟩ | ⟨hc, hl, h⟩
  · rw [h] at h2; exact absurd (by simpa using h2) he
  · obtain ⟨⟨r0, r1⟩, ⟨t0, t1⟩, _⟩ := check_all hc
    obtain ⟨t, ht⟩ : ∃ t : Nat, f.Time = (t : Int) := ⟨f.Time.toNat, by omega⟩
    obtain ⟨b, es, hb0, hb1⟩ := sum_eq (strOf (body f))
    obtain ⟨q, hq⟩ : ∃ q : Nat, wire_Sum (strOf (body f)) = (q : Int) := ⟨(wire_Sum (strOf (body f))).toNat, by omega⟩
    have hbody : body f = (([83, 87] : List Int) ++ be f.Radar 1) ++ (be (t : Int) 4 ++ (be (f.Plots.length : Int) 2 ++ (f.Plots.map pb).flatten)) := by
      unfold body
      rw [enc_L_flat, ht, wu64_id (x := f.Radar) (by omega), wu64_id (x := (t : Int)) (by omega), wu64_id (x := (f.Plots.length : Int)) (by omega)]
      simp only [List.append_assoc]
    have hw : wu64 (q : Int) = (q : Int) := wu64_id (by omega)
    refine ⟨body f ++ be (q : Int) 2, t, q, hc, by rw [h, hq, hw], ht, rfl, hl, ?_, ?_, by omega, app_in (body_in f) (be_in _ _), ?_⟩
    · rw [hbody]; simp only [List.append_assoc]
    · rw [← hbody, hq]
    · rw [List.length_append, be_length, body_len]; omega

theorem get_ch (s : ByteArray) (l : List Int) (c : Nat) (h : ∀ i, i < c → bat s i = l[i]?.getD 0) {f : WireFrame} {t p q : Nat} (w : Whole f l t p q) (hs : c ≤ s.size) : (0 < c → bat s 0 = 83) ∧ (1 < c → bat s 1 = 87) ∧ (7 ≤ c → wire_get (s.extract 3 7) = (t : Int)) ∧ (9 ≤ c → wire_get (s.extract 7 9) = (p : Int)) := by
  have ht := (check_all w.check).2.1
  rw [w.tt] at ht
  refine ⟨fun hc => ?_, fun hc => ?_, fun hc => ?_, fun hc => ?_⟩
  · rw [h 0 hc, w.shape]; rfl
  · rw [h 1 hc, w.shape]; rfl
  · have := get_part (s := s) (base := 0) (tot_ := c) (([83, 87] : List Int) ++ be f.Radar 1) (be (p : Int) 2 ++ ((f.Plots.map pb).flatten ++ be (q : Int) 2)) (n := t) (m := 4) (fun i hi => by rw [Nat.zero_add, h i hi, w.shape]) (by simp only [List.length_append, be_length, List.length_cons, List.length_nil]; omega)
      (by simp only [List.length_append, be_length, List.length_cons, List.length_nil]; omega) (by decide) (by show t < 4294967296; omega)
    simpa [be_length] using this
  · have := get_part (s := s) (base := 0) (tot_ := c) ((([83, 87] : List Int) ++ be f.Radar 1) ++ be (t : Int) 4) ((f.Plots.map pb).flatten ++ be (q : Int) 2) (n := p) (m := 2) (fun i hi => by rw [Nat.zero_add, h i hi, w.shape]; simp only [List.append_assoc]) (by simp only [List.length_append, be_length, List.length_cons, List.length_nil]; omega)
      (by simp only [List.length_append, be_length, List.length_cons, List.length_nil]; omega) (by decide) (by show p < 65536; have := w.p1; omega)
    simpa [be_length] using this

theorem ext_self (s more : ByteArray) : (s ++ more).extract 0 s.size = s := by
  apply ByteArray.ext
  rw [ByteArray.data_extract, ByteArray.data_append]
  apply Array.ext_getElem?
  intro i
  rw [Array.getElem?_extract]
  have hz : s.data.size = s.size := rfl
  have hz2 : (s.data ++ more.data).size = s.size + more.size := by rw [Array.size_append]; rfl
  rcases Nat.lt_or_ge i s.size with h | h
  · rw [if_pos (by omega), Nat.zero_add, Array.getElem?_append_left (by omega)]
  · rw [if_neg (by omega), Array.getElem?_eq_none (by omega)]
theorem seq_self (s : ByteArray) : seq s s = true := by unfold seq; simp

theorem back_dec {f : WireFrame} {l : List Int} {t p q : Nat} (w : Whole f l t p q) (more : ByteArray) : wire_Decode (strOf l ++ more) = (f, 11 + 16 * (p : Int), 0) := by
  have hp1 := w.p1
  have hlen := w.len
  have hsz : (strOf l).size = 11 + 16 * p := by rw [size_strOf, hlen]
  have hb : ∀ i, i < 11 + 16 * p → bat (strOf l ++ more) i = l[i]?.getD 0 := fun i hi => by rw [bat_append_left (by omega), bat_strOf l i w.inn]
  have hD : (strOf l ++ more).size = 11 + 16 * p + more.size := by rw [ByteArray.size_append, hsz]
  obtain ⟨c0, c1, c2, c3⟩ := get_ch (strOf l ++ more) l (11 + 16 * p) hb w (by omega)
  obtain ⟨⟨r0, r1⟩, ⟨t0, t1⟩, hpl⟩ := check_all w.check
  have hext := ext_self (strOf l) more
  rw [hsz] at hext
  generalize strOf l ++ more = s at hb hD c0 c1 c2 c3 hext
  have c2 := c2 (by omega)
  have c3 := c3 (by omega)
  have hrad : w64 (bat s 2) = f.Radar := by
    have e1 : be f.Radar 1 = [wu8 (f.Radar.fdiv (2 ^ (min (8 * 0) 64)))] := rfl
    rw [hb 2 (by omega), w.shape, e1]
    show w64 (wu8 (f.Radar.fdiv 1)) = _
    rw [Int.fdiv_one, show wu8 f.Radar = f.Radar % 256 from IntKind.wrap_u8 _, w64_id (by omega)]; omega
  have htime : w64 (wire_get (s.extract 3 7)) = f.Time := by rw [c2, w.tt, w64_id (by have := w.tt; omega)]
  have hfr : (⟨w64 (bat s 2), w64 (wire_get (s.extract 3 7)), f.Plots⟩ : WireFrame) = f := by rw [hrad, htime]
  have hdec : Dec s (p : Int) f.Plots := by
    refine ⟨by omega, by omega, c3, by rw [c2, ← w.tt]; exact t1, c0 (by omega), c1 (by omega), by omega, ?_, ?_, ?_, ?_⟩
    · rw [show (9 + 16 * (p : Int)).toNat = 9 + 16 * p by omega, show (11 + 16 * (p : Int)).toNat = 11 + 16 * p by omega]
      have hsum := ext_sum s ((([83, 87] : List Int) ++ be f.Radar 1) ++ (be (t : Int) 4 ++ (be (p : Int) 2 ++ (f.Plots.map pb).flatten))) (9 + 16 * p) (by omega)
        (by simp only [List.length_append, be_length, List.length_cons, List.length_nil, flat_len, w.pp]; omega) (fun i hi => by
          rw [hb i (by omega), bat_strOf _ i (fun x hx => w.inn x (by
            rw [w.shape]
            simp only [List.append_assoc, List.mem_append] at hx ⊢
            rcases hx with h | h | h | h | h
            · exact .inl h
            · exact .inr (.inl h)
            · exact .inr (.inr (.inl h))
            · exact .inr (.inr (.inr (.inl h)))
            · exact .inr (.inr (.inr (.inr (.inl h)))))), w.shape]
          have e : (([83, 87] : List Int) ++ be f.Radar 1) ++ (be (t : Int) 4 ++ (be (p : Int) 2 ++ ((f.Plots.map pb).flatten ++ be (q : Int) 2))) = ((([83, 87] : List Int) ++ be f.Radar 1) ++ (be (t : Int) 4 ++ (be (p : Int) 2 ++ (f.Plots.map pb).flatten))) ++ be (q : Int) 2 := by simp only [List.append_assoc]
          rw [e, List.getElem?_append_left (by simp only [List.length_append, be_length, List.length_cons, List.length_nil, flat_len, w.pp]; omega)])
      rw [hsum, ← w.qq, wu64_id (by have := w.q1; omega)]
      have g := get_part (s := s) (base := 0) (tot_ := 11 + 16 * p) ((([83, 87] : List Int) ++ be f.Radar 1) ++ (be (t : Int) 4 ++ (be (p : Int) 2 ++ (f.Plots.map pb).flatten))) [] (n := q) (m := 2) (fun i hi => by rw [Nat.zero_add, hb i hi, w.shape]; simp only [List.append_assoc, List.append_nil])
        (by simp only [List.length_append, be_length, List.length_cons, List.length_nil, flat_len, w.pp]; omega) (by simp only [List.length_append, be_length, List.length_cons, List.length_nil, flat_len, w.pp]; omega) (by decide) (by show q < 65536; exact w.q1)
      simp only [List.length_append, be_length, List.length_cons, List.length_nil, flat_len, w.pp] at g
      rw [show 0 + (0 + 1 + 1 + 1 + (4 + (2 + 16 * p))) = 9 + 16 * p by omega, show 9 + 16 * p + 2 = 11 + 16 * p by omega] at g
      exact g
    · have hr := dec_L_run s (wire_get (s.extract 3 7)) f.Plots 0 [] (fun x hx => by
        obtain ⟨h1, h2, h3⟩ := hpl x hx
        exact ⟨h3, by rw [h1, hrad], by rw [h2, htime]⟩) (by have := w.pp; omega) (by have := w.pp; omega) (fun i hi => by
        rw [w.pp] at hi
        rw [show 9 + 16 * 0 + i = 9 + i by omega, hb (9 + i) (by omega), w.shape]
        have e : (([83, 87] : List Int) ++ be f.Radar 1) ++ (be (t : Int) 4 ++ (be (p : Int) 2 ++ ((f.Plots.map pb).flatten ++ be (q : Int) 2))) = ((([83, 87] : List Int) ++ be f.Radar 1) ++ (be (t : Int) 4 ++ be (p : Int) 2)) ++ ((f.Plots.map pb).flatten ++ be (q : Int) 2) := by simp only [List.append_assoc]
        have hA : (((([83, 87] : List Int) ++ be f.Radar 1) ++ (be (t : Int) 4 ++ be (p : Int) 2))).length = 9 := by simp only [List.length_append, be_length, List.length_cons, List.length_nil]
        rw [e, List.getElem?_append_right (by omega), hA, Nat.add_sub_cancel_left, List.getElem?_append_left (by rw [flat_len, w.pp]; exact hi)])
      rw [w.pp] at hr
      rw [show ((p : Int)).toNat = p by omega]
      simpa using hr
    · rw [hfr, w.enc]
    · rw [hfr, w.enc, show (11 + 16 * (p : Int)).toNat = 11 + 16 * p by omega, hext]
      exact seq_self _
  rw [dec_go hdec, hfr]

theorem back_cut {f : WireFrame} {l : List Int} {t p q : Nat} (w : Whole f l t p q) (c : Nat) (hc : c < 11 + 16 * p) : (wire_Decode ((strOf l).extract 0 c)).2.2 = 8 := by
  have hlen := w.len
  have hsz : (strOf l).size = 11 + 16 * p := by rw [size_strOf, hlen]
  have hcs : ((strOf l).extract 0 c).size = c := by rw [ByteArray.size_extract]; omega
  have hb : ∀ i, i < c → bat ((strOf l).extract 0 c) i = l[i]?.getD 0 := fun i hi => by rw [bat_extract _ 0 c i (by omega) (by omega), Nat.zero_add, bat_strOf l i w.inn]
  obtain ⟨c0, c1, c2, c3⟩ := get_ch _ l c hb w (by omega)
  have t1 := (check_all w.check).2.1.2
  have ht := w.tt
  have hp := w.p1
  exact dec_short (fun h => c0 (by omega)) (fun h => c1 (by omega)) (fun h => ⟨(p : Int), c3 (by omega), by omega, by omega, by rw [c2 (by omega)]; omega, by omega⟩)
end Go.Sky
