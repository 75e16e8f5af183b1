/- The law ProbePairs in plain Lean. Conditions: the arguments are 64-bit integers. -/
import Derived.Test.YtlaealgmaalgfaaWq
import Derived.Test.YtlaealgmaalgfaaLawTubeNodes
import Derived.Test.YtlaealgmaalgfaaSqrt
namespace Go.Sky
open Go Go.Eng Go.Glue

theorem root_of {n : Int} (h : 0 ≤ n ∧ n ≤ 8000000000000) : 0 ≤ num_Root n ∧ num_Root n ≤ 3000000 ∧ num_Root n * num_Root n ≤ n ∧ n < (num_Root n + 1) * (num_Root n + 1) := by
  by_cases h0 : n ≤ 0
  · have e : num_Root n = 0 := by unfold num_Root; rw [decide_eq_true h0]; rfl
    rw [e]; omega
  · obtain ⟨R, h1, h2, h3, h4⟩ := root_spec2 n (by omega) 33 0 3037000499 (by decide) (by decide) (by decide) (by decide) (by omega) (by omega)
    have e : num_Root n = R := by unfold num_Root bindv; rw [decide_eq_false h0, cond_false, h1]; rfl
    rw [e]
    refine ⟨h2, ?_, h3, h4⟩
    rcases Int.lt_or_le 3000000 R with g | g
    · have := sq_mono2 (a := 3000001) (b := R) (by decide) (by omega)
      omega
    · exact g

/-- The program's and the reference's test of separation are the same. -/
theorem sep_eq {x y : TubeNode} {s : Sep} (hx : x.In) (hy : y.In) (hs : probe_CheckSep s = 0) : probe_separated x y s = skywayref1_Apart x y s := by
  have hl : (0 ≤ s.Lateral ∧ s.Lateral ≤ 1000000) ∧ 0 ≤ s.Vertical ∧ s.Vertical ≤ 60000 := by
    unfold probe_CheckSep at hs
    rw [ite_of_cond] at hs
    split at hs
    · cases hs
    · rename_i h; simp at h; omega
  obtain ⟨x1, x2, x3, x4, x5⟩ := hx
  obtain ⟨y1, y2, y3, y4, y5⟩ := hy
  obtain ⟨e1, e2, e3⟩ := square_eq x2 y2
  have er : skywayref1_Square x.Node.At y.Node.At = plane_Square x.Node.At y.Node.At := rfl
  obtain ⟨r1, r2, r3, r4⟩ := root_of ⟨e2, e3⟩
  unfold probe_separated skywayref1_Apart
  have ed : (plane_Distance x.Node.At y.Node.At).1 = num_Root (plane_Square x.Node.At y.Node.At) := by
    unfold plane_Distance
    dsimp only
    cases decide (w64 (num_Root (plane_Square x.Node.At y.Node.At) * num_Root (plane_Square x.Node.At y.Node.At)) < plane_Square x.Node.At y.Node.At) <;> rfl
  simp only [ed, er]
  obtain ⟨d, hd⟩ : ∃ d, d = num_Root (plane_Square x.Node.At y.Node.At) := ⟨_, rfl⟩
  obtain ⟨q, hq⟩ : ∃ q, q = plane_Square x.Node.At y.Node.At := ⟨_, rfl⟩
  rw [← hq] at r1 r2 r3 r4 e2 e3 hd ⊢
  rw [← hd] at r1 r2 r3 r4 ⊢
  have m1 := sq_mono2 (a := s.Lateral + x.Radius + y.Radius) (b := 3000000) (by omega) (by omega)
  have m0 : 0 ≤ (s.Lateral + x.Radius + y.Radius) * (s.Lateral + x.Radius + y.Radius) := Int.mul_nonneg (by omega) (by omega)
  rw [w64_id (x := d - x.Radius) (by omega), w64_id (x := d - x.Radius - y.Radius) (by omega), w64_id (x := s.Lateral + x.Radius) (by omega), w64_id (x := s.Lateral + x.Radius + y.Radius) (by omega), w64_id (x := (s.Lateral + x.Radius + y.Radius) * _) (by omega)]
  have a1 : decide (d - x.Radius - y.Radius ≥ s.Lateral) = decide (q ≥ (s.Lateral + x.Radius + y.Radius) * (s.Lateral + x.Radius + y.Radius)) := by
    rw [Bool.eq_iff_iff, decide_eq_true_eq, decide_eq_true_eq]
    constructor
    · intro h
      have := sq_mono2 (a := s.Lateral + x.Radius + y.Radius) (b := d) (by omega) (by omega)
      omega
    · intro h
      rcases Int.lt_or_le d (s.Lateral + x.Radius + y.Radius) with g | g
      · have := sq_mono2 (a := d + 1) (b := s.Lateral + x.Radius + y.Radius) (by omega) (by omega)
        omega
      · omega
  have a2 : decide (w64 (w64 (imax (w64 (x.Node.Height - y.Node.Height)) (w64 (y.Node.Height - x.Node.Height)) - x.Band) - y.Band) ≥ s.Vertical) = decide (skywayref1_Abs (w64 (x.Node.Height - y.Node.Height)) ≥ w64 (w64 (s.Vertical + x.Band) + y.Band)) := by
    rw [w64_id (x := x.Node.Height - y.Node.Height) (by omega), w64_id (x := y.Node.Height - x.Node.Height) (by omega)]
    have ab : skywayref1_Abs (x.Node.Height - y.Node.Height) = imax (x.Node.Height - y.Node.Height) (y.Node.Height - x.Node.Height) := by
      unfold skywayref1_Abs imax
      by_cases h : x.Node.Height - y.Node.Height < 0
      · rw [decide_eq_true h, cond_true, if_pos (by omega), w64_id (by omega)]; omega
      · rw [decide_eq_false h, cond_false, if_neg (by omega)]
    rw [ab]
    have g := imax_ge (x.Node.Height - y.Node.Height) (y.Node.Height - x.Node.Height)
    rw [w64_id (x := imax _ _ - x.Band) (by omega), w64_id (x := imax _ _ - x.Band - y.Band) (by omega), w64_id (x := s.Vertical + x.Band) (by omega), w64_id (x := s.Vertical + x.Band + y.Band) (by omega)]
    rw [Bool.eq_iff_iff, decide_eq_true_eq, decide_eq_true_eq]
    omega
  rw [a1, a2]
  cases decide (q ≥ (s.Lateral + x.Radius + y.Radius) * (s.Lateral + x.Radius + y.Radius)) <;> rfl

def up (f : Int) (n : Nat) : List Int := (List.range n).map (fun i => f + ((i : Nat) : Int))
theorem up_succ (f : Int) (n : Nat) : up f (n + 1) = up f n ++ [f + (n : Int)] := by unfold up; rw [List.range_succ, List.map_append]; rfl
def spanS (x : Span) : List Int := up x.From (x.To - x.From).toNat
def secs (l : List Span) : List Int := l.flatMap spanS
theorem secs_append (l m : List Span) : secs (l ++ m) = secs l ++ secs m := by unfold secs; rw [List.flatMap_append]
def clash (a b : List TubeNode) (s : Sep) (t : Int) : Bool := !skywayref1_Apart (skywayref1_Node a t) (skywayref1_Node b t) s

structure SpInv (a b : List TubeNode) (s : Sep) (f : Int) (k : Nat) (out : List Span) : Prop where
  pos : ∀ x ∈ out, x.From < x.To ∧ x.To ≤ f + (k : Int)
  apart : out.Pairwise (fun x y => x.To < y.From)
  eq : secs out = (up f k).filter (clash a b s)

theorem up_span (f g : Int) (h : f < g) : spanS ⟨f, g⟩ = up f (g - 1 - f).toNat ++ [g - 1] := by
  unfold spanS
  rw [show (g - f).toNat = (g - 1 - f).toNat + 1 by omega, up_succ]
  dsimp only
  congr 2
  omega

theorem spans_inv {a b : List TubeNode} {s : Sep} {r1 : Int × Int} (hr : 0 ≤ r1.1 ∧ r1.1 ≤ 200000) (hat : ∀ t : Int, r1.1 ≤ t → t ≤ r1.2 → probe_separated (tube_At a t).1 (tube_At b t).1 s = !clash a b s t) : ∀ (m k : Nat) (out : List Span), r1.1 + (k : Int) + (m : Int) ≤ r1.2 + 1 → r1.2 ≤ 200000 → SpInv a b s r1.1 k out → SpInv a b s r1.1 (k + m) (probe_spans_L1 a b s r1 m k out)
  | 0, k, out, _, _, h => h
  | m + 1, k, out, h0, h9, h => by
    have w : w64 (r1.1 + (k : Int) + 1) = r1.1 + (k : Int) + 1 := w64_id (by omega)
    have hs := hat (r1.1 + (k : Int)) (by omega) (by omega)
    have ih := fun out' => spans_inv (a := a) (b := b) (s := s) hr hat m (k + 1) out' (by omega) h9
    rw [show k + 1 + m = k + (m + 1) by omega] at ih
    unfold probe_spans_L1
    simp only [hs, w]
    cases hc : clash a b s (r1.1 + (k : Int))
    · simp only [Bool.not_false, cond_true]
      refine ih out ⟨fun x hx => by have := h.pos x hx; omega, h.apart, ?_⟩
      rw [h.eq, up_succ, List.filter_append]
      simp [hc]
    · simp only [Bool.not_true, cond_false]
      have filt : (up r1.1 (k + 1)).filter (clash a b s) = (up r1.1 k).filter (clash a b s) ++ [r1.1 + (k : Int)] := by
        rw [up_succ, List.filter_append]; simp [hc]
      have app : (∀ x ∈ out, x.To < r1.1 + (k : Int)) → SpInv a b s r1.1 (k + (m + 1)) (probe_spans_L1 a b s r1 m (k + 1) (out ++ [⟨r1.1 + (k : Int), r1.1 + (k : Int) + 1⟩])) := by
        intro hlt
        refine ih _ ⟨fun x hx => ?_, ?_, ?_⟩
        · rcases List.mem_append.1 hx with hx | hx
          · have := h.pos x hx; omega
          · rw [List.mem_singleton.1 hx]; dsimp only; omega
        · rw [List.pairwise_append]
          exact ⟨h.apart, by simp, fun x hx y hy => by rw [List.mem_singleton.1 hy]; exact hlt x hx⟩
        · rw [secs_append, h.eq, filt]
          congr 1
          show spanS _ ++ [] = _
          rw [List.append_nil, up_span _ _ (by omega), show (r1.1 + (k : Int) + 1 - 1 - (r1.1 + (k : Int))).toNat = 0 by omega]
          show [] ++ [r1.1 + (k : Int) + 1 - 1] = _
          rw [List.nil_append, show r1.1 + (k : Int) + 1 - 1 = r1.1 + (k : Int) by omega]
      rcases List.eq_nil_or_concat out with rfl | ⟨ini, z, rfl⟩
      · rw [decide_eq_false (by simp), cond_false]
        exact app (by simp)
      · rw [List.concat_eq_append] at *
        have hlen : (ini ++ [z]).length - 1 = ini.length := by simp
        have hz : (ini ++ [z])[ini.length]?.getD Span.zero = z := by simp
        rw [decide_eq_true (by simp), cond_true, hlen, hz]
        have pz := h.pos z (by simp)
        have ap := (List.pairwise_append.1 h.apart).2.2
        by_cases he : z.To = r1.1 + (k : Int)
        · rw [show (z.To == r1.1 + (k : Int)) = true by simpa using he, cond_true]
          have hset : (ini ++ [z]).set ini.length (⟨z.From, r1.1 + (k : Int) + 1⟩ : Span) = ini ++ [⟨z.From, r1.1 + (k : Int) + 1⟩] := by
            rw [List.set_append_right _ _ (Nat.le_refl _)]; simp
          rw [hset]
          refine ih _ ⟨fun x hx => ?_, ?_, ?_⟩
          · rcases List.mem_append.1 hx with hx | hx
            · have := h.pos x (List.mem_append_left _ hx); omega
            · rw [List.mem_singleton.1 hx]; dsimp only; omega
          · rw [List.pairwise_append]
            exact ⟨(List.pairwise_append.1 h.apart).1, by simp, fun x hx y hy => by rw [List.mem_singleton.1 hy]; exact ap x hx z (by simp)⟩
          · have e0 := h.eq
            rw [secs_append] at e0 ⊢
            rw [filt, ← e0, List.append_assoc]
            congr 1
            show spanS _ ++ [] = (spanS z ++ []) ++ _
            rw [List.append_nil, List.append_nil, up_span _ _ (by omega)]
            unfold spanS
            rw [he, show r1.1 + (k : Int) + 1 - 1 = r1.1 + (k : Int) by omega]
        · rw [show (z.To == r1.1 + (k : Int)) = false by simpa using he, cond_false]
          refine app fun x hx => ?_
          rcases List.mem_append.1 hx with hx | hx
          · have := ap x hx z (by simp); omega
          · rw [List.mem_singleton.1 hx]; omega

/-- The reference's list. -/
theorem clash_from {a b : List TubeNode} {s : Sep} (ha : TubeOk a) (hb : TubeOk b) : ∀ (m : Nat) (out : List Int) (t : Int), (probe_common a b).1 ≤ t → t ≤ 200001 → 200001 - t < (m : Int) →
    skywayref1_Clashes_L1 a b s m out t = some (out ++ (up t ((probe_common a b).2 - t + 1).toNat).filter (clash a b s))
  | 0, out, t, h1, h2, h3 => by omega
  | m + 1, out, t, h1, h2, h3 => by
    have mx := max_in ha hb
    have ta := times_in ha
    have tb := times_in hb
    have kc := common_in ha hb rfl
    have m1 : (probe_common a b).1 = imax (((a[0]?.getD TubeNode.zero).Node).Time) (((b[0]?.getD TubeNode.zero).Node).Time) := rfl
    have m2 : (probe_common a b).2 = imin (((a[(a.length - 1)]?.getD TubeNode.zero).Node).Time) (((b[(b.length - 1)]?.getD TubeNode.zero).Node).Time) := rfl
    have mn : (probe_common a b).2 ≤ (((a[(a.length - 1)]?.getD TubeNode.zero).Node).Time) ∧ (probe_common a b).2 ≤ (((b[(b.length - 1)]?.getD TubeNode.zero).Node).Time) ∧ ((probe_common a b).2 = (((a[(a.length - 1)]?.getD TubeNode.zero).Node).Time) ∨ (probe_common a b).2 = (((b[(b.length - 1)]?.getD TubeNode.zero).Node).Time)) := by
      rw [m2]; unfold imin; split <;> omega
    unfold skywayref1_Clashes_L1
    by_cases hbig : t ≤ 200000
    · rw [decide_eq_true hbig, cond_true, decide_eq_false (by omega), cond_false]
      unfold bindv
      rw [decide_eq_false (by omega)]
      simp only [cond_false]
      by_cases he : t ≤ (probe_common a b).2
      · rw [decide_eq_false (by omega), cond_false, decide_eq_false (by omega), cond_false, w64_id (by omega)]
        have e1 : ((probe_common a b).2 - t + 1).toNat = ((probe_common a b).2 - (t + 1) + 1).toNat + 1 := by omega
        have e2 : up t ((probe_common a b).2 - t + 1).toNat = t :: up (t + 1) ((probe_common a b).2 - (t + 1) + 1).toNat := by
          rw [e1]
          unfold up
          rw [List.range_succ_eq_map, List.map_cons, List.map_map]
          congr 1
          · simp
          · refine List.map_congr_left fun i _ => ?_
            show t + ((i + 1 : Nat) : Int) = t + 1 + (i : Int)
            omega
        have ih := fun o => clash_from (s := s) ha hb m o (t + 1) (by omega) (by omega) (by omega)
        rw [e2, List.filter_cons]
        show cond (clash a b s t) _ _ = _
        cases hc : clash a b s t
        · rw [cond_false, ih]; simp
        · rw [cond_true, ih]; simp
      · have e1 : ((probe_common a b).2 - t + 1).toNat = 0 := by omega
        rw [e1]
        show _ = some (out ++ [])
        rw [List.append_nil]
        by_cases g1 : t > (((a[(a.length - 1)]?.getD TubeNode.zero).Node).Time)
        · rw [decide_eq_true g1]; rfl
        · rw [decide_eq_false g1, cond_false, decide_eq_true (by omega)]; rfl
    · rw [decide_eq_false hbig, cond_false]
      have e1 : ((probe_common a b).2 - t + 1).toNat = 0 := by omega
      rw [e1]
      show _ = some (out ++ [])
      rw [List.append_nil]

theorem clashes_eq {a b : List TubeNode} {s : Sep} (ha : TubeOk a) (hb : TubeOk b) : skywayref1_Clashes a b s = (up (probe_common a b).1 ((probe_common a b).2 - (probe_common a b).1 + 1).toNat).filter (clash a b s) := by
  have mx := max_in ha hb
  have ta := times_in ha
  have tb := times_in hb
  have kc := common_in ha hb rfl
  have m1 : (probe_common a b).1 = imax (((a[0]?.getD TubeNode.zero).Node).Time) (((b[0]?.getD TubeNode.zero).Node).Time) := rfl
  have pk := imax_pick (((a[0]?.getD TubeNode.zero).Node).Time) (((b[0]?.getD TubeNode.zero).Node).Time)
  have key : skywayref1_Clashes_L1 a b s 200002 [] 0 = some ([] ++ (up (probe_common a b).1 ((probe_common a b).2 - (probe_common a b).1 + 1).toNat).filter (clash a b s)) := by
    by_cases h0 : (probe_common a b).1 = 0
    · rw [h0]; exact clash_from ha hb 200002 [] 0 (by omega) (by decide) (by decide)
    · rw [← clash_from (s := s) ha hb 200002 [] (probe_common a b).1 (Int.le_refl _) (by omega) (by omega)]
      show skywayref1_Clashes_L1 a b s (200001 + 1) [] 0 = skywayref1_Clashes_L1 a b s (200001 + 1) [] (probe_common a b).1
      rw [m1]
      conv => lhs; unfold skywayref1_Clashes_L1
      conv => rhs; unfold skywayref1_Clashes_L1
      rw [m1] at h0 kc
      rw [decide_eq_true (show (0 : Int) ≤ 200000 by decide), cond_true, decide_eq_true (show imax (((a[0]?.getD TubeNode.zero).Node).Time) (((b[0]?.getD TubeNode.zero).Node).Time) ≤ 200000 by omega), cond_true,
        decide_eq_false (show ¬ imax (((a[0]?.getD TubeNode.zero).Node).Time) (((b[0]?.getD TubeNode.zero).Node).Time) < (((a[0]?.getD TubeNode.zero).Node).Time) by omega), cond_false]
      unfold bindv
      rw [decide_eq_false (show ¬ imax (((a[0]?.getD TubeNode.zero).Node).Time) (((b[0]?.getD TubeNode.zero).Node).Time) < (((b[0]?.getD TubeNode.zero).Node).Time) by omega)]
      by_cases g1 : (0 : Int) < (((a[0]?.getD TubeNode.zero).Node).Time)
      · rw [decide_eq_true g1, cond_true]; simp only [cond_false]
      · rw [decide_eq_false g1, cond_false, decide_eq_true (show (0 : Int) < (((b[0]?.getD TubeNode.zero).Node).Time) by omega)]; simp only [cond_true, cond_false]
  unfold skywayref1_Clashes bindv
  rw [key]; rfl

theorem law_L2 (x : Span) : ∀ (m k : Nat) (o : List Int), skywaylaw1_ProbePairs_L2 x m k o = o ++ (List.range m).map (fun i => x.From + ((k + i : Nat) : Int))
  | 0, k, o => by simp [skywaylaw1_ProbePairs_L2]
  | m + 1, k, o => by
    unfold skywaylaw1_ProbePairs_L2
    rw [law_L2 x m (k + 1), List.append_assoc, List.range_succ_eq_map, List.map_cons, List.map_map]
    congr 1
    show [_] ++ _ = _ :: _
    rw [List.singleton_append]
    congr 1
    refine List.map_congr_left fun i _ => ?_
    show x.From + ((k + 1 + i : Nat) : Int) = x.From + ((k + (i + 1) : Nat) : Int)
    omega
theorem law_L32 (x : Span) : ∀ (m k : Nat) (o : List Int), skywaylaw1_ProbePairs_L3 x m k o = skywaylaw1_ProbePairs_L2 x m k o
  | 0, _, _ => rfl
  | m + 1, k, o => by
    unfold skywaylaw1_ProbePairs_L3 skywaylaw1_ProbePairs_L2
    exact law_L32 x m (k + 1) _
theorem law_span (x : Span) (o : List Int) : skywaylaw1_ProbePairs_L2 x ((x.To - x.From).toNat) 0 o = o ++ spanS x := by
  rw [law_L2]
  unfold spanS up
  simp

theorem law_L1 {r2 : List Span × Int} (hp : ∀ x ∈ r2.1, x.From < x.To) (ha : r2.1.Pairwise (fun x y => x.To < y.From)) : ∀ (l : List Span) (k : Nat) (o : List Int), r2.1.drop k = l → skywaylaw1_ProbePairs_L1 r2 l k o = .inl (o ++ secs l)
  | [], k, o, _ => by show Sum.inl o = _; simp [secs]
  | x :: l, k, o, hl => by
    have hx : r2.1[k]? = some x := by
      have : (r2.1.drop k)[0]? = some x := by rw [hl]; rfl
      rwa [List.getElem?_drop, Nat.add_zero] at this
    have hl2 : r2.1.drop (k + 1) = l := by rw [← List.drop_drop, hl]; rfl
    have ih := fun o' => law_L1 hp ha l (k + 1) o' hl2
    have h1 := hp x (List.mem_of_getElem? hx)
    have es : secs (x :: l) = spanS x ++ secs l := rfl
    unfold skywaylaw1_ProbePairs_L1
    rw [decide_eq_false (by omega), cond_false, es]
    unfold bindv
    simp only [law_L32, law_span, ih]
    by_cases hk : (k : Int) > 0
    · rw [decide_eq_true hk, cond_true]
      have hkl : k < r2.1.length := (List.getElem?_eq_some_iff.1 hx).1
      have hprev : (r2.1[k - 1]?.getD Span.zero).To < x.From := by
        rw [List.getElem?_eq_getElem (by omega)]
        have := List.pairwise_iff_getElem.1 ha (k - 1) k (by omega) hkl (by omega)
        rw [(List.getElem?_eq_some_iff.1 hx).2] at this
        exact this
      rw [decide_eq_false (by omega), cond_false, List.append_assoc]
    · rw [decide_eq_false hk, cond_false, List.append_assoc]

theorem law_L4 {w : List Int} : ∀ (l : List Int) (k : Nat), w.drop k = l → skywaylaw1_ProbePairs_L4 w l k = .inl ()
  | [], _, _ => rfl
  | x :: l, k, hl => by
    have hx : w[k]? = some x := by
      have : (w.drop k)[0]? = some x := by rw [hl]; rfl
      rwa [List.getElem?_drop, Nat.add_zero] at this
    have hl2 : w.drop (k + 1) = l := by rw [← List.drop_drop, hl]; rfl
    unfold skywaylaw1_ProbePairs_L4
    rw [hx]
    simp only [Option.getD_some, bne_self_eq_false, cond_false]
    exact law_L4 l (k + 1) hl2

theorem check_ok {a b : List TubeNode} {s : Sep} (h1 : probe_CheckSep s = 0) (h2 : tube_Check a = 0) (h3 : tube_Check b = 0) : probe_check s [a, b] = 0 := by
  unfold probe_check
  simp [probe_check_L1, h1, h2, h3]
theorem pair_err {a b : List TubeNode} {s : Sep} (h : ¬ (probe_CheckSep s = 0 ∧ tube_Check a = 0 ∧ tube_Check b = 0)) : ((((probe_Pair a b s).2 != 0) && (((probe_Pair a b s).1.length : Int) == 0)) : Bool) = true := by
  have hne : probe_check s [a, b] ≠ 0 := fun h0 => h (check_two rfl (by simp [h0]))
  have e : (probe_check s [a, b] != 0) = true := by simpa using hne
  unfold probe_Pair
  simp only [e, cond_true]
  rfl

theorem probeWorks_true : skywaylaw1_probeWorks = true := by kernel_rfl

theorem ProbePairs_true (x0 x1 : List TubeNode) (x2 : Sep) (_s0 : x0.length < 4611686018427387904) (_k0 : ∀ a ∈ x0, a.ok) (_s1 : x1.length < 4611686018427387904) (_k1 : ∀ a ∈ x1, a.ok) (_k2 : x2.ok) : skywaylaw1_ProbePairs x0 x1 x2 = true := by
  unfold skywaylaw1_ProbePairs
  simp only [probeWorks_true, Bool.not_true, cond_false]
  by_cases h1 : probe_CheckSep x2 = 0
  · rw [show (probe_CheckSep x2 != 0) = false by simp [h1], cond_false]
    by_cases h2 : tube_Check x0 = 0
    · rw [show (tube_Check x0 != 0) = false by simp [h2], cond_false]
      by_cases h3 : tube_Check x1 = 0
      · rw [show (tube_Check x1 != 0) = false by simp [h3], cond_false]
        have ha := tube_ok h2
        have hb := tube_ok h3
        have hc := check_ok h1 h2 h3
        have kc := common_in ha hb rfl
        have ta := times_in ha
        have tb := times_in hb
        have pk := imax_ge (((x0[0]?.getD TubeNode.zero).Node).Time) (((x1[0]?.getD TubeNode.zero).Node).Time)
        have m1 : (probe_common x0 x1).1 = imax (((x0[0]?.getD TubeNode.zero).Node).Time) (((x1[0]?.getD TubeNode.zero).Node).Time) := rfl
        have m2 : (probe_common x0 x1).2 = imin (((x0[(x0.length - 1)]?.getD TubeNode.zero).Node).Time) (((x1[(x1.length - 1)]?.getD TubeNode.zero).Node).Time) := rfl
        have mn : (probe_common x0 x1).2 ≤ (((x0[(x0.length - 1)]?.getD TubeNode.zero).Node).Time) ∧ (probe_common x0 x1).2 ≤ (((x1[(x1.length - 1)]?.getD TubeNode.zero).Node).Time) := by
          rw [m2]; unfold imin; split <;> omega
        have hat : ∀ t : Int, (probe_common x0 x1).1 ≤ t → t ≤ (probe_common x0 x1).2 → probe_separated (tube_At x0 t).1 (tube_At x1 t).1 x2 = !clash x0 x1 x2 t := by
          intro t t1 t2
          have i0 : TimeIn x0 t := ⟨by show ((x0[0]?.getD TubeNode.zero).Node).Time ≤ t; omega, by show t ≤ ((x0[x0.length - 1]?.getD TubeNode.zero).Node).Time; omega⟩
          have i1 : TimeIn x1 t := ⟨by show ((x1[0]?.getD TubeNode.zero).Node).Time ≤ t; omega, by show t ≤ ((x1[x1.length - 1]?.getD TubeNode.zero).Node).Time; omega⟩
          obtain ⟨_, _, n0, _, e0⟩ := tube_At_in (tube_At_ok h2 i0)
          obtain ⟨_, _, n1, _, e1⟩ := tube_At_in (tube_At_ok h3 i1)
          rw [sep_eq n0 n1 h1, e0, e1]
          unfold clash
          rw [ref_eq ha i0, ref_eq hb i1, Bool.not_not]
        have inv0 : SpInv x0 x1 x2 (probe_common x0 x1).1 0 [] := ⟨by simp, .nil, rfl⟩
        obtain ⟨n, hn⟩ : ∃ n, n = ((probe_common x0 x1).2 - (probe_common x0 x1).1 + 1).toNat := ⟨_, rfl⟩
        have hpair : probe_Pair x0 x1 x2 = (probe_spans_L1 x0 x1 x2 (probe_common x0 x1) n 0 [], 0) := by
          unfold probe_Pair
          rw [hc, hn]; rfl
        have inv : SpInv x0 x1 x2 (probe_common x0 x1).1 n (probe_spans_L1 x0 x1 x2 (probe_common x0 x1) n 0 []) := by
          by_cases hle : (probe_common x0 x1).1 ≤ (probe_common x0 x1).2 + 1
          · have := spans_inv kc.1 hat n 0 [] (by omega) kc.2.2 inv0
            rwa [Nat.zero_add] at this
          · have : n = 0 := by omega
            rw [this]; exact inv0
        rw [hpair]
        have hl1 := law_L1 (r2 := (probe_spans_L1 x0 x1 x2 (probe_common x0 x1) n 0 [], 0)) (fun x hx => (inv.pos x hx).1) inv.apart _ 0 [] List.drop_zero
        rw [hl1, List.nil_append, inv.eq, clashes_eq ha hb, ← hn]
        cases decide (w64 ((((x0[(x0.length - 1)]?.getD TubeNode.zero).Node).Time) - (((x0[0]?.getD TubeNode.zero).Node).Time)) > 4000)
        · simp only [cond_false, Sum.elim_inl]
          rw [law_L4 _ 0 List.drop_zero]
          simp
        · rfl
      · rw [show (tube_Check x1 != 0) = true by simpa using h3, cond_true]
        exact pair_err fun h => h3 h.2.2
    · rw [show (tube_Check x0 != 0) = true by simpa using h2, cond_true]
      exact pair_err fun h => h2 h.2.1
  · rw [show (probe_CheckSep x2 != 0) = true by simpa using h1, cond_true]
    exact pair_err fun h => h1 h.1
end Go.Sky
