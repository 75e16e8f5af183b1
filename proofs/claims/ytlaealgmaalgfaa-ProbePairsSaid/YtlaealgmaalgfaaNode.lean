/- What At of a tube computes. Conditions: in each theorem. -/
import Derived.Test.YtlaealgmaalgfaaWj
import Derived.Test.YtlaealgmaalgfaaFloor
namespace Go.Sky
open Go Go.Eng Go.Glue

theorem ediv_mix {a b n d lo hi : Int} (ha : lo ≤ a ∧ a ≤ hi) (hb : lo ≤ b ∧ b ≤ hi) (hn : 0 ≤ n ∧ n ≤ d) (hd : 1 ≤ d) : lo ≤ a + (b - a) * n / d ∧ a + (b - a) * n / d ≤ hi := by
  have l1 : (lo - a) * n ≤ (b - a) * n := Int.mul_le_mul_of_nonneg_right (by omega) hn.1
  have l2 : (lo - a) * d ≤ (lo - a) * n := Int.mul_le_mul_of_nonpos_left (by omega) hn.2
  have u1 : (b - a) * n ≤ (hi - a) * n := Int.mul_le_mul_of_nonneg_right (by omega) hn.1
  have u2 : (hi - a) * n ≤ (hi - a) * d := Int.mul_le_mul_of_nonneg_left hn.2 (by omega)
  have lo' : lo - a ≤ (b - a) * n / d := by rw [Int.le_ediv_iff_mul_le (by omega)]; omega
  have hi' : (b - a) * n / d < hi - a + 1 := by
    rw [Int.ediv_lt_iff_lt_mul (by omega)]
    have : (hi - a + 1) * d = (hi - a) * d + d := by rw [Int.add_mul, Int.one_mul]
    omega
  omega
theorem ediv_mixUp {a b n d lo hi : Int} (ha : lo ≤ a ∧ a ≤ hi) (hb : lo ≤ b ∧ b ≤ hi) (hn : 0 ≤ n ∧ n ≤ d) (hd : 1 ≤ d) : lo ≤ a + -(-((b - a) * n) / d) ∧ a + -(-((b - a) * n) / d) ≤ hi := by
  have h := ediv_mix (a := -a) (b := -b) (lo := -hi) (hi := -lo) (by omega) (by omega) hn hd
  have e : (-b - -a) * n = -((b - a) * n) := by rw [← Int.neg_mul]; congr 1; omega
  rw [e] at h
  omega

/-- The node at a time between those of two nodes. -/
def between (a b : TubeNode) (t : Int) : TubeNode :=
  ⟨⟨t, ⟨a.Node.At.X + (b.Node.At.X - a.Node.At.X) * (t - a.Node.Time) / (b.Node.Time - a.Node.Time), a.Node.At.Y + (b.Node.At.Y - a.Node.At.Y) * (t - a.Node.Time) / (b.Node.Time - a.Node.Time)⟩,
    a.Node.Height + (b.Node.Height - a.Node.Height) * (t - a.Node.Time) / (b.Node.Time - a.Node.Time)⟩,
    a.Radius + -(-((b.Radius - a.Radius) * (t - a.Node.Time)) / (b.Node.Time - a.Node.Time)), a.Band + -(-((b.Band - a.Band) * (t - a.Node.Time)) / (b.Node.Time - a.Node.Time))⟩
theorem between_in {a b : TubeNode} {t : Int} (ha : a.In) (hb : b.In) (h : a.Node.Time < t ∧ t < b.Node.Time) : (between a b t).In := by
  obtain ⟨a1, ⟨a2, a3, a4, a5⟩, a6, a7, a8⟩ := ha
  obtain ⟨b1, ⟨b2, b3, b4, b5⟩, b6, b7, b8⟩ := hb
  have hn : 0 ≤ t - a.Node.Time ∧ t - a.Node.Time ≤ b.Node.Time - a.Node.Time := by omega
  have x := ediv_mix (lo := -1000000) (hi := 1000000) ⟨a2, a3⟩ ⟨b2, b3⟩ hn (by omega)
  have y := ediv_mix (lo := -1000000) (hi := 1000000) ⟨a4, a5⟩ ⟨b4, b5⟩ hn (by omega)
  refine ⟨by show 0 ≤ t ∧ t ≤ 200000; omega, ⟨x.1, x.2, y.1, y.2⟩, ediv_mix a6 b6 hn (by omega), ediv_mixUp a7 b7 hn (by omega), ediv_mixUp a8 b8 hn (by omega)⟩

theorem Toward_eq {a b : P} {n d : Int} (ha : a.In) (hb : b.In) (hn : 0 ≤ n ∧ n ≤ d) (hd : 1 ≤ d ∧ d ≤ 200000) : plane_Toward a b n d = (⟨a.X + (b.X - a.X) * n / d, a.Y + (b.Y - a.Y) * n / d⟩, 0) := by
  have hx : ((-1000000 ≤ a.X ∧ a.X ≤ 1000000) ∧ (-1000000 ≤ b.X ∧ b.X ≤ 1000000)) ∧ (0 ≤ n ∧ n ≤ d) ∧ 1 ≤ d ∧ d ≤ 200000 := ⟨⟨⟨ha.1, ha.2.1⟩, hb.1, hb.2.1⟩, hn, hd⟩
  have hy : ((-1000000 ≤ a.Y ∧ a.Y ≤ 1000000) ∧ (-1000000 ≤ b.Y ∧ b.Y ≤ 1000000)) ∧ (0 ≤ n ∧ n ≤ d) ∧ 1 ≤ d ∧ d ≤ 200000 := ⟨⟨⟨ha.2.2.1, ha.2.2.2⟩, hb.2.2.1, hb.2.2.2⟩, hn, hd⟩
  have mx := mix_mul hx
  have my := mix_mul hy
  unfold plane_Toward
  have d1 : decide (d ≤ 0) = false := by simp; omega
  have d2 : (((decide (d > 200000)) || (decide (n < 0))) || (decide (n > d))) = false := by simp; omega
  have z0 : ((0 : Int) != 0) = false := rfl
  simp only [d1, d2, checkP_iff.2 ha, checkP_iff.2 hb, z0, cond_false]
  rw [w64_id (x := b.X - a.X) (by omega), w64_id (x := (b.X - a.X) * n) (by omega), w64_id (x := b.Y - a.Y) (by omega), w64_id (x := (b.Y - a.Y) * n) (by omega), divDown_eq (by omega) (by omega), divDown_eq (by omega) (by omega)]
  simp only
  rw [w64_id (x := a.X + _) (by omega), w64_id (x := a.Y + _) (by omega)]

theorem tube_at_eq {l : List TubeNode} {t : Int} (h : TubeOk l) (ht : TimeIn l t) :
    ∃ R : Nat, R < l.length ∧ ((nd l R).Node.Time = t ∧ tube_at l t = nd l R ∨ 1 ≤ R ∧ (nd l (R - 1)).Node.Time < t ∧ t < (nd l R).Node.Time ∧ tube_at l t = between (nd l (R - 1)) (nd l R) t) := by
  obtain ⟨R, g1, g2, g3⟩ := bs_eq h ht
  refine ⟨R, g1, ?_⟩
  unfold tube_at
  rw [g2]
  by_cases e : (nd l R).Node.Time = t
  · simp only [e, decide_true, cond_true]
    exact .inl ⟨trivial, by rw [show ((R : Int)).toNat = R by omega]⟩
  · obtain ⟨r1, r2, r3⟩ := g3.resolve_left e
    have hlen := h.1
    have ia := h.2.1 (R - 1) (by omega)
    have ib := h.2.1 R g1
    have e1 : (w64 ((R : Int) - 1)).toNat = R - 1 := by rw [w64_id (by omega)]; omega
    have e2 : ((R : Int)).toNat = R := by omega
    simp only [decide_eq_false e, cond_false, e1, e2]
    refine .inr ⟨r1, r2, r3, ?_⟩
    change (⟨⟨t, (plane_Toward (nd l (R - 1)).Node.At (nd l R).Node.At (w64 (t - (nd l (R - 1)).Node.Time)) (w64 ((nd l R).Node.Time - (nd l (R - 1)).Node.Time))).1,
      w64 ((nd l (R - 1)).Node.Height + (num_DivDown (w64 (w64 ((nd l R).Node.Height - (nd l (R - 1)).Node.Height) * w64 (t - (nd l (R - 1)).Node.Time))) (w64 ((nd l R).Node.Time - (nd l (R - 1)).Node.Time))).1)⟩,
      w64 ((nd l (R - 1)).Radius + (num_DivUp (w64 (w64 ((nd l R).Radius - (nd l (R - 1)).Radius) * w64 (t - (nd l (R - 1)).Node.Time))) (w64 ((nd l R).Node.Time - (nd l (R - 1)).Node.Time))).1),
      w64 ((nd l (R - 1)).Band + (num_DivUp (w64 (w64 ((nd l R).Band - (nd l (R - 1)).Band) * w64 (t - (nd l (R - 1)).Node.Time))) (w64 ((nd l R).Node.Time - (nd l (R - 1)).Node.Time))).1)⟩ : TubeNode) = between (nd l (R - 1)) (nd l R) t
    revert ia ib r2 r3
    generalize nd l (R - 1) = a
    generalize nd l R = b
    intro r2 r3 ia ib
    have bi := between_in ia ib ⟨r2, r3⟩
    obtain ⟨a1, a2, a6, a7, a8⟩ := ia
    obtain ⟨b1, b2, b6, b7, b8⟩ := ib
    rw [w64_id (x := t - a.Node.Time) (by omega), w64_id (x := b.Node.Time - a.Node.Time) (by omega), Toward_eq a2 b2 (by omega) (by omega)]
    have m1 := mix_mul (a := a.Node.Height) (b := b.Node.Height) (n := t - a.Node.Time) (d := b.Node.Time - a.Node.Time) (by omega)
    have m2 := mix_mul (a := a.Radius) (b := b.Radius) (n := t - a.Node.Time) (d := b.Node.Time - a.Node.Time) (by omega)
    have m3 := mix_mul (a := a.Band) (b := b.Band) (n := t - a.Node.Time) (d := b.Node.Time - a.Node.Time) (by omega)
    rw [w64_id (x := b.Node.Height - a.Node.Height) (by omega), w64_id (x := (b.Node.Height - a.Node.Height) * _) (by omega), divDown_eq (by omega) (by omega)]
    rw [w64_id (x := b.Radius - a.Radius) (by omega), w64_id (x := (b.Radius - a.Radius) * _) (by omega), divUp_eq (by omega) (by omega)]
    rw [w64_id (x := b.Band - a.Band) (by omega), w64_id (x := (b.Band - a.Band) * _) (by omega), divUp_eq (by omega) (by omega)]
    simp only
    rw [w64_id (x := a.Node.Height + _) (by omega), w64_id (x := a.Radius + _) (by omega), w64_id (x := a.Band + _) (by omega)]
    rfl
/-- What At hands back. -/
theorem tube_At_in {l : List TubeNode} {t : Int} (h : (tube_At l t).2 = 0) : TubeOk l ∧ TimeIn l t ∧ (tube_At l t).1.In ∧ (tube_At l t).1.Node.Time = t ∧ (tube_At l t).1 = tube_at l t := by
  unfold tube_At at h ⊢
  by_cases h1 : tube_Check l = 0
  · have e1 : (tube_Check l != 0) = false := by simp [h1]
    simp only [e1, cond_false] at h ⊢
    cases h2 : ((decide (t < (tube_ends l).1)) || (decide (t > (tube_ends l).2)))
    · obtain ⟨hk, ht⟩ := ends_in rfl e1 rfl h2
      simp only [cond_false]
      obtain ⟨R, g1, ⟨g2, g3⟩ | ⟨g2, g3, g4, g5⟩⟩ := tube_at_eq hk ht
      · rw [g3]; exact ⟨hk, ht, hk.2.1 R g1, g2, trivial⟩
      · rw [g5]; exact ⟨hk, ht, between_in (hk.2.1 _ (by omega)) (hk.2.1 R g1) ⟨g3, g4⟩, rfl, trivial⟩
    · rw [h2] at h; cases h
  · have e1 : (tube_Check l != 0) = true := by simpa using h1
    simp only [e1, cond_true] at h
    exact absurd h h1
theorem tube_At_ok {l : List TubeNode} {t : Int} (h : tube_Check l = 0) (ht : TimeIn l t) : (tube_At l t).2 = 0 := by
  unfold tube_At
  have e1 : (tube_Check l != 0) = false := by simp [h]
  have e2 : ((decide (t < (tube_ends l).1)) || (decide (t > (tube_ends l).2))) = false := by
    unfold tube_ends
    have h1 : ((l[0]?.getD TubeNode.zero).Node).Time ≤ t := ht.1
    have h2 : t ≤ ((l[(l.length - 1)]?.getD TubeNode.zero).Node).Time := ht.2
    simp
    exact ⟨h1, h2⟩
  simp only [e1, e2, cond_false]
end Go.Sky
