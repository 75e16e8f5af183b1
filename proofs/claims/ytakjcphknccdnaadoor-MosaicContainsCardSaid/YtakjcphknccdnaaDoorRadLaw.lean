/- The places of plots in exact numbers; the two laws of radars. Conditions: in each theorem. -/
import Derived.Test.YtakjcphknccdnaaDoorWr
import Derived.Test.YtakjcphknccdnaaDoorRad
namespace Go.Sky
open Go Go.Eng

theorem rout {n a b : Int} : radar_out n a b = false → a ≤ n ∧ n ≤ b := by
  unfold radar_out
  intro h
  simp only [Bool.or_eq_false_iff, decide_eq_false_iff_not] at h
  omega
theorem rin {n a b : Int} (h : a ≤ n ∧ n ≤ b) : radar_out n a b = false := by
  unfold radar_out
  simp only [Bool.or_eq_false_iff, decide_eq_false_iff_not]
  omega
def PIn (p : P) : Prop := -1000000 ≤ p.X ∧ p.X ≤ 1000000 ∧ -1000000 ≤ p.Y ∧ p.Y ≤ 1000000
theorem pcheck {p : P} (h : plane_Check p = 0) : PIn p := by
  unfold plane_Check at h
  unfold PIn
  cases hc : ((((decide (p.X < (-1000000))) || (decide (p.X > 1000000))) || (decide (p.Y < (-1000000)))) || (decide (p.Y > 1000000))) with
  | true => rw [hc] at h; cases h
  | false =>
    simp only [Bool.or_eq_false_iff, decide_eq_false_iff_not] at hc
    omega
structure SiteIn (s : RadarSite) : Prop where
  id : 0 ≤ s.ID ∧ s.ID ≤ 255
  at_ : PIn s.At
  reach : 1 ≤ s.Reach ∧ s.Reach ≤ 1000000
  rerr : 1 ≤ s.RangeError ∧ s.RangeError ≤ 10000
  aerr : 1 ≤ s.AzimuthError ∧ s.AzimuthError ≤ 100
theorem bne_F {a : Int} (h : (a != 0) = false) : a = 0 := by simpa using h
theorem check_in {s : RadarSite} (h : radar_Check s = 0) : SiteIn s := by
  unfold radar_Check at h
  simp only at h
  cases h1 : radar_out s.ID 0 255 <;> rw [h1] at h <;> simp only [cond_true, cond_false] at h
  case true => cases h
  cases h2 : (plane_Check s.At != 0) <;> rw [h2] at h <;> simp only [cond_true, cond_false] at h
  case true => cases h
  cases h3 : radar_out s.Reach 1 1000000 <;> rw [h3] at h <;> simp only [cond_true, cond_false] at h
  case true => cases h
  cases h4 : radar_out s.RangeError 1 10000 <;> rw [h4] at h <;> simp only [cond_true, cond_false] at h
  case true => cases h
  cases h5 : radar_out s.AzimuthError 1 100 <;> rw [h5] at h <;> simp only [cond_true, cond_false] at h
  case true => cases h
  exact ⟨rout h1, pcheck (bne_F h2), rout h3, rout h4, rout h5⟩
structure SpotIn (t : Spot) : Prop where
  time : 0 ≤ t.Time ∧ t.Time ≤ 200000
  at_ : PIn t.At
  height : 0 ≤ t.Height ∧ t.Height ≤ 60000
  code : -1 ≤ t.Code ∧ t.Code ≤ 4095
theorem spot_in {t : Spot} (h : radar_CheckSpot t = 0) : SpotIn t := by
  unfold radar_CheckSpot at h
  simp only at h
  cases h1 : radar_out t.Time 0 200000 <;> rw [h1] at h <;> simp only [cond_true, cond_false] at h
  case true => cases h
  cases h2 : (plane_Check t.At != 0) <;> rw [h2] at h <;> simp only [cond_true, cond_false] at h
  case true => cases h
  cases h3 : radar_out t.Height 0 60000 <;> rw [h3] at h <;> simp only [cond_true, cond_false] at h
  case true => cases h
  cases h4 : radar_out t.Code (-1) 4095 <;> rw [h4] at h <;> simp only [cond_true, cond_false] at h
  case true => cases h
  exact ⟨rout h1, pcheck (bne_F h2), rout h3, rout h4⟩

/-! Squares and roots. -/
theorem sq_bd {x n : Int} (h : -n ≤ x ∧ x ≤ n) : 0 ≤ x * x ∧ x * x ≤ n * n := ⟨nn_sq x, sq_in h.1 h.2⟩
theorem psquare {p q : P} (hp : PIn p) (hq : PIn q) : plane_Square p q = (p.X - q.X) * (p.X - q.X) + (p.Y - q.Y) * (p.Y - q.Y) ∧ (p.X - q.X) * (p.X - q.X) + (p.Y - q.Y) * (p.Y - q.Y) ≤ 8000000000000 := by
  unfold PIn at hp hq
  have a := sq_bd (x := p.X - q.X) (n := 2000000) (by omega)
  have b := sq_bd (x := p.Y - q.Y) (n := 2000000) (by omega)
  unfold plane_Square plane_Sub plane_Dot
  simp only
  rw [w64_id (x := p.X - q.X) (by omega), w64_id (x := p.Y - q.Y) (by omega), w64_id (x := (p.X - q.X) * (p.X - q.X)) (by omega), w64_id (x := (p.Y - q.Y) * (p.Y - q.Y)) (by omega), w64_id (by omega)]
  exact ⟨rfl, by omega⟩
theorem ksquare {p q : P} (hp : PIn p) (hq : PIn q) : skywaykeep2_square p q = (p.X - q.X) * (p.X - q.X) + (p.Y - q.Y) * (p.Y - q.Y) := by
  unfold PIn at hp hq
  have a := sq_bd (x := p.X - q.X) (n := 2000000) (by omega)
  have b := sq_bd (x := p.Y - q.Y) (n := 2000000) (by omega)
  unfold skywaykeep2_square
  rw [w64_id (x := p.X - q.X) (by omega), w64_id (x := p.Y - q.Y) (by omega), w64_id (x := (p.X - q.X) * (p.X - q.X)) (by omega), w64_id (x := (p.Y - q.Y) * (p.Y - q.Y)) (by omega), w64_id (by omega)]
theorem root_lp (n : Int) (hn : n ≤ 8000000000000) : ∀ (j : Nat) (a b : Int), (0 ≤ a ∧ a ≤ b ∧ b ≤ 3037000499 ∧ b - a < 2 ^ j) → a * a ≤ n → n < (b + 1) * (b + 1) → ∃ R, num_Root_L1 n (j + 1) a b = some R ∧ 0 ≤ R ∧ R * R ≤ n ∧ n < (R + 1) * (R + 1)
  | 0, a, b, h, h5, h6 => by
    have e : (2 : Int) ^ 0 = 1 := rfl
    have hab : a = b := by omega
    exact ⟨a, by rw [num_Root_L1, decide_eq_false (by omega)]; rfl, h.1, h5, by rw [hab]; exact h6⟩
  | j + 1, a, b, h, h5, h6 => by
    have e : (2 : Int) ^ (j + 1) = 2 * 2 ^ j := by rw [Int.pow_succ]; omega
    by_cases hk : a < b
    · have w1 : w64 (w64 (b - a) + 1) = b - a + 1 := by rw [w64_id (x := b - a) (by omega), w64_id (by omega)]
      have d1 : (b - a + 1).tdiv 2 = (b - a + 1) / 2 := Int.tdiv_eq_ediv_of_nonneg (by omega)
      have w2 : w64 ((w64 (w64 (b - a) + 1)).tdiv 2) = (b - a + 1) / 2 := by rw [w1, d1, w64_id (by omega)]
      have w3 : w64 (a + w64 ((w64 (w64 (b - a) + 1)).tdiv 2)) = a + (b - a + 1) / 2 := by rw [w2, w64_id (by omega)]
      have m1 := sq_bd (x := a + (b - a + 1) / 2) (n := 3037000499) (by omega)
      rw [num_Root_L1, decide_eq_true hk]
      simp only [cond_true, w3]
      rw [w64_id (x := (a + (b - a + 1) / 2) * (a + (b - a + 1) / 2)) (by omega)]
      by_cases hc : (a + (b - a + 1) / 2) * (a + (b - a + 1) / 2) ≤ n
      · rw [decide_eq_true hc, cond_true]
        exact root_lp n hn j _ b (by omega) hc h6
      · rw [decide_eq_false hc, cond_false, w64_id (by omega)]
        exact root_lp n hn j a _ (by omega) h5 (by rw [show a + (b - a + 1) / 2 - 1 + 1 = a + (b - a + 1) / 2 by omega]; omega)
    · have hab : a = b := by omega
      exact ⟨a, by rw [num_Root_L1, decide_eq_false hk]; rfl, h.1, h5, by rw [hab]; exact h6⟩
theorem root_is {n : Int} (h : 0 ≤ n ∧ n ≤ 8000000000000) : 0 ≤ num_Root n ∧ num_Root n * num_Root n ≤ n ∧ n < (num_Root n + 1) * (num_Root n + 1) := by
  by_cases h0 : n ≤ 0
  · have e : num_Root n = 0 := by unfold num_Root; rw [decide_eq_true h0]; rfl
    rw [e]; omega
  · obtain ⟨R, h1, h2⟩ := root_lp n h.2 33 0 3037000499 (by decide) (by omega) (by omega)
    have e : num_Root n = R := by unfold num_Root bindv; rw [decide_eq_false h0, cond_false, h1]; rfl
    rw [e]; exact h2
theorem dist_fst (p q : P) : (plane_Distance p q).1 = num_Root (plane_Square p q) := by
  unfold plane_Distance
  simp only
  cases decide (w64 (num_Root (plane_Square p q) * num_Root (plane_Square p q)) < plane_Square p q) <;> rfl

/-! The bound of the error, the vector of a plot. -/
theorem err_is {s : RadarSite} {far : Int} (hs : SiteIn s) (hf : 0 ≤ far ∧ far ≤ 2000000) (h : radar_Check s = 0) : (radar_Error s far).1 = s.RangeError + -(-(far * s.AzimuthError) / 651) + -(-far / 23170) + 2 ∧ 0 ≤ far * s.AzimuthError := by
  have hm : 0 ≤ far * s.AzimuthError ∧ far * s.AzimuthError ≤ 200000000 := by
    have a := hs.aerr
    exact ⟨Int.mul_nonneg hf.1 (by omega), Int.le_trans (Int.mul_le_mul hf.2 a.2 (by omega) (by decide)) (by decide)⟩
  have r := hs.rerr
  refine ⟨?_, hm.1⟩
  unfold radar_Error
  simp only
  rw [h, rin (show (0 : Int) ≤ far ∧ far ≤ 2000000 from hf)]
  simp only [bne_self_eq_false, cond_false]
  rw [w64_id (x := far * s.AzimuthError) (by omega), divUp_eq (by decide) (by omega), divUp_eq (by decide) (by omega)]
  simp only
  rw [w64_id (x := s.RangeError + -(-(far * s.AzimuthError) / 651)) (by omega), w64_id (x := s.RangeError + -(-(far * s.AzimuthError) / 651) + -(-far / 23170)) (by omega), w64_id (by omega)]
theorem near_bd (n : Int) : -8192 ≤ n - 16384 * nearF n ∧ n - 16384 * nearF n ≤ 8192 := by unfold nearF; split <;> omega
theorem vec_is {g : Nat} {p : Int} (hp : 0 ≤ p ∧ p ≤ 2000000) : angle_Vector g p = (⟨nearF (p * sn g), nearF (p * cs g)⟩, 0) := by
  have a := mul_in (sn_in g) (b := p) (by omega)
  have b := mul_in (cs_in g) (b := p) (by omega)
  unfold angle_Vector
  simp only
  rw [sin_nat, cos_nat, decide_eq_false (show ¬ p < 0 by omega), decide_eq_false (show ¬ p > 2000000 by omega)]
  simp only [Bool.or_self, cond_false]
  rw [w64_id (by rw [Int.mul_comm]; omega), w64_id (by rw [Int.mul_comm]; omega)]
theorem vec_in2 {g : Nat} {p : Int} (hp : 0 ≤ p ∧ p ≤ 2000000) : (-2000002 ≤ nearF (p * sn g) ∧ nearF (p * sn g) ≤ 2000002) ∧ (-2000002 ≤ nearF (p * cs g) ∧ nearF (p * cs g) ≤ 2000002) := by
  have a := mul_in (sn_in g) (b := p) (by omega)
  have b := mul_in (cs_in g) (b := p) (by omega)
  rw [Int.mul_comm] at a b
  have c := near_bd (p * sn g)
  have d := near_bd (p * cs g)
  omega
/-- What Spot hands back where it finds no fault. -/
theorem spot_ok {s : RadarSite} {p : Plot} (h : (radar_Spot s p).2 = 0) : SiteIn s ∧ (0 ≤ p.Range ∧ p.Range ≤ 2000000) ∧ (0 ≤ p.Azimuth ∧ p.Azimuth ≤ 4095) ∧ ∃ vx vy : Int, vx = nearF (p.Range * sn p.Azimuth.toNat) ∧ vy = nearF (p.Range * cs p.Azimuth.toNat) ∧
    (radar_Spot s p).1.At = ⟨s.At.X + vx, s.At.Y + vy⟩ ∧ PIn (radar_Spot s p).1.At ∧ (radar_Spot s p).1.Error = s.RangeError + -(-(p.Range * s.AzimuthError) / 651) + -(-p.Range / 23170) + 2 ∧ (radar_Spot s p).1.Error ≤ 1000000 ∧
    (radar_Spot s p).1.Time = p.Time ∧ (radar_Spot s p).1.Height = p.Height ∧ (radar_Spot s p).1.Code = p.Code := by
  unfold radar_Spot at h ⊢
  simp only at h ⊢
  cases h1 : (radar_Check s != 0) <;> rw [h1] at h <;> simp only [cond_true, cond_false] at h ⊢
  case true => rw [h] at h1; cases h1
  cases h2 : (radar_CheckPlot p != 0) <;> rw [h2] at h <;> simp only [cond_true, cond_false] at h ⊢
  case true => rw [h] at h2; cases h2
  cases h3 : (p.Radar != s.ID) <;> rw [h3] at h <;> simp only [cond_true, cond_false] at h ⊢
  case true => cases h
  have hs := check_in (bne_F h1)
  have hp : (0 ≤ p.Range ∧ p.Range ≤ 2000000) ∧ (0 ≤ p.Azimuth ∧ p.Azimuth ≤ 4095) := by
    have q := bne_F h2
    unfold radar_CheckPlot at q
    simp only at q
    cases g1 : radar_out p.Radar 0 255 <;> rw [g1] at q <;> simp only [cond_true, cond_false] at q
    case true => cases q
    cases g2 : radar_out p.Time 0 200000 <;> rw [g2] at q <;> simp only [cond_true, cond_false] at q
    case true => cases q
    cases g3 : radar_out p.Range 0 2000000 <;> rw [g3] at q <;> simp only [cond_true, cond_false] at q
    case true => cases q
    cases g4 : radar_out p.Azimuth 0 4095 <;> rw [g4] at q <;> simp only [cond_true, cond_false] at q
    case true => cases q
    exact ⟨rout g3, rout g4⟩
  have hz : (p.Azimuth.toNat : Int) = p.Azimuth := Int.toNat_of_nonneg hp.2.1
  have hv := vec_is (g := p.Azimuth.toNat) hp.1
  rw [hz] at hv
  rw [hv] at h ⊢
  have hb := vec_in2 (g := p.Azimuth.toNat) hp.1
  have ha := hs.at_
  have he := (err_is hs hp.1 (bne_F h1)).1
  unfold PIn at ha
  simp only at h ⊢
  have hadd : plane_Add s.At ⟨nearF (p.Range * sn p.Azimuth.toNat), nearF (p.Range * cs p.Azimuth.toNat)⟩ = ⟨s.At.X + nearF (p.Range * sn p.Azimuth.toNat), s.At.Y + nearF (p.Range * cs p.Azimuth.toNat)⟩ := by
    unfold plane_Add
    simp only
    rw [w64_id (by omega), w64_id (by omega)]
  rw [hadd] at h ⊢
  cases h4 : ((plane_Check ⟨s.At.X + nearF (p.Range * sn p.Azimuth.toNat), s.At.Y + nearF (p.Range * cs p.Azimuth.toNat)⟩ != 0) || (decide ((radar_Error s p.Range).1 > 1000000))) <;> rw [h4] at h <;> simp only [cond_true, cond_false] at h ⊢
  case true => cases h
  rw [Bool.or_eq_false_iff] at h4
  have h5 := of_decide_eq_false h4.2
  exact ⟨hs, hp.1, hp.2, _, _, rfl, rfl, rfl, pcheck (bne_F h4.1), he, by omega, by first | trivial | simp⟩
/-- What Plot hands back where it finds no fault. -/
theorem plot_ok {s : RadarSite} {t : Spot} (h : (radar_Plot s t).2 = 0) : radar_Check s = 0 ∧ SiteIn s ∧ SpotIn t ∧ plane_Within s.At t.At s.Reach = true ∧
    (radar_Plot s t).1 = ⟨s.ID, t.Time, num_Root (plane_Square s.At t.At), if s.At = t.At then 0 else (ofF (plane_Sub t.At s.At)).1, t.Height, t.Code⟩ := by
  unfold radar_Plot at h ⊢
  simp only at h ⊢
  cases h1 : (radar_Check s != 0) <;> rw [h1] at h <;> simp only [cond_true, cond_false] at h ⊢
  case true => rw [h] at h1; cases h1
  cases h2 : (radar_CheckSpot t != 0) <;> rw [h2] at h <;> simp only [cond_true, cond_false] at h ⊢
  case true => rw [h] at h2; cases h2
  cases h3 : plane_Within s.At t.At s.Reach <;> rw [h3] at h <;> simp only [Bool.not_false, Bool.not_true, cond_true, cond_false] at h ⊢
  · cases h
  refine ⟨bne_F h1, check_in (bne_F h1), spot_in (bne_F h2), by first | rfl | trivial, ?_⟩
  rw [dist_fst, P.eqb_eq]
  by_cases he : s.At = t.At
  · rw [decide_eq_true he, if_pos he]; rfl
  · rw [decide_eq_false he, if_neg he]; rfl
/-- A fault of Plot comes without a plot. -/
theorem plot_bad {s : RadarSite} {t : Spot} (h : (radar_Plot s t).2 ≠ 0) : (radar_Plot s t).1 = Plot.zero := by
  unfold radar_Plot at h ⊢
  simp only at h ⊢
  cases h1 : (radar_Check s != 0) <;> rw [h1] at h <;> simp only [cond_true, cond_false] at h ⊢
  case true => rfl
  cases h2 : (radar_CheckSpot t != 0) <;> rw [h2] at h <;> simp only [cond_true, cond_false] at h ⊢
  case true => rfl
  cases h3 : plane_Within s.At t.At s.Reach <;> rw [h3] at h <;> simp only [Bool.not_false, Bool.not_true, cond_true, cond_false] at h ⊢
  · rfl
  · exfalso
    cases h4 : (!(P.eqb s.At t.At)) <;> rw [h4] at h <;> simp at h

/-- The nearest direction that Of finds. -/
theorem of_near {v : P} (hv : OfIn v) (h0 : ¬ (v.X = 0 ∧ v.Y = 0)) : (0 ≤ (ofF v).1 ∧ (ofF v).1 < 4096) ∧ NearD (ofF v).1.toNat v.X v.Y := by
  obtain ⟨h1, h2⟩ := secN_ok h0
  obtain ⟨n1, n2⟩ := near_of_sec h1 h2
  unfold OfIn at hv
  unfold ofF
  rw [if_neg (by omega), if_neg h0]
  simp only
  by_cases c : cs (secN v.X v.Y) * v.X - sn (secN v.X v.Y) * v.Y ≤ v.Y * sn (secN v.X v.Y + 1) - v.X * cs (secN v.X v.Y + 1)
  · rw [if_pos c, Int.toNat_natCast]
    exact ⟨by omega, n1 c⟩
  · rw [if_neg c, Int.toNat_natCast]
    have n := n2 c
    refine ⟨by omega, ?_⟩
    unfold NearD at n ⊢
    rw [sn_round, cs_round]; exact n
theorem sn_up (k : Nat) : sn (k + 4096) = sn k := by unfold sn; rw [Nat.add_mod_right]
theorem cs_up (k : Nat) : cs (k + 4096) = cs k := by unfold cs; rw [show (k + 4096 + 1024) % 4096 = (k + 1024) % 4096 by omega]

/-- A plot of an aircraft, with its errors, has its place near to the aircraft. -/
theorem plot_place {s : RadarSite} {t : Spot} {p : Plot} {u : Int} (hs : (radar_Plot s t).2 = 0) (hne : s.At ≠ t.At) (hr : p.Range - (radar_Plot s t).1.Range ≤ s.RangeError - 1 ∧ (radar_Plot s t).1.Range - p.Range ≤ s.RangeError - 1)
    (hu : 1 - s.AzimuthError ≤ u ∧ u ≤ s.AzimuthError - 1) (ha : p.Azimuth = ((radar_Plot s t).1.Azimuth + u + 4096) % 4096) (hx : (radar_Spot s p).2 = 0) :
    skywaykeep2_square (radar_Spot s p).1.At t.At ≤ (radar_Spot s p).1.Error * (radar_Spot s p).1.Error := by
  obtain ⟨_, hS, hT, hw, hp⟩ := plot_ok hs
  rw [hp] at hr ha
  simp only [if_neg hne] at hr ha
  obtain ⟨_, h1, h2, vx, vy, e1, e2, e3, e4, e5, e6, _⟩ := spot_ok hx
  rw [ksquare e4 hT.at_, e3]
  simp only
  have q := psquare hS.at_ hT.at_
  have a1 := hS.at_
  have a2 := hT.at_
  unfold PIn at a1 a2
  have hX : plane_Sub t.At s.At = ⟨t.At.X - s.At.X, t.At.Y - s.At.Y⟩ := by unfold plane_Sub; rw [w64_id (by omega), w64_id (by omega)]
  have h0 : ¬ (t.At.X - s.At.X = 0 ∧ t.At.Y - s.At.Y = 0) := by
    rintro ⟨z1, z2⟩
    refine hne ?_
    have b1 : s.At.X = t.At.X := by omega
    have b2 : s.At.Y = t.At.Y := by omega
    rcases hsA : s.At with ⟨sx, sy⟩
    rcases htA : t.At with ⟨tx, ty⟩
    rw [hsA, htA] at b1 b2
    simp only at b1 b2
    rw [b1, b2]
  obtain ⟨o1, o2⟩ := of_near (v := ⟨t.At.X - s.At.X, t.At.Y - s.At.Y⟩) (by unfold OfIn; simp only; omega) h0
  rw [hX] at ha
  simp only at o2
  generalize (ofF ⟨t.At.X - s.At.X, t.At.Y - s.At.Y⟩).1 = H at o1 o2 ha
  rw [q.1] at hr
  have sqs : (s.At.X - t.At.X) * (s.At.X - t.At.X) + (s.At.Y - t.At.Y) * (s.At.Y - t.At.Y) = (t.At.X - s.At.X) * (t.At.X - s.At.X) + (t.At.Y - s.At.Y) * (t.At.Y - s.At.Y) := by grind
  have n0 := nn_sq (s.At.X - t.At.X)
  have n1 := nn_sq (s.At.Y - t.At.Y)
  obtain ⟨r0, r1, r2⟩ := root_is (n := (s.At.X - t.At.X) * (s.At.X - t.At.X) + (s.At.Y - t.At.Y) * (s.At.Y - t.At.Y)) ⟨by omega, q.2⟩
  generalize num_Root ((s.At.X - t.At.X) * (s.At.X - t.At.X) + (s.At.Y - t.At.Y) * (s.At.Y - t.At.Y)) = r at r0 r1 r2 hr
  rw [sqs] at r1 r2
  have neg : (s.At.X + vx - t.At.X) * (s.At.X + vx - t.At.X) + (s.At.Y + vy - t.At.Y) * (s.At.Y + vy - t.At.Y) = (t.At.X - s.At.X - vx) * (t.At.X - s.At.X - vx) + (t.At.Y - s.At.Y - vy) * (t.At.Y - s.At.Y - vy) := by grind
  rw [neg]
  have b1 := near_bd (p.Range * sn p.Azimuth.toNat)
  have b2 := near_bd (p.Range * cs p.Azimuth.toNat)
  rw [← e1] at b1
  rw [← e2] at b2
  have aerr := hS.aerr
  have hm := Int.mul_nonneg h1.1 (show (0 : Int) ≤ s.AzimuthError by omega)
  have he : 651 * (s.RangeError + 2) + p.Range * s.AzimuthError ≤ 651 * (radar_Spot s p).1.Error := by
    rw [e5]
    generalize p.Range * s.AzimuthError = m at *
    omega
  by_cases hu0 : 0 ≤ u
  · refine place_near (h := H.toNat) (g := H.toNat + u.toNat) (j := u.toNat) (r := r) (p := p.Range) (A := s.AzimuthError) (R := s.RangeError) o2 r0 r1 r2 h1.1 hr.1 hr.2 (.inl rfl) (by omega) aerr.2 ?_ ?_ he
    · rw [← sn_round (H.toNat + u.toNat), show (H.toNat + u.toNat) % 4096 = p.Azimuth.toNat by omega]; exact b1
    · rw [← cs_round (H.toNat + u.toNat), show (H.toNat + u.toNat) % 4096 = p.Azimuth.toNat by omega]; exact b2
  · have o3 : NearD (H.toNat + 4096) (t.At.X - s.At.X) (t.At.Y - s.At.Y) := by unfold NearD at o2 ⊢; rw [sn_up, cs_up]; exact o2
    refine place_near (h := H.toNat + 4096) (g := (H + 4096 + u).toNat) (j := (-u).toNat) (r := r) (p := p.Range) (A := s.AzimuthError) (R := s.RangeError) o3 r0 r1 r2 h1.1 hr.1 hr.2 (.inr (by omega)) (by omega) aerr.2 ?_ ?_ he
    · rw [← sn_round (H + 4096 + u).toNat, show (H + 4096 + u).toNat % 4096 = p.Azimuth.toNat by omega]; exact b1
    · rw [← cs_round (H + 4096 + u).toNat, show (H + 4096 + u).toNat % 4096 = p.Azimuth.toNat by omega]; exact b2

/-! The two laws. -/
theorem within_zero {p q : P} {d : Int} (hp : PIn p) (hq : PIn q) (hd : 1 ≤ d ∧ d ≤ 1000000) (h : plane_Within p q d = true) : (p.X - q.X) * (p.X - q.X) + (p.Y - q.Y) * (p.Y - q.Y) ≤ d * d := by
  have s := sq_bd (x := d) (n := 1000000) (by omega)
  unfold plane_Within at h
  simp only at h
  rw [(psquare hp hq).1, w64_id (x := d * d) (by omega)] at h
  cases h1 : ((decide (d ≥ 0)) && (decide (d ≤ 8000000))) with
  | false => rw [h1] at h; simp at h
  | true =>
    rw [h1] at h
    simpa using h
theorem plot_range {s : RadarSite} {t : Spot} (h : (radar_Plot s t).2 = 0) : 0 ≤ (radar_Plot s t).1.Range ∧ (radar_Plot s t).1.Range ≤ 1000000 := by
  obtain ⟨_, hS, hT, hw, hp⟩ := plot_ok h
  rw [hp]
  simp only
  have q := psquare hS.at_ hT.at_
  have b := within_zero hS.at_ hT.at_ hS.reach hw
  have n0 := nn_sq (s.At.X - t.At.X)
  have n1 := nn_sq (s.At.Y - t.At.Y)
  rw [q.1]
  obtain ⟨r0, r1, _⟩ := root_is (n := (s.At.X - t.At.X) * (s.At.X - t.At.X) + (s.At.Y - t.At.Y) * (s.At.Y - t.At.Y)) ⟨by omega, q.2⟩
  have := (in_sq (y := s.Reach) (by have := hS.reach; omega) (Int.le_trans r1 b)).2
  have := hS.reach
  omega
theorem plot_azimuth {s : RadarSite} {t : Spot} (h : (radar_Plot s t).2 = 0) : 0 ≤ (radar_Plot s t).1.Azimuth ∧ (radar_Plot s t).1.Azimuth ≤ 4095 := by
  obtain ⟨_, hS, hT, hw, hp⟩ := plot_ok h
  rw [hp]
  simp only
  by_cases he : s.At = t.At
  · rw [if_pos he]; decide
  rw [if_neg he]
  have a1 := hS.at_
  have a2 := hT.at_
  unfold PIn at a1 a2
  have hX : plane_Sub t.At s.At = ⟨t.At.X - s.At.X, t.At.Y - s.At.Y⟩ := by unfold plane_Sub; rw [w64_id (by omega), w64_id (by omega)]
  by_cases h0 : t.At.X - s.At.X = 0 ∧ t.At.Y - s.At.Y = 0
  · rw [hX]
    have z := of_zero (v := ⟨t.At.X - s.At.X, t.At.Y - s.At.Y⟩) (by unfold OfIn; simp only; omega) h0
    rw [← z.1]; decide
  · have := (of_near (v := ⟨t.At.X - s.At.X, t.At.Y - s.At.Y⟩) (by unfold OfIn; simp only; omega) h0).1
    rw [hX]; omega
/-- The plot of an aircraft is a valid one of its radar. -/
theorem plot_check {s : RadarSite} {t : Spot} (h : (radar_Plot s t).2 = 0) : radar_CheckPlot (radar_Plot s t).1 = 0 ∧ (radar_Plot s t).1.Radar = s.ID := by
  have a := plot_range h
  have b := plot_azimuth h
  obtain ⟨_, hS, hT, hw, hp⟩ := plot_ok h
  have e1 : (radar_Plot s t).1.Radar = s.ID := by rw [hp]
  have e2 : (radar_Plot s t).1.Time = t.Time := by rw [hp]
  have e3 : (radar_Plot s t).1.Height = t.Height := by rw [hp]
  have e4 : (radar_Plot s t).1.Code = t.Code := by rw [hp]
  refine ⟨?_, e1⟩
  unfold radar_CheckPlot
  simp only
  rw [e1, e2, e3, e4, rin (show (0 : Int) ≤ s.ID ∧ s.ID ≤ 255 from hS.id), rin (show (0 : Int) ≤ t.Time ∧ t.Time ≤ 200000 from hT.time), rin (show (0 : Int) ≤ (radar_Plot s t).1.Range ∧ (radar_Plot s t).1.Range ≤ 2000000 by omega), rin (show (0 : Int) ≤ (radar_Plot s t).1.Azimuth ∧ (radar_Plot s t).1.Azimuth ≤ 4095 by omega), rin (show (0 : Int) ≤ t.Height ∧ t.Height ≤ 60000 from hT.height), rin (show (-1 : Int) ≤ t.Code ∧ t.Code ≤ 4095 from hT.code)]
  rfl
theorem spot_err {s : RadarSite} {p : Plot} (h1 : radar_Check s = 0) (h2 : radar_CheckPlot p = 0) (h3 : p.Radar = s.ID) : (radar_Spot s p).2 = 0 ∨ (radar_Spot s p).2 = 8 := by
  unfold radar_Spot
  simp only
  rw [h1, h2, h3]
  simp only [bne_self_eq_false, cond_false]
  cases ((plane_Check (plane_Add s.At (angle_Vector p.Azimuth p.Range).fst) != 0) || (decide ((radar_Error s p.Range).1 > 1000000)))
  · exact .inl rfl
  · exact .inr rfl
/-- The place of a plot over the radar itself. -/
theorem own_place {s : RadarSite} {t : Spot} (hs : (radar_Plot s t).2 = 0) (he : s.At = t.At) (hx : (radar_Spot s (radar_Plot s t).1).2 = 0) : skywaykeep2_square (radar_Spot s (radar_Plot s t).1).1.At t.At ≤ (radar_Spot s (radar_Plot s t).1).1.Error * (radar_Spot s (radar_Plot s t).1).1.Error := by
  obtain ⟨_, hS, hT, hw, hp⟩ := plot_ok hs
  obtain ⟨_, h1, h2, vx, vy, e1, e2, e3, e4, e5, e6, _⟩ := spot_ok hx
  have hr : (radar_Plot s t).1.Range = 0 := by
    rw [hp]
    simp only
    rw [(psquare hS.at_ hT.at_).1, he]
    have z : (t.At.X - t.At.X) * (t.At.X - t.At.X) + (t.At.Y - t.At.Y) * (t.At.Y - t.At.Y) = 0 := by rw [Int.sub_self, Int.sub_self]; rfl
    rw [z]; rfl
  rw [hr, Int.zero_mul] at e1 e2
  have v0 : nearF 0 = 0 := rfl
  rw [v0] at e1 e2
  rw [ksquare e4 hT.at_, e3, he, e1, e2]
  simp only [Int.add_zero, Int.sub_self]
  exact nn_sq _
theorem err_fit {e : Int} (h0 : 0 ≤ e) (h : e ≤ 1000000) : w64 (e * e) = e * e := by
  have := sq_bd (x := e) (n := 1000000) (by omega)
  exact w64_id (by omega)
theorem err_nn {s : RadarSite} {p : Plot} (hx : (radar_Spot s p).2 = 0) : 0 ≤ (radar_Spot s p).1.Error ∧ (radar_Spot s p).1.Error ≤ 1000000 := by
  obtain ⟨hS, h1, _, _, _, _, _, _, _, e5, e6, _⟩ := spot_ok hx
  have a := hS.aerr
  have b := hS.rerr
  have m := Int.mul_nonneg h1.1 (show (0 : Int) ≤ s.AzimuthError by omega)
  exact ⟨by rw [e5]; omega, e6⟩
end Go.Sky
