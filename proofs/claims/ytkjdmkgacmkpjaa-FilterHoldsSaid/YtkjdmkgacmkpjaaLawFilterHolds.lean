/- The law FilterHolds in plain Lean. Conditions: the arguments are 64-bit integers. -/
import Derived.Test.YtkjdmkgacmkpjaaFollow
namespace Go.Sky
open Go Go.Eng Go.Glue

theorem contains_knows {f : FilterTrack} (hf : f.In) {p : P} (hp : p.In) (h : Ball (f.Track.At.X - p.X) (f.Track.At.Y - p.Y) f.Track.Radius) : filter_Contains f p = (true, 0) := by
  have hr := hf.1.2.2.2.2
  unfold filter_Contains
  have c1 : (filter_Check f != 0) = false := by simp [check_iff.2 hf]
  have c2 : (plane_Check p != 0) = false := by simp [checkP_iff.2 hp]
  simp only [c1, c2, cond_false]
  rw [within_iff hf.1.2.1 hp (by omega)]
  refine Prod.ext ?_ rfl
  show decide _ = true
  rw [decide_eq_true_eq]
  exact ⟨by omega, h.2⟩

theorem square_small {p q : P} (hp : (-100000 ≤ p.X ∧ p.X ≤ 100000) ∧ -100000 ≤ p.Y ∧ p.Y ≤ 100000) (hq : (-100000 ≤ q.X ∧ q.X ≤ 100000) ∧ -100000 ≤ q.Y ∧ q.Y ≤ 100000) : skywaykeep2_square p q = (p.X - q.X) * (p.X - q.X) + (p.Y - q.Y) * (p.Y - q.Y) := by
  have b1 := sq_bound (x := p.X - q.X) (n := 200000) (by omega)
  have b2 := sq_bound (x := p.Y - q.Y) (n := 200000) (by omega)
  unfold skywaykeep2_square
  rw [w64_id (x := p.X - q.X) (by omega), w64_id (x := p.Y - q.Y) (by omega), w64_id (x := (p.X - q.X) * (p.X - q.X)) (by omega), w64_id (x := (p.Y - q.Y) * (p.Y - q.Y)) (by omega), w64_id (by omega)]

theorem begins_true2 : skywaykeep2_begins = true := by decide

theorem holds_L1 {x v : Nat → P} {a far : Int} (h : Run x v a 60) (ha : a ≤ 5) {l : List P} (hl : ∀ k : Nat, k ≤ 60 → l[k]?.getD P.zero = x k) {g : FilterTrack} {e : Nat} (hg : Good g e far) (hk : Knows g (x e) (v e)) (b : Bool) :
    ∀ (m k : Nat), e + k + m = 60 → skywaykeep2_FilterHolds_L1 a l (g, (e : Int), b) m k = .inl ()
  | 0, k, _ => rfl
  | m + 1, k, hm => by
    unfold skywaykeep2_FilterHolds_L1
    have ha0 := h.acc
    obtain ⟨r, hr, hin, hkn⟩ : ∃ r : FilterTrack, filter_Predict g ((e : Int) + (k : Int)) a = (r, 0) ∧ r.In ∧ Knows r (x (e + k)) (v (e + k)) := by
      by_cases hk0 : k = 0
      · subst hk0
        refine ⟨g, ?_, hg.inn, hk⟩
        rw [show (e : Int) + ((0 : Nat) : Int) = g.Track.Time by rw [hg.time]; omega]
        exact predict_same hg.inn ⟨ha0.1, by omega⟩
      · obtain ⟨p1, p2, p3, p4, _⟩ := pred_in h ha hg hk (d := k) (by omega) (by omega) (by omega) (by omega)
        refine ⟨_, ?_, p3, p4⟩
        rw [show (e : Int) + (k : Int) = ((e + k : Nat) : Int) by omega]
        exact Prod.ext p2 p1
    have st := h.step (e + k) (by omega)
    have pos := h.pos (e + k) (by omega)
    have vel := h.vel (e + k) (by omega)
    have pos1 := h.pos (e + k + 1) (by omega)
    have i0 : l[((e : Int) + (k : Int)).toNat]?.getD P.zero = x (e + k) := by rw [show ((e : Int) + (k : Int)).toNat = e + k by omega]; exact hl _ (by omega)
    have i1 : l[(w64 ((e : Int) + (k : Int) + 1)).toNat]?.getD P.zero = x (e + k + 1) := by rw [w64_id (by omega), show ((e : Int) + (k : Int) + 1).toNat = e + k + 1 by omega]; exact hl _ (by omega)
    have hc := contains_knows hin (p := x (e + k)) ⟨by omega, by omega, by omega, by omega⟩ hkn.1
    have z0 : ((0 : Int) != 0) = false := rfl
    simp only [hr, z0, cond_false, i0, i1, hc, Bool.not_true, Bool.or_false]
    have hs := hin.2
    have hsl := hs.2.2.2.1
    have b2 := sq_bound (x := r.Slack) (n := 409600) (by omega)
    have hsq : skywaykeep2_square r.Track.Speed ⟨w64 (16 * w64 ((x (e + k + 1)).X - (x (e + k)).X)), w64 (16 * w64 ((x (e + k + 1)).Y - (x (e + k)).Y))⟩ = (r.Track.Speed.X - 16 * (v (e + k)).X) * (r.Track.Speed.X - 16 * (v (e + k)).X) + (r.Track.Speed.Y - 16 * (v (e + k)).Y) * (r.Track.Speed.Y - 16 * (v (e + k)).Y) := by
      rw [w64_id (x := (x (e + k + 1)).X - (x (e + k)).X) (by omega), w64_id (x := (x (e + k + 1)).Y - (x (e + k)).Y) (by omega), show (x (e + k + 1)).X - (x (e + k)).X = (v (e + k)).X by omega, show (x (e + k + 1)).Y - (x (e + k)).Y = (v (e + k)).Y by omega, w64_id (x := 16 * (v (e + k)).X) (by omega), w64_id (x := 16 * (v (e + k)).Y) (by omega)]
      exact square_small (by omega) (by dsimp only; omega)
    rw [hsq, w64_id (x := r.Slack * r.Slack) (by omega)]
    have hle := hkn.2.2
    rw [decide_eq_false (by omega), cond_false]
    exact holds_L1 h ha hl hg hk b m (k + 1) (by omega)

theorem on_take {l : List P} {x : Nat → P} (hl : ∀ k : Nat, k ≤ 60 → l[k]?.getD P.zero = x k) {n : Nat} (hn : n ≤ 61) : On (l.take n) x := by
  intro k hk
  rw [List.length_take] at hk
  rw [List.getElem?_take_of_lt (by omega)]
  exact hl k (by omega)

theorem FilterHolds_true (x0 x1 : P) (x2 x3 : List Int) (x4 x5 x6 x7 x8 : Int) (_k0 : x0.ok) (_k1 : x1.ok) (_s2 : x2.length < 4611686018427387904) (_k2 : ∀ a ∈ x2, I64 a) (_s3 : x3.length < 4611686018427387904) (_k3 : ∀ a ∈ x3, I64 a) (_k4 : I64 x4) (_k5 : I64 x5) (_k6 : I64 x6) (_k7 : I64 x7) (_k8 : I64 x8) :
    skywaykeep2_FilterHolds x0 x1 x2 x3 x4 x5 x6 x7 x8 = true := by
  unfold skywaykeep2_FilterHolds
  simp only [begins_true2, Bool.not_true, cond_false]
  obtain ⟨a, ha⟩ : ∃ a, skywaykeep2_within x4 0 5 = a := ⟨_, rfl⟩
  obtain ⟨pl, hpl⟩ : ∃ a, skywaykeep2_within x5 0 256 = a := ⟨_, rfl⟩
  obtain ⟨sp, hsp⟩ : ∃ a, skywaykeep2_within x6 0 256 = a := ⟨_, rfl⟩
  obtain ⟨ev, hev⟩ : ∃ a, skywaykeep2_within x7 1 10 = a := ⟨_, rfl⟩
  obtain ⟨far, hfar⟩ : ∃ a, skywaykeep2_within x8 0 300 = a := ⟨_, rfl⟩
  have ba := within_in ha (by omega) (by omega) (by omega)
  have bpl := within_in hpl (by omega) (by omega) (by omega)
  have bsp := within_in hsp (by omega) (by omega) (by omega)
  have bev := within_in hev (by omega) (by omega) (by omega)
  have bfar := within_in hfar (by omega) (by omega) (by omega)
  rw [ha, hpl, hsp, hev, hfar]
  obtain ⟨l, hl⟩ : ∃ l, skywaykeep2_course x0 x1 x2 a 60 = l := ⟨_, rfl⟩
  rw [hl]
  have hlen := course_len hl
  obtain ⟨p0, v0, hp0, hv0, hpv⟩ := course_pv x0 x1 x2 a 60
  rw [hl] at hpv
  have hrun := pv_run (pushes := x2) ⟨ba.1, by omega⟩ hp0 hv0
  have hx : ∀ k : Nat, k ≤ 60 → l[k]?.getD P.zero = (fun k => (pv x2 a p0 v0 k).1) k := fun k hk => hpv k (by omega)
  obtain ⟨g, e, hf, he, hg, hk⟩ := follow_good hrun ba.2 bfar bev bpl bsp (on_take hx (n := 41) (by omega)) (by rw [List.length_take]; omega) (by rw [List.length_take]; omega) x3
  rw [List.length_take] at he
  simp only [hf, Bool.not_true, cond_false]
  rw [holds_L1 hrun ba.2 hx hg hk true _ 0 (by omega)]
  rfl
end Go.Sky
