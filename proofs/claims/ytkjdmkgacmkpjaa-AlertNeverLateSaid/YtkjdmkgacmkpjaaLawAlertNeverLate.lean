/- The law AlertNeverLate in plain Lean. Conditions: the arguments are 64-bit integers. -/
import Derived.Test.YtkjdmkgacmkpjaaNever
import Derived.Test.YtkjdmkgacmkpjaaAlert
import Derived.Test.YtkjdmkgacmkpjaaWi
namespace Go.Sky
open Go Go.Eng Go.Glue

theorem scanv_hit {ok hit : Nat → Bool} {K : Nat} (hok : ∀ j, j < K → ok j = true) : ∀ (m k : Nat), m + k ≤ K →
    ((scanv ok hit m k).2 = 0 ∨ (scanv ok hit m k).2 = 8) ∧ ∀ j, k ≤ j → j < m + k → hit j = true → (scanv ok hit m k).2 = 0 ∧ (scanv ok hit m k).1 ≤ (j : Int)
  | 0, k, _ => ⟨.inr rfl, fun j h1 h2 _ => by omega⟩
  | m + 1, k, hK => by
    unfold scanv
    rw [if_pos (hok k (by omega))]
    by_cases h1 : hit k = true
    · rw [if_pos h1]; exact ⟨.inl rfl, fun j h2 _ _ => ⟨rfl, by dsimp only; omega⟩⟩
    · rw [if_neg h1]
      obtain ⟨g1, g2⟩ := scanv_hit hok m (k + 1) (by omega)
      refine ⟨g1, fun j h2 h3 h4 => ?_⟩
      by_cases e : j = k
      · subst e; exact absurd h4 h1
      · exact g2 j (by omega) (by omega) h4

theorem near_ball {x1 y1 x2 y2 u1 v1 u2 v2 R S L : Int} (h1 : Ball (u1 - x1) (v1 - y1) R) (h2 : Ball (u2 - x2) (v2 - y2) S) (hL : 0 ≤ L) (h : (x1 - x2) * (x1 - x2) + (y1 - y2) * (y1 - y2) < L * L) :
    (u1 - u2) * (u1 - u2) + (v1 - v2) * (v1 - v2) < (L + (R + S)) * (L + (R + S)) := by
  have b := h1.add h2.neg
  rw [show u1 - x1 + -(u2 - x2) = (u1 - u2) - (x1 - x2) by omega, show v1 - y1 + -(v2 - y2) = (v1 - v2) - (y1 - y2) by omega] at b
  have t := triangle_lt hL b.1 h b.2
  rw [show x1 - x2 + (u1 - u2 - (x1 - x2)) = u1 - u2 by omega, show y1 - y2 + (v1 - v2 - (y1 - y2)) = v1 - v2 by omega] at t
  exact t

/-- One second: what First looks at. -/
theorem first_at {x v y u : Nat → P} {a far : Int} (h : Run x v a 60) (h' : Run y u a 60) (ha : a ≤ 5) {g g' : FilterTrack} {e : Nat} (hg : Good g e far) (hk : Knows g (x e) (v e)) (hg' : Good g' e far) (hk' : Knows g' (y e) (u e)) {lat ver : Int} (hlat : 0 ≤ lat ∧ lat ≤ 10000) (hver : 1 ≤ ver ∧ ver ≤ 2000) {k : Nat} (hek : e + k ≤ 60) :
    okF g g' a k = true ∧ (((x (e + k)).X - (y (e + k)).X) * ((x (e + k)).X - (y (e + k)).X) + ((x (e + k)).Y - (y (e + k)).Y) * ((x (e + k)).Y - (y (e + k)).Y) < lat * lat → hitF alert_First_1 g g' a 0 ⟨lat, ver⟩ k = true) := by
  obtain ⟨r, r1, r2, r3, r4⟩ := good_later h ha hg hk hek
  obtain ⟨s, s1, s2, s3, s4⟩ := good_later h' ha hg' hk' hek
  have hm : imax g.Track.Time g'.Track.Time = (e : Int) := by rw [hg.time, hg'.time]; unfold imax; split <;> rfl
  have wt : w64 (imax g.Track.Time g'.Track.Time + (k : Int)) = (e : Int) + (k : Int) := by rw [hm]; exact w64_id (by omega)
  refine ⟨?_, fun hn => ?_⟩
  · unfold okF at_
    rw [wt, r1, s1]; rfl
  · unfold hitF at_
    rw [wt, r1, s1, r4, s4, Int.zero_mul]
    have hr := r2.1.2.2.2.2
    have hs := s2.1.2.2.2.2
    have b := near_ball r3.1 s3.1 hlat.1 hn
    have e1 := (square_eq r2.1.2.1 s2.1.2.1).1
    have m := sq_bound (x := lat + (r.Track.Radius + s.Track.Radius)) (n := 8010000) (by omega)
    unfold alert_First_1
    dsimp only
    rw [w64_id (x := r.Track.Radius + s.Track.Radius) (by omega), w64_id (x := lat + (r.Track.Radius + s.Track.Radius)) (by omega), w64_id (x := (lat + (r.Track.Radius + s.Track.Radius)) * (lat + (r.Track.Radius + s.Track.Radius))) (by omega), e1, decide_eq_true b, cond_true, show w64 (200 + w64 0) = 200 by decide, w64_id (x := ver + 200) (by omega), show imax (w64 (5000 - 5000)) (w64 (5000 - 5000)) = 0 by decide]
    exact decide_eq_true (by omega)

theorem never_L1 {lat : Int} (hlat : 0 ≤ lat ∧ lat ≤ 10000) {l m : List P} {x y : Nat → P} {r12 : FilterTrack × Int × Bool} {e : Nat} (he : r12.2.1 = (e : Int)) (r14 : Int × Int) (hl : ∀ k : Nat, k ≤ 60 → l[k]?.getD P.zero = x k) (hm : ∀ k : Nat, k ≤ 60 → m[k]?.getD P.zero = y k)
    (hx : ∀ k, k ≤ 60 → (x k).In) (hy : ∀ k, k ≤ 60 → (y k).In) (hc : r14.2 = 0 ∨ r14.2 = 8)
    (hit : ∀ k, e + k ≤ 60 → k < 41 → ((x (e + k)).X - (y (e + k)).X) * ((x (e + k)).X - (y (e + k)).X) + ((x (e + k)).Y - (y (e + k)).Y) * ((x (e + k)).Y - (y (e + k)).Y) < lat * lat → r14.2 = 0 ∧ r14.1 ≤ (k : Int)) :
    ∀ (n k : Nat), e + k + n ≤ 61 → k + n ≤ 41 → Sum.elim (fun _ => (r14.2 == 0) || (r14.2 == 8)) (fun r => r) (skywaykeep2_AlertNeverLate_L1 lat l m r12 r14 n k) = true
  | 0, k, _, _ => by
    show ((r14.2 == 0) || (r14.2 == 8)) = true
    rcases hc with h | h <;> rw [h] <;> rfl
  | n + 1, k, h1, h2 => by
    unfold skywaykeep2_AlertNeverLate_L1
    rw [he, w64_id (x := (e : Int) + (k : Int)) (by omega), show ((e : Int) + (k : Int)).toNat = e + k by omega, hl (e + k) (by omega), hm (e + k) (by omega)]
    have mm := sq_bound (x := lat) (n := 10000) (by omega)
    rw [square_mid (hx (e + k) (by omega)) (hy (e + k) (by omega)), w64_id (x := lat * lat) (by omega)]
    dsimp only
    by_cases hh : ((x (e + k)).X - (y (e + k)).X) * ((x (e + k)).X - (y (e + k)).X) + ((x (e + k)).Y - (y (e + k)).Y) * ((x (e + k)).Y - (y (e + k)).Y) < lat * lat
    · rw [decide_eq_true hh, cond_true]
      obtain ⟨q1, q2⟩ := hit k (by omega) (by omega) hh
      show ((r14.2 == 0) && (decide (r14.1 ≤ (k : Int)))) = true
      rw [q1, decide_eq_true q2]; rfl
    · rw [decide_eq_false hh, cond_false]
      exact never_L1 hlat he r14 hl hm hx hy hc hit n (k + 1) (by omega) (by omega)

theorem course_in {x v : Nat → P} {a : Int} (h : Run x v a 60) (k : Nat) (hk : k ≤ 60) : (x k).In := by
  have := h.pos k hk
  exact ⟨by omega, by omega, by omega, by omega⟩

theorem AlertNeverLate_true (x0 x1 x2 x3 : P) (x4 x5 : List Int) (x6 x7 x8 : Int) (x9 : Sep) (_k0 : x0.ok) (_k1 : x1.ok) (_k2 : x2.ok) (_k3 : x3.ok) (_s4 : x4.length < 4611686018427387904) (_k4 : ∀ a ∈ x4, I64 a) (_s5 : x5.length < 4611686018427387904) (_k5 : ∀ a ∈ x5, I64 a) (_k6 : I64 x6) (_k7 : I64 x7) (_k8 : I64 x8) (_k9 : x9.ok) :
    skywaykeep2_AlertNeverLate x0 x1 x2 x3 x4 x5 x6 x7 x8 x9 = true := by
  unfold skywaykeep2_AlertNeverLate
  have n1 : alert_First FilterTrack.zero FilterTrack.zero (⟨10, 1000⟩ : Sep) 1 0 0 = (0, 0) := by decide
  have n2 : (alert_First FilterTrack.zero (⟨⟨0, 0, 0, ⟨100000, 0⟩, ⟨0, 0⟩, 0, 0, 0, 0, 0, 0⟩, 0, ⟨0, ⟨0, 0⟩, 0, 0, 0⟩⟩ : FilterTrack) (⟨10, 1000⟩ : Sep) 1 0 0).2 = 8 := by decide
  have z0 : ((0 : Int) != 0) = false := rfl
  have z8 : ((8 : Int) != 8) = false := rfl
  simp only [n1, n2, z0, z8, Bool.or_false, cond_false]
  obtain ⟨a, ha⟩ : ∃ a, skywaykeep2_within x6 0 3 = a := ⟨_, rfl⟩
  obtain ⟨ev, hev⟩ : ∃ a, skywaykeep2_within x7 1 6 = a := ⟨_, rfl⟩
  obtain ⟨far, hfar⟩ : ∃ a, skywaykeep2_within x8 0 100 = a := ⟨_, rfl⟩
  obtain ⟨lat, hlat⟩ : ∃ a, skywaykeep2_within x9.Lateral 0 10000 = a := ⟨_, rfl⟩
  obtain ⟨ver, hver⟩ : ∃ a, skywaykeep2_within x9.Vertical 1 2000 = a := ⟨_, rfl⟩
  have ba := within_in ha (by omega) (by omega) (by omega)
  have bev := within_in hev (by omega) (by omega) (by omega)
  have bfar := within_in hfar (by omega) (by omega) (by omega)
  have blat := within_in hlat (by omega) (by omega) (by omega)
  have bver := within_in hver (by omega) (by omega) (by omega)
  rw [ha, hev, hfar, hlat, hver]
  obtain ⟨q, hq⟩ : ∃ q : P, q = ⟨w64 (x0.X + skywaykeep2_within x2.X (-9000) 9000), w64 (x0.Y + skywaykeep2_within x2.Y (-9000) 9000)⟩ := ⟨_, rfl⟩
  rw [← hq]
  obtain ⟨l, hl⟩ : ∃ l, skywaykeep2_course x0 x1 x4 a 60 = l := ⟨_, rfl⟩
  obtain ⟨m, hm⟩ : ∃ l, skywaykeep2_course q x3 x5 a 60 = l := ⟨_, rfl⟩
  rw [hl, hm]
  have hlen := course_len hl
  have mlen := course_len hm
  obtain ⟨p0, v0, hp0, hv0, hpv⟩ := course_pv x0 x1 x4 a 60
  obtain ⟨q0, u0, hq0, hu0, hqu⟩ := course_pv q x3 x5 a 60
  rw [hl] at hpv
  rw [hm] at hqu
  have hrun := pv_run (pushes := x4) ⟨ba.1, by omega⟩ hp0 hv0
  have hrun' := pv_run (pushes := x5) ⟨ba.1, by omega⟩ hq0 hu0
  have hx : ∀ k : Nat, k ≤ 60 → l[k]?.getD P.zero = (fun k => (pv x4 a p0 v0 k).1) k := fun k hk => hpv k (by omega)
  have hy : ∀ k : Nat, k ≤ 60 → m[k]?.getD P.zero = (fun k => (pv x5 a q0 u0 k).1) k := fun k hk => hqu k (by omega)
  obtain ⟨g, e, hf, he, hg, hk⟩ := follow_good (place := 128) (speed := 128) (far := far) (every := ev) hrun (by omega) (by omega) (by omega) (by omega) (by omega) (on_take hx (n := 13) (by omega)) (by rw [List.length_take]; omega) (by rw [List.length_take]; omega) []
  obtain ⟨g', e', hf', he', hg', hk'⟩ := follow_good (place := 128) (speed := 128) (far := far) (every := ev) hrun' (by omega) (by omega) (by omega) (by omega) (by omega) (on_take hy (n := 13) (by omega)) (by rw [List.length_take]; omega) (by rw [List.length_take]; omega) []
  have ee : e = e' := by
    have h1 := follow_end (by rw [List.length_take]; omega) hf
    have h2 := follow_end (by rw [List.length_take]; omega) hf'
    rw [List.length_take] at h1 h2
    rw [hlen] at h1
    rw [mlen] at h2
    omega
  subst ee
  rw [List.length_take] at he
  simp only [hf, hf', Bool.not_true, Bool.or_false, cond_false]
  have hfirst : alert_First g g' ⟨lat, ver⟩ 40 a 0 = scanv (okF g g' a) (hitF alert_First_1 g g' a 0 ⟨lat, ver⟩) 41 0 := by
    rw [First_eq]
    unfold searchv
    rw [if_pos (check_iff.2 hg.inn), if_pos (check_iff.2 hg'.inn), if_pos ⟨by dsimp only; omega, by dsimp only; omega, by omega, by omega, by omega⟩]
    rfl
  rw [hfirst]
  have sc := scanv_hit (ok := okF g g' a) (hit := hitF alert_First_1 g g' a 0 ⟨lat, ver⟩) (K := 41) (fun j hj => (first_at (lat := lat) (ver := ver) hrun hrun' (by omega) hg hk hg' hk' (by omega) (by omega) (by omega)).1) 41 0 (by omega)
  exact never_L1 blat rfl _ hx hy (course_in hrun) (course_in hrun') sc.1 (fun k h1 h2 h3 => sc.2 k (by omega) (by omega) ((first_at hrun hrun' (by omega) hg hk hg' hk' (by omega) (by omega) h1).2 h3)) 41 0 (by omega) (by omega)
end Go.Sky
