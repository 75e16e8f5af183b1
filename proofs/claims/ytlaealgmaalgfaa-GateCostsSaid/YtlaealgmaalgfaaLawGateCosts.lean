/- The law GateCosts in plain Lean. Conditions: the arguments are 64-bit integers. -/
import Derived.Test.YtlaealgmaalgfaaWb
import Derived.Test.YtlaealgmaalgfaaGeo
namespace Go.Sky
open Go Go.Eng Go.Glue

/-- The cost of a spot for a track. -/
def costOf (t : Track) (band : Int) (s : Spot) : Int := cond (gate_Fits t s band).1 (imin (w64 ((plane_Square t.At s.At).tdiv 10000)) 1073741824) (-1)

theorem set_take (row : List Int) (k : Nat) (v : Int) (h : k < row.length) : (row.set k v).take (k + 1) = row.take k ++ [v] := by
  rw [List.take_add_one, List.getElem?_set_self h, List.take_set_of_le (Nat.le_refl _)]; rfl

theorem costs_L2 (band : Int) (x : Track) : ∀ (l : List Spot) (k : Nat) (row : List Int), row.length = k + l.length →
    (∃ e : Int, e ≠ 0 ∧ gate_Costs_L2 band x l k row = .inr ([], e)) ∨ (gate_Costs_L2 band x l k row = .inl (row.take k ++ l.map (costOf x band)) ∧ ∀ s ∈ l, (gate_Fits x s band).2 = 0)
  | [], k, row, h => by
    refine .inr ⟨?_, by simp⟩
    show Sum.inl row = _
    rw [List.map_nil, List.append_nil, List.take_of_length_le (by simp at h; omega)]
  | s :: l, k, row, h => by
    rw [List.length_cons] at h
    unfold gate_Costs_L2
    by_cases h1 : (gate_Fits x s band).2 = 0
    · have e1 : ((gate_Fits x s band).2 != 0) = false := by simp [h1]
      simp only [e1, cond_false]
      have key : ∀ v : Int, v = costOf x band s → ∀ row' : List Int, row' = row.set k v → (∃ e : Int, e ≠ 0 ∧ gate_Costs_L2 band x l (k + 1) row' = .inr ([], e)) ∨ (gate_Costs_L2 band x l (k + 1) row' = .inl (row.take k ++ (s :: l).map (costOf x band)) ∧ ∀ s' ∈ s :: l, (gate_Fits x s' band).2 = 0) := by
        intro v hv row' hr
        subst hr
        rcases costs_L2 band x l (k + 1) (row.set k v) (by rw [List.length_set]; omega) with g | ⟨g1, g2⟩
        · exact .inl g
        · refine .inr ⟨?_, fun s' hs => ?_⟩
          · rw [g1, set_take row k v (by omega), List.append_assoc, List.map_cons, hv]; rfl
          · rcases List.mem_cons.1 hs with rfl | hs
            · exact h1
            · exact g2 s' hs
      cases hf : (gate_Fits x s band).1
      · exact key (-1) (by unfold costOf; rw [hf]; rfl) _ rfl
      · exact key _ (by unfold costOf; rw [hf, cond_true]) _ (by rw [List.set_set])
    · have e1 : ((gate_Fits x s band).2 != 0) = true := by simpa using h1
      simp only [e1, cond_true]
      exact .inl ⟨_, h1, rfl⟩
theorem costs_L1 (spots : List Spot) (band : Int) : ∀ (l : List Track) (k : Nat) (out : List (List Int)),
    (∃ e : Int, e ≠ 0 ∧ gate_Costs_L1 spots band l k out = .inr ([], e)) ∨ (gate_Costs_L1 spots band l k out = .inl (out ++ l.map (fun t => spots.map (costOf t band))) ∧ ∀ t ∈ l, ∀ s ∈ spots, (gate_Fits t s band).2 = 0)
  | [], k, out => .inr ⟨by show Sum.inl out = _; simp, by simp⟩
  | x :: l, k, out => by
    unfold gate_Costs_L1
    rcases costs_L2 band x spots 0 (List.replicate ((spots.length : Int).toNat) (0:Int)) (by simp) with ⟨e, h1, h2⟩ | ⟨h1, h2⟩
    · rw [h2]; exact .inl ⟨e, h1, rfl⟩
    · rw [h1, List.take_zero, List.nil_append]
      show (∃ e : Int, e ≠ 0 ∧ gate_Costs_L1 spots band l (k + 1) _ = _) ∨ _
      rcases costs_L1 spots band l (k + 1) (out ++ [spots.map (costOf x band)]) with ⟨e, g1, g2⟩ | ⟨g1, g2⟩
      · exact .inl ⟨e, g1, g2⟩
      · refine .inr ⟨?_, fun t ht => ?_⟩
        · show gate_Costs_L1 spots band l (k + 1) (out ++ [spots.map (costOf x band)]) = _
          rw [g1, List.append_assoc]; rfl
        · rcases List.mem_cons.1 ht with rfl | ht
          · exact h2
          · exact g2 t ht
theorem Costs_eq (tracks : List Track) (spots : List Spot) (band : Int) : ((gate_Costs tracks spots band).2 ≠ 0 ∧ (gate_Costs tracks spots band).1 = []) ∨ (gate_Costs tracks spots band = (tracks.map (fun t => spots.map (costOf t band)), 0) ∧ ∀ t ∈ tracks, ∀ s ∈ spots, (gate_Fits t s band).2 = 0) := by
  unfold gate_Costs
  cases ((decide ((tracks.length : Int) > 32)) || (decide ((spots.length : Int) > 32)))
  · rw [cond_false]
    rcases costs_L1 spots band tracks 0 [] with ⟨e, h1, h2⟩ | ⟨h1, h2⟩
    · rw [h2]; exact .inl ⟨h1, rfl⟩
    · rw [h1]; exact .inr ⟨rfl, h2⟩
  · exact .inl ⟨show (2 : Int) ≠ 0 by decide, rfl⟩

/-- What Fits has checked. -/
theorem fits_in {t : Track} {s : Spot} {band : Int} (h : (gate_Fits t s band).2 = 0) : t.At.In ∧ s.At.In := by
  unfold gate_Fits at h
  rcases checkTrack_eq t with ⟨t1, t2⟩ | ⟨t1, t2⟩
  · rcases checkSpot_eq s with ⟨s1, s2⟩ | ⟨s1, s2⟩
    · exact ⟨t2.2.1, s2.2.1⟩
    · have e1 : (gate_CheckTrack t != 0) = false := by simp [t1]
      have e2 : (radar_CheckSpot s != 0) = true := by simp [s1]
      simp only [e1, e2, cond_true, cond_false] at h
      omega
  · have e1 : (gate_CheckTrack t != 0) = true := by simp [t1]
    simp only [e1, cond_true] at h
    omega
theorem law_square {p q : P} (hp : p.In) (hq : q.In) : skywaykeep2_square p q = plane_Square p q := by
  have h := (square_eq hp hq).1
  obtain ⟨p1, p2, p3, p4⟩ := hp
  obtain ⟨q1, q2, q3, q4⟩ := hq
  have b1 := sq_bound (x := p.X - q.X) (n := 2000000) (by omega)
  have b2 := sq_bound (x := p.Y - q.Y) (n := 2000000) (by omega)
  rw [h]
  unfold skywaykeep2_square
  rw [w64_id (x := p.X - q.X) (by omega), w64_id (x := p.Y - q.Y) (by omega), w64_id (x := (p.X - q.X) * (p.X - q.X)) (by omega), w64_id (x := (p.Y - q.Y) * (p.Y - q.Y)) (by omega), w64_id (by omega)]
theorem cost_true {t : Track} {s : Spot} {band : Int} (h : (gate_Fits t s band).2 = 0) (hf : (gate_Fits t s band).1 = true) : costOf t band s = imin (plane_Square t.At s.At / 10000) 1073741824 ∧ 0 ≤ costOf t band s := by
  obtain ⟨a, b⟩ := fits_in h
  have sq := square_eq a b
  have e : costOf t band s = imin (plane_Square t.At s.At / 10000) 1073741824 := by
    unfold costOf
    rw [hf, cond_true, Int.tdiv_eq_ediv_of_nonneg sq.2.1, w64_id (by omega)]
  refine ⟨e, ?_⟩
  rw [e]; unfold imin; split <;> omega
theorem cost_false {t : Track} {s : Spot} {band : Int} (hf : (gate_Fits t s band).1 = false) : costOf t band s = -1 := by unfold costOf; rw [hf]; rfl
theorem cost_ge {t : Track} {s : Spot} {band : Int} (h : (gate_Fits t s band).2 = 0) : decide (costOf t band s ≥ 0) = (gate_Fits t s band).1 ∧ decide (costOf t band s < -1) = false := by
  cases hf : (gate_Fits t s band).1
  · rw [cost_false hf]; exact ⟨rfl, rfl⟩
  · have := (cost_true h hf).2
    exact ⟨decide_eq_true this, decide_eq_false (by omega)⟩
theorem cost_mono {t : Track} {s u : Spot} {band : Int} (h1 : (gate_Fits t s band).2 = 0) (h2 : (gate_Fits t u band).2 = 0) (f1 : (gate_Fits t s band).1 = true) (f2 : (gate_Fits t u band).1 = true) (h : plane_Square t.At s.At ≤ plane_Square t.At u.At) : costOf t band s ≤ costOf t band u := by
  rw [(cost_true h1 f1).1, (cost_true h2 f2).1]
  unfold imin; split <;> split <;> omega
theorem row_at {S : List Spot} {f : Spot → Int} {k : Nat} {s : Spot} (h : S[k]? = some s) : (S.map f)[k]?.getD 0 = f s := by rw [List.getElem?_map, h]; rfl
theorem drop_cons_at {α : Type} {l : List α} {k : Nat} {y : α} {t : List α} (h : l.drop k = y :: t) : l[k]? = some y ∧ l.drop (k + 1) = t := by
  refine ⟨?_, ?_⟩
  · have : (l.drop k)[0]? = some y := by rw [h]; rfl
    rwa [List.getElem?_drop, Nat.add_zero] at this
  · rw [← List.drop_drop, h]; rfl

theorem in_L3 {S : List Spot} {band : Int} {r : List (List Int) × Int} {k : Nat} {x : Track} (hrow : r.1[k]?.getD [] = S.map (costOf x band)) (hok : ∀ s ∈ S, (gate_Fits x s band).2 = 0) {k2 : Nat} {x2 : Spot} (h2 : S[k2]? = some x2) : ∀ (l : List Spot) (k3 : Nat), (S.take k2).drop k3 = l →
    skywaykeep2_GateCosts_L3 r k x k2 x2 (gate_Fits x x2 band) l k3 = .inl ()
  | [], _, _ => rfl
  | y :: l, k3, hl => by
    obtain ⟨hy, hl2⟩ := drop_cons_at hl
    have hy2 : S[k3]? = some y := by
      rw [List.getElem?_take] at hy
      split at hy
      · exact hy
      · cases hy
    have ih := in_L3 hrow hok h2 l (k3 + 1) hl2
    have o1 := hok x2 (List.mem_of_getElem? h2)
    have o2 := hok y (List.mem_of_getElem? hy2)
    unfold skywaykeep2_GateCosts_L3
    rw [hrow, row_at hy2, row_at h2, (cost_ge o2).1]
    cases f1 : (gate_Fits x x2 band).1
    · exact ih
    · cases f2 : (gate_Fits x y band).1
      · exact ih
      · rw [law_square (fits_in o1).1 (fits_in o1).2, law_square (fits_in o2).1 (fits_in o2).2]
        simp only [cond_true]
        by_cases hs : plane_Square x.At x2.At ≤ plane_Square x.At y.At
        · have m := cost_mono o1 o2 f1 f2 hs
          rw [decide_eq_true hs, cond_true, decide_eq_false (by omega), cond_false]
          exact ih
        · rw [decide_eq_false hs, cond_false]; exact ih
theorem in_L2 {spots : List Spot} {band : Int} {r : List (List Int) × Int} {k : Nat} {x : Track} (hrow : r.1[k]?.getD [] = spots.map (costOf x band)) (hok : ∀ s ∈ spots, (gate_Fits x s band).2 = 0) : ∀ (l : List Spot) (k2 : Nat), spots.drop k2 = l →
    skywaykeep2_GateCosts_L2 band spots r k x l k2 = .inl ()
  | [], _, _ => rfl
  | y :: l, k2, hl => by
    obtain ⟨hy, hl2⟩ := drop_cons_at hl
    have o := hok y (List.mem_of_getElem? hy)
    have c := cost_ge o
    have e1 : ((gate_Fits x y band).2 != 0) = false := by simp [o]
    unfold skywaykeep2_GateCosts_L2
    simp only [hrow, row_at hy, e1, cond_false, c.1, c.2, beq_self_eq_true, Bool.not_true]
    rw [in_L3 hrow hok hy (spots.take k2) 0 List.drop_zero]
    exact in_L2 hrow hok l (k2 + 1) hl2
theorem in_L1 {spots : List Spot} {band : Int} {tr : List Track} (hok : ∀ t ∈ tr, ∀ s ∈ spots, (gate_Fits t s band).2 = 0) : ∀ (l : List Track) (k : Nat), tr.drop k = l →
    skywaykeep2_GateCosts_L1 band spots (tr.map (fun t => spots.map (costOf t band)), 0) l k = .inl ()
  | [], _, _ => rfl
  | x :: l, k, hl => by
    obtain ⟨hx, hl2⟩ := drop_cons_at hl
    have hrow : ((tr.map (fun t => spots.map (costOf t band)), (0 : Int)) : List (List Int) × Int).1[k]?.getD [] = spots.map (costOf x band) := by
      show (tr.map _)[k]?.getD [] = _
      rw [List.getElem?_map, hx]; rfl
    unfold skywaykeep2_GateCosts_L1
    rw [hrow, List.length_map, show (((spots.length : Nat) : Int) != ((spots.length : Nat) : Int)) = false by simp, cond_false, in_L2 hrow (hok x (List.mem_of_getElem? hx)) spots 0 List.drop_zero]
    exact in_L1 hok l (k + 1) hl2

theorem GateCosts_true (x0 : List Track) (x1 : List Spot) (x2 : Int) (_s0 : x0.length < 4611686018427387904) (_k0 : ∀ a ∈ x0, a.ok) (_s1 : x1.length < 4611686018427387904) (_k1 : ∀ a ∈ x1, a.ok) (_k2 : I64 x2) : skywaykeep2_GateCosts x0 x1 x2 = true := by
  unfold skywaykeep2_GateCosts bindv
  have ex : gate_Costs ([Track.zero]) ([(⟨0, ⟨300, 0⟩, 0, 0, 300⟩ : Spot)]) 0 = ([[9]], 0) := by decide
  have z0 : ((0 : Int) != 0) = false := rfl
  have z1 : (((([[9]] : List (List Int)).length : Nat) : Int) != 1) = false := rfl
  have z2 : ((((([[9]] : List (List Int))[0]?.getD []).length : Nat) : Int) != 1) = false := rfl
  have z3 : (((([[9]] : List (List Int))[0]?.getD [])[0]?.getD 0) != 9) = false := rfl
  simp only [ex, z0, z1, z2, z3, Bool.or_false, cond_false]
  generalize (cond (decide ((x0.length : Int) > 6)) (x0.take 6) x0) = T
  generalize (cond (decide ((x1.length : Int) > 6)) (x1.take 6) x1) = S
  rcases Costs_eq T S x2 with ⟨h1, h2⟩ | ⟨h1, h2⟩
  · have e1 : ((gate_Costs T S x2).2 != 0) = true := by simpa using h1
    simp only [e1, cond_true, h2]
    rfl
  · have e2 : ((((T.map (fun t => S.map (costOf t x2))).length : Nat) : Int) != ((T.length : Nat) : Int)) = false := by simp
    have e3 := in_L1 (spots := S) h2 T 0 List.drop_zero
    simp only [h1, z0, cond_false, e2, e3]
    rfl
end Go.Sky
