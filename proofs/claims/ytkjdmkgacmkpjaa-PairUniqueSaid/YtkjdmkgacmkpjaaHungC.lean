/- The turn of the pairs along the way that a round has found, and a round as a whole. Conditions: in each theorem. -/
import Derived.Test.YtkjdmkgacmkpjaaHungB
namespace Go.Sky
open Go Go.Eng

/-- While the pairs are turned: column a is about to be given away. -/
structure Aug (m : Nat) (c : Int → Nat → Int) (k : Nat) (row u v : List Int) (a : Nat) (pre : List Nat) (ρ : List Int) : Prop where
  len : ρ.length = m + 1
  same : ∀ i, i ≤ m → i ∉ pre → gt ρ i = gt (rowsN row k) i
  bnd : ∀ i, i ≤ m → 0 ≤ gt ρ i ∧ gt ρ i ≤ (k : Int) + 1
  tight : ∀ i, 1 ≤ i → i ≤ m → i ≠ a → gt ρ i ≠ 0 → redc c u v (gt ρ i) i = 0
  inj : ∀ i j, i ≤ m → j ≤ m → i ≠ a → j ≠ a → gt ρ i = gt ρ j → gt ρ i ≠ 0 → i = j
  sur : ∀ r : Nat, 1 ≤ r → r ≤ k + 1 → ∃ i, i ≤ m ∧ i ≠ a ∧ gt ρ i = (r : Int)
  zero : ∀ i, i ≤ m → i ≠ a → gt ρ i = 0 → gt (rowsN row k) i = 0

theorem augment {n m k : Nat} {c : Int → Nat → Int} {row : List Int} {S : List Nat} {e : Nat} {u v way low : List Int} {used : List Bool} (h : Dij n m c k row S e u v way low used) :
    ∀ (f : Nat) (a : Nat) (pre post : List Nat) (ρ : List Int), e :: S = pre ++ a :: post → Aug m c k row u v a pre ρ → post.length < f →
      ∃ (pre' : List Nat) (ρ' : List Int), assign_least_L6 way f (a : Int) ρ = some ρ' ∧ Aug m c k row u v 0 pre' ρ'
  | 0, a, pre, post, ρ, _, _, hf => by omega
  | f + 1, a, pre, post, ρ, hp, g, hf => by
    have nd := h.nodup
    rw [hp] at nd
    have am : a ≤ m := h.le a (by rw [hp]; simp)
    have glen := g.len
    unfold assign_least_L6
    by_cases a0 : a = 0
    · subst a0
      exact ⟨pre, ρ, rfl, g⟩
    · rw [show ((a : Int) != 0) = true by simp; omega, cond_true]
      obtain ⟨p, p1, p2, p3⟩ := h.order pre a post hp a0
      obtain ⟨post1, post2, hq⟩ := List.append_of_mem p1
      have pS : p ∈ S := by
        rcases pre with _ | ⟨b, pre⟩
        · rw [List.nil_append] at hp; injection hp with _ hp2; rw [hp2]; exact p1
        · rw [List.cons_append] at hp; injection hp with _ hp2; rw [hp2]; simp [p1]
      have pm : p ≤ m := h.le p (List.mem_cons_of_mem _ pS)
      have ppos := h.pos p pS
      obtain ⟨_, nd2, nd3⟩ := List.nodup_append.1 nd
      have pa : p ≠ a := by
        rintro rfl
        exact (List.nodup_cons.1 nd2).1 p1
      have ppre : p ∉ pre := fun q => nd3 p q p (List.mem_cons_of_mem _ p1) rfl
      have ew : (way[((a : Int)).toNat]?.getD 0) = (p : Int) := by rw [Int.toNat_natCast]; exact p2
      have er : (ρ[((p : Int)).toNat]?.getD 0) = gt (rowsN row k) p := by rw [Int.toNat_natCast]; exact g.same p pm ppre
      rw [ew, er, Int.toNat_natCast]
      have st : ∀ i, gt (ρ.set a (gt (rowsN row k) p)) i = if i = a then gt (rowsN row k) p else gt ρ i := fun i => gt_set _ _ (by omega)
      have sa : gt (ρ.set a (gt (rowsN row k) p)) a = gt (rowsN row k) p := by rw [st, if_pos rfl]
      have sn : ∀ i, i ≠ a → gt (ρ.set a (gt (rowsN row k) p)) i = gt ρ i := fun i hi => by rw [st, if_neg hi]
      have gp : gt ρ p = gt (rowsN row k) p := g.same p pm ppre
      refine augment h f p (pre ++ a :: post1) post2 _ (by rw [hp, hq]; simp) ⟨by rw [List.length_set]; exact glen, fun i hi hn => ?_, fun i hi => ?_, fun i h1 h2 h3 h4 => ?_, fun i j hi hj h1 h2 h3 h4 => ?_, fun r h1 h2 => ?_, fun i hi h1 h2 => ?_⟩ ?_
      · have : i ≠ a := by rintro rfl; exact hn (by simp)
        rw [sn i this]
        exact g.same i hi fun q => hn (by simp [q])
      · by_cases c : i = a
        · rw [c, sa, ← gp]; exact g.bnd p pm
        · rw [sn i c]; exact g.bnd i hi
      · by_cases c : i = a
        · rw [c, sa]; exact p3
        · rw [sn i c] at h4 ⊢; exact g.tight i h1 h2 c h4
      · by_cases ci : i = a <;> by_cases cj : j = a
        · rw [ci, cj]
        · rw [ci, sa, sn j cj, ← gp] at h3
          exact absurd (g.inj j p hj pm cj pa h3.symm (by rw [← h3, gp]; omega)) h2
        · rw [cj, sa, sn i ci, ← gp] at h3
          exact absurd (g.inj i p hi pm ci pa h3 (by rw [h3, gp]; omega)) h1
        · rw [sn i ci, sn j cj] at h3
          rw [sn i ci] at h4
          exact g.inj i j hi hj ci cj h3 h4
      · obtain ⟨i, i1, i2, i3⟩ := g.sur r h1 h2
        by_cases c : i = p
        · exact ⟨a, am, fun q => pa q.symm, by rw [sa, ← gp, ← c]; exact i3⟩
        · exact ⟨i, i1, c, by rw [sn i i2]; exact i3⟩
      · by_cases c : i = a
        · rw [c, sa] at h2; omega
        · rw [sn i c] at h2; exact g.zero i hi c h2
      · rw [hq, List.length_append, List.length_cons] at hf
        omega

theorem fill : ∀ (f k : Nat) (low : List Int), (assign_least_L2 f k low).length = low.length ∧ (k + f ≤ low.length → ∀ j, gt (assign_least_L2 f k low) j = if k ≤ j ∧ j < k + f then 1152921504606846976 else gt low j)
  | 0, k, low => ⟨rfl, fun _ j => by rw [if_neg (by omega)]; rfl⟩
  | f + 1, k, low => by
    obtain ⟨l1, l2⟩ := fill f (k + 1) (low.set k 1152921504606846976)
    rw [List.length_set] at l1 l2
    unfold assign_least_L2
    refine ⟨l1, fun hl j => ?_⟩
    rw [l2 (by omega) j, gt_set _ _ (by omega)]
    by_cases c : k ≤ j ∧ j < k + (f + 1)
    · rw [if_pos c]
      by_cases d : k + 1 ≤ j ∧ j < k + 1 + f
      · rw [if_pos d]
      · rw [if_neg d, if_pos (by omega)]
    · rw [if_neg c, if_neg (by omega), if_neg (by omega)]

section
variable {n m cols : Nat} {costs : List (List Int)} {miss from_ : Int} {taken : List Bool} {k : Nat} {u v row way : List Int}

theorem Hung.free (hP : Prob n m cols (cst costs miss from_ taken) miss) (hk : k < n) (h : Hung n m (cst costs miss from_ taken) k u v row way) : gt row (cols + (k + 1)) = 0 := by
  have hn := hP.n1
  have hm := hP.m1
  by_cases c : gt row (cols + (k + 1)) = 0
  · exact c
  · exfalso
    have b := h.rowb (cols + (k + 1)) (by omega)
    have bk := h.rowk (cols + (k + 1)) (by omega) (by omega)
    obtain ⟨r, hr⟩ : ∃ r : Nat, gt row (cols + (k + 1)) = (r : Int) := ⟨(gt row (cols + (k + 1))).toNat, by omega⟩
    rw [hr] at b bk c
    have t := h.tight (cols + (k + 1)) (by omega) (by omega) (by rw [hr]; exact c)
    have f := hP.far r (k + 1) (by omega) (by omega) (by omega) (by omega) (by omega)
    have ub := h.ub r (by omega)
    have vb := (h.vneg (cols + (k + 1)) (by omega) (by omega)).1
    rw [hr] at t
    unfold redc at t
    rw [f, Int.toNat_natCast] at t
    omega

/-- A round begins. -/
theorem Hung.start (hP : Prob n m cols (cst costs miss from_ taken) miss) (hk : k < n) (h : Hung n m (cst costs miss from_ taken) k u v row way) :
    Dij n m (cst costs miss from_ taken) k row [] 0 u v way (assign_least_L2 (m + 1) 0 (List.replicate (m + 1) 0)) (List.replicate (m + 1) false) := by
  have hn := hP.n1
  have hm := hP.m1
  obtain ⟨l1, l2⟩ := fill (m + 1) 0 (List.replicate (m + 1) 0)
  rw [List.length_replicate] at l1 l2
  have l3 := l2 (by omega)
  have u0 := h.uz (k + 1) (by omega) (by omega)
  have lo : ∀ j, j ≤ m → gt (assign_least_L2 (m + 1) 0 (List.replicate (m + 1) 0)) j = 1152921504606846976 := fun j hj => by rw [l3 j, if_pos (by omega)]
  refine ⟨h.lenu, h.lenv, h.lenw, l1, List.length_replicate .., fun j _ => by rw [gb_rep]; simp, by simp, fun j hj => by simp at hj; omega, by simp, fun j hj => by simp at hj, fun pre j post hp hj => ?_, h.red, h.tight, h.vneg, fun r hr => by rw [u0]; have := h.ub r hr; omega, fun r h1 h2 => h.uz r (by omega) h2, fun j hj => by rw [u0]; have := h.vb j hj; omega, fun j hj => by rw [lo j hj]; omega, fun j h1 h2 _ => ⟨fun s hs => by simp at hs, fun q => absurd rfl q, fun _ => lo j h2⟩, h.wayb⟩
  have : j ∈ [0] := by rw [hp]; simp
  simp at this; exact absurd this hj

/-- The pairs that a round leaves. -/
theorem Dij.done (hP : Prob n m cols (cst costs miss from_ taken) miss) (hk : k < n) (h : Hung n m (cst costs miss from_ taken) k u v row way)
    {S : List Nat} {e : Nat} {u' v' way' low' : List Int} {used' : List Bool} (d : Dij n m (cst costs miss from_ taken) k row S e u' v' way' low' used') (he : gt (rowsN row k) e = 0) (he1 : 1 ≤ e) :
    ∃ ρ, assign_least_L6 way' 100 (e : Int) (row.set 0 (1 + (k : Int))) = some ρ ∧ Hung n m (cst costs miss from_ taken) (k + 1) u' v' ρ way' := by
  have hn := hP.n1
  have hm := hP.m1
  have fr := h.free hP hk
  have top := d.top hP hk fr
  have lenr := h.lenr
  have R0 := rows0 (k := k) lenr
  have RS := fun j (hj : 1 ≤ j) => rowsS (k := k) lenr hj
  have Rb : ∀ j, j ≤ m → 0 ≤ gt (rowsN row k) j ∧ gt (rowsN row k) j ≤ (k : Int) + 1 := fun j hj => by
    by_cases e : j = 0
    · subst e; omega
    · rw [RS j (by omega)]
      have := h.rowb j hj
      have := h.rowk j (by omega) hj
      omega
  have sl := nodup_le (m + 1) (e :: S) d.nodup (fun x hx => by have := d.le x hx; omega)
  rw [List.length_cons] at sl
  have g0 : Aug m (cst costs miss from_ taken) k row u' v' e [] (rowsN row k) := by
    refine ⟨by unfold rowsN; rw [List.length_set]; exact lenr, fun i _ _ => rfl, Rb, fun i h1 h2 _ h4 => ?_, fun i j hi hj _ _ h3 h4 => ?_, fun r h1 h2 => ?_, fun i _ _ q => q⟩
    · rw [RS i h1] at h4 ⊢
      exact d.tight i h1 h2 h4
    · by_cases i0 : i = 0 <;> by_cases j0 : j = 0
      · rw [i0, j0]
      · subst i0
        rw [R0, RS j (by omega)] at h3
        have := h.rowk j (by omega) hj
        omega
      · subst j0
        rw [R0, RS i (by omega)] at h3
        have := h.rowk i (by omega) hi
        omega
      · rw [RS i (by omega)] at h3 h4
        rw [RS j (by omega)] at h3
        exact h.inj i j (by omega) hi (by omega) hj h3 h4
    · by_cases c : r = k + 1
      · exact ⟨0, Nat.zero_le _, by omega, by rw [R0]; omega⟩
      · obtain ⟨j, j1, j2, j3⟩ := h.sur r h1 (by omega)
        refine ⟨j, j2, fun q => ?_, by rw [RS j j1]; exact j3⟩
        rw [← q, RS j j1] at he
        omega
  obtain ⟨pre, ρ, e1, g⟩ := augment d 100 e [] S (rowsN row k) rfl g0 (by omega)
  refine ⟨ρ, e1, d.lenu, d.lenv, g.len, d.lenw, fun j hj => by have := g.bnd j hj; omega, fun j _ hj => by have := g.bnd j hj; omega, fun i j h1 h2 h3 h4 h5 h6 => g.inj i j h2 h4 (by omega) (by omega) h5 h6, fun r h1 h2 => ?_, d.red, fun j h1 h2 h3 => g.tight j h1 h2 (by omega) h3, fun j h1 h2 => ⟨(d.vneg j h1 h2).1, fun q => (d.vneg j h1 h2).2 ?_⟩, fun r hr => by have := d.ub r hr; omega, fun r h1 h2 => d.uz r h1 h2, fun j hj => by have := d.vb j hj; omega, d.wayb⟩
  · obtain ⟨i, i1, i2, i3⟩ := g.sur r h1 h2
    exact ⟨i, by omega, i1, i3⟩
  · rw [← RS j h1]; exact g.zero j h2 (by omega) q

theorem phase (hP : Prob n m cols (cst costs miss from_ taken) miss) (hk : k < n) (h : Hung n m (cst costs miss from_ taken) k u v row way) :
    ∃ (e : Nat) (u' v' way' low' : List Int) (used' : List Bool) (ρ : List Int), assign_least_L3 costs miss from_ taken (m : Int) k row 100 0 u v way (assign_least_L2 (m + 1) 0 (List.replicate (m + 1) 0)) (List.replicate (m + 1) false) = some ((e : Int), u', v', way', low', used') ∧
      assign_least_L6 way' 100 (e : Int) (row.set 0 (1 + (k : Int))) = some ρ ∧ Hung n m (cst costs miss from_ taken) (k + 1) u' v' ρ way' := by
  have hn := hP.n1
  have hm := hP.m1
  obtain ⟨S', e, u', v', way', low', used', e1, d, e2, e3⟩ := dij_loop hP hk h.lenr h.rowb h.rowk h.inj (h.free hP hk) 100 [] 0 u v way _ _ (h.start hP hk) (by rw [rows0 h.lenr]; omega) (by simp; omega)
  obtain ⟨ρ, e4, h'⟩ := d.done hP hk h e2 e3
  exact ⟨e, u', v', way', low', used', ρ, e1, e4, h'⟩
end

section
variable {n m cols : Nat} {costs : List (List Int)} {miss from_ : Int} {taken : List Bool}
theorem rounds (hP : Prob n m cols (cst costs miss from_ taken) miss) : ∀ (f k : Nat) (u v row way : List Int), f + k = n → Hung n m (cst costs miss from_ taken) k u v row way →
    ∃ u' v' row' way' : List Int, assign_least_L1 costs miss from_ taken (m : Int) f k u v row way = (u', v', row', way') ∧ Hung n m (cst costs miss from_ taken) n u' v' row' way'
  | 0, k, u, v, row, way, hf, h => ⟨u, v, row, way, rfl, by rw [show n = k by omega]; rw [show n = k by omega] at h; exact h⟩
  | f + 1, k, u, v, row, way, hf, h => by
    have hn := hP.n1
    have hm := hP.m1
    obtain ⟨e, u', v', way', low', used', ρ, e1, e2, h'⟩ := phase hP (by omega) h
    have em : (w64 ((m : Int) + 1)).toNat = m + 1 := by rw [w64_id (by omega)]; omega
    unfold assign_least_L1 bindv
    simp only [em, e1, Option.getD_some, e2]
    exact rounds hP f (k + 1) u' v' ρ way' (by omega) h'
theorem hung0 (hP : Prob n m cols (cst costs miss from_ taken) miss) : Hung n m (cst costs miss from_ taken) 0 (List.replicate (n + 1) 0) (List.replicate (m + 1) 0) (List.replicate (m + 1) 0) (List.replicate (m + 1) 0) := by
  have hn := hP.n1
  have hm := hP.m1
  refine ⟨List.length_replicate .., List.length_replicate .., List.length_replicate .., List.length_replicate .., fun j _ => by rw [gt_rep]; omega, fun j _ _ => by rw [gt_rep]; omega, fun i j _ _ _ _ _ q => absurd (gt_rep _ _) q, fun r h1 h2 => by omega, fun r j h1 h2 h3 h4 => ?_, fun j _ _ q => absurd (gt_rep _ _) q, fun j _ _ => by rw [gt_rep]; exact ⟨by omega, fun _ => rfl⟩, fun r _ => by rw [gt_rep]; omega, fun r _ _ => gt_rep _ _, fun j _ => by rw [gt_rep]; omega, fun j _ => by rw [gt_rep]; omega⟩
  unfold redc
  rw [gt_rep, gt_rep]
  have := hP.cb r j h1 h2 h3 h4
  omega
end
end Go.Sky
