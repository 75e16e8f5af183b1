/- What the walk of the assignment asks of the rounds. Conditions: in each theorem. -/
import Derived.Test.YtkjdmkgacmkpjaaHungE
namespace Go.Sky
open Go Go.Eng

structure Setup (costs : List (List Int)) (miss from_ : Int) (taken : List Bool) (r1 r2 : Int) : Prop where
  n1 : 1 ≤ r1 ∧ r1 ≤ 32
  m1 : r2 = ((costs[0]?.getD []).length : Int) + r1 ∧ (costs[0]?.getD []).length ≤ 32
  w1 : w64 (r1 + 1) = r1 + 1
  w2 : w64 (r2 + 1) = r2 + 1
  prob : Prob r1.toNat r2.toNat (costs[0]?.getD []).length (cst costs miss from_ taken) miss
  rows : ((costs.drop from_.toNat).length : Int) = r1
  first : ((costs.drop from_.toNat)[0]?.getD []).length = (costs[0]?.getD []).length
  len : ∀ r ∈ costs.drop from_.toNat, r.length = (costs[0]?.getD []).length

theorem Good.from {costs : List (List Int)} {cols : Nat} {miss : Int} (g : Good costs cols miss) (i : Nat) : Good (costs.drop i) cols miss :=
  ⟨Nat.le_trans (by rw [List.length_drop]; omega) g.n1, g.c1, g.mb, fun r hr => g.len r (List.mem_of_mem_drop hr), fun r hr => g.bnd r (List.mem_of_mem_drop hr)⟩

section
variable {costs : List (List Int)} {miss from_ : Int} {taken : List Bool} {r1 r2 : Int}
theorem setup (hg : Good costs (costs[0]?.getD []).length miss) (h1 : (r1 == 0) = false) (hr1 : ((costs.drop from_.toNat).length : Int) = r1) (hr2 : w64 ((((costs.drop from_.toNat)[0]?.getD []).length : Int) + r1) = r2) : Setup costs miss from_ taken r1 r2 := by
  have g := hg.from from_.toNat
  have z : r1 ≠ 0 := by simpa using h1
  have n1 := g.n1
  have c1 := g.c1
  have first := g.len _ (rw_mem (show 0 < (costs.drop from_.toNat).length by omega))
  have first : ((costs.drop from_.toNat)[0]?.getD []).length = (costs[0]?.getD []).length := first
  rw [first, w64_id (by omega)] at hr2
  have p := g.prob (taken := taken) (by omega)
  rw [show (costs.drop from_.toNat).length = r1.toNat by omega, show (costs[0]?.getD []).length + r1.toNat = r2.toNat by omega] at p
  exact ⟨by omega, by omega, w64_id (by omega), w64_id (by omega), p, hr1, first, g.len⟩

theorem Setup.facts (s : Setup costs miss from_ taken r1 r2) : (1 ≤ r1 ∧ r1 ≤ 32) ∧ (r1 ≤ r2 ∧ r2 ≤ 64) ∧ w64 (r1 + 1) = r1 + 1 ∧ w64 (r2 + 1) = r2 + 1 ∧ ((costs.drop from_.toNat).length : Int) = r1 := by
  have a := s.n1
  have b := s.m1
  exact ⟨a, by omega, s.w1, s.w2, s.rows⟩

theorem hung_zero (s : Setup costs miss from_ taken r1 r2) : Hung r1.toNat r2.toNat (cst costs miss from_ taken) 0 (List.replicate ((w64 (r1 + 1)).toNat) 0) (List.replicate ((w64 (r2 + 1)).toNat) 0) (List.replicate ((w64 (r2 + 1)).toNat) 0) (List.replicate ((w64 (r2 + 1)).toNat) 0) := by
  have a := s.facts
  rw [s.w1, s.w2, show (r1 + 1).toNat = r1.toNat + 1 by omega, show (r2 + 1).toNat = r2.toNat + 1 by omega]
  exact hung0 s.prob

theorem hung_end {n m k : Nat} {c : Int → Nat → Int} {u v row way : List Int} (h : Hung n m c k u v row way) (hk : k ≤ n) (hd : n - k = 0) : Hung n m c n u v row way := by
  rwa [show k = n by omega] at h

/-- The invariant of a round. -/
def Rnd (costs : List (List Int)) (miss from_ : Int) (taken : List Bool) (r1 r2 : Int) (k : Nat) (row : List Int) (at_ : Int) (u v way low : List Int) (used : List Bool) : Prop :=
  ∃ (S : List Nat) (a : Nat), at_ = (a : Int) ∧ Dij r1.toNat r2.toNat (cst costs miss from_ taken) k row S a u v way low used ∧ 1 ≤ gt (rowsN row k) a
/-- Behind it. -/
def Found (costs : List (List Int)) (miss from_ : Int) (taken : List Bool) (r1 r2 : Int) (k : Nat) (row : List Int) (at_ : Int) (u v way low : List Int) (used : List Bool) : Prop :=
  ∃ (S : List Nat) (a : Nat), at_ = (a : Int) ∧ Dij r1.toNat r2.toNat (cst costs miss from_ taken) k row S a u v way low used ∧ gt (rowsN row k) a = 0 ∧ 1 ≤ a

variable {k : Nat} {u v row way low : List Int} {used : List Bool} {at_ : Int}

theorem rnd_start (s : Setup costs miss from_ taken r1 r2) (h : Hung r1.toNat r2.toNat (cst costs miss from_ taken) k u v row way) (hk : k < r1.toNat) {R : List Int} (e1 : R = assign_least_L2 ((w64 (r2 + 1)).toNat) 0 (List.replicate ((w64 (r2 + 1)).toNat) 0)) (e2 : R = low) :
    Rnd costs miss from_ taken r1 r2 k row 0 u v way low (List.replicate ((w64 (r2 + 1)).toNat) false) := by
  have a := s.facts
  rw [e2] at e1
  rw [e1, s.w2, show (r2 + 1).toNat = r2.toNat + 1 by omega]
  exact ⟨[], 0, rfl, h.start s.prob hk, by rw [rows0 h.lenr]; omega⟩

theorem rnd_total (s : Setup costs miss from_ taken r1 r2) (h : Hung r1.toNat r2.toNat (cst costs miss from_ taken) k u v row way) (hk : k < r1.toNat) {R : List Int} (e1 : R = assign_least_L2 ((w64 (r2 + 1)).toNat) 0 (List.replicate ((w64 (r2 + 1)).toNat) 0)) (e2 : R = low) :
    ∃ R, assign_least_L3 costs miss from_ taken r2 k row 100 0 u v way low (List.replicate ((w64 (r2 + 1)).toNat) false) = some R := by
  have a := s.facts
  obtain ⟨e, u', v', way', low', used', ρ, q1, _⟩ := phase s.prob hk h
  rw [e2] at e1
  rw [e1, s.w2, show (r2 + 1).toNat = r2.toNat + 1 by omega]
  rw [show ((r2.toNat : Nat) : Int) = r2 by omega] at q1
  exact ⟨_, q1⟩

/-- The row at hand and its column. -/
theorem rnd_in (s : Setup costs miss from_ taken r1 r2) (h : Hung r1.toNat r2.toNat (cst costs miss from_ taken) k u v row way) (hk : k < r1.toNat) {u3 v3 way3 : List Int} (d : Rnd costs miss from_ taken r1 r2 k row at_ u3 v3 way3 low used) :
    (0 ≤ at_ ∧ at_ ≤ r2) ∧ 1 ≤ ((row.set 0 (1 + (k : Int)))[at_.toNat]?.getD 0) ∧ ((row.set 0 (1 + (k : Int)))[at_.toNat]?.getD 0) ≤ r1 := by
  have f := s.facts
  obtain ⟨S, a, rfl, q1, q2⟩ := d
  have am := q1.le a (List.mem_cons_self ..)
  rw [Int.toNat_natCast]
  refine ⟨by omega, q2, ?_⟩
  show gt (rowsN row k) a ≤ r1
  by_cases a0 : a = 0
  · rw [a0, rows0 h.lenr]; omega
  · rw [rowsS h.lenr (by omega)]
    have := h.rowb a am
    omega

theorem row_in (s : Setup costs miss from_ taken r1 r2) (h : Hung r1.toNat r2.toNat (cst costs miss from_ taken) k u v row way) (hk : k < r1.toNat) {j : Nat} (hj : j ≤ r2.toNat) :
    0 ≤ ((row.set 0 (1 + (k : Int)))[j]?.getD 0) ∧ ((row.set 0 (1 + (k : Int)))[j]?.getD 0) ≤ r1 := by
  have f := s.facts
  show 0 ≤ gt (rowsN row k) j ∧ gt (rowsN row k) j ≤ r1
  by_cases a0 : j = 0
  · rw [a0, rows0 h.lenr]; omega
  · rw [rowsS h.lenr (by omega)]
    have := h.rowb j hj
    omega

theorem rnd_one (s : Setup costs miss from_ taken r1 r2) (h : Hung r1.toNat r2.toNat (cst costs miss from_ taken) k u v row way) (hk : k < r1.toNat) {u3 v3 way3 : List Int} (d : Rnd costs miss from_ taken r1 r2 k row at_ u3 v3 way3 low used)
    {R4 : Int × Int × List Int × List Int} {δ nx : Int} {way6 low6 : List Int} (e1 : R4 = assign_least_L4 costs miss from_ taken k row at_ u3 v3 used r2.toNat 0 1152921504606846976 0 way3 low) (e2 : R4 = (δ, nx, way6, low6)) :
    ∃ (S : List Nat) (a b : Nat) (u6 v6 low9 : List Int), at_ = (a : Int) ∧ nx = (b : Int) ∧ 1 ≤ b ∧ b ≤ r2.toNat ∧ assign_least_L5 k row δ (used.set a true) 0 u3 v3 low6 = (u6, v6, low9) ∧ Dij r1.toNat r2.toNat (cst costs miss from_ taken) k row (a :: S) b u6 v6 way6 low9 (used.set a true) := by
  have hP := s.prob
  obtain ⟨S, a, rfl, q1, q2⟩ := d
  obtain ⟨δ', b, way', low', u6, v6, low9, p1, p2, p3, p4, p5⟩ := dij_step hP hk h.lenr h.rowb h.rowk h.inj (h.free hP hk) q1 q2
  rw [e2, p1] at e1
  injection e1 with e3 e4
  injection e4 with e5 e6
  injection e6 with e7 e8
  subst e3 e5 e7 e8
  exact ⟨S, a, b, u6, v6, low9, rfl, rfl, p3, p4, p2, p5⟩

theorem next_in (s : Setup costs miss from_ taken r1 r2) (h : Hung r1.toNat r2.toNat (cst costs miss from_ taken) k u v row way) (hk : k < r1.toNat) {u3 v3 way3 : List Int} (d : Rnd costs miss from_ taken r1 r2 k row at_ u3 v3 way3 low used)
    {R4 : Int × Int × List Int × List Int} {δ nx : Int} {way6 low6 : List Int} (e1 : R4 = assign_least_L4 costs miss from_ taken k row at_ u3 v3 used r2.toNat 0 1152921504606846976 0 way3 low) (e2 : R4 = (δ, nx, way6, low6)) : 1 ≤ nx ∧ nx ≤ r2 := by
  have f := s.facts
  obtain ⟨S, a, b, u6, v6, low9, _, q1, q2, q3, _⟩ := rnd_one s h hk d e1 e2
  omega

theorem rnd_next (s : Setup costs miss from_ taken r1 r2) (h : Hung r1.toNat r2.toNat (cst costs miss from_ taken) k u v row way) (hk : k < r1.toNat) {u3 v3 way3 : List Int} (d : Rnd costs miss from_ taken r1 r2 k row at_ u3 v3 way3 low used)
    {R4 : Int × Int × List Int × List Int} {δ nx : Int} {way6 low6 : List Int} (e1 : R4 = assign_least_L4 costs miss from_ taken k row at_ u3 v3 used r2.toNat 0 1152921504606846976 0 way3 low) (e2 : R4 = (δ, nx, way6, low6))
    {R5 : List Int × List Int × List Int} {u6 v6 low9 : List Int} (e3 : R5 = assign_least_L5 k row δ (used.set at_.toNat true) 0 u3 v3 low6) (e4 : R5 = (u6, v6, low9)) (hz : (((row.set 0 (1 + (k : Int)))[nx.toNat]?.getD 0) == 0) = false) :
    Rnd costs miss from_ taken r1 r2 k row nx u6 v6 way6 low9 (used.set at_.toNat true) := by
  obtain ⟨S, a, b, u7, v7, low8, rfl, rfl, q2, q3, q4, q5⟩ := rnd_one s h hk d e1 e2
  rw [Int.toNat_natCast, e4, q4] at e3
  injection e3 with e5 e6
  injection e6 with e7 e8
  subst e5 e7 e8
  have r := row_in s h hk q3
  rw [Int.toNat_natCast] at hz
  rw [Int.toNat_natCast]
  have hz2 : ((row.set 0 (1 + (k : Int)))[b]?.getD 0) ≠ 0 := by simpa using hz
  exact ⟨a :: S, b, rfl, q5, by show 1 ≤ ((row.set 0 (1 + (k : Int)))[b]?.getD 0); omega⟩

theorem rnd_found (s : Setup costs miss from_ taken r1 r2) (h : Hung r1.toNat r2.toNat (cst costs miss from_ taken) k u v row way) (hk : k < r1.toNat) {u3 v3 way3 : List Int} (d : Rnd costs miss from_ taken r1 r2 k row at_ u3 v3 way3 low used)
    {R4 : Int × Int × List Int × List Int} {δ nx : Int} {way6 low6 : List Int} (e1 : R4 = assign_least_L4 costs miss from_ taken k row at_ u3 v3 used r2.toNat 0 1152921504606846976 0 way3 low) (e2 : R4 = (δ, nx, way6, low6))
    {R5 : List Int × List Int × List Int} {u6 v6 low9 : List Int} (e3 : R5 = assign_least_L5 k row δ (used.set at_.toNat true) 0 u3 v3 low6) (e4 : R5 = (u6, v6, low9)) (hz : (((row.set 0 (1 + (k : Int)))[nx.toNat]?.getD 0) == 0) = true) :
    Found costs miss from_ taken r1 r2 k row nx u6 v6 way6 low9 (used.set at_.toNat true) := by
  obtain ⟨S, a, b, u7, v7, low8, rfl, rfl, q2, q3, q4, q5⟩ := rnd_one s h hk d e1 e2
  rw [Int.toNat_natCast, e4, q4] at e3
  injection e3 with e5 e6
  injection e6 with e7 e8
  subst e5 e7 e8
  rw [Int.toNat_natCast] at hz
  rw [Int.toNat_natCast]
  have hz2 : ((row.set 0 (1 + (k : Int)))[b]?.getD 0) = 0 := by simpa using hz
  exact ⟨a :: S, b, rfl, q5, hz2, q2⟩

theorem found_in (s : Setup costs miss from_ taken r1 r2) {u4 v4 way4 low4 : List Int} {used4 : List Bool} (d : Found costs miss from_ taken r1 r2 k row at_ u4 v4 way4 low4 used4) : (0 ≤ at_ ∧ at_ ≤ r2) := by
  have f := s.facts
  obtain ⟨S, a, rfl, q1, _⟩ := d
  have := q1.le a (List.mem_cons_self ..)
  omega
theorem way_in (s : Setup costs miss from_ taken r1 r2) {u4 v4 way4 low4 : List Int} {used4 : List Bool} (d : Found costs miss from_ taken r1 r2 k row at_ u4 v4 way4 low4 used4) {x : Int} (hx : 0 ≤ x ∧ x ≤ r2) : 0 ≤ (way4[x.toNat]?.getD 0) ∧ (way4[x.toNat]?.getD 0) ≤ r2 := by
  have f := s.facts
  obtain ⟨S, a, rfl, q1, _⟩ := d
  have := q1.wayb x.toNat (by omega)
  show 0 ≤ gt way4 x.toNat ∧ gt way4 x.toNat ≤ r2
  omega
theorem turn_total (s : Setup costs miss from_ taken r1 r2) (h : Hung r1.toNat r2.toNat (cst costs miss from_ taken) k u v row way) (hk : k < r1.toNat) {u4 v4 way4 low4 : List Int} {used4 : List Bool} (d : Found costs miss from_ taken r1 r2 k row at_ u4 v4 way4 low4 used4) : ∃ R, assign_least_L6 way4 100 at_ (row.set 0 (1 + (k : Int))) = some R := by
  obtain ⟨S, a, rfl, q1, q2, q3⟩ := d
  obtain ⟨ρ, e, _⟩ := q1.done s.prob hk h q2 q3
  exact ⟨ρ, e⟩
theorem turn_next (s : Setup costs miss from_ taken r1 r2) (h : Hung r1.toNat r2.toNat (cst costs miss from_ taken) k u v row way) (hk : k < r1.toNat) {u4 v4 way4 low4 : List Int} {used4 : List Bool} (d : Found costs miss from_ taken r1 r2 k row at_ u4 v4 way4 low4 used4)
    {R row4 : List Int} (e1 : assign_least_L6 way4 100 at_ (row.set 0 (1 + (k : Int))) = some R) (e2 : R = row4) : Hung r1.toNat r2.toNat (cst costs miss from_ taken) (k + 1) u4 v4 row4 way4 := by
  obtain ⟨S, a, rfl, q1, q2, q3⟩ := d
  obtain ⟨ρ, e, h'⟩ := q1.done s.prob hk h q2 q3
  rw [e] at e1
  injection e1 with e1
  rw [← e2, ← e1]; exact h'

/-- What the total asks. -/
theorem last_in (s : Setup costs miss from_ taken r1 r2) {n : Nat} (h : Hung r1.toNat r2.toNat (cst costs miss from_ taken) n u v row way) {j : Nat} (hj : j ≤ r2.toNat) : 0 ≤ (row[j]?.getD 0) ∧ (row[j]?.getD 0) ≤ r1 := by
  have f := s.facts
  have := h.rowb j hj
  show 0 ≤ gt row j ∧ gt row j ≤ r1
  omega
theorem least_side (s : Setup costs miss from_ taken r1 r2) (htk : taken.length = (costs[0]?.getD []).length) {x j : Int} (hx : 1 ≤ x ∧ x ≤ r1) (hj : 1 ≤ j ∧ j ≤ r2) : (0 ≤ w64 (x - 1) ∧ w64 (x - 1) < ((costs.drop from_.toNat).length : Int)) ∧ (0 ≤ w64 (j - 1) ∧ w64 (j - 1) < 4611686018427387904) ∧ (0 ≤ (((costs.drop from_.toNat)[0]?.getD []).length : Int) ∧ (((costs.drop from_.toNat)[0]?.getD []).length : Int) < 4611686018427387904) ∧ (taken.length : Int) = (((costs.drop from_.toNat)[0]?.getD []).length : Int) ∧ ∀ r ∈ costs.drop from_.toNat, (r.length : Int) = (((costs.drop from_.toNat)[0]?.getD []).length : Int) := by
  have f := s.facts
  have g := s.m1
  rw [w64_id (x := x - 1) (by omega), w64_id (x := j - 1) (by omega), s.first]
  exact ⟨by omega, by omega, by omega, by rw [htk], fun r hr => by rw [s.len r hr]⟩
theorem used_le (s : Setup costs miss from_ taken r1 r2) {i j : Nat} (h : j < (used.set i true).length) (e : used.length = ((w64 (r2 + 1)).toNat)) : j ≤ r2.toNat := by
  have f := s.facts
  rw [List.length_set] at h
  omega
end
end Go.Sky
