/- The highest terrain near a place: that it grows with the radius, and that it is at least that of each place within it. Conditions: in each theorem. -/
import Derived.Test.YtkjdmkgacmkpjaaWd
namespace Go.Sky
open Go Go.Eng Go.Glue

theorem imax_le {x y z : Int} (hx : x ≤ z) (hy : y ≤ z) : imax x y ≤ z := by unfold imax; split <;> omega
theorem imax_mono {x y u v : Int} (hx : x ≤ u) (hy : y ≤ v) : imax x y ≤ imax u v := by unfold imax; split <;> split <;> omega
theorem imax_left (x y : Int) : x ≤ imax x y ∧ y ≤ imax x y := by unfold imax; split <;> omega

theorem heights_in {g : TerrainGrid} (hg : g.In) (i : Nat) : 0 ≤ g.Heights[i]?.getD 0 ∧ g.Heights[i]?.getD 0 ≤ 60000 := by
  cases h : g.Heights[i]? with
  | none => exact ⟨Int.le_refl _, by decide⟩
  | some x => exact hg.2.2.2.2.2 x (List.mem_of_getElem? h)

theorem sq_le {a b : Int} (ha : 0 ≤ a) (h : a ≤ b) : a * a ≤ b * b := Int.mul_le_mul h h ha (by omega)

theorem highest_L2_in {g : TerrainGrid} (hg : g.In) (p : P) (r : Int) (k : Nat) : ∀ (m j : Nat) (b : Int), b ≤ 60000 → b ≤ terrain_highest_L2 g p r k m j b ∧ terrain_highest_L2 g p r k m j b ≤ 60000
  | 0, _, b, hb => ⟨Int.le_refl _, hb⟩
  | m + 1, j, b, hb => by
    unfold terrain_highest_L2
    simp only [ite_of_cond]
    have hh := heights_in hg (w64 (w64 ((k : Int) * g.NX) + (j : Int))).toNat
    split
    · have i := imax_left b (g.Heights[(w64 (w64 ((k : Int) * g.NX) + (j : Int))).toNat]?.getD 0)
      have := highest_L2_in hg p r k m (j + 1) (imax b (g.Heights[(w64 (w64 ((k : Int) * g.NX) + (j : Int))).toNat]?.getD 0)) (imax_le hb hh.2)
      exact ⟨by omega, this.2⟩
    · exact highest_L2_in hg p r k m (j + 1) b hb
theorem highest_L1_in {g : TerrainGrid} (hg : g.In) (p : P) (r : Int) : ∀ (m k : Nat) (b : Int), b ≤ 60000 → b ≤ terrain_highest_L1 g p r m k b ∧ terrain_highest_L1 g p r m k b ≤ 60000
  | 0, _, b, hb => ⟨Int.le_refl _, hb⟩
  | m + 1, k, b, hb => by
    unfold terrain_highest_L1 bindv
    have h1 := highest_L2_in hg p r k (g.NX : Int).toNat 0 b hb
    have h2 := highest_L1_in hg p r m (k + 1) (terrain_highest_L2 g p r k (g.NX : Int).toNat 0 b) h1.2
    exact ⟨Int.le_trans h1.1 h2.1, h2.2⟩
theorem highest_in {g : TerrainGrid} (hg : g.In) (p : P) (r : Int) : 0 ≤ terrain_highest g p r ∧ terrain_highest g p r ≤ 60000 := by
  unfold terrain_highest bindv
  exact highest_L1_in hg p r _ 0 0 (by decide)

theorem highest_L2_mono {g : TerrainGrid} (p : P) {r s : Int} (hr : 0 ≤ r) (hrs : r ≤ s) (hs : s ≤ 10000000) (k : Nat) : ∀ (m j : Nat) (b c : Int), b ≤ c → terrain_highest_L2 g p r k m j b ≤ terrain_highest_L2 g p s k m j c
  | 0, _, _, _, h => h
  | m + 1, j, b, c, h => by
    have e1 := sq_le hr hrs
    have e2 := sq_le (a := s) (b := 10000000) (by omega) hs
    have n1 : 0 ≤ r * r := Int.mul_nonneg hr hr
    unfold terrain_highest_L2
    simp only [ite_of_cond, decide_eq_true_eq]
    rw [w64_id (x := r * r) (by omega), w64_id (x := s * s) (by omega)]
    split
    · rename_i h1
      rw [if_pos (by omega)]
      exact highest_L2_mono p hr hrs hs k m (j + 1) _ _ (imax_mono h (Int.le_refl _))
    · split
      · exact highest_L2_mono p hr hrs hs k m (j + 1) _ _ (Int.le_trans h (imax_left _ _).1)
      · exact highest_L2_mono p hr hrs hs k m (j + 1) _ _ h
theorem highest_L1_mono {g : TerrainGrid} (p : P) {r s : Int} (hr : 0 ≤ r) (hrs : r ≤ s) (hs : s ≤ 10000000) : ∀ (m k : Nat) (b c : Int), b ≤ c → terrain_highest_L1 g p r m k b ≤ terrain_highest_L1 g p s m k c
  | 0, _, _, _, h => h
  | m + 1, k, b, c, h => by
    unfold terrain_highest_L1 bindv
    exact highest_L1_mono p hr hrs hs m (k + 1) _ _ (highest_L2_mono p hr hrs hs k _ 0 _ _ h)
theorem highest_mono {g : TerrainGrid} (p : P) {r s : Int} (hr : 0 ≤ r) (hrs : r ≤ s) (hs : s ≤ 10000000) : terrain_highest g p r ≤ terrain_highest g p s := by
  unfold terrain_highest bindv
  exact highest_L1_mono p hr hrs hs _ 0 0 0 (Int.le_refl _)

/-- What lies within the radius of p is at most the highest. -/
def Near (g : TerrainGrid) (p : P) (r : Int) (x y : Nat) : Prop :=
  plane_Square ⟨num_Between p.X (g.At.X + (x : Int) * g.Size) (g.At.X + (x : Int) * g.Size + g.Size - 1), num_Between p.Y (g.At.Y + (y : Int) * g.Size) (g.At.Y + (y : Int) * g.Size + g.Size - 1)⟩ p ≤ r * r

theorem cell_w {g : TerrainGrid} (hg : g.In) {j : Nat} (hj : j < 32) : w64 (g.At.X + w64 ((j : Int) * g.Size)) = g.At.X + (j : Int) * g.Size ∧ w64 (w64 (w64 (g.At.X + w64 ((j : Int) * g.Size)) + g.Size) - 1) = g.At.X + (j : Int) * g.Size + g.Size - 1 ∧
    w64 (g.At.Y + w64 ((j : Int) * g.Size)) = g.At.Y + (j : Int) * g.Size ∧ w64 (w64 (w64 (g.At.Y + w64 ((j : Int) * g.Size)) + g.Size) - 1) = g.At.Y + (j : Int) * g.Size + g.Size - 1 := by
  have hs := hg.2.2.1
  obtain ⟨a1, a2, a3, a4⟩ := hg.2.2.2.1
  have m := mul_in0 (a := (j : Int)) (b := g.Size) (A := 31) (B := 1000000) (by omega) (by omega)
  rw [w64_id (x := (j : Int) * g.Size) (by omega), w64_id (x := g.At.X + (j : Int) * g.Size) (by omega), w64_id (x := g.At.Y + (j : Int) * g.Size) (by omega), w64_id (x := g.At.X + (j : Int) * g.Size + g.Size) (by omega), w64_id (x := g.At.Y + (j : Int) * g.Size + g.Size) (by omega), w64_id (x := g.At.X + (j : Int) * g.Size + g.Size - 1) (by omega), w64_id (x := g.At.Y + (j : Int) * g.Size + g.Size - 1) (by omega)]
  exact ⟨rfl, rfl, rfl, rfl⟩

theorem highest_L2_ge {g : TerrainGrid} (hg : g.In) {p : P} {r : Int} (hr : 0 ≤ r ∧ r ≤ 10000000) {k x : Nat} (hk : (k : Int) < g.NY) (hx : (x : Int) < g.NX) (hn : Near g p r x k) : ∀ (m j : Nat) (b : Int), b ≤ 60000 → j ≤ x → x < j + m → (j + m : Int) ≤ g.NX →
    g.Heights[(w64 (w64 ((k : Int) * g.NX) + (x : Int))).toNat]?.getD 0 ≤ terrain_highest_L2 g p r k m j b
  | 0, j, b, _, h1, h2, _ => by omega
  | m + 1, j, b, hb, h1, h2, h3 => by
    have hx32 := hg.1
    have hy32 := hg.2.1
    have hh := heights_in hg (w64 (w64 ((k : Int) * g.NX) + (j : Int))).toNat
    by_cases e : j = x
    · subst e
      have cx := cell_w hg (j := j) (by omega)
      have cy := cell_w hg (j := k) (by omega)
      have e2 := sq_le (a := r) (b := 10000000) (by omega) hr.2
      have n1 : 0 ≤ r * r := Int.mul_nonneg hr.1 hr.1
      unfold terrain_highest_L2
      simp only [ite_of_cond, decide_eq_true_eq]
      rw [cx.2.1, cx.1, cy.2.2.2, cy.2.2.1, w64_id (x := r * r) (by omega), if_pos (show plane_Square _ p ≤ r * r from hn)]
      exact Int.le_trans (imax_left _ _).2 (highest_L2_in hg p r k m (j + 1) _ (imax_le hb hh.2)).1
    · unfold terrain_highest_L2
      simp only [ite_of_cond]
      split
      · exact highest_L2_ge hg hr hk hx hn m (j + 1) _ (imax_le hb hh.2) (by omega) (by omega) (by omega)
      · exact highest_L2_ge hg hr hk hx hn m (j + 1) b hb (by omega) (by omega) (by omega)
theorem highest_L1_ge {g : TerrainGrid} (hg : g.In) {p : P} {r : Int} (hr : 0 ≤ r ∧ r ≤ 10000000) {y x : Nat} (hy : (y : Int) < g.NY) (hx : (x : Int) < g.NX) (hn : Near g p r x y) : ∀ (m k : Nat) (b : Int), b ≤ 60000 → k ≤ y → y < k + m → (k + m : Int) ≤ g.NY →
    g.Heights[(w64 (w64 ((y : Int) * g.NX) + (x : Int))).toNat]?.getD 0 ≤ terrain_highest_L1 g p r m k b
  | 0, k, b, _, h1, h2, _ => by omega
  | m + 1, k, b, hb, h1, h2, h3 => by
    have hx32 := hg.1
    unfold terrain_highest_L1 bindv
    have i := highest_L2_in hg p r k (g.NX : Int).toNat 0 b hb
    by_cases e : k = y
    · subst e
      exact Int.le_trans (highest_L2_ge hg hr hy hx hn (g.NX : Int).toNat 0 b hb (by omega) (by omega) (by omega)) (highest_L1_in hg p r m (k + 1) _ i.2).1
    · exact highest_L1_ge hg hr hy hx hn m (k + 1) _ i.2 (by omega) (by omega) (by omega)

theorem between_near {p q lo hi : Int} (h : lo ≤ q ∧ q ≤ hi) : (num_Between p lo hi - p) * (num_Between p lo hi - p) ≤ (p - q) * (p - q) := by
  unfold num_Between
  simp only [ite_of_cond]
  have key : ∀ b : Int, (0 ≤ b - p ∧ b - p ≤ q - p) ∨ (q - p ≤ b - p ∧ b - p ≤ 0) → (b - p) * (b - p) ≤ (p - q) * (p - q) := by
    intro b hb
    rcases hb with hb | hb
    · have := sq_bound (x := b - p) (n := q - p) (by omega)
      rw [← Int.neg_mul_neg (p - q), show -(p - q) = q - p by omega]; exact this.2
    · exact (sq_bound (x := b - p) (n := p - q) (by omega)).2
  split
  · rename_i h1; simp at h1; exact key lo (by omega)
  · rename_i h1; simp at h1
    split
    · rename_i h2; simp at h2; exact key hi (by omega)
    · rename_i h2; simp at h2; exact key p (by omega)
theorem between_in {p lo hi : Int} (h : lo ≤ hi) : lo ≤ num_Between p lo hi ∧ num_Between p lo hi ≤ hi ∧ (num_Between p lo hi = p ∨ num_Between p lo hi = lo ∨ num_Between p lo hi = hi) := by
  unfold num_Between
  simp only [ite_of_cond]
  split
  · rename_i h1; simp at h1; omega
  · rename_i h1; simp at h1
    split
    · rename_i h2; simp at h2; omega
    · rename_i h2; simp at h2; omega

/-- The height of a place within the radius. -/
theorem highest_ge {g : TerrainGrid} (hg : g.In) {p q : P} (hp : p.In) (hq : q.In) {r : Int} (hr : 0 ≤ r ∧ r ≤ 4000000) (hd : (p.X - q.X) * (p.X - q.X) + (p.Y - q.Y) * (p.Y - q.Y) ≤ r * r) :
    (terrain_Height g q).2 = 0 ∧ 0 ≤ (terrain_Height g q).1 ∧ (terrain_Height g q).1 ≤ terrain_highest g p r := by
  have hx32 := hg.1
  have hy32 := hg.2.1
  have hs := hg.2.2.1
  obtain ⟨a1, a2, a3, a4⟩ := hg.2.2.2.1
  obtain ⟨q1, q2, q3, q4⟩ := hq
  obtain ⟨p1, p2, p3, p4⟩ := hp
  have c1 : (terrain_Check g != 0) = false := by simp [checkGrid_iff.2 hg]
  have c2 : (plane_Check q != 0) = false := by simp [checkP_iff.2 (show q.In from ⟨q1, q2, q3, q4⟩)]
  have base := (highest_in hg p r).1
  unfold terrain_Height
  simp only [c1, c2, cond_false]
  rw [w64_id (x := q.X - g.At.X) (by omega), w64_id (x := q.Y - g.At.Y) (by omega), divDown_eq (by omega) (by omega), divDown_eq (by omega) (by omega), w64_id (x := g.NX - 1) (by omega), w64_id (x := g.NY - 1) (by omega)]
  simp only [out_terrain]
  obtain ⟨x, hx⟩ : ∃ x, x = (q.X - g.At.X) / g.Size := ⟨_, rfl⟩
  obtain ⟨y, hy⟩ : ∃ y, y = (q.Y - g.At.Y) / g.Size := ⟨_, rfl⟩
  rw [← hx, ← hy]
  by_cases h1 : 0 ≤ x ∧ x ≤ g.NX - 1
  · rw [decide_eq_false (not_not_intro h1), cond_false]
    by_cases h2 : 0 ≤ y ∧ y ≤ g.NY - 1
    · rw [decide_eq_false (not_not_intro h2), cond_false]
      refine ⟨rfl, (heights_in hg _).1, ?_⟩
      have mx := Int.mul_ediv_add_emod (q.X - g.At.X) g.Size
      have my := Int.mul_ediv_add_emod (q.Y - g.At.Y) g.Size
      have rx0 := Int.emod_nonneg (q.X - g.At.X) (show g.Size ≠ 0 by omega)
      have rx1 := Int.emod_lt_of_pos (q.X - g.At.X) (show 0 < g.Size by omega)
      have ry0 := Int.emod_nonneg (q.Y - g.At.Y) (show g.Size ≠ 0 by omega)
      have ry1 := Int.emod_lt_of_pos (q.Y - g.At.Y) (show 0 < g.Size by omega)
      rw [← hx, Int.mul_comm] at mx
      rw [← hy, Int.mul_comm] at my
      obtain ⟨X, hX⟩ : ∃ X : Nat, x = (X : Int) := ⟨x.toNat, by omega⟩
      obtain ⟨Y, hY⟩ : ∃ Y : Nat, y = (Y : Int) := ⟨y.toNat, by omega⟩
      have ml := mul_in0 (a := x) (b := g.Size) (A := 31) (B := 1000000) (by omega) (by omega)
      have ml2 := mul_in0 (a := y) (b := g.Size) (A := 31) (B := 1000000) (by omega) (by omega)
      rw [hX] at mx ml
      rw [hY] at my ml2
      have near : Near g p r X Y := by
        unfold Near
        have bx := between_in (p := p.X) (lo := g.At.X + (X : Int) * g.Size) (hi := g.At.X + (X : Int) * g.Size + g.Size - 1) (by omega)
        have by_ := between_in (p := p.Y) (lo := g.At.Y + (Y : Int) * g.Size) (hi := g.At.Y + (Y : Int) * g.Size + g.Size - 1) (by omega)
        have nx := between_near (p := p.X) (q := q.X) (lo := g.At.X + (X : Int) * g.Size) (hi := g.At.X + (X : Int) * g.Size + g.Size - 1) (by omega)
        have ny := between_near (p := p.Y) (q := q.Y) (lo := g.At.Y + (Y : Int) * g.Size) (hi := g.At.Y + (Y : Int) * g.Size + g.Size - 1) (by omega)
        have d1 := sq_bound (x := num_Between p.X (g.At.X + (X : Int) * g.Size) (g.At.X + (X : Int) * g.Size + g.Size - 1) - p.X) (n := 100000000) (by omega)
        have d2 := sq_bound (x := num_Between p.Y (g.At.Y + (Y : Int) * g.Size) (g.At.Y + (Y : Int) * g.Size + g.Size - 1) - p.Y) (n := 100000000) (by omega)
        show w64 (w64 (w64 (_ - _) * w64 (_ - _)) + w64 (w64 (_ - _) * w64 (_ - _))) ≤ _
        dsimp only
        rw [w64_id (x := num_Between p.X _ _ - p.X) (by omega), w64_id (x := num_Between p.Y _ _ - p.Y) (by omega), w64_id (x := (num_Between p.X _ _ - p.X) * _) (by omega), w64_id (x := (num_Between p.Y _ _ - p.Y) * _) (by omega), w64_id (by omega)]
        omega
      rw [hX, hY]
      show g.Heights[(w64 (w64 ((Y : Int) * g.NX) + (X : Int))).toNat]?.getD 0 ≤ _
      unfold terrain_highest bindv
      exact highest_L1_ge hg ⟨hr.1, by omega⟩ (by omega) (by omega) near _ 0 0 (by decide) (Nat.zero_le _) (by omega) (by omega)
    · rw [decide_eq_true h2, cond_true]; exact ⟨rfl, Int.le_refl _, base⟩
  · rw [decide_eq_true h1, cond_true]; exact ⟨rfl, Int.le_refl _, base⟩
end Go.Sky
