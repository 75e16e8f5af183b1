/- One round of the search for a shortest way keeps what is known of the potentials. Conditions: in each theorem. -/
import Derived.Test.YtkjdmkgacmkpjaaHungA
namespace Go.Sky
open Go Go.Eng

theorem nodup_le : ∀ (N : Nat) (l : List Nat), l.Nodup → (∀ x ∈ l, x < N) → l.length ≤ N
  | 0, l, _, h => by
    cases l with
    | nil => exact Nat.le_refl _
    | cons x l => exact absurd (h x (List.mem_cons_self ..)) (Nat.not_lt_zero _)
  | N + 1, l, hd, h => by
    by_cases hm : N ∈ l
    · have e := List.length_erase_of_mem hm
      have ih := nodup_le N (l.erase N) (hd.erase N) (fun x hx => by
        have h1 := (hd.mem_erase_iff).1 hx
        have := h x h1.2
        have := h1.1
        omega)
      omega
    · have := nodup_le N l hd (fun x hx => by
        have := h x hx
        have : x ≠ N := fun e => hm (e ▸ hx)
        omega)
      omega

/-- A problem of assignment, with a column of its own for each row that is missed. -/
structure Prob (n m cols : Nat) (c : Int → Nat → Int) (miss : Int) : Prop where
  n1 : 1 ≤ n ∧ n ≤ 32
  m1 : m = cols + n ∧ cols ≤ 32
  mb : 0 ≤ miss ∧ miss ≤ 1099511627776
  cb : ∀ (x j : Nat), 1 ≤ x → x ≤ n → 1 ≤ j → j ≤ m → 0 ≤ c (x : Int) j ∧ c (x : Int) j ≤ 36028797018963968
  own : ∀ (x : Nat), 1 ≤ x → x ≤ n → c (x : Int) (cols + x) = miss
  far : ∀ (x y : Nat), 1 ≤ x → x ≤ n → 1 ≤ y → y ≤ n → x ≠ y → c (x : Int) (cols + y) = 36028797018963968

/-- After k rounds. -/
structure Hung (n m : Nat) (c : Int → Nat → Int) (k : Nat) (u v row way : List Int) : Prop where
  lenu : u.length = n + 1
  lenv : v.length = m + 1
  lenr : row.length = m + 1
  lenw : way.length = m + 1
  rowb : ∀ j, j ≤ m → 0 ≤ gt row j ∧ gt row j ≤ (n : Int)
  rowk : ∀ j, 1 ≤ j → j ≤ m → gt row j ≤ (k : Int)
  inj : ∀ i j, 1 ≤ i → i ≤ m → 1 ≤ j → j ≤ m → gt row i = gt row j → gt row i ≠ 0 → i = j
  sur : ∀ r : Nat, 1 ≤ r → r ≤ k → ∃ j, 1 ≤ j ∧ j ≤ m ∧ gt row j = (r : Int)
  red : ∀ r j : Nat, 1 ≤ r → r ≤ n → 1 ≤ j → j ≤ m → 0 ≤ redc c u v (r : Int) j
  tight : ∀ j, 1 ≤ j → j ≤ m → gt row j ≠ 0 → redc c u v (gt row j) j = 0
  vneg : ∀ j, 1 ≤ j → j ≤ m → gt v j ≤ 0 ∧ (gt row j = 0 → gt v j = 0)
  ub : ∀ r, r ≤ n → 0 ≤ gt u r ∧ gt u r ≤ (k : Int) * 1099511627776
  uz : ∀ r, k < r → r ≤ n → gt u r = 0
  vb : ∀ j, j ≤ m → -((k : Int) * 1099511627776) ≤ gt v j ∧ gt v j ≤ 0
  wayb : ∀ j, j ≤ m → 0 ≤ gt way j ∧ gt way j ≤ (m : Int)

/-- The rows, the new one in column 0. -/
def rowsN (row : List Int) (k : Nat) : List Int := row.set 0 (1 + (k : Int))

theorem rows0 {row : List Int} {k m : Nat} (h : row.length = m + 1) : gt (rowsN row k) 0 = (k : Int) + 1 := by
  unfold rowsN; rw [gt_set _ _ (by omega), if_pos rfl]; omega
theorem rowsS {row : List Int} {k m : Nat} (h : row.length = m + 1) {j : Nat} (hj : 1 ≤ j) : gt (rowsN row k) j = gt row j := by
  unfold rowsN; rw [gt_set _ _ (by omega), if_neg (by omega)]

/-- Within a round: the columns that are used, the latest first, and the one at hand. -/
structure Dij (n m : Nat) (c : Int → Nat → Int) (k : Nat) (row : List Int) (S : List Nat) (a : Nat) (u v way low : List Int) (used : List Bool) : Prop where
  lenu : u.length = n + 1
  lenv : v.length = m + 1
  lenw : way.length = m + 1
  lenl : low.length = m + 1
  lenb : used.length = m + 1
  mem : ∀ j, j ≤ m → (gb used j = true ↔ j ∈ S)
  nodup : (a :: S).Nodup
  le : ∀ j ∈ a :: S, j ≤ m
  z0 : 0 ∈ a :: S
  pos : ∀ j ∈ S, 1 ≤ gt (rowsN row k) j
  order : ∀ (pre : List Nat) (j : Nat) (post : List Nat), a :: S = pre ++ j :: post → j ≠ 0 → ∃ p ∈ post, gt way j = (p : Int) ∧ redc c u v (gt (rowsN row k) p) j = 0
  red : ∀ r j : Nat, 1 ≤ r → r ≤ n → 1 ≤ j → j ≤ m → 0 ≤ redc c u v (r : Int) j
  tight : ∀ j, 1 ≤ j → j ≤ m → gt row j ≠ 0 → redc c u v (gt row j) j = 0
  vneg : ∀ j, 1 ≤ j → j ≤ m → gt v j ≤ 0 ∧ (gt row j = 0 → gt v j = 0)
  ub : ∀ r, r ≤ n → 0 ≤ gt u r ∧ gt u r ≤ (k : Int) * 1099511627776 + gt u (k + 1)
  uz : ∀ r, k + 1 < r → r ≤ n → gt u r = 0
  vb : ∀ j, j ≤ m → -((k : Int) * 1099511627776 + gt u (k + 1)) ≤ gt v j ∧ gt v j ≤ 0
  lowb : ∀ j, j ≤ m → 0 ≤ gt low j ∧ gt low j ≤ 1152921504606846976
  lowU : ∀ j, 1 ≤ j → j ≤ m → j ∉ S → (∀ s ∈ S, gt low j ≤ redc c u v (gt (rowsN row k) s) j) ∧ (S ≠ [] → ∃ p ∈ S, gt way j = (p : Int) ∧ gt low j = redc c u v (gt (rowsN row k) p) j) ∧ (S = [] → gt low j = 1152921504606846976)
  wayb : ∀ j, j ≤ m → 0 ≤ gt way j ∧ gt way j ≤ (m : Int)

section
variable {n m cols : Nat} {costs : List (List Int)} {miss from_ : Int} {taken : List Bool} {k : Nat} {row : List Int}

/-- The new row's potential is at most what it costs to miss it. -/
theorem Dij.top (hP : Prob n m cols (cst costs miss from_ taken) miss) (hk : k < n) (hfree : gt row (cols + (k + 1)) = 0) {S : List Nat} {a : Nat} {u v way low : List Int} {used : List Bool} (h : Dij n m (cst costs miss from_ taken) k row S a u v way low used) : gt u (k + 1) ≤ 1099511627776 := by
  have hm := hP.m1
  have r := h.red (k + 1) (cols + (k + 1)) (by omega) (by omega) (by omega) (by omega)
  have v0 := (h.vneg (cols + (k + 1)) (by omega) (by omega)).2 hfree
  unfold redc at r
  rw [hP.own (k + 1) (by omega) (by omega), v0, Int.toNat_natCast] at r
  have := hP.mb
  omega

theorem dij_step (hP : Prob n m cols (cst costs miss from_ taken) miss) (hk : k < n) (lenr : row.length = m + 1) (hrb : ∀ j, j ≤ m → 0 ≤ gt row j ∧ gt row j ≤ (n : Int)) (hrk : ∀ j, 1 ≤ j → j ≤ m → gt row j ≤ (k : Int))
    (hinj : ∀ i j, 1 ≤ i → i ≤ m → 1 ≤ j → j ≤ m → gt row i = gt row j → gt row i ≠ 0 → i = j) (hfree : gt row (cols + (k + 1)) = 0)
    {S : List Nat} {a : Nat} {u v way low : List Int} {used : List Bool} (h : Dij n m (cst costs miss from_ taken) k row S a u v way low used) (ha : 1 ≤ gt (rowsN row k) a) :
    ∃ (δ : Int) (nx : Nat) (way6 low6 u6 v6 low9 : List Int), assign_least_L4 costs miss from_ taken k row (a : Int) u v used m 0 1152921504606846976 0 way low = (δ, (nx : Int), way6, low6) ∧ assign_least_L5 k row δ (used.set a true) 0 u v low6 = (u6, v6, low9) ∧
      1 ≤ nx ∧ nx ≤ m ∧ Dij n m (cst costs miss from_ taken) k row (a :: S) nx u6 v6 way6 low9 (used.set a true) := by
  have hn := hP.n1
  have hm := hP.m1
  have top := h.top hP hk hfree
  have lenb := h.lenb
  have ham : a ≤ m := h.le a (List.mem_cons_self ..)
  obtain ⟨x, hx⟩ : ∃ x, gt (rowsN row k) a = x := ⟨_, rfl⟩
  have R0 := rows0 (k := k) lenr
  have RS := fun j (hj : 1 ≤ j) => rowsS (k := k) lenr hj
  have Rb : ∀ j, j ≤ m → 0 ≤ gt (rowsN row k) j ∧ gt (rowsN row k) j ≤ (k : Int) + 1 := fun j hj => by
    by_cases e : j = 0
    · subst e; omega
    · rw [RS j (by omega)]
      have := hrb j hj
      have := hrk j (by omega) hj
      omega
  have hxb : 1 ≤ x ∧ x ≤ (k : Int) + 1 := ⟨hx ▸ ha, hx ▸ (Rb a ham).2⟩
  have kK : (k : Int) * 1099511627776 ≤ 31 * 1099511627776 := by omega
  have hu : ∀ r, r ≤ n → 0 ≤ gt u r ∧ gt u r ≤ 70368744177664 := fun r hr => by have := h.ub r hr; omega
  have hv : ∀ j, j ≤ m → -70368744177664 ≤ gt v j ∧ gt v j ≤ 0 := fun j hj => by have := h.vb j hj; omega
  have ex : ((x.toNat : Nat) : Int) = x := by omega
  have hcx : ∀ j, 1 ≤ j → j ≤ m → 0 ≤ cst costs miss from_ taken x j ∧ cst costs miss from_ taken x j ≤ 36028797018963968 := fun j h1 h2 => by
    have := hP.cb x.toNat j (by omega) (by omega) h1 h2
    rwa [ex] at this
  have Um : ∀ j, j ≤ m → (gb (used.set a true) j = true ↔ j ∈ a :: S) := fun j hj => by
    rw [gb_set _ _ (by omega)]
    by_cases e : j = a
    · subst e; simp
    · rw [if_neg e, h.mem j hj]; simp [e]
  have Uf : ∀ j, j ≤ m → (gb (used.set a true) j = false ↔ j ∉ a :: S) := fun j hj => by
    rw [← Um j hj]; cases gb (used.set a true) j <;> simp
  -- the scan
  obtain ⟨δ, next, way6, low6, e4, sc⟩ := scan (costs := costs) (miss := miss) (from_ := from_) (taken := taken) (kk := k) (row := row) (u := u) (v := v) (low := low) (way := way) (used := used) (m := m) (a := a) (x := x) hx (by omega) (by omega) (hu x.toNat (by omega)) hv hcx m 0 1152921504606846976 0 way low (by omega)
    ⟨h.lenw, h.lenl, fun j _ _ => ⟨rfl, rfl⟩, fun j h1 h2 _ => by omega, .inl ⟨rfl, rfl⟩⟩
  -- a column that is not used
  have hfr : (cols + (k + 1)) ∉ a :: S := by
    intro hmem
    have : 1 ≤ gt (rowsN row k) (cols + (k + 1)) := by
      rcases List.mem_cons.1 hmem with e | e
      · rw [e]; exact ha
      · exact h.pos _ e
    rw [RS _ (by omega), hfree] at this
    omega
  have small : ∀ j, 1 ≤ j → j ≤ m → redc (cst costs miss from_ taken) u v x j ≤ 36099165763141632 := fun j h1 h2 => by
    have := hcx j h1 h2
    have := hv j h2
    have := hu x.toNat (by omega)
    unfold redc; omega
  have hδ : δ < 1152921504606846976 := by
    obtain ⟨d1, d2⟩ := sc.done (cols + (k + 1)) (by omega) (by omega) ((Uf _ (by omega)).2 hfr)
    have := small (cols + (k + 1)) (by omega) (by omega)
    rcases d2 with ⟨q1, _, _⟩ | ⟨q1, _, q3⟩ <;> omega
  obtain ⟨nx, n1, n2, n3, n4, n5, _⟩ : ∃ nx : Nat, next = (nx : Int) ∧ 1 ≤ nx ∧ nx ≤ m ∧ gb (used.set a true) nx = false ∧ gt low6 nx = δ ∧ δ < 1152921504606846976 := by
    rcases sc.best with ⟨b1, _⟩ | b
    · omega
    · exact b
  have redx : ∀ j, 1 ≤ j → j ≤ m → 0 ≤ redc (cst costs miss from_ taken) u v x j := fun j h1 h2 => by
    have := h.red x.toNat j (by omega) (by omega) h1 h2
    rwa [ex] at this
  have low6b : ∀ j, j ≤ m → 0 ≤ gt low6 j ∧ gt low6 j ≤ 1152921504606846976 := fun j hj => by
    have lb := h.lowb j hj
    by_cases c : j = 0 ∨ gb (used.set a true) j = true
    · rw [(sc.same j hj (by rcases c with c | c; exact .inl c; exact .inr (.inr c))).1]; exact lb
    · have c2 : gb (used.set a true) j = false := by cases q : gb (used.set a true) j; rfl; exact absurd (.inr q) c
      obtain ⟨_, d2⟩ := sc.done j (by omega) hj c2
      have := redx j (by omega) hj
      rcases d2 with ⟨q1, _, q3⟩ | ⟨q1, _, _⟩ <;> omega
  have δ0 : 0 ≤ δ := by have := low6b nx n3; omega
  -- the update
  have Rinj : ∀ i j, i ≤ m → j ≤ m → i ∈ a :: S → j ∈ a :: S → (gt (rowsN row k) i).toNat = (gt (rowsN row k) j).toNat → i = j := by
    intro i j hi hj mi mj e
    have pi : 1 ≤ gt (rowsN row k) i := by
      rcases List.mem_cons.1 mi with q | q
      · rw [q]; exact ha
      · exact h.pos _ q
    have bi := Rb i hi
    have bj := Rb j hj
    have e2 : gt (rowsN row k) i = gt (rowsN row k) j := by omega
    by_cases i0 : i = 0 <;> by_cases j0 : j = 0
    · rw [i0, j0]
    · subst i0
      rw [R0, RS j (by omega)] at e2
      have := hrk j (by omega) hj
      omega
    · subst j0
      rw [R0, RS i (by omega)] at e2
      have := hrk i (by omega) hi
      omega
    · rw [RS i (by omega)] at e2 pi
      rw [RS j (by omega)] at e2
      exact hinj i j (by omega) hi (by omega) hj e2 (by omega)
  obtain ⟨u6, v6, low9, e5, up⟩ := update (kk := k) (row := row) (u := u) (v := v) (low := low6) (U := used.set a true) (n := n) (m := m) (δ := δ) (by rw [List.length_set]; exact lenb) ⟨δ0, by omega⟩ hu hv low6b
    (fun j hj _ => by have := Rb j hj; exact ⟨this.1, by show gt (rowsN row k) j ≤ _; omega⟩)
    (fun i j hi hj mi mj e => Rinj i j hi hj ((Um i hi).1 mi) ((Um j hj).1 mj) e) (used.set a true) 0 u v low6 List.drop_zero
    ⟨h.lenu, h.lenv, sc.lenl, fun j _ => by rw [if_neg (fun q => Nat.not_lt_zero _ q.1)], fun j _ => by rw [if_neg (fun q => Nat.not_lt_zero _ q.1)], fun j q => by omega, fun r _ _ => rfl⟩
  -- what has become of the numbers
  have vU : ∀ j, j ≤ m → j ∈ a :: S → gt v6 j = gt v j - δ := fun j hj mj => by rw [up.vs j hj, if_pos ⟨by omega, (Um j hj).2 mj⟩]
  have vN : ∀ j, j ≤ m → j ∉ a :: S → gt v6 j = gt v j := fun j hj mj => by rw [up.vs j hj, if_neg (fun q => mj ((Um j hj).1 q.2))]
  have lN : ∀ j, j ≤ m → j ∉ a :: S → gt low9 j = gt low6 j - δ := fun j hj mj => by rw [up.ls j hj, if_pos ⟨by omega, (Uf j hj).2 mj⟩]
  have lU : ∀ j, j ≤ m → j ∈ a :: S → gt low9 j = gt low6 j := fun j hj mj => by rw [up.ls j hj, if_neg (fun q => (Uf j hj).1 q.2 mj)]
  have uU : ∀ s, s ≤ m → s ∈ a :: S → gt u6 (gt (rowsN row k) s).toNat = gt u (gt (rowsN row k) s).toNat + δ := fun s hs ms => up.us s (by omega) hs ((Um s hs).2 ms)
  have uN : ∀ r, r ≤ n → (∀ s, s ≤ m → s ∈ a :: S → (gt (rowsN row k) s).toNat ≠ r) → gt u6 r = gt u r := fun r hr q => up.un r hr fun j _ hj mj => q j hj ((Um j hj).1 mj)
  have dich : ∀ r, r ≤ n → (∃ s, s ≤ m ∧ s ∈ a :: S ∧ (gt (rowsN row k) s).toNat = r ∧ gt u6 r = gt u r + δ) ∨ ((∀ s, s ≤ m → s ∈ a :: S → (gt (rowsN row k) s).toNat ≠ r) ∧ gt u6 r = gt u r) := fun r hr => by
    by_cases q : ∃ s, s ≤ m ∧ s ∈ a :: S ∧ (gt (rowsN row k) s).toNat = r
    · obtain ⟨s, s1, s2, s3⟩ := q
      exact .inl ⟨s, s1, s2, s3, by rw [← s3]; exact uU s s1 s2⟩
    · exact .inr ⟨fun s s1 s2 s3 => q ⟨s, s1, s2, s3⟩, uN r hr fun s s1 s2 s3 => q ⟨s, s1, s2, s3⟩⟩
  have lem : ∀ j ∈ a :: S, j ≤ m := h.le
  -- reduced costs of used rows
  have rU : ∀ s, s ∈ a :: S → ∀ j, j ≤ m → j ∉ a :: S → redc (cst costs miss from_ taken) u6 v6 (gt (rowsN row k) s) j = redc (cst costs miss from_ taken) u v (gt (rowsN row k) s) j - δ := fun s ms j hj mj => by
    unfold redc; rw [uU s (lem s ms) ms, vN j hj mj]; omega
  have rUU : ∀ s, s ∈ a :: S → ∀ j, j ≤ m → j ∈ a :: S → redc (cst costs miss from_ taken) u6 v6 (gt (rowsN row k) s) j = redc (cst costs miss from_ taken) u v (gt (rowsN row k) s) j := fun s ms j hj mj => by
    unfold redc; rw [uU s (lem s ms) ms, vU j hj mj]; omega
  have lowle : ∀ j, 1 ≤ j → j ≤ m → j ∉ a :: S → δ ≤ gt low6 j ∧ ∀ s ∈ a :: S, gt low6 j ≤ redc (cst costs miss from_ taken) u v (gt (rowsN row k) s) j := fun j h1 h2 mj => by
    obtain ⟨d1, d2⟩ := sc.done j h1 h2 ((Uf j h2).2 mj)
    refine ⟨d1, fun s ms => ?_⟩
    obtain ⟨lu1, _, _⟩ := h.lowU j h1 h2 (fun q => mj (List.mem_cons_of_mem _ q))
    rcases List.mem_cons.1 ms with e | e
    · rw [e, hx]
      rcases d2 with ⟨q1, _, _⟩ | ⟨q1, _, q3⟩ <;> omega
    · have := lu1 s e
      rcases d2 with ⟨q1, _, q3⟩ | ⟨q1, _, _⟩ <;> omega
  have from6 : ∀ j, 1 ≤ j → j ≤ m → j ∉ a :: S → ∃ p ∈ a :: S, gt way6 j = (p : Int) ∧ gt low6 j = redc (cst costs miss from_ taken) u v (gt (rowsN row k) p) j := fun j h1 h2 mj => by
    obtain ⟨d1, d2⟩ := sc.done j h1 h2 ((Uf j h2).2 mj)
    obtain ⟨_, lu2, lu3⟩ := h.lowU j h1 h2 (fun q => mj (List.mem_cons_of_mem _ q))
    rcases d2 with ⟨q1, q2, _⟩ | ⟨q1, q2, q3⟩
    · exact ⟨a, List.mem_cons_self .., q2, by rw [q1, hx]⟩
    · by_cases hS : S = []
      · have := lu3 hS
        have := small j h1 h2
        omega
      · obtain ⟨p, p1, p2, p3⟩ := lu2 hS
        exact ⟨p, List.mem_cons_of_mem _ p1, by rw [q2, p2], by rw [q1, p3]⟩
  have nxm : nx ∉ a :: S := (Uf nx n3).1 n4
  have posA : ∀ j ∈ a :: S, 1 ≤ gt (rowsN row k) j := fun j hj => by
    rcases List.mem_cons.1 hj with e | e
    · rw [e]; exact ha
    · exact h.pos j e
  have uk : gt u6 (k + 1) = gt u (k + 1) + δ := by
    have := uU 0 (Nat.zero_le _) h.z0
    rwa [R0, show ((k : Int) + 1).toNat = k + 1 by omega] at this
  refine ⟨δ, nx, way6, low6, u6, v6, low9, by rw [e4, n1], e5, n2, n3, ?_⟩
  refine ⟨up.lenu, up.lenv, sc.lenw, up.lenl, by rw [List.length_set]; exact lenb, Um, ?_, ?_, List.mem_cons_of_mem _ h.z0, posA, ?_, ?_, ?_, ?_, ?_, ?_, ?_, ?_, ?_, ?_⟩
  · exact List.nodup_cons.2 ⟨nxm, h.nodup⟩
  · intro j hj
    rcases List.mem_cons.1 hj with e | e
    · rw [e]; exact n3
    · exact lem j e
  · -- order
    intro pre j post hp hj0
    rcases pre with _ | ⟨b, pre⟩
    · rw [List.nil_append] at hp
      injection hp with hp1 hp2
      subst hp1
      obtain ⟨p, p1, p2, p3⟩ := from6 nx n2 n3 nxm
      refine ⟨p, by rw [← hp2]; exact p1, p2, ?_⟩
      rw [rU p p1 nx n3 nxm, ← p3, n5]; omega
    · rw [List.cons_append] at hp
      injection hp with hp1 hp2
      obtain ⟨p, p1, p2, p3⟩ := h.order pre j post hp2 hj0
      have mj : j ∈ a :: S := by rw [hp2]; simp
      have mp : p ∈ a :: S := by rw [hp2]; simp [p1]
      have jm := lem j mj
      refine ⟨p, p1, ?_, ?_⟩
      · rw [(sc.same j jm (.inr (.inr ((Um j jm).2 mj)))).2]; exact p2
      · rw [rUU p mp j jm mj]; exact p3
  · -- reduced costs
    intro r j r1 r2 j1 j2
    have base := h.red r j r1 r2 j1 j2
    rcases dich r r2 with ⟨s, s1, s2, s3, s4⟩ | ⟨_, s4⟩
    · by_cases mj : j ∈ a :: S
      · unfold redc at base ⊢
        rw [Int.toNat_natCast] at base ⊢
        rw [s4, vU j j2 mj]; omega
      · have := (lowle j j1 j2 mj).1
        have l2 := (lowle j j1 j2 mj).2 s s2
        have e : gt (rowsN row k) s = (r : Int) := by have := Rb s s1; omega
        rw [e] at l2
        unfold redc at base l2 ⊢
        rw [Int.toNat_natCast] at base l2 ⊢
        rw [s4, vN j j2 mj]; omega
    · unfold redc at base ⊢
      rw [Int.toNat_natCast] at base ⊢
      by_cases mj : j ∈ a :: S
      · rw [s4, vU j j2 mj]; omega
      · rw [s4, vN j j2 mj]; omega
  · -- matched columns stay tight
    intro j j1 j2 hj
    have base := h.tight j j1 j2 hj
    by_cases mj : j ∈ a :: S
    · have := rUU j mj j j2 mj
      rw [RS j j1] at this
      rw [this]; exact base
    · have hb := hrb j j2
      have e : gt u6 (gt row j).toNat = gt u (gt row j).toNat := by
        refine uN _ (by omega) fun s s1 s2 s3 => ?_
        have ps := posA s s2
        by_cases s0 : s = 0
        · subst s0
          rw [R0] at s3
          have := hrk j j1 j2
          omega
        · rw [RS s (by omega)] at s3 ps
          have := hinj s j (by omega) s1 j1 j2 (by omega) (by omega)
          rw [this] at s2
          exact mj s2
      unfold redc at base ⊢
      rw [e, vN j j2 mj]; exact base
  · intro j j1 j2
    obtain ⟨b1, b2⟩ := h.vneg j j1 j2
    by_cases mj : j ∈ a :: S
    · rw [vU j j2 mj]
      refine ⟨by omega, fun q => ?_⟩
      have := posA j mj
      rw [RS j j1, q] at this
      omega
    · rw [vN j j2 mj]; exact ⟨b1, b2⟩
  · intro r hr
    have b := h.ub r hr
    rw [uk]
    rcases dich r hr with ⟨s, _, _, _, s4⟩ | ⟨_, s4⟩ <;> rw [s4] <;> omega
  · intro r r1 r2
    rw [← h.uz r r1 r2]
    refine uN r r2 fun s s1 s2 s3 => ?_
    have := Rb s s1
    omega
  · intro j hj
    have b := h.vb j hj
    rw [uk]
    by_cases mj : j ∈ a :: S
    · rw [vU j hj mj]; omega
    · rw [vN j hj mj]; omega
  · intro j hj
    have b := low6b j hj
    by_cases mj : j ∈ a :: S
    · rw [lU j hj mj]; exact b
    · have j0 : 1 ≤ j := by
        rcases Nat.eq_zero_or_pos j with e | e
        · rw [e] at mj; exact absurd h.z0 mj
        · exact e
      have := (lowle j j0 hj mj).1
      rw [lN j hj mj]; omega
  · intro j j1 j2 mj
    refine ⟨fun s ms => ?_, fun _ => ?_, fun q => by cases q⟩
    · have := (lowle j j1 j2 mj).2 s ms
      rw [lN j j2 mj, rU s ms j j2 mj]; omega
    · obtain ⟨p, p1, p2, p3⟩ := from6 j j1 j2 mj
      exact ⟨p, p1, p2, by rw [lN j j2 mj, rU p p1 j j2 mj, p3]⟩
  · intro j hj
    have b := h.wayb j hj
    by_cases c : j = 0 ∨ gb (used.set a true) j = true
    · rw [(sc.same j hj (by rcases c with c | c; exact .inl c; exact .inr (.inr c))).2]; exact b
    · have c2 : gb (used.set a true) j = false := by cases q : gb (used.set a true) j; rfl; exact absurd (.inr q) c
      obtain ⟨_, d2⟩ := sc.done j (by omega) hj c2
      rcases d2 with ⟨_, q2, _⟩ | ⟨_, q2, _⟩
      · rw [q2]; omega
      · rw [q2]; exact b

/-- The search ends at a column without a row. -/
theorem dij_loop (hP : Prob n m cols (cst costs miss from_ taken) miss) (hk : k < n) (lenr : row.length = m + 1) (hrb : ∀ j, j ≤ m → 0 ≤ gt row j ∧ gt row j ≤ (n : Int)) (hrk : ∀ j, 1 ≤ j → j ≤ m → gt row j ≤ (k : Int))
    (hinj : ∀ i j, 1 ≤ i → i ≤ m → 1 ≤ j → j ≤ m → gt row i = gt row j → gt row i ≠ 0 → i = j) (hfree : gt row (cols + (k + 1)) = 0) :
    ∀ (f : Nat) (S : List Nat) (a : Nat) (u v way low : List Int) (used : List Bool), Dij n m (cst costs miss from_ taken) k row S a u v way low used → 1 ≤ gt (rowsN row k) a → m + 1 ≤ f + S.length →
      ∃ (S' : List Nat) (e : Nat) (u' v' way' low' : List Int) (used' : List Bool), assign_least_L3 costs miss from_ taken (m : Int) k row f (a : Int) u v way low used = some ((e : Int), u', v', way', low', used') ∧ Dij n m (cst costs miss from_ taken) k row S' e u' v' way' low' used' ∧ gt (rowsN row k) e = 0 ∧ 1 ≤ e
  | 0, S, a, u, v, way, low, used, h, _, hf => by
    have := nodup_le (m + 1) (a :: S) h.nodup (fun x hx => by have := h.le x hx; omega)
    rw [List.length_cons] at this
    omega
  | f + 1, S, a, u, v, way, low, used, h, ha, hf => by
    obtain ⟨δ, nx, way6, low6, u6, v6, low9, e4, e5, n1, n2, h'⟩ := dij_step hP hk lenr hrb hrk hinj hfree h ha
    unfold assign_least_L3
    rw [Int.toNat_natCast, e4]
    unfold bindv
    simp only [Int.toNat_natCast, e5]
    have er : ((row.set 0 (1 + (k : Int)))[nx]?.getD 0) = gt (rowsN row k) nx := rfl
    rw [er]
    by_cases h0 : gt (rowsN row k) nx = 0
    · rw [show (gt (rowsN row k) nx == 0) = true by simpa using h0, cond_true]
      exact ⟨a :: S, nx, u6, v6, way6, low9, _, rfl, h', h0, n1⟩
    · rw [show (gt (rowsN row k) nx == 0) = false by simpa using h0, cond_false]
      have hb : 0 ≤ gt (rowsN row k) nx := by rw [rowsS lenr n1]; exact (hrb nx n2).1
      exact dij_loop hP hk lenr hrb hrk hinj hfree f (a :: S) nx u6 v6 way6 low9 _ h' (by omega) (by rw [List.length_cons]; omega)
end
end Go.Sky
