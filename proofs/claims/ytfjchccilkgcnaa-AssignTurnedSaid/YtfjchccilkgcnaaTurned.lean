/- Assignments under an order of the rows, under a further column, and without or with a great cost of a miss. Conditions: in each theorem. -/
import Derived.Test.YtfjchccilkgcnaaBest
namespace Go.Sky
open Go Go.Eng

theorem gbs_set {l : List Bool} {i k : Nat} (h : i ≠ k) : gb (l.set i true) k = gb l k := by
  unfold gb; rw [List.getElem?_set_ne h]
theorem gbs_ne {l : List Bool} {i k : Nat} (h : gb (l.set i true) k = false) (hi : i < l.length) : i ≠ k := by
  rintro rfl
  unfold gb at h
  rw [List.getElem?_set_self hi] at h
  cases h
theorem gbs_of {l : List Bool} {i k : Nat} (h : gb (l.set i true) k = false) : gb l k = false := by
  by_cases e : i = k
  · subst e
    by_cases hi : i < l.length
    · exact absurd rfl (gbs_ne h hi)
    · rwa [List.set_eq_of_length_le (by omega)] at h
  · rwa [gbs_set e] at h

theorem Val.perm {miss : Int} {rows rows' : List (List Int)} (hp : rows.Perm rows') : ∀ {taken : List Bool} {t : Int}, (∀ r ∈ rows, r.length ≤ taken.length) → Val miss rows taken t → Val miss rows' taken t := by
  induction hp with
  | nil => intro _ _ _ h; exact h
  | cons x _ ih =>
    intro taken t hl h
    cases h with
    | skip h => exact .skip (ih (fun r hr => hl r (List.mem_cons_of_mem _ hr)) h)
    | pick k h1 h2 h3 h => exact .pick k h1 h2 h3 (ih (fun r hr => by rw [List.length_set]; exact hl r (List.mem_cons_of_mem _ hr)) h)
  | swap x y l =>
    intro taken t hl h
    have hx := hl x (by simp)
    have hy := hl y (by simp)
    cases h with
    | skip h =>
      cases h with
      | skip h => exact .skip (.skip h)
      | @pick _ _ _ t k h1 h2 h3 h => rw [show miss + (gt x k + t) = gt x k + (miss + t) by omega]; exact .pick k h1 h2 h3 (.skip h)
    | pick k h1 h2 h3 h =>
      cases h with
      | @skip _ _ _ t h => rw [show gt y k + (miss + t) = miss + (gt y k + t) by omega]; exact .skip (.pick k h1 h2 h3 h)
      | @pick _ _ _ t j j1 j2 j3 h =>
        have ne : k ≠ j := gbs_ne j2 (by omega)
        rw [show gt y k + (gt x j + t) = gt x j + (gt y k + t) by omega]
        refine .pick j j1 (gbs_of j2) j3 (.pick k h1 (by rw [gbs_set (fun e => ne e.symm)]; exact h2) h3 ?_)
        rwa [List.set_comm _ _ ne] at h
  | trans p _ ih1 ih2 =>
    intro taken t hl h
    exact ih2 (fun r hr => hl r (p.mem_iff.2 hr)) (ih1 hl h)

/-- The rows, each with one column more. -/
def wider : List (List Int) → List Int → List (List Int)
  | [], _ => []
  | r :: rs, [] => (r ++ [(-1)]) :: wider rs []
  | r :: rs, c :: cs => (r ++ [c]) :: wider rs cs

theorem Val.wide {miss : Int} {rows : List (List Int)} {taken : List Bool} {t : Int} (h : Val miss rows taken t) : ∀ (more : List Int), (∀ r ∈ rows, r.length = taken.length) → Val miss (wider rows more) (taken ++ [false]) t := by
  induction h with
  | nil taken => intro more _; exact .nil _
  | skip _ ih =>
    intro more hl
    have := fun m => ih m (fun r hr => hl r (List.mem_cons_of_mem _ hr))
    cases more with
    | nil => exact .skip (this _)
    | cons c cs => exact .skip (this _)
  | @pick row rows taken t k h1 h2 h3 _ ih =>
    intro more hl
    have := fun m => ih m (fun r hr => by rw [List.length_set]; exact hl r (List.mem_cons_of_mem _ hr))
    have hk : k < taken.length := by rw [← hl row (by simp)]; exact h1
    have e : ∀ c : Int, gt (row ++ [c]) k = gt row k := fun c => by unfold gt; rw [List.getElem?_append_left h1]
    have eb : gb (taken ++ [false]) k = false := by unfold gb at h2 ⊢; rw [List.getElem?_append_left hk]; exact h2
    have es : (taken ++ [false]).set k true = taken.set k true ++ [false] := by rw [List.set_append_left _ _ hk]
    cases more with
    | nil => have q := Val.pick (row := row ++ [(-1)]) k (by simp; omega) eb (by rw [e]; exact h3) (by rw [es]; exact this []); rw [e] at q; exact q
    | cons c cs => have q := Val.pick (row := row ++ [c]) k (by simp; omega) eb (by rw [e]; exact h3) (by rw [es]; exact this cs); rw [e] at q; exact q

/-- A column that nobody uses may as well be taken. -/
theorem Pays.unused {miss : Int} {rows : List (List Int)} {taken : List Bool} {to : List Int} {t : Int} (h : Pays miss rows taken to t) : ∀ (k : Nat), (k : Int) ∉ to → Val miss rows (taken.set k true) t := by
  induction h with
  | nil taken => intro k _; exact .nil _
  | skip _ ih => intro k hk; exact .skip (ih k fun hm => hk (List.mem_cons_of_mem _ hm))
  | @pick row rows taken to t j h1 h2 h3 _ ih =>
    intro k hk
    have ne : k ≠ j := by rintro rfl; exact hk (by simp)
    refine .pick j h1 (by rw [gbs_set ne]; exact h2) h3 ?_
    rw [List.set_comm _ _ ne]
    exact ih k fun hm => hk (List.mem_cons_of_mem _ hm)

theorem Pays.better {miss : Int} {rows : List (List Int)} {taken : List Bool} {to : List Int} {t : Int} (h : Pays miss rows taken to t) : ∀ (i k : Nat) (row : List Int), rows[i]? = some row → (to[i]?.getD 0) < 0 → k < row.length → gb taken k = false → 0 ≤ gt row k → (k : Int) ∉ to →
    Val miss rows taken (t - miss + gt row k) := by
  induction h with
  | nil taken => intro i k row h; cases i <;> cases h
  | @skip r rows taken to t h ih =>
    intro i k row hr hi hk hb hg hm
    cases i with
    | zero =>
      injection hr with hr
      subst hr
      rw [show miss + t - miss + gt r k = gt r k + t by omega]
      exact .pick k hk hb hg (h.unused k fun q => hm (List.mem_cons_of_mem _ q))
    | succ i =>
      rw [show miss + t - miss + gt row k = miss + (t - miss + gt row k) by omega]
      exact .skip (ih i k row (by simpa using hr) (by simpa using hi) hk hb hg fun q => hm (List.mem_cons_of_mem _ q))
  | @pick r rows taken to t j h1 h2 h3 h ih =>
    intro i k row hr hi hk hb hg hm
    cases i with
    | zero => simp at hi; omega
    | succ i =>
      have ne : j ≠ k := by rintro rfl; exact hm (by simp)
      rw [show gt r j + t - miss + gt row k = gt r j + (t - miss + gt row k) by omega]
      exact .pick j h1 h2 h3 (ih i k row (by simpa using hr) (by simpa using hi) hk (by rw [gbs_set ne]; exact hb) hg fun q => hm (List.mem_cons_of_mem _ q))

theorem swap_perm {α : Type} {l : List α} {i k : Nat} {a b : α} (hi : l[i]? = some a) (hk : l[k]? = some b) : ((l.set i b).set k a).Perm l := by
  obtain ⟨h1, e1⟩ := List.getElem?_eq_some_iff.1 hi
  obtain ⟨h2, e2⟩ := List.getElem?_eq_some_iff.1 hk
  have := Array.swap_perm (xs := l.toArray) (i := i) (j := k) (by simpa using h1) (by simpa using h2)
  have q := this.toList
  simpa [Array.swap_def, e1, e2] using q
end Go.Sky
