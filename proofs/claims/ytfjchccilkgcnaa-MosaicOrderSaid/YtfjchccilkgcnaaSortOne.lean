/- The sorted list is one. Conditions: in each theorem. -/
import Derived.Test.YtfjchccilkgcnaaSorting
namespace Go.Srt
open Go Go.Eng

section
variable {T : Type}
def put1 (lt : T → T → Bool) (x : T) : List T → List T
  | [] => [x]
  | y :: ys => bif lt y x then y :: put1 lt x ys else x :: y :: ys
/-- The sorted list. -/
def isort (lt : T → T → Bool) : List T → List T
  | [] => []
  | x :: xs => put1 lt x (isort lt xs)
/-- Sorted, as a pairwise statement. -/
def Up (lt : T → T → Bool) (l : List T) : Prop := l.Pairwise fun a b => lt b a = false
variable {lt : T → T → Bool} {z : T}

theorem put1_perm (x : T) : ∀ l : List T, (put1 lt x l).Perm (x :: l)
  | [] => .refl _
  | y :: ys => by
    unfold put1
    cases lt y x
    · exact .refl _
    · exact (List.Perm.cons y (put1_perm x ys)).trans (List.Perm.swap x y ys)
theorem isort_perm : ∀ l : List T, (isort lt l).Perm l
  | [] => .refl _
  | x :: xs => (put1_perm x _).trans (List.Perm.cons x (isort_perm xs))
theorem put1_up (o : Ord lt) (x : T) : ∀ l : List T, Up lt l → Up lt (put1 lt x l)
  | [], _ => List.pairwise_singleton _ _
  | y :: ys, h => by
    obtain ⟨h1, h2⟩ := List.pairwise_cons.1 h
    unfold put1
    cases hb : lt y x
    · exact List.pairwise_cons.2 ⟨fun a ha => by
        rcases List.mem_cons.1 ha with rfl | ha
        · exact hb
        · exact o.ntr _ _ _ (h1 a ha) hb, h⟩
    · exact List.pairwise_cons.2 ⟨fun a ha => by
        rcases List.mem_cons.1 ((put1_perm x ys).mem_iff.1 ha) with rfl | ha
        · exact o.asym _ _ hb
        · exact h1 a ha, put1_up o x ys h2⟩
theorem isort_up (o : Ord lt) : ∀ l : List T, Up lt (isort lt l)
  | [] => .nil
  | x :: xs => put1_up o x _ (isort_up o xs)
theorem up_one (tri : ∀ x y, lt x y = false → lt y x = false → x = y) : ∀ l l' : List T, Up lt l → Up lt l' → l.Perm l' → l = l'
  | [], l', _, _, h => (List.nil_perm.1 h).symm
  | x :: xs, [], _, _, h => absurd h.length_eq (by simp)
  | x :: xs, y :: ys, h1, h2, h => by
    obtain ⟨a1, a2⟩ := List.pairwise_cons.1 h1
    obtain ⟨b1, b2⟩ := List.pairwise_cons.1 h2
    have e : x = y := by
      by_cases e : x = y
      · exact e
      · have hx : x ∈ ys := by
          rcases List.mem_cons.1 (h.mem_iff.1 (List.mem_cons_self ..)) with q | q
          · exact absurd q e
          · exact q
        have hy : y ∈ xs := by
          rcases List.mem_cons.1 (h.mem_iff.2 (List.mem_cons_self ..)) with q | q
          · exact absurd q.symm e
          · exact q
        exact tri _ _ (b1 x hx) (a1 y hy)
    subst e
    rw [up_one tri xs ys a2 b2 ((List.perm_cons x).1 h)]
theorem up_srt {l : List T} (h : Srt lt z 0 (l.length : Int) l) : Up lt l := List.pairwise_iff_getElem.2 fun i j hi hj hij => by
  have := h (i : Int) (j : Int) (by omega) (by omega) (by omega)
  unfold ix at this
  rw [Int.toNat_natCast, Int.toNat_natCast, List.getElem?_eq_getElem hi, List.getElem?_eq_getElem hj] at this
  exact this
/-- What the sort hands back. -/
theorem sort_one (o : Ord lt) (tri : ∀ x y, lt x y = false → lt y x = false → x = y) {l d : List T} (h : d.length = l.length ∧ d.Perm l ∧ Srt lt z 0 (d.length : Int) d) : d = isort lt l :=
  up_one tri d (isort lt l) (up_srt h.2.2) (isort_up o l) (h.2.1.trans (isort_perm l).symm)
theorem isort_congr (o : Ord lt) (tri : ∀ x y, lt x y = false → lt y x = false → x = y) {l l' : List T} (h : l.Perm l') : isort lt l = isort lt l' :=
  up_one tri _ _ (isort_up o l) (isort_up o l') ((isort_perm l).trans (h.trans (isort_perm l').symm))
theorem isort_self (o : Ord lt) (tri : ∀ x y, lt x y = false → lt y x = false → x = y) {l : List T} (h : Up lt l) : isort lt l = l := up_one tri _ _ (isort_up o l) h (isort_perm l)
theorem isort_len (l : List T) : (isort lt l).length = l.length := (isort_perm l).length_eq
end
end Go.Srt
