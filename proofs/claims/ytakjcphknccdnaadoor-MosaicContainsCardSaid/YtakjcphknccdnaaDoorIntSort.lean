/- slices.Sort at integers, as the shelf of the library has it, turned to rows of the call's own. Conditions: none. -/
import Derived.Test.YtakjcphknccdnaaDoorFct
import Derived.Shelf.Sort.Plain
import Derived.Shelf.Slices.In.SortNone
import Derived.Sort.OwnSortedInts
namespace Go.Eng
open Go.RowKit Go.Sort Go.Proofs Go.Shelf

theorem flat_ic (l : List Int) : flat (l.map ic) = l.map (Value.int .i64) := by
  induction l with
  | nil => rfl
  | cons x l ih => rw [List.map_cons, flat_cons, ih]; rfl

theorem ints_sort {P : Program} {ρ : Ren} (L : Lays.n189 P ρ) (A : Option Addr) (cap e : Nat) (l : List Int) (w : World) (hM : Sat ⟨w, feet [.inr (Own A cap e 1 (l.map ic))]⟩ [.inr (Own A cap e 1 (l.map ic))] w) :
    Calls P (ρ.f 189) #[.slice A l.length cap] w (RetM (Γ := List Int) ⟨w, feet [.inr (Own A cap e 1 (l.map ic))]⟩ (fun _ => .tuple #[])
      (fun g => [.inr (Fact (g.length = l.length ∧ g = l.mergeSort (fun x y => decide (x ≤ y)))), .inr (Own A cap e 1 (g.map ic))])) := by
  rcases hM.own_at 0 rfl with ⟨hc, hr⟩ | ⟨g, cur, h⟩
  · have hl : l = [] := by simpa using hr
    subst hl
    refine (Any.slices_Sort_int_none L A cap w).mono ?_
    rintro en w' ⟨rfl, rfl⟩
    exact ⟨[], rfl, hM.fact (by simp)⟩
  · have hl : (l.map ic).length = l.length := by simp
    have hat := h.at_; subst hat
    have hh := h.heap
    have ht : cur.toList.take l.length = l.map (Value.int .i64) := by
      have := h.holds
      rwa [hl, Nat.mul_one, flat_ic] at this
    refine (Any.slices_Sort_int L g 0 cap l w (holds_of_blockI hh ht) (heap_lt hh) (by have := h.short; rwa [hl] at this)).mono ?_
    rintro en w' ⟨rfl, n, os, rfl⟩
    generalize hs : l.mergeSort (fun x y => decide (x ≤ y)) = s
    have hsl : s.length = l.length := by rw [← hs, List.length_mergeSort]
    have hle := h.le; rw [hl] at hle
    have hG := grownBy_sortedI (w := w) (g := g) (n := n) (os := os) s.toArray
    have hB := heap_sortedI (w := w) (g := g) (n := n) (os := os) (cur := cur) (e := e) (fr := (0, 0)) s.toArray hh
    refine ⟨s, rfl, Sat.fact ?_ ⟨hsl, rfl⟩⟩
    have hsz := h.size
    refine hM.step (j := 0) (e' := .inr (Own (some ⟨g, 0, none⟩) cap e 1 (s.map ic))) rfl ⟨hG.os, hG.tape, hG.output, hG.size, fun k hk hf => hG.block k hk (fun he => hf ?_)⟩ ?_ (fun b hb => .inl hb)
    · simp only [Option.some.injEq] at he
      exact ⟨h.pos, _, rfl, he.symm⟩
    · refine .inr ⟨g, putCells (Value.int .i64) 0 s.toArray cur, rfl, h.pos, hB, by simp [hsl, hle], h.max, by simp [putCells, hsz], ?_, ?_, ?_⟩
      · rw [List.length_map, Nat.mul_one, flat_ic]
        exact take_putCellsI cur s (by omega)
      · intro r hr
        simp only [List.mem_map] at hr
        obtain ⟨x, _, rfl⟩ := hr; rfl
      · rw [List.length_map, hsl]; have := h.short; rwa [hl] at this
end Go.Eng
