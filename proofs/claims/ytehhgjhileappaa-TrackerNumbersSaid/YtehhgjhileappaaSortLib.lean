/- slices.SortFunc at structs, as the shelf of the library has it, turned to rows of the call's own. Conditions: in each theorem. -/
import Derived.Test.YtehhgjhileappaaFct
import Derived.Shelf.SlSortCmp.NoneTotal
namespace Go.Eng
open Go.Sort Go.Proofs Go.Shelf

theorem flat_get {sz : Nat} : ∀ (rows : List (Array Value)) (i j : Nat) (r : Array Value), (∀ r ∈ rows, r.size = sz) → rows[i]? = some r → j < sz → (flat rows)[i * sz + j]? = r[j]?
  | [], i, j, r, _, hi, _ => by simp at hi
  | r0 :: rows, 0, j, r, hall, hi, hj => by
    have h0 := hall r0 (by simp)
    simp only [List.getElem?_cons_zero, Option.some.injEq] at hi
    subst hi
    rw [flat_cons, Nat.zero_mul, Nat.zero_add, List.getElem?_append_left (by rw [Array.length_toList, h0]; exact hj), Array.getElem?_toList]
  | r0 :: rows, i + 1, j, r, hall, hi, hj => by
    have h0 := hall r0 (by simp)
    rw [List.getElem?_cons_succ] at hi
    have e : (i + 1) * sz + j - sz = i * sz + j := by rw [Nat.add_mul]; omega
    rw [flat_cons, List.getElem?_append_right (by rw [Array.length_toList, h0, Nat.add_mul]; omega), Array.length_toList, h0, e]
    exact flat_get rows i j r (fun r hr => hall r (by simp [hr])) hi hj

section
variable {α : Type} [Inhabited α]
theorem flatK_flat {c : α → Array Value} {k : Nat} (hk : ∀ x, (c x).size = k) (l : List α) : (flatK (fun x => (c x).toList) k l.toArray).toList = flat (l.map c) := by
  have hall : ∀ r ∈ l.map c, r.size = k := by
    intro r hr
    obtain ⟨x, _, rfl⟩ := List.mem_map.1 hr
    exact hk x
  have hl := flat_length (l.map c) hall
  rw [List.length_map] at hl
  apply List.ext_getElem?
  intro t
  by_cases ht : t < l.length * k
  · have hk0 : 0 < k := by
      rcases Nat.eq_zero_or_pos k with h | h
      · rw [h, Nat.mul_zero] at ht; omega
      · exact h
    have hi : t / k < l.length := (Nat.div_lt_iff_lt_mul hk0).2 ht
    have hj : t % k < k := Nat.mod_lt _ hk0
    have hg := flat_get (l.map c) (t / k) (t % k) (c (l[t / k]'hi)) hall (by rw [List.getElem?_map, List.getElem?_eq_getElem hi]; rfl) hj
    have et : t / k * k + t % k = t := by rw [Nat.mul_comm]; exact Nat.div_add_mod t k
    rw [et] at hg
    rw [hg]
    have hs : t < (flatK (fun x => (c x).toList) k l.toArray).size := by rw [size_flatK]; simpa using ht
    rw [Array.getElem?_toList, Array.getElem?_eq_getElem hs]
    have hx := get_flatK (fun x => (c x).toList) k l.toArray t (by simpa using ht)
    rw [getElem!_pos (flatK (fun x => (c x).toList) k l.toArray) t hs] at hx
    rw [hx]
    have hsz : t % k < (c (l[t / k]'hi)).size := by rw [hk]; exact hj
    rw [Array.getElem?_eq_getElem hsz]
    have e1 : (l.toArray)[t / k]! = l[t / k]'hi := by
      rw [getElem!_pos l.toArray (t / k) (by simpa using hi)]; simp
    rw [e1, getElem!_pos ((c (l[t / k]'hi)).toList) (t % k) (by simpa using hsz)]
    simp
  · rw [List.getElem?_eq_none (by rw [Array.length_toList, size_flatK]; simpa using Nat.le_of_not_lt ht), List.getElem?_eq_none (by rw [hl]; omega)]

theorem holds_id {w : World} {g : Nat} {cur : Array Value} {e : TypeId} {vs : Array Value} (hb : w.heap[g]? = some (.cells cur e (0, 0))) (ht : cur.toList.take vs.size = vs.toList) : Holds id w g 0 vs := by
  intro j hj
  refine ⟨?_, by simp [World.frozen?, hb]⟩
  have h1 : (cur.toList.take vs.size)[j]? = vs.toList[j]? := by rw [ht]
  rw [List.getElem?_take_of_lt hj, Array.getElem?_toList, Array.getElem?_toList] at h1
  simp only [World.cell?, hb, Nat.zero_add]
  simp only [Option.isSome_none, Bool.false_eq_true, if_false]
  rw [h1]
  simp [hj]
theorem heap_id {w : World} {g n : Nat} {os : Array Obj} {cur : Array Value} {e : TypeId} {fr : Nat × Nat} (d : Array Value) (hb : w.heap[g]? = some (.cells cur e fr)) :
    (grow (putRow id (Sort.ahead w n) g 0 d) os).heap[g]? = some (.cells (putCells id 0 d cur) e fr) := by
  have hg : g < w.heap.size := (Array.getElem?_eq_some_iff.1 hb).1
  rw [heap_grow_old _ _ (by simpa using hg)]
  simp [putRow, mapBlock, Sort.ahead, Array.getElem?_modify, hb, onCells]
theorem grown_id {w : World} {g n : Nat} {os : Array Obj} (d : Array Value) : w.grownBy (grow (putRow id (Sort.ahead w n) g 0 d) os) (some g) := by
  refine ⟨rfl, rfl, rfl, by simp, fun k hk hne => ?_⟩
  rw [heap_grow_old _ _ (by simpa using hk)]
  have : g ≠ k := fun e => hne (by rw [e])
  simp [putRow, mapBlock, Sort.ahead, Array.getElem?_modify, this]
theorem take_id (cur : Array Value) (vs : Array Value) (h : vs.size ≤ cur.size) : (putCells id 0 vs cur).toList.take vs.size = vs.toList := by
  apply List.ext_getElem?
  intro j
  by_cases hj : j < vs.size
  · rw [List.getElem?_take_of_lt hj, Array.getElem?_toList, Array.getElem?_toList]
    simp [putCells, hj, show j < cur.size by omega]
  · rw [List.getElem?_take_eq_none (by omega), List.getElem?_eq_none (by simp; omega)]

/-- What only lays blocks and draws, as the library says it. -/
theorem grown_of_below {w w' : World} (h : Below w.heap.size w w') : ∃ q os', w' = grow (w.drewN q) os' := by
  refine ⟨w'.drawn - w.drawn, w'.heap.extract w.heap.size w'.heap.size, ?_⟩
  have hd : w.drawn + (w'.drawn - w.drawn) = w'.drawn := by have := h.drawn; omega
  have hh : w.heap ++ w'.heap.extract w.heap.size w'.heap.size = w'.heap := by
    apply Array.ext_getElem?
    intro i
    by_cases hi : i < w.heap.size
    · rw [Array.getElem?_append_left hi]; exact (h.block i hi).symm
    · rw [Array.getElem?_append_right (by omega)]
      by_cases hi2 : i < w'.heap.size
      · rw [Array.getElem?_extract]
        simp only [show i - w.heap.size < min w'.heap.size w'.heap.size - w.heap.size by omega, if_true]
        congr 1; omega
      · rw [Array.getElem?_eq_none (by simp; omega), Array.getElem?_eq_none (by omega)]
  obtain ⟨h1, t1, d1, o1, u1⟩ := w
  obtain ⟨h2, t2, d2, o2, u2⟩ := w'
  have a := h.os
  have b := h.tape
  have c := h.output
  simp only at a b c hd hh
  subst a b c
  show World.mk h2 t2 d2 o2 u2 = World.mk _ _ _ _ _
  congr 1
  · exact hh.symm
  · exact hd.symm

/-- slices.SortFunc: the row holds its elements in their order. -/
theorem sort_own {P : Program} {ρ : Ren} (L : SlLaysF0.n6 P ρ) {k : Nat} {c : α → Array Value} (aE : ∀ w, (isAgg (ρ.t 24)).run P w = .ok true w) (zE : ∀ w, (Go.sizeOf (ρ.t 24)).run P w = .ok k w) (hk : ∀ x, (c x).size = k) (h1 : ∀ x, ∀ v ∈ (c x).toList, v.oneCell' = true)
    (cf : α → α → Int) (hO : SWO (ltOf cf)) (g : Nat) (eg : ∀ args w, (callFunc g args).run P w = .ok (.enter g args) w) (hcmp : ∀ x y W, Calls P g #[.agg (c x), .agg (c y)] W (Ret W (.int .i64 (cf x y)))) (hT : ∀ x y, ltOf cf x y = false → ltOf cf y x = false → x = y) (A : Option Addr) (cap e : Nat) (l : List α) (w : World)
    (hM : Sat ⟨w, feet [.inr (Own A cap e k (l.map c))]⟩ [.inr (Own A cap e k (l.map c))] w) :
    Calls P (ρ.f 6) #[.slice A l.length cap, .func (.func g) #[] #[]] w (RetM (Γ := List α) ⟨w, feet [.inr (Own A cap e k (l.map c))]⟩ (fun _ => .tuple #[])
      (fun r => [.inr (Fact (r.length = l.length ∧ r = l.mergeSort (fun x y => !ltOf cf y x))), .inr (Own A cap e k (r.map c))])) := by
  rcases hM.own_at 0 rfl with ⟨hc, hr⟩ | ⟨b, cur, h⟩
  · have hl : l = [] := by simpa using hr
    subst hl
    refine (AnyF.slices_SortFunc_none L A cap _ w).mono ?_
    rintro en w' ⟨rfl, rfl⟩
    exact ⟨[], rfl, hM.fact (by simp)⟩
  · have hl : (l.map c).length = l.length := by simp
    have hat := h.at_; subst hat
    have hh := h.heap
    have hflat := flatK_flat hk l
    have hvs : (flatK (fun x => (c x).toList) k l.toArray).size = l.length * k := by rw [size_flatK]; simp
    have ht : cur.toList.take (flatK (fun x => (c x).toList) k l.toArray).size = (flatK (fun x => (c x).toList) k l.toArray).toList := by
      rw [hflat, hvs]
      have := h.holds
      rwa [hl] at this
    have hcl : CmpLays P g #[] (fun x => (c x).toList) k cf b 0 l.toArray.size w := by
      intro m os dk _ x y
      refine (hcmp x y _).mono ?_
      rintro en w' ⟨he, hb⟩
      exact ⟨he, grown_of_below hb⟩
    have hs62 : l.toArray.size < 4611686018427387904 := by have := h.short; rw [hl] at this; simpa using this
    have hcon := AnyQ.slices_SortFunc_total L k aE zE (fun x => (c x).toList) (fun x => by rw [Array.length_toList, hk]) h1 cf hO g #[] b 0 cap l.toArray w eg hcl (holds_id hh ht) (heap_lt hh) hs62 hT
    rw [List.size_toArray] at hcon
    refine hcon.mono ?_
    rintro en w' ⟨rfl, n, os, rfl⟩
    obtain ⟨d', hd'⟩ : ∃ d', d' = (l.toArray.toList.mergeSort fun x y => !(ltOf cf) y x).toArray := ⟨_, rfl⟩
    rw [← hd']
    have hds : d'.toList = l.mergeSort fun x y => !(ltOf cf) y x := by rw [hd']
    have hdl : d'.toList.length = l.length := by rw [hds, List.length_mergeSort]
    have hflat2 := flatK_flat hk d'.toList
    rw [Array.toArray_toList] at hflat2
    have hvs2 : (flatK (fun x => (c x).toList) k d').size = l.length * k := by rw [size_flatK, ← hdl, Array.length_toList]
    have hle := h.le; rw [hl] at hle
    have hsz := h.size
    have hG := grown_id (w := w) (g := b) (n := n) (os := os) (flatK (fun x => (c x).toList) k d')
    have hB := heap_id (w := w) (g := b) (n := n) (os := os) (cur := cur) (e := e) (fr := (0, 0)) (flatK (fun x => (c x).toList) k d') hh
    refine ⟨d'.toList, rfl, Sat.fact ?_ ⟨hdl, hds⟩⟩
    · refine hM.step (j := 0) (e' := .inr (Own (some ⟨b, 0, none⟩) cap e k (d'.toList.map c))) rfl ⟨hG.os, hG.tape, hG.output, hG.size, fun q hq hf => hG.block q hq (fun he => hf ?_), Nat.le_add_right _ _⟩ ?_ (fun b hb => .inl hb)
      · simp only [Option.some.injEq] at he
        exact ⟨h.pos, _, rfl, he.symm⟩
      · refine .inr ⟨b, putCells id 0 (flatK (fun x => (c x).toList) k d') cur, rfl, h.pos, hB, by rw [List.length_map, hdl]; exact hle, h.max, by simp [putCells, hsz], ?_, ?_, ?_⟩
        · rw [List.length_map, hdl, ← hvs2, take_id cur _ (by rw [hvs2, hsz]; exact Nat.mul_le_mul_right _ hle), hflat2]
        · intro r hr
          obtain ⟨x, _, rfl⟩ := List.mem_map.1 hr
          exact hk x
        · rw [List.length_map, hdl]; have := h.short; rwa [hl] at this
end
end Go.Eng
