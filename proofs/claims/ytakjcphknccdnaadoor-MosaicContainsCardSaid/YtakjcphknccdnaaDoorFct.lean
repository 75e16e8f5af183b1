/- A plain fact carried along with the memory; lists of lists. Conditions: none. -/
import Derived.Test.YtakjcphknccdnaaDoorPlan
import Derived.Test.YtakjcphknccdnaaDoorOk
namespace Go.Eng
open Go.RowKit (Below)

/-- A plain fact that is carried along with the memory. -/
def Fact (p : Prop) : Res where
  foot _ := False
  holds _ := p
  lt _ _ _ h := h.elim
  kept _ _ h _ := h
theorem Sat.fact {w0 : Ctx} {w : World} {M : Mem} {p : Prop} (h : Sat w0 M w) (hp : p) : Sat w0 (.inr (Fact p) :: M) w := h.push (Below.refl _ _) _ hp (fun _ hb => hb.elim)
theorem Sat.fact_at {w0 : Ctx} {w : World} {M : Mem} {p : Prop} (h : Sat w0 M w) (j : Nat) (hj : M[j]? = some (.inr (Fact p))) : p := h.res hj

/-! A list of lists, and the slices as which it stands in memory. -/
section
variable {α : Type} {p : List (List α)} {r : List (Sl α)} {s : Sl α} {x : List α}
theorem sl_get (h : p = r.map Sl.l) (k : Nat) : (r[k]?.getD Sl.zero).l = p[k]?.getD [] := by
  subst h
  rw [List.getElem?_map]
  cases r[k]? <;> rfl
theorem sl_at (h : p = r.map Sl.l) {k : Nat} (hx : p[k]? = some x) : (r[k]?.getD Sl.zero).l = x := by rw [sl_get h, hx]; rfl
theorem sl_len (h : p = r.map Sl.l) : p.length = (r.map Sl.c).length := by subst h; simp
theorem sl_len' (h : p = r.map Sl.l) : p.length = r.length := by subst h; simp
theorem sl_lt (h : p = r.map Sl.l) {k : Nat} (hk : k < p.length) : k < r.length := by rw [← sl_len' h]; exact hk
theorem sl_le (h : p = r.map Sl.l) {k : Nat} (hk : p.length ≤ k) : r.length ≤ k := by rw [← sl_len' h]; exact hk
theorem sl_le' (h : p = r.map Sl.l) {k : Nat} (hk : r.length ≤ k) : p.length ≤ k := by rw [sl_len' h]; exact hk
theorem sl_all {w : World} {sz : Nat} {c : α → Array Value} (h : ∀ s ∈ r, s.rd w sz c) (k : Nat) : (r[k]?.getD Sl.zero).rd w sz c := by
  cases hk : r[k]? with
  | none => exact Sl.rd_zero w sz c
  | some s => exact h s (List.mem_of_getElem? hk)
theorem el_rd {w : World} {sz : Nat} {c : α → Array Value} (h : s.rd w sz c) (e : s.l = x) : Rd w sz s.A (x.map c) := by subst e; exact h.rd
theorem el_le {w : World} {sz : Nat} {c : α → Array Value} (h : s.rd w sz c) (e : s.l = x) : x.length ≤ s.cap := by subst e; exact h.le
theorem hq_drop (h : p = r.map Sl.l) (n : Nat) : p.drop n = (r.drop n).map Sl.l := by subst h; rw [List.map_drop]
theorem hq_take (h : p = r.map Sl.l) (n : Nat) : p.take n = (r.take n).map Sl.l := by subst h; rw [List.map_take]
theorem sl_drop {q : Sl α → Prop} (h : ∀ s ∈ r, q s) (n : Nat) : ∀ s ∈ r.drop n, q s := fun s hs => h s (List.mem_of_mem_drop hs)
theorem sl_take {q : Sl α → Prop} (h : ∀ s ∈ r, q s) (n : Nat) : ∀ s ∈ r.take n, q s := fun s hs => h s (List.mem_of_mem_take hs)
theorem hq_set (h : p = r.map Sl.l) (e : s.l = x) (k : Nat) : p.set k x = (r.set k s).map Sl.l := by subst h e; rw [List.map_set]
theorem sl_set {q : Sl α → Prop} (h : ∀ s ∈ r, q s) {s0 : Sl α} (hs : q s0) {k : Nat} : ∀ s ∈ r.set k s0, q s := fun s hm => by
  rcases List.mem_or_eq_of_mem_set hm with h1 | rfl
  · exact h s h1
  · exact hs
theorem sl_app (h : p = r.map Sl.l) : p ++ [s.l] = (r ++ [s]).map Sl.l := by subst h; simp
theorem sl_cons (e : s.l = x) (h : p = r.map Sl.l) : x :: p = (s :: r).map Sl.l := by subst h e; rfl
end
end Go.Eng
