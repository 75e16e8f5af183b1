/- Rows of structs that hold a slice: the pure list, and the list as it stands in memory. Conditions: in each theorem. -/
import Derived.Test.YtngnagndhikafaaDoorThick
import Derived.Test.YtngnagndhikafaaDoorDelta
namespace Go.Eng
/-- A string as an element. -/
def sc (s : ByteArray) : Array Value := #[.string s]
theorem sc_one (s : ByteArray) : (sc s).toList.all Value.oneCell' = true := rfl
section
variable {ρ π α : Type} {f : ρ → π} {p : List π} {r : List ρ} {s : ρ} {x : π}
theorem dl_len {c : ρ → Array Value} (h : p = r.map f) : p.length = (r.map c).length := by subst h; simp
theorem dl_len' (h : p = r.map f) : p.length = r.length := by subst h; simp
theorem dl_lt (h : p = r.map f) {k : Nat} (hk : k < p.length) : k < r.length := by rw [← dl_len' h]; exact hk
theorem dl_le' (h : p = r.map f) {k : Nat} (hk : r.length ≤ k) : p.length ≤ k := by rw [dl_len' h]; exact hk
theorem dl_le (h : p = r.map f) {k : Nat} (hk : p.length ≤ k) : r.length ≤ k := by rw [← dl_len' h]; exact hk
theorem dl_get (h : p = r.map f) (k : Nat) {z : ρ} : f (r[k]?.getD z) = p[k]?.getD (f z) := by
  subst h
  rw [List.getElem?_map]
  cases r[k]? <;> rfl
theorem dl_at (h : p = r.map f) {k : Nat} {z : ρ} (hx : p[k]? = some x) : f (r[k]?.getD z) = x := by rw [dl_get h, hx]; rfl
theorem dl_all {w : World} {sz : Nat} {c : α → Array Value} {S : ρ → Sl α} {z : ρ} (hz : S z = Sl.zero) (h : ∀ s ∈ r.map S, s.rd w sz c) (k : Nat) : (S (r[k]?.getD z)).rd w sz c := by
  cases hk : r[k]? with
  | none => rw [Option.getD_none, hz]; exact Sl.rd_zero w sz c
  | some y => exact h _ (List.mem_map_of_mem (List.mem_of_getElem? hk))
theorem dl_app (h : p = r.map f) (e : f s = x) : p ++ [x] = (r ++ [s]).map f := by subst h e; simp
theorem dl_apph {q : Sl α → Prop} {S : ρ → Sl α} (h : ∀ s ∈ r.map S, q s) (e : q (S s)) : ∀ y ∈ (r ++ [s]).map S, q y := by
  intro y hy
  rw [List.map_append] at hy
  rcases List.mem_append.1 hy with h1 | h1
  · exact h y h1
  · rw [List.map_cons, List.map_nil, List.mem_singleton] at h1
    subst h1
    exact e
theorem dl_take (h : p = r.map f) (n : Nat) : p.take n = (r.take n).map f := by subst h; rw [List.map_take]
theorem dl_takeh {q : Sl α → Prop} {S : ρ → Sl α} (h : ∀ s ∈ r.map S, q s) (n : Nat) : ∀ y ∈ (r.take n).map S, q y := fun y hy => by
  rw [List.map_take] at hy
  exact h y (List.mem_of_mem_take hy)
theorem Sat.bag_addm {f : ρ → Sl α} {w0 : Ctx} {w : World} {M : Mem} {e sz : Nat} {c : α → Array Value} {o : List ρ} (y : ρ) (h : Sat w0 (.inr (Own (f y).A (f y).cap e sz ((f y).l.map c)) :: .inr (Bag e sz c (o.map f)) :: M) w) :
    Sat w0 (.inr (Bag e sz c ((o ++ [y]).map f)) :: M) w := by
  have := Sat.bag_add h
  rw [List.map_append]
  exact this
end
end Go.Eng
namespace Go.Sky
open Go Go.Eng
def WireFrameR.zero : WireFrameR := ⟨0, 0, Sl.zero⟩
theorem WireFrameR.c_at {x : WireFrameR} {y : WireFrame} (h : x.p = y) : x.c = #[.int .i64 y.Radar, .int .i64 y.Time, .slice x.Plots.A y.Plots.length x.Plots.cap] := by subst h; rfl
theorem WireFrameR.lit1 {x : WireFrame} {s : Sl Plot} (h : s.l = x.Plots) : (#[.int .i64 x.Radar, .int .i64 x.Time, .slice s.A x.Plots.length s.cap] : Array Value).toList = Go.Eng.flat ([(⟨x.Radar, x.Time, s⟩ : WireFrameR)].map WireFrameR.c) := by
  obtain ⟨a, b, p⟩ := x
  simp only at h
  subst h
  rfl
theorem WireFrameR.p_at {x : WireFrameR} {y : WireFrame} (h : x.p = y) : (⟨y.Radar, y.Time, x.Plots⟩ : WireFrameR).p = y := by subst h; rfl
end Go.Sky
