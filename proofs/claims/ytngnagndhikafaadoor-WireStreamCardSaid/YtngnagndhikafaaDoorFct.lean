/- Facts that walks use. Conditions: in each theorem. -/
import Derived.Test.YtngnagndhikafaaDoorPlan
import Derived.Test.YtngnagndhikafaaDoorOk
namespace Go.Eng

/-- A plain fact that is carried along with the memory. -/
def Fact (p : Prop) : Res where
  foot _ := False
  holds _ := p
  lt _ _ _ h := h.elim
  kept _ _ h _ := h
theorem Sat.fact {w0 : Ctx} {w : World} {M : Mem} {p : Prop} (h : Sat w0 M w) (hp : p) : Sat w0 (.inr (Fact p) :: M) w := h.push (Below.refl _ _) _ hp (fun _ hb => hb.elim)
theorem Sat.fact_at {w0 : Ctx} {w : World} {M : Mem} {p : Prop} (h : Sat w0 M w) (j : Nat) (hj : M[j]? = some (.inr (Fact p))) : p := h.res hj

/-! A list of lists, and the slices as which it stands in memory. -/
section
variable {α : Type} {p : List (List α)} {r : List (Sl α)} {s : Sl α} {x : List α}
theorem sl_get (h : p = r.map Sl.l) (k : Nat) : (r[k]?.getD Sl.zero).l = p[k]?.getD [] := by
  subst h
  rw [List.getElem?_map]
  cases r[k]? <;> rfl
theorem sl_at (h : p = r.map Sl.l) {k : Nat} (hx : p[k]? = some x) : (r[k]?.getD Sl.zero).l = x := by rw [sl_get h, hx]; rfl
theorem sl_len (h : p = r.map Sl.l) : p.length = (r.map Sl.c).length := by subst h; simp
theorem sl_len' (h : p = r.map Sl.l) : p.length = r.length := by subst h; simp
theorem sl_lt (h : p = r.map Sl.l) {k : Nat} (hk : k < p.length) : k < r.length := by rw [← sl_len' h]; exact hk
theorem sl_le (h : p = r.map Sl.l) {k : Nat} (hk : p.length ≤ k) : r.length ≤ k := by rw [← sl_len' h]; exact hk
theorem sl_le' (h : p = r.map Sl.l) {k : Nat} (hk : r.length ≤ k) : p.length ≤ k := by rw [sl_len' h]; exact hk
theorem sl_all {w : World} {sz : Nat} {c : α → Array Value} (h : ∀ s ∈ r, s.rd w sz c) (k : Nat) : (r[k]?.getD Sl.zero).rd w sz c := by
  cases hk : r[k]? with
  | none => exact Sl.rd_zero w sz c
  | some s => exact h s (List.mem_of_getElem? hk)
theorem el_rd {w : World} {sz : Nat} {c : α → Array Value} (h : s.rd w sz c) (e : s.l = x) : Rd w sz s.A (x.map c) := by subst e; exact h.rd
theorem el_le {w : World} {sz : Nat} {c : α → Array Value} (h : s.rd w sz c) (e : s.l = x) : x.length ≤ s.cap := by subst e; exact h.le
theorem hq_drop (h : p = r.map Sl.l) (n : Nat) : p.drop n = (r.drop n).map Sl.l := by subst h; rw [List.map_drop]
theorem hq_take (h : p = r.map Sl.l) (n : Nat) : p.take n = (r.take n).map Sl.l := by subst h; rw [List.map_take]
theorem sl_drop {q : Sl α → Prop} (h : ∀ s ∈ r, q s) (n : Nat) : ∀ s ∈ r.drop n, q s := fun s hs => h s (List.mem_of_mem_drop hs)
theorem sl_take {q : Sl α → Prop} (h : ∀ s ∈ r, q s) (n : Nat) : ∀ s ∈ r.take n, q s := fun s hs => h s (List.mem_of_mem_take hs)
theorem hq_set (h : p = r.map Sl.l) (e : s.l = x) (k : Nat) : p.set k x = (r.set k s).map Sl.l := by subst h e; rw [List.map_set]
theorem sl_set {q : Sl α → Prop} (h : ∀ s ∈ r, q s) {s0 : Sl α} (hs : q s0) {k : Nat} : ∀ s ∈ r.set k s0, q s := fun s hm => by
  rcases List.mem_or_eq_of_mem_set hm with h1 | rfl
  · exact h s h1
  · exact hs
theorem sl_app (h : p = r.map Sl.l) : p ++ [s.l] = (r ++ [s]).map Sl.l := by subst h; simp
theorem sl_cons (e : s.l = x) (h : p = r.map Sl.l) : x :: p = (s :: r).map Sl.l := by subst h e; rfl
end
end Go.Eng
namespace Go.Eng

/-- Byte i of a string, as a number. -/
def bat (s : ByteArray) (i : Nat) : Int := ((s.data[i]?.getD 0).toNat : Int)
theorem bat_in (s : ByteArray) (i : Nat) : 0 ≤ bat s i ∧ bat s i ≤ 255 := by
  unfold bat
  have := (s.data[i]?.getD 0).toNat_lt
  omega
theorem run_str_index {P : Program} {w : World} {t : TypeId} {k : IntKind} {i : Int} {s : ByteArray} (ht : P.underlying t = some .string) (h0 : 0 ≤ i) (h1 : i < (s.size : Int)) :
    (sV (Instr.index t (.string s) (.int k i))).run P w = .ok (.value (.int .u8 (bat s i.toNat))) w := by
  refine run_sV ?_
  have hu := run_underlying (P := P) (w := w) ht
  have hlt : i.toNat < s.size := by omega
  have hg : s[i.toNat]? = some s.data[i.toNat] := by
    rw [getElem?_pos s i.toNat hlt]; rfl
  have hb : bat s i.toNat = ((s.data[i.toNat]'hlt).toNat : Int) := by
    unfold bat
    rw [Array.getElem?_eq_getElem hlt]; rfl
  simp [Instr.index, asIntOf, hu, h0, hg, hb]

theorem wu64_nn (x : Int) : 0 ≤ wu64 x := by
  show 0 ≤ IntKind.u64.wrap x
  simp only [IntKind.wrap_u64]; omega
theorem wu64_eq (x : Int) : wu64 x = x % 18446744073709551616 := IntKind.wrap_u64 x
theorem wu64_id {x : Int} (h : 0 ≤ x ∧ x ≤ 18446744073709551615) : wu64 x = x := by rw [wu64_eq]; omega
theorem wu8_eq (x : Int) : wu8 x = x % 256 := IntKind.wrap_u8 x
theorem wu8_in (x : Int) : 0 ≤ wu8 x ∧ wu8 x ≤ 255 := by rw [wu8_eq]; omega
end Go.Eng
namespace Go.Sky
open Go Go.Eng

theorem ite_of_cond {α : Type} (c : Bool) (x y : α) : cond c x y = if c = true then x else y := by cases c <;> rfl
theorem tmod_pos {a : Int} (b : Int) (h : 0 ≤ a) : a.tmod b = a % b := Int.tmod_eq_emod_of_nonneg h
theorem tmod_neg {a : Int} (b : Int) (h : a ≤ 0) : a.tmod b = -((-a) % b) := by
  have e : a.tmod b = -((-a).tmod b) := by rw [Int.neg_tmod, Int.neg_neg]
  rw [e, tmod_pos b (by omega)]
theorem tdiv_pos {a : Int} (b : Int) (h : 0 ≤ a) : a.tdiv b = a / b := Int.tdiv_eq_ediv_of_nonneg h
theorem tdiv_neg {a : Int} (b : Int) (h : a ≤ 0) : a.tdiv b = -((-a) / b) := by
  have e : a.tdiv b = -((-a).tdiv b) := by rw [Int.neg_tdiv, Int.neg_neg]
  rw [e, tdiv_pos b (by omega)]

theorem quot_le {a b : Int} (ha : 0 ≤ a) (hb : 0 < b) : 0 ≤ a / b ∧ a / b ≤ a :=
  ⟨Int.ediv_nonneg ha (by omega), Int.ediv_le_self b ha⟩

end Go.Sky
namespace Go.Eng
theorem Sat.pass {w0 : Ctx} {w : World} {Mp Mr : Mem} (h : Sat w0 (Mp ++ Mr) w) : Sat ⟨w, feet Mp⟩ Mp w :=
  ⟨Chg.refl _ _, fun e he => ⟨(h.own e (List.mem_append_left _ he)).1, fun _ hb => .inl ⟨e, he, hb⟩⟩, (List.pairwise_append.1 h.apart).1⟩
end Go.Eng
