/- clear(s[k:]) of a row of the call's own. Conditions: none. -/
import Derived.Test.YtehhgjhileappaaFct
namespace Go.Eng


theorem zeroCells_flat (z : Array Value) (n : Nat) : (Builtin.zeroCells z n).toList = flat (List.replicate n z) := by
  rw [← made_flat]
  unfold Builtin.zeroCells madeCells
  apply List.ext_getElem?
  intro j
  by_cases hj : j < n * z.size
  · have h0 : 0 < z.size := by rcases Nat.eq_zero_or_pos z.size with h | h; (rw [h] at hj; omega); exact h
    have hmod := Nat.mod_lt j h0
    simp [hj, hmod]
  · rw [List.getElem?_eq_none (by simp; omega)]

theorem flat_oneCell {α : Type} {c : α → Array Value} (h1 : ∀ x, (c x).toList.all Value.oneCell' = true) (l : List α) : ∀ v ∈ flat (l.map c), v.oneCell' = true := by
  intro v hv
  simp only [flat, List.map_map, List.mem_flatten, List.mem_map] at hv
  obtain ⟨r, ⟨x, _, rfl⟩, hr⟩ := hv
  exact List.all_eq_true.1 (h1 x) v hr

theorem run_clear_at {α : Type} {c : α → Array Value} {P : Program} {w0 : Ctx} {M : Mem} {t e sz bytes cap : Nat} {A A1 : Option Addr} {l : List α} (x : α) (j k cap1 n ty : Nat) (hT : rowType P t e sz bytes = true)
    (hz : ((P.info? e).bind (·.zero)).map Value.cells = some (c x)) (h1 : ∀ x, (c x).toList.all Value.oneCell' = true) (hj : M[j]? = some (.inr (Own A cap e sz (l.map c)))) (hA : A1 = if cap = k then A else A.map (fun a => a.add (k * sz)))
    (hn : n = l.length - k) (hk : k ≤ l.length) (w : World) (hM : Sat w0 M w) :
    ∃ (_ : Unit) (w' : World), (sV (Builtin.clear_ #[t] ty #[.slice A1 n cap1])).run P w = .ok (.value (.tuple #[])) w' ∧ Sat w0 (M.set j (.inr (Own A cap e sz ((l.take k ++ List.replicate (l.length - k) x).map c)))) w' := by
  subst hn
  obtain ⟨hu, i, zv, hi, hzv, hs1, hs2, hs3⟩ := rowType_spec hT
  have hz' : zv.cells = c x := by simpa [hi, hzv] using hz
  have hzero : (zeroValue e).run P w = .ok zv w := by simp [zeroValue, typeInfo, hi, hzv]
  have hlen : (l.map c).length = l.length := by simp
  have ho := hM.own_at j hj
  rcases Nat.lt_or_ge k l.length with hkl | hkl
  · rcases ho with ⟨_, h0⟩ | ⟨g, cur, ho⟩
    · have : l = [] := by simpa using h0
      subst this; simp at hkl
    · have hAt := ho.at_; subst hAt
      have hle := ho.le; rw [hlen] at hle
      rw [if_neg (by omega)] at hA
      have hA1 : A1 = some ⟨g, k * sz, none⟩ := by rw [hA, Option.map_some, add_zero_addr]
      obtain ⟨m, hm⟩ : ∃ m, l.length - k = m + 1 := ⟨l.length - k - 1, by omega⟩
      have hall : ∀ r ∈ List.replicate (l.length - k) (c x), r.size = sz := fun r hr => by rw [List.eq_of_mem_replicate hr, ← hz', hs3]
      have hzs : (Builtin.zeroCells zv.cells (l.length - k)).toList = flat (List.replicate (l.length - k) (c x)) := by rw [zeroCells_flat, hz']
      have hfl : (flat (List.replicate (l.length - k) (c x))).length = (l.length - k) * sz := by rw [flat_length _ hall, List.length_replicate]
      have hsz := ho.size
      have hlk : k * sz + (l.length - k) * sz = l.length * sz := by rw [← Nat.add_mul]; congr 1; omega
      have hcs : l.length * sz ≤ cur.size := by rw [hsz]; exact Nat.mul_le_mul_right _ hle
      have hone : ∀ v ∈ flat (List.replicate (l.length - k) (c x)), v.oneCell' = true := by
        have := flat_oneCell h1 (List.replicate (l.length - k) x)
        rwa [List.map_replicate] at this
      have hst := run_storeCells_at P g (k * sz) e (flat (List.replicate (l.length - k) (c x))) 0 cur w ho.heap (by omega) hone
      refine ⟨(), w.setRow g (List.take (k * sz + 0) cur.toList ++ flat (List.replicate (l.length - k) (c x)) ++ List.drop (k * sz + 0 + (flat (List.replicate (l.length - k) (c x))).length) cur.toList).toArray, run_sVw ?_,
        hM.step hj ⟨rfl, rfl, rfl, by simp [World.setRow], fun k' _ hk' => setRow_other w g k' _ (fun e => hk' ⟨ho.pos, _, rfl, e.symm⟩), Nat.le_refl _⟩ ?_ (fun b hb => .inl hb)⟩
      · rw [hA1]
        rw [hm] at hst hzs ⊢
        simp [Builtin.clear_, run_underlying hu, hzero, hzs, hst]
      · refine .inr ⟨g, _, rfl, ho.pos, setRow_heap w g cur _ e _ ho.heap, ?_, ho.max, ?_, ?_, ?_, ?_⟩
        · simp; omega
        · simp only [List.size_toArray, List.length_append, List.length_take, List.length_drop, Array.length_toList, hfl]; omega
        · have h6 := ho.holds
          rw [hlen] at h6
          have hL : ((l.take k ++ List.replicate (l.length - k) x).map c).length * sz = l.length * sz := by congr 1; simp; omega
          have hf1 : flat ((l.take k ++ List.replicate (l.length - k) x).map c) = (flat (l.map c)).take (k * sz) ++ flat (List.replicate (l.length - k) (c x)) := by
            rw [List.map_append, flat_append, List.map_replicate, flat_take _ _ ho.each, List.map_take]
          rw [hL, hf1, ← h6]
          simp only [Nat.add_zero]
          rw [take_splice _ _ _ _ (by omega) (by rw [Array.length_toList]; omega)]
          rw [List.drop_eq_nil_of_le (by rw [List.length_take, hfl]; omega), List.append_nil]
        · intro r hr
          simp only [List.map_append, List.mem_append, List.map_replicate] at hr
          rcases hr with hr | hr
          · exact ho.each r (by rw [List.map_take] at hr; exact List.mem_of_mem_take hr)
          · exact hall r hr
        · have := ho.short
          simp at this ⊢; omega
  · have hk0 : l.length - k = 0 := by omega
    rw [hk0]
    refine ⟨(), w, run_sVw ?_, ?_⟩
    · cases A1 <;> simp [Builtin.clear_, run_underlying hu]
    · rw [List.replicate_zero, List.append_nil, List.take_of_length_le hkl]
      have : M.set j (.inr (Own A cap e sz (l.map c))) = M := by
        obtain ⟨hlt, he⟩ := List.getElem?_eq_some_iff.1 hj
        rw [← he]; exact List.set_getElem_self hlt
      rw [this]; exact hM
end Go.Eng
