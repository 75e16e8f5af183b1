/- append of a number of zero values to nil, cut off again. Conditions: in the theorem. -/
import Derived.Test.YtehhgjhileappaaPlanB
import Derived.Test.YtehhgjhileappaaThick
import Derived.Lib.AppendZerosOnto
namespace Go.Eng
open Go.RowKit (Below)

theorem cut0 {g : Option Addr} {c sz : Nat} : (if c = 0 then g else g.map (fun a => a.add (0 * sz))) = g := by
  split
  · rfl
  · cases g with
    | none => rfl
    | some a => rw [Nat.zero_mul]; rfl

theorem appnum_nil {α : Type} {c : α → Array Value} {P : Program} {w0 : Ctx} {M : Mem} {t tn e sz bytes : Nat} {kq kn : IntKind} (ty : TypeId) (k : Nat) (hT : rowType P t e sz bytes = true) (htn : P.underlying tn = some (.int kn)) (hsz : Nat.blt 0 sz = true)
    (h0 : 0 < k) (hb : k * bytes ≤ 140737488355328 ∧ k ≤ 140737488355328) (w : World) (hM : Sat w0 M w) :
    ∃ (g : Option Addr × Nat) (w' : World), (sV (Builtin.append_ #[t, tn] ty #[.slice none 0 0, .int kq ((k : Nat) : Int)])).run P w = .ok (.value (.slice g.1 k g.2)) w' ∧ Sat w0 (.inr (Own g.1 g.2 e sz (([] : List α).map c)) :: M) w' := by
  obtain ⟨hu, i, z, hi, hz, hs1, hs2, hs3⟩ := rowType_spec hT
  have hsz0 : 0 < sz := Nat.le_of_ble_eq_true hsz
  have hr := Lib.run_append_grow_zeros (P := P) w t tn ty e i z kq kn hu htn hi hz none 0 0 [] (run_firstCells_none w.drew i.size 0 0 0) k h0 (by rw [hs1]; exact hsz0) (by omega) (by omega) (by rw [hs2]; omega)
    (growslice_fits (by omega) (by rw [hs2, Nat.zero_add]; omega))
  simp only [Nat.zero_add] at hr
  have hge := grownCap_ge w k 0 e
  have hcm := grownCap_le_maxLen w k 0 e (by simp only [maxLen]; omega)
  refine ⟨(some ⟨w.heap.size, 0, none⟩, grownCap w k 0 e), _, run_sVw hr, hM.push (((Below.refl _ w).drew).alloc (Nat.le_refl _) _) _ ?_ ?_⟩
  · refine .inr ⟨_, _, rfl, by omega, heap_alloc_new w.drew _, Nat.zero_le _, hcm, ?_, ?_, ?_, ?_⟩
    · simp only [Array.size_append, List.size_toArray, size_zeroCells, hs3, List.length_nil, Nat.zero_add]
      rw [← Nat.add_mul]
      congr 1
      omega
    · simp [flat]
    · intro r hr; cases hr
    · simp
  · rintro b ⟨_, a, h2, rfl⟩
    simp only [Option.some.injEq] at h2
    subst h2
    exact Nat.le_refl _
end Go.Eng
