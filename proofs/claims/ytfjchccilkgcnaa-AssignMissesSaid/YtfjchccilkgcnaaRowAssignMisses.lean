/- AssignMisses: for every input the law returns true, and its arguments read behind the call as before. Conditions: none. -/
import Derived.Test.YtfjchccilkgcnaaRows
import Derived.Test.YtfjchccilkgcnaaLawAssignMisses
namespace Go.Proofs.Ytfjchccilkgcnaa.assignMissesRow
open Go.ChangeShapes Go.WideShapes Go.ChangeAt Go.RowKit Go.Glue Go.Eng Go.Sky

set_option maxRecDepth 100000 in
theorem lifted (os : Os) (started : os.Started) (H : Type) (enc : TypeId × Value → H) :
    ReturnsInHanded {} Try.checked os 5 .any (Rows.assignMissesSpec.pre6 enc Try.prog Try.f5 Rows.assignMissesRow.domain false) (Rows.assignMissesSpec.post enc Try.prog Try.f5 false true false false) := by
  refine lift (C := Try.checked) (tb := 4) (by kernel_rfl) started (by kernel_rfl) Try.func5 (by kernel_rfl) (by kernel_rfl) rfl (by kernel_rfl) Try.underlying4 (fun ds h => by match ds, h with | [_], _ => rfl)
    (ChangeSpec.witness6 (enc := enc) (C := Try.checked) false ⟨#[], #[.slice none 0 0], []⟩ 8 (by kernel_rfl) (by kernel_rfl) (by kernel_rfl) (by kernel_rfl)) ?_
  intro W base args ds p hval0 hA0 hw0
  have hval : ∀ (j : Nat) t v, Try.f5.params[j]? = some t → args[j]? = some v → Value.okWide Try.prog W .any base t v := hval0
  have hA : DataW.TrodAll enc Try.prog W 0 (fun _ => true) true Try.f5.params.toList args.toList ds p := hA0
  have hw : ∀ (j : Nat) (t : TypeId) (d : DataW H), Try.f5.params.toList[j]? = some t → ds[j]? = some d → ∀ n ∈ d.weights Try.prog t, n ≤ reachBytes := hw0
  clear hval0 hA0 hw0
  rw [Try.params5] at hA hval hw
  obtain ⟨v0, vs0, d0, ds0, p0, q0, hargs, rfl, rfl, h0, s0⟩ := trodAll_cons hA
  obtain ⟨rfl, rfl, rfl⟩ := trodAll_nil s0
  obtain rfl : args = #[v0] := by cases args; simp_all
  obtain ⟨x0, rfl, k0⟩ := argW_slice (opensW_slice (Opens.w (opens_int Try.underlying3)) Try.underlying23 (by kernel_rfl : Try.prog.cellsOf 3 = 1) (by decide) rfl (Nat.le_of_ble_eq_true (by kernel_rfl))) Try.underlying22 (by kernel_rfl : Try.prog.cellsOf 23 = 1) (by decide) rfl (Nat.le_of_ble_eq_true (by kernel_rfl)) (hval 0 22 v0 rfl rfl) h0 (hw 0 _ _ rfl rfl)
  have e := AssignMisses_true (x0.l.map Sl.l) (by have := k0.1.rd.short; rw [List.length_map] at this ⊢; exact this) (by intro r hr; obtain ⟨a, ha, rfl⟩ := List.mem_map.1 hr; exact ⟨by have := (k0.2 a ha).1.rd.short; rw [List.length_map] at this; exact this, (k0.2 a ha).2⟩)
  have r := skywaykeep2_AssignMisses_w x0.A x0.cap (x0.l.map Sl.l) x0.l W k0.1.rd (by rw [List.length_map]; exact k0.1.le) (fun a ha => (k0.2 a ha).1) rfl
  rw [e] at r
  simp only [List.length_map] at r
  exact r
end Go.Proofs.Ytfjchccilkgcnaa.assignMissesRow
namespace Go.Proofs.Ytfjchccilkgcnaa
/-- The given row of AssignMisses. -/
theorem assignMisses_holds : Rows.AssignMissesSaid :=
  OpenClaim.holds_of_wide 5 Try.f5 rfl rfl rfl rfl rfl rfl rfl ⟨rfl, rfl, rfl, rfl, rfl⟩ rfl rfl rfl rfl rfl (by kernel_rfl) Try.func5 (by kernel_rfl)
    (of_decide_eq_true (by kernel_rfl)) (by unfold Func.isWrapper; rw [if_neg (of_decide_eq_false (by kernel_rfl))]; exact ⟨rfl, rfl⟩)
    (fun os started H enc _ => assignMissesRow.lifted os started H enc)
end Go.Proofs.Ytfjchccilkgcnaa
