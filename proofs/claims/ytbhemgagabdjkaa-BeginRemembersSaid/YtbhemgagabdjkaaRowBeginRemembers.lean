/- BeginRemembers: for every input the law returns true, and its arguments read behind the call as before. Conditions: none. -/
import Derived.Test.YtbhemgagabdjkaaRows
import Derived.Test.YtbhemgagabdjkaaLawBeginRemembers
namespace Go.Proofs.Ytbhemgagabdjkaa.beginRemembersRow
open Go.ChangeShapes Go.WideShapes Go.ChangeAt Go.RowKit Go.Glue Go.Eng Go.Sky

set_option maxRecDepth 100000 in
theorem lifted (os : Os) (started : os.Started) (H : Type) (enc : TypeId × Value → H) :
    ReturnsInHanded {} Try.checked os 10 .any (Rows.beginRemembersSpec.pre6 enc Try.prog Try.f10 Rows.beginRemembersRow.domain false) (Rows.beginRemembersSpec.post enc Try.prog Try.f10 false true false false) := by
  refine lift (C := Try.checked) (tb := 4) (by kernel_rfl) started (by kernel_rfl) Try.func10 (by kernel_rfl) (by kernel_rfl) rfl (by kernel_rfl) Try.underlying4 (fun ds h => by match ds, h with | [_], _ => rfl)
    (ChangeSpec.witness6 (enc := enc) (C := Try.checked) false ⟨#[], #[.slice none 0 0], []⟩ 8 (by kernel_rfl) (by kernel_rfl) (by kernel_rfl) (by kernel_rfl)) ?_
  intro W base args ds p hval0 hA0 hw0
  have hval : ∀ (j : Nat) t v, Try.f10.params[j]? = some t → args[j]? = some v → Value.okWide Try.prog W .any base t v := hval0
  have hA : DataW.TrodAll enc Try.prog W 0 (fun _ => true) true Try.f10.params.toList args.toList ds p := hA0
  have hw : ∀ (j : Nat) (t : TypeId) (d : DataW H), Try.f10.params.toList[j]? = some t → ds[j]? = some d → ∀ n ∈ d.weights Try.prog t, n ≤ reachBytes := hw0
  clear hval0 hA0 hw0
  rw [Try.params10] at hA hval hw
  obtain ⟨v0, vs0, d0, ds0, p0, q0, hargs, rfl, rfl, h0, s0⟩ := trodAll_cons hA
  obtain ⟨rfl, rfl, rfl⟩ := trodAll_nil s0
  obtain rfl : args = #[v0] := by cases args; simp_all
  obtain ⟨A0, c0, x0, rfl, r0_, l0_, k0⟩ := arg_slice (opens_bool Try.underlying4) Try.underlying60 (by kernel_rfl : Try.prog.cellsOf 4 = 1) (by decide) rfl (Nat.le_of_ble_eq_true (by kernel_rfl)) (hval 0 60 v0 rfl rfl) h0 (hw 0 _ _ rfl rfl)
  have e := BeginRemembers_true x0 (by have := r0_.short; rw [List.length_map] at this; exact this) k0
  have r := skywaykeep2_BeginRemembers_w A0 c0 x0 W r0_ l0_
  rw [e] at r
  exact r
end Go.Proofs.Ytbhemgagabdjkaa.beginRemembersRow
namespace Go.Proofs.Ytbhemgagabdjkaa
/-- The given row of BeginRemembers. -/
theorem beginRemembers_holds : Rows.BeginRemembersSaid :=
  OpenClaim.holds_of_wide 10 Try.f10 rfl rfl rfl rfl rfl rfl rfl ⟨rfl, rfl, rfl, rfl, rfl⟩ rfl rfl rfl rfl rfl (by kernel_rfl) Try.func10 (by kernel_rfl)
    (of_decide_eq_true (by kernel_rfl)) (by unfold Func.isWrapper; rw [if_neg (of_decide_eq_false (by kernel_rfl))]; exact ⟨rfl, rfl⟩)
    (fun os started H enc _ => beginRemembersRow.lifted os started H enc)
end Go.Proofs.Ytbhemgagabdjkaa
