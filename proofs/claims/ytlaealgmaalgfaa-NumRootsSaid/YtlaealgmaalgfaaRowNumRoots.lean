/- NumRoots: for every input the law returns true, and its arguments read behind the call as before. Conditions: none. -/
import Derived.Test.YtlaealgmaalgfaaRows
import Derived.Test.YtlaealgmaalgfaaLawNumRoots
namespace Go.Proofs.Ytlaealgmaalgfaa.numRootsRow
open Go.ChangeShapes Go.WideShapes Go.ChangeAt Go.RowKit Go.Glue Go.Eng Go.Sky

set_option maxRecDepth 100000 in
theorem lifted (os : Os) (started : os.Started) (H : Type) (enc : TypeId × Value → H) :
    ReturnsInHanded {} Try.checked os 7 .any (Rows.numRootsSpec.pre6 enc Try.prog Try.f7 Rows.numRootsRow.domain false) (Rows.numRootsSpec.post enc Try.prog Try.f7 false true false false) := by
  refine lift (C := Try.checked) (tb := 4) (by kernel_rfl) started (by kernel_rfl) Try.func7 (by kernel_rfl) (by kernel_rfl) rfl (by kernel_rfl) Try.underlying4 (fun ds h => by match ds, h with | [_], _ => rfl)
    (ChangeSpec.witness6 (enc := enc) (C := Try.checked) false ⟨#[], #[.int .i64 0], []⟩ 8 (by kernel_rfl) (by kernel_rfl) (by kernel_rfl) (by kernel_rfl)) ?_
  intro W base args ds p hval0 hA0 hw0
  have hval : ∀ (j : Nat) t v, Try.f7.params[j]? = some t → args[j]? = some v → Value.okWide Try.prog W .any base t v := hval0
  have hA : DataW.TrodAll enc Try.prog W 0 (fun _ => true) true Try.f7.params.toList args.toList ds p := hA0
  clear hval0 hA0 hw0
  rw [Try.params7] at hA hval
  obtain ⟨v0, vs0, d0, ds0, p0, q0, hargs, rfl, rfl, h0, s0⟩ := trodAll_cons hA
  obtain ⟨rfl, rfl, rfl⟩ := trodAll_nil s0
  obtain rfl : args = #[v0] := by cases args; simp_all
  obtain ⟨x0, rfl, k0⟩ := arg_int Try.underlying3 (hval 0 3 v0 rfl rfl) h0
  have e := NumRoots_true x0 k0
  have r := skywaylaw1_NumRoots_w x0 W
  rw [e] at r
  exact r
end Go.Proofs.Ytlaealgmaalgfaa.numRootsRow
namespace Go.Proofs.Ytlaealgmaalgfaa
/-- The given row of NumRoots. -/
theorem numRoots_holds : Rows.NumRootsSaid :=
  OpenClaim.holds_of_wide 7 Try.f7 rfl rfl rfl rfl rfl rfl rfl ⟨rfl, rfl, rfl, rfl, rfl⟩ rfl rfl rfl rfl rfl (by kernel_rfl) Try.func7 (by kernel_rfl)
    (of_decide_eq_true (by kernel_rfl)) (by unfold Func.isWrapper; rw [if_neg (of_decide_eq_false (by kernel_rfl))]; exact ⟨rfl, rfl⟩)
    (fun os started H enc _ => numRootsRow.lifted os started H enc)
end Go.Proofs.Ytlaealgmaalgfaa
