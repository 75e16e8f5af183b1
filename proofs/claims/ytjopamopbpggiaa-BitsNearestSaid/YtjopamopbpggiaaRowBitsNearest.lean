/- BitsNearest: for every input the law returns true, and its arguments read behind the call as before. Conditions: none. -/
import Derived.Test.YtjopamopbpggiaaRows
import Derived.Test.YtjopamopbpggiaaLawBitsNearest
namespace Go.Proofs.Ytjopamopbpggiaa.bitsNearestRow
open Go.ChangeShapes Go.WideShapes Go.ChangeAt Go.RowKit Go.Glue Go.Eng Go.Sky

set_option maxRecDepth 100000 in
theorem lifted (os : Os) (started : os.Started) (H : Type) (enc : TypeId × Value → H) :
    ReturnsInHanded {} Try.checked os 3 .any (Rows.bitsNearestSpec.pre6 enc Try.prog Try.f3 Rows.bitsNearestRow.domain false) (Rows.bitsNearestSpec.post enc Try.prog Try.f3 false true false false) := by
  refine lift (C := Try.checked) (tb := 4) (by kernel_rfl) started (by kernel_rfl) Try.func3 (by kernel_rfl) (by kernel_rfl) rfl (by kernel_rfl) Try.underlying4 (fun ds h => by match ds, h with | [_, _], _ => rfl)
    (ChangeSpec.witness6 (enc := enc) (C := Try.checked) false ⟨#[], #[.int .i64 0, .int .i64 0], []⟩ 8 (by kernel_rfl) (by kernel_rfl) (by kernel_rfl) (by kernel_rfl)) ?_
  intro W base args ds p hval0 hA0 hw0
  have hval : ∀ (j : Nat) t v, Try.f3.params[j]? = some t → args[j]? = some v → Value.okWide Try.prog W .any base t v := hval0
  have hA : DataW.TrodAll enc Try.prog W 0 (fun _ => true) true Try.f3.params.toList args.toList ds p := hA0
  clear hval0 hA0 hw0
  rw [Try.params3] at hA hval
  obtain ⟨v0, vs0, d0, ds0, p0, q0, hargs, rfl, rfl, h0, s0⟩ := trodAll_cons hA
  obtain ⟨v1, vs1, d1, ds1, p1, q1, rfl, rfl, rfl, h1, s1⟩ := trodAll_cons s0
  obtain ⟨rfl, rfl, rfl⟩ := trodAll_nil s1
  obtain rfl : args = #[v0, v1] := by cases args; simp_all
  obtain ⟨x0, rfl, k0⟩ := arg_int Try.underlying3 (hval 0 3 v0 rfl rfl) h0
  obtain ⟨x1, rfl, k1⟩ := arg_int Try.underlying3 (hval 1 3 v1 rfl rfl) h1
  have e := BitsNearest_true x0 x1 k0 k1
  have r := skywaylaw1_BitsNearest_w x0 x1 W k0
  rw [e] at r
  exact r
end Go.Proofs.Ytjopamopbpggiaa.bitsNearestRow
namespace Go.Proofs.Ytjopamopbpggiaa
/-- The given row of BitsNearest. -/
theorem bitsNearest_holds : Rows.BitsNearestSaid :=
  OpenClaim.holds_of_wide 3 Try.f3 rfl rfl rfl rfl rfl rfl rfl ⟨rfl, rfl, rfl, rfl, rfl⟩ rfl rfl rfl rfl rfl (by kernel_rfl) Try.func3 (by kernel_rfl)
    (of_decide_eq_true (by kernel_rfl)) (by unfold Func.isWrapper; rw [if_neg (of_decide_eq_false (by kernel_rfl))]; exact ⟨rfl, rfl⟩)
    (fun os started H enc _ => bitsNearestRow.lifted os started H enc)
end Go.Proofs.Ytjopamopbpggiaa
