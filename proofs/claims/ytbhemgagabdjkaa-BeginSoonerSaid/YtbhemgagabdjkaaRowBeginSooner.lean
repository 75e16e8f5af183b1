/- BeginSooner: for every input the law returns true, and its arguments read behind the call as before. Conditions: none. -/
import Derived.Test.YtbhemgagabdjkaaRows
import Derived.Test.YtbhemgagabdjkaaLawBeginSooner
namespace Go.Proofs.Ytbhemgagabdjkaa.beginSoonerRow
open Go.ChangeShapes Go.WideShapes Go.ChangeAt Go.RowKit Go.Glue Go.Eng Go.Sky

set_option maxRecDepth 100000 in
theorem lifted (os : Os) (started : os.Started) (H : Type) (enc : TypeId × Value → H) :
    ReturnsInHanded {} Try.checked os 12 .any (Rows.beginSoonerSpec.pre6 enc Try.prog Try.f12 Rows.beginSoonerRow.domain false) (Rows.beginSoonerSpec.post enc Try.prog Try.f12 false true false false) := by
  refine lift (C := Try.checked) (tb := 4) (by kernel_rfl) started (by kernel_rfl) Try.func12 (by kernel_rfl) (by kernel_rfl) rfl (by kernel_rfl) Try.underlying4 (fun ds h => by match ds, h with | [_, _, _, _], _ => rfl)
    (ChangeSpec.witness6 (enc := enc) (C := Try.checked) false ⟨#[], #[.slice none 0 0, .slice none 0 0, .int .i64 0, .int .i64 0], []⟩ 8 (by kernel_rfl) (by kernel_rfl) (by kernel_rfl) (by kernel_rfl)) ?_
  intro W base args ds p hval0 hA0 hw0
  have hval : ∀ (j : Nat) t v, Try.f12.params[j]? = some t → args[j]? = some v → Value.okWide Try.prog W .any base t v := hval0
  have hA : DataW.TrodAll enc Try.prog W 0 (fun _ => true) true Try.f12.params.toList args.toList ds p := hA0
  have hw : ∀ (j : Nat) (t : TypeId) (d : DataW H), Try.f12.params.toList[j]? = some t → ds[j]? = some d → ∀ n ∈ d.weights Try.prog t, n ≤ reachBytes := hw0
  clear hval0 hA0 hw0
  rw [Try.params12] at hA hval hw
  obtain ⟨v0, vs0, d0, ds0, p0, q0, hargs, rfl, rfl, h0, s0⟩ := trodAll_cons hA
  obtain ⟨v1, vs1, d1, ds1, p1, q1, rfl, rfl, rfl, h1, s1⟩ := trodAll_cons s0
  obtain ⟨v2, vs2, d2, ds2, p2, q2, rfl, rfl, rfl, h2, s2⟩ := trodAll_cons s1
  obtain ⟨v3, vs3, d3, ds3, p3, q3, rfl, rfl, rfl, h3, s3⟩ := trodAll_cons s2
  obtain ⟨rfl, rfl, rfl⟩ := trodAll_nil s3
  obtain rfl : args = #[v0, v1, v2, v3] := by cases args; simp_all
  obtain ⟨A0, c0, x0, rfl, r0_, l0_, k0⟩ := arg_slice (opens_bool Try.underlying4) Try.underlying60 (by kernel_rfl : Try.prog.cellsOf 4 = 1) (by decide) rfl (Nat.le_of_ble_eq_true (by kernel_rfl)) (hval 0 60 v0 rfl rfl) h0 (hw 0 _ _ rfl rfl)
  obtain ⟨A1, c1, x1, rfl, r1_, l1_, k1⟩ := arg_slice (opens_bool Try.underlying4) Try.underlying60 (by kernel_rfl : Try.prog.cellsOf 4 = 1) (by decide) rfl (Nat.le_of_ble_eq_true (by kernel_rfl)) (hval 1 60 v1 rfl rfl) h1 (hw 1 _ _ rfl rfl)
  obtain ⟨x2, rfl, k2⟩ := arg_int Try.underlying3 (hval 2 3 v2 rfl rfl) h2
  obtain ⟨x3, rfl, k3⟩ := arg_int Try.underlying3 (hval 3 3 v3 rfl rfl) h3
  have e := BeginSooner_true x0 x1 x2 x3 (by have := r0_.short; rw [List.length_map] at this; exact this) k0 (by have := r1_.short; rw [List.length_map] at this; exact this) k1 k2 k3
  have r := skywaykeep2_BeginSooner_w A0 c0 x0 A1 c1 x1 x2 x3 W r0_ l0_ r1_ l1_
  rw [e] at r
  exact r
end Go.Proofs.Ytbhemgagabdjkaa.beginSoonerRow
namespace Go.Proofs.Ytbhemgagabdjkaa
/-- The given row of BeginSooner. -/
theorem beginSooner_holds : Rows.BeginSoonerSaid :=
  OpenClaim.holds_of_wide 12 Try.f12 rfl rfl rfl rfl rfl rfl rfl ⟨rfl, rfl, rfl, rfl, rfl⟩ rfl rfl rfl rfl rfl (by kernel_rfl) Try.func12 (by kernel_rfl)
    (of_decide_eq_true (by kernel_rfl)) (by unfold Func.isWrapper; rw [if_neg (of_decide_eq_false (by kernel_rfl))]; exact ⟨rfl, rfl⟩)
    (fun os started H enc _ => beginSoonerRow.lifted os started H enc)
end Go.Proofs.Ytbhemgagabdjkaa
