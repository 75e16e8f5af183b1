/- PolygonPlaces: for every input the law returns true, and its arguments read behind the call as before. Conditions: none. -/
import Derived.Test.YtlaealgmaalgfaaRows
import Derived.Test.YtlaealgmaalgfaaLawPolygonPlaces
namespace Go.Proofs.Ytlaealgmaalgfaa.polygonPlacesRow
open Go.ChangeShapes Go.WideShapes Go.ChangeAt Go.RowKit Go.Glue Go.Eng Go.Sky

theorem opens25 : Opens Try.prog 25 P.c P.ok := by
  intro H enc W base sp hd fuel cs x h
  obtain ⟨xs, n, rfl, rfl, hlen, hxs, hf⟩ := DataW.trod_struct Try.underlying25 h
  obtain ⟨y0, h0⟩ := field_at hxs hf 0 _ rfl
  obtain ⟨a0, e0, k0⟩ := (opens_int Try.underlying3) h0
  obtain ⟨y1, h1⟩ := field_at hxs hf 1 _ rfl
  obtain ⟨a1, e1, k1⟩ := (opens_int Try.underlying3) h1
  have hend : cs.drop 2 = [] := List.drop_eq_nil_of_le (by rw [hlen, show Try.prog.cellsOf 25 = 2 by kernel_rfl]; exact Nat.le_refl _)
  exact ⟨⟨a0, a1⟩, (cat2 (o := 0) (n := 1) (by kernel_rfl) e0 (cat2 (o := 1) (n := 1) (by kernel_rfl) e1 hend)), k0, k1⟩

set_option maxRecDepth 100000 in
theorem lifted (os : Os) (started : os.Started) (H : Type) (enc : TypeId × Value → H) :
    ReturnsInHanded {} Try.checked os 5 .any (Rows.polygonPlacesSpec.pre6 enc Try.prog Try.f5 Rows.polygonPlacesRow.domain false) (Rows.polygonPlacesSpec.post enc Try.prog Try.f5 false true false false) := by
  refine lift (C := Try.checked) (tb := 4) (by kernel_rfl) started (by kernel_rfl) Try.func5 (by kernel_rfl) (by kernel_rfl) rfl (by kernel_rfl) Try.underlying4 (fun ds h => by match ds, h with | [_, _], _ => rfl)
    (ChangeSpec.witness6 (enc := enc) (C := Try.checked) false ⟨#[], #[.slice none 0 0, (P.v P.zero)], []⟩ 8 (by kernel_rfl) (by kernel_rfl) (by kernel_rfl) (by kernel_rfl)) ?_
  intro W base args ds p hval0 hA0 hw0
  have hval : ∀ (j : Nat) t v, Try.f5.params[j]? = some t → args[j]? = some v → Value.okWide Try.prog W .any base t v := hval0
  have hA : DataW.TrodAll enc Try.prog W 0 (fun _ => true) true Try.f5.params.toList args.toList ds p := hA0
  have hw : ∀ (j : Nat) (t : TypeId) (d : DataW H), Try.f5.params.toList[j]? = some t → ds[j]? = some d → ∀ n ∈ d.weights Try.prog t, n ≤ reachBytes := hw0
  clear hval0 hA0 hw0
  rw [Try.params5] at hA hval hw
  obtain ⟨v0, vs0, d0, ds0, p0, q0, hargs, rfl, rfl, h0, s0⟩ := trodAll_cons hA
  obtain ⟨v1, vs1, d1, ds1, p1, q1, rfl, rfl, rfl, h1, s1⟩ := trodAll_cons s0
  obtain ⟨rfl, rfl, rfl⟩ := trodAll_nil s1
  obtain rfl : args = #[v0, v1] := by cases args; simp_all
  obtain ⟨A0, c0, x0, rfl, r0_, l0_, k0⟩ := arg_slice opens25 Try.underlying46 (by kernel_rfl : Try.prog.cellsOf 25 = 2) (by decide) rfl (Nat.le_of_ble_eq_true (by kernel_rfl)) (hval 0 46 v0 rfl rfl) h0 (hw 0 _ _ rfl rfl)
  obtain ⟨x1, rfl, k1⟩ := arg_struct opens25 Try.underlying25 (hval 1 25 v1 rfl rfl) h1
  have e := PolygonPlaces_true x0 x1 (by have := r0_.short; rw [List.length_map] at this; exact this) k0 k1
  have r := skywaylaw1_PolygonPlaces_w A0 c0 x0 x1 W r0_ l0_
  rw [e] at r
  exact r
end Go.Proofs.Ytlaealgmaalgfaa.polygonPlacesRow
namespace Go.Proofs.Ytlaealgmaalgfaa
/-- The given row of PolygonPlaces. -/
theorem polygonPlaces_holds : Rows.PolygonPlacesSaid :=
  OpenClaim.holds_of_wide 5 Try.f5 rfl rfl rfl rfl rfl rfl rfl ⟨rfl, rfl, rfl, rfl, rfl⟩ rfl rfl rfl rfl rfl (by kernel_rfl) Try.func5 (by kernel_rfl)
    (of_decide_eq_true (by kernel_rfl)) (by unfold Func.isWrapper; rw [if_neg (of_decide_eq_false (by kernel_rfl))]; exact ⟨rfl, rfl⟩)
    (fun os started H enc _ => polygonPlacesRow.lifted os started H enc)
end Go.Proofs.Ytlaealgmaalgfaa
