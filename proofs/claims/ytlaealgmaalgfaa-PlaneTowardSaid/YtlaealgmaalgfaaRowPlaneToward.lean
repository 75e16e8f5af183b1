/- PlaneToward: for every input the law returns true, and its arguments read behind the call as before. Conditions: none. -/
import Derived.Test.YtlaealgmaalgfaaRows
import Derived.Test.YtlaealgmaalgfaaLawPlaneToward
namespace Go.Proofs.Ytlaealgmaalgfaa.planeTowardRow
open Go.ChangeShapes Go.WideShapes Go.ChangeAt Go.RowKit Go.Glue Go.Eng Go.Sky

theorem opens25 : Opens Try.prog 25 P.c P.ok := by
  intro H enc W base sp hd fuel cs x h
  obtain ⟨xs, n, rfl, rfl, hlen, hxs, hf⟩ := DataW.trod_struct Try.underlying25 h
  obtain ⟨y0, h0⟩ := field_at hxs hf 0 _ rfl
  obtain ⟨a0, e0, k0⟩ := (opens_int Try.underlying3) h0
  obtain ⟨y1, h1⟩ := field_at hxs hf 1 _ rfl
  obtain ⟨a1, e1, k1⟩ := (opens_int Try.underlying3) h1
  have hend : cs.drop 2 = [] := List.drop_eq_nil_of_le (by rw [hlen, show Try.prog.cellsOf 25 = 2 by kernel_rfl]; exact Nat.le_refl _)
  exact ⟨⟨a0, a1⟩, (cat2 (o := 0) (n := 1) (by kernel_rfl) e0 (cat2 (o := 1) (n := 1) (by kernel_rfl) e1 hend)), k0, k1⟩

set_option maxRecDepth 100000 in
theorem lifted (os : Os) (started : os.Started) (H : Type) (enc : TypeId × Value → H) :
    ReturnsInHanded {} Try.checked os 4 .any (Rows.planeTowardSpec.pre6 enc Try.prog Try.f4 Rows.planeTowardRow.domain false) (Rows.planeTowardSpec.post enc Try.prog Try.f4 false true false false) := by
  refine lift (C := Try.checked) (tb := 4) (by kernel_rfl) started (by kernel_rfl) Try.func4 (by kernel_rfl) (by kernel_rfl) rfl (by kernel_rfl) Try.underlying4 (fun ds h => by match ds, h with | [_, _, _, _], _ => rfl)
    (ChangeSpec.witness6 (enc := enc) (C := Try.checked) false ⟨#[], #[(P.v P.zero), (P.v P.zero), .int .i64 0, .int .i64 0], []⟩ 8 (by kernel_rfl) (by kernel_rfl) (by kernel_rfl) (by kernel_rfl)) ?_
  intro W base args ds p hval0 hA0 hw0
  have hval : ∀ (j : Nat) t v, Try.f4.params[j]? = some t → args[j]? = some v → Value.okWide Try.prog W .any base t v := hval0
  have hA : DataW.TrodAll enc Try.prog W 0 (fun _ => true) true Try.f4.params.toList args.toList ds p := hA0
  clear hval0 hA0 hw0
  rw [Try.params4] at hA hval
  obtain ⟨v0, vs0, d0, ds0, p0, q0, hargs, rfl, rfl, h0, s0⟩ := trodAll_cons hA
  obtain ⟨v1, vs1, d1, ds1, p1, q1, rfl, rfl, rfl, h1, s1⟩ := trodAll_cons s0
  obtain ⟨v2, vs2, d2, ds2, p2, q2, rfl, rfl, rfl, h2, s2⟩ := trodAll_cons s1
  obtain ⟨v3, vs3, d3, ds3, p3, q3, rfl, rfl, rfl, h3, s3⟩ := trodAll_cons s2
  obtain ⟨rfl, rfl, rfl⟩ := trodAll_nil s3
  obtain rfl : args = #[v0, v1, v2, v3] := by cases args; simp_all
  obtain ⟨x0, rfl, k0⟩ := arg_struct opens25 Try.underlying25 (hval 0 25 v0 rfl rfl) h0
  obtain ⟨x1, rfl, k1⟩ := arg_struct opens25 Try.underlying25 (hval 1 25 v1 rfl rfl) h1
  obtain ⟨x2, rfl, k2⟩ := arg_int Try.underlying3 (hval 2 3 v2 rfl rfl) h2
  obtain ⟨x3, rfl, k3⟩ := arg_int Try.underlying3 (hval 3 3 v3 rfl rfl) h3
  have e := PlaneToward_true x0 x1 x2 x3 k0 k1 k2 k3
  have r := skywaylaw1_PlaneToward_w x0 x1 x2 x3 W
  rw [e] at r
  exact r
end Go.Proofs.Ytlaealgmaalgfaa.planeTowardRow
namespace Go.Proofs.Ytlaealgmaalgfaa
/-- The given row of PlaneToward. -/
theorem planeToward_holds : Rows.PlaneTowardSaid :=
  OpenClaim.holds_of_wide 4 Try.f4 rfl rfl rfl rfl rfl rfl rfl ⟨rfl, rfl, rfl, rfl, rfl⟩ rfl rfl rfl rfl rfl (by kernel_rfl) Try.func4 (by kernel_rfl)
    (of_decide_eq_true (by kernel_rfl)) (by unfold Func.isWrapper; rw [if_neg (of_decide_eq_false (by kernel_rfl))]; exact ⟨rfl, rfl⟩)
    (fun os started H enc _ => planeTowardRow.lifted os started H enc)
end Go.Proofs.Ytlaealgmaalgfaa
