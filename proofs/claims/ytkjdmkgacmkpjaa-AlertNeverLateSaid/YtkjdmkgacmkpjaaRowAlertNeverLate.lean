/- AlertNeverLate: for every input the law returns true, and its arguments read behind the call as before. Conditions: none. -/
import Derived.Test.YtkjdmkgacmkpjaaRows
import Derived.Test.YtkjdmkgacmkpjaaLawAlertNeverLate
namespace Go.Proofs.Ytkjdmkgacmkpjaa.alertNeverLateRow
open Go.ChangeShapes Go.WideShapes Go.ChangeAt Go.RowKit Go.Glue Go.Eng Go.Sky

theorem opens23 : Opens Try.prog 23 P.c P.ok := by
  intro H enc W base sp hd fuel cs x h
  obtain ⟨xs, n, rfl, rfl, hlen, hxs, hf⟩ := DataW.trod_struct Try.underlying23 h
  obtain ⟨y0, h0⟩ := field_at hxs hf 0 _ rfl
  obtain ⟨a0, e0, k0⟩ := (opens_int Try.underlying3) h0
  obtain ⟨y1, h1⟩ := field_at hxs hf 1 _ rfl
  obtain ⟨a1, e1, k1⟩ := (opens_int Try.underlying3) h1
  have hend : cs.drop 2 = [] := List.drop_eq_nil_of_le (by rw [hlen, show Try.prog.cellsOf 23 = 2 by kernel_rfl]; exact Nat.le_refl _)
  exact ⟨⟨a0, a1⟩, (cat2 (o := 0) (n := 1) (by kernel_rfl) e0 (cat2 (o := 1) (n := 1) (by kernel_rfl) e1 hend)), k0, k1⟩

theorem opens41 : Opens Try.prog 41 Sep.c Sep.ok := by
  intro H enc W base sp hd fuel cs x h
  obtain ⟨xs, n, rfl, rfl, hlen, hxs, hf⟩ := DataW.trod_struct Try.underlying41 h
  obtain ⟨y0, h0⟩ := field_at hxs hf 0 _ rfl
  obtain ⟨a0, e0, k0⟩ := (opens_int Try.underlying3) h0
  obtain ⟨y1, h1⟩ := field_at hxs hf 1 _ rfl
  obtain ⟨a1, e1, k1⟩ := (opens_int Try.underlying3) h1
  have hend : cs.drop 2 = [] := List.drop_eq_nil_of_le (by rw [hlen, show Try.prog.cellsOf 41 = 2 by kernel_rfl]; exact Nat.le_refl _)
  exact ⟨⟨a0, a1⟩, (cat2 (o := 0) (n := 1) (by kernel_rfl) e0 (cat2 (o := 1) (n := 1) (by kernel_rfl) e1 hend)), k0, k1⟩

set_option maxRecDepth 100000 in
theorem lifted (os : Os) (started : os.Started) (H : Type) (enc : TypeId × Value → H) :
    ReturnsInHanded {} Try.checked os 10 .any (Rows.alertNeverLateSpec.pre6 enc Try.prog Try.f10 Rows.alertNeverLateRow.domain false) (Rows.alertNeverLateSpec.post enc Try.prog Try.f10 false true false false) := by
  refine lift (C := Try.checked) (tb := 4) (by kernel_rfl) started (by kernel_rfl) Try.func10 (by kernel_rfl) (by kernel_rfl) rfl (by kernel_rfl) Try.underlying4 (fun ds h => by match ds, h with | [_, _, _, _, _, _, _, _, _, _], _ => rfl)
    (ChangeSpec.witness6 (enc := enc) (C := Try.checked) false ⟨#[], #[(P.v P.zero), (P.v P.zero), (P.v P.zero), (P.v P.zero), .slice none 0 0, .slice none 0 0, .int .i64 0, .int .i64 0, .int .i64 0, (Sep.v Sep.zero)], []⟩ 8 (by kernel_rfl) (by kernel_rfl) (by kernel_rfl) (by kernel_rfl)) ?_
  intro W base args ds p hval0 hA0 hw0
  have hval : ∀ (j : Nat) t v, Try.f10.params[j]? = some t → args[j]? = some v → Value.okWide Try.prog W .any base t v := hval0
  have hA : DataW.TrodAll enc Try.prog W 0 (fun _ => true) true Try.f10.params.toList args.toList ds p := hA0
  have hw : ∀ (j : Nat) (t : TypeId) (d : DataW H), Try.f10.params.toList[j]? = some t → ds[j]? = some d → ∀ n ∈ d.weights Try.prog t, n ≤ reachBytes := hw0
  clear hval0 hA0 hw0
  rw [Try.params10] at hA hval hw
  obtain ⟨v0, vs0, d0, ds0, p0, q0, hargs, rfl, rfl, h0, s0⟩ := trodAll_cons hA
  obtain ⟨v1, vs1, d1, ds1, p1, q1, rfl, rfl, rfl, h1, s1⟩ := trodAll_cons s0
  obtain ⟨v2, vs2, d2, ds2, p2, q2, rfl, rfl, rfl, h2, s2⟩ := trodAll_cons s1
  obtain ⟨v3, vs3, d3, ds3, p3, q3, rfl, rfl, rfl, h3, s3⟩ := trodAll_cons s2
  obtain ⟨v4, vs4, d4, ds4, p4, q4, rfl, rfl, rfl, h4, s4⟩ := trodAll_cons s3
  obtain ⟨v5, vs5, d5, ds5, p5, q5, rfl, rfl, rfl, h5, s5⟩ := trodAll_cons s4
  obtain ⟨v6, vs6, d6, ds6, p6, q6, rfl, rfl, rfl, h6, s6⟩ := trodAll_cons s5
  obtain ⟨v7, vs7, d7, ds7, p7, q7, rfl, rfl, rfl, h7, s7⟩ := trodAll_cons s6
  obtain ⟨v8, vs8, d8, ds8, p8, q8, rfl, rfl, rfl, h8, s8⟩ := trodAll_cons s7
  obtain ⟨v9, vs9, d9, ds9, p9, q9, rfl, rfl, rfl, h9, s9⟩ := trodAll_cons s8
  obtain ⟨rfl, rfl, rfl⟩ := trodAll_nil s9
  obtain rfl : args = #[v0, v1, v2, v3, v4, v5, v6, v7, v8, v9] := by cases args; simp_all
  obtain ⟨x0, rfl, k0⟩ := arg_struct opens23 Try.underlying23 (hval 0 23 v0 rfl rfl) h0
  obtain ⟨x1, rfl, k1⟩ := arg_struct opens23 Try.underlying23 (hval 1 23 v1 rfl rfl) h1
  obtain ⟨x2, rfl, k2⟩ := arg_struct opens23 Try.underlying23 (hval 2 23 v2 rfl rfl) h2
  obtain ⟨x3, rfl, k3⟩ := arg_struct opens23 Try.underlying23 (hval 3 23 v3 rfl rfl) h3
  obtain ⟨A4, c4, x4, rfl, r4_, l4_, k4⟩ := arg_slice (opens_int Try.underlying3) Try.underlying62 (by kernel_rfl : Try.prog.cellsOf 3 = 1) (by decide) rfl (Nat.le_of_ble_eq_true (by kernel_rfl)) (hval 4 62 v4 rfl rfl) h4 (hw 4 _ _ rfl rfl)
  obtain ⟨A5, c5, x5, rfl, r5_, l5_, k5⟩ := arg_slice (opens_int Try.underlying3) Try.underlying62 (by kernel_rfl : Try.prog.cellsOf 3 = 1) (by decide) rfl (Nat.le_of_ble_eq_true (by kernel_rfl)) (hval 5 62 v5 rfl rfl) h5 (hw 5 _ _ rfl rfl)
  obtain ⟨x6, rfl, k6⟩ := arg_int Try.underlying3 (hval 6 3 v6 rfl rfl) h6
  obtain ⟨x7, rfl, k7⟩ := arg_int Try.underlying3 (hval 7 3 v7 rfl rfl) h7
  obtain ⟨x8, rfl, k8⟩ := arg_int Try.underlying3 (hval 8 3 v8 rfl rfl) h8
  obtain ⟨x9, rfl, k9⟩ := arg_struct opens41 Try.underlying41 (hval 9 41 v9 rfl rfl) h9
  have e := AlertNeverLate_true x0 x1 x2 x3 x4 x5 x6 x7 x8 x9 k0 k1 k2 k3 (by have := r4_.short; rw [List.length_map] at this; exact this) k4 (by have := r5_.short; rw [List.length_map] at this; exact this) k5 k6 k7 k8 k9
  have r := skywaykeep2_AlertNeverLate_w x0 x1 x2 x3 A4 c4 x4 A5 c5 x5 x6 x7 x8 x9 W r4_ l4_ r5_ l5_
  rw [e] at r
  exact r
end Go.Proofs.Ytkjdmkgacmkpjaa.alertNeverLateRow
namespace Go.Proofs.Ytkjdmkgacmkpjaa
/-- The given row of AlertNeverLate. -/
theorem alertNeverLate_holds : Rows.AlertNeverLateSaid :=
  OpenClaim.holds_of_wide 10 Try.f10 rfl rfl rfl rfl rfl rfl rfl ⟨rfl, rfl, rfl, rfl, rfl⟩ rfl rfl rfl rfl rfl (by kernel_rfl) Try.func10 (by kernel_rfl)
    (of_decide_eq_true (by kernel_rfl)) (by unfold Func.isWrapper; rw [if_neg (of_decide_eq_false (by kernel_rfl))]; exact ⟨rfl, rfl⟩)
    (fun os started H enc _ => alertNeverLateRow.lifted os started H enc)
end Go.Proofs.Ytkjdmkgacmkpjaa
