/- TerrainNeverLate: for every input the law returns true, and its arguments read behind the call as before. Conditions: none. -/
import Derived.Test.YtkjdmkgacmkpjaaRows
import Derived.Test.YtkjdmkgacmkpjaaLawTerrainNeverLate
namespace Go.Proofs.Ytkjdmkgacmkpjaa.terrainNeverLateRow
open Go.ChangeShapes Go.WideShapes Go.ChangeAt Go.RowKit Go.Glue Go.Eng Go.Sky

theorem opens23 : Opens Try.prog 23 P.c P.ok := by
  intro H enc W base sp hd fuel cs x h
  obtain ⟨xs, n, rfl, rfl, hlen, hxs, hf⟩ := DataW.trod_struct Try.underlying23 h
  obtain ⟨y0, h0⟩ := field_at hxs hf 0 _ rfl
  obtain ⟨a0, e0, k0⟩ := (opens_int Try.underlying3) h0
  obtain ⟨y1, h1⟩ := field_at hxs hf 1 _ rfl
  obtain ⟨a1, e1, k1⟩ := (opens_int Try.underlying3) h1
  have hend : cs.drop 2 = [] := List.drop_eq_nil_of_le (by rw [hlen, show Try.prog.cellsOf 23 = 2 by kernel_rfl]; exact Nat.le_refl _)
  exact ⟨⟨a0, a1⟩, (cat2 (o := 0) (n := 1) (by kernel_rfl) e0 (cat2 (o := 1) (n := 1) (by kernel_rfl) e1 hend)), k0, k1⟩

def okW73 (W : World) (a : TerrainGridR) : Prop := (fun _ => P.ok) W a.At ∧ (fun _ => I64) W a.Size ∧ (fun _ => I64) W a.NX ∧ (fun _ => I64) W a.NY ∧ (slOk 1 ic (fun _ => I64)) W a.Heights
theorem opensW73 : OpensW Try.prog 73 TerrainGridR.c okW73 := by
  intro H enc W base sp hd fuel cs x h hw
  obtain ⟨xs, n, rfl, rfl, hlen, hxs, hf⟩ := DataW.trod_struct Try.underlying73 h
  obtain ⟨y0, h0, w0⟩ := fieldW_at Try.underlying73 hxs hf hw 0 _ rfl
  obtain ⟨a0, e0, k0⟩ := (Opens.w opens23) h0 w0
  obtain ⟨y1, h1, w1⟩ := fieldW_at Try.underlying73 hxs hf hw 1 _ rfl
  obtain ⟨a1, e1, k1⟩ := (Opens.w (opens_int Try.underlying3)) h1 w1
  obtain ⟨y2, h2, w2⟩ := fieldW_at Try.underlying73 hxs hf hw 2 _ rfl
  obtain ⟨a2, e2, k2⟩ := (Opens.w (opens_int Try.underlying3)) h2 w2
  obtain ⟨y3, h3, w3⟩ := fieldW_at Try.underlying73 hxs hf hw 3 _ rfl
  obtain ⟨a3, e3, k3⟩ := (Opens.w (opens_int Try.underlying3)) h3 w3
  obtain ⟨y4, h4, w4⟩ := fieldW_at Try.underlying73 hxs hf hw 4 _ rfl
  obtain ⟨a4, e4, k4⟩ := (opensW_slice (Opens.w (opens_int Try.underlying3)) Try.underlying62 (by kernel_rfl : Try.prog.cellsOf 3 = 1) (by decide) rfl (Nat.le_of_ble_eq_true (by kernel_rfl))) h4 w4
  have hend : cs.drop 6 = [] := List.drop_eq_nil_of_le (by rw [hlen, show Try.prog.cellsOf 73 = 6 by kernel_rfl]; exact Nat.le_refl _)
  exact ⟨⟨a0, a1, a2, a3, a4⟩, (cat2 (o := 0) (n := 2) (by kernel_rfl) e0 (cat2 (o := 2) (n := 1) (by kernel_rfl) e1 (cat2 (o := 3) (n := 1) (by kernel_rfl) e2 (cat2 (o := 4) (n := 1) (by kernel_rfl) e3 (cat2 (o := 5) (n := 1) (by kernel_rfl) e4 hend))))), k0, k1, k2, k3, k4⟩

set_option maxRecDepth 100000 in
theorem lifted (os : Os) (started : os.Started) (H : Type) (enc : TypeId × Value → H) :
    ReturnsInHanded {} Try.checked os 13 .any (Rows.terrainNeverLateSpec.pre6 enc Try.prog Try.f13 Rows.terrainNeverLateRow.domain false) (Rows.terrainNeverLateSpec.post enc Try.prog Try.f13 false true false false) := by
  refine lift (C := Try.checked) (tb := 4) (by kernel_rfl) started (by kernel_rfl) Try.func13 (by kernel_rfl) (by kernel_rfl) rfl (by kernel_rfl) Try.underlying4 (fun ds h => by match ds, h with | [_, _, _, _, _, _, _], _ => rfl)
    (ChangeSpec.witness6 (enc := enc) (C := Try.checked) false ⟨#[], #[(.agg (TerrainGridR.c ⟨P.zero, 0, 0, 0, Sl.zero⟩)), (P.v P.zero), (P.v P.zero), .slice none 0 0, .int .i64 0, .int .i64 0, .int .i64 0], []⟩ 8 (by kernel_rfl) (by kernel_rfl) (by kernel_rfl) (by kernel_rfl)) ?_
  intro W base args ds p hval0 hA0 hw0
  have hval : ∀ (j : Nat) t v, Try.f13.params[j]? = some t → args[j]? = some v → Value.okWide Try.prog W .any base t v := hval0
  have hA : DataW.TrodAll enc Try.prog W 0 (fun _ => true) true Try.f13.params.toList args.toList ds p := hA0
  have hw : ∀ (j : Nat) (t : TypeId) (d : DataW H), Try.f13.params.toList[j]? = some t → ds[j]? = some d → ∀ n ∈ d.weights Try.prog t, n ≤ reachBytes := hw0
  clear hval0 hA0 hw0
  rw [Try.params13] at hA hval hw
  obtain ⟨v0, vs0, d0, ds0, p0, q0, hargs, rfl, rfl, h0, s0⟩ := trodAll_cons hA
  obtain ⟨v1, vs1, d1, ds1, p1, q1, rfl, rfl, rfl, h1, s1⟩ := trodAll_cons s0
  obtain ⟨v2, vs2, d2, ds2, p2, q2, rfl, rfl, rfl, h2, s2⟩ := trodAll_cons s1
  obtain ⟨v3, vs3, d3, ds3, p3, q3, rfl, rfl, rfl, h3, s3⟩ := trodAll_cons s2
  obtain ⟨v4, vs4, d4, ds4, p4, q4, rfl, rfl, rfl, h4, s4⟩ := trodAll_cons s3
  obtain ⟨v5, vs5, d5, ds5, p5, q5, rfl, rfl, rfl, h5, s5⟩ := trodAll_cons s4
  obtain ⟨v6, vs6, d6, ds6, p6, q6, rfl, rfl, rfl, h6, s6⟩ := trodAll_cons s5
  obtain ⟨rfl, rfl, rfl⟩ := trodAll_nil s6
  obtain rfl : args = #[v0, v1, v2, v3, v4, v5, v6] := by cases args; simp_all
  obtain ⟨x0, rfl, k0⟩ := argW_struct opensW73 Try.underlying73 (hval 0 73 v0 rfl rfl) h0 (hw 0 _ _ rfl rfl)
  obtain ⟨x1, rfl, k1⟩ := arg_struct opens23 Try.underlying23 (hval 1 23 v1 rfl rfl) h1
  obtain ⟨x2, rfl, k2⟩ := arg_struct opens23 Try.underlying23 (hval 2 23 v2 rfl rfl) h2
  obtain ⟨A3, c3, x3, rfl, r3_, l3_, k3⟩ := arg_slice (opens_int Try.underlying3) Try.underlying62 (by kernel_rfl : Try.prog.cellsOf 3 = 1) (by decide) rfl (Nat.le_of_ble_eq_true (by kernel_rfl)) (hval 3 62 v3 rfl rfl) h3 (hw 3 _ _ rfl rfl)
  obtain ⟨x4, rfl, k4⟩ := arg_int Try.underlying3 (hval 4 3 v4 rfl rfl) h4
  obtain ⟨x5, rfl, k5⟩ := arg_int Try.underlying3 (hval 5 3 v5 rfl rfl) h5
  obtain ⟨x6, rfl, k6⟩ := arg_int Try.underlying3 (hval 6 3 v6 rfl rfl) h6
  have e := TerrainNeverLate_true x0.p x1 x2 x3 x4 x5 x6 ⟨k0.1, k0.2.1, k0.2.2.1, k0.2.2.2.1, ⟨(by have := k0.2.2.2.2.1.rd.short; rw [List.length_map] at this; exact this), k0.2.2.2.2.2⟩⟩ k1 k2 (by have := r3_.short; rw [List.length_map] at this; exact this) k3 k4 k5 k6
  have r := skywaykeep2_TerrainNeverLate_w x0.p x0.Heights.A x0.Heights.cap x1 x2 A3 c3 x3 x4 x5 x6 W k0.2.2.2.2.1.rd k0.2.2.2.2.1.le r3_ l3_
  rw [e] at r
  exact r
end Go.Proofs.Ytkjdmkgacmkpjaa.terrainNeverLateRow
namespace Go.Proofs.Ytkjdmkgacmkpjaa
/-- The given row of TerrainNeverLate. -/
theorem terrainNeverLate_holds : Rows.TerrainNeverLateSaid :=
  OpenClaim.holds_of_wide 13 Try.f13 rfl rfl rfl rfl rfl rfl rfl ⟨rfl, rfl, rfl, rfl, rfl⟩ rfl rfl rfl rfl rfl (by kernel_rfl) Try.func13 (by kernel_rfl)
    (of_decide_eq_true (by kernel_rfl)) (by unfold Func.isWrapper; rw [if_neg (of_decide_eq_false (by kernel_rfl))]; exact ⟨rfl, rfl⟩)
    (fun os started H enc _ => terrainNeverLateRow.lifted os started H enc)
end Go.Proofs.Ytkjdmkgacmkpjaa
