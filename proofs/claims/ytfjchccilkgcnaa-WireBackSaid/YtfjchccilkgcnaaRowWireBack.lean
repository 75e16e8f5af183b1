/- WireBack: for every input the law returns true, and its arguments read behind the call as before. Conditions: none. -/
import Derived.Test.YtfjchccilkgcnaaRows
import Derived.Test.YtfjchccilkgcnaaLawWireBack
namespace Go.Proofs.Ytfjchccilkgcnaa.wireBackRow
open Go.ChangeShapes Go.WideShapes Go.ChangeAt Go.RowKit Go.Glue Go.Eng Go.Sky

theorem opens58 : Opens Try.prog 58 Plot.c Plot.ok := by
  intro H enc W base sp hd fuel cs x h
  obtain ⟨xs, n, rfl, rfl, hlen, hxs, hf⟩ := DataW.trod_struct Try.underlying58 h
  obtain ⟨y0, h0⟩ := field_at hxs hf 0 _ rfl
  obtain ⟨a0, e0, k0⟩ := (opens_int Try.underlying3) h0
  obtain ⟨y1, h1⟩ := field_at hxs hf 1 _ rfl
  obtain ⟨a1, e1, k1⟩ := (opens_int Try.underlying3) h1
  obtain ⟨y2, h2⟩ := field_at hxs hf 2 _ rfl
  obtain ⟨a2, e2, k2⟩ := (opens_int Try.underlying3) h2
  obtain ⟨y3, h3⟩ := field_at hxs hf 3 _ rfl
  obtain ⟨a3, e3, k3⟩ := (opens_int Try.underlying3) h3
  obtain ⟨y4, h4⟩ := field_at hxs hf 4 _ rfl
  obtain ⟨a4, e4, k4⟩ := (opens_int Try.underlying3) h4
  obtain ⟨y5, h5⟩ := field_at hxs hf 5 _ rfl
  obtain ⟨a5, e5, k5⟩ := (opens_int Try.underlying3) h5
  have hend : cs.drop 6 = [] := List.drop_eq_nil_of_le (by rw [hlen, show Try.prog.cellsOf 58 = 6 by kernel_rfl]; exact Nat.le_refl _)
  exact ⟨⟨a0, a1, a2, a3, a4, a5⟩, (cat2 (o := 0) (n := 1) (by kernel_rfl) e0 (cat2 (o := 1) (n := 1) (by kernel_rfl) e1 (cat2 (o := 2) (n := 1) (by kernel_rfl) e2 (cat2 (o := 3) (n := 1) (by kernel_rfl) e3 (cat2 (o := 4) (n := 1) (by kernel_rfl) e4 (cat2 (o := 5) (n := 1) (by kernel_rfl) e5 hend)))))), k0, k1, k2, k3, k4, k5⟩

def okW43 (W : World) (a : WireFrameR) : Prop := (fun _ => I64) W a.Radar ∧ (fun _ => I64) W a.Time ∧ (slOk 6 Plot.c (fun _ => Plot.ok)) W a.Plots
theorem opensW43 : OpensW Try.prog 43 WireFrameR.c okW43 := by
  intro H enc W base sp hd fuel cs x h hw
  obtain ⟨xs, n, rfl, rfl, hlen, hxs, hf⟩ := DataW.trod_struct Try.underlying43 h
  obtain ⟨y0, h0, w0⟩ := fieldW_at Try.underlying43 hxs hf hw 0 _ rfl
  obtain ⟨a0, e0, k0⟩ := (Opens.w (opens_int Try.underlying3)) h0 w0
  obtain ⟨y1, h1, w1⟩ := fieldW_at Try.underlying43 hxs hf hw 1 _ rfl
  obtain ⟨a1, e1, k1⟩ := (Opens.w (opens_int Try.underlying3)) h1 w1
  obtain ⟨y2, h2, w2⟩ := fieldW_at Try.underlying43 hxs hf hw 2 _ rfl
  obtain ⟨a2, e2, k2⟩ := (opensW_slice (Opens.w opens58) Try.underlying41 (by kernel_rfl : Try.prog.cellsOf 58 = 6) (by decide) rfl (Nat.le_of_ble_eq_true (by kernel_rfl))) h2 w2
  have hend : cs.drop 3 = [] := List.drop_eq_nil_of_le (by rw [hlen, show Try.prog.cellsOf 43 = 3 by kernel_rfl]; exact Nat.le_refl _)
  exact ⟨⟨a0, a1, a2⟩, (cat2 (o := 0) (n := 1) (by kernel_rfl) e0 (cat2 (o := 1) (n := 1) (by kernel_rfl) e1 (cat2 (o := 2) (n := 1) (by kernel_rfl) e2 hend))), k0, k1, k2⟩

set_option maxRecDepth 100000 in
theorem lifted (os : Os) (started : os.Started) (H : Type) (enc : TypeId × Value → H) :
    ReturnsInHanded {} Try.checked os 8 .any (Rows.wireBackSpec.pre6 enc Try.prog Try.f8 Rows.wireBackRow.domain false) (Rows.wireBackSpec.post enc Try.prog Try.f8 false true false false) := by
  refine lift (C := Try.checked) (tb := 4) (by kernel_rfl) started (by kernel_rfl) Try.func8 (by kernel_rfl) (by kernel_rfl) rfl (by kernel_rfl) Try.underlying4 (fun ds h => by match ds, h with | [_, _, _], _ => rfl)
    (ChangeSpec.witness6 (enc := enc) (C := Try.checked) false ⟨#[], #[(.agg (WireFrameR.c ⟨0, 0, Sl.zero⟩)), .string .empty, .int .i64 0], []⟩ 8 (by kernel_rfl) (by kernel_rfl) (by kernel_rfl) (by kernel_rfl)) ?_
  intro W base args ds p hval0 hA0 hw0
  have hval : ∀ (j : Nat) t v, Try.f8.params[j]? = some t → args[j]? = some v → Value.okWide Try.prog W .any base t v := hval0
  have hA : DataW.TrodAll enc Try.prog W 0 (fun _ => true) true Try.f8.params.toList args.toList ds p := hA0
  have hw : ∀ (j : Nat) (t : TypeId) (d : DataW H), Try.f8.params.toList[j]? = some t → ds[j]? = some d → ∀ n ∈ d.weights Try.prog t, n ≤ reachBytes := hw0
  clear hval0 hA0 hw0
  rw [Try.params8] at hA hval hw
  obtain ⟨v0, vs0, d0, ds0, p0, q0, hargs, rfl, rfl, h0, s0⟩ := trodAll_cons hA
  obtain ⟨v1, vs1, d1, ds1, p1, q1, rfl, rfl, rfl, h1, s1⟩ := trodAll_cons s0
  obtain ⟨v2, vs2, d2, ds2, p2, q2, rfl, rfl, rfl, h2, s2⟩ := trodAll_cons s1
  obtain ⟨rfl, rfl, rfl⟩ := trodAll_nil s2
  obtain rfl : args = #[v0, v1, v2] := by cases args; simp_all
  obtain ⟨x0, rfl, k0⟩ := argW_struct opensW43 Try.underlying43 (hval 0 43 v0 rfl rfl) h0 (hw 0 _ _ rfl rfl)
  obtain ⟨x1, rfl, k1⟩ := arg_string Try.underlying9 (hval 1 9 v1 rfl rfl) h1 (hw 1 _ _ rfl rfl)
  obtain ⟨x2, rfl, k2⟩ := arg_int Try.underlying3 (hval 2 3 v2 rfl rfl) h2
  have e := WireBack_true x0.p x1 x2 ⟨k0.1, k0.2.1, ⟨(by have := k0.2.2.1.rd.short; rw [List.length_map] at this; exact this), k0.2.2.2⟩⟩ k1 k2
  have r := skywaykeep2_WireBack_w x0.p x0.Plots.A x0.Plots.cap x1 x2 W k0.2.2.1.rd k0.2.2.1.le k1
  rw [e] at r
  exact r
end Go.Proofs.Ytfjchccilkgcnaa.wireBackRow
namespace Go.Proofs.Ytfjchccilkgcnaa
/-- The given row of WireBack. -/
theorem wireBack_holds : Rows.WireBackSaid :=
  OpenClaim.holds_of_wide 8 Try.f8 rfl rfl rfl rfl rfl rfl rfl ⟨rfl, rfl, rfl, rfl, rfl⟩ rfl rfl rfl rfl rfl (by kernel_rfl) Try.func8 (by kernel_rfl)
    (of_decide_eq_true (by kernel_rfl)) (by unfold Func.isWrapper; rw [if_neg (of_decide_eq_false (by kernel_rfl))]; exact ⟨rfl, rfl⟩)
    (fun os started H enc _ => wireBackRow.lifted os started H enc)
end Go.Proofs.Ytfjchccilkgcnaa
