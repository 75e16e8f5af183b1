/- BiasExact: for every input the law returns true, and its arguments read behind the call as before. Conditions: none. -/
import Derived.Test.YtfjchccilkgcnaaRows
import Derived.Test.YtfjchccilkgcnaaLawBiasExact
namespace Go.Proofs.Ytfjchccilkgcnaa.biasExactRow
open Go.ChangeShapes Go.WideShapes Go.ChangeAt Go.RowKit Go.Glue Go.Eng Go.Sky

theorem opens58 : Opens Try.prog 58 Plot.c Plot.ok := by
  intro H enc W base sp hd fuel cs x h
  obtain ⟨xs, n, rfl, rfl, hlen, hxs, hf⟩ := DataW.trod_struct Try.underlying58 h
  obtain ⟨y0, h0⟩ := field_at hxs hf 0 _ rfl
  obtain ⟨a0, e0, k0⟩ := (opens_int Try.underlying3) h0
  obtain ⟨y1, h1⟩ := field_at hxs hf 1 _ rfl
  obtain ⟨a1, e1, k1⟩ := (opens_int Try.underlying3) h1
  obtain ⟨y2, h2⟩ := field_at hxs hf 2 _ rfl
  obtain ⟨a2, e2, k2⟩ := (opens_int Try.underlying3) h2
  obtain ⟨y3, h3⟩ := field_at hxs hf 3 _ rfl
  obtain ⟨a3, e3, k3⟩ := (opens_int Try.underlying3) h3
  obtain ⟨y4, h4⟩ := field_at hxs hf 4 _ rfl
  obtain ⟨a4, e4, k4⟩ := (opens_int Try.underlying3) h4
  obtain ⟨y5, h5⟩ := field_at hxs hf 5 _ rfl
  obtain ⟨a5, e5, k5⟩ := (opens_int Try.underlying3) h5
  have hend : cs.drop 6 = [] := List.drop_eq_nil_of_le (by rw [hlen, show Try.prog.cellsOf 58 = 6 by kernel_rfl]; exact Nat.le_refl _)
  exact ⟨⟨a0, a1, a2, a3, a4, a5⟩, (cat2 (o := 0) (n := 1) (by kernel_rfl) e0 (cat2 (o := 1) (n := 1) (by kernel_rfl) e1 (cat2 (o := 2) (n := 1) (by kernel_rfl) e2 (cat2 (o := 3) (n := 1) (by kernel_rfl) e3 (cat2 (o := 4) (n := 1) (by kernel_rfl) e4 (cat2 (o := 5) (n := 1) (by kernel_rfl) e5 hend)))))), k0, k1, k2, k3, k4, k5⟩

theorem opens54 : Opens Try.prog 54 BiasOffset.c BiasOffset.ok := by
  intro H enc W base sp hd fuel cs x h
  obtain ⟨xs, n, rfl, rfl, hlen, hxs, hf⟩ := DataW.trod_struct Try.underlying54 h
  obtain ⟨y0, h0⟩ := field_at hxs hf 0 _ rfl
  obtain ⟨a0, e0, k0⟩ := (opens_int Try.underlying3) h0
  obtain ⟨y1, h1⟩ := field_at hxs hf 1 _ rfl
  obtain ⟨a1, e1, k1⟩ := (opens_int Try.underlying3) h1
  obtain ⟨y2, h2⟩ := field_at hxs hf 2 _ rfl
  obtain ⟨a2, e2, k2⟩ := (opens_int Try.underlying3) h2
  have hend : cs.drop 3 = [] := List.drop_eq_nil_of_le (by rw [hlen, show Try.prog.cellsOf 54 = 3 by kernel_rfl]; exact Nat.le_refl _)
  exact ⟨⟨a0, a1, a2⟩, (cat2 (o := 0) (n := 1) (by kernel_rfl) e0 (cat2 (o := 1) (n := 1) (by kernel_rfl) e1 (cat2 (o := 2) (n := 1) (by kernel_rfl) e2 hend))), k0, k1, k2⟩

set_option maxRecDepth 100000 in
theorem lifted (os : Os) (started : os.Started) (H : Type) (enc : TypeId × Value → H) :
    ReturnsInHanded {} Try.checked os 9 .any (Rows.biasExactSpec.pre6 enc Try.prog Try.f9 Rows.biasExactRow.domain false) (Rows.biasExactSpec.post enc Try.prog Try.f9 false true false false) := by
  refine lift (C := Try.checked) (tb := 4) (by kernel_rfl) started (by kernel_rfl) Try.func9 (by kernel_rfl) (by kernel_rfl) rfl (by kernel_rfl) Try.underlying4 (fun ds h => by match ds, h with | [_, _, _], _ => rfl)
    (ChangeSpec.witness6 (enc := enc) (C := Try.checked) false ⟨#[], #[.slice none 0 0, (BiasOffset.v BiasOffset.zero), .slice none 0 0], []⟩ 8 (by kernel_rfl) (by kernel_rfl) (by kernel_rfl) (by kernel_rfl)) ?_
  intro W base args ds p hval0 hA0 hw0
  have hval : ∀ (j : Nat) t v, Try.f9.params[j]? = some t → args[j]? = some v → Value.okWide Try.prog W .any base t v := hval0
  have hA : DataW.TrodAll enc Try.prog W 0 (fun _ => true) true Try.f9.params.toList args.toList ds p := hA0
  have hw : ∀ (j : Nat) (t : TypeId) (d : DataW H), Try.f9.params.toList[j]? = some t → ds[j]? = some d → ∀ n ∈ d.weights Try.prog t, n ≤ reachBytes := hw0
  clear hval0 hA0 hw0
  rw [Try.params9] at hA hval hw
  obtain ⟨v0, vs0, d0, ds0, p0, q0, hargs, rfl, rfl, h0, s0⟩ := trodAll_cons hA
  obtain ⟨v1, vs1, d1, ds1, p1, q1, rfl, rfl, rfl, h1, s1⟩ := trodAll_cons s0
  obtain ⟨v2, vs2, d2, ds2, p2, q2, rfl, rfl, rfl, h2, s2⟩ := trodAll_cons s1
  obtain ⟨rfl, rfl, rfl⟩ := trodAll_nil s2
  obtain rfl : args = #[v0, v1, v2] := by cases args; simp_all
  obtain ⟨A0, c0, x0, rfl, r0_, l0_, k0⟩ := arg_slice opens58 Try.underlying41 (by kernel_rfl : Try.prog.cellsOf 58 = 6) (by decide) rfl (Nat.le_of_ble_eq_true (by kernel_rfl)) (hval 0 41 v0 rfl rfl) h0 (hw 0 _ _ rfl rfl)
  obtain ⟨x1, rfl, k1⟩ := arg_struct opens54 Try.underlying54 (hval 1 54 v1 rfl rfl) h1
  obtain ⟨A2, c2, x2, rfl, r2_, l2_, k2⟩ := arg_slice opens58 Try.underlying41 (by kernel_rfl : Try.prog.cellsOf 58 = 6) (by decide) rfl (Nat.le_of_ble_eq_true (by kernel_rfl)) (hval 2 41 v2 rfl rfl) h2 (hw 2 _ _ rfl rfl)
  have e := BiasExact_true x0 x1 x2 (by have := r0_.short; rw [List.length_map] at this; exact this) k0 k1 (by have := r2_.short; rw [List.length_map] at this; exact this) k2
  have r := skywaykeep2_BiasExact_w A0 c0 x0 x1 A2 c2 x2 W r0_ l0_ r2_ l2_
  rw [e] at r
  exact r
end Go.Proofs.Ytfjchccilkgcnaa.biasExactRow
namespace Go.Proofs.Ytfjchccilkgcnaa
/-- The given row of BiasExact. -/
theorem biasExact_holds : Rows.BiasExactSaid :=
  OpenClaim.holds_of_wide 9 Try.f9 rfl rfl rfl rfl rfl rfl rfl ⟨rfl, rfl, rfl, rfl, rfl⟩ rfl rfl rfl rfl rfl (by kernel_rfl) Try.func9 (by kernel_rfl)
    (of_decide_eq_true (by kernel_rfl)) (by unfold Func.isWrapper; rw [if_neg (of_decide_eq_false (by kernel_rfl))]; exact ⟨rfl, rfl⟩)
    (fun os started H enc _ => biasExactRow.lifted os started H enc)
end Go.Proofs.Ytfjchccilkgcnaa
