/- FuseTracks: for every input the law returns true, and its arguments read behind the call as before. Conditions: none. -/
import Derived.Test.YtkjdmkgacmkpjaaRows
import Derived.Test.YtkjdmkgacmkpjaaLawFuseTracks
namespace Go.Proofs.Ytkjdmkgacmkpjaa.fuseTracksRow
open Go.ChangeShapes Go.WideShapes Go.ChangeAt Go.RowKit Go.Glue Go.Eng Go.Sky

theorem opens23 : Opens Try.prog 23 P.c P.ok := by
  intro H enc W base sp hd fuel cs x h
  obtain ⟨xs, n, rfl, rfl, hlen, hxs, hf⟩ := DataW.trod_struct Try.underlying23 h
  obtain ⟨y0, h0⟩ := field_at hxs hf 0 _ rfl
  obtain ⟨a0, e0, k0⟩ := (opens_int Try.underlying3) h0
  obtain ⟨y1, h1⟩ := field_at hxs hf 1 _ rfl
  obtain ⟨a1, e1, k1⟩ := (opens_int Try.underlying3) h1
  have hend : cs.drop 2 = [] := List.drop_eq_nil_of_le (by rw [hlen, show Try.prog.cellsOf 23 = 2 by kernel_rfl]; exact Nat.le_refl _)
  exact ⟨⟨a0, a1⟩, (cat2 (o := 0) (n := 1) (by kernel_rfl) e0 (cat2 (o := 1) (n := 1) (by kernel_rfl) e1 hend)), k0, k1⟩

theorem opens25 : Opens Try.prog 25 Track.c Track.ok := by
  intro H enc W base sp hd fuel cs x h
  obtain ⟨xs, n, rfl, rfl, hlen, hxs, hf⟩ := DataW.trod_struct Try.underlying25 h
  obtain ⟨y0, h0⟩ := field_at hxs hf 0 _ rfl
  obtain ⟨a0, e0, k0⟩ := (opens_int Try.underlying3) h0
  obtain ⟨y1, h1⟩ := field_at hxs hf 1 _ rfl
  obtain ⟨a1, e1, k1⟩ := (opens_int Try.underlying3) h1
  obtain ⟨y2, h2⟩ := field_at hxs hf 2 _ rfl
  obtain ⟨a2, e2, k2⟩ := (opens_int Try.underlying3) h2
  obtain ⟨y3, h3⟩ := field_at hxs hf 3 _ rfl
  obtain ⟨a3, e3, k3⟩ := opens23 h3
  obtain ⟨y4, h4⟩ := field_at hxs hf 4 _ rfl
  obtain ⟨a4, e4, k4⟩ := opens23 h4
  obtain ⟨y5, h5⟩ := field_at hxs hf 5 _ rfl
  obtain ⟨a5, e5, k5⟩ := (opens_int Try.underlying3) h5
  obtain ⟨y6, h6⟩ := field_at hxs hf 6 _ rfl
  obtain ⟨a6, e6, k6⟩ := (opens_int Try.underlying3) h6
  obtain ⟨y7, h7⟩ := field_at hxs hf 7 _ rfl
  obtain ⟨a7, e7, k7⟩ := (opens_int Try.underlying3) h7
  obtain ⟨y8, h8⟩ := field_at hxs hf 8 _ rfl
  obtain ⟨a8, e8, k8⟩ := (opens_int Try.underlying3) h8
  obtain ⟨y9, h9⟩ := field_at hxs hf 9 _ rfl
  obtain ⟨a9, e9, k9⟩ := (opens_int Try.underlying3) h9
  obtain ⟨y10, h10⟩ := field_at hxs hf 10 _ rfl
  obtain ⟨a10, e10, k10⟩ := (opens_int Try.underlying3) h10
  have hend : cs.drop 13 = [] := List.drop_eq_nil_of_le (by rw [hlen, show Try.prog.cellsOf 25 = 13 by kernel_rfl]; exact Nat.le_refl _)
  exact ⟨⟨a0, a1, a2, a3, a4, a5, a6, a7, a8, a9, a10⟩, (cat2 (o := 0) (n := 1) (by kernel_rfl) e0 (cat2 (o := 1) (n := 1) (by kernel_rfl) e1 (cat2 (o := 2) (n := 1) (by kernel_rfl) e2 (cat2 (o := 3) (n := 2) (by kernel_rfl) e3 (cat2 (o := 5) (n := 2) (by kernel_rfl) e4 (cat2 (o := 7) (n := 1) (by kernel_rfl) e5 (cat2 (o := 8) (n := 1) (by kernel_rfl) e6 (cat2 (o := 9) (n := 1) (by kernel_rfl) e7 (cat2 (o := 10) (n := 1) (by kernel_rfl) e8 (cat2 (o := 11) (n := 1) (by kernel_rfl) e9 (cat2 (o := 12) (n := 1) (by kernel_rfl) e10 hend))))))))))), k0, k1, k2, k3, k4, k5, k6, k7, k8, k9, k10⟩

theorem opens27 : Opens Try.prog 27 Spot.c Spot.ok := by
  intro H enc W base sp hd fuel cs x h
  obtain ⟨xs, n, rfl, rfl, hlen, hxs, hf⟩ := DataW.trod_struct Try.underlying27 h
  obtain ⟨y0, h0⟩ := field_at hxs hf 0 _ rfl
  obtain ⟨a0, e0, k0⟩ := (opens_int Try.underlying3) h0
  obtain ⟨y1, h1⟩ := field_at hxs hf 1 _ rfl
  obtain ⟨a1, e1, k1⟩ := opens23 h1
  obtain ⟨y2, h2⟩ := field_at hxs hf 2 _ rfl
  obtain ⟨a2, e2, k2⟩ := (opens_int Try.underlying3) h2
  obtain ⟨y3, h3⟩ := field_at hxs hf 3 _ rfl
  obtain ⟨a3, e3, k3⟩ := (opens_int Try.underlying3) h3
  obtain ⟨y4, h4⟩ := field_at hxs hf 4 _ rfl
  obtain ⟨a4, e4, k4⟩ := (opens_int Try.underlying3) h4
  have hend : cs.drop 6 = [] := List.drop_eq_nil_of_le (by rw [hlen, show Try.prog.cellsOf 27 = 6 by kernel_rfl]; exact Nat.le_refl _)
  exact ⟨⟨a0, a1, a2, a3, a4⟩, (cat2 (o := 0) (n := 1) (by kernel_rfl) e0 (cat2 (o := 1) (n := 2) (by kernel_rfl) e1 (cat2 (o := 3) (n := 1) (by kernel_rfl) e2 (cat2 (o := 4) (n := 1) (by kernel_rfl) e3 (cat2 (o := 5) (n := 1) (by kernel_rfl) e4 hend))))), k0, k1, k2, k3, k4⟩

theorem opens29 : Opens Try.prog 29 FilterTrack.c FilterTrack.ok := by
  intro H enc W base sp hd fuel cs x h
  obtain ⟨xs, n, rfl, rfl, hlen, hxs, hf⟩ := DataW.trod_struct Try.underlying29 h
  obtain ⟨y0, h0⟩ := field_at hxs hf 0 _ rfl
  obtain ⟨a0, e0, k0⟩ := opens25 h0
  obtain ⟨y1, h1⟩ := field_at hxs hf 1 _ rfl
  obtain ⟨a1, e1, k1⟩ := (opens_int Try.underlying3) h1
  obtain ⟨y2, h2⟩ := field_at hxs hf 2 _ rfl
  obtain ⟨a2, e2, k2⟩ := opens27 h2
  have hend : cs.drop 20 = [] := List.drop_eq_nil_of_le (by rw [hlen, show Try.prog.cellsOf 29 = 20 by kernel_rfl]; exact Nat.le_refl _)
  exact ⟨⟨a0, a1, a2⟩, (cat2 (o := 0) (n := 13) (by kernel_rfl) e0 (cat2 (o := 13) (n := 1) (by kernel_rfl) e1 (cat2 (o := 14) (n := 6) (by kernel_rfl) e2 hend))), k0, k1, k2⟩

set_option maxRecDepth 100000 in
theorem lifted (os : Os) (started : os.Started) (H : Type) (enc : TypeId × Value → H) :
    ReturnsInHanded {} Try.checked os 7 .any (Rows.fuseTracksSpec.pre6 enc Try.prog Try.f7 Rows.fuseTracksRow.domain false) (Rows.fuseTracksSpec.post enc Try.prog Try.f7 false true false false) := by
  refine lift (C := Try.checked) (tb := 4) (by kernel_rfl) started (by kernel_rfl) Try.func7 (by kernel_rfl) (by kernel_rfl) rfl (by kernel_rfl) Try.underlying4 (fun ds h => by match ds, h with | [_, _], _ => rfl)
    (ChangeSpec.witness6 (enc := enc) (C := Try.checked) false ⟨#[], #[.slice none 0 0, .int .i64 0], []⟩ 8 (by kernel_rfl) (by kernel_rfl) (by kernel_rfl) (by kernel_rfl)) ?_
  intro W base args ds p hval0 hA0 hw0
  have hval : ∀ (j : Nat) t v, Try.f7.params[j]? = some t → args[j]? = some v → Value.okWide Try.prog W .any base t v := hval0
  have hA : DataW.TrodAll enc Try.prog W 0 (fun _ => true) true Try.f7.params.toList args.toList ds p := hA0
  have hw : ∀ (j : Nat) (t : TypeId) (d : DataW H), Try.f7.params.toList[j]? = some t → ds[j]? = some d → ∀ n ∈ d.weights Try.prog t, n ≤ reachBytes := hw0
  clear hval0 hA0 hw0
  rw [Try.params7] at hA hval hw
  obtain ⟨v0, vs0, d0, ds0, p0, q0, hargs, rfl, rfl, h0, s0⟩ := trodAll_cons hA
  obtain ⟨v1, vs1, d1, ds1, p1, q1, rfl, rfl, rfl, h1, s1⟩ := trodAll_cons s0
  obtain ⟨rfl, rfl, rfl⟩ := trodAll_nil s1
  obtain rfl : args = #[v0, v1] := by cases args; simp_all
  obtain ⟨A0, c0, x0, rfl, r0_, l0_, k0⟩ := arg_slice opens29 Try.underlying30 (by kernel_rfl : Try.prog.cellsOf 29 = 20) (by decide) rfl (Nat.le_of_ble_eq_true (by kernel_rfl)) (hval 0 30 v0 rfl rfl) h0 (hw 0 _ _ rfl rfl)
  obtain ⟨x1, rfl, k1⟩ := arg_int Try.underlying3 (hval 1 3 v1 rfl rfl) h1
  have e := FuseTracks_true x0 x1 (by have := r0_.short; rw [List.length_map] at this; exact this) k0 k1
  have r := skywaykeep2_FuseTracks_w A0 c0 x0 x1 W r0_ l0_
  rw [e] at r
  exact r
end Go.Proofs.Ytkjdmkgacmkpjaa.fuseTracksRow
namespace Go.Proofs.Ytkjdmkgacmkpjaa
/-- The given row of FuseTracks. -/
theorem fuseTracks_holds : Rows.FuseTracksSaid :=
  OpenClaim.holds_of_wide 7 Try.f7 rfl rfl rfl rfl rfl rfl rfl ⟨rfl, rfl, rfl, rfl, rfl⟩ rfl rfl rfl rfl rfl (by kernel_rfl) Try.func7 (by kernel_rfl)
    (of_decide_eq_true (by kernel_rfl)) (by unfold Func.isWrapper; rw [if_neg (of_decide_eq_false (by kernel_rfl))]; exact ⟨rfl, rfl⟩)
    (fun os started H enc _ => fuseTracksRow.lifted os started H enc)
end Go.Proofs.Ytkjdmkgacmkpjaa
