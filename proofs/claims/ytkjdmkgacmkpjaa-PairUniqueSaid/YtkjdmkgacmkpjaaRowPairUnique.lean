/- PairUnique: for every input the law returns true, and its arguments read behind the call as before. Conditions: none. -/
import Derived.Test.YtkjdmkgacmkpjaaRows
import Derived.Test.YtkjdmkgacmkpjaaLawPairUnique
namespace Go.Proofs.Ytkjdmkgacmkpjaa.pairUniqueRow
open Go.ChangeShapes Go.WideShapes Go.ChangeAt Go.RowKit Go.Glue Go.Eng Go.Sky

theorem opens23 : Opens Try.prog 23 P.c P.ok := by
  intro H enc W base sp hd fuel cs x h
  obtain ⟨xs, n, rfl, rfl, hlen, hxs, hf⟩ := DataW.trod_struct Try.underlying23 h
  obtain ⟨y0, h0⟩ := field_at hxs hf 0 _ rfl
  obtain ⟨a0, e0, k0⟩ := (opens_int Try.underlying3) h0
  obtain ⟨y1, h1⟩ := field_at hxs hf 1 _ rfl
  obtain ⟨a1, e1, k1⟩ := (opens_int Try.underlying3) h1
  have hend : cs.drop 2 = [] := List.drop_eq_nil_of_le (by rw [hlen, show Try.prog.cellsOf 23 = 2 by kernel_rfl]; exact Nat.le_refl _)
  exact ⟨⟨a0, a1⟩, (cat2 (o := 0) (n := 1) (by kernel_rfl) e0 (cat2 (o := 1) (n := 1) (by kernel_rfl) e1 hend)), k0, k1⟩

theorem opens25 : Opens Try.prog 25 Track.c Track.ok := by
  intro H enc W base sp hd fuel cs x h
  obtain ⟨xs, n, rfl, rfl, hlen, hxs, hf⟩ := DataW.trod_struct Try.underlying25 h
  obtain ⟨y0, h0⟩ := field_at hxs hf 0 _ rfl
  obtain ⟨a0, e0, k0⟩ := (opens_int Try.underlying3) h0
  obtain ⟨y1, h1⟩ := field_at hxs hf 1 _ rfl
  obtain ⟨a1, e1, k1⟩ := (opens_int Try.underlying3) h1
  obtain ⟨y2, h2⟩ := field_at hxs hf 2 _ rfl
  obtain ⟨a2, e2, k2⟩ := (opens_int Try.underlying3) h2
  obtain ⟨y3, h3⟩ := field_at hxs hf 3 _ rfl
  obtain ⟨a3, e3, k3⟩ := opens23 h3
  obtain ⟨y4, h4⟩ := field_at hxs hf 4 _ rfl
  obtain ⟨a4, e4, k4⟩ := opens23 h4
  obtain ⟨y5, h5⟩ := field_at hxs hf 5 _ rfl
  obtain ⟨a5, e5, k5⟩ := (opens_int Try.underlying3) h5
  obtain ⟨y6, h6⟩ := field_at hxs hf 6 _ rfl
  obtain ⟨a6, e6, k6⟩ := (opens_int Try.underlying3) h6
  obtain ⟨y7, h7⟩ := field_at hxs hf 7 _ rfl
  obtain ⟨a7, e7, k7⟩ := (opens_int Try.underlying3) h7
  obtain ⟨y8, h8⟩ := field_at hxs hf 8 _ rfl
  obtain ⟨a8, e8, k8⟩ := (opens_int Try.underlying3) h8
  obtain ⟨y9, h9⟩ := field_at hxs hf 9 _ rfl
  obtain ⟨a9, e9, k9⟩ := (opens_int Try.underlying3) h9
  obtain ⟨y10, h10⟩ := field_at hxs hf 10 _ rfl
  obtain ⟨a10, e10, k10⟩ := (opens_int Try.underlying3) h10
  have hend : cs.drop 13 = [] := List.drop_eq_nil_of_le (by rw [hlen, show Try.prog.cellsOf 25 = 13 by kernel_rfl]; exact Nat.le_refl _)
  exact ⟨⟨a0, a1, a2, a3, a4, a5, a6, a7, a8, a9, a10⟩, (cat2 (o := 0) (n := 1) (by kernel_rfl) e0 (cat2 (o := 1) (n := 1) (by kernel_rfl) e1 (cat2 (o := 2) (n := 1) (by kernel_rfl) e2 (cat2 (o := 3) (n := 2) (by kernel_rfl) e3 (cat2 (o := 5) (n := 2) (by kernel_rfl) e4 (cat2 (o := 7) (n := 1) (by kernel_rfl) e5 (cat2 (o := 8) (n := 1) (by kernel_rfl) e6 (cat2 (o := 9) (n := 1) (by kernel_rfl) e7 (cat2 (o := 10) (n := 1) (by kernel_rfl) e8 (cat2 (o := 11) (n := 1) (by kernel_rfl) e9 (cat2 (o := 12) (n := 1) (by kernel_rfl) e10 hend))))))))))), k0, k1, k2, k3, k4, k5, k6, k7, k8, k9, k10⟩

theorem opens95 : Opens Try.prog 95 Node.c Node.ok := by
  intro H enc W base sp hd fuel cs x h
  obtain ⟨xs, n, rfl, rfl, hlen, hxs, hf⟩ := DataW.trod_struct Try.underlying95 h
  obtain ⟨y0, h0⟩ := field_at hxs hf 0 _ rfl
  obtain ⟨a0, e0, k0⟩ := (opens_int Try.underlying3) h0
  obtain ⟨y1, h1⟩ := field_at hxs hf 1 _ rfl
  obtain ⟨a1, e1, k1⟩ := opens23 h1
  obtain ⟨y2, h2⟩ := field_at hxs hf 2 _ rfl
  obtain ⟨a2, e2, k2⟩ := (opens_int Try.underlying3) h2
  have hend : cs.drop 4 = [] := List.drop_eq_nil_of_le (by rw [hlen, show Try.prog.cellsOf 95 = 4 by kernel_rfl]; exact Nat.le_refl _)
  exact ⟨⟨a0, a1, a2⟩, (cat2 (o := 0) (n := 1) (by kernel_rfl) e0 (cat2 (o := 1) (n := 2) (by kernel_rfl) e1 (cat2 (o := 3) (n := 1) (by kernel_rfl) e2 hend))), k0, k1, k2⟩

theorem opens97 : Opens Try.prog 97 TubeNode.c TubeNode.ok := by
  intro H enc W base sp hd fuel cs x h
  obtain ⟨xs, n, rfl, rfl, hlen, hxs, hf⟩ := DataW.trod_struct Try.underlying97 h
  obtain ⟨y0, h0⟩ := field_at hxs hf 0 _ rfl
  obtain ⟨a0, e0, k0⟩ := opens95 h0
  obtain ⟨y1, h1⟩ := field_at hxs hf 1 _ rfl
  obtain ⟨a1, e1, k1⟩ := (opens_int Try.underlying3) h1
  obtain ⟨y2, h2⟩ := field_at hxs hf 2 _ rfl
  obtain ⟨a2, e2, k2⟩ := (opens_int Try.underlying3) h2
  have hend : cs.drop 6 = [] := List.drop_eq_nil_of_le (by rw [hlen, show Try.prog.cellsOf 97 = 6 by kernel_rfl]; exact Nat.le_refl _)
  exact ⟨⟨a0, a1, a2⟩, (cat2 (o := 0) (n := 4) (by kernel_rfl) e0 (cat2 (o := 4) (n := 1) (by kernel_rfl) e1 (cat2 (o := 5) (n := 1) (by kernel_rfl) e2 hend))), k0, k1, k2⟩

set_option maxRecDepth 100000 in
theorem lifted (os : Os) (started : os.Started) (H : Type) (enc : TypeId × Value → H) :
    ReturnsInHanded {} Try.checked os 14 .any (Rows.pairUniqueSpec.pre6 enc Try.prog Try.f14 Rows.pairUniqueRow.domain false) (Rows.pairUniqueSpec.post enc Try.prog Try.f14 false true false false) := by
  refine lift (C := Try.checked) (tb := 4) (by kernel_rfl) started (by kernel_rfl) Try.func14 (by kernel_rfl) (by kernel_rfl) rfl (by kernel_rfl) Try.underlying4 (fun ds h => by match ds, h with | [_, _, _, _], _ => rfl)
    (ChangeSpec.witness6 (enc := enc) (C := Try.checked) false ⟨#[], #[.slice none 0 0, .slice none 0 0, .slice none 0 0, .int .i64 0], []⟩ 8 (by kernel_rfl) (by kernel_rfl) (by kernel_rfl) (by kernel_rfl)) ?_
  intro W base args ds p hval0 hA0 hw0
  have hval : ∀ (j : Nat) t v, Try.f14.params[j]? = some t → args[j]? = some v → Value.okWide Try.prog W .any base t v := hval0
  have hA : DataW.TrodAll enc Try.prog W 0 (fun _ => true) true Try.f14.params.toList args.toList ds p := hA0
  have hw : ∀ (j : Nat) (t : TypeId) (d : DataW H), Try.f14.params.toList[j]? = some t → ds[j]? = some d → ∀ n ∈ d.weights Try.prog t, n ≤ reachBytes := hw0
  clear hval0 hA0 hw0
  rw [Try.params14] at hA hval hw
  obtain ⟨v0, vs0, d0, ds0, p0, q0, hargs, rfl, rfl, h0, s0⟩ := trodAll_cons hA
  obtain ⟨v1, vs1, d1, ds1, p1, q1, rfl, rfl, rfl, h1, s1⟩ := trodAll_cons s0
  obtain ⟨v2, vs2, d2, ds2, p2, q2, rfl, rfl, rfl, h2, s2⟩ := trodAll_cons s1
  obtain ⟨v3, vs3, d3, ds3, p3, q3, rfl, rfl, rfl, h3, s3⟩ := trodAll_cons s2
  obtain ⟨rfl, rfl, rfl⟩ := trodAll_nil s3
  obtain rfl : args = #[v0, v1, v2, v3] := by cases args; simp_all
  obtain ⟨A0, c0, x0, rfl, r0_, l0_, k0⟩ := arg_slice opens25 Try.underlying83 (by kernel_rfl : Try.prog.cellsOf 25 = 13) (by decide) rfl (Nat.le_of_ble_eq_true (by kernel_rfl)) (hval 0 83 v0 rfl rfl) h0 (hw 0 _ _ rfl rfl)
  obtain ⟨x1, rfl, k1⟩ := argW_slice (opensW_slice (Opens.w opens97) Try.underlying88 (by kernel_rfl : Try.prog.cellsOf 97 = 6) (by decide) rfl (Nat.le_of_ble_eq_true (by kernel_rfl))) Try.underlying84 (by kernel_rfl : Try.prog.cellsOf 88 = 1) (by decide) rfl (Nat.le_of_ble_eq_true (by kernel_rfl)) (hval 1 84 v1 rfl rfl) h1 (hw 1 _ _ rfl rfl)
  obtain ⟨A2, c2, x2, rfl, r2_, l2_, k2⟩ := arg_slice (opens_int Try.underlying3) Try.underlying62 (by kernel_rfl : Try.prog.cellsOf 3 = 1) (by decide) rfl (Nat.le_of_ble_eq_true (by kernel_rfl)) (hval 2 62 v2 rfl rfl) h2 (hw 2 _ _ rfl rfl)
  obtain ⟨x3, rfl, k3⟩ := arg_int Try.underlying3 (hval 3 3 v3 rfl rfl) h3
  have e := PairUnique_true x0 (x1.l.map Sl.l) x2 x3 (by have := r0_.short; rw [List.length_map] at this; exact this) k0 (by have := k1.1.rd.short; rw [List.length_map] at this ⊢; exact this) (by intro r hr; obtain ⟨a, ha, rfl⟩ := List.mem_map.1 hr; exact ⟨by have := (k1.2 a ha).1.rd.short; rw [List.length_map] at this; exact this, (k1.2 a ha).2⟩) (by have := r2_.short; rw [List.length_map] at this; exact this) k2 k3
  have r := skywaykeep2_PairUnique_w A0 c0 x0 x1.A x1.cap (x1.l.map Sl.l) x1.l A2 c2 x2 x3 W r0_ l0_ k1.1.rd (by rw [List.length_map]; exact k1.1.le) (fun a ha => (k1.2 a ha).1) rfl r2_ l2_
  rw [e] at r
  simp only [List.length_map] at r
  exact r
end Go.Proofs.Ytkjdmkgacmkpjaa.pairUniqueRow
namespace Go.Proofs.Ytkjdmkgacmkpjaa
/-- The given row of PairUnique. -/
theorem pairUnique_holds : Rows.PairUniqueSaid :=
  OpenClaim.holds_of_wide 14 Try.f14 rfl rfl rfl rfl rfl rfl rfl ⟨rfl, rfl, rfl, rfl, rfl⟩ rfl rfl rfl rfl rfl (by kernel_rfl) Try.func14 (by kernel_rfl)
    (of_decide_eq_true (by kernel_rfl)) (by unfold Func.isWrapper; rw [if_neg (of_decide_eq_false (by kernel_rfl))]; exact ⟨rfl, rfl⟩)
    (fun os started H enc _ => pairUniqueRow.lifted os started H enc)
end Go.Proofs.Ytkjdmkgacmkpjaa
