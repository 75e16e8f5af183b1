/- TrackerNumbers: for every input the law returns true, and its arguments read behind the call as before. Conditions: none. -/
import Derived.Test.YtehhgjhileappaaRows
import Derived.Test.YtehhgjhileappaaLawTrackerNumbers
namespace Go.Proofs.Ytehhgjhileappaa.trackerNumbersRow
open Go.ChangeShapes Go.WideShapes Go.ChangeAt Go.RowKit Go.Glue Go.Eng Go.Sky

theorem opens34 : Opens Try.prog 34 P.c P.ok := by
  intro H enc W base sp hd fuel cs x h
  obtain ⟨xs, n, rfl, rfl, hlen, hxs, hf⟩ := DataW.trod_struct Try.underlying34 h
  obtain ⟨y0, h0⟩ := field_at hxs hf 0 _ rfl
  obtain ⟨a0, e0, k0⟩ := (opens_int Try.underlying3) h0
  obtain ⟨y1, h1⟩ := field_at hxs hf 1 _ rfl
  obtain ⟨a1, e1, k1⟩ := (opens_int Try.underlying3) h1
  have hend : cs.drop 2 = [] := List.drop_eq_nil_of_le (by rw [hlen, show Try.prog.cellsOf 34 = 2 by kernel_rfl]; exact Nat.le_refl _)
  exact ⟨⟨a0, a1⟩, (cat2 (o := 0) (n := 1) (by kernel_rfl) e0 (cat2 (o := 1) (n := 1) (by kernel_rfl) e1 hend)), k0, k1⟩

theorem opens36 : Opens Try.prog 36 Spot.c Spot.ok := by
  intro H enc W base sp hd fuel cs x h
  obtain ⟨xs, n, rfl, rfl, hlen, hxs, hf⟩ := DataW.trod_struct Try.underlying36 h
  obtain ⟨y0, h0⟩ := field_at hxs hf 0 _ rfl
  obtain ⟨a0, e0, k0⟩ := (opens_int Try.underlying3) h0
  obtain ⟨y1, h1⟩ := field_at hxs hf 1 _ rfl
  obtain ⟨a1, e1, k1⟩ := opens34 h1
  obtain ⟨y2, h2⟩ := field_at hxs hf 2 _ rfl
  obtain ⟨a2, e2, k2⟩ := (opens_int Try.underlying3) h2
  obtain ⟨y3, h3⟩ := field_at hxs hf 3 _ rfl
  obtain ⟨a3, e3, k3⟩ := (opens_int Try.underlying3) h3
  obtain ⟨y4, h4⟩ := field_at hxs hf 4 _ rfl
  obtain ⟨a4, e4, k4⟩ := (opens_int Try.underlying3) h4
  have hend : cs.drop 6 = [] := List.drop_eq_nil_of_le (by rw [hlen, show Try.prog.cellsOf 36 = 6 by kernel_rfl]; exact Nat.le_refl _)
  exact ⟨⟨a0, a1, a2, a3, a4⟩, (cat2 (o := 0) (n := 1) (by kernel_rfl) e0 (cat2 (o := 1) (n := 2) (by kernel_rfl) e1 (cat2 (o := 3) (n := 1) (by kernel_rfl) e2 (cat2 (o := 4) (n := 1) (by kernel_rfl) e3 (cat2 (o := 5) (n := 1) (by kernel_rfl) e4 hend))))), k0, k1, k2, k3, k4⟩

set_option maxRecDepth 100000 in
theorem lifted (os : Os) (started : os.Started) (H : Type) (enc : TypeId × Value → H) :
    ReturnsInHanded {} Try.checked os 5 .any (Rows.trackerNumbersSpec.pre6 enc Try.prog Try.f5 Rows.trackerNumbersRow.domain false) (Rows.trackerNumbersSpec.post enc Try.prog Try.f5 false true false false) := by
  refine lift (C := Try.checked) (tb := 4) (by kernel_rfl) started (by kernel_rfl) Try.func5 (by kernel_rfl) (by kernel_rfl) rfl (by kernel_rfl) Try.underlying4 (fun ds h => by match ds, h with | [_, _], _ => rfl)
    (ChangeSpec.witness6 (enc := enc) (C := Try.checked) false ⟨#[], #[.slice none 0 0, .int .i64 0], []⟩ 8 (by kernel_rfl) (by kernel_rfl) (by kernel_rfl) (by kernel_rfl)) ?_
  intro W base args ds p hval0 hA0 hw0
  have hval : ∀ (j : Nat) t v, Try.f5.params[j]? = some t → args[j]? = some v → Value.okWide Try.prog W .any base t v := hval0
  have hA : DataW.TrodAll enc Try.prog W 0 (fun _ => true) true Try.f5.params.toList args.toList ds p := hA0
  have hw : ∀ (j : Nat) (t : TypeId) (d : DataW H), Try.f5.params.toList[j]? = some t → ds[j]? = some d → ∀ n ∈ d.weights Try.prog t, n ≤ reachBytes := hw0
  clear hval0 hA0 hw0
  rw [Try.params5] at hA hval hw
  obtain ⟨v0, vs0, d0, ds0, p0, q0, hargs, rfl, rfl, h0, s0⟩ := trodAll_cons hA
  obtain ⟨v1, vs1, d1, ds1, p1, q1, rfl, rfl, rfl, h1, s1⟩ := trodAll_cons s0
  obtain ⟨rfl, rfl, rfl⟩ := trodAll_nil s1
  obtain rfl : args = #[v0, v1] := by cases args; simp_all
  obtain ⟨x0, rfl, k0⟩ := argW_slice (opensW_slice (Opens.w opens36) Try.underlying32 (by kernel_rfl : Try.prog.cellsOf 36 = 6) (by decide) rfl (Nat.le_of_ble_eq_true (by kernel_rfl))) Try.underlying22 (by kernel_rfl : Try.prog.cellsOf 32 = 1) (by decide) rfl (Nat.le_of_ble_eq_true (by kernel_rfl)) (hval 0 22 v0 rfl rfl) h0 (hw 0 _ _ rfl rfl)
  obtain ⟨x1, rfl, k1⟩ := arg_int Try.underlying3 (hval 1 3 v1 rfl rfl) h1
  have e := TrackerNumbers_true (x0.l.map Sl.l) x1 (by have := k0.1.rd.short; rw [List.length_map] at this ⊢; exact this) (by intro r hr; obtain ⟨a, ha, rfl⟩ := List.mem_map.1 hr; exact ⟨by have := (k0.2 a ha).1.rd.short; rw [List.length_map] at this; exact this, (k0.2 a ha).2⟩) k1
  have r := skywaykeep2_TrackerNumbers_w x0.A x0.cap (x0.l.map Sl.l) x0.l x1 W k0.1.rd (by rw [List.length_map]; exact k0.1.le) (fun a ha => (k0.2 a ha).1) rfl
  rw [e] at r
  simp only [List.length_map] at r
  exact r
end Go.Proofs.Ytehhgjhileappaa.trackerNumbersRow
namespace Go.Proofs.Ytehhgjhileappaa
/-- The given row of TrackerNumbers. -/
theorem trackerNumbers_holds : Rows.TrackerNumbersSaid :=
  OpenClaim.holds_of_wide 5 Try.f5 rfl rfl rfl rfl rfl rfl rfl ⟨rfl, rfl, rfl, rfl, rfl⟩ rfl rfl rfl rfl rfl (by kernel_rfl) Try.func5 (by kernel_rfl)
    (of_decide_eq_true (by kernel_rfl)) (by unfold Func.isWrapper; rw [if_neg (of_decide_eq_false (by kernel_rfl))]; exact ⟨rfl, rfl⟩)
    (fun os started H enc _ => trackerNumbersRow.lifted os started H enc)
end Go.Proofs.Ytehhgjhileappaa
