/- AssignTurned: for every input the law returns true, and its arguments read behind the call as before. Conditions: none. -/
import Derived.Test.YtfjchccilkgcnaaRows
import Derived.Test.YtfjchccilkgcnaaLawAssignTurned
namespace Go.Proofs.Ytfjchccilkgcnaa.assignTurnedRow
open Go.ChangeShapes Go.WideShapes Go.ChangeAt Go.RowKit Go.Glue Go.Eng Go.Sky

set_option maxRecDepth 100000 in
theorem lifted (os : Os) (started : os.Started) (H : Type) (enc : TypeId × Value → H) :
    ReturnsInHanded {} Try.checked os 3 .any (Rows.assignTurnedSpec.pre6 enc Try.prog Try.f3 Rows.assignTurnedRow.domain false) (Rows.assignTurnedSpec.post enc Try.prog Try.f3 false true false false) := by
  refine lift (C := Try.checked) (tb := 4) (by kernel_rfl) started (by kernel_rfl) Try.func3 (by kernel_rfl) (by kernel_rfl) rfl (by kernel_rfl) Try.underlying4 (fun ds h => by match ds, h with | [_, _, _, _, _], _ => rfl)
    (ChangeSpec.witness6 (enc := enc) (C := Try.checked) false ⟨#[], #[.slice none 0 0, .int .i64 0, .int .i64 0, .int .i64 0, .slice none 0 0], []⟩ 8 (by kernel_rfl) (by kernel_rfl) (by kernel_rfl) (by kernel_rfl)) ?_
  intro W base args ds p hval0 hA0 hw0
  have hval : ∀ (j : Nat) t v, Try.f3.params[j]? = some t → args[j]? = some v → Value.okWide Try.prog W .any base t v := hval0
  have hA : DataW.TrodAll enc Try.prog W 0 (fun _ => true) true Try.f3.params.toList args.toList ds p := hA0
  have hw : ∀ (j : Nat) (t : TypeId) (d : DataW H), Try.f3.params.toList[j]? = some t → ds[j]? = some d → ∀ n ∈ d.weights Try.prog t, n ≤ reachBytes := hw0
  clear hval0 hA0 hw0
  rw [Try.params3] at hA hval hw
  obtain ⟨v0, vs0, d0, ds0, p0, q0, hargs, rfl, rfl, h0, s0⟩ := trodAll_cons hA
  obtain ⟨v1, vs1, d1, ds1, p1, q1, rfl, rfl, rfl, h1, s1⟩ := trodAll_cons s0
  obtain ⟨v2, vs2, d2, ds2, p2, q2, rfl, rfl, rfl, h2, s2⟩ := trodAll_cons s1
  obtain ⟨v3, vs3, d3, ds3, p3, q3, rfl, rfl, rfl, h3, s3⟩ := trodAll_cons s2
  obtain ⟨v4, vs4, d4, ds4, p4, q4, rfl, rfl, rfl, h4, s4⟩ := trodAll_cons s3
  obtain ⟨rfl, rfl, rfl⟩ := trodAll_nil s4
  obtain rfl : args = #[v0, v1, v2, v3, v4] := by cases args; simp_all
  obtain ⟨x0, rfl, k0⟩ := argW_slice (opensW_slice (Opens.w (opens_int Try.underlying3)) Try.underlying23 (by kernel_rfl : Try.prog.cellsOf 3 = 1) (by decide) rfl (Nat.le_of_ble_eq_true (by kernel_rfl))) Try.underlying22 (by kernel_rfl : Try.prog.cellsOf 23 = 1) (by decide) rfl (Nat.le_of_ble_eq_true (by kernel_rfl)) (hval 0 22 v0 rfl rfl) h0 (hw 0 _ _ rfl rfl)
  obtain ⟨x1, rfl, k1⟩ := arg_int Try.underlying3 (hval 1 3 v1 rfl rfl) h1
  obtain ⟨x2, rfl, k2⟩ := arg_int Try.underlying3 (hval 2 3 v2 rfl rfl) h2
  obtain ⟨x3, rfl, k3⟩ := arg_int Try.underlying3 (hval 3 3 v3 rfl rfl) h3
  obtain ⟨A4, c4, x4, rfl, r4_, l4_, k4⟩ := arg_slice (opens_int Try.underlying3) Try.underlying23 (by kernel_rfl : Try.prog.cellsOf 3 = 1) (by decide) rfl (Nat.le_of_ble_eq_true (by kernel_rfl)) (hval 4 23 v4 rfl rfl) h4 (hw 4 _ _ rfl rfl)
  have e := AssignTurned_true (x0.l.map Sl.l) x1 x2 x3 x4 (by have := k0.1.rd.short; rw [List.length_map] at this ⊢; exact this) (by intro r hr; obtain ⟨a, ha, rfl⟩ := List.mem_map.1 hr; exact ⟨by have := (k0.2 a ha).1.rd.short; rw [List.length_map] at this; exact this, (k0.2 a ha).2⟩) k1 k2 k3 (by have := r4_.short; rw [List.length_map] at this; exact this) k4
  have r := skywaykeep2_AssignTurned_w x0.A x0.cap (x0.l.map Sl.l) x0.l x1 x2 x3 A4 c4 x4 W k0.1.rd (by rw [List.length_map]; exact k0.1.le) (fun a ha => (k0.2 a ha).1) rfl r4_ l4_
  rw [e] at r
  simp only [List.length_map] at r
  exact r
end Go.Proofs.Ytfjchccilkgcnaa.assignTurnedRow
namespace Go.Proofs.Ytfjchccilkgcnaa
/-- The given row of AssignTurned. -/
theorem assignTurned_holds : Rows.AssignTurnedSaid :=
  OpenClaim.holds_of_wide 3 Try.f3 rfl rfl rfl rfl rfl rfl rfl ⟨rfl, rfl, rfl, rfl, rfl⟩ rfl rfl rfl rfl rfl (by kernel_rfl) Try.func3 (by kernel_rfl)
    (of_decide_eq_true (by kernel_rfl)) (by unfold Func.isWrapper; rw [if_neg (of_decide_eq_false (by kernel_rfl))]; exact ⟨rfl, rfl⟩)
    (fun os started H enc _ => assignTurnedRow.lifted os started H enc)
end Go.Proofs.Ytfjchccilkgcnaa
