/- AngleDirections: for every input the law returns true, and its arguments read behind the call as before. Conditions: none. -/
import Derived.Test.YtdfofmhbmnphnaaDoorRows
import Derived.Test.YtdfofmhbmnphnaaDoorGx
import Derived.Test.YtdfofmhbmnphnaaDoorTabL
import Derived.Test.YtdfofmhbmnphnaaDoorTie
import Derived.Test.YtdfofmhbmnphnaaDoorCards
namespace Go.Proofs.YtdfofmhbmnphnaaDoor.angleDirectionsRow
open Go.ChangeShapes Go.WideShapes Go.ChangeAt Go.RowKit Go.Glue Go.Eng Go.Sky

theorem opens23 : Opens Tryd.prog 23 P.c P.ok := by
  intro H enc W base sp hd fuel cs x h
  obtain ⟨xs, n, rfl, rfl, hlen, hxs, hf⟩ := DataW.trod_struct Tryd.underlying23 h
  obtain ⟨y0, h0⟩ := field_at hxs hf 0 _ rfl
  obtain ⟨a0, e0, k0⟩ := (opens_int Tryd.underlying3) h0
  obtain ⟨y1, h1⟩ := field_at hxs hf 1 _ rfl
  obtain ⟨a1, e1, k1⟩ := (opens_int Tryd.underlying3) h1
  have hend : cs.drop 2 = [] := List.drop_eq_nil_of_le (by rw [hlen, show Tryd.prog.cellsOf 23 = 2 by kernel_rfl]; exact Nat.le_refl _)
  exact ⟨⟨a0, a1⟩, (cat2 (o := 0) (n := 1) (by kernel_rfl) e0 (cat2 (o := 1) (n := 1) (by kernel_rfl) e1 hend)), k0, k1⟩

theorem own_ : ownKnob Tryd.prog.godebug = none := by kernel_rfl
theorem tabs_of {W : World} (h : laidMetH Tryd.prog Rows.angleDirectionsRow.laid W) : Tabs W := by
  rw [MakeChecks.laidMetH_plain _ _ _ (by kernel_rfl)] at h
  obtain ⟨ps, ⟨g0, t0, cs0, f0, p0, q0, hg0, ht0, hv0, hd0, ⟨g1, t1, cs1, f1, p1, q1, hg1, ht1, hv1, hd1, ⟨g2, t2, cs2, f2, p2, q2, hg2, ht2, hv2, hd2, _, _⟩, _⟩, _⟩, _, _⟩ := h
  exact ⟨tab_of (zs := cosC) (by kernel_rfl : Tryd.prog.globalNamed "math._cos" = some 1) (by kernel_rfl) Tryd.underlying49 Tryd.underlying32 (by kernel_rfl) (by kernel_rfl) ⟨g1, t1, cs1, f1, p1, hg1, ht1, hv1, hd1⟩ (by decide), tab_of (zs := sinC) (by kernel_rfl : Tryd.prog.globalNamed "math._sin" = some 2) (by kernel_rfl) Tryd.underlying49 Tryd.underlying32 (by kernel_rfl) (by kernel_rfl) ⟨g0, t0, cs0, f0, p0, hg0, ht0, hv0, hd0⟩ (by decide)⟩
theorem door_met (os : Os) (args : Array Value) : laidMetH Tryd.prog Rows.angleDirectionsRow.laid ((World.doorLaid Tryd.prog 400 os).forCall (fun _ _ => 0) ⟨#[], args, []⟩).memory :=
  laidMetH_of_parts3 (fuel := 8) (laidMet_of_run' 8 (by kernel_rfl) (by kernel_rfl)) (by kernel_rfl) (by kernel_rfl)
set_option maxRecDepth 100000 in
theorem lifted (os : Os) (started : os.Started) (H : Type) (enc : TypeId × Value → H) :
    ReturnsInHanded {} Tryd.checked os 3 .any (fun w args => (Rows.angleDirectionsSpec.pre enc Tryd.prog Tryd.f3 [] false w args ∧ laidMetH Tryd.prog Rows.angleDirectionsRow.laid w) ∧ sizedMet enc Tryd.prog Tryd.f3 (OpenSpec.ofChange Rows.angleDirectionsSpec) false w args) (Rows.angleDirectionsSpec.post enc Tryd.prog Tryd.f3 false true false false) := by
  refine liftL (C := Tryd.checked) (L := Rows.angleDirectionsRow.laid) (tb := 4) (fun _ _ hh h => h.of_heap hh) own_ started (by kernel_rfl) Tryd.func3 (by kernel_rfl) (by kernel_rfl) rfl (by kernel_rfl) Tryd.underlying4 (fun ds h => by match ds, h with | [_], _ => rfl)
    (ChangeSpec.witness_shaped (enc := enc) (C := Tryd.checked) (os := os) (X := fun w _ => laidMetH Tryd.prog Rows.angleDirectionsRow.laid w) false (World.doorLaid Tryd.prog 400 os) #[(P.v P.zero)] 8 rfl (World.shaped_of_RefB (by kernel_rfl) (by kernel_rfl)) (by kernel_rfl) (by kernel_rfl) (by kernel_rfl) (door_met os _)) ?_
  intro W base args ds p hval0 hA0 hw0 hL
  have hval : ∀ (j : Nat) t v, Tryd.f3.params[j]? = some t → args[j]? = some v → Value.okWide Tryd.prog W .any base t v := hval0
  have hA : DataW.TrodAll enc Tryd.prog W 0 (fun _ => true) true Tryd.f3.params.toList args.toList ds p := hA0
  clear hval0 hA0 hw0
  rw [Tryd.params3] at hA hval
  obtain ⟨v0, vs0, d0, ds0, p0, q0, hargs, rfl, rfl, h0, s0⟩ := trodAll_cons hA
  obtain ⟨rfl, rfl, rfl⟩ := trodAll_nil s0
  obtain rfl : args = #[v0] := by cases args; simp_all
  obtain ⟨x0, rfl, k0⟩ := arg_struct opens23 Tryd.underlying23 (hval 0 23 v0 rfl rfl) h0
  have r := skywaylaw1_AngleDirections_w x0 W (hM0 W) (tabs_of hL)
  refine r.mono fun e W1 h => ?_
  obtain ⟨g, rfl, hS⟩ := h
  have hg := hS.fact_at 0 rfl
  subst hg
  exact ⟨rfl, below_of_sat hS⟩
end Go.Proofs.YtdfofmhbmnphnaaDoor.angleDirectionsRow
namespace Go.Proofs.YtdfofmhbmnphnaaDoor
/-- The given row of AngleDirections. -/
theorem angleDirections_holds : Rows.AngleDirectionsSaid :=
  OpenClaim.holds_of_wide 3 Tryd.f3 rfl rfl rfl rfl rfl rfl rfl ⟨rfl, rfl, rfl, rfl, rfl⟩ rfl rfl rfl rfl rfl (by kernel_rfl) Tryd.func3 (by kernel_rfl)
    (of_decide_eq_true (by kernel_rfl)) (by unfold Func.isWrapper; rw [if_neg (of_decide_eq_false (by kernel_rfl))]; exact ⟨rfl, rfl⟩)
    (fun os started H enc _ => angleDirectionsRow.lifted os started H enc)
/-- The given card of AngleDirections: the row, its listed variables tied to the text. -/
theorem angleDirections_card : Rows.AngleDirectionsCardSaid :=
  Claim7.holds_tied_plain_at .later [] [.data, .data, .data] true (true, "3158eec162b4951c01ce94ce2e720352d332ff937b79480d6dd364285432c0f5") false
    angleDirections_holds (fun _ h => by cases h) (by kernel_rfl) (fun _ h => by cases h) angleDirections_row_tie rfl ⟨rfl, rfl⟩ (by kernel_rfl) rfl
    (fun f fn hf hfn => by
      obtain rfl : f = 3 := Option.some.inj ((show Tryd.prog.funcNamed "skyway/skywaylaw1.AngleDirections" = some 3 by kernel_rfl).symm.trans hf) |>.symm
      obtain rfl : fn = Tryd.f3 := (Option.some.inj (Tryd.func3.symm.trans hfn)).symm
      exact ⟨by kernel_rfl, fun j t ht => by
        rw [Tryd.params3] at ht
        rcases j with _ | j
        · have h3 : t = 23 := by simpa using ht.symm
          subst h3
          exact (show Tryd.prog.wantsStandIn 23 = false by kernel_rfl)
        simp at ht⟩)
    (by kernel_rfl)
end Go.Proofs.YtdfofmhbmnphnaaDoor
