/- MosaicContains: for every input the law returns true, and its arguments read behind the call as before. Conditions: none. -/
import Derived.Test.YtakjcphknccdnaaDoorRows
import Derived.Test.YtakjcphknccdnaaDoorLawMosaicContains
import Derived.Test.YtakjcphknccdnaaDoorTabL
import Derived.Test.YtakjcphknccdnaaDoorTie
import Derived.Test.YtakjcphknccdnaaDoorCards
namespace Go.Proofs.YtakjcphknccdnaaDoor.mosaicContainsRow
open Go.ChangeShapes Go.WideShapes Go.ChangeAt Go.RowKit Go.Glue Go.Eng Go.Sky

theorem opens24 : Opens Tryd.prog 24 P.c P.ok := by
  intro H enc W base sp hd fuel cs x h
  obtain ⟨xs, n, rfl, rfl, hlen, hxs, hf⟩ := DataW.trod_struct Tryd.underlying24 h
  obtain ⟨y0, h0⟩ := field_at hxs hf 0 _ rfl
  obtain ⟨a0, e0, k0⟩ := (opens_int Tryd.underlying3) h0
  obtain ⟨y1, h1⟩ := field_at hxs hf 1 _ rfl
  obtain ⟨a1, e1, k1⟩ := (opens_int Tryd.underlying3) h1
  have hend : cs.drop 2 = [] := List.drop_eq_nil_of_le (by rw [hlen, show Tryd.prog.cellsOf 24 = 2 by kernel_rfl]; exact Nat.le_refl _)
  exact ⟨⟨a0, a1⟩, (cat2 (o := 0) (n := 1) (by kernel_rfl) e0 (cat2 (o := 1) (n := 1) (by kernel_rfl) e1 hend)), k0, k1⟩

theorem opens32 : Opens Tryd.prog 32 RadarSite.c RadarSite.ok := by
  intro H enc W base sp hd fuel cs x h
  obtain ⟨xs, n, rfl, rfl, hlen, hxs, hf⟩ := DataW.trod_struct Tryd.underlying32 h
  obtain ⟨y0, h0⟩ := field_at hxs hf 0 _ rfl
  obtain ⟨a0, e0, k0⟩ := (opens_int Tryd.underlying3) h0
  obtain ⟨y1, h1⟩ := field_at hxs hf 1 _ rfl
  obtain ⟨a1, e1, k1⟩ := opens24 h1
  obtain ⟨y2, h2⟩ := field_at hxs hf 2 _ rfl
  obtain ⟨a2, e2, k2⟩ := (opens_int Tryd.underlying3) h2
  obtain ⟨y3, h3⟩ := field_at hxs hf 3 _ rfl
  obtain ⟨a3, e3, k3⟩ := (opens_int Tryd.underlying3) h3
  obtain ⟨y4, h4⟩ := field_at hxs hf 4 _ rfl
  obtain ⟨a4, e4, k4⟩ := (opens_int Tryd.underlying3) h4
  have hend : cs.drop 6 = [] := List.drop_eq_nil_of_le (by rw [hlen, show Tryd.prog.cellsOf 32 = 6 by kernel_rfl]; exact Nat.le_refl _)
  exact ⟨⟨a0, a1, a2, a3, a4⟩, (cat2 (o := 0) (n := 1) (by kernel_rfl) e0 (cat2 (o := 1) (n := 2) (by kernel_rfl) e1 (cat2 (o := 3) (n := 1) (by kernel_rfl) e2 (cat2 (o := 4) (n := 1) (by kernel_rfl) e3 (cat2 (o := 5) (n := 1) (by kernel_rfl) e4 hend))))), k0, k1, k2, k3, k4⟩

theorem opens26 : Opens Tryd.prog 26 Spot.c Spot.ok := by
  intro H enc W base sp hd fuel cs x h
  obtain ⟨xs, n, rfl, rfl, hlen, hxs, hf⟩ := DataW.trod_struct Tryd.underlying26 h
  obtain ⟨y0, h0⟩ := field_at hxs hf 0 _ rfl
  obtain ⟨a0, e0, k0⟩ := (opens_int Tryd.underlying3) h0
  obtain ⟨y1, h1⟩ := field_at hxs hf 1 _ rfl
  obtain ⟨a1, e1, k1⟩ := opens24 h1
  obtain ⟨y2, h2⟩ := field_at hxs hf 2 _ rfl
  obtain ⟨a2, e2, k2⟩ := (opens_int Tryd.underlying3) h2
  obtain ⟨y3, h3⟩ := field_at hxs hf 3 _ rfl
  obtain ⟨a3, e3, k3⟩ := (opens_int Tryd.underlying3) h3
  obtain ⟨y4, h4⟩ := field_at hxs hf 4 _ rfl
  obtain ⟨a4, e4, k4⟩ := (opens_int Tryd.underlying3) h4
  have hend : cs.drop 6 = [] := List.drop_eq_nil_of_le (by rw [hlen, show Tryd.prog.cellsOf 26 = 6 by kernel_rfl]; exact Nat.le_refl _)
  exact ⟨⟨a0, a1, a2, a3, a4⟩, (cat2 (o := 0) (n := 1) (by kernel_rfl) e0 (cat2 (o := 1) (n := 2) (by kernel_rfl) e1 (cat2 (o := 3) (n := 1) (by kernel_rfl) e2 (cat2 (o := 4) (n := 1) (by kernel_rfl) e3 (cat2 (o := 5) (n := 1) (by kernel_rfl) e4 hend))))), k0, k1, k2, k3, k4⟩

theorem own_ : ownKnob Tryd.prog.godebug = none := by kernel_rfl
theorem tabs_of {W : World} (h : laidMetH Tryd.prog Rows.mosaicContainsRow.laid W) : Tabs W := by
  rw [MakeChecks.laidMetH_plain _ _ _ (by kernel_rfl)] at h
  obtain ⟨ps, ⟨g0, t0, cs0, f0, p0, q0, hg0, ht0, hv0, hd0, ⟨g1, t1, cs1, f1, p1, q1, hg1, ht1, hv1, hd1, ⟨g2, t2, cs2, f2, p2, q2, hg2, ht2, hv2, hd2, _, _⟩, _⟩, _⟩, _, _⟩ := h
  exact ⟨tab_of (zs := cosC) (by kernel_rfl : Tryd.prog.globalNamed "math._cos" = some 1) (by kernel_rfl) Tryd.underlying114 Tryd.underlying72 (by kernel_rfl) (by kernel_rfl) ⟨g1, t1, cs1, f1, p1, hg1, ht1, hv1, hd1⟩ (by decide), tab_of (zs := sinC) (by kernel_rfl : Tryd.prog.globalNamed "math._sin" = some 2) (by kernel_rfl) Tryd.underlying114 Tryd.underlying72 (by kernel_rfl) (by kernel_rfl) ⟨g0, t0, cs0, f0, p0, hg0, ht0, hv0, hd0⟩ (by decide)⟩
theorem door_met (os : Os) (args : Array Value) : laidMetH Tryd.prog Rows.mosaicContainsRow.laid ((World.doorLaid Tryd.prog 400 os).forCall (fun _ _ => 0) ⟨#[], args, []⟩).memory :=
  laidMetH_of_parts3 (fuel := 8) (laidMet_of_run' 8 (by kernel_rfl) (by kernel_rfl)) (by kernel_rfl) (by kernel_rfl)
set_option maxRecDepth 100000 in
theorem lifted (os : Os) (started : os.Started) (H : Type) (enc : TypeId × Value → H) :
    ReturnsInHanded {} Tryd.checked os 3 .any (fun w args => (Rows.mosaicContainsSpec.pre enc Tryd.prog Tryd.f3 [] false w args ∧ laidMetH Tryd.prog Rows.mosaicContainsRow.laid w) ∧ sizedMet enc Tryd.prog Tryd.f3 (OpenSpec.ofChange Rows.mosaicContainsSpec) false w args) (Rows.mosaicContainsSpec.post enc Tryd.prog Tryd.f3 false true false false) := by
  refine liftL (C := Tryd.checked) (L := Rows.mosaicContainsRow.laid) (tb := 4) (fun _ _ hh h => h.of_heap hh) own_ started (by kernel_rfl) Tryd.func3 (by kernel_rfl) (by kernel_rfl) rfl (by kernel_rfl) Tryd.underlying4 (fun ds h => by match ds, h with | [_, _], _ => rfl)
    (ChangeSpec.witness_shaped (enc := enc) (C := Tryd.checked) (os := os) (X := fun w _ => laidMetH Tryd.prog Rows.mosaicContainsRow.laid w) false (World.doorLaid Tryd.prog 400 os) #[.slice none 0 0, (Spot.v Spot.zero)] 8 rfl (World.shaped_of_RefB (by kernel_rfl) (by kernel_rfl)) (by kernel_rfl) (by kernel_rfl) (by kernel_rfl) (door_met os _)) ?_
  intro W base args ds p hval0 hA0 hw0 hL
  have hval : ∀ (j : Nat) t v, Tryd.f3.params[j]? = some t → args[j]? = some v → Value.okWide Tryd.prog W .any base t v := hval0
  have hA : DataW.TrodAll enc Tryd.prog W 0 (fun _ => true) true Tryd.f3.params.toList args.toList ds p := hA0
  have hw : ∀ (j : Nat) (t : TypeId) (d : DataW H), Tryd.f3.params.toList[j]? = some t → ds[j]? = some d → ∀ n ∈ d.weights Tryd.prog t, n ≤ reachBytes := hw0
  clear hval0 hA0 hw0
  rw [Tryd.params3] at hA hval hw
  obtain ⟨v0, vs0, d0, ds0, p0, q0, hargs, rfl, rfl, h0, s0⟩ := trodAll_cons hA
  obtain ⟨v1, vs1, d1, ds1, p1, q1, rfl, rfl, rfl, h1, s1⟩ := trodAll_cons s0
  obtain ⟨rfl, rfl, rfl⟩ := trodAll_nil s1
  obtain rfl : args = #[v0, v1] := by cases args; simp_all
  obtain ⟨A0, c0, x0, rfl, r0_, l0_, k0⟩ := arg_slice opens32 Tryd.underlying22 (by kernel_rfl : Tryd.prog.cellsOf 32 = 6) (by decide) rfl (Nat.le_of_ble_eq_true (by kernel_rfl)) (hval 0 22 v0 rfl rfl) h0 (hw 0 _ _ rfl rfl)
  obtain ⟨x1, rfl, k1⟩ := arg_struct opens26 Tryd.underlying26 (hval 1 26 v1 rfl rfl) h1
  have e := MosaicContains_true x0 x1 (by have := r0_.short; rw [List.length_map] at this; exact this) k0 k1
  have r := skywaykeep2_MosaicContains_w A0 c0 x0 x1 W r0_ l0_ (tabs_of hL)
  rw [e] at r
  exact r
end Go.Proofs.YtakjcphknccdnaaDoor.mosaicContainsRow
namespace Go.Proofs.YtakjcphknccdnaaDoor
/-- The given row of MosaicContains. -/
theorem mosaicContains_holds : Rows.MosaicContainsSaid :=
  OpenClaim.holds_of_wide 3 Tryd.f3 rfl rfl rfl rfl rfl rfl rfl ⟨rfl, rfl, rfl, rfl, rfl⟩ rfl rfl rfl rfl rfl (by kernel_rfl) Tryd.func3 (by kernel_rfl)
    (of_decide_eq_true (by kernel_rfl)) (by unfold Func.isWrapper; rw [if_neg (of_decide_eq_false (by kernel_rfl))]; exact ⟨rfl, rfl⟩)
    (fun os started H enc _ => mosaicContainsRow.lifted os started H enc)
/-- The given card of MosaicContains: the row, its listed variables tied to the text. -/
theorem mosaicContains_card : Rows.MosaicContainsCardSaid :=
  Claim7.holds_tied_plain_at .later [] [.data, .data, .data] true (true, "1cf561bae8b8884b2887d71d5841a5e7659e321e0afa89cc3f5fa746dd1027e1") false
    mosaicContains_holds (fun _ h => by cases h) (by kernel_rfl) (fun _ h => by cases h) mosaicContains_row_tie rfl ⟨rfl, rfl⟩ (by kernel_rfl) rfl
    (fun f fn hf hfn => by
      obtain rfl : f = 3 := Option.some.inj ((show Tryd.prog.funcNamed "skyway/skywaykeep2.MosaicContains" = some 3 by kernel_rfl).symm.trans hf) |>.symm
      obtain rfl : fn = Tryd.f3 := (Option.some.inj (Tryd.func3.symm.trans hfn)).symm
      exact ⟨by kernel_rfl, fun j t ht => by
        rw [Tryd.params3] at ht
        rcases j with _ | j
        · have h3 : t = 22 := by simpa using ht.symm
          subst h3
          exact (show Tryd.prog.wantsStandIn 22 = false by kernel_rfl)
        rcases j with _ | j
        · have h3 : t = 26 := by simpa using ht.symm
          subst h3
          exact (show Tryd.prog.wantsStandIn 26 = false by kernel_rfl)
        simp at ht⟩)
    (by kernel_rfl)
end Go.Proofs.YtakjcphknccdnaaDoor
