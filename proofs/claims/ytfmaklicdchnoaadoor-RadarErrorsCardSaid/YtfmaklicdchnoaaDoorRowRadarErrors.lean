/- RadarErrors: for every input the law returns true, and its arguments read behind the call as before. Conditions: none. -/
import Derived.Test.YtfmaklicdchnoaaDoorRows
import Derived.Test.YtfmaklicdchnoaaDoorLawRadarErrors
import Derived.Test.YtfmaklicdchnoaaDoorTabL
import Derived.Test.YtfmaklicdchnoaaDoorTie
import Derived.Test.YtfmaklicdchnoaaDoorCards
namespace Go.Proofs.YtfmaklicdchnoaaDoor.radarErrorsRow
open Go.ChangeShapes Go.WideShapes Go.ChangeAt Go.RowKit Go.Glue Go.Eng Go.Sky

theorem opens23 : Opens Tryd.prog 23 P.c P.ok := by
  intro H enc W base sp hd fuel cs x h
  obtain ⟨xs, n, rfl, rfl, hlen, hxs, hf⟩ := DataW.trod_struct Tryd.underlying23 h
  obtain ⟨y0, h0⟩ := field_at hxs hf 0 _ rfl
  obtain ⟨a0, e0, k0⟩ := (opens_int Tryd.underlying3) h0
  obtain ⟨y1, h1⟩ := field_at hxs hf 1 _ rfl
  obtain ⟨a1, e1, k1⟩ := (opens_int Tryd.underlying3) h1
  have hend : cs.drop 2 = [] := List.drop_eq_nil_of_le (by rw [hlen, show Tryd.prog.cellsOf 23 = 2 by kernel_rfl]; exact Nat.le_refl _)
  exact ⟨⟨a0, a1⟩, (cat2 (o := 0) (n := 1) (by kernel_rfl) e0 (cat2 (o := 1) (n := 1) (by kernel_rfl) e1 hend)), k0, k1⟩

theorem opens25 : Opens Tryd.prog 25 RadarSite.c RadarSite.ok := by
  intro H enc W base sp hd fuel cs x h
  obtain ⟨xs, n, rfl, rfl, hlen, hxs, hf⟩ := DataW.trod_struct Tryd.underlying25 h
  obtain ⟨y0, h0⟩ := field_at hxs hf 0 _ rfl
  obtain ⟨a0, e0, k0⟩ := (opens_int Tryd.underlying3) h0
  obtain ⟨y1, h1⟩ := field_at hxs hf 1 _ rfl
  obtain ⟨a1, e1, k1⟩ := opens23 h1
  obtain ⟨y2, h2⟩ := field_at hxs hf 2 _ rfl
  obtain ⟨a2, e2, k2⟩ := (opens_int Tryd.underlying3) h2
  obtain ⟨y3, h3⟩ := field_at hxs hf 3 _ rfl
  obtain ⟨a3, e3, k3⟩ := (opens_int Tryd.underlying3) h3
  obtain ⟨y4, h4⟩ := field_at hxs hf 4 _ rfl
  obtain ⟨a4, e4, k4⟩ := (opens_int Tryd.underlying3) h4
  have hend : cs.drop 6 = [] := List.drop_eq_nil_of_le (by rw [hlen, show Tryd.prog.cellsOf 25 = 6 by kernel_rfl]; exact Nat.le_refl _)
  exact ⟨⟨a0, a1, a2, a3, a4⟩, (cat2 (o := 0) (n := 1) (by kernel_rfl) e0 (cat2 (o := 1) (n := 2) (by kernel_rfl) e1 (cat2 (o := 3) (n := 1) (by kernel_rfl) e2 (cat2 (o := 4) (n := 1) (by kernel_rfl) e3 (cat2 (o := 5) (n := 1) (by kernel_rfl) e4 hend))))), k0, k1, k2, k3, k4⟩

theorem opens27 : Opens Tryd.prog 27 Spot.c Spot.ok := by
  intro H enc W base sp hd fuel cs x h
  obtain ⟨xs, n, rfl, rfl, hlen, hxs, hf⟩ := DataW.trod_struct Tryd.underlying27 h
  obtain ⟨y0, h0⟩ := field_at hxs hf 0 _ rfl
  obtain ⟨a0, e0, k0⟩ := (opens_int Tryd.underlying3) h0
  obtain ⟨y1, h1⟩ := field_at hxs hf 1 _ rfl
  obtain ⟨a1, e1, k1⟩ := opens23 h1
  obtain ⟨y2, h2⟩ := field_at hxs hf 2 _ rfl
  obtain ⟨a2, e2, k2⟩ := (opens_int Tryd.underlying3) h2
  obtain ⟨y3, h3⟩ := field_at hxs hf 3 _ rfl
  obtain ⟨a3, e3, k3⟩ := (opens_int Tryd.underlying3) h3
  obtain ⟨y4, h4⟩ := field_at hxs hf 4 _ rfl
  obtain ⟨a4, e4, k4⟩ := (opens_int Tryd.underlying3) h4
  have hend : cs.drop 6 = [] := List.drop_eq_nil_of_le (by rw [hlen, show Tryd.prog.cellsOf 27 = 6 by kernel_rfl]; exact Nat.le_refl _)
  exact ⟨⟨a0, a1, a2, a3, a4⟩, (cat2 (o := 0) (n := 1) (by kernel_rfl) e0 (cat2 (o := 1) (n := 2) (by kernel_rfl) e1 (cat2 (o := 3) (n := 1) (by kernel_rfl) e2 (cat2 (o := 4) (n := 1) (by kernel_rfl) e3 (cat2 (o := 5) (n := 1) (by kernel_rfl) e4 hend))))), k0, k1, k2, k3, k4⟩

theorem own_ : ownKnob Tryd.prog.godebug = none := by kernel_rfl
theorem tabs_of {W : World} (h : laidMetH Tryd.prog Rows.radarErrorsRow.laid W) : Tabs W := by
  rw [MakeChecks.laidMetH_plain _ _ _ (by kernel_rfl)] at h
  obtain ⟨ps, ⟨g0, t0, cs0, f0, p0, q0, hg0, ht0, hv0, hd0, ⟨g1, t1, cs1, f1, p1, q1, hg1, ht1, hv1, hd1, ⟨g2, t2, cs2, f2, p2, q2, hg2, ht2, hv2, hd2, _, _⟩, _⟩, _⟩, _, _⟩ := h
  exact ⟨tab_of (zs := cosC) (by kernel_rfl : Tryd.prog.globalNamed "math._cos" = some 1) (by kernel_rfl) Tryd.underlying73 Tryd.underlying56 (by kernel_rfl) (by kernel_rfl) ⟨g1, t1, cs1, f1, p1, hg1, ht1, hv1, hd1⟩ (by decide), tab_of (zs := sinC) (by kernel_rfl : Tryd.prog.globalNamed "math._sin" = some 2) (by kernel_rfl) Tryd.underlying73 Tryd.underlying56 (by kernel_rfl) (by kernel_rfl) ⟨g0, t0, cs0, f0, p0, hg0, ht0, hv0, hd0⟩ (by decide)⟩
theorem door_met (os : Os) (args : Array Value) : laidMetH Tryd.prog Rows.radarErrorsRow.laid ((World.doorLaid Tryd.prog 400 os).forCall (fun _ _ => 0) ⟨#[], args, []⟩).memory :=
  laidMetH_of_parts3 (fuel := 8) (laidMet_of_run' 8 (by kernel_rfl) (by kernel_rfl)) (by kernel_rfl) (by kernel_rfl)
set_option maxRecDepth 100000 in
theorem lifted (os : Os) (started : os.Started) (H : Type) (enc : TypeId × Value → H) :
    ReturnsInHanded {} Tryd.checked os 4 .any (fun w args => (Rows.radarErrorsSpec.pre enc Tryd.prog Tryd.f4 [] false w args ∧ laidMetH Tryd.prog Rows.radarErrorsRow.laid w) ∧ sizedMet enc Tryd.prog Tryd.f4 (OpenSpec.ofChange Rows.radarErrorsSpec) false w args) (Rows.radarErrorsSpec.post enc Tryd.prog Tryd.f4 false true false false) := by
  refine liftL (C := Tryd.checked) (L := Rows.radarErrorsRow.laid) (tb := 4) (fun _ _ hh h => h.of_heap hh) own_ started (by kernel_rfl) Tryd.func4 (by kernel_rfl) (by kernel_rfl) rfl (by kernel_rfl) Tryd.underlying4 (fun ds h => by match ds, h with | [_, _, _, _], _ => rfl)
    (ChangeSpec.witness_shaped (enc := enc) (C := Tryd.checked) (os := os) (X := fun w _ => laidMetH Tryd.prog Rows.radarErrorsRow.laid w) false (World.doorLaid Tryd.prog 400 os) #[(RadarSite.v RadarSite.zero), (Spot.v Spot.zero), .int .i64 0, .int .i64 0] 8 rfl (World.shaped_of_RefB (by kernel_rfl) (by kernel_rfl)) (by kernel_rfl) (by kernel_rfl) (by kernel_rfl) (door_met os _)) ?_
  intro W base args ds p hval0 hA0 hw0 hL
  have hval : ∀ (j : Nat) t v, Tryd.f4.params[j]? = some t → args[j]? = some v → Value.okWide Tryd.prog W .any base t v := hval0
  have hA : DataW.TrodAll enc Tryd.prog W 0 (fun _ => true) true Tryd.f4.params.toList args.toList ds p := hA0
  clear hval0 hA0 hw0
  rw [Tryd.params4] at hA hval
  obtain ⟨v0, vs0, d0, ds0, p0, q0, hargs, rfl, rfl, h0, s0⟩ := trodAll_cons hA
  obtain ⟨v1, vs1, d1, ds1, p1, q1, rfl, rfl, rfl, h1, s1⟩ := trodAll_cons s0
  obtain ⟨v2, vs2, d2, ds2, p2, q2, rfl, rfl, rfl, h2, s2⟩ := trodAll_cons s1
  obtain ⟨v3, vs3, d3, ds3, p3, q3, rfl, rfl, rfl, h3, s3⟩ := trodAll_cons s2
  obtain ⟨rfl, rfl, rfl⟩ := trodAll_nil s3
  obtain rfl : args = #[v0, v1, v2, v3] := by cases args; simp_all
  obtain ⟨x0, rfl, k0⟩ := arg_struct opens25 Tryd.underlying25 (hval 0 25 v0 rfl rfl) h0
  obtain ⟨x1, rfl, k1⟩ := arg_struct opens27 Tryd.underlying27 (hval 1 27 v1 rfl rfl) h1
  obtain ⟨x2, rfl, k2⟩ := arg_int Tryd.underlying3 (hval 2 3 v2 rfl rfl) h2
  obtain ⟨x3, rfl, k3⟩ := arg_int Tryd.underlying3 (hval 3 3 v3 rfl rfl) h3
  have e := RadarErrors_true x0 x1 x2 x3 k0 k1 k2 k3
  have r := skywaykeep2_RadarErrors_w x0 x1 x2 x3 W (tabs_of hL)
  rw [e] at r
  exact r
end Go.Proofs.YtfmaklicdchnoaaDoor.radarErrorsRow
namespace Go.Proofs.YtfmaklicdchnoaaDoor
/-- The given row of RadarErrors. -/
theorem radarErrors_holds : Rows.RadarErrorsSaid :=
  OpenClaim.holds_of_wide 4 Tryd.f4 rfl rfl rfl rfl rfl rfl rfl ⟨rfl, rfl, rfl, rfl, rfl⟩ rfl rfl rfl rfl rfl (by kernel_rfl) Tryd.func4 (by kernel_rfl)
    (of_decide_eq_true (by kernel_rfl)) (by unfold Func.isWrapper; rw [if_neg (of_decide_eq_false (by kernel_rfl))]; exact ⟨rfl, rfl⟩)
    (fun os started H enc _ => radarErrorsRow.lifted os started H enc)
/-- The given card of RadarErrors: the row, its listed variables tied to the text. -/
theorem radarErrors_card : Rows.RadarErrorsCardSaid :=
  Claim7.holds_tied_plain_at .later [] [.data, .data, .data] true (true, "b0b5ca34a85fddddbb3134ab877ef8243a6d6d04a9a4333912ce20047be24bec") false
    radarErrors_holds (fun _ h => by cases h) (by kernel_rfl) (fun _ h => by cases h) radarErrors_row_tie rfl ⟨rfl, rfl⟩ (by kernel_rfl) rfl
    (fun f fn hf hfn => by
      obtain rfl : f = 4 := Option.some.inj ((show Tryd.prog.funcNamed "skyway/skywaykeep2.RadarErrors" = some 4 by kernel_rfl).symm.trans hf) |>.symm
      obtain rfl : fn = Tryd.f4 := (Option.some.inj (Tryd.func4.symm.trans hfn)).symm
      exact ⟨by kernel_rfl, fun j t ht => by
        rw [Tryd.params4] at ht
        rcases j with _ | j
        · have h3 : t = 25 := by simpa using ht.symm
          subst h3
          exact (show Tryd.prog.wantsStandIn 25 = false by kernel_rfl)
        rcases j with _ | j
        · have h3 : t = 27 := by simpa using ht.symm
          subst h3
          exact (show Tryd.prog.wantsStandIn 27 = false by kernel_rfl)
        rcases j with _ | j
        · have h3 : t = 3 := by simpa using ht.symm
          subst h3
          exact (show Tryd.prog.wantsStandIn 3 = false by kernel_rfl)
        rcases j with _ | j
        · have h3 : t = 3 := by simpa using ht.symm
          subst h3
          exact (show Tryd.prog.wantsStandIn 3 = false by kernel_rfl)
        simp at ht⟩)
    (by kernel_rfl)
end Go.Proofs.YtfmaklicdchnoaaDoor
