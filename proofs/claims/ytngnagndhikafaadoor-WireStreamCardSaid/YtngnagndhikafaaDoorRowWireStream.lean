/- WireStream: for every input the law returns true, and its arguments read behind the call as before. Conditions: none. -/
import Derived.Test.YtngnagndhikafaaDoorRows
import Derived.Test.YtngnagndhikafaaDoorLawWireStream
import Derived.Test.YtngnagndhikafaaDoorGlueS
import Derived.Test.YtngnagndhikafaaDoorTabS
import Derived.Test.YtngnagndhikafaaDoorTie
import Derived.Test.YtngnagndhikafaaDoorCards
import Derived.Lay
namespace Go.Proofs.YtngnagndhikafaaDoor.wireStreamRow
open Go.ChangeShapes Go.WideShapes Go.ChangeAt Go.RowKit Go.Glue Go.Eng Go.Sky

theorem opens46 : Opens Tryd.prog 46 Plot.c Plot.ok := by
  intro H enc W base sp hd fuel cs x h
  obtain ⟨xs, n, rfl, rfl, hlen, hxs, hf⟩ := DataW.trod_struct Tryd.underlying46 h
  obtain ⟨y0, h0⟩ := field_at hxs hf 0 _ rfl
  obtain ⟨a0, e0, k0⟩ := (opens_int Tryd.underlying3) h0
  obtain ⟨y1, h1⟩ := field_at hxs hf 1 _ rfl
  obtain ⟨a1, e1, k1⟩ := (opens_int Tryd.underlying3) h1
  obtain ⟨y2, h2⟩ := field_at hxs hf 2 _ rfl
  obtain ⟨a2, e2, k2⟩ := (opens_int Tryd.underlying3) h2
  obtain ⟨y3, h3⟩ := field_at hxs hf 3 _ rfl
  obtain ⟨a3, e3, k3⟩ := (opens_int Tryd.underlying3) h3
  obtain ⟨y4, h4⟩ := field_at hxs hf 4 _ rfl
  obtain ⟨a4, e4, k4⟩ := (opens_int Tryd.underlying3) h4
  obtain ⟨y5, h5⟩ := field_at hxs hf 5 _ rfl
  obtain ⟨a5, e5, k5⟩ := (opens_int Tryd.underlying3) h5
  have hend : cs.drop 6 = [] := List.drop_eq_nil_of_le (by rw [hlen, show Tryd.prog.cellsOf 46 = 6 by kernel_rfl]; exact Nat.le_refl _)
  exact ⟨⟨a0, a1, a2, a3, a4, a5⟩, (cat2 (o := 0) (n := 1) (by kernel_rfl) e0 (cat2 (o := 1) (n := 1) (by kernel_rfl) e1 (cat2 (o := 2) (n := 1) (by kernel_rfl) e2 (cat2 (o := 3) (n := 1) (by kernel_rfl) e3 (cat2 (o := 4) (n := 1) (by kernel_rfl) e4 (cat2 (o := 5) (n := 1) (by kernel_rfl) e5 hend)))))), k0, k1, k2, k3, k4, k5⟩

def okW27 (W : World) (a : WireFrameR) : Prop := (fun _ => I64) W a.Radar ∧ (fun _ => I64) W a.Time ∧ (slOk 6 Plot.c (fun _ => Plot.ok)) W a.Plots
theorem opensW27 : OpensW Tryd.prog 27 WireFrameR.c okW27 := by
  intro H enc W base sp hd fuel cs x h hw
  obtain ⟨xs, n, rfl, rfl, hlen, hxs, hf⟩ := DataW.trod_struct Tryd.underlying27 h
  obtain ⟨y0, h0, w0⟩ := fieldW_at Tryd.underlying27 hxs hf hw 0 _ rfl
  obtain ⟨a0, e0, k0⟩ := (Opens.w (opens_int Tryd.underlying3)) h0 w0
  obtain ⟨y1, h1, w1⟩ := fieldW_at Tryd.underlying27 hxs hf hw 1 _ rfl
  obtain ⟨a1, e1, k1⟩ := (Opens.w (opens_int Tryd.underlying3)) h1 w1
  obtain ⟨y2, h2, w2⟩ := fieldW_at Tryd.underlying27 hxs hf hw 2 _ rfl
  obtain ⟨a2, e2, k2⟩ := (opensW_slice (Opens.w opens46) Tryd.underlying25 (by kernel_rfl : Tryd.prog.cellsOf 46 = 6) (by decide) rfl (Nat.le_of_ble_eq_true (by kernel_rfl))) h2 w2
  have hend : cs.drop 3 = [] := List.drop_eq_nil_of_le (by rw [hlen, show Tryd.prog.cellsOf 27 = 3 by kernel_rfl]; exact Nat.le_refl _)
  exact ⟨⟨a0, a1, a2⟩, (cat2 (o := 0) (n := 1) (by kernel_rfl) e0 (cat2 (o := 1) (n := 1) (by kernel_rfl) e1 (cat2 (o := 2) (n := 1) (by kernel_rfl) e2 hend))), k0, k1, k2⟩

theorem own_ : ownKnob Tryd.prog.godebug = none := by kernel_rfl
theorem door_met (os : Os) (args : Array Value) : laidMetH Tryd.prog Rows.wireStreamRow.laid ((World.laidAll Tryd.prog os Rows.wireStreamRow.laid).forCall (fun _ _ => 0) ⟨#[], args, []⟩).memory :=
  laidMetH_of_parts3 (fuel := 8) (laidMet_laidAll _ (by kernel_rfl) (by kernel_rfl)) (by kernel_rfl) (by kernel_rfl)
set_option maxRecDepth 100000 in
theorem lifted (os : Os) (started : os.Started) (H : Type) (enc : TypeId × Value → H) :
    ReturnsInHanded {} Tryd.checked os 3 .any (fun w args => (Rows.wireStreamSpec.pre enc Tryd.prog Tryd.f3 [] false w args ∧ laidMetH Tryd.prog Rows.wireStreamRow.laid w) ∧ sizedMet enc Tryd.prog Tryd.f3 (OpenSpec.ofChange Rows.wireStreamSpec) false w args) (Rows.wireStreamSpec.post enc Tryd.prog Tryd.f3 false true false false) := by
  refine liftS (C := Tryd.checked) (L := Rows.wireStreamRow.laid) (tb := 4) (fun _ _ hh h => h.of_heap hh) own_ started (by kernel_rfl) Tryd.func3 (by kernel_rfl) (by kernel_rfl) rfl (by kernel_rfl) Tryd.underlying4 (fun ds h => by match ds, h with | [_, _, _], _ => rfl)
    (ChangeSpec.witness_shaped (enc := enc) (C := Tryd.checked) (os := os) (X := fun w _ => laidMetH Tryd.prog Rows.wireStreamRow.laid w) false (World.laidAll Tryd.prog os Rows.wireStreamRow.laid) #[.slice none 0 0, .slice none 0 0, .string .empty] 8 (World.laidAll_os _ _ _) (World.shaped_of_ZipB (by kernel_rfl) (by kernel_rfl)) (by kernel_rfl) (by kernel_rfl) (by kernel_rfl) (door_met os _)) ?_
  intro W base args ds p hval0 hA0 hw0 _ hSh
  have hval : ∀ (j : Nat) t v, Tryd.f3.params[j]? = some t → args[j]? = some v → Value.okWide Tryd.prog W .any base t v := hval0
  have hA : DataW.TrodAll enc Tryd.prog W 0 (fun _ => true) true Tryd.f3.params.toList args.toList ds p := hA0
  have hw : ∀ (j : Nat) (t : TypeId) (d : DataW H), Tryd.f3.params.toList[j]? = some t → ds[j]? = some d → ∀ n ∈ d.weights Tryd.prog t, n ≤ reachBytes := hw0
  clear hval0 hA0 hw0
  rw [Tryd.params3] at hA hval hw
  obtain ⟨v0, vs0, d0, ds0, p0, q0, hargs, rfl, rfl, h0, s0⟩ := trodAll_cons hA
  obtain ⟨v1, vs1, d1, ds1, p1, q1, rfl, rfl, rfl, h1, s1⟩ := trodAll_cons s0
  obtain ⟨v2, vs2, d2, ds2, p2, q2, rfl, rfl, rfl, h2, s2⟩ := trodAll_cons s1
  obtain ⟨rfl, rfl, rfl⟩ := trodAll_nil s2
  obtain rfl : args = #[v0, v1, v2] := by cases args; simp_all
  obtain ⟨x0, rfl, k0⟩ := argW_slice opensW27 Tryd.underlying22 (by kernel_rfl : Tryd.prog.cellsOf 27 = 3) (by decide) rfl (Nat.le_of_ble_eq_true (by kernel_rfl)) (hval 0 22 v0 rfl rfl) h0 (hw 0 _ _ rfl rfl)
  obtain ⟨x1, rfl, k1⟩ := argW_slice (opensW_string Tryd.underlying9) Tryd.underlying23 (by kernel_rfl : Tryd.prog.cellsOf 9 = 1) (by decide) rfl (Nat.le_of_ble_eq_true (by kernel_rfl)) (hval 1 23 v1 rfl rfl) h1 (hw 1 _ _ rfl rfl)
  obtain ⟨x2, rfl, k2⟩ := arg_string Tryd.underlying9 (hval 2 9 v2 rfl rfl) h2 (hw 2 _ _ rfl rfl)
  have e := WireStream_all (x0.l.map WireFrameR.p) x1.l x2
  have r := skywaykeep2_WireStream_w x0.A x0.cap (x0.l.map WireFrameR.p) x0.l x1.A x1.cap x1.l x2 W k0.1.rd (by rw [List.length_map]; exact k0.1.le) (by intro a ha; obtain ⟨b, hb, rfl⟩ := List.mem_map.1 ha; exact (k0.2 b hb).2.2.1) rfl k1.1.rd k1.1.le (Mlen.of hSh)
  rw [e] at r
  simp only [List.length_map] at r
  exact r
end Go.Proofs.YtngnagndhikafaaDoor.wireStreamRow
namespace Go.Proofs.YtngnagndhikafaaDoor
/-- The given row of WireStream. -/
theorem wireStream_holds : Rows.WireStreamSaid :=
  OpenClaim.holds_of_wide 3 Tryd.f3 rfl rfl rfl rfl rfl rfl rfl ⟨rfl, rfl, rfl, rfl, rfl⟩ rfl rfl rfl rfl rfl (by kernel_rfl) Tryd.func3 (by kernel_rfl)
    (of_decide_eq_true (by kernel_rfl)) (by unfold Func.isWrapper; rw [if_neg (of_decide_eq_false (by kernel_rfl))]; exact ⟨rfl, rfl⟩)
    (fun os started H enc _ => wireStreamRow.lifted os started H enc)
set_option maxRecDepth 100000 in
set_option maxHeartbeats 4000000 in
/-- The given card of WireStream: the row, its listed variables tied to the text. -/
theorem wireStream_card : Rows.WireStreamCardSaid :=
  Claim7.holds_tied_plain_at .later [] [.data, .pinned] true (true, "1da4b3175d454bf9b46deb20e197c8cd284217f7d8f7bc86ca5f1e050296169b") false
    wireStream_holds (fun _ h => by cases h) (by kernel_rfl) (fun _ h => by cases h) wireStream_row_tie (by kernel_rfl) ⟨by kernel_rfl, by kernel_rfl⟩ (by kernel_rfl) (by kernel_rfl)
    (fun f fn hf hfn => by
      obtain rfl : f = 3 := Option.some.inj ((show Tryd.prog.funcNamed "skyway/skywaykeep2.WireStream" = some 3 by kernel_rfl).symm.trans hf) |>.symm
      obtain rfl : fn = Tryd.f3 := (Option.some.inj (Tryd.func3.symm.trans hfn)).symm
      exact ⟨by kernel_rfl, fun j t ht => by
        rw [Tryd.params3] at ht
        rcases j with _ | j
        · have h3 : t = 22 := by simpa using ht.symm
          subst h3
          exact (show Tryd.prog.wantsStandIn 22 = false by kernel_rfl)
        rcases j with _ | j
        · have h3 : t = 23 := by simpa using ht.symm
          subst h3
          exact (show Tryd.prog.wantsStandIn 23 = false by kernel_rfl)
        rcases j with _ | j
        · have h3 : t = 9 := by simpa using ht.symm
          subst h3
          exact (show Tryd.prog.wantsStandIn 9 = false by kernel_rfl)
        simp at ht⟩)
    (by kernel_rfl)
end Go.Proofs.YtngnagndhikafaaDoor
