/- Proves the given statement of this seat that YtiknacdnhekekaaRowShortestWays names, from the texts before it; no condition is added. -/
import Derived.Test.YtiknacdnhekekaaSw15
import Derived.Test.YtiknacdnhekekaaSw03
import Derived.ChangeMaps5
import Derived.Test.YtiknacdnhekekaaRows
section
namespace Go.Sky
open Go Go.Eng
theorem ix_mem {c : Chart} {s : ByteArray} (h : 0 ≤ chart_index c s) : s ∈ c.Fixes.map Fix.Name := by
  rcases ix_is c s with z | ⟨j, x, _, z2, z3⟩
  · omega
  · rw [← z3]; exact List.mem_map_of_mem (List.mem_of_getElem? z2)
theorem mem_ix {c : Chart} {s : ByteArray} (h : s ∈ c.Fixes.map Fix.Name) : 0 ≤ chart_index c s := by
  obtain ⟨x, hx, e⟩ := List.mem_map.1 h
  rcases ix_is c s with z | ⟨j, y, z, _⟩
  · exact absurd e (z.2 x hx)
  · omega
theorem ShortestWays_law (c : Chart) (f t : ByteArray) : skywaylaw1_ShortestWays c f t = true := by
  unfold skywaylaw1_ShortestWays
  simp only [works_true, Bool.not_true, cond_false]
  cases h7 : decide ((c.Fixes.length : Int) > 7) with
  | true => rfl
  | false =>
  rw [cond_false]
  cases hc : (chart_Check c != 0) with
  | true => rfl
  | false =>
  rw [cond_false]
  have h7' : c.Fixes.length ≤ 7 := by have := of_decide_eq_false h7; omega
  have hck : chart_Check c = 0 := by simpa using hc
  unfold bindv
  show cond (decide (skywaylaw1_ShortestWays_L1 f t c.Fixes 0 0 < 2)) _ _ = true
  rcases known_both (f := f) (t := t) hck rfl with ⟨k, g⟩ | ⟨k, g1, g2⟩
  · rw [decide_eq_true k, cond_true]
    rcases ends_no (a := f) (b := t) h7' hck with ⟨a1, a2, _⟩ | ⟨_, p1, p2⟩
    · exact absurd ⟨ix_mem a1, ix_mem a2⟩ g
    · rw [p1, p2]; rfl
  · rw [decide_eq_false k, cond_false]
    rcases ends_no (a := f) (b := t) h7' hck with ⟨_, _, h⟩ | ⟨h, _⟩
    · have W : skywayref1_Ways c f t = ways1 c t 8 ⟨[f], 0⟩ [] := rfl
      rcases ends_ok h7' hck rfl h with ⟨g, p1, p2⟩ | ⟨w, g, p1, p2⟩ | ⟨w, w2, g, p1, p2⟩
      · rw [W, g, p1, p2]; rfl
      · rw [W, g, p1, p2]
        have e0 : ([w] : List Way)[0]?.getD Way.zero = w := rfl
        simp only [e0, same_self, bne_self_eq_false, cond_false, Bool.not_true]
        rfl
      · rw [W, g, p1, p2]
        have e0 : ([w, w2] : List Way)[0]?.getD Way.zero = w := rfl
        have e1 : ([w, w2] : List Way)[1]?.getD Way.zero = w2 := rfl
        simp only [e0, e1, same_self, bne_self_eq_false, beq_self_eq_true, cond_false, cond_true, Bool.not_true]
        rfl
    · rcases h with h | h
      · exact absurd (mem_ix g1) h
      · exact absurd (mem_ix g2) h
end Go.Sky
namespace Go.Sky
open Go Go.Eng
structure ChartR where
  Fixes : Sl Fix
  Airways : Sl AirwayR
def ChartR.p (x : ChartR) : Chart := ⟨x.Fixes.l, x.Airways.l.map AirwayR.p⟩
def ChartR.c (x : ChartR) : Array Value := #[.slice x.Fixes.A x.Fixes.l.length x.Fixes.cap, .slice x.Airways.A x.Airways.l.length x.Airways.cap]
theorem ShortestWays_true (c : Chart) (f t : ByteArray) : skywaylaw1_ShortestWays c f t = true := ShortestWays_law c f t
end Go.Sky
end
section
namespace Go.Glue
open Go.ChangeShapes Go.WideShapes Go.ChangeAt Go.RowKit Go.Eng Go.ChangeMaps
variable {H : Type} {enc : TypeId × Value → H} {P : Program} {W : World} {base b0 : Nat} {sp : Nat → Bool} {hd : Bool} {t : TypeId} {v : Value} {d : DataW H} {p : List MemPlace}
theorem arg_string (ht : P.underlying t = some .string) (hval : Value.okWide P W .any b0 t v) (h : DataW.Trod enc P W base sp hd t v d p) (hw : ∀ n ∈ d.weights P t, n ≤ reachBytes) : ∃ s, v = .string s ∧ s.size ≤ 140737488351232 := by
  obtain ⟨s, rfl, rfl, _, _⟩ := open_string ht hval h
  refine ⟨s, rfl, ?_⟩
  have := hw s.data.toList.length (by simp [DataW.weights])
  rw [Array.length_toList] at this
  exact Nat.le_trans this (by decide)
end Go.Glue
end
section
namespace Go.Proofs.Ytiknacdnhekekaa.shortestWaysRow
open Go.ChangeShapes Go.WideShapes Go.ChangeAt Go.RowKit Go.Glue Go.Eng Go.Sky
theorem opens33 : Opens Try.prog 33 P.c P.ok := by
  intro H enc W base sp hd fuel cs x h
  obtain ⟨xs, n, rfl, rfl, hlen, hxs, hf⟩ := DataW.trod_struct Try.underlying33 h
  obtain ⟨y0, h0⟩ := field_at hxs hf 0 _ rfl
  obtain ⟨a0, e0, k0⟩ := (opens_int Try.underlying3) h0
  obtain ⟨y1, h1⟩ := field_at hxs hf 1 _ rfl
  obtain ⟨a1, e1, k1⟩ := (opens_int Try.underlying3) h1
  have hend : cs.drop 2 = [] := List.drop_eq_nil_of_le (by rw [hlen, show Try.prog.cellsOf 33 = 2 by kernel_rfl]; exact Nat.le_refl _)
  exact ⟨⟨a0, a1⟩, (cat2 (o := 0) (n := 1) (by kernel_rfl) e0 (cat2 (o := 1) (n := 1) (by kernel_rfl) e1 hend)), k0, k1⟩
def okW35 (W : World) (a : Fix) : Prop := (fun _ (s : ByteArray) => s.size ≤ reachBytes) W a.Name ∧ (fun _ => P.ok) W a.At
theorem opensW35 : OpensW Try.prog 35 Fix.c okW35 := by
  intro H enc W base sp hd fuel cs x h hw
  obtain ⟨xs, n, rfl, rfl, hlen, hxs, hf⟩ := DataW.trod_struct Try.underlying35 h
  obtain ⟨y0, h0, w0⟩ := fieldW_at Try.underlying35 hxs hf hw 0 _ rfl
  obtain ⟨a0, e0, k0⟩ := (opensW_string Try.underlying9) h0 w0
  obtain ⟨y1, h1, w1⟩ := fieldW_at Try.underlying35 hxs hf hw 1 _ rfl
  obtain ⟨a1, e1, k1⟩ := (Opens.w opens33) h1 w1
  have hend : cs.drop 3 = [] := List.drop_eq_nil_of_le (by rw [hlen, show Try.prog.cellsOf 35 = 3 by kernel_rfl]; exact Nat.le_refl _)
  exact ⟨⟨a0, a1⟩, (cat2 (o := 0) (n := 1) (by kernel_rfl) e0 (cat2 (o := 1) (n := 2) (by kernel_rfl) e1 hend)), k0, k1⟩
def okW43 (W : World) (a : AirwayR) : Prop := (fun _ (s : ByteArray) => s.size ≤ reachBytes) W a.Name ∧ (slOk 1 (fun s : ByteArray => #[.string s]) (fun _ (s : ByteArray) => s.size ≤ reachBytes)) W a.Fixes
theorem opensW43 : OpensW Try.prog 43 AirwayR.c okW43 := by
  intro H enc W base sp hd fuel cs x h hw
  obtain ⟨xs, n, rfl, rfl, hlen, hxs, hf⟩ := DataW.trod_struct Try.underlying43 h
  obtain ⟨y0, h0, w0⟩ := fieldW_at Try.underlying43 hxs hf hw 0 _ rfl
  obtain ⟨a0, e0, k0⟩ := (opensW_string Try.underlying9) h0 w0
  obtain ⟨y1, h1, w1⟩ := fieldW_at Try.underlying43 hxs hf hw 1 _ rfl
  obtain ⟨a1, e1, k1⟩ := (opensW_slice (opensW_string Try.underlying9) Try.underlying29 (by kernel_rfl : Try.prog.cellsOf 9 = 1) (by decide) rfl (Nat.le_of_ble_eq_true (by kernel_rfl))) h1 w1
  have hend : cs.drop 2 = [] := List.drop_eq_nil_of_le (by rw [hlen, show Try.prog.cellsOf 43 = 2 by kernel_rfl]; exact Nat.le_refl _)
  exact ⟨⟨a0, a1⟩, (cat2 (o := 0) (n := 1) (by kernel_rfl) e0 (cat2 (o := 1) (n := 1) (by kernel_rfl) e1 hend)), k0, k1⟩
def okW25 (W : World) (a : ChartR) : Prop := (slOk 3 Fix.c okW35) W a.Fixes ∧ (slOk 2 AirwayR.c okW43) W a.Airways
theorem opensW25 : OpensW Try.prog 25 ChartR.c okW25 := by
  intro H enc W base sp hd fuel cs x h hw
  obtain ⟨xs, n, rfl, rfl, hlen, hxs, hf⟩ := DataW.trod_struct Try.underlying25 h
  obtain ⟨y0, h0, w0⟩ := fieldW_at Try.underlying25 hxs hf hw 0 _ rfl
  obtain ⟨a0, e0, k0⟩ := (opensW_slice opensW35 Try.underlying22 (by kernel_rfl : Try.prog.cellsOf 35 = 3) (by decide) rfl (Nat.le_of_ble_eq_true (by kernel_rfl))) h0 w0
  obtain ⟨y1, h1, w1⟩ := fieldW_at Try.underlying25 hxs hf hw 1 _ rfl
  obtain ⟨a1, e1, k1⟩ := (opensW_slice opensW43 Try.underlying23 (by kernel_rfl : Try.prog.cellsOf 43 = 2) (by decide) rfl (Nat.le_of_ble_eq_true (by kernel_rfl))) h1 w1
  have hend : cs.drop 2 = [] := List.drop_eq_nil_of_le (by rw [hlen, show Try.prog.cellsOf 25 = 2 by kernel_rfl]; exact Nat.le_refl _)
  exact ⟨⟨a0, a1⟩, (cat2 (o := 0) (n := 1) (by kernel_rfl) e0 (cat2 (o := 1) (n := 1) (by kernel_rfl) e1 hend)), k0, k1⟩
set_option maxRecDepth 100000 in
theorem lifted (os : Os) (started : os.Started) (H : Type) (enc : TypeId × Value → H) :
    ReturnsInHanded {} Try.checked os 3 .any (Rows.shortestWaysSpec.pre6 enc Try.prog Try.f3 Rows.shortestWaysRow.domain false) (Rows.shortestWaysSpec.post enc Try.prog Try.f3 false true false false) := by
  refine lift (C := Try.checked) (tb := 4) (by kernel_rfl) started (by kernel_rfl) Try.func3 (by kernel_rfl) (by kernel_rfl) rfl (by kernel_rfl) Try.underlying4 (fun ds h => by match ds, h with | [_, _, _], _ => rfl)
    (ChangeSpec.witness6 (enc := enc) (C := Try.checked) false ⟨#[], #[(.agg (ChartR.c ⟨Sl.zero, Sl.zero⟩)), .string .empty, .string .empty], []⟩ 8 (by kernel_rfl) (by kernel_rfl) (by kernel_rfl) (by kernel_rfl)) ?_
  intro W base args ds p hval0 hA0 hw0
  have hval : ∀ (j : Nat) t v, Try.f3.params[j]? = some t → args[j]? = some v → Value.okWide Try.prog W .any base t v := hval0
  have hA : DataW.TrodAll enc Try.prog W 0 (fun _ => true) true Try.f3.params.toList args.toList ds p := hA0
  have hw : ∀ (j : Nat) (t : TypeId) (d : DataW H), Try.f3.params.toList[j]? = some t → ds[j]? = some d → ∀ n ∈ d.weights Try.prog t, n ≤ reachBytes := hw0
  clear hval0 hA0 hw0
  rw [Try.params3] at hA hval hw
  obtain ⟨v0, vs0, d0, ds0, p0, q0, hargs, rfl, rfl, h0, s0⟩ := trodAll_cons hA
  obtain ⟨v1, vs1, d1, ds1, p1, q1, rfl, rfl, rfl, h1, s1⟩ := trodAll_cons s0
  obtain ⟨v2, vs2, d2, ds2, p2, q2, rfl, rfl, rfl, h2, s2⟩ := trodAll_cons s1
  obtain ⟨rfl, rfl, rfl⟩ := trodAll_nil s2
  obtain rfl : args = #[v0, v1, v2] := by cases args; simp_all
  obtain ⟨x0, rfl, k0⟩ := argW_struct opensW25 Try.underlying25 (hval 0 25 v0 rfl rfl) h0 (hw 0 _ _ rfl rfl)
  obtain ⟨x1, rfl, k1⟩ := arg_string Try.underlying9 (hval 1 9 v1 rfl rfl) h1 (hw 1 _ _ rfl rfl)
  obtain ⟨x2, rfl, k2⟩ := arg_string Try.underlying9 (hval 2 9 v2 rfl rfl) h2 (hw 2 _ _ rfl rfl)
  have e := ShortestWays_true x0.p x1 x2
  have r := skywaylaw1_ShortestWays_w x0.p x0.Fixes.A x0.Fixes.cap x0.Airways.A x0.Airways.cap x0.Airways.l x1 x2 W k0.1.1.rd k0.1.1.le k0.2.1.rd (by show (List.map _ _).length ≤ _; rw [List.length_map]; exact k0.2.1.le) (by intro a ha; obtain ⟨b, hb, rfl⟩ := List.mem_map.1 ha; exact (k0.2.2 b hb).2.1) rfl
  rw [e] at r
  simp only [ChartR.p, List.length_map] at r
  exact r
end Go.Proofs.Ytiknacdnhekekaa.shortestWaysRow
namespace Go.Proofs.Ytiknacdnhekekaa
theorem shortestWays_holds : Rows.ShortestWaysSaid :=
  OpenClaim.holds_of_wide 3 Try.f3 rfl rfl rfl rfl rfl rfl rfl ⟨rfl, rfl, rfl, rfl, rfl⟩ rfl rfl rfl rfl rfl (by kernel_rfl) Try.func3 (by kernel_rfl)
    (of_decide_eq_true (by kernel_rfl)) (by unfold Func.isWrapper; rw [if_neg (of_decide_eq_false (by kernel_rfl))]; exact ⟨rfl, rfl⟩)
    (fun os started H enc _ => shortestWaysRow.lifted os started H enc)
end Go.Proofs.Ytiknacdnhekekaa
end
