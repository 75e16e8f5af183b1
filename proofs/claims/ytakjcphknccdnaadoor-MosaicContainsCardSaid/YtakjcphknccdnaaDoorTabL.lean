/- Tables of doubles that a row lists; the row's step with listed variables. Conditions: in each theorem. -/
import Derived.Test.YtakjcphknccdnaaDoorGlue
import Derived.Test.YtakjcphknccdnaaDoorFlob
import Derived.Lib.LaidTab
import Derived.LaidMore
import Derived.LaidLaws
import Derived.MakeChecks
import Derived.LaidHandle
import Derived.OpenShut
namespace Go.Glue
open Go.ChangeShapes Go.WideShapes Go.ChangeAt Go.RowKit Go.Eng

theorem trod_flt {H : Type} {enc : TypeId × Value → H} {P : Program} {w : World} {base : Nat} {sp : Nat → Bool} {held : Bool} {fuel : Nat} {t : TypeId} {cs : List Value} {x : DataW H × List MemPlace}
    (ht : P.underlying t = some (.float .f64)) (h : DataW.trod enc P w base sp held fuel t cs = some x) : ∃ n, cs = [.float .f64 n] ∧ x = (.lit (.float .f64 n), []) := by
  cases fuel with
  | zero => simp [DataW.trod] at h
  | succ n =>
    unfold DataW.trod at h
    rw [ht] at h
    split at h <;> simp_all
/-- An array that reads as these doubles holds them. -/
theorem cells_flt {H : Type} {enc : TypeId × Value → H} {P : Program} {w : World} {base : Nat} {sp : Nat → Bool} {held : Bool} {fuel : Nat} {t e : TypeId} {n : Nat} {cs : List Value} {zs : List Nat} {p : List MemPlace}
    (ht : P.underlying t = some (.array n e)) (he : P.underlying e = some (.float .f64)) (hce : P.cellsOf e = 1) (hct : P.cellsOf t = n)
    (h : DataW.trod enc P w base sp held fuel t cs = some (.agg (zs.map fun z => (DataW.lit (.float .f64 z) : DataW H)), p)) : ∀ (i : Nat) (z : Nat), zs[i]? = some z → cs[i]? = some (Value.float .f64 z) := by
  cases fuel with
  | zero => simp [DataW.trod] at h
  | succ fuel =>
    simp only [DataW.trod, ht, hce, hct, Nat.mul_one] at h
    split at h
    · obtain ⟨xs, hm, hx⟩ := Option.map_eq_some_iff.1 h
      intro i z hz
      have e1 : xs.map (·.1) = zs.map fun z => (DataW.lit (.float .f64 z) : DataW H) := by simpa using congrArg Prod.fst hx
      have hl := Lib.mapM_length hm
      rw [List.length_range] at hl
      have l2 : xs.length = zs.length := by simpa using congrArg List.length e1
      have hi : i < n := by have := (List.getElem?_eq_some_iff.1 hz).1; omega
      obtain ⟨b, hb, hf⟩ := Lib.mapM_at hm i i (by simp [hi])
      obtain ⟨y, hc, rfl⟩ := trod_flt he hf
      have h1 : cs[i]? = some (Value.float .f64 y) := by
        have h := congrArg (fun l => l[0]?) hc
        rw [List.getElem?_take_of_lt (by decide), List.getElem?_drop, Nat.add_zero] at h
        exact h
      have h2 : (xs.map (·.1))[i]? = some (DataW.lit (.float .f64 y) : DataW H) := by simp [hb]
      rw [e1] at h2
      simp [hz] at h2
      rw [h1, h2]
    · cases h
/-- One variable of the list. -/
theorem tab_of {P : Program} {W : World} {name : String} {zs : List Nat} {g : Nat} {t e : TypeId} {n : Nat} (hg : P.globalNamed name = some g) (hty : (P.globals[g]?).map (·.type) = some t) (ht : P.underlying t = some (.array n e)) (he : P.underlying e = some (.float .f64)) (hce : P.cellsOf e = 1) (hct : P.cellsOf t = n)
    (h : ∃ (g' : Nat) (t' : TypeId) (cs : Array Value) (fuel : Nat) (p : List MemPlace), P.globalNamed name = some g' ∧ (P.globals[g']?).map (·.type) = some t' ∧ W.var? P name = some cs ∧ DataW.trod (H := Unit) (fun _ => ()) P W 0 (fun _ => true) false fuel t' cs.toList = some (.agg (zs.map fun z => (DataW.lit (.float .f64 z) : DataW Unit)), p))
    (h0 : 0 < zs.length) : TabF W g zs := by
  obtain ⟨g', t', cs, fuel, p, hg', ht', hvar, hd⟩ := h
  obtain rfl := Option.some.inj (hg.symm.trans hg')
  obtain rfl := Option.some.inj (hty.symm.trans ht')
  have hc := cells_flt ht he hce hct hd
  have cell : ∀ (i z : Nat), zs[i]? = some z → W.cell? ⟨g, i, none⟩ = some (.float .f64 z) := fun i z hz => by
    have a := World.var?_cell hg hvar i
    have b := hc i z hz
    rw [Array.getElem?_toList] at b
    rw [a, b]
  refine ⟨?_, cell⟩
  have := cell 0 (zs[0]'h0) (List.getElem?_eq_getElem h0)
  unfold World.cell? at this
  cases hb : W.heap[(⟨g, 0, none⟩ : Addr).block]? with
  | none => rw [hb] at this; cases this
  | some o => exact (Array.getElem?_eq_some_iff.1 hb).1
section
variable {H : Type} {enc : TypeId × Value → H}
/-- The row's step where variables are listed. -/
theorem liftL {C : Checked} {os : Os} {f : FuncId} {fn : Func} {s : ChangeSpec} {tb : TypeId} {L : List (String × DataW Unit)} (hX : ∀ w w' : World, w.heap = w'.heap → laidMetH C.prog L w → laidMetH C.prog L w') (own : ownKnob C.prog.godebug = none) (started : os.Started) (noInit : C.prog.inits.idxOf? f = none) (hfn : C.prog.funcs[f]? = some fn)
    (hl : laidOutB C.prog = true) (hread : fn.params.toList.all (fun t => C.prog.readableRec t && decide (t < C.prog.types.size)) = true) (hv : s.vars = []) (hres : fn.resultTypes = #[tb]) (htb : C.prog.underlying tb = some .bool)
    (hs : ∀ ds : List (DataW H), ds.length = fn.params.size → s.fn H ds = { results := [.lit (.bool true)], args := ds })
    (witness : ∃ (w : World) (tape : Tape) (i : Input), w.os = os ∧ (w.forCall tape i).Shaped C.prog ∧ i.vars = [] ∧ Input.okWide C.prog (w.forCall tape i) .any w.heap.size f i ∧
      ((s.pre enc C.prog fn [] false (w.forCall tape i).memory i.args ∧ laidMetH C.prog L (w.forCall tape i).memory) ∧ sizedMet enc C.prog fn (OpenSpec.ofChange s) false (w.forCall tape i).memory i.args) ∧ ({} : Assume).holds C.prog (lone (Frame.enter C.prog f i.args .normal) [] (w.forCall tape i)))
    (law : ∀ (W : World) (base : Nat) (args : Array Value) (ds : List (DataW H)) (p : List MemPlace), (∀ (j : Nat) t v, fn.params[j]? = some t → args[j]? = some v → Value.okWide C.prog W .any base t v) →
      DataW.TrodAll enc C.prog W 0 (fun _ => true) true fn.params.toList args.toList ds p → (∀ (j : Nat) (t : TypeId) (d : DataW H), fn.params.toList[j]? = some t → ds[j]? = some d → ∀ n ∈ d.weights C.prog t, n ≤ reachBytes) →
      laidMetH C.prog L W → Calls C.prog f args W (Ret W (.bool true))) :
    ReturnsInHanded {} C os f .any (fun w args => (s.pre enc C.prog fn [] false w args ∧ laidMetH C.prog L w) ∧ sizedMet enc C.prog fn (OpenSpec.ofChange s) false w args) (s.post enc C.prog fn false true false false) := by
  refine returnsInHanded_of_change_and (X := fun w _ => laidMetH C.prog L w) (fun w w' _ hh h => hX w w' hh h) own started noInit hfn witness ?_
  intro W base args ds gs before hval hW _ hsz hL _
  have hW' := hW
  obtain ⟨p, q, hA, hV, rfl, hfz, hnd⟩ := hW
  rw [hv] at hV
  obtain ⟨rfl, rfl⟩ := trodVars_none hV
  have hlen : ds.length = fn.params.size := by
    have := trodAll_len hA
    simpa using this
  have hlt : ∀ x ∈ p, x.block < W.heap.size := fun x hx => hW'.lt x (List.mem_append_left _ hx)
  refine (law W base args ds p hval hA (fun j t d ht hd n hn => ?_) hL).mono fun e W' ⟨he, hb⟩ => ?_
  · have h1 : n ∈ DataW.weightsEach C.prog (fn.params.toList ++ s.plain.varTypes C.prog) (ds ++ []) :=
      DataW.weights_mem_each (j := j) (by rw [List.getElem?_append_left (by exact (List.getElem?_eq_some_iff.1 ht).1)]; exact ht) (by simpa using hd) n hn
    exact of_decide_eq_true (List.all_eq_true.1 hsz n h1)
  · refine ⟨_, he, post_of_below (pa := p) (pv := []) hW' (fun b sp hd => ?_) (fun sp hsp => ?_) (fun sp _ => ?_) rfl hb ?_⟩
    · rw [hres, List.append_nil, hs ds hlen]; exact trodAll_mk1 (shut_bool htb true)
    · rw [List.append_nil, hs ds hlen]; exact args_stay hl hb hread hA hlt (fun x hx => hsp x (List.mem_append_left _ hx))
    · rw [hv, List.append_nil, hs ds hlen]; rfl
    · exact ok_one hres rfl (okWide_bool_mk htb true)
end
theorem hM0 (w : World) : Sat ⟨w, feet []⟩ [] w := ⟨Chg.refl _ _, by simp, .nil⟩
theorem below_of_sat {w w' : World} {M : Mem} (h : Sat ⟨w, feet []⟩ M w') : Below w.heap.size w w' := ⟨h.chg.os, h.chg.tape, h.chg.output, h.chg.size, fun k hk => h.chg.block k hk feet_no⟩
end Go.Glue
