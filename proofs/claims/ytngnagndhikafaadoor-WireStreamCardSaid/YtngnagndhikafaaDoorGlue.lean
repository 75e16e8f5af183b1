/- The law's row from a proved call: how arguments are read as Lean data, and that they are read so behind the call. Conditions: none. -/
import Derived.Test.YtngnagndhikafaaDoorSlice
import Derived.ProofKit
import Derived.SizedLaws
import Derived.Deep.Slices
namespace Go.Glue
open Go.ChangeShapes Go.WideShapes Go.ChangeAt Go.RowKit Go.Deep Go.Eng

section
variable {H : Type} {enc : TypeId × Value → H} {P : Program}
theorem post_of_below {f : Func} {s : ChangeSpec} {apart fresh handsOn again : Bool} {W W' : World} {args : Array Value} {v : Value} {ds gs : List (DataW H)} {before pa pv : List MemPlace}
    (hW : DataW.Whole enc P f.params.toList s.vars apart W args.toList ds gs before)
    (hres : ∀ (b : Nat) (sp : Nat → Bool) (hd : Bool), DataW.TrodAll enc P W' b sp hd f.resultTypes.toList (v.resultList f.resultTypes.size) (s.fn H (ds ++ gs)).results [])
    (hargs : ∀ sp : Nat → Bool, (∀ p ∈ before, sp p.block = true) → DataW.TrodAll enc P W' 0 sp true f.params.toList args.toList (s.fn H (ds ++ gs)).args pa)
    (hvars : ∀ sp : Nat → Bool, (∀ p ∈ before, sp p.block = true) → DataW.TrodVars enc P W' sp s.vars (s.fn H (ds ++ gs)).vars pv)
    (hps : before = pa ++ pv) (hb : RowKit.Below W.heap.size W W')
    (hok : ∀ (j : Nat) (t : TypeId) (r : Value), f.resultTypes[j]? = some t → (v.resultList f.resultTypes.size)[j]? = some r → Value.okWide P W' .any 0 t r) :
    s.post enc P f apart fresh handsOn again W args v W' := by
  have hlt : ∀ p ∈ before, p.block < W.heap.size := fun p hp => hW.lt p hp
  have hold : ∀ p ∈ before, (fun b => decide (b < W.heap.size)) p.block = true := fun p hp => by simpa using hlt p hp
  refine ⟨ds, gs, before, [], pa, pv, hW, hres _ _ _, hargs _ hold, hvars _ hold, World.keptBut_mono (fun p hp => ⟨hp, ?_⟩) (hb.frame (· ∈ before)), fun _ => ?_⟩
  · rw [hps, List.mem_append] at hp
    exact Or.inr hp
  · obtain ⟨_, _, _, _, _, hz, hn⟩ := hW
    refine ⟨hok, _, _, ([] ++ pa) ++ pv, ⟨[] ++ pa, pv, trodAll_append (hargs _ (fun _ _ => rfl)) (hres _ _ _), hvars _ (fun _ _ => rfl), rfl, ?_, ?_⟩, ?_⟩
    · intro b off hp
      have hin : MemPlace.cell b off ∈ before := by rw [hps]; simpa using hp
      rw [hb.frozen (hlt _ hin)]
      exact hz b off hin
    · intro ha
      have := hn ha
      rw [hps] at this
      simpa using this
    · intro p hp _
      rw [hps]
      simpa using hp

theorem trodAll_len {W : World} {base : Nat} {sp : Nat → Bool} {hd : Bool} : ∀ {ts : List TypeId} {vs : List Value} {ds : List (DataW H)} {ps : List MemPlace}, DataW.TrodAll enc P W base sp hd ts vs ds ps → ds.length = ts.length
  | [], _, _, _, h => by
    obtain ⟨_, rfl, _⟩ := trodAll_nil h
    rfl
  | t :: ts, _, _, _, h => by
    obtain ⟨v, vs, d, ds, p, q, rfl, rfl, rfl, _, h1⟩ := trodAll_cons h
    simp [trodAll_len h1]

theorem args_stay (hl : laidOutB P = true) {W W' : World} (hb : RowKit.Below W.heap.size W W') {sp : Nat → Bool} : ∀ {ts : List TypeId} {vs : List Value} {ds : List (DataW H)} {ps : List MemPlace},
    ts.all (fun t => P.readableRec t && decide (t < P.types.size)) = true → DataW.TrodAll enc P W 0 (fun _ => true) true ts vs ds ps → (∀ p ∈ ps, p.block < W.heap.size) → (∀ p ∈ ps, sp p.block = true) →
    DataW.TrodAll enc P W' 0 sp true ts vs ds ps
  | [], _, _, _, _, h, _, _ => by
    obtain ⟨rfl, rfl, rfl⟩ := trodAll_nil h
    exact trodAll_mk0
  | t :: ts, _, _, _, ht, h, hlt, hsp => by
    obtain ⟨v, vs, d, ds, p, q, rfl, rfl, rfl, h0, h1⟩ := trodAll_cons h
    simp only [List.all_cons, Bool.and_eq_true, decide_eq_true_eq] at ht
    exact ⟨p, q, WideElems.Trod_stays hl ht.1.1 ht.1.2 h0 (fun x hx => hb.same (hlt x (List.mem_append_left _ hx))) (fun x hx => hsp x (List.mem_append_left _ hx)),
      args_stay hl hb ht.2 h1 (fun x hx => hlt x (List.mem_append_right _ hx)) (fun x hx => hsp x (List.mem_append_right _ hx)), rfl⟩

/-- The row's step: a call that returns true and leaves old memory as it was. -/
theorem lift {C : Checked} {os : Os} {f : FuncId} {fn : Func} {s : ChangeSpec} {tb : TypeId} (own : ownKnob C.prog.godebug = none) (started : os.Started) (noInit : C.prog.inits.idxOf? f = none) (hfn : C.prog.funcs[f]? = some fn)
    (hl : laidOutB C.prog = true) (hread : fn.params.toList.all (fun t => C.prog.readableRec t && decide (t < C.prog.types.size)) = true) (hv : s.vars = []) (hres : fn.resultTypes = #[tb]) (htb : C.prog.underlying tb = some .bool)
    (hs : ∀ ds : List (DataW H), ds.length = fn.params.size → s.fn H ds = { results := [.lit (.bool true)], args := ds })
    (witness : ∃ (w : World) (tape : Tape) (i : Input), w.os = os ∧ (w.forCall tape i).Shaped C.prog ∧ i.vars = [] ∧ Input.okWide C.prog (w.forCall tape i) .any w.heap.size f i ∧
      s.pre6 enc C.prog fn [] false (w.forCall tape i).memory i.args ∧ ({} : Assume).holds C.prog (lone (Frame.enter C.prog f i.args .normal) [] (w.forCall tape i)))
    (law : ∀ (W : World) (base : Nat) (args : Array Value) (ds : List (DataW H)) (p : List MemPlace), (∀ (j : Nat) t v, fn.params[j]? = some t → args[j]? = some v → Value.okWide C.prog W .any base t v) →
      DataW.TrodAll enc C.prog W 0 (fun _ => true) true fn.params.toList args.toList ds p → (∀ (j : Nat) (t : TypeId) (d : DataW H), fn.params.toList[j]? = some t → ds[j]? = some d → ∀ n ∈ d.weights C.prog t, n ≤ reachBytes) →
      Calls C.prog f args W (Ret W (.bool true))) :
    ReturnsInHanded {} C os f .any (s.pre6 enc C.prog fn [] false) (s.post enc C.prog fn false true false false) := by
  refine returnsInHanded_of_change_sized own started noInit hfn witness ?_
  intro W base args ds gs before hval hW _ hsz _
  have hW' := hW
  obtain ⟨p, q, hA, hV, rfl, hfz, hnd⟩ := hW
  rw [hv] at hV
  obtain ⟨rfl, rfl⟩ := trodVars_none hV
  have hlen : ds.length = fn.params.size := by
    have := trodAll_len hA
    simpa using this
  have hlt : ∀ x ∈ p, x.block < W.heap.size := fun x hx => hW'.lt x (List.mem_append_left _ hx)
  refine (law W base args ds p hval hA fun j t d ht hd n hn => ?_).mono fun e W' ⟨he, hb⟩ => ?_
  · have h1 : n ∈ DataW.weightsEach C.prog (fn.params.toList ++ s.plain.varTypes C.prog) (ds ++ []) :=
      DataW.weights_mem_each (j := j) (by rw [List.getElem?_append_left (by exact (List.getElem?_eq_some_iff.1 ht).1)]; exact ht) (by simpa using hd) n hn
    exact of_decide_eq_true (List.all_eq_true.1 hsz n h1)
  · refine ⟨_, he, post_of_below (pa := p) (pv := []) hW' (fun b sp hd => ?_) (fun sp hsp => ?_) (fun sp _ => ?_) rfl hb.kit ?_⟩
    · rw [hres, List.append_nil, hs ds hlen]; exact trodAll_mk1 (shut_bool htb true)
    · rw [List.append_nil, hs ds hlen]; exact args_stay hl hb.kit hread hA hlt (fun x hx => hsp x (List.mem_append_left _ hx))
    · rw [hv, List.append_nil, hs ds hlen]; rfl
    · exact ok_one hres rfl (okWide_bool_mk htb true)
end

/-! ### Reading -/

/-- What is read at type t is what c says of some a. -/
def Opens (P : Program) (t : TypeId) {α : Type} (c : α → Array Value) (ok : α → Prop) : Prop :=
  ∀ {H : Type} {enc : TypeId × Value → H} {W : World} {base : Nat} {sp : Nat → Bool} {hd : Bool} {fuel : Nat} {cs : List Value} {x : DataW H × List MemPlace},
    DataW.trod enc P W base sp hd fuel t cs = some x → ∃ a, cs = (c a).toList ∧ ok a

def I64 (x : Int) : Prop := -9223372036854775808 ≤ x ∧ x ≤ 9223372036854775807
def U8 (x : Int) : Prop := 0 ≤ x ∧ x ≤ 255

theorem wf_i64' {x : Int} (h : (Lit.int .i64 x).wf = true) : I64 x := by
  simp only [Lit.wf, Bool.and_eq_true, decide_eq_true_eq] at h
  exact h
theorem wf_u8' {x : Int} (h : (Lit.int .u8 x).wf = true) : U8 x := by
  simp only [Lit.wf, Bool.and_eq_true, decide_eq_true_eq] at h
  exact h

theorem opens_int {P : Program} {t : TypeId} (ht : P.underlying t = some (.int .i64)) : Opens P t ic I64 := by
  intro H enc W base sp hd fuel cs x h
  obtain ⟨n, rfl, _, hw⟩ := DataW.trod_int ht h
  exact ⟨n, rfl, wf_i64' hw⟩
theorem opens_bool {P : Program} {t : TypeId} (ht : P.underlying t = some .bool) : Opens P t bc (fun _ => True) := by
  intro H enc W base sp hd fuel cs x h
  obtain ⟨n, rfl, _⟩ := DataW.trod_bool ht h
  exact ⟨n, rfl, trivial⟩

theorem cat2 {cs A B : List Value} {o n N : Nat} (hn : N = n) (e : (cs.drop o).take N = A) (rest : cs.drop (o + n) = B) : cs.drop o = A ++ B := by
  subst hn e rest
  rw [← List.drop_drop, List.take_append_drop]

theorem field_at {P : Program} {H : Type} {enc : TypeId × Value → H} {W : World} {base : Nat} {sp : Nat → Bool} {hd : Bool} {n : Nat} {cs : List Value} {fs : Array Field} {xs : List (DataW H × List MemPlace)} (hlen : xs.length = fs.size)
    (h : ∀ (i : Nat) (f : Field), fs[i]? = some f → DataW.trod enc P W base sp hd n f.type ((cs.drop f.offset).take (P.cellsOf f.type)) = xs[i]?) (i : Nat) (f : Field) (hf : fs[i]? = some f) :
    ∃ x, DataW.trod enc P W base sp hd n f.type ((cs.drop f.offset).take (P.cellsOf f.type)) = some x := by
  have hi : i < xs.length := by rw [hlen]; exact (Array.getElem?_eq_some_iff.1 hf).1
  exact ⟨xs[i], by rw [h i f hf]; exact List.getElem?_eq_getElem hi⟩

section
variable {H : Type} {enc : TypeId × Value → H} {P : Program} {W : World} {base b0 : Nat} {sp : Nat → Bool} {hd : Bool} {t : TypeId} {v : Value} {d : DataW H} {p : List MemPlace}

theorem arg_int (ht : P.underlying t = some (.int .i64)) (hval : Value.okWide P W .any b0 t v) (h : DataW.Trod enc P W base sp hd t v d p) : ∃ a, v = .int .i64 a ∧ I64 a := by
  obtain ⟨a, rfl, _, _, w⟩ := open_int ht hval h
  exact ⟨a, rfl, wf_i64' w⟩
theorem arg_bool (ht : P.underlying t = some .bool) (hval : Value.okWide P W .any b0 t v) (h : DataW.Trod enc P W base sp hd t v d p) : ∃ a, v = .bool a := by
  obtain ⟨a, rfl, _, _⟩ := open_bool ht hval h
  exact ⟨a, rfl⟩
theorem arg_struct {α : Type} {c : α → Array Value} {ok : α → Prop} (ho : Opens P t c ok) {fs : Array Field} (ht : P.underlying t = some (.struct fs)) (hval : Value.okWide P W .any b0 t v) (h : DataW.Trod enc P W base sp hd t v d p) :
    ∃ a, v = .agg (c a) ∧ ok a := by
  obtain ⟨cs, rfl, _⟩ := okWide_struct ht hval
  obtain ⟨fuel, hf⟩ := h
  obtain ⟨a, e, k⟩ := ho hf
  exact ⟨a, by rw [show cs = c a from Array.toList_inj.1 e], k⟩

theorem list_of {α : Type} {ok : α → Prop} (n : Nat) {q : Nat → α → Prop} (h : ∀ i, i < n → ∃ a, q i a ∧ ok a) : ∃ l : List α, l.length = n ∧ (∀ a ∈ l, ok a) ∧ ∀ i a, l[i]? = some a → q i a := by
  induction n with
  | zero => exact ⟨[], rfl, by simp, by simp⟩
  | succ n ih =>
    obtain ⟨l, hl, hk, hq⟩ := ih fun i hi => h i (by omega)
    obtain ⟨a, ha, hka⟩ := h n (by omega)
    refine ⟨l ++ [a], by simp [hl], fun b hb => ?_, fun i b hb => ?_⟩
    · rcases List.mem_append.1 hb with hb | hb
      · exact hk b hb
      · rw [List.mem_singleton.1 hb]; exact hka
    · by_cases hi : i < l.length
      · rw [List.getElem?_append_left hi] at hb; exact hq i b hb
      · have : i = l.length := by
          have := (List.getElem?_eq_some_iff.1 hb).1
          simp at this; omega
        subst this
        simp at hb
        subst hb
        rw [hl]; exact ha

theorem opens_slice {α : Type} {c : α → Array Value} {ok : α → Prop} {e : TypeId} {sz by_ : Nat} (ho : Opens P e c ok) (ht : P.underlying t = some (.slice e)) (hc : P.cellsOf e = sz) (hp : 0 < sz) (hby : P.bytesOf e = by_) (hbp : 0 < by_)
    {fuel : Nat} {cs : List Value} {x : DataW H × List MemPlace} (h : DataW.trod enc P W base sp hd fuel t cs = some x) (hw : ∀ n ∈ x.1.weights P t, n ≤ reachBytes) :
    ∃ (A : Option Addr) (cap : Nat) (l : List α), cs = [.slice A l.length cap] ∧ Rd W sz A (l.map c) ∧ l.length ≤ cap ∧ ∀ a ∈ l, ok a := by
  rcases open_slice ht h with ⟨rfl, rfl⟩ | ⟨a, len, cap, m, n, D, Pl, rfl, hb, hlc, hm, rfl, rfl, hx⟩
  · exact ⟨none, 0, [], rfl, Rd.nil _ _, Nat.le_refl _, by simp⟩
  · have hlm : len ≤ (if sp a.block then cap else len) := by split <;> omega
    obtain ⟨l, hl, hk, hq⟩ := list_of (ok := ok) len (q := fun i r => W.cells? base (a.add (i * P.cellsOf e)) (P.cellsOf e) = some (c r).toList) (fun i hi => by
      obtain ⟨cs', h1, h2⟩ := hx i (by omega)
      obtain ⟨r, rfl, k⟩ := ho h2
      exact ⟨r, h1, k⟩)
    refine ⟨some a, cap, l, by rw [hl], ⟨?_, fun i r hi => ?_⟩, by omega, hk⟩
    · have := hw _ (by show _ ∈ DataW.weights P t (.slice _ _); simp only [DataW.weights, ht]; exact List.mem_cons_self ..)
      rw [hby] at this
      simp only [List.length_map, List.length_range] at this
      have h2 : len * 1 ≤ (len + ((if sp a.block then cap else len) - len)) * by_ := Nat.mul_le_mul (by omega) hbp
      simp only [List.length_map, hl]
      have : reachBytes < 4611686018427387904 := by decide
      omega
    · rw [List.getElem?_map] at hi
      obtain ⟨y, hy, rfl⟩ := Option.map_eq_some_iff.1 hi
      obtain ⟨_, h3, h4⟩ := World.cells?_some (hq i y hy)
      rw [hc] at h3 h4
      have hcell : ∀ (j : Nat) (u : Value), (c y)[j]? = some u → W.cell? (a.add (i * sz + j)) = some u := fun j u hu => by
        have hj : j < sz := by
          have := (Array.getElem?_eq_some_iff.1 hu).1
          rw [← h3]; simpa using this
        rw [← add_add', h4 j hj, Array.getElem?_toList]; exact hu
      refine ⟨by rw [← h3]; simp, a, rfl, ?_, hcell⟩
      have h0 := hcell 0 ((c y)[0]'(by rw [← Array.length_toList, h3]; exact hp)) (Array.getElem?_eq_getElem _)
      unfold World.cell? at h0
      rw [add_block'] at h0
      split at h0
      · rename_i hh
        exact (Array.getElem?_eq_some_iff.1 hh).1
      · cases h0

theorem arg_slice {α : Type} {c : α → Array Value} {ok : α → Prop} {e : TypeId} {sz by_ : Nat} (ho : Opens P e c ok) (ht : P.underlying t = some (.slice e)) (hc : P.cellsOf e = sz) (hp : 0 < sz) (hby : P.bytesOf e = by_) (hbp : 0 < by_)
    (hval : Value.okWide P W .any b0 t v) (h : DataW.Trod enc P W base sp hd t v d p) (hw : ∀ n ∈ d.weights P t, n ≤ reachBytes) :
    ∃ (A : Option Addr) (cap : Nat) (l : List α), v = .slice A l.length cap ∧ Rd W sz A (l.map c) ∧ l.length ≤ cap ∧ ∀ a ∈ l, ok a := by
  obtain ⟨A, n, cap, rfl⟩ := okWide_slice ht hval
  obtain ⟨fuel, hf⟩ := h
  obtain ⟨A', cap', l, e, k⟩ := opens_slice ho ht hc hp hby hbp hf hw
  rw [show (Value.slice A n cap).cells.toList = [.slice A n cap] from rfl] at e
  simp only [List.cons.injEq, Value.slice.injEq, and_true] at e
  obtain ⟨rfl, rfl, rfl⟩ := e
  exact ⟨_, _, l, rfl, k⟩
end
end Go.Glue
