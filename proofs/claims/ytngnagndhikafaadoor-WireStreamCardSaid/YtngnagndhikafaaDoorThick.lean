/- Structures that hold slices, and arguments that hold slices in elements or fields: how they are read. Conditions: none. -/
import Derived.Test.YtngnagndhikafaaDoorFct
namespace Go.Glue
open Go.ChangeShapes Go.WideShapes Go.ChangeAt Go.RowKit Go.Deep Go.Eng

/-- What is read at type t is what c says of some a, of which ok holds in the world that is read. -/
def OpensW (P : Program) (t : TypeId) {α : Type} (c : α → Array Value) (ok : World → α → Prop) : Prop :=
  ∀ {H : Type} {enc : TypeId × Value → H} {W : World} {base : Nat} {sp : Nat → Bool} {hd : Bool} {fuel : Nat} {cs : List Value} {x : DataW H × List MemPlace},
    DataW.trod enc P W base sp hd fuel t cs = some x → (∀ n ∈ x.1.weights P t, n ≤ reachBytes) → ∃ a, cs = (c a).toList ∧ ok W a

theorem Opens.w {P : Program} {t : TypeId} {α : Type} {c : α → Array Value} {ok : α → Prop} (h : Opens P t c ok) : OpensW P t c (fun _ => ok) := fun h1 _ => h h1

theorem weights_all {H : Type} {P : Program} {e : TypeId} : ∀ {l : List (DataW H)} {d : DataW H}, d ∈ l → ∀ n ∈ d.weights P e, n ∈ DataW.weightsAll P e l
  | [], _, hd, _, _ => by cases hd
  | d0 :: l, d, hd, n, hn => by
    rw [DataW.weightsAll]
    rcases List.mem_cons.1 hd with rfl | hd
    · exact List.mem_append_left _ hn
    · exact List.mem_append_right _ (weights_all hd n hn)

section
variable {H : Type} {enc : TypeId × Value → H} {P : Program} {W : World} {base b0 : Nat} {sp : Nat → Bool} {hd : Bool} {t : TypeId} {v : Value} {d : DataW H} {p : List MemPlace}

theorem opensW_slice' {α : Type} {c : α → Array Value} {ok : World → α → Prop} {e : TypeId} {sz by_ : Nat} (ho : OpensW P e c ok) (ht : P.underlying t = some (.slice e)) (hc : P.cellsOf e = sz) (hp : 0 < sz) (hby : P.bytesOf e = by_) (hbp : 0 < by_)
    {fuel : Nat} {cs : List Value} {x : DataW H × List MemPlace} (h : DataW.trod enc P W base sp hd fuel t cs = some x) (hw : ∀ n ∈ x.1.weights P t, n ≤ reachBytes) :
    ∃ (A : Option Addr) (cap : Nat) (l : List α), cs = [.slice A l.length cap] ∧ Rd W sz A (l.map c) ∧ l.length ≤ cap ∧ ∀ a ∈ l, ok W a := by
  rcases open_slice ht h with ⟨rfl, rfl⟩ | ⟨a, len, cap, m, n, D, Pl, rfl, hb, hlc, hm, rfl, rfl, hx⟩
  · exact ⟨none, 0, [], rfl, Rd.nil _ _, Nat.le_refl _, by simp⟩
  · have hlm : len ≤ (if sp a.block then cap else len) := by split <;> omega
    have hwx : ∀ i, i < len → ∀ k ∈ (D i).weights P e, k ≤ reachBytes := fun i hi k hk => hw k (by
      show k ∈ DataW.weights P t (.slice _ _)
      simp only [DataW.weights, ht]
      exact List.mem_cons_of_mem _ (List.mem_append_left _ (weights_all (List.mem_map.2 ⟨i, List.mem_range.2 hi, rfl⟩) k hk)))
    obtain ⟨l, hl, hk, hq⟩ := list_of (ok := ok W) len (q := fun i r => W.cells? base (a.add (i * P.cellsOf e)) (P.cellsOf e) = some (c r).toList) (fun i hi => by
      obtain ⟨cs', h1, h2⟩ := hx i (by omega)
      obtain ⟨r, rfl, k⟩ := ho h2 (hwx i hi)
      exact ⟨r, h1, k⟩)
    refine ⟨some a, cap, l, by rw [hl], ⟨?_, fun i r hi => ?_⟩, by omega, hk⟩
    · have := hw _ (by show _ ∈ DataW.weights P t (.slice _ _); simp only [DataW.weights, ht]; exact List.mem_cons_self ..)
      rw [hby] at this
      simp only [List.length_map, List.length_range] at this
      have h2 : len * 1 ≤ (len + ((if sp a.block then cap else len) - len)) * by_ := Nat.mul_le_mul (by omega) hbp
      simp only [List.length_map, hl]
      have : reachBytes < 4611686018427387904 := by decide
      omega
    · rw [List.getElem?_map] at hi
      obtain ⟨y, hy, rfl⟩ := Option.map_eq_some_iff.1 hi
      obtain ⟨_, h3, h4⟩ := World.cells?_some (hq i y hy)
      rw [hc] at h3 h4
      have hcell : ∀ (j : Nat) (u : Value), (c y)[j]? = some u → W.cell? (a.add (i * sz + j)) = some u := fun j u hu => by
        have hj : j < sz := by
          have := (Array.getElem?_eq_some_iff.1 hu).1
          rw [← h3]; simpa using this
        rw [← add_add', h4 j hj, Array.getElem?_toList]; exact hu
      refine ⟨by rw [← h3]; simp, a, rfl, ?_, hcell⟩
      have h0 := hcell 0 ((c y)[0]'(by rw [← Array.length_toList, h3]; exact hp)) (Array.getElem?_eq_getElem _)
      unfold World.cell? at h0
      rw [add_block'] at h0
      split at h0
      · rename_i hh
        exact (Array.getElem?_eq_some_iff.1 hh).1
      · cases h0
end

/-- A slice that reads so, each element as ok says. -/
def slOk {α : Type} (sz : Nat) (c : α → Array Value) (ok : World → α → Prop) (W : World) (s : Sl α) : Prop := s.rd W sz c ∧ ∀ a ∈ s.l, ok W a

theorem opensW_slice {P : Program} {t : TypeId} {α : Type} {c : α → Array Value} {ok : World → α → Prop} {e : TypeId} {sz by_ : Nat} (ho : OpensW P e c ok) (ht : P.underlying t = some (.slice e)) (hc : P.cellsOf e = sz) (hp : 0 < sz) (hby : P.bytesOf e = by_) (hbp : 0 < by_) :
    OpensW P t (Sl.c (α := α)) (slOk sz c ok) := by
  intro H enc W base sp hd fuel cs x h hw
  obtain ⟨A, cap, l, h1, h2, h3, h4⟩ := opensW_slice' ho ht hc hp hby hbp h hw
  exact ⟨⟨A, cap, l⟩, h1, ⟨h2, h3⟩, h4⟩

theorem opensW_string {P : Program} {t : TypeId} (ht : P.underlying t = some .string) : OpensW P t (fun s : ByteArray => #[.string s]) (fun _ s => s.size ≤ reachBytes) := by
  intro H enc W base sp hd fuel cs x h hw
  obtain ⟨s, rfl, rfl, _⟩ := DataW.trod_string ht h
  exact ⟨s, rfl, hw _ (by simp [DataW.weights])⟩

theorem fieldW_at {P : Program} {H : Type} {enc : TypeId × Value → H} {W : World} {base : Nat} {sp : Nat → Bool} {hd : Bool} {n : Nat} {t : TypeId} {cs : List Value} {fs : Array Field} (ht : P.underlying t = some (.struct fs)) {xs : List (DataW H × List MemPlace)} (hlen : xs.length = fs.size)
    (h : ∀ (i : Nat) (f : Field), fs[i]? = some f → DataW.trod enc P W base sp hd n f.type ((cs.drop f.offset).take (P.cellsOf f.type)) = xs[i]?) (hw : ∀ k ∈ (DataW.agg (xs.map (·.1))).weights P t, k ≤ reachBytes) (i : Nat) (f : Field) (hf : fs[i]? = some f) :
    ∃ x, DataW.trod enc P W base sp hd n f.type ((cs.drop f.offset).take (P.cellsOf f.type)) = some x ∧ ∀ k ∈ x.1.weights P f.type, k ≤ reachBytes := by
  have hi : i < xs.length := by rw [hlen]; exact (Array.getElem?_eq_some_iff.1 hf).1
  refine ⟨xs[i], by rw [h i f hf]; exact List.getElem?_eq_getElem hi, fun k hk => hw k ?_⟩
  show k ∈ DataW.weights P t (.agg _)
  simp only [DataW.weights, ht]
  refine DataW.weights_mem_each (j := i) (t := f.type) (d := xs[i].1) ?_ ?_ k hk
  · rw [List.getElem?_map, Array.getElem?_toList, hf]; rfl
  · rw [List.getElem?_map, List.getElem?_eq_getElem hi]; rfl

section
variable {H : Type} {enc : TypeId × Value → H} {P : Program} {W : World} {base b0 : Nat} {sp : Nat → Bool} {hd : Bool} {t : TypeId} {v : Value} {d : DataW H} {p : List MemPlace}
theorem argW_struct {α : Type} {c : α → Array Value} {ok : World → α → Prop} (ho : OpensW P t c ok) {fs : Array Field} (ht : P.underlying t = some (.struct fs)) (hval : Value.okWide P W .any b0 t v) (h : DataW.Trod enc P W base sp hd t v d p) (hw : ∀ n ∈ d.weights P t, n ≤ reachBytes) :
    ∃ a, v = .agg (c a) ∧ ok W a := by
  obtain ⟨cs, rfl, _⟩ := okWide_struct ht hval
  obtain ⟨fuel, hf⟩ := h
  obtain ⟨a, e, k⟩ := ho hf hw
  exact ⟨a, by rw [show cs = c a from Array.toList_inj.1 e], k⟩
theorem argW_slice {α : Type} {c : α → Array Value} {ok : World → α → Prop} {e : TypeId} {sz by_ : Nat} (ho : OpensW P e c ok) (ht : P.underlying t = some (.slice e)) (hc : P.cellsOf e = sz) (hp : 0 < sz) (hby : P.bytesOf e = by_) (hbp : 0 < by_)
    (hval : Value.okWide P W .any b0 t v) (h : DataW.Trod enc P W base sp hd t v d p) (hw : ∀ n ∈ d.weights P t, n ≤ reachBytes) :
    ∃ s : Sl α, v = s.v ∧ slOk sz c ok W s := by
  obtain ⟨A, n, cap, rfl⟩ := okWide_slice ht hval
  obtain ⟨fuel, hf⟩ := h
  obtain ⟨A', cap', l, e, h2, h3, h4⟩ := opensW_slice' ho ht hc hp hby hbp hf hw
  rw [show (Value.slice A n cap).cells.toList = [.slice A n cap] from rfl] at e
  simp only [List.cons.injEq, Value.slice.injEq, and_true] at e
  obtain ⟨rfl, rfl, rfl⟩ := e
  exact ⟨⟨_, _, l⟩, rfl, ⟨h2, h3⟩, h4⟩
end
end Go.Glue
namespace Go.Sky
open Go Go.Eng Go.Glue
/-- A grid, as the program computes with it .. -/
structure TerrainGrid where
  (At : P)
  (Size NX NY : Int)
  (Heights : List Int)
deriving DecidableEq
def TerrainGrid.zero : TerrainGrid := ⟨⟨0, 0⟩, 0, 0, 0, []⟩
def TerrainGrid.ok (x : TerrainGrid) : Prop := x.At.ok ∧ I64 x.Size ∧ I64 x.NX ∧ I64 x.NY ∧ (x.Heights.length < 4611686018427387904 ∧ ∀ a ∈ x.Heights, I64 a)
/-- .. and as it stands in memory. -/
structure TerrainGridR where
  (At : P)
  (Size NX NY : Int)
  (Heights : Sl Int)
def TerrainGridR.p (x : TerrainGridR) : TerrainGrid := ⟨x.At, x.Size, x.NX, x.NY, x.Heights.l⟩
def TerrainGridR.c (x : TerrainGridR) : Array Value := #[.int .i64 x.At.X, .int .i64 x.At.Y, .int .i64 x.Size, .int .i64 x.NX, .int .i64 x.NY, .slice x.Heights.A x.Heights.l.length x.Heights.cap]
theorem TerrainGridR.one (x : TerrainGridR) : x.c.toList.all Value.oneCell' = true := rfl
structure WireFrame where
  (Radar Time : Int)
  (Plots : List Plot)
deriving DecidableEq
def WireFrame.zero : WireFrame := ⟨0, 0, []⟩
def WireFrame.ok (x : WireFrame) : Prop := I64 x.Radar ∧ I64 x.Time ∧ (x.Plots.length < 4611686018427387904 ∧ ∀ a ∈ x.Plots, a.ok)
structure WireFrameR where
  (Radar Time : Int)
  (Plots : Sl Plot)
def WireFrameR.p (x : WireFrameR) : WireFrame := ⟨x.Radar, x.Time, x.Plots.l⟩
def WireFrameR.c (x : WireFrameR) : Array Value := #[.int .i64 x.Radar, .int .i64 x.Time, .slice x.Plots.A x.Plots.l.length x.Plots.cap]
theorem WireFrameR.one (x : WireFrameR) : x.c.toList.all Value.oneCell' = true := rfl
end Go.Sky
