/- The engine, fifth part: slices that are read. Conditions: none. -/
import Derived.Test.YtngnagndhikafaaDoorSky
namespace Go.Eng

/-- An operation's value, as the model's text hands it on. -/
def sV (s : Sem Value) : Sem Next := s.bind fun v => .pure (.value v)

theorem run_sV {P : Program} {s : Sem Value} {w : World} {v : Value} (h : s.run P w = .ok v w) : (sV s).run P w = .ok (.value v) w := by
  have : (sV s) = (do let v ← s; pure (Next.value v)) := rfl
  rw [this]
  simp only [Sem.run_bind, h, Result.andThen_ok, Sem.run_pure]

theorem run_quo {P : Program} {w : World} {t : TypeId} {k : IntKind} {a b : Int} (hb : b ≠ 0) : (sV (binOp .quo t (.int k a) (.int k b))).run P w = .ok (.value (.int k (k.wrap (a.tdiv b)))) w := by
  refine run_sV ?_
  simp [binOp, Op.intDiv, hb]
theorem run_rem {P : Program} {w : World} {t : TypeId} {k : IntKind} {a b : Int} (hb : b ≠ 0) : (sV (binOp .rem t (.int k a) (.int k b))).run P w = .ok (.value (.int k (a.tmod b))) w := by
  refine run_sV ?_
  simp [binOp, Op.intDiv, hb]
theorem run_shl {P : Program} {w : World} {t : TypeId} {k k' : IntKind} {a b : Int} (hb : 0 ≤ b) : (sV (binOp .shl t (.int k a) (.int k' b))).run P w = .ok (.value (.int k (k.wrap (a * 2 ^ (min b.toNat k.bits))))) w := by
  refine run_sV ?_
  simp [binOp, Op.shift, show ¬ b < 0 by omega]
theorem run_shr {P : Program} {w : World} {t : TypeId} {k k' : IntKind} {a b : Int} (hb : 0 ≤ b) : (sV (binOp .shr t (.int k a) (.int k' b))).run P w = .ok (.value (.int k (a.fdiv (2 ^ (min b.toNat k.bits))))) w := by
  refine run_sV ?_
  simp [binOp, Op.shift, show ¬ b < 0 by omega]

theorem add_add' (a : Addr) (i j : Nat) : (a.add i).add j = a.add (i + j) := by
  unfold Addr.add
  by_cases hi : i = 0 <;> by_cases hj : j = 0 <;> simp [hi, hj, Nat.add_assoc]
theorem add_block' (a : Addr) (n : Nat) : (a.add n).block = a.block := by unfold Addr.add; split <;> rfl

/-- The slice at A reads as these rows of sz cells each. -/
structure Rd (w : World) (sz : Nat) (A : Option Addr) (rows : List (Array Value)) : Prop where
  short : rows.length < 4611686018427387904
  row : ∀ i r, rows[i]? = some r → r.size = sz ∧ ∃ ad, A = some ad ∧ ad.block < w.heap.size ∧ ∀ (j : Nat) (v : Value), r[j]? = some v → w.cell? (ad.add (i * sz + j)) = some v

theorem Rd.below {w w' : World} {sz : Nat} {A : Option Addr} {rows : List (Array Value)} (h : Rd w sz A rows) (hb : Below w.heap.size w w') : Rd w' sz A rows :=
  ⟨h.short, fun i r hi => by
    obtain ⟨h1, ad, h2, h3, h4⟩ := h.row i r hi
    exact ⟨h1, ad, h2, Nat.lt_of_lt_of_le h3 hb.size, fun j v hv => (hb.cell (by rw [add_block']; exact h3)).trans (h4 j v hv)⟩⟩

theorem Rd.sat {w0 : World} {w : World} {M : Mem} {sz : Nat} {A : Option Addr} {rows : List (Array Value)} (h : Rd w0 sz A rows) (hM : Sat (cx w0) M w) : Rd w sz A rows := h.below hM.below

def noAddr : Addr := ⟨0, 0, none⟩
abbrev Ix (A : Option Addr) (n : Nat) : Addr := (A.getD noAddr).add n

theorem Rd.at_ {w : World} {sz : Nat} {A : Option Addr} {rows : List (Array Value)} (h : Rd w sz A rows) {i : Nat} {r : Array Value} (hi : rows[i]? = some r) :
    r.size = sz ∧ A = some (A.getD noAddr) ∧ (A.getD noAddr).block < w.heap.size ∧ ∀ (j : Nat) (v : Value), r[j]? = some v → w.cell? (((A.getD noAddr).add (i * sz)).add j) = some v := by
  obtain ⟨h1, ad, h2, h3, h4⟩ := h.row i r hi
  subst h2
  exact ⟨h1, rfl, h3, fun j v hv => by rw [add_add']; exact h4 j v hv⟩

/-- The element type's size, for an index. -/
def elemSize (P : Program) (t : TypeId) : Option Nat :=
  match P.underlying t with
  | some (.slice e) => (P.info? e).map (·.size)
  | _ => none

theorem run_index {P : Program} {w : World} {t sz cap : Nat} {A : Option Addr} {rows : List (Array Value)} {len : Nat} {k : IntKind} {i : Int} (hR : Rd w sz A rows) (hl : len = rows.length)
    (hs : elemSize P t = some sz) (h0 : 0 ≤ i) (h1 : i < len) :
    (sV (Instr.indexAt t (.slice A len cap) (.int k i))).run P w = .ok (.value (.pointer (some ((A.getD noAddr).add (i.toNat * sz))))) w := by
  refine run_sV ?_
  unfold elemSize at hs
  split at hs
  · rename_i e he
    have hlt : i.toNat < rows.length := by omega
    obtain ⟨_, h2, _⟩ := hR.at_ (List.getElem?_eq_getElem hlt)
    cases hinfo : P.info? e with
    | none => rw [hinfo] at hs; cases hs
    | some inf =>
      rw [hinfo] at hs
      simp only [Option.map_some, Option.some.injEq] at hs
      subst hs
      have hu := run_underlying (P := P) (w := w) he
      obtain ⟨ad, rfl⟩ : ∃ ad, A = some ad := ⟨_, h2⟩
      simp [Instr.indexAt, asIntOf, hu, sizeOf, typeInfo, hinfo, h0, h1]
  · cases hs

theorem extract_one (r : Array Value) (i : Nat) (h : i < r.size) : r.extract i (i + 1) = #[r[i]] := by
  rw [Array.extract_succ_right (by omega) h, Array.extract_eq_empty_of_le (by omega)]; rfl

theorem run_loadCellsFrom {P : Program} {w : World} (a : Addr) (r : Array Value) : ∀ (n i : Nat) (acc : Array Value), (∀ j v, i ≤ j → j < i + n → r[j]? = some v → w.cell? (a.add j) = some v) → i + n ≤ r.size →
    (loadCellsFrom a i n acc).run P w = .ok (acc ++ r.extract i (i + n)) w
  | 0, i, acc, _, _ => by rw [Array.extract_eq_empty_of_le (by omega)]; simp [loadCellsFrom]
  | n + 1, i, acc, h, hs => by
    have hi : i < r.size := by omega
    have h1 := h i r[i] (Nat.le_refl _) (by omega) (Array.getElem?_eq_getElem hi)
    have ih := run_loadCellsFrom (P := P) (w := w) a r n (i + 1) (acc.push r[i]) (fun j v h2 h3 h4 => h j v (by omega) (by omega) h4) (by omega)
    simp only [loadCellsFrom, Sem.run_bind]
    have hl : (load (a.add i)).run P w = .ok r[i] w := by simp [load, Sem.run, h1]
    rw [hl, Result.andThen_ok, ih]
    have e : r.extract i (i + (n + 1)) = #[r[i]] ++ r.extract (i + 1) (i + 1 + n) := by
      rw [← extract_one r i hi, Array.extract_append_extract]
      congr 1 <;> omega
    rw [e, ← Array.append_assoc, Array.push_eq_append]

/-- The size of a struct type. -/
def aggSize (P : Program) (t : TypeId) : Option Nat :=
  match P.underlying t with
  | some (.struct _) => (P.info? t).map (·.size)
  | _ => none
/-- A type of one cell that is no struct or array. -/
def isOne (P : Program) (t : TypeId) : Bool :=
  match P.underlying t with
  | some (.struct _) => false
  | some (.array _ _) => false
  | some _ => true
  | none => false

/-- A struct, or a part of one, out of an element. -/
theorem run_load_agg {P : Program} {w : World} {T sz n off i : Nat} {A : Option Addr} {rows : List (Array Value)} {r : Array Value} (v : Value) (hR : Rd w sz A rows) (hi : rows[i]? = some r)
    (hT : aggSize P T = some n) (hle : Nat.ble (off + n) sz = true) (hv : Value.agg (r.extract off (off + n)) = v) :
    (sV (Instr.loadAt T (.pointer (some (((A.getD noAddr).add (i * sz)).add off))))).run P w = .ok (.value v) w := by
  refine run_sV ?_
  obtain ⟨h1, _, _, h4⟩ := hR.at_ hi
  have hle' := Nat.le_of_ble_eq_true hle
  unfold aggSize at hT
  split at hT
  · rename_i fs hu
    cases hinfo : P.info? T with
    | none => rw [hinfo] at hT; cases hT
    | some inf =>
      rw [hinfo] at hT
      simp only [Option.map_some, Option.some.injEq] at hT
      subst hT
      have hu' := run_underlying (P := P) (w := w) hu
      have hl := run_loadCellsFrom (P := P) (w := w) (((A.getD noAddr).add (i * sz)).add off) (r.extract off (off + inf.size)) inf.size 0 #[] (fun j u _ hj hu => by
        rw [add_add']
        refine h4 _ _ ?_
        rw [Array.getElem?_extract] at hu
        split at hu
        · exact hu
        · cases hu) (by simp; omega)
      subst hv
      have hz : #[] ++ (r.extract off (off + inf.size)).extract 0 (0 + inf.size) = r.extract off (off + inf.size) := by
        rw [Array.empty_append, Nat.zero_add]
        refine Array.extract_eq_self_of_le ?_
        simp; omega
      rw [hz] at hl
      simp [Instr.loadAt, Instr.sureAddr, loadVar, isAgg, hu', sizeOf, typeInfo, hinfo, loadCells, hl]
  · cases hT

/-- One cell of an element. -/
theorem run_load_one {P : Program} {w : World} {T sz off i : Nat} {A : Option Addr} {rows : List (Array Value)} {r : Array Value} (v : Value) (hR : Rd w sz A rows) (hi : rows[i]? = some r)
    (hT : isOne P T = true) (hv : r[off]? = some v) :
    (sV (Instr.loadAt T (.pointer (some (((A.getD noAddr).add (i * sz)).add off))))).run P w = .ok (.value v) w := by
  refine run_sV ?_
  obtain ⟨h1, _, _, h4⟩ := hR.at_ hi
  have hc := h4 off v hv
  unfold isOne at hT
  cases hu : P.underlying T with
  | none => rw [hu] at hT; cases hT
  | some d =>
    rw [hu] at hT
    have hu' := run_underlying (P := P) (w := w) hu
    cases d <;> first | (cases hT; done) | (simp [Instr.loadAt, Instr.sureAddr, loadVar, isAgg, hu', hc])

theorem map_at {α : Type} {f : α → Array Value} {l : List α} {i : Nat} {x : α} (h : l[i]? = some x) : (l.map f)[i]? = some (f x) := by simp [h]
theorem getD_at {α : Type} (l : List α) (i : Nat) (z : α) (h : i < l.length) : l[i]? = some (l[i]?.getD z) := by simp [h]
theorem drop_at {α : Type} {l : List α} {k : Nat} {x : α} (h : l[k]? = some x) : l.drop k = x :: l.drop (k + 1) := by
  obtain ⟨hlt, rfl⟩ := List.getElem?_eq_some_iff.1 h
  exact List.drop_eq_getElem_cons hlt

/-- A cut of a slice: s[lo:hi]. -/
theorem Rd.cut {w : World} {sz cap : Nat} {A : Option Addr} {rows : List (Array Value)} (h : Rd w sz A rows) (lo hi : Nat) (hcap : rows.length ≤ cap) :
    Rd w sz (if cap = lo then A else A.map (·.add (lo * sz))) ((rows.take hi).drop lo) := by
  refine ⟨by have := h.short; simp; omega, fun i r hi' => ?_⟩
  rw [List.getElem?_drop, List.getElem?_take] at hi'
  split at hi'
  case isFalse => cases hi'
  rename_i hlt
  obtain ⟨h1, ad, h2, h3, h4⟩ := h.row _ r hi'
  have hl := (List.getElem?_eq_some_iff.1 hi').1
  rw [if_neg (by omega)]
  refine ⟨h1, ad.add (lo * sz), by rw [h2]; rfl, by rw [add_block']; exact h3, fun j v hv => ?_⟩
  rw [add_add', show lo * sz + (i * sz + j) = (lo + i) * sz + j by rw [Nat.add_mul]; omega]
  exact h4 j v hv

theorem run_slice {P : Program} {w : World} {t sz len cap : Nat} {A : Option Addr} {lo hi : Option Value} (l h : Nat) (hsz : elemSize P t = some sz)
    (hlo : lo = none ∧ l = 0 ∨ ∃ k i, lo = some (.int k i) ∧ 0 ≤ i ∧ i.toNat = l) (hhi : hi = none ∧ h = len ∨ ∃ k i, hi = some (.int k i) ∧ 0 ≤ i ∧ i.toNat = h) (h1 : l ≤ h) (h2 : h ≤ cap) :
    (sV (Instr.sliceAt t (.slice A len cap) lo hi none)).run P w = .ok (.value (.slice (if cap = l then A else A.map (fun a => a.add (l * sz))) (h - l) (cap - l))) w := by
  refine run_sV ?_
  unfold elemSize at hsz
  split at hsz
  case h_2 => cases hsz
  rename_i e ht
  cases hi' : P.info? e with
  | none => rw [hi'] at hsz; cases hsz
  | some inf =>
  rw [hi'] at hsz
  simp only [Option.map_some, Option.some.injEq] at hsz
  subst hsz
  have hu := run_underlying (P := P) (w := w) ht
  rcases hlo with ⟨rfl, rfl⟩ | ⟨k, i, rfl, hi0, rfl⟩ <;> rcases hhi with ⟨rfl, rfl⟩ | ⟨k', i', rfl, hi0', rfl⟩
  · simp [Instr.sliceAt, Instr.slice, Instr.sliceBounds, hu, sizeOf, typeInfo, hi']
  · have : i' ≤ cap := by omega
    simp [Instr.sliceAt, Instr.slice, Instr.sliceBounds, Instr.sliceBound, asIntOf, hu, sizeOf, typeInfo, hi', hi0', this]
  · have : i ≤ h := by omega
    simp [Instr.sliceAt, Instr.slice, Instr.sliceBounds, Instr.sliceBound, asIntOf, hu, sizeOf, typeInfo, hi', hi0, this]
  · have h3 : i' ≤ cap := by omega
    simp [Instr.sliceAt, Instr.slice, Instr.sliceBounds, Instr.sliceBound, asIntOf, hu, sizeOf, typeInfo, hi', hi0, hi0', h3]
    intro h5
    omega

theorem Rd.cutMap {α : Type} {f : α → Array Value} {w : World} {sz cap : Nat} {A : Option Addr} {l : List α} (h : Rd w sz A (l.map f)) (lo hi : Nat) (hcap : l.length ≤ cap) :
    Rd w sz (if cap = lo then A else A.map (fun a => a.add (lo * sz))) (((l.take hi).drop lo).map f) := by
  have := h.cut lo hi (cap := cap) (by simpa using hcap)
  rwa [← List.map_take, ← List.map_drop] at this
theorem Rd.dropMap {α : Type} {f : α → Array Value} {w : World} {sz cap : Nat} {A : Option Addr} {l : List α} (h : Rd w sz A (l.map f)) (lo : Nat) (hcap : l.length ≤ cap) :
    Rd w sz (if cap = lo then A else A.map (fun a => a.add (lo * sz))) ((l.drop lo).map f) := by
  have := h.cutMap lo l.length hcap
  rwa [List.take_length] at this

/-- A block of the call's own, read as a slice. -/
theorem Rd.own {w0 : Ctx} {w : World} {M : Mem} {b T sz : Nat} {c : Array Value} (h : Sat w0 M w) (hm : Sum.inl (b, Obj.cells c T (0, 0)) ∈ M) (rows : List (Array Value)) (hs : rows.length < 4611686018427387904)
    (hr : ∀ i r, rows[i]? = some r → r.size = sz ∧ ∀ j v, r[j]? = some v → c[i * sz + j]? = some v) : Rd w sz (some ⟨b, 0, none⟩) rows := by
  refine ⟨hs, fun i r hi => ?_⟩
  obtain ⟨h1, h2⟩ := hr i r hi
  refine ⟨h1, _, rfl, h.lt hm, fun j v hv => ?_⟩
  have h3 := h2 j v hv
  have h4 := h.block hm
  by_cases e : i * sz + j = 0
  · rw [e] at h3 ⊢
    simp [Addr.add, World.cell?, h4, h3]
  · simp only [Addr.add, e, if_false, World.cell?, h4, Nat.zero_add]
    simpa using h3

theorem flat_at {sz : Nat} : ∀ (rows : List (Array Value)), (∀ r ∈ rows, r.size = sz) → ∀ i r, rows[i]? = some r → ∀ (j : Nat) (v : Value), r[j]? = some v → (rows.map Array.toList).flatten[i * sz + j]? = some v
  | [], _, i, r, h, _, _, _ => by simp at h
  | r0 :: rows, hall, i, r, h, j, v, hv => by
    have hr0 : r0.size = sz := hall r0 (by simp)
    cases i with
    | zero =>
      simp only [List.getElem?_cons_zero, Option.some.injEq] at h
      subst h
      have hj : j < r0.size := (Array.getElem?_eq_some_iff.1 hv).1
      rw [List.map_cons, List.flatten_cons, List.getElem?_append_left (by simpa using hj), Nat.zero_mul, Nat.zero_add, Array.getElem?_toList]
      exact hv
    | succ i =>
      simp only [List.getElem?_cons_succ] at h
      have ih := flat_at rows (fun r hr => hall r (by simp [hr])) i r h j v hv
      rw [List.map_cons, List.flatten_cons, List.getElem?_append_right (by simp [hr0, Nat.add_mul]; omega), ← ih]
      congr 1
      simp [hr0, Nat.add_mul]; omega

/-- A block of the call's own that was laid as a literal. -/
theorem Rd.lit {w0 : Ctx} {w : World} {M : Mem} {b T sz : Nat} {c : Array Value} (h : Sat w0 M w) (j : Nat) (rows : List (Array Value)) (hm : M[j]? = some (.inl (b, Obj.cells c T (0, 0))))
    (hl : Nat.blt rows.length 4611686018427387904 = true) (hs : rows.all (fun r => Nat.beq r.size sz) = true) (hc : c.toList = (rows.map Array.toList).flatten) : Rd w sz (some ⟨b, 0, none⟩) rows := by
  have hall : ∀ r ∈ rows, r.size = sz := fun r hr => Nat.eq_of_beq_eq_true (List.all_eq_true.1 hs r hr)
  refine Rd.own h (List.mem_of_getElem? hm) rows (Nat.le_of_ble_eq_true hl) fun i r hi => ⟨hall r (List.mem_of_getElem? hi), fun j v hv => ?_⟩
  rw [← Array.getElem?_toList, hc]
  exact flat_at rows hall i r hi j v hv

theorem rows_one (r : Array Value) : [r][0]? = some r := rfl
theorem Rd.nil (w : World) (sz : Nat) : Rd w sz none [] := ⟨by simp, fun i r h => by simp at h⟩

/-! ### Cuts, rewriting a slot, numbers -/
def ic (x : Int) : Array Value := #[.int .i64 x]
def bc (b : Bool) : Array Value := #[.bool b]

section
variable {P : Program} {n : Nat} {w0 : Ctx} {ops : Array Oper} {Q : Exit → Act → World → Prop} {F F' : Slots} {M M' : Mem}

theorem Fr.rw {t : Nat} {v v' : Value} {a : Act} (h : Fr n F a) (ht : look t F = some v) (e : v = v') : Fr n ((t, v') :: F) a := by
  subst e
  refine h.sub fun s u hu => ?_
  by_cases e : t = s
  · subst e; rw [look_cons_self] at hu; rw [ht]; exact hu
  · rw [look_cons_ne _ _ e] at hu; exact hu
theorem TL.rw (t : Nat) (v v' : Value) {i : Nat} (ht : look t F = some v) (e : v = v') (h : TL P n w0 ops Q i ((t, v') :: F) M) : TL P n w0 ops Q i F M := fun a w hF hM => h a w (hF.rw ht e) hM
theorem TE.rw (t : Nat) (v v' : Value) {x : Exit} (ht : look t F = some v) (e : v = v') (h : TE n w0 Q x ((t, v') :: F) M) : TE n w0 Q x F M := fun a w hF hM => h a w (hF.rw ht e) hM

/-- The ways through c come to one form, which a letter s tells. -/
theorem TC.cut {S : Type} (Fz : S → Slots) (Mz : S → Mem) (J : S → Prop) {c : Code} (h : TC P n w0 (Exit.then (fun a w => ∃ s, J s ∧ Fr n (Fz s) a ∧ Sat w0 (Mz s) w) Q) c F M)
    (k : ∀ s, J s → TE n w0 Q .normal (Fz s) (Mz s)) : TC P n w0 Q c F M := by
  intro a w hF hM
  refine wp_mono (h a w hF hM) fun e a' w' hq => ?_
  cases e with
  | normal => obtain ⟨s, hJ, hF', hM'⟩ := hq; exact k s hJ a' w' hF' hM'
  | _ => exact hq
theorem TE.cut {S : Type} {Fz : S → Slots} {Mz : S → Mem} {J : S → Prop} (s : S) (hJ : J s) (hp : pick ((Fz s).map Prod.fst) F = some (Fz s)) (hs : (Mz s).Sublist M) :
    TE n w0 (Exit.then (fun a w => ∃ s, J s ∧ Fr n (Fz s) a ∧ Sat w0 (Mz s) w) Q) .normal F M :=
  fun _ _ hF hM => ⟨s, hJ, hF.sub (pick_look _ _ _ hp), hM.sub hs⟩
end

theorem w64_eq (x : Int) : w64 x = (x + 9223372036854775808) % 18446744073709551616 - 9223372036854775808 := IntKind.wrap_i64 x
theorem w64_id {x : Int} (h : -9223372036854775808 ≤ x ∧ x ≤ 9223372036854775807) : w64 x = x := IntWalk.i64_in x h
theorem w64_cast (k : Nat) (h : k < 4611686018427387904) : Value.int .i64 (w64 ((k : Int) + 1)) = .int .i64 ((k + 1 : Nat) : Int) := by
  rw [w64_id (by omega)]; rfl
theorem tm_in {a : Int} {n : Nat} (h : 0 ≤ a) (hn : 0 < n) : 0 ≤ a.tmod n ∧ a.tmod n < n ∧ (a.tmod n).toNat < n := by
  have h1 := Int.tmod_nonneg (n : Int) h
  have h2 := Int.tmod_lt_of_pos a (show (0 : Int) < n by omega)
  omega
/-- The ways in which a side condition of a walk is shown, tried in turn. -/
theorem sd {p : Prop} (h : p := by first | omega | (rw [List.length_set]; omega) | (rw [w64_id (by omega)]; omega) | (dsimp only; omega) | (rw [List.length_drop]; omega) | (simp only [w64_eq]; omega) | (simp only [List.length_take] at *; omega) | (simp <;> omega)) : p := h
theorem sdr {p : Prop} (h : p := by first | omega | (rw [List.length_set]; omega) | (rw [w64_id (by omega)]; omega) | (dsimp only; omega) | (rw [List.length_drop]; omega) | (simp only [w64_eq]; omega) | exact (tm_in (by (first | (rw [w64_id (by omega)]; omega) | (simp only [w64_eq]; omega))) (by omega)).1 | exact (tm_in (by (first | (rw [w64_id (by omega)]; omega) | (simp only [w64_eq]; omega))) (by omega)).2.1 | exact (tm_in (by (first | (rw [w64_id (by omega)]; omega) | (simp only [w64_eq]; omega))) (by omega)).2.2 | (simp only [List.length_take] at *; omega) | (simp <;> omega)) : p := h
theorem sg {p : Prop} (h : p := by first | omega | (simp only [w64_eq]; omega) | (simp <;> omega)) : p := h
theorem eS {α β : Type} (f : α → β) {a b : α} (h : b = a) : f a = f b := by rw [h]
theorem sa {p : Prop} (h : p := by first | omega | (simp <;> omega) | (simp at * <;> omega)) : p := h
theorem sl {p : Prop} (h : p := by first | omega | (simp <;> omega) | (simp at * <;> omega) | (simp only [w64_eq] at *; omega) | (simp only [List.length_append, List.length_cons, List.length_nil]; omega)) : p := h
theorem sz {p : Prop} (h : p := by first | omega | (simp; omega) | simp) : p := h
theorem ltN {k n : Nat} (h : decide ((k : Int) < (n : Int)) = true) : k < n := by have := of_decide_eq_true h; omega
theorem elN {α : Type} {l : List α} {k : Nat} (h : k < l.length) : ∃ x, l[k]? = some x := ⟨_, List.getElem?_eq_getElem h⟩
theorem dropN {α : Type} {l : List α} {k : Nat} (h : decide ((k : Int) < (l.length : Int)) = false) : l.drop k = [] := List.drop_eq_nil_of_le (by have := of_decide_eq_false h; omega)
theorem mN {k n : Nat} (h : k < n) : n - (k + 1) < n - k := by omega
/-- The entries that the bits of a number tell. -/
def bitsOf {α : Type} : Nat → List α → List α
  | _, [] => []
  | n, x :: l => bif Nat.beq (n % 2) 1 then x :: bitsOf (n / 2) l else bitsOf (n / 2) l
theorem bitsOf_sub {α : Type} : ∀ (n : Nat) (l : List α), (bitsOf n l).Sublist l
  | _, [] => .slnil
  | n, x :: l => by
    unfold bitsOf
    cases Nat.beq (n % 2) 1
    · exact (bitsOf_sub (n / 2) l).cons x
    · exact (bitsOf_sub (n / 2) l).cons_cons x
theorem sb {α : Type} {l' l : List α} (n : Nat) (h : bitsOf n l = l' := by kernel_rfl) : l'.Sublist l := by rw [← h]; exact bitsOf_sub n l
theorem rangeGet {α : Type} (l : List α) : (List.range l.length).filterMap (fun i => l[i]?) = l := by
  induction l with
  | nil => rfl
  | cons x l ih =>
    rw [List.length_cons, List.range_succ_eq_map, List.filterMap_cons]
    simp only [List.getElem?_cons_zero, List.filterMap_map]
    congr 1
/-- The entries in another order. -/
theorem px {α : Type} {l l' : List α} (ix : List Nat) (h : ix.filterMap (fun i => l[i]?) = l' := by kernel_rfl) (hp : ix.isPerm (List.range l.length) = true := by kernel_rfl) : l.Perm l' := by
  have := ((List.isPerm_iff.1 hp).symm).filterMap (fun i => l[i]?)
  rwa [rangeGet, h] at this
def bindv {α β : Type} (x : α) (f : α → β) : β := f x
theorem bindv_eq {α β : Type} {x p : α} {f : α → β} {r : β} (h : x = p) (hx : f p = r) : bindv x f = r := by subst h; exact hx

end Go.Eng
