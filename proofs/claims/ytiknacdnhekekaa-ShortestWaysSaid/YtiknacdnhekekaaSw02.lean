/- Lemmas toward the given statement (part 2 of 16): Slice Eq Eqb Row. Each theorem states its own conditions; nothing is assumed beyond them. -/
import Derived.Test.YtiknacdnhekekaaSw01
import Derived.Laws.StructEq
import Derived.Maps.AppendAt
import Derived.Laws.OwnMore
import Derived.Laws.CopyRow
section
namespace Go.Eng
def sV (s : Sem Value) : Sem Next := s.bind fun v => .pure (.value v)
theorem run_sV {P : Program} {s : Sem Value} {w : World} {v : Value} (h : s.run P w = .ok v w) : (sV s).run P w = .ok (.value v) w := by
  have : (sV s) = (do let v ← s; pure (Next.value v)) := rfl
  rw [this]
  simp only [Sem.run_bind, h, Result.andThen_ok, Sem.run_pure]
theorem run_shl {P : Program} {w : World} {t : TypeId} {k k' : IntKind} {a b : Int} (hb : 0 ≤ b) : (sV (binOp .shl t (.int k a) (.int k' b))).run P w = .ok (.value (.int k (k.wrap (a * 2 ^ (min b.toNat k.bits))))) w := by
  refine run_sV ?_
  simp [binOp, Op.shift, show ¬ b < 0 by omega]
theorem add_add' (a : Addr) (i j : Nat) : (a.add i).add j = a.add (i + j) := by
  unfold Addr.add
  by_cases hi : i = 0 <;> by_cases hj : j = 0 <;> simp [hi, hj, Nat.add_assoc]
theorem add_block' (a : Addr) (n : Nat) : (a.add n).block = a.block := by unfold Addr.add; split <;> rfl
structure Rd (w : World) (sz : Nat) (A : Option Addr) (rows : List (Array Value)) : Prop where
  short : rows.length < 4611686018427387904
  row : ∀ i r, rows[i]? = some r → r.size = sz ∧ ∃ ad, A = some ad ∧ ad.block < w.heap.size ∧ ∀ (j : Nat) (v : Value), r[j]? = some v → w.cell? (ad.add (i * sz + j)) = some v
theorem Rd.below {w w' : World} {sz : Nat} {A : Option Addr} {rows : List (Array Value)} (h : Rd w sz A rows) (hb : Below w.heap.size w w') : Rd w' sz A rows :=
  ⟨h.short, fun i r hi => by
    obtain ⟨h1, ad, h2, h3, h4⟩ := h.row i r hi
    exact ⟨h1, ad, h2, Nat.lt_of_lt_of_le h3 hb.size, fun j v hv => (hb.cell (by rw [add_block']; exact h3)).trans (h4 j v hv)⟩⟩
theorem Rd.sat {w0 : World} {w : World} {M : Mem} {sz : Nat} {A : Option Addr} {rows : List (Array Value)} (h : Rd w0 sz A rows) (hM : Sat (cx w0) M w) : Rd w sz A rows := h.below hM.below
def noAddr : Addr := ⟨0, 0, none⟩
abbrev Ix (A : Option Addr) (n : Nat) : Addr := (A.getD noAddr).add n
theorem Rd.at_ {w : World} {sz : Nat} {A : Option Addr} {rows : List (Array Value)} (h : Rd w sz A rows) {i : Nat} {r : Array Value} (hi : rows[i]? = some r) :
    r.size = sz ∧ A = some (A.getD noAddr) ∧ (A.getD noAddr).block < w.heap.size ∧ ∀ (j : Nat) (v : Value), r[j]? = some v → w.cell? (((A.getD noAddr).add (i * sz)).add j) = some v := by
  obtain ⟨h1, ad, h2, h3, h4⟩ := h.row i r hi
  subst h2
  exact ⟨h1, rfl, h3, fun j v hv => by rw [add_add']; exact h4 j v hv⟩
def elemSize (P : Program) (t : TypeId) : Option Nat :=
  match P.underlying t with
  | some (.slice e) => (P.info? e).map (·.size)
  | _ => none
theorem run_index {P : Program} {w : World} {t sz cap : Nat} {A : Option Addr} {rows : List (Array Value)} {len : Nat} {k : IntKind} {i : Int} (hR : Rd w sz A rows) (hl : len = rows.length)
    (hs : elemSize P t = some sz) (h0 : 0 ≤ i) (h1 : i < len) :
    (sV (Instr.indexAt t (.slice A len cap) (.int k i))).run P w = .ok (.value (.pointer (some ((A.getD noAddr).add (i.toNat * sz))))) w := by
  refine run_sV ?_
  unfold elemSize at hs
  split at hs
  · rename_i e he
    have hlt : i.toNat < rows.length := by omega
    obtain ⟨_, h2, _⟩ := hR.at_ (List.getElem?_eq_getElem hlt)
    cases hinfo : P.info? e with
    | none => rw [hinfo] at hs; cases hs
    | some inf =>
      rw [hinfo] at hs
      simp only [Option.map_some, Option.some.injEq] at hs
      subst hs
      have hu := run_underlying (P := P) (w := w) he
      obtain ⟨ad, rfl⟩ : ∃ ad, A = some ad := ⟨_, h2⟩
      simp [Instr.indexAt, asIntOf, hu, sizeOf, typeInfo, hinfo, h0, h1]
  · cases hs
theorem extract_one (r : Array Value) (i : Nat) (h : i < r.size) : r.extract i (i + 1) = #[r[i]] := by
  rw [Array.extract_succ_right (by omega) h, Array.extract_eq_empty_of_le (by omega)]; rfl
theorem run_loadCellsFrom {P : Program} {w : World} (a : Addr) (r : Array Value) : ∀ (n i : Nat) (acc : Array Value), (∀ j v, i ≤ j → j < i + n → r[j]? = some v → w.cell? (a.add j) = some v) → i + n ≤ r.size →
    (loadCellsFrom a i n acc).run P w = .ok (acc ++ r.extract i (i + n)) w
  | 0, i, acc, _, _ => by rw [Array.extract_eq_empty_of_le (by omega)]; simp [loadCellsFrom]
  | n + 1, i, acc, h, hs => by
    have hi : i < r.size := by omega
    have h1 := h i r[i] (Nat.le_refl _) (by omega) (Array.getElem?_eq_getElem hi)
    have ih := run_loadCellsFrom (P := P) (w := w) a r n (i + 1) (acc.push r[i]) (fun j v h2 h3 h4 => h j v (by omega) (by omega) h4) (by omega)
    simp only [loadCellsFrom, Sem.run_bind]
    have hl : (load (a.add i)).run P w = .ok r[i] w := by simp [load, Sem.run, h1]
    rw [hl, Result.andThen_ok, ih]
    have e : r.extract i (i + (n + 1)) = #[r[i]] ++ r.extract (i + 1) (i + 1 + n) := by
      rw [← extract_one r i hi, Array.extract_append_extract]
      congr 1 <;> omega
    rw [e, ← Array.append_assoc, Array.push_eq_append]
def aggSize (P : Program) (t : TypeId) : Option Nat :=
  match P.underlying t with
  | some (.struct _) => (P.info? t).map (·.size)
  | _ => none
def isOne (P : Program) (t : TypeId) : Bool :=
  match P.underlying t with
  | some (.struct _) => false
  | some (.array _ _) => false
  | some _ => true
  | none => false
theorem run_load_agg {P : Program} {w : World} {T sz n off i : Nat} {A : Option Addr} {rows : List (Array Value)} {r : Array Value} (v : Value) (hR : Rd w sz A rows) (hi : rows[i]? = some r)
    (hT : aggSize P T = some n) (hle : Nat.ble (off + n) sz = true) (hv : Value.agg (r.extract off (off + n)) = v) :
    (sV (Instr.loadAt T (.pointer (some (((A.getD noAddr).add (i * sz)).add off))))).run P w = .ok (.value v) w := by
  refine run_sV ?_
  obtain ⟨h1, _, _, h4⟩ := hR.at_ hi
  have hle' := Nat.le_of_ble_eq_true hle
  unfold aggSize at hT
  split at hT
  · rename_i fs hu
    cases hinfo : P.info? T with
    | none => rw [hinfo] at hT; cases hT
    | some inf =>
      rw [hinfo] at hT
      simp only [Option.map_some, Option.some.injEq] at hT
      subst hT
      have hu' := run_underlying (P := P) (w := w) hu
      have hl := run_loadCellsFrom (P := P) (w := w) (((A.getD noAddr).add (i * sz)).add off) (r.extract off (off + inf.size)) inf.size 0 #[] (fun j u _ hj hu => by
        rw [add_add']
        refine h4 _ _ ?_
        rw [Array.getElem?_extract] at hu
        split at hu
        · exact hu
        · cases hu) (by simp; omega)
      subst hv
      have hz : #[] ++ (r.extract off (off + inf.size)).extract 0 (0 + inf.size) = r.extract off (off + inf.size) := by
        rw [Array.empty_append, Nat.zero_add]
        refine Array.extract_eq_self_of_le ?_
        simp; omega
      rw [hz] at hl
      simp [Instr.loadAt, Instr.sureAddr, loadVar, isAgg, hu', sizeOf, typeInfo, hinfo, loadCells, hl]
  · cases hT
theorem run_load_one {P : Program} {w : World} {T sz off i : Nat} {A : Option Addr} {rows : List (Array Value)} {r : Array Value} (v : Value) (hR : Rd w sz A rows) (hi : rows[i]? = some r)
    (hT : isOne P T = true) (hv : r[off]? = some v) :
    (sV (Instr.loadAt T (.pointer (some (((A.getD noAddr).add (i * sz)).add off))))).run P w = .ok (.value v) w := by
  refine run_sV ?_
  obtain ⟨h1, _, _, h4⟩ := hR.at_ hi
  have hc := h4 off v hv
  unfold isOne at hT
  cases hu : P.underlying T with
  | none => rw [hu] at hT; cases hT
  | some d =>
    rw [hu] at hT
    have hu' := run_underlying (P := P) (w := w) hu
    cases d <;> first | (cases hT; done) | (simp [Instr.loadAt, Instr.sureAddr, loadVar, isAgg, hu', hc])
theorem map_at {α : Type} {f : α → Array Value} {l : List α} {i : Nat} {x : α} (h : l[i]? = some x) : (l.map f)[i]? = some (f x) := by simp [h]
theorem getD_at {α : Type} (l : List α) (i : Nat) (z : α) (h : i < l.length) : l[i]? = some (l[i]?.getD z) := by simp [h]
theorem drop_at {α : Type} {l : List α} {k : Nat} {x : α} (h : l[k]? = some x) : l.drop k = x :: l.drop (k + 1) := by
  obtain ⟨hlt, rfl⟩ := List.getElem?_eq_some_iff.1 h
  exact List.drop_eq_getElem_cons hlt
theorem Rd.cut {w : World} {sz cap : Nat} {A : Option Addr} {rows : List (Array Value)} (h : Rd w sz A rows) (lo hi : Nat) (hcap : rows.length ≤ cap) :
    Rd w sz (if cap = lo then A else A.map (·.add (lo * sz))) ((rows.take hi).drop lo) := by
  refine ⟨by have := h.short; simp; omega, fun i r hi' => ?_⟩
  rw [List.getElem?_drop, List.getElem?_take] at hi'
  split at hi'
  case isFalse => cases hi'
  rename_i hlt
  obtain ⟨h1, ad, h2, h3, h4⟩ := h.row _ r hi'
  have hl := (List.getElem?_eq_some_iff.1 hi').1
  rw [if_neg (by omega)]
  refine ⟨h1, ad.add (lo * sz), by rw [h2]; rfl, by rw [add_block']; exact h3, fun j v hv => ?_⟩
  rw [add_add', show lo * sz + (i * sz + j) = (lo + i) * sz + j by rw [Nat.add_mul]; omega]
  exact h4 j v hv
theorem run_slice {P : Program} {w : World} {t sz len cap : Nat} {A : Option Addr} {lo hi : Option Value} (l h : Nat) (hsz : elemSize P t = some sz)
    (hlo : lo = none ∧ l = 0 ∨ ∃ k i, lo = some (.int k i) ∧ 0 ≤ i ∧ i.toNat = l) (hhi : hi = none ∧ h = len ∨ ∃ k i, hi = some (.int k i) ∧ 0 ≤ i ∧ i.toNat = h) (h1 : l ≤ h) (h2 : h ≤ cap) :
    (sV (Instr.sliceAt t (.slice A len cap) lo hi none)).run P w = .ok (.value (.slice (if cap = l then A else A.map (fun a => a.add (l * sz))) (h - l) (cap - l))) w := by
  refine run_sV ?_
  unfold elemSize at hsz
  split at hsz
  case h_2 => cases hsz
  rename_i e ht
  cases hi' : P.info? e with
  | none => rw [hi'] at hsz; cases hsz
  | some inf =>
  rw [hi'] at hsz
  simp only [Option.map_some, Option.some.injEq] at hsz
  subst hsz
  have hu := run_underlying (P := P) (w := w) ht
  rcases hlo with ⟨rfl, rfl⟩ | ⟨k, i, rfl, hi0, rfl⟩ <;> rcases hhi with ⟨rfl, rfl⟩ | ⟨k', i', rfl, hi0', rfl⟩
  · simp [Instr.sliceAt, Instr.slice, Instr.sliceBounds, hu, sizeOf, typeInfo, hi']
  · have : i' ≤ cap := by omega
    simp [Instr.sliceAt, Instr.slice, Instr.sliceBounds, Instr.sliceBound, asIntOf, hu, sizeOf, typeInfo, hi', hi0', this]
  · have : i ≤ h := by omega
    simp [Instr.sliceAt, Instr.slice, Instr.sliceBounds, Instr.sliceBound, asIntOf, hu, sizeOf, typeInfo, hi', hi0, this]
  · have h3 : i' ≤ cap := by omega
    simp [Instr.sliceAt, Instr.slice, Instr.sliceBounds, Instr.sliceBound, asIntOf, hu, sizeOf, typeInfo, hi', hi0, hi0', h3]
    intro h5
    omega
theorem Rd.cutMap {α : Type} {f : α → Array Value} {w : World} {sz cap : Nat} {A : Option Addr} {l : List α} (h : Rd w sz A (l.map f)) (lo hi : Nat) (hcap : l.length ≤ cap) :
    Rd w sz (if cap = lo then A else A.map (fun a => a.add (lo * sz))) (((l.take hi).drop lo).map f) := by
  have := h.cut lo hi (cap := cap) (by simpa using hcap)
  rwa [← List.map_take, ← List.map_drop] at this
theorem Rd.dropMap {α : Type} {f : α → Array Value} {w : World} {sz cap : Nat} {A : Option Addr} {l : List α} (h : Rd w sz A (l.map f)) (lo : Nat) (hcap : l.length ≤ cap) :
    Rd w sz (if cap = lo then A else A.map (fun a => a.add (lo * sz))) ((l.drop lo).map f) := by
  have := h.cutMap lo l.length hcap
  rwa [List.take_length] at this
theorem Rd.own {w0 : Ctx} {w : World} {M : Mem} {b T sz : Nat} {c : Array Value} (h : Sat w0 M w) (hm : Sum.inl (b, Obj.cells c T (0, 0)) ∈ M) (rows : List (Array Value)) (hs : rows.length < 4611686018427387904)
    (hr : ∀ i r, rows[i]? = some r → r.size = sz ∧ ∀ j v, r[j]? = some v → c[i * sz + j]? = some v) : Rd w sz (some ⟨b, 0, none⟩) rows := by
  refine ⟨hs, fun i r hi => ?_⟩
  obtain ⟨h1, h2⟩ := hr i r hi
  refine ⟨h1, _, rfl, h.lt hm, fun j v hv => ?_⟩
  have h3 := h2 j v hv
  have h4 := h.block hm
  by_cases e : i * sz + j = 0
  · rw [e] at h3 ⊢
    simp [Addr.add, World.cell?, h4, h3]
  · simp only [Addr.add, e, if_false, World.cell?, h4, Nat.zero_add]
    simpa using h3
theorem flat_at {sz : Nat} : ∀ (rows : List (Array Value)), (∀ r ∈ rows, r.size = sz) → ∀ i r, rows[i]? = some r → ∀ (j : Nat) (v : Value), r[j]? = some v → (rows.map Array.toList).flatten[i * sz + j]? = some v
  | [], _, i, r, h, _, _, _ => by simp at h
  | r0 :: rows, hall, i, r, h, j, v, hv => by
    have hr0 : r0.size = sz := hall r0 (by simp)
    cases i with
    | zero =>
      simp only [List.getElem?_cons_zero, Option.some.injEq] at h
      subst h
      have hj : j < r0.size := (Array.getElem?_eq_some_iff.1 hv).1
      rw [List.map_cons, List.flatten_cons, List.getElem?_append_left (by simpa using hj), Nat.zero_mul, Nat.zero_add, Array.getElem?_toList]
      exact hv
    | succ i =>
      simp only [List.getElem?_cons_succ] at h
      have ih := flat_at rows (fun r hr => hall r (by simp [hr])) i r h j v hv
      rw [List.map_cons, List.flatten_cons, List.getElem?_append_right (by simp [hr0, Nat.add_mul]; omega), ← ih]
      congr 1
      simp [hr0, Nat.add_mul]; omega
theorem Rd.lit {w0 : Ctx} {w : World} {M : Mem} {b T sz : Nat} {c : Array Value} (h : Sat w0 M w) (j : Nat) (rows : List (Array Value)) (hm : M[j]? = some (.inl (b, Obj.cells c T (0, 0))))
    (hl : Nat.blt rows.length 4611686018427387904 = true) (hs : rows.all (fun r => Nat.beq r.size sz) = true) (hc : c.toList = (rows.map Array.toList).flatten) : Rd w sz (some ⟨b, 0, none⟩) rows := by
  have hall : ∀ r ∈ rows, r.size = sz := fun r hr => Nat.eq_of_beq_eq_true (List.all_eq_true.1 hs r hr)
  refine Rd.own h (List.mem_of_getElem? hm) rows (Nat.le_of_ble_eq_true hl) fun i r hi => ⟨hall r (List.mem_of_getElem? hi), fun j v hv => ?_⟩
  rw [← Array.getElem?_toList, hc]
  exact flat_at rows hall i r hi j v hv
theorem rows_one (r : Array Value) : [r][0]? = some r := rfl
theorem Rd.nil (w : World) (sz : Nat) : Rd w sz none [] := ⟨by simp, fun i r h => by simp at h⟩
def ic (x : Int) : Array Value := #[.int .i64 x]
def bc (b : Bool) : Array Value := #[.bool b]
section
variable {P : Program} {n : Nat} {w0 : Ctx} {ops : Array Oper} {Q : Exit → Act → World → Prop} {F F' : Slots} {M M' : Mem}
theorem Fr.rw {t : Nat} {v v' : Value} {a : Act} (h : Fr n F a) (ht : look t F = some v) (e : v = v') : Fr n ((t, v') :: F) a := by
  subst e
  refine h.sub fun s u hu => ?_
  by_cases e : t = s
  · subst e; rw [look_cons_self] at hu; rw [ht]; exact hu
  · rw [look_cons_ne _ _ e] at hu; exact hu
theorem TL.rw (t : Nat) (v v' : Value) {i : Nat} (ht : look t F = some v) (e : v = v') (h : TL P n w0 ops Q i ((t, v') :: F) M) : TL P n w0 ops Q i F M := fun a w hF hM => h a w (hF.rw ht e) hM
theorem TE.rw (t : Nat) (v v' : Value) {x : Exit} (ht : look t F = some v) (e : v = v') (h : TE n w0 Q x ((t, v') :: F) M) : TE n w0 Q x F M := fun a w hF hM => h a w (hF.rw ht e) hM
theorem TC.cut {S : Type} (Fz : S → Slots) (Mz : S → Mem) (J : S → Prop) {c : Code} (h : TC P n w0 (Exit.then (fun a w => ∃ s, J s ∧ Fr n (Fz s) a ∧ Sat w0 (Mz s) w) Q) c F M)
    (k : ∀ s, J s → TE n w0 Q .normal (Fz s) (Mz s)) : TC P n w0 Q c F M := by
  intro a w hF hM
  refine wp_mono (h a w hF hM) fun e a' w' hq => ?_
  cases e with
  | normal => obtain ⟨s, hJ, hF', hM'⟩ := hq; exact k s hJ a' w' hF' hM'
  | _ => exact hq
theorem TE.cut {S : Type} {Fz : S → Slots} {Mz : S → Mem} {J : S → Prop} (s : S) (hJ : J s) (hp : pick ((Fz s).map Prod.fst) F = some (Fz s)) (hs : (Mz s).Sublist M) :
    TE n w0 (Exit.then (fun a w => ∃ s, J s ∧ Fr n (Fz s) a ∧ Sat w0 (Mz s) w) Q) .normal F M :=
  fun _ _ hF hM => ⟨s, hJ, hF.sub (pick_look _ _ _ hp), hM.sub hs⟩
end
theorem w64_eq (x : Int) : w64 x = (x + 9223372036854775808) % 18446744073709551616 - 9223372036854775808 := IntKind.wrap_i64 x
theorem w64_id {x : Int} (h : -9223372036854775808 ≤ x ∧ x ≤ 9223372036854775807) : w64 x = x := IntWalk.i64_in x h
theorem w64_cast (k : Nat) (h : k < 4611686018427387904) : Value.int .i64 (w64 ((k : Int) + 1)) = .int .i64 ((k + 1 : Nat) : Int) := by
  rw [w64_id (by omega)]; rfl
theorem sd {p : Prop} (h : p := by first | omega | (rw [List.length_set]; omega) | (rw [w64_id (by omega)]; omega) | (dsimp only; omega) | (rw [List.length_drop]; omega) | (simp only [w64_eq]; omega) | (simp only [List.length_take] at *; omega) | (simp <;> omega)) : p := h
theorem sg {p : Prop} (h : p := by first | omega | (simp only [w64_eq]; omega) | (simp <;> omega)) : p := h
theorem eS {α β : Type} (f : α → β) {a b : α} (h : b = a) : f a = f b := by rw [h]
theorem sa {p : Prop} (h : p := by first | omega | (simp <;> omega) | (simp at * <;> omega)) : p := h
theorem sl {p : Prop} (h : p := by first | omega | (simp <;> omega) | (simp at * <;> omega) | (simp only [w64_eq] at *; omega) | (simp only [List.length_append, List.length_cons, List.length_nil]; omega)) : p := h
theorem sz {p : Prop} (h : p := by first | omega | (simp; omega) | simp) : p := h
theorem ltN {k n : Nat} (h : decide ((k : Int) < (n : Int)) = true) : k < n := by have := of_decide_eq_true h; omega
theorem elN {α : Type} {l : List α} {k : Nat} (h : k < l.length) : ∃ x, l[k]? = some x := ⟨_, List.getElem?_eq_getElem h⟩
theorem dropN {α : Type} {l : List α} {k : Nat} (h : decide ((k : Int) < (l.length : Int)) = false) : l.drop k = [] := List.drop_eq_nil_of_le (by have := of_decide_eq_false h; omega)
theorem mN {k n : Nat} (h : k < n) : n - (k + 1) < n - k := by omega
def bitsOf {α : Type} : Nat → List α → List α
  | _, [] => []
  | n, x :: l => bif Nat.beq (n % 2) 1 then x :: bitsOf (n / 2) l else bitsOf (n / 2) l
theorem bitsOf_sub {α : Type} : ∀ (n : Nat) (l : List α), (bitsOf n l).Sublist l
  | _, [] => .slnil
  | n, x :: l => by
    unfold bitsOf
    cases Nat.beq (n % 2) 1
    · exact (bitsOf_sub (n / 2) l).cons x
    · exact (bitsOf_sub (n / 2) l).cons_cons x
theorem sb {α : Type} {l' l : List α} (n : Nat) (h : bitsOf n l = l' := by kernel_rfl) : l'.Sublist l := by rw [← h]; exact bitsOf_sub n l
theorem rangeGet {α : Type} (l : List α) : (List.range l.length).filterMap (fun i => l[i]?) = l := by
  induction l with
  | nil => rfl
  | cons x l ih =>
    rw [List.length_cons, List.range_succ_eq_map, List.filterMap_cons]
    simp only [List.getElem?_cons_zero, List.filterMap_map]
    congr 1
theorem px {α : Type} {l l' : List α} (ix : List Nat) (h : ix.filterMap (fun i => l[i]?) = l' := by kernel_rfl) (hp : ix.isPerm (List.range l.length) = true := by kernel_rfl) : l.Perm l' := by
  have := ((List.isPerm_iff.1 hp).symm).filterMap (fun i => l[i]?)
  rwa [rangeGet, h] at this
def bindv {α β : Type} (x : α) (f : α → β) : β := f x
theorem bindv_eq {α β : Type} {x p : α} {f : α → β} {r : β} (h : x = p) (hx : f p = r) : bindv x f = r := by subst h; exact hx
end Go.Eng
end
section
namespace Go.Eng
theorem dec_t {p : Prop} [Decidable p] (h : decide p = true) : p := of_decide_eq_true h
theorem dec_f {p : Prop} [Decidable p] (h : decide p = false) : ¬ p := of_decide_eq_false h
theorem beq_t {a b : Int} (h : (a == b) = true) : a = b := eq_of_beq h
theorem beq_f {a b : Int} (h : (a == b) = false) : ¬ a = b := fun e => by subst e; simp at h
theorem bne_t {a b : Int} (h : (a != b) = true) : ¬ a = b := fun e => by subst e; simp at h
theorem bne_f {a b : Int} (h : (a != b) = false) : a = b := by simpa using h
theorem not_t {b : Bool} (h : (!b) = true) : b = false := by simpa using h
theorem not_f {b : Bool} (h : (!b) = false) : b = true := by simpa using h
theorem or_f1 {a b : Bool} (h : (a || b) = false) : a = false := by simp at h; exact h.1
theorem or_f2 {a b : Bool} (h : (a || b) = false) : b = false := by simp at h; exact h.2
theorem or_t {a b : Bool} (h : (a || b) = true) : a = true ∨ b = true := by simpa using h
theorem and_t1 {a b : Bool} (h : (a && b) = true) : a = true := by simp at h; exact h.1
theorem and_t2 {a b : Bool} (h : (a && b) = true) : b = true := by simp at h; exact h.2
theorem and_f {a b : Bool} (h : (a && b) = false) : a = false ∨ b = false := by cases a <;> simp_all
def partV (P : Program) (t : TypeId) (cs : Array Value) (off : Nat) : Option Value :=
  match mr P [] 0 (part t cs off) with
  | some (v, []) => some v
  | _ => none
def eqIn (P : Program) : Nat → TypeId → Value → Value → Option Bool
  | 0, _, _, _ => none
  | d + 1, t, x, y =>
    match P.underlying t, x, y with
    | some .bool, .bool a, .bool b => some (a == b)
    | some (.int _), .int k a, .int k' b => if k = k' then some (a == b) else none
    | some (.struct fs), .agg xs, .agg ys =>
      if P.stoodInHeld t then none else
      fs.toList.foldr (fun f r => if f.name ≠ "_" then
          match partV P f.type xs f.offset, partV P f.type ys f.offset with
          | some a, some b => match eqIn P d f.type a b, r with
            | some p, some q => some (p && q)
            | _, _ => none
          | _, _ => none
        else r) (some true)
    | _, _, _ => none
theorem run_partV {P : Program} {t : TypeId} {cs : Array Value} {off : Nat} {v : Value} (h : partV P t cs off = some v) (w : World) : (part t cs off).run P w = .ok v w := by
  unfold partV at h
  split at h
  · rename_i u hm
    cases h
    exact mr_sound (Sat.start w) _ _ _ hm (by simp)
  · cases h
theorem run_eqIn {P : Program} : ∀ (d : Nat) (t : TypeId) (x y : Value) (b : Bool) (w : World), eqIn P d t x y = some b → (Op.equalIn d t x y).run P w = .ok b w
  | 0, _, _, _, _, _, h => by cases h
  | d + 1, t, x, y, b, w, h => by
    unfold eqIn at h
    split at h
    · rename_i u a c hu
      cases h
      exact run_equalIn_bool' w d t a c hu
    · rename_i u k a k' c hu
      split at h
      · rename_i hk
        subst hk
        cases h
        exact run_equalIn_int w d t k _ a c hu
      · cases h
    · rename_i u fs xs ys hu
      split at h
      · cases h
      · rename_i hs
        have hf : P.fieldsOf t = fs := by unfold Program.fieldsOf; rw [hu]
        rw [run_equalIn_agg w d t xs ys (by rw [hf]; exact hu) (by simpa using hs), hf]
        generalize fs.toList = l at h
        clear hf hu
        induction l generalizing b with
        | nil => cases h; rfl
        | cons f l ih =>
          simp only [List.foldr_cons] at h
          unfold Op.eqFields
          by_cases hn : f.name ≠ "_"
          · rw [if_pos hn] at h ⊢
            split at h
            · rename_i a c ha hc
              split at h
              · rename_i p q hp hq
                cases h
                simp only [Sem.run_bind, run_partV ha w, run_partV hc w, Result.andThen_ok, run_eqIn d f.type a c p w hp]
                cases p
                · rfl
                · exact ih q hq
              · cases h
            · cases h
          · rw [if_neg hn] at h ⊢
            exact ih b h
    · cases h
theorem run_eql {P : Program} {t : TypeId} {xs ys : Array Value} {b : Bool} {x y : Operand} (hm : P.eqGuardType P.depth t = false) (h : eqIn P 10000 t (.agg xs) (.agg ys) = some b) (w : World) :
    (sV (do eqGuard .eql t x y (.agg xs) (.agg ys); binOp .eql t (.agg xs) (.agg ys))).run P w = .ok (.value (.bool b)) w :=
  run_sV (by rw [Sem.run_bind, run_eqGuard_agg w .eql t x y xs ys hm]; show (binOp .eql t (.agg xs) (.agg ys)).run P w = _; rw [run_eql_struct, run_eqIn _ _ _ _ _ w h]; rfl)
theorem w64_pred (n : Nat) (h : 1 ≤ n ∧ n < 4611686018427387904) {k : IntKind} : Value.int k (w64 ((n : Int) - 1)) = .int k ((n - 1 : Nat) : Int) := by
  rw [w64_id (by omega)]
  congr 1
  omega
theorem imin_l (x y : Int) : imin x y ≤ x := by unfold imin; split <;> omega
theorem imin_r (x y : Int) : imin x y ≤ y := by unfold imin; split <;> omega
theorem imin_or (x y : Int) : imin x y = x ∨ imin x y = y := by unfold imin; split <;> simp
theorem int_eq {k : IntKind} {x y : Int} (h : x = y) : Value.int k x = .int k y := by rw [h]
section
variable {P : Program} {n : Nat} {w0 : Ctx} {Q : Exit → Act → World → Prop} {F : Slots} {M : Mem}
theorem TQ.rw {ops : Array Oper} {Qa : Act → Prop} {N i : Nat} (t : Nat) (v v' : Value) (ht : look t F = some v) (e : v = v') (h : TQ P n w0 ops Qa N i ((t, v') :: F) M) : TQ P n w0 ops Qa N i F M := fun a hF => h a (hF.rw ht e)
theorem TG.rw {ops : Array Oper} {Qa : Act → Prop} {k i : Nat} {Mr M' : Mem} (t : Nat) (v v' : Value) (ht : look t F = some v) (e : v = v') (h : TG P n w0 ops Qa k Mr M M' i ((t, v') :: F)) : TG P n w0 ops Qa k Mr M M' i F := fun s1 s2 a hF => h s1 s2 a (hF.rw ht e)
theorem TC.rw (t : Nat) (v v' : Value) {c : Code} (ht : look t F = some v) (e : v = v') (h : TC P n w0 Q c ((t, v') :: F) M) : TC P n w0 Q c F M := fun a w hF hM => h a w (hF.rw ht e) hM
end
end Go.Eng
end
section
namespace Go.Sky
open Go.Eng
def P.eqb (a b : P) : Bool := ((a.X == b.X) && ((a.Y == b.Y) && true))
def Plot.eqb (a b : Plot) : Bool := ((a.Radar == b.Radar) && ((a.Time == b.Time) && ((a.Range == b.Range) && ((a.Azimuth == b.Azimuth) && ((a.Height == b.Height) && ((a.Code == b.Code) && true))))))
def BiasOffset.eqb (a b : BiasOffset) : Bool := ((a.Range == b.Range) && ((a.Azimuth == b.Azimuth) && ((a.Time == b.Time) && true)))
def RadarSite.eqb (a b : RadarSite) : Bool := ((a.ID == b.ID) && (P.eqb a.At b.At && ((a.Reach == b.Reach) && ((a.RangeError == b.RangeError) && ((a.AzimuthError == b.AzimuthError) && true)))))
def Track.eqb (a b : Track) : Bool := ((a.ID == b.ID) && ((a.State == b.State) && ((a.Time == b.Time) && (P.eqb a.At b.At && (P.eqb a.Speed b.Speed && ((a.Height == b.Height) && ((a.Rate == b.Rate) && ((a.Radius == b.Radius) && ((a.Code == b.Code) && ((a.Hits == b.Hits) && ((a.Misses == b.Misses) && true)))))))))))
def Spot.eqb (a b : Spot) : Bool := ((a.Time == b.Time) && (P.eqb a.At b.At && ((a.Height == b.Height) && ((a.Code == b.Code) && ((a.Error == b.Error) && true)))))
def FilterTrack.eqb (a b : FilterTrack) : Bool := (Track.eqb a.Track b.Track && ((a.Slack == b.Slack) && (Spot.eqb a.Last b.Last && true)))
def BeginState.eqb (a b : BeginState) : Bool := ((a.Hits == b.Hits) && ((a.Scans == b.Scans) && true))
def ClimbReport.eqb (a b : ClimbReport) : Bool := ((a.Time == b.Time) && ((a.Level == b.Level) && true))
def Sep.eqb (a b : Sep) : Bool := ((a.Lateral == b.Lateral) && ((a.Vertical == b.Vertical) && true))
def AlertPair.eqb (a b : AlertPair) : Bool := ((a.A == b.A) && ((a.B == b.B) && ((a.Seconds == b.Seconds) && true)))
def Span.eqb (a b : Span) : Bool := ((a.From == b.From) && ((a.To == b.To) && true))
def Node.eqb (a b : Node) : Bool := ((a.Time == b.Time) && (P.eqb a.At b.At && ((a.Height == b.Height) && true)))
def TubeNode.eqb (a b : TubeNode) : Bool := (Node.eqb a.Node b.Node && ((a.Radius == b.Radius) && ((a.Band == b.Band) && true)))
def TrackerRules.eqb (a b : TrackerRules) : Bool := ((a.Need == b.Need) && ((a.Of == b.Of) && ((a.Misses == b.Misses) && ((a.Accel == b.Accel) && ((a.Place == b.Place) && ((a.Speed == b.Speed) && true))))))
def followed.eqb (a b : followed) : Bool := (FilterTrack.eqb a.f b.f && (BeginState.eqb a.history b.history && ((a.hit == b.hit) && true)))
end Go.Sky
end
section
namespace Go.Eng
def flat (rows : List (Array Value)) : List Value := (rows.map Array.toList).flatten
theorem flat_append (r s : List (Array Value)) : flat (r ++ s) = flat r ++ flat s := by simp [flat]
theorem flat_cons (r : Array Value) (s : List (Array Value)) : flat (r :: s) = r.toList ++ flat s := by simp [flat]
theorem flat_length {sz : Nat} : ∀ (rows : List (Array Value)), (∀ r ∈ rows, r.size = sz) → (flat rows).length = rows.length * sz
  | [], _ => by simp [flat]
  | r :: rows, h => by
    rw [flat_cons, List.length_append, flat_length rows (fun r hr => h r (by simp [hr])), Array.length_toList, h r (by simp), List.length_cons, Nat.add_mul]; omega
theorem flat_take {sz : Nat} : ∀ (rows : List (Array Value)) (n : Nat), (∀ r ∈ rows, r.size = sz) → (flat rows).take (n * sz) = flat (rows.take n)
  | [], n, _ => by simp [flat]
  | r :: rows, 0, _ => by simp [flat]
  | r :: rows, n + 1, h => by
    have hr : r.toList.length = sz := by rw [Array.length_toList]; exact h r (by simp)
    rw [flat_cons, List.take_succ_cons, flat_cons, List.take_append, ← flat_take rows n (fun r hr => h r (by simp [hr])), hr, List.take_of_length_le (by rw [hr, Nat.add_mul]; omega)]
    congr 2
    rw [Nat.add_mul]; omega
structure OwnR (A : Option Addr) (cap : Nat) (e : TypeId) (sz : Nat) (rows : List (Array Value)) (w : World) (g : Nat) (cur : Array Value) : Prop where
  at_ : A = some ⟨g, 0, none⟩
  pos : 0 < cap
  heap : w.heap[g]? = some (.cells cur e (0, 0))
  le : rows.length ≤ cap
  max : cap ≤ maxLen
  size : cur.size = cap * sz
  holds : cur.toList.take (rows.length * sz) = flat rows
  each : ∀ r ∈ rows, r.size = sz
  short : rows.length < 4611686018427387904
def OwnH (A : Option Addr) (cap : Nat) (e : TypeId) (sz : Nat) (rows : List (Array Value)) (w : World) : Prop := (cap = 0 ∧ rows = []) ∨ ∃ g cur, OwnR A cap e sz rows w g cur
theorem OwnH.nil (A : Option Addr) (e : TypeId) (sz : Nat) (w : World) : OwnH A 0 e sz [] w := .inl ⟨rfl, rfl⟩
def Own (A : Option Addr) (cap : Nat) (e : TypeId) (sz : Nat) (rows : List (Array Value)) : Res where
  foot b := 0 < cap ∧ ∃ a, A = some a ∧ a.block = b
  holds := OwnH A cap e sz rows
  lt w h b hb := by
    obtain ⟨hp, a, rfl, rfl⟩ := hb
    rcases h with ⟨h1, _⟩ | ⟨g, cur, h⟩
    · omega
    · have h1 := h.at_
      simp only [Option.some.injEq] at h1; subst h1; exact heap_lt h.heap
  kept w w' h hk := by
    rcases h with h | ⟨g, cur, h⟩
    · exact .inl h
    · exact .inr ⟨g, cur, { h with heap := (hk g ⟨h.pos, _, h.at_, rfl⟩).trans h.heap }⟩
abbrev Ow (A : Option Addr) (cap : Nat) (e : TypeId) (sz : Nat) (rows : List (Array Value)) : Ent := .inr (Own A cap e sz rows)
theorem OwnH.each {w : World} {A : Option Addr} {cap : Nat} {e : TypeId} {sz : Nat} {rows : List (Array Value)} (h : OwnH A cap e sz rows w) : ∀ r ∈ rows, r.size = sz := by
  rcases h with ⟨_, rfl⟩ | ⟨g, cur, h⟩
  · simp
  · exact h.each
theorem OwnH.short {w : World} {A : Option Addr} {cap : Nat} {e : TypeId} {sz : Nat} {rows : List (Array Value)} (h : OwnH A cap e sz rows w) : rows.length < 4611686018427387904 := by
  rcases h with ⟨_, rfl⟩ | ⟨g, cur, h⟩
  · simp
  · exact h.short
theorem OwnH.le {w : World} {A : Option Addr} {cap : Nat} {e : TypeId} {sz : Nat} {rows : List (Array Value)} (h : OwnH A cap e sz rows w) : rows.length ≤ cap := by
  rcases h with ⟨_, rfl⟩ | ⟨g, cur, h⟩
  · simp
  · exact h.le
theorem add_zero_addr (g j : Nat) : (⟨g, 0, none⟩ : Addr).add j = ⟨g, j, none⟩ := by unfold Addr.add; split <;> simp_all
theorem OwnR.cell {w : World} {A : Option Addr} {cap : Nat} {e : TypeId} {sz : Nat} {rows : List (Array Value)} {g : Nat} {cur : Array Value} (h : OwnR A cap e sz rows w g cur) {j : Nat} {v : Value} (hf : (flat rows)[j]? = some v) : w.cell? ⟨g, j, none⟩ = some v := by
  rw [← h.holds, List.getElem?_take] at hf
  rw [cell_of_row w g _ cur e (0, 0) h.heap]
  split at hf
  · simpa using hf
  · cases hf
theorem OwnH.rd {w : World} {A : Option Addr} {cap : Nat} {e : TypeId} {sz : Nat} {rows : List (Array Value)} (h : OwnH A cap e sz rows w) : Rd w sz A rows := by
  refine ⟨h.short, fun i r hi => ?_⟩
  rcases h with ⟨_, rfl⟩ | ⟨g, cur, h⟩
  · simp at hi
  · refine ⟨h.each r (List.mem_of_getElem? hi), _, h.at_, heap_lt h.heap, fun j v hv => ?_⟩
    rw [add_zero_addr]
    exact h.cell (flat_at rows h.each i r hi j v hv)
theorem Sat.res {w0 : Ctx} {w : World} {M : Mem} (h : Sat w0 M w) {j : Nat} {r : Res} (hj : M[j]? = some (.inr r)) : r.holds w := (h.own _ (List.mem_of_getElem? hj)).1
theorem Sat.own_at {w0 : Ctx} {w : World} {M : Mem} {A : Option Addr} {cap : Nat} {e : TypeId} {sz : Nat} {rows : List (Array Value)} (h : Sat w0 M w) (j : Nat) (hj : M[j]? = some (.inr (Own A cap e sz rows))) : OwnH A cap e sz rows w := h.res hj
theorem Sat.rd_at {w0 : Ctx} {w : World} {M : Mem} {A : Option Addr} {cap : Nat} {e : TypeId} {sz : Nat} {rows : List (Array Value)} (h : Sat w0 M w) (j : Nat) (hj : M[j]? = some (.inr (Own A cap e sz rows))) : Rd w sz A rows := (h.own_at j hj).rd
theorem Sat.emptyrow {w0 : Ctx} {w : World} {M : Mem} (A : Option Addr) (e : TypeId) (sz : Nat) (h : Sat w0 M w) : Sat w0 (.inr (Own A 0 e sz []) :: M) w :=
  h.push (Below.refl _ _) _ (OwnH.nil A e sz w) (fun b hb => absurd hb.1 (by omega))
theorem Sat.le_at {α : Type} {c : α → Array Value} {l : List α} {w0 : Ctx} {w : World} {M : Mem} {A : Option Addr} {cap : Nat} {e : TypeId} {sz : Nat} (h : Sat w0 M w) (j : Nat) (hj : M[j]? = some (.inr (Own A cap e sz (l.map c)))) : l.length ≤ cap := by
  have := (h.own_at j hj).le
  rwa [List.length_map] at this
theorem Sat.short_at {α : Type} {c : α → Array Value} {l : List α} {w0 : Ctx} {w : World} {M : Mem} {A : Option Addr} {cap : Nat} {e : TypeId} {sz : Nat} (h : Sat w0 M w) (j : Nat) (hj : M[j]? = some (.inr (Own A cap e sz (l.map c)))) : l.length < 4611686018427387904 := by
  have := (h.own_at j hj).short
  rwa [List.length_map] at this
theorem nil_of_none {α : Type} {c : α → Array Value} {w : World} {sz : Nat} {l : List α} (h : Rd w sz none (l.map c)) : l = [] := by
  cases l with
  | nil => rfl
  | cons x l => obtain ⟨_, ad, h2, _⟩ := h.row 0 (c x) rfl; cases h2
theorem Sat.litrow {w0 : Ctx} {w : World} {M : Mem} {b e sz : Nat} {c : Array Value} (h : Sat w0 M w) (j : Nat) (rows : List (Array Value)) (hj : M[j]? = some (.inl (b, .cells c e (0, 0)))) (hl : Nat.blt rows.length 4611686018427387904 = true)
    (hs : rows.all (fun r => Nat.beq r.size sz) = true) (hc : c.toList = flat rows) {n : Nat} (hn : Nat.beq n rows.length = true) : Sat w0 (M.set j (.inr (Own (some ⟨b, 0, none⟩) n e sz rows))) w := by
  have hn := Nat.eq_of_beq_eq_true hn
  subst hn
  have hall : ∀ r ∈ rows, r.size = sz := fun r hr => Nat.eq_of_beq_eq_true (List.all_eq_true.1 hs r hr)
  have hlt : rows.length < 4611686018427387904 := Nat.le_of_ble_eq_true hl
  have hb := h.block (List.mem_of_getElem? hj)
  have hlen := flat_length rows hall
  refine h.step hj (Chg.refl _ _) ?_ (fun b' hb' => ?_)
  · rcases Nat.eq_zero_or_pos rows.length with h0 | h0
    · exact .inl ⟨h0, List.eq_nil_of_length_eq_zero h0⟩
    · refine .inr ⟨b, c, rfl, h0, hb, Nat.le_refl _, by simp only [maxLen]; omega, ?_, ?_, hall, hlt⟩
      · rw [← Array.length_toList, hc, hlen]
      · rw [hc, ← hlen, List.take_length]
  · obtain ⟨_, a, h1, rfl⟩ := hb'
    simp only [Option.some.injEq] at h1
    subst h1
    exact .inl rfl
structure RowType (P : Program) (t e sz bytes : Nat) : Prop where
  under : P.underlying t = some (.slice e)
  info : ∃ i z, P.info? e = some i ∧ i.zero = some z ∧ i.size = sz ∧ i.bytes = bytes ∧ z.cells.size = sz
def rowType (P : Program) (t e sz bytes : Nat) : Bool :=
  match P.underlying t with
  | some (.slice e') => Nat.beq e' e && match P.info? e with
    | some i => match i.zero with
      | some z => Nat.beq i.size sz && Nat.beq i.bytes bytes && Nat.beq z.cells.size sz
      | none => false
    | none => false
  | _ => false
theorem rowType_spec {P : Program} {t e sz bytes : Nat} (h : rowType P t e sz bytes = true) : RowType P t e sz bytes := by
  unfold rowType at h
  split at h
  · rename_i e' ht
    simp only [Bool.and_eq_true] at h
    obtain ⟨h0, h⟩ := h
    have := Nat.eq_of_beq_eq_true h0
    subst this
    split at h
    · rename_i i hi
      split at h
      · rename_i z hz
        simp only [Bool.and_eq_true] at h
        exact ⟨ht, i, z, hi, hz, Nat.eq_of_beq_eq_true h.1.1, Nat.eq_of_beq_eq_true h.1.2, Nat.eq_of_beq_eq_true h.2⟩
      · cases h
    · cases h
  · cases h
def oneRows (rows : List (Array Value)) : Prop := ∀ r ∈ rows, ∀ u ∈ r.toList, u.oneCell' = true
theorem one_map {α : Type} {c : α → Array Value} (h : ∀ x, (c x).toList.all Value.oneCell' = true) (l : List α) : oneRows (l.map c) := by
  intro r hr u hu
  obtain ⟨x, _, rfl⟩ := List.mem_map.1 hr
  exact List.all_eq_true.1 (h x) u hu
theorem ic_one (x : Int) : (ic x).toList.all Value.oneCell' = true := rfl
theorem bc_one (x : Bool) : (bc x).toList.all Value.oneCell' = true := rfl
theorem Rd.flat {w : World} {sz : Nat} {b : Addr} {news : List (Array Value)} (hsz : 0 < sz) (hr : Rd w sz (some b) news) : ∀ (j : Nat) (u : Value), (flat news)[j]? = some u → w.cell? (b.add j) = some u := by
  have heach : ∀ r ∈ news, r.size = sz := fun r hm => by
    obtain ⟨k, hk⟩ := List.getElem?_of_mem hm
    exact (hr.row k r hk).1
  intro j u hj
  have hlen2 := flat_length news heach
  have hjl : j < news.length * sz := by rw [← hlen2]; exact (List.getElem?_eq_some_iff.1 hj).1
  have hq : j / sz < news.length := Nat.div_lt_of_lt_mul (by rw [Nat.mul_comm]; exact hjl)
  have hget : news[j / sz]? = some news[j / sz] := List.getElem?_eq_getElem hq
  obtain ⟨hrs, ad, h3, _, h5⟩ := hr.row _ _ hget
  simp only [Option.some.injEq] at h3
  subst h3
  have hmod := Nat.mod_lt j hsz
  have hel : (news[j / sz]'hq)[j % sz]? = some ((news[j / sz]'hq)[j % sz]'(by rw [hrs]; exact hmod)) := Array.getElem?_eq_getElem _
  have hv := flat_at news heach (j / sz) _ hget (j % sz) _ hel
  have hj2 : j / sz * sz + j % sz = j := by rw [Nat.mul_comm]; exact Nat.div_add_mod j sz
  have hfe : (news.map Array.toList).flatten = Eng.flat news := rfl
  rw [hj2, hfe, hj] at hv
  have := h5 (j % sz) u (by rw [hel]; exact hv.symm)
  rwa [hj2] at this
theorem run_append {P : Program} {w : World} {t e sz bytes cap cap2 m : Nat} {A B : Option Addr} {rows news : List (Array Value)} (ty : TypeId) (hT : rowType P t e sz bytes = true) (hsz : Nat.blt 0 sz = true) (hb : Nat.blt 0 bytes = true)
    (hown : OwnH A cap e sz rows w) (hr : Rd w sz B news) (hm : m = news.length) (h1 : oneRows news) (hlen : (rows.length + news.length) * bytes ≤ 140737488355328) :
    ∃ A' cap' w', (Builtin.append_ #[t, t] ty #[.slice A rows.length cap, .slice B m cap2]).run P w = .ok (.slice A' (rows.length + news.length) cap') w' ∧ OwnH A' cap' e sz (rows ++ news) w' ∧
      Chg (Own A cap e sz rows).foot w w' ∧ ∀ b, (Own A' cap' e sz (rows ++ news)).foot b → (Own A cap e sz rows).foot b ∨ w.heap.size ≤ b := by
  obtain ⟨hu, i, z, hi, hz, hs1, hs2, hs3⟩ := rowType_spec hT
  subst hm
  have hb0 : 0 < bytes := Nat.le_of_ble_eq_true hb
  have hsz0 : 0 < sz := Nat.le_of_ble_eq_true hsz
  have hlt : rows.length + news.length ≤ 140737488355328 := Nat.le_trans (Nat.le_mul_of_pos_right _ hb0) hlen
  rcases Nat.eq_zero_or_pos news.length with h0 | h0
  · have hn : news = [] := List.eq_nil_of_length_eq_zero h0
    subst hn
    refine ⟨A, cap, w, ?_, by simpa using hown, Chg.refl _ _, fun b hb => .inl (by simpa using hb)⟩
    have hle := hown.le
    cases A <;> cases B <;> simp [Builtin.append_, run_underlying hu, sizeOf, typeInfo, hi, Builtin.lenOf, Builtin.firstCells, loadCells, loadCellsFrom, hle, storeCells]
  · have hB : ∃ b, B = some b := by
      have h2 : news[0]? = some news[0] := List.getElem?_eq_getElem h0
      obtain ⟨_, ad, h3, _⟩ := hr.row 0 _ h2
      exact ⟨ad, h3⟩
    obtain ⟨b, rfl⟩ := hB
    have heach : ∀ r ∈ news, r.size = sz := fun r hm => by
      obtain ⟨k, hk⟩ := List.getElem?_of_mem hm
      exact (hr.row k r hk).1
    have hnews := hr.flat hsz0
    have hfl : (flat news).length = news.length * i.size := by rw [flat_length news heach, hs1]
    have hone : ∀ u ∈ flat news, u.oneCell' = true := fun u hu => by
      obtain ⟨l, hl, hul⟩ := List.mem_flatten.1 hu
      obtain ⟨r, hr, rfl⟩ := List.mem_map.1 hl
      exact h1 r hr u hul
    have heach2 : ∀ r ∈ rows ++ news, r.size = sz := fun r hr => by
      rcases List.mem_append.1 hr with hr | hr
      · exact hown.each r hr
      · exact heach r hr
    have hsh : (rows ++ news).length < 4611686018427387904 := by rw [List.length_append]; omega
    have hlf : (flat rows ++ flat news).length = (rows.length + news.length) * sz := by rw [← flat_append, flat_length _ heach2, List.length_append]
    have hnc := growslice_fits (old := cap) (need := rows.length + news.length) (bytes := i.bytes)
    have h63 : ((rows.length + news.length : Nat) : Int) ≤ 9223372036854775807 := by omega
    have grown : ∀ (old : Nat) (w1 : World), w1 = w.drew.alloc (.cells ((flat rows).toArray ++ (flat news).toArray ++ Builtin.zeroCells z.cells (grownCap w (rows.length + news.length) old e - (rows.length + news.length))) e) →
        OwnH (some ⟨w.heap.size, 0, none⟩) (grownCap w (rows.length + news.length) old e) e sz (rows ++ news) w1 ∧ Chg (Own A cap e sz rows).foot w w1 ∧
        ∀ b, (Own (some ⟨w.heap.size, 0, none⟩) (grownCap w (rows.length + news.length) old e) e sz (rows ++ news)).foot b → (Own A cap e sz rows).foot b ∨ w.heap.size ≤ b := by
      intro old w1 hw1
      subst hw1
      have hge := grownCap_ge w (rows.length + news.length) old e
      have hcm := grownCap_le_maxLen w (rows.length + news.length) old e (by simp only [maxLen]; omega)
      refine ⟨.inr ⟨_, _, rfl, by omega, heap_alloc_new w.drew _, by rw [List.length_append]; exact hge, hcm, ?_, ?_, heach2, hsh⟩, Chg.of_below ?_, fun b hb => ?_⟩
      · simp only [Array.size_append, List.size_toArray, size_zeroCells, hs3]
        rw [← List.length_append, hlf, ← Nat.add_mul]
        congr 1
        omega
      · simp only [Array.toList_append, List.append_assoc]
        rw [← List.append_assoc, List.length_append, ← hlf, flat_append]
        exact List.take_left
      · exact ((Below.refl _ w).drew).alloc (Nat.le_refl _) _
      · obtain ⟨_, a, h2, rfl⟩ := hb
        simp only [Option.some.injEq] at h2
        subst h2
        exact .inr (Nat.le_refl _)
    rcases hown with ⟨rfl, rfl⟩ | ⟨g, cur, h⟩
    · simp only [List.length_nil, Nat.zero_add] at *
      cases A with
      | none =>
        have hr := run_append_nil (P := P) w t ty e i z hu hi hz b news.length cap2 (flat news) hfl hnews h0 h63 (by rw [hs2]; omega)
        obtain ⟨g1, g2, g3⟩ := grown 0 _ rfl
        exact ⟨_, _, _, by rw [hr]; simp [flat], g1, g2, g3⟩
      | some a =>
        have hr := run_append_grow (P := P) w t ty e i z hu hi hz a 0 0 [] (by simp) (by simp) b news.length cap2 (flat news) hfl hnews (by omega) (by simpa using h63) (by simpa using hnc h0 (by rw [hs2]; exact hlen))
        simp only [Nat.zero_add] at hr
        obtain ⟨g1, g2, g3⟩ := grown 0 _ rfl
        exact ⟨_, _, _, by rw [hr]; simp [flat], g1, g2, g3⟩
    · have hA := h.at_
      subst hA
      by_cases hroom : rows.length + news.length ≤ cap
      · have hfit : rows.length * i.size + (flat news).length ≤ cur.size := by rw [hfl, h.size, hs1, ← Nat.add_mul]; exact Nat.mul_le_mul_right _ hroom
        have hr := run_append_room (P := P) w t ty e i hu hi g rows.length cap cur h.heap b news.length cap2 (flat news) hfl hnews hone hroom hfit
        refine ⟨_, _, _, hr, .inr ⟨g, _, rfl, h.pos, setRow_heap w g cur _ e _ h.heap, by rw [List.length_append]; exact hroom, h.max, ?_, ?_, heach2, hsh⟩, ⟨rfl, rfl, rfl, by simp [World.setRow], fun k _ hk => setRow_other w g k _ (fun e => hk ⟨h.pos, _, rfl, e.symm⟩), Nat.le_refl _⟩, fun b hb => .inl hb⟩
        · have := h.size
          simp only [List.size_toArray, List.length_append, List.length_take, List.length_drop, Array.length_toList]
          omega
        · rw [hs1, h.holds, List.length_append, ← hlf, flat_append]
          exact List.take_left
      · have hr := run_append_grow (P := P) w t ty e i z hu hi hz ⟨g, 0, none⟩ rows.length cap (flat rows) (by rw [flat_length rows h.each, hs1]) (fun j u hu => by rw [add_zero_addr]; exact h.cell hu) b news.length cap2 (flat news) hfl hnews (by omega) h63
          (hnc (by omega) (by rw [hs2]; exact hlen))
        obtain ⟨g1, g2, g3⟩ := grown cap _ rfl
        exact ⟨_, _, _, hr, g1, g2, g3⟩
theorem run_sVw {P : Program} {s : Sem Value} {w w' : World} {v : Value} (h : s.run P w = .ok v w') : (sV s).run P w = .ok (.value v) w' := by
  have : (sV s) = (do let v ← s; pure (Next.value v)) := rfl
  rw [this]
  simp only [Sem.run_bind, h, Result.andThen_ok, Sem.run_pure]
theorem app_at {α : Type} {c : α → Array Value} {P : Program} {w0 : Ctx} {M : Mem} {t e sz bytes cap cap2 m : Nat} {A B : Option Addr} {l : List α} (ty : TypeId) (j : Nat) (news : List α) (hT : rowType P t e sz bytes = true) (hsz : Nat.blt 0 sz = true) (hb : Nat.blt 0 bytes = true)
    (h1 : ∀ x, (c x).toList.all Value.oneCell' = true) (hj : M[j]? = some (.inr (Own A cap e sz (l.map c)))) (hr : ∀ w, Sat w0 M w → Rd w sz B (news.map c)) (hm : m = news.length) (hlen : (l.length + news.length) * bytes ≤ 140737488355328) (w : World) (hM : Sat w0 M w) :
    ∃ (g : Option Addr × Nat) (w' : World), (sV (Builtin.append_ #[t, t] ty #[.slice A l.length cap, .slice B m cap2])).run P w = .ok (.value (.slice g.1 (l ++ news).length g.2)) w' ∧
      Sat w0 (M.set j (.inr (Own g.1 g.2 e sz ((l ++ news).map c)))) w' := by
  obtain ⟨A', cap', w', h2, h3, h4, h5⟩ := run_append (cap2 := cap2) (m := m) ty hT hsz hb (hM.own_at j hj) (hr w hM) (by rw [hm, List.length_map]) (one_map h1 news) (by rw [List.length_map, List.length_map]; exact hlen)
  rw [← List.map_append] at h3 h5
  rw [List.length_map, List.length_map] at h2
  exact ⟨(A', cap'), w', by rw [List.length_append]; exact run_sVw h2, hM.step hj h4 h3 h5⟩
theorem made_flat (z : Array Value) : ∀ n, (madeCells z (n * z.size)).toList = flat (List.replicate n z) := by
  intro n
  have hall : ∀ r ∈ List.replicate n z, r.size = z.size := fun r hr => by rw [List.eq_of_mem_replicate hr]
  apply List.ext_getElem?
  intro j
  by_cases hj : j < n * z.size
  · have h0 : 0 < z.size := by rcases Nat.eq_zero_or_pos z.size with h | h; (rw [h] at hj; omega); exact h
    have hq : j / z.size < n := Nat.div_lt_of_lt_mul (by rw [Nat.mul_comm]; exact hj)
    have hmod := Nat.mod_lt j h0
    have hv := flat_at (List.replicate n z) hall (j / z.size) z (by simp [hq]) (j % z.size) z[j % z.size] (Array.getElem?_eq_getElem hmod)
    have hj2 : j / z.size * z.size + j % z.size = j := by rw [Nat.mul_comm]; exact Nat.div_add_mod j z.size
    rw [hj2] at hv
    show _ = (List.map Array.toList (List.replicate n z)).flatten[j]?
    rw [hv]
    simp [madeCells, hj, hmod]
  · rw [List.getElem?_eq_none (by simp [madeCells]; omega), List.getElem?_eq_none (by rw [flat_length _ hall, List.length_replicate]; omega)]
theorem make_at {α : Type} {c : α → Array Value} {P : Program} {w0 : Ctx} {M : Mem} {t e sz bytes : Nat} (x : α) (kl kc : IntKind) (n : Nat) (hT : rowType P t e sz bytes = true) (hz : ((P.info? e).bind (·.zero)).map Value.cells = some (c x))
    (hlen : bytes * n ≤ 281474976710656) (h62 : n < 4611686018427387904) (w : World) (hM : Sat w0 M w) :
    ∃ (g : Option Addr × Nat) (w' : World), (sV (Instr.makeSlice t (.int kl (n : Int)) (.int kc (n : Int)))).run P w = .ok (.value (.slice g.1 (List.replicate n x).length g.2)) w' ∧ Sat w0 (.inr (Own g.1 g.2 e sz ((List.replicate n x).map c)) :: M) w' := by
  obtain ⟨hu, i, zv, hi, hzv, hs1, hs2, hs3⟩ := rowType_spec hT
  have hz' : zv.cells = c x := by simpa [hi, hzv] using hz
  obtain ⟨w', hr, hown, hg⟩ := run_make_full (P := P) w 0 t e i zv sz hu hi hzv hs1 kl kc n (by rw [hs2]; exact hlen) (by simp only [maxLen]; omega) (Nat.zero_le _)
  have hd : w.drawn ≤ w'.drawn := by
    have h63' : (n : Int) ≤ 9223372036854775807 := by omega
    have hb' : (i.bytes : Int) * (n : Int) ≤ 281474976710656 := by
      have h : ((i.bytes * n : Nat) : Int) ≤ 281474976710656 := by rw [hs2]; omega
      rwa [Int.natCast_mul] at h
    have h2 := run_make (P := P) w t e i zv hu hi hzv kl kc n n (by omega) (Int.le_refl _) hb' h63'
    simp only [Int.toNat_natCast] at h2
    rw [h2] at hr
    cases hr
    exact Nat.le_refl _
  have hall : ∀ r ∈ List.replicate n (c x), r.size = sz := fun r hr => by rw [List.eq_of_mem_replicate hr, ← hz', hs3]
  refine ⟨(some ⟨w.heap.size, 0, none⟩, n), w', by rw [List.length_replicate]; exact run_sVw hr, ?_⟩
  have hb : Below w.heap.size w w' := ⟨hg.os, hg.tape, hg.output, hg.size, fun k hk => hg.block k hk (by simp), hd⟩
  rw [List.map_replicate]
  refine hM.push hb _ ?_ (fun b hb => ?_)
  · rcases hown.2 with ⟨h0, _⟩ | ⟨g, cap, cur, h1, _, h3, h4, h5, h6, h7⟩
    · cases h0
    · simp only [Value.slice.injEq, Option.some.injEq, Addr.mk.injEq, and_true, true_and] at h1
      obtain ⟨rfl, rfl⟩ := h1
      rcases Nat.eq_zero_or_pos n with h0 | h0
      · subst h0; exact .inl ⟨rfl, rfl⟩
      · refine .inr ⟨w.heap.size, cur, rfl, h0, h3, by simp, h5, h6, ?_, hall, by simpa using h62⟩
        have := made_flat zv.cells n
        rw [hs3, hz'] at this
        rw [List.length_replicate, h7, ← hz']
        rw [hz']
        exact this
  · obtain ⟨_, a, h1, rfl⟩ := hb
    simp only [Option.some.injEq] at h1
    subst h1
    exact Nat.le_refl _
def upd (r : Array Value) (off : Nat) (cs : List Value) : Array Value := (r.toList.take off ++ cs ++ r.toList.drop (off + cs.length)).toArray
theorem upd_size {r : Array Value} {off : Nat} {cs : List Value} (h : off + cs.length ≤ r.size) : (upd r off cs).size = r.size := by
  simp [upd]; omega
theorem flat_set {sz : Nat} : ∀ (rows : List (Array Value)) (i : Nat) (r : Array Value) (off : Nat) (cs : List Value), (∀ r ∈ rows, r.size = sz) → rows[i]? = some r → off + cs.length ≤ sz →
    (flat rows).take (i * sz + off) ++ cs ++ (flat rows).drop (i * sz + off + cs.length) = flat (rows.set i (upd r off cs))
  | [], i, r, off, cs, _, hi, _ => by simp at hi
  | r0 :: rows, 0, r, off, cs, hall, hi, hle => by
    simp only [List.getElem?_cons_zero, Option.some.injEq] at hi
    subst hi
    have hr : r0.toList.length = sz := by rw [Array.length_toList]; exact hall r0 (by simp)
    rw [flat_cons, List.set_cons_zero, flat_cons, Nat.zero_mul, Nat.zero_add, List.take_append_of_le_length (by omega), List.drop_append_of_le_length (by omega)]
    simp [upd, List.append_assoc]
  | r0 :: rows, i + 1, r, off, cs, hall, hi, hle => by
    simp only [List.getElem?_cons_succ] at hi
    have hr : r0.toList.length = sz := by rw [Array.length_toList]; exact hall r0 (by simp)
    have ih := flat_set rows i r off cs (fun r hr => hall r (by simp [hr])) hi hle
    rw [flat_cons, List.set_cons_succ, flat_cons, ← ih]
    have e1 : (i + 1) * sz + off = r0.toList.length + (i * sz + off) := by rw [hr, Nat.add_mul]; omega
    rw [e1, Nat.add_assoc, List.take_length_add_append, List.drop_length_add_append]
    simp [List.append_assoc]
def sU (s : Sem Unit) : Sem Next := s.bind fun _ => .pure .skip
theorem run_sU {P : Program} {s : Sem Unit} {w w' : World} (h : s.run P w = .ok () w') : (sU s).run P w = .ok .skip w' := by
  have : (sU s) = (do s; pure Next.skip) := rfl
  rw [this]
  simp only [Sem.run_bind, h, Result.andThen_ok, Sem.run_pure]
theorem take_splice (L cs : List Value) (p N : Nat) (h : p + cs.length ≤ N) (hN : N ≤ L.length) : (L.take p ++ cs ++ L.drop (p + cs.length)).take N = (L.take N).take p ++ cs ++ (L.take N).drop (p + cs.length) := by
  have h1 : (L.take p ++ cs).length = p + cs.length := by rw [List.length_append, List.length_take]; omega
  rw [List.take_append, List.take_of_length_le (by omega), h1, List.take_take, Nat.min_eq_left (by omega), List.drop_take]
theorem run_store_own {P : Program} {w : World} {T n e sz cap off i : Nat} {A : Option Addr} {rows : List (Array Value)} {r : Array Value} (v : Value) (hown : OwnH A cap e sz rows w) (hi : rows[i]? = some r)
    (hT : ((P.info? T).map (·.size)) = some n) (hv : v.cells.size = n) (hle : Nat.ble (off + n) sz = true) (h1 : v.cells.toList.all Value.oneCell' = true) :
    ∃ w', (sU (Instr.storeAt T (.pointer (some (((A.getD noAddr).add (i * sz)).add off))) v)).run P w = .ok .skip w' ∧ OwnH A cap e sz (rows.set i (upd r off v.cells.toList)) w' ∧ Chg (Own A cap e sz rows).foot w w' := by
  have hle' := Nat.le_of_ble_eq_true hle
  have hil : i < rows.length := (List.getElem?_eq_some_iff.1 hi).1
  have hrs : r.size = sz := hown.each r (List.mem_of_getElem? hi)
  have hcl : v.cells.toList.length = n := by rw [Array.length_toList]; exact hv
  rcases hown with ⟨_, rfl⟩ | ⟨g, cur, ho⟩
  · simp at hi
  · have h2 := ho.heap
    have h3 := ho.le
    have h4 := ho.max
    have h5 := ho.size
    have h6 := ho.holds
    have hA := ho.at_
    subst hA
    have hadd : (((some (⟨g, 0, none⟩ : Addr)).getD noAddr).add (i * sz)).add off = ⟨g, i * sz + off, none⟩ := by rw [add_add']; exact add_zero_addr _ _
    have hfit : i * sz + off + n ≤ rows.length * sz := by
      have : (i + 1) * sz ≤ rows.length * sz := Nat.mul_le_mul_right _ hil
      rw [Nat.add_mul] at this; omega
    have hcur : rows.length * sz ≤ cur.size := by rw [h5]; exact Nat.mul_le_mul_right _ h3
    have hst := run_storeCells_at P g (i * sz + off) e v.cells.toList 0 cur w h2 (by omega) (fun u hu => List.all_eq_true.1 h1 u hu)
    rw [hadd]
    refine ⟨w.setRow g (List.take (i * sz + off + 0) cur.toList ++ v.cells.toList ++ List.drop (i * sz + off + 0 + v.cells.toList.length) cur.toList).toArray, run_sU ?_, ?_, ?_⟩
    · cases hinfo : P.info? T with
      | none => rw [hinfo] at hT; cases hT
      | some inf =>
        rw [hinfo] at hT
        simp only [Option.map_some, Option.some.injEq] at hT
        simp [Instr.storeAt, Instr.sureAddr, storeVar, sizeOf, typeInfo, hinfo, hT, hv, hst]
    · have hset : ∀ r' ∈ rows.set i (upd r off v.cells.toList), r'.size = sz := fun r' hr' => by
        rcases List.mem_or_eq_of_mem_set hr' with h | rfl
        · exact ho.each r' h
        · rw [upd_size (by omega)]; exact hrs
      refine .inr ⟨g, _, rfl, ho.pos, setRow_heap w g cur _ e _ h2, by simpa using h3, h4, ?_, ?_, hset, by simpa using ho.short⟩
      · simp only [List.size_toArray, List.length_append, List.length_take, List.length_drop, Array.length_toList, hv]
        omega
      · rw [List.length_set]
        have hfs := flat_set rows i r off v.cells.toList ho.each hi (by omega)
        rw [← hfs, ← h6]
        simp only [Nat.add_zero]
        exact take_splice _ _ _ _ (by omega) (by rw [Array.length_toList]; omega)
    · exact ⟨rfl, rfl, rfl, by simp [World.setRow], fun k _ hk => setRow_other w g k _ (fun e => hk ⟨ho.pos, _, rfl, e.symm⟩), Nat.le_refl _⟩
theorem run_store_at {P : Program} {w0 : Ctx} {M : Mem} {T n e sz cap off i : Nat} {A : Option Addr} {rows : List (Array Value)} {r : Array Value} (v : Value) (j : Nat) (rows' : List (Array Value)) (hj : M[j]? = some (.inr (Own A cap e sz rows))) (hi : rows[i]? = some r)
    (hT : ((P.info? T).map (·.size)) = some n) (hv : v.cells.size = n) (hle : Nat.ble (off + n) sz = true) (h1 : v.cells.toList.all Value.oneCell' = true) (hrows : rows.set i (upd r off v.cells.toList) = rows') (w : World) (hM : Sat w0 M w) :
    ∃ (_ : Unit) (w' : World), (sU (Instr.storeAt T (.pointer (some (((A.getD noAddr).add (i * sz)).add off))) v)).run P w = .ok .skip w' ∧ Sat w0 (M.set j (.inr (Own A cap e sz rows'))) w' := by
  obtain ⟨w', h2, h3, h4⟩ := run_store_own (P := P) v (hM.own_at j hj) hi hT hv hle h1
  subst hrows
  exact ⟨(), w', h2, hM.step hj h4 h3 (fun b hb => .inl hb)⟩
theorem set_map_at {α : Type} {c : α → Array Value} {l : List α} {i : Nat} {x : α} {r : Array Value} (h : r = c x) : (l.map c).set i r = (l.set i x).map c := by rw [List.map_set, h]
theorem Sat.takerow {w0 : Ctx} {w : World} {M : Mem} {A : Option Addr} {cap : Nat} {e : TypeId} {sz : Nat} {rows : List (Array Value)} (n : Nat) (h : Sat w0 M w) (j : Nat) (hj : M[j]? = some (.inr (Own A cap e sz rows))) (hn : n ≤ rows.length) :
    Sat w0 (M.set j (.inr (Own A cap e sz (rows.take n)))) w := by
  have ho := h.own_at j hj
  refine h.step hj (Chg.refl _ _) ?_ (fun b hb => .inl hb)
  rcases ho with ⟨rfl, rfl⟩ | ⟨g, cur, ho⟩
  · rw [List.take_nil]; exact OwnH.nil A e sz w
  · have hl : (rows.take n).length = n := by rw [List.length_take]; omega
    have := ho.short
    have := ho.le
    refine .inr ⟨g, cur, ho.at_, ho.pos, ho.heap, by omega, ho.max, ho.size, ?_, fun r hr => ho.each r (List.mem_of_mem_take hr), by omega⟩
    rw [hl, ← flat_take rows n ho.each, ← ho.holds, List.take_take]
    congr 1
    exact (Nat.min_eq_left (Nat.mul_le_mul_right _ hn)).symm
structure Sl (α : Type) where
  A : Option Addr
  cap : Nat
  l : List α
def Sl.v {α : Type} (s : Sl α) : Value := .slice s.A s.l.length s.cap
def Sl.c {α : Type} (s : Sl α) : Array Value := #[.slice s.A s.l.length s.cap]
def Sl.zero {α : Type} : Sl α := ⟨none, 0, []⟩
theorem Sl.one {α : Type} (s : Sl α) : s.c.toList.all Value.oneCell' = true := rfl
structure Sl.rd {α : Type} (w : World) (sz : Nat) (c : α → Array Value) (s : Sl α) : Prop where
  rd : Rd w sz s.A (s.l.map c)
  le : s.l.length ≤ s.cap
theorem Sl.rd.below {α : Type} {w w' : World} {sz : Nat} {c : α → Array Value} {s : Sl α} (h : s.rd w sz c) (hb : Below w.heap.size w w') : s.rd w' sz c := ⟨h.rd.below hb, h.le⟩
theorem Sl.rd.sat {α : Type} {w w' : World} {M : Mem} {sz : Nat} {c : α → Array Value} {s : Sl α} (h : s.rd w sz c) (hM : Sat (cx w) M w') : s.rd w' sz c := h.below hM.below
theorem Sl.rd_zero {α : Type} (w : World) (sz : Nat) (c : α → Array Value) : (Sl.zero : Sl α).rd w sz c := ⟨Rd.nil w sz, by simp [Sl.zero]⟩
def Bag {α : Type} (e : TypeId) (sz : Nat) (c : α → Array Value) (l : List (Sl α)) : Res where
  foot b := ∃ s ∈ l, (Own s.A s.cap e sz (s.l.map c)).foot b
  holds w := ∀ s ∈ l, OwnH s.A s.cap e sz (s.l.map c) w
  lt w h b hb := by
    obtain ⟨s, hs, hf⟩ := hb
    exact (Own s.A s.cap e sz (s.l.map c)).lt w (h s hs) b hf
  kept w w' h hk := fun s hs => (Own s.A s.cap e sz (s.l.map c)).kept w w' (h s hs) fun b hb => hk b ⟨s, hs, hb⟩
theorem OwnH.sl {α : Type} {w : World} {e sz : Nat} {c : α → Array Value} {s : Sl α} (h : OwnH s.A s.cap e sz (s.l.map c) w) : s.rd w sz c := ⟨h.rd, by have := h.le; rwa [List.length_map] at this⟩
theorem Sat.bag_at {α : Type} {w0 : Ctx} {w : World} {M : Mem} {e sz : Nat} {c : α → Array Value} {l : List (Sl α)} (h : Sat w0 M w) (j : Nat) (hj : M[j]? = some (.inr (Bag e sz c l))) : ∀ s ∈ l, s.rd w sz c := fun s hs => (h.res hj s hs).sl
theorem all_nil {α : Type} {p : α → Prop} : ∀ s ∈ ([] : List α), p s := fun _ h => by cases h
theorem all_cons {α : Type} {p : α → Prop} {a : α} {l : List α} (h : p a) (hl : ∀ s ∈ l, p s) : ∀ s ∈ a :: l, p s := fun s hs => by
  rcases List.mem_cons.1 hs with rfl | hs
  · exact h
  · exact hl s hs
theorem Sat.bag_nil {α : Type} {w0 : Ctx} {w : World} {M : Mem} (e sz : Nat) (c : α → Array Value) (h : Sat w0 M w) : Sat w0 (.inr (Bag e sz c ([] : List (Sl α))) :: M) w :=
  h.push (Below.refl _ _) _ (fun s hs => by cases hs) (fun b hb => by obtain ⟨s, hs, _⟩ := hb; cases hs)
theorem Sat.recast {w0 : Ctx} {w : World} {Mp Mr Mn : Mem} (h : Sat w0 (Mp ++ Mr) w) (hh : ∀ e ∈ Mn, holdsE e w) (hf : ∀ e ∈ Mn, ∀ b, footE e b → feet Mp b) (ha : Mn.Pairwise apartE) : Sat w0 (Mn ++ Mr) w :=
  h.call ⟨Chg.refl _ _, fun e he => ⟨hh e he, fun b hb => .inl (hf e he b hb)⟩, ha⟩
theorem Sat.bag_add {α : Type} {w0 : Ctx} {w : World} {M : Mem} {e sz : Nat} {c : α → Array Value} {l : List (Sl α)} {A : Option Addr} {cap : Nat} {x : List α} (h : Sat w0 (.inr (Own A cap e sz (x.map c)) :: .inr (Bag e sz c l) :: M) w) :
    Sat w0 (.inr (Bag e sz c (l ++ [⟨A, cap, x⟩])) :: M) w := by
  refine Sat.recast (Mp := [.inr (Own A cap e sz (x.map c)), .inr (Bag e sz c l)]) (Mn := [.inr (Bag e sz c (l ++ [⟨A, cap, x⟩]))]) h ?_ ?_ (by simp)
  · intro e' he
    rw [List.mem_singleton] at he
    subst he
    intro s hs
    rcases List.mem_append.1 hs with hs | hs
    · exact h.res (j := 1) rfl s hs
    · rw [List.mem_singleton] at hs
      subst hs
      exact h.own_at 0 rfl
  · intro e' he b hb
    rw [List.mem_singleton] at he
    subst he
    obtain ⟨s, hs, hf⟩ := hb
    rcases List.mem_append.1 hs with hs | hs
    · exact ⟨_, List.mem_cons_of_mem _ (List.mem_cons_self ..), s, hs, hf⟩
    · rw [List.mem_singleton] at hs
      subst hs
      exact ⟨_, List.mem_cons_self .., hf⟩
end Go.Eng
end
