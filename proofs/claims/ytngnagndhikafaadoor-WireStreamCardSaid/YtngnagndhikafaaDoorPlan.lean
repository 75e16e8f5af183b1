/- The engine, seventh part: a region whose order is drawn, with any operations: what each does is said for whatever others have been done. Conditions: none. -/
import Derived.Test.YtngnagndhikafaaDoorRow
namespace Go.Eng

/-- Done so far, and j. -/
def upS (S : Nat → Bool) (j : Nat) : Nat → Bool := fun k => bif Nat.beq k j then true else S k
theorem upS_self (S : Nat → Bool) (j : Nat) : upS S j j = true := by simp [upS]
theorem mS2 {S : Nat → Bool} {a0 a1 : Nat} {x0 x1 : Bool} (h0 : S a0 = x0) (h1 : S a1 = x1) : List.map S [a0, a1] = [x0, x1] := by subst h0 h1; rfl
theorem mS3 {S : Nat → Bool} {a0 a1 a2 : Nat} {x0 x1 x2 : Bool} (h0 : S a0 = x0) (h1 : S a1 = x1) (h2 : S a2 = x2) : List.map S [a0, a1, a2] = [x0, x1, x2] := by subst h0 h1 h2; rfl
theorem mS4 {S : Nat → Bool} {a0 a1 a2 a3 : Nat} {x0 x1 x2 x3 : Bool} (h0 : S a0 = x0) (h1 : S a1 = x1) (h2 : S a2 = x2) (h3 : S a3 = x3) : List.map S [a0, a1, a2, a3] = [x0, x1, x2, x3] := by subst h0 h1 h2 h3; rfl
theorem mS5 {S : Nat → Bool} {a0 a1 a2 a3 a4 : Nat} {x0 x1 x2 x3 x4 : Bool} (h0 : S a0 = x0) (h1 : S a1 = x1) (h2 : S a2 = x2) (h3 : S a3 = x3) (h4 : S a4 = x4) : List.map S [a0, a1, a2, a3, a4] = [x0, x1, x2, x3, x4] := by subst h0 h1 h2 h3 h4; rfl
theorem mS6 {S : Nat → Bool} {a0 a1 a2 a3 a4 a5 : Nat} {x0 x1 x2 x3 x4 x5 : Bool} (h0 : S a0 = x0) (h1 : S a1 = x1) (h2 : S a2 = x2) (h3 : S a3 = x3) (h4 : S a4 = x4) (h5 : S a5 = x5) : List.map S [a0, a1, a2, a3, a4, a5] = [x0, x1, x2, x3, x4, x5] := by subst h0 h1 h2 h3 h4 h5; rfl
theorem mS7 {S : Nat → Bool} {a0 a1 a2 a3 a4 a5 a6 : Nat} {x0 x1 x2 x3 x4 x5 x6 : Bool} (h0 : S a0 = x0) (h1 : S a1 = x1) (h2 : S a2 = x2) (h3 : S a3 = x3) (h4 : S a4 = x4) (h5 : S a5 = x5) (h6 : S a6 = x6) : List.map S [a0, a1, a2, a3, a4, a5, a6] = [x0, x1, x2, x3, x4, x5, x6] := by subst h0 h1 h2 h3 h4 h5 h6; rfl
theorem mS8 {S : Nat → Bool} {a0 a1 a2 a3 a4 a5 a6 a7 : Nat} {x0 x1 x2 x3 x4 x5 x6 x7 : Bool} (h0 : S a0 = x0) (h1 : S a1 = x1) (h2 : S a2 = x2) (h3 : S a3 = x3) (h4 : S a4 = x4) (h5 : S a5 = x5) (h6 : S a6 = x6) (h7 : S a7 = x7) : List.map S [a0, a1, a2, a3, a4, a5, a6, a7] = [x0, x1, x2, x3, x4, x5, x6, x7] := by subst h0 h1 h2 h3 h4 h5 h6 h7; rfl
theorem mS9 {S : Nat → Bool} {a0 a1 a2 a3 a4 a5 a6 a7 a8 : Nat} {x0 x1 x2 x3 x4 x5 x6 x7 x8 : Bool} (h0 : S a0 = x0) (h1 : S a1 = x1) (h2 : S a2 = x2) (h3 : S a3 = x3) (h4 : S a4 = x4) (h5 : S a5 = x5) (h6 : S a6 = x6) (h7 : S a7 = x7) (h8 : S a8 = x8) : List.map S [a0, a1, a2, a3, a4, a5, a6, a7, a8] = [x0, x1, x2, x3, x4, x5, x6, x7, x8] := by subst h0 h1 h2 h3 h4 h5 h6 h7 h8; rfl
theorem mS10 {S : Nat → Bool} {a0 a1 a2 a3 a4 a5 a6 a7 a8 a9 : Nat} {x0 x1 x2 x3 x4 x5 x6 x7 x8 x9 : Bool} (h0 : S a0 = x0) (h1 : S a1 = x1) (h2 : S a2 = x2) (h3 : S a3 = x3) (h4 : S a4 = x4) (h5 : S a5 = x5) (h6 : S a6 = x6) (h7 : S a7 = x7) (h8 : S a8 = x8) (h9 : S a9 = x9) : List.map S [a0, a1, a2, a3, a4, a5, a6, a7, a8, a9] = [x0, x1, x2, x3, x4, x5, x6, x7, x8, x9] := by subst h0 h1 h2 h3 h4 h5 h6 h7 h8 h9; rfl
theorem mS11 {S : Nat → Bool} {a0 a1 a2 a3 a4 a5 a6 a7 a8 a9 a10 : Nat} {x0 x1 x2 x3 x4 x5 x6 x7 x8 x9 x10 : Bool} (h0 : S a0 = x0) (h1 : S a1 = x1) (h2 : S a2 = x2) (h3 : S a3 = x3) (h4 : S a4 = x4) (h5 : S a5 = x5) (h6 : S a6 = x6) (h7 : S a7 = x7) (h8 : S a8 = x8) (h9 : S a9 = x9) (h10 : S a10 = x10) : List.map S [a0, a1, a2, a3, a4, a5, a6, a7, a8, a9, a10] = [x0, x1, x2, x3, x4, x5, x6, x7, x8, x9, x10] := by subst h0 h1 h2 h3 h4 h5 h6 h7 h8 h9 h10; rfl
theorem mS12 {S : Nat → Bool} {a0 a1 a2 a3 a4 a5 a6 a7 a8 a9 a10 a11 : Nat} {x0 x1 x2 x3 x4 x5 x6 x7 x8 x9 x10 x11 : Bool} (h0 : S a0 = x0) (h1 : S a1 = x1) (h2 : S a2 = x2) (h3 : S a3 = x3) (h4 : S a4 = x4) (h5 : S a5 = x5) (h6 : S a6 = x6) (h7 : S a7 = x7) (h8 : S a8 = x8) (h9 : S a9 = x9) (h10 : S a10 = x10) (h11 : S a11 = x11) : List.map S [a0, a1, a2, a3, a4, a5, a6, a7, a8, a9, a10, a11] = [x0, x1, x2, x3, x4, x5, x6, x7, x8, x9, x10, x11] := by subst h0 h1 h2 h3 h4 h5 h6 h7 h8 h9 h10 h11; rfl
theorem upS_ne (S : Nat → Bool) {j k : Nat} (h : k ≠ j) : upS S j k = S k := by
  have : Nat.beq k j = false := by
    cases hb : Nat.beq k j with
    | false => rfl
    | true => exact absurd (Nat.eq_of_beq_eq_true hb) h
  simp [upS, this]

/-- The operations that must come before it. -/
def aft (o : Oper) : List Nat := (o.after.toList.filter (Region.binds .any)).map (·.on)

def opTmps (o : Oper) : List Nat := o.op.operands.toList.filterMap fun x => match x with | .tmp t => some t | _ => none
def gdTmp (ops : List Oper) (o : Oper) : List Nat := match o.guard with
  | none => []
  | some (j, _) => match (ops[j]?).bind (·.dst) with | some d => [d] | none => []
/-- The slots on which an operation hangs. -/
def seen (ops : List Oper) (o : Oper) : List Nat := opTmps o ++ gdTmp ops o

def dstIs (t : Nat) (o : Oper) : Bool := match o.dst with | some d => Nat.beq d t | none => false
/-- The numbers of the operations that write slot t. -/
def writers (ops : List Oper) (t : Nat) : List Nat := (List.range ops.length).filter fun i => match ops[i]? with | some o => dstIs t o | none => false

def aftAt (ops : List Oper) (i : Nat) : List Nat := match ops[i]? with | some o => aft o | none => []

/-- Each operation finds its slots: those that were there before the region are written later; the others come from one operation that comes before. -/
def slotB (ops : List Oper) (base : List Nat) (j : Nat) (o : Oper) (t : Nat) : Bool :=
  bif base.contains t then (writers ops t).all (fun i => !(Nat.beq i j) && (aftAt ops i).contains j)
  else match writers ops t with
    | [i] => (aft o).contains i
    | _ => false
def planB (ops : List Oper) (base : List Nat) : Bool :=
  (List.range ops.length).all fun j => match ops[j]? with
    | some o => !isSelect o.op && (seen ops o).all (slotB ops base j o) && (match o.dst with | some d => (match writers ops d with | [_] => true | _ => false) | none => true)
    | none => false

theorem mem_writers {ops : List Oper} {t i : Nat} : i ∈ writers ops t ↔ ∃ o, ops[i]? = some o ∧ o.dst = some t := by
  unfold writers
  rw [List.mem_filter, List.mem_range]
  constructor
  · rintro ⟨hi, h⟩
    rw [List.getElem?_eq_getElem hi] at h
    refine ⟨ops[i], List.getElem?_eq_getElem hi, ?_⟩
    simp only [dstIs] at h
    split at h
    · rename_i d hd; rw [hd, Nat.eq_of_beq_eq_true h]
    · cases h
  · rintro ⟨o, ho, hd⟩
    refine ⟨(List.getElem?_eq_some_iff.1 ho).1, ?_⟩
    rw [ho]
    simp [dstIs, hd]

/-- What is known when the operations of S have been done: base slots that none of them has written, and their results. -/
structure Kn (n : Nat) (ops : List Oper) (base : Slots) (vals : List Value) (S : Nat → Bool) (a : Act) : Prop where
  size : a.tmps.size = n
  defers : a.defers = []
  old : ∀ t v, look t base = some v → (∀ i ∈ writers ops t, S i = false) → a.tmps[t]? = some v
  new : ∀ i o d, ops[i]? = some o → o.dst = some d → S i = true → a.tmps[d]? = vals[i]?

/-- All slots, as an operation finds them. -/
def zipD : List Oper → List Value → Slots
  | o :: os, v :: vs => match o.dst with | some d => (d, v) :: zipD os vs | none => zipD os vs
  | _, _ => []
def allS (ops : List Oper) (base : Slots) (vals : List Value) : Slots := base ++ zipD ops vals

theorem look_append (t : Nat) : ∀ (F G : Slots), look t (F ++ G) = match look t F with | some v => some v | none => look t G
  | [], G => rfl
  | (k, v) :: F, G => by
    by_cases e : k = t
    · subst e; rw [List.cons_append, look_cons_self, look_cons_self]
    · rw [List.cons_append, look_cons_ne v _ e, look_cons_ne v _ e]; exact look_append t F G

theorem look_zipD : ∀ (os : List Oper) (vs : List Value) (t i : Nat), vs.length = os.length → (∃ o, os[i]? = some o ∧ o.dst = some t) → (∀ k o, os[k]? = some o → o.dst = some t → k = i) → look t (zipD os vs) = vs[i]?
  | [], _, t, i, _, ⟨o, ho, _⟩, _ => by simp at ho
  | o0 :: os, [], t, i, hl, _, _ => by simp at hl
  | o0 :: os, v :: vs, t, 0, hl, ⟨o, ho, hd⟩, hu => by
    simp only [List.getElem?_cons_zero, Option.some.injEq] at ho
    subst ho
    simp only [zipD, hd, look_cons_self, List.getElem?_cons_zero]
  | o0 :: os, v :: vs, t, i + 1, hl, ⟨o, ho, hd⟩, hu => by
    simp only [List.getElem?_cons_succ] at ho ⊢
    have ih := look_zipD os vs t i (by simpa using hl) ⟨o, ho, hd⟩ fun k o hk hd => by
      have := hu (k + 1) o (by simpa using hk) hd; omega
    simp only [zipD]
    cases h0 : o0.dst with
    | none => exact ih
    | some d =>
      simp only
      by_cases e : d = t
      · subst e
        have := hu 0 o0 rfl h0; omega
      · rw [look_cons_ne v _ e]; exact ih

section
variable {P : Program} {n : Nat} {ops : Array Oper} {base : Slots} {vals : List Value} {S : Nat → Bool} {a : Act}

def need (F : Slots) (ts : List Nat) : Slots := ts.filterMap fun t => (look t F).map fun v => (t, v)
theorem look_need (F : Slots) : ∀ (ts : List Nat) (t : Nat) (v : Value), look t (need F ts) = some v → look t F = some v ∧ t ∈ ts
  | [], t, v, h => by cases h
  | s :: ts, t, v, h => by
    unfold need at h
    rw [List.filterMap_cons] at h
    cases hs : look s F with
    | none =>
      rw [hs] at h
      obtain ⟨h1, h2⟩ := look_need F ts t v h
      exact ⟨h1, List.mem_cons_of_mem _ h2⟩
    | some u =>
      rw [hs] at h
      simp only [Option.map_some] at h
      by_cases e : s = t
      · subst e
        rw [look_cons_self] at h
        exact ⟨hs.trans h, List.mem_cons_self ..⟩
      · rw [look_cons_ne _ _ e] at h
        obtain ⟨h1, h2⟩ := look_need F ts t v h
        exact ⟨h1, List.mem_cons_of_mem _ h2⟩
theorem look_need_of (F : Slots) : ∀ (ts : List Nat) (t : Nat), t ∈ ts → look t (need F ts) = look t F
  | [], t, h => by cases h
  | s :: ts, t, h => by
    unfold need
    rw [List.filterMap_cons]
    by_cases e : s = t
    · subst e
      cases hs : look s F with
      | none =>
        simp only [Option.map_none]
        by_cases hm : s ∈ ts
        · exact (look_need_of F ts s hm).trans hs
        · cases hc : look s (List.filterMap (fun t => (look t F).map fun v => (t, v)) ts) with
          | none => rfl
          | some v => exact absurd (look_need F ts s v hc).2 hm
      | some u => simp only [Option.map_some, look_cons_self]
    · have hm : t ∈ ts := by rcases List.mem_cons.1 h with h | h; (exact absurd h.symm e); exact h
      cases hs : look s F with
      | none => exact look_need_of F ts t hm
      | some u => simp only [Option.map_some]; rw [look_cons_ne _ _ e]; exact look_need_of F ts t hm

theorem look_contains (t : Nat) : ∀ (F : Slots), (look t F).isSome = (F.map Prod.fst).contains t
  | [] => rfl
  | (k, v) :: F => by
    by_cases e : k = t
    · subst e; rw [look_cons_self]; simp
    · rw [look_cons_ne v _ e, look_contains t F]
      simp [Ne.symm e]

theorem seen_spec (hB : planB ops.toList (base.map Prod.fst) = true) {j : Nat} {o : Oper} (ho : ops.toList[j]? = some o) : isSelect o.op = false ∧ ∀ t ∈ seen ops.toList o, slotB ops.toList (base.map Prod.fst) j o t = true := by
  have hb := List.all_eq_true.1 hB j (List.mem_range.2 (List.getElem?_eq_some_iff.1 ho).1)
  rw [ho] at hb
  simp only [Bool.and_eq_true, Bool.not_eq_true'] at hb
  exact ⟨hb.1.1, List.all_eq_true.1 hb.1.2⟩

theorem all_known (hl : vals.length = ops.toList.length) (hB : planB ops.toList (base.map Prod.fst) = true) {j : Nat} {o : Oper} (ho : ops.toList[j]? = some o) {t : Nat} (ht : t ∈ seen ops.toList o) :
    (∃ v, look t base = some v ∧ look t (allS ops.toList base vals) = some v ∧ ∀ i ∈ writers ops.toList t, i ≠ j ∧ j ∈ aftAt ops.toList i) ∨
    (look t base = none ∧ ∃ i o' v, ops.toList[i]? = some o' ∧ o'.dst = some t ∧ i ∈ aft o ∧ vals[i]? = some v ∧ look t (allS ops.toList base vals) = some v) := by
  have hs := (seen_spec hB ho).2 t ht
  unfold slotB at hs
  rw [← look_contains] at hs
  unfold allS
  rw [look_append]
  cases hb : look t base with
  | some v =>
    rw [hb] at hs
    simp only [Option.isSome_some, cond_true] at hs
    refine .inl ⟨v, rfl, rfl, fun i hi => ?_⟩
    have := List.all_eq_true.1 hs i hi
    simp only [Bool.and_eq_true, Bool.not_eq_true', List.contains_iff_mem] at this
    exact ⟨fun e => by subst e; simp at this, this.2⟩
  | none =>
    rw [hb] at hs
    simp only [Option.isSome_none, cond_false] at hs
    split at hs
    · rename_i i hw
      obtain ⟨o', h1, h2⟩ := mem_writers.1 (show i ∈ writers ops.toList t by rw [hw]; exact List.mem_cons_self ..)
      have hil := (List.getElem?_eq_some_iff.1 h1).1
      have hv : vals[i]? = some vals[i] := List.getElem?_eq_getElem (by omega)
      refine .inr ⟨rfl, i, o', _, h1, h2, by simpa using hs, hv, ?_⟩
      simp only
      rw [look_zipD ops.toList vals t i hl ⟨o', h1, h2⟩ (fun k o2 hk hd => ?_)]
      · exact hv
      · have := mem_writers.2 ⟨o2, hk, hd⟩
        rw [hw] at this
        simpa using this
    · cases hs

/-- The slots on which a ready operation hangs are as they stand in the whole list. -/
theorem Kn.fr (h : Kn n ops.toList base vals S a) (hl : vals.length = ops.toList.length) (hB : planB ops.toList (base.map Prod.fst) = true) {j : Nat} {o : Oper} (ho : ops.toList[j]? = some o) (hj : S j = false)
    (hd : ∀ e ∈ aft o, S e = true) (hc : ∀ i o', ops.toList[i]? = some o' → S i = true → ∀ e ∈ aft o', S e = true) : Fr n (need (allS ops.toList base vals) (seen ops.toList o)) a := by
  refine ⟨h.size, h.defers, fun t v ht => ?_⟩
  obtain ⟨h1, h2⟩ := look_need _ _ _ _ ht
  rcases all_known hl hB ho h2 with ⟨u, hb, hu, hw⟩ | ⟨hb, i, o', u, hi, hdst, hia, hv, hu⟩
  · rw [h1] at hu
    simp only [Option.some.injEq] at hu
    subst hu
    refine h.old t v hb fun i hi => ?_
    obtain ⟨o', h3, h4⟩ := mem_writers.1 hi
    cases hSi : S i with
    | false => rfl
    | true =>
      have := (hw i hi).2
      unfold aftAt at this
      rw [h3] at this
      have := hc i o' h3 hSi j this
      rw [hj] at this; cases this
  · rw [h1] at hu
    simp only [Option.some.injEq] at hu
    subst hu
    exact (h.new i o' t hi hdst (hd i hia)).trans hv

theorem known_need (hl : vals.length = ops.toList.length) (hB : planB ops.toList (base.map Prod.fst) = true) {j : Nat} {o : Oper} (ho : ops.toList[j]? = some o) :
    o.op.operands.toList.all (known (need (allS ops.toList base vals) (seen ops.toList o))) = true := by
  refine List.all_eq_true.2 fun x hx => ?_
  cases x with
  | tmp t =>
    have ht : t ∈ seen ops.toList o := List.mem_append_left _ (List.mem_filterMap.2 ⟨_, hx, rfl⟩)
    simp only [known]
    rw [look_need_of _ _ _ ht]
    rcases all_known hl hB ho ht with ⟨u, _, hu, _⟩ | ⟨_, _, _, u, _, _, _, _, hu⟩ <;> rw [hu] <;> rfl
  | const v => rfl
  | global g => rfl
  | func f => rfl

theorem rho_need {o : Oper} {x : Operand} (hx : x ∈ o.op.operands.toList) (F : Slots) : rho (need F (seen ops.toList o)) x = rho F x := by
  cases x with
  | tmp t =>
    have ht : t ∈ seen ops.toList o := List.mem_append_left _ (List.mem_filterMap.2 ⟨_, hx, rfl⟩)
    simp only [rho]
    rw [look_need_of _ _ _ ht]
  | const v => rfl
  | global g => rfl
  | func f => rfl

theorem guard_need (o : Oper) (F : Slots) : guardF ops.toList (need F (seen ops.toList o)) o = guardF ops.toList F o := by
  unfold guardF
  cases hg : o.guard with
  | none => rfl
  | some p =>
    obtain ⟨j, want⟩ := p
    simp only
    cases hd : (ops.toList[j]?).bind (·.dst) with
    | none => rfl
    | some d =>
      have ht : d ∈ seen ops.toList o := List.mem_append_right _ (by unfold gdTmp; rw [hg]; simp only [hd]; exact List.mem_cons_self ..)
      simp only
      rw [look_need_of _ _ _ ht]

end

/-! ### The steps -/

def GivesK (P : Program) (s : Sem Next) (w : World) (K : Value → World → Prop) : Prop :=
  match s.run P w with
  | .ok (.value u) w' => K u w'
  | .ok .skip w' => K undef w'
  | .ok (.enter f args) w' => Calls P f args w' (fun e w'' => ∃ u, e = .returned u ∧ K u w'')
  | _ => False

/-- What operation j does when the operations of S have been done: γ tells what is open of the results. -/
def StepAt {G : Type} (P : Program) (w0 : Ctx) (ops : Array Oper) (base : Slots) (vals : G → List Value) (writes : List Nat) (mem : List Bool → G → Mem) (j : Nat) (o : Oper) : Prop :=
  ∀ (S : Nat → Bool) (γ : G) (w : World), S j = false → (∀ e ∈ aft o, S e = true) → (∀ i o', ops.toList[i]? = some o' → S i = true → ∀ e ∈ aft o', S e = true) → Sat w0 (mem (writes.map S) γ) w →
    match guardF ops.toList (allS ops.toList base (vals γ)) o with
    | some true => GivesK P (execOp (rho (allS ops.toList base (vals γ))) o) w (fun u w' => ∃ γ', (∀ i : Nat, S i = true → (vals γ')[i]? = (vals γ)[i]?) ∧ (vals γ')[j]? = some u ∧ Sat w0 (mem (writes.map (upS S j)) γ') w')
    | some false => (vals γ)[j]? = some undef ∧ Sat w0 (mem (writes.map (upS S j)) γ) w
    | none => False

def Steps {G : Type} (P : Program) (w0 : Ctx) (ops : Array Oper) (base : Slots) (vals : G → List Value) (writes : List Nat) (mem : List Bool → G → Mem) : List Oper → Nat → Prop
  | [], _ => True
  | o :: r, j => StepAt P w0 ops base vals writes mem j o ∧ Steps P w0 ops base vals writes mem r (j + 1)

section
variable {G : Type} {P : Program} {n : Nat} {w0 : Ctx} {ops : Array Oper} {base : Slots} {vals : G → List Value} {writes : List Nat} {mem : List Bool → G → Mem}

theorem Steps.get : ∀ {l : List Oper} {i : Nat}, Steps P w0 ops base vals writes mem l i → ∀ k o, l[k]? = some o → StepAt P w0 ops base vals writes mem (i + k) o
  | [], _, _, k, o, hk => by simp at hk
  | o0 :: l, i, h, 0, o, hk => by
    simp only [List.getElem?_cons_zero, Option.some.injEq] at hk
    subst hk
    exact h.1
  | o0 :: l, i, h, k + 1, o, hk => by
    simp only [List.getElem?_cons_succ] at hk
    have := h.2.get k o hk
    rwa [show i + 1 + k = i + (k + 1) by omega] at this

/-- How many are not done. -/
def left (S : Nat → Bool) : Nat → Nat
  | 0 => 0
  | N + 1 => left S N + bif S N then 0 else 1
theorem left_up (S : Nat → Bool) (j : Nat) (hj : S j = false) : ∀ N, (j < N → left (upS S j) N + 1 = left S N) ∧ (N ≤ j → left (upS S j) N = left S N)
  | 0 => ⟨fun h => absurd h (Nat.not_lt_zero _), fun _ => rfl⟩
  | N + 1 => by
    obtain ⟨h1, h2⟩ := left_up S j hj N
    constructor
    · intro h
      simp only [left]
      by_cases e : j = N
      · subst e
        rw [h2 (Nat.le_refl _), upS_self, hj]; simp
      · rw [upS_ne S (show N ≠ j from fun h => e h.symm)]
        have := h1 (by omega)
        omega
    · intro h
      simp only [left]
      rw [h2 (by omega), upS_ne S (show N ≠ j by omega)]
theorem left_zero (S : Nat → Bool) : ∀ N, left S N = 0 → ∀ k, k < N → S k = true
  | 0, _, k, hk => absurd hk (Nat.not_lt_zero _)
  | N + 1, h, k, hk => by
    simp only [left] at h
    by_cases e : k = N
    · subst e
      cases hS : S k with
      | true => rfl
      | false => rw [hS] at h; simp at h
    · exact left_zero S N (by omega) k (by omega)
theorem left_least (S : Nat → Bool) : ∀ N, left S N ≠ 0 → ∃ k, k < N ∧ S k = false ∧ ∀ i, i < k → S i = true
  | 0, h => absurd rfl h
  | N + 1, h => by
    by_cases h0 : left S N = 0
    · have := left_zero S N h0
      refine ⟨N, Nat.lt_succ_self _, ?_, this⟩
      simp only [left, h0] at h
      cases hS : S N with
      | false => rfl
      | true => rw [hS] at h; simp at h
    · obtain ⟨k, h1, h2, h3⟩ := left_least S N h0
      exact ⟨k, by omega, h2, h3⟩

/-- Each waits for earlier ones alone; what is written is written by operations of the region. -/
def orderB (ops : List Oper) (writes : List Nat) : Bool :=
  ((List.range ops.length).all fun j => (aftAt ops j).all fun e => Nat.blt e j) && writes.all (fun k => Nat.blt k ops.length)

theorem plan_any {Q : Exit → Act → World → Prop} (hB : planB ops.toList (base.map Prod.fst) = true) (hO : orderB ops.toList writes = true) (hl : ∀ γ, (vals γ).length = ops.toList.length)
    (hD : (ops.toList.all fun o => match o.dst with | some d => Nat.blt d n | none => true) = true) (hs : ∀ j o, ops.toList[j]? = some o → StepAt P w0 ops base vals writes mem j o)
    (hend : ∀ γ a w, (∀ S : Nat → Bool, (∀ k, k < ops.size → S k = true) → Kn n ops.toList base (vals γ) S a) → Sat w0 (mem (writes.map fun _ => true) γ) w → Q .normal a w) :
    ∀ (f : Nat) (listed : Array Bool) (S : Nat → Bool) (γ : G) (a : Act) (w : World), listed.size = ops.size → (∀ k, k < ops.size → ∀ d, listed.getD k d = S k) → (∀ i o', ops.toList[i]? = some o' → S i = true → ∀ e ∈ aft o', S e = true) →
      left S ops.size ≤ f → Kn n ops.toList base (vals γ) S a → Sat w0 (mem (writes.map S) γ) w → wpAny P .any ops Q f listed a w := by
  simp only [orderB, Bool.and_eq_true] at hO
  have hlt : ∀ j o, ops.toList[j]? = some o → ∀ e ∈ aft o, e < j := fun j o ho e he => by
    have := List.all_eq_true.1 hO.1 j (List.mem_range.2 (List.getElem?_eq_some_iff.1 ho).1)
    unfold aftAt at this
    rw [ho] at this
    exact Nat.le_of_ble_eq_true (List.all_eq_true.1 this e he)
  have hfin : ∀ (S : Nat → Bool) (γ : G) (a : Act) (w : World), left S ops.size = 0 → Kn n ops.toList base (vals γ) S a → Sat w0 (mem (writes.map S) γ) w → Q .normal a w := fun S γ a w h0 hK hM => by
    have hall := left_zero S _ h0
    have hwr : writes.map S = writes.map fun _ => true := List.map_congr_left fun k hk => hall k (by have := Nat.le_of_ble_eq_true (List.all_eq_true.1 hO.2 k hk); simp at this; omega)
    rw [hwr] at hM
    refine hend γ a w (fun S' hS' => ⟨hK.size, hK.defers, fun t v ht hw => hK.old t v ht fun i hi => ?_, fun i o d ho hd _ => hK.new i o d ho hd ?_⟩) hM
    · obtain ⟨o, ho, _⟩ := mem_writers.1 hi
      have := hw i hi
      rw [hS' i (by have := (List.getElem?_eq_some_iff.1 ho).1; simpa using this)] at this
      cases this
    · exact hall i (by have := (List.getElem?_eq_some_iff.1 ho).1; simpa using this)
  have hready : ∀ (listed : Array Bool) (S : Nat → Bool), listed.size = ops.size → (∀ k, k < ops.size → ∀ d, listed.getD k d = S k) → Region.ready .any ops listed = [] → left S ops.size = 0 := fun listed S hsz hg hr => by
    rcases Nat.eq_zero_or_pos (left S ops.size) with h | h
    · exact h
    · obtain ⟨k, h1, h2, h3⟩ := left_least S ops.size (by omega)
      have hk : ops[k]? = some ops[k] := Array.getElem?_eq_getElem h1
      have hm : k ∈ Region.ready .any ops listed := mem_ready.2 ⟨by rw [hg k h1, h2], _, hk, fun e he hb => by
        have hea : e.on ∈ aft ops[k] := List.mem_map.2 ⟨e, List.mem_filter.2 ⟨by simpa using he, hb⟩, rfl⟩
        have := hlt k _ (by rw [Array.getElem?_toList]; exact hk) e.on hea
        rw [hg _ (by omega)]
        exact h3 _ this⟩
      rw [hr] at hm; cases hm
  intro f
  induction f with
  | zero =>
    intro listed S γ a w hsz hg hc hf hK hM
    have h0 : left S ops.size = 0 := by omega
    refine ⟨?_, hfin S γ a w h0 hK hM⟩
    refine List.eq_nil_iff_forall_not_mem.2 fun i hi => ?_
    obtain ⟨h1, o, ho, _⟩ := mem_ready.1 hi
    have hil := (Array.getElem?_eq_some_iff.1 ho).1
    rw [hg i hil, left_zero S _ h0 i hil] at h1
    cases h1
  | succ f ih =>
    intro listed S γ a w hsz hg hc hf hK hM
    refine ⟨fun hr => hfin S γ a w (hready listed S hsz hg hr) hK hM, fun i hi => ?_⟩
    obtain ⟨h1, o, ho, hdeps⟩ := mem_ready.1 hi
    have hil := (Array.getElem?_eq_some_iff.1 ho).1
    have hSi : S i = false := by rw [← hg i hil true]; exact h1
    have ho' : ops.toList[i]? = some o := by simpa using ho
    have hd : ∀ e ∈ aft o, S e = true := fun e he => by
      obtain ⟨e', he', rfl⟩ := List.mem_map.1 he
      obtain ⟨he1, he2⟩ := List.mem_filter.1 he'
      have hlt' := hlt i o ho' _ he
      rw [← hg _ (by omega) false]
      exact hdeps e' (by simpa using he1) he2
    have hFr := hK.fr (hl γ) hB ho' hSi hd hc
    have hexec : execOp a.eval o = execOp (rho (allS ops.toList base (vals γ))) o := by
      rw [execOp_rho hFr o (known_need (hl γ) hB ho') (seen_spec hB ho').1]
      exact execOp_congr o (fun cs b e => by have := (seen_spec hB ho').1; rw [e] at this; cases this) fun x hx => rho_need (by simpa using hx) _
    have hst := hs i o ho' S γ w hSi hd hc hM
    -- what comes after
    have next : ∀ (u : Value) (γ' : G) (w' : World), (∀ k : Nat, S k = true → (vals γ')[k]? = (vals γ)[k]?) → (vals γ')[i]? = some u → Sat w0 (mem (writes.map (upS S i)) γ') w' → wpAny P .any ops Q f (listed.setIfInBounds i true) (a.put o.dst u) w' := by
      intro u γ' w' hag hu hM'
      refine ih _ (upS S i) γ' _ w' (by rw [Array.size_setIfInBounds]; exact hsz) (fun k hk d => ?_) (fun k o2 hk hSk e he => ?_) ?_ ?_ hM'
      · by_cases e : k = i
        · subst e; rw [upS_self]; simp [hsz, hk]
        · rw [upS_ne S e, getD_set_ne d (Ne.symm e)]; exact hg k hk d
      · by_cases e1 : k = i
        · subst e1
          rw [ho'] at hk
          simp only [Option.some.injEq] at hk
          subst hk
          have := hlt k o ho' e he
          rw [upS_ne S (by omega)]
          exact hd e he
        · rw [upS_ne S e1] at hSk
          have hSe := hc k o2 hk hSk e he
          by_cases e2 : e = i
          · subst e2; rw [hSi] at hSe; cases hSe
          · rw [upS_ne S e2]; exact hSe
      · have := (left_up S i hSi ops.size).1 hil
        omega
      · have huniq : ∀ d, o.dst = some d → ∀ k o2, ops.toList[k]? = some o2 → o2.dst = some d → k = i := fun d hd0 k o2 hk hd2 => by
          have hb := List.all_eq_true.1 hB i (List.mem_range.2 (by simpa using hil))
          rw [ho'] at hb
          simp only [Bool.and_eq_true, hd0] at hb
          have hb2 := hb.2
          split at hb2
          · rename_i q hq
            have m1 := mem_writers.2 ⟨o, ho', hd0⟩
            have m2 := mem_writers.2 ⟨o2, hk, hd2⟩
            rw [hq] at m1 m2
            simp only [List.mem_singleton] at m1 m2
            omega
          · cases hb2
        refine ⟨by rw [← hK.size]; cases o.dst <;> simp [Act.put], by rw [← hK.defers]; cases o.dst <;> simp [Act.put], fun t v ht hw => ?_, fun k o2 d hk hd2 hSk => ?_⟩
        · have hne : o.dst ≠ some t := fun e => by
            have := hw i (mem_writers.2 ⟨o, ho', e⟩)
            rw [upS_self] at this; cases this
          have hold := hK.old t v ht fun k hk => by
            have := hw k hk
            by_cases e : k = i
            · subst e; rw [upS_self] at this; cases this
            · rwa [upS_ne S e] at this
          cases hdst : o.dst with
          | none => simpa [Act.put] using hold
          | some d =>
            have : d ≠ t := fun e => hne (by rw [hdst, e])
            simpa [Act.put, Array.getElem?_setIfInBounds_ne this] using hold
        · by_cases e : k = i
          · subst e
            rw [ho'] at hk
            simp only [Option.some.injEq] at hk
            subst hk
            rw [hd2, hu]
            have hdn := List.all_eq_true.1 hD o (List.mem_of_getElem? ho')
            rw [hd2] at hdn
            have hdn : d < n := Nat.le_of_ble_eq_true hdn
            simp [Act.put, hK.size, hdn]
          · rw [upS_ne S e] at hSk
            have hnew := (hK.new k o2 d hk hd2 hSk).trans (hag k hSk).symm
            cases hdst : o.dst with
            | none => simpa [Act.put] using hnew
            | some d' =>
              have : d' ≠ d := fun e2 => e (huniq d' hdst k o2 hk (by rw [hd2, e2]))
              simpa [Act.put, Array.getElem?_setIfInBounds_ne this] using hnew
    unfold wpOp
    simp only [ho]
    split at hst
    · rename_i hgv
      have hw := guardF_wanted hFr ((guard_need o _).trans hgv)
      rw [if_pos hw]
      refine .inl ?_
      unfold GivesK at hst
      rw [← hexec] at hst
      unfold Oper.wp
      generalize (execOp a.eval o).run P w = r at hst
      cases r with
      | ok x w' =>
        cases x <;> simp only at hst <;> simp only [Oper.upon]
        case value u => obtain ⟨γ', q1, q2, q3⟩ := hst; exact next _ γ' w' q1 q2 q3
        case skip => obtain ⟨γ', q1, q2, q3⟩ := hst; exact next _ γ' w' q1 q2 q3
        case enter g args => exact hst.mono fun e w'' ⟨u, he, γ', q1, q2, q3⟩ => by subst he; exact next _ γ' w'' q1 q2 q3
      | halt x w' => simp only at hst
    · rename_i hgv
      have hw := guardF_wanted hFr ((guard_need o _).trans hgv)
      rw [hw]
      simp only [Bool.false_eq_true, if_false]
      exact next _ γ w (fun _ _ => rfl) hst.1 hst.2
    · exact hst.elim

theorem plan_wp {F : Slots} {M : Mem} {Q : Exit → Act → World → Prop} (γ0 : G) (Fe : G → Slots) (hb : pick (base.map Prod.fst) F = some base) (hB : planB ops.toList (base.map Prod.fst) = true) (hO : orderB ops.toList writes = true)
    (hD : (ops.toList.all fun o => match o.dst with | some d => Nat.blt d n | none => true) = true) (hl : ∀ γ, Nat.beq (vals γ).length ops.toList.length = true)
    (h0 : ∀ w, Sat w0 M w → Sat w0 (mem (writes.map fun _ => false) γ0) w) (he : ∀ γ, pick ((Fe γ).map Prod.fst) (zipD ops.toList (vals γ) ++ base) = some (Fe γ))
    (hs : Steps P w0 ops base vals writes mem (ops.toList.drop 0) 0) (k : ∀ γ, TE n w0 Q .normal (Fe γ) (mem (writes.map fun _ => true) γ)) : ∀ a w, Fr n F a → Sat w0 M w → wpAny P .any ops Q ops.size (Array.replicate ops.size false) a { w with drawn := w.drawn + 1 } := by
  rw [List.drop_zero] at hs
  intro a w hF hM
  refine plan_any hB hO (fun γ => Nat.eq_of_beq_eq_true (hl γ)) hD (fun j o ho => by have := hs.get j o ho; rwa [Nat.zero_add] at this) (fun γ a' w' hK hM' => ?_) ops.size _ (fun _ => false) γ0 a _ (by simp) (fun k hk d => by simp [hk]) (fun _ _ _ h => by cases h) ?_ ?_ (h0 _ (hM.drawn _))
  · have hK := hK (fun _ => true) (fun _ _ => rfl)
    refine k γ a' w' ⟨hK.size, hK.defers, fun t v ht => ?_⟩ hM'
    have h1 := pick_look _ _ _ (he γ) t v ht
    rw [look_append] at h1
    by_cases hw : ∃ i, i ∈ writers ops.toList t
    · obtain ⟨i, hi⟩ := hw
      obtain ⟨o, ho, hd⟩ := mem_writers.1 hi
      have hu : ∀ k o2, ops.toList[k]? = some o2 → o2.dst = some t → k = i := fun k o2 hk hd2 => by
        have hb := List.all_eq_true.1 hB i (List.mem_range.2 (List.getElem?_eq_some_iff.1 ho).1)
        rw [ho] at hb
        simp only [Bool.and_eq_true, hd] at hb
        have hb2 := hb.2
        split at hb2
        · rename_i q hq
          have m2 := mem_writers.2 ⟨o2, hk, hd2⟩
          rw [hq] at hi m2
          simp only [List.mem_singleton] at hi m2
          omega
        · cases hb2
      have hln := Nat.eq_of_beq_eq_true (hl γ)
      rw [look_zipD ops.toList (vals γ) t i hln ⟨o, ho, hd⟩ hu] at h1
      have hi2 := (List.getElem?_eq_some_iff.1 ho).1
      rw [List.getElem?_eq_getElem (by omega)] at h1
      simp only [Option.some.injEq] at h1
      rw [hK.new i o t ho hd rfl, List.getElem?_eq_getElem (by omega), h1]
    · have hz : look t (zipD ops.toList (vals γ)) = none := by
        cases hz : look t (zipD ops.toList (vals γ)) with
        | none => rfl
        | some u =>
          exfalso
          have key : ∀ (os : List Oper) (vs : List Value), look t (zipD os vs) = some u → ∃ o ∈ os, o.dst = some t := by
            intro os
            induction os with
            | nil => intro vs h; cases vs <;> cases h
            | cons o os ih =>
              intro vs h
              cases vs with
              | nil => cases h
              | cons v vs =>
                simp only [zipD] at h
                cases hd : o.dst with
                | none =>
                  rw [hd] at h
                  obtain ⟨o2, h2, h3⟩ := ih vs h
                  exact ⟨o2, List.mem_cons_of_mem _ h2, h3⟩
                | some d =>
                  rw [hd] at h
                  simp only at h
                  by_cases e : d = t
                  · subst e; exact ⟨o, List.mem_cons_self .., hd⟩
                  · rw [look_cons_ne _ _ e] at h
                    obtain ⟨o2, h2, h3⟩ := ih vs h
                    exact ⟨o2, List.mem_cons_of_mem _ h2, h3⟩
          obtain ⟨o, ho, hd⟩ := key _ _ hz
          obtain ⟨i, hi⟩ := List.getElem?_of_mem ho
          exact hw ⟨i, mem_writers.2 ⟨o, hi, hd⟩⟩
      rw [hz] at h1
      exact hK.old t v h1 fun i hi => absurd ⟨i, hi⟩ hw
  · have : ∀ N, left (fun _ => false) N = N := fun N => by induction N with | zero => rfl | succ N ih => simp [left, ih]
    rw [this]; exact Nat.le_refl _
  · exact ⟨hF.size, hF.defers, fun t v ht _ => hF.has t v (pick_look _ _ _ hb t v ht), fun _ _ _ _ _ h => by cases h⟩
theorem TC.plan {F : Slots} {M : Mem} {Q : Exit → Act → World → Prop} {id : Nat} (γ0 : G) (Fe : G → Slots) (hm : P.follows .mixedOrders = true) (hb : pick (base.map Prod.fst) F = some base) (hB : planB ops.toList (base.map Prod.fst) = true) (hO : orderB ops.toList writes = true)
    (hD : (ops.toList.all fun o => match o.dst with | some d => Nat.blt d n | none => true) = true) (hl : ∀ γ, Nat.beq (vals γ).length ops.toList.length = true)
    (h0 : ∀ w, Sat w0 M w → Sat w0 (mem (writes.map fun _ => false) γ0) w) (he : ∀ γ, pick ((Fe γ).map Prod.fst) (zipD ops.toList (vals γ) ++ base) = some (Fe γ))
    (hs : Steps P w0 ops base vals writes mem (ops.toList.drop 0) 0) (k : ∀ γ, TE n w0 Q .normal (Fe γ) (mem (writes.map fun _ => true) γ)) : TC P n w0 Q (.region id ops true) F M :=
  fun a w hF hM => wp_region_any hm (plan_wp γ0 Fe hb hB hO hD hl h0 he hs k a w hF hM)

/-! ### Rules for the steps -/

theorem semAt_get {F : Slots} {j : Nat} {s : Sem Next} {d : Option Tmp} (h : semAt ops.toList F j = some (s, d)) : ∃ o, ops.toList[j]? = some o ∧ guardF ops.toList F o = some true ∧ execOp (rho F) o = s ∧ o.dst = d := by
  unfold semAt at h
  split at h
  · rename_i o ho
    simp only [Option.some.injEq, Prod.mk.injEq] at h
    unfold opAt at ho
    split at ho
    · rename_i o' ho'
      split at ho
      · rename_i hg
        cases hb : (o'.op.operands.toList.all (known F) && !isSelect o'.op) with
        | false => rw [hb] at ho; cases ho
        | true =>
          rw [hb] at ho
          simp only [cond_true, Option.some.injEq] at ho
          subst ho
          exact ⟨_, ho', hg, h.1, h.2⟩
      · cases ho
    · cases ho
  · cases h

theorem Steps.cons_of {i : Nat} (h : ∀ o, ops.toList[i]? = some o → StepAt P w0 ops base vals writes mem i o) (h2 : Steps P w0 ops base vals writes mem (ops.toList.drop (i + 1)) (i + 1)) : Steps P w0 ops base vals writes mem (ops.toList.drop i) i := by
  rcases Nat.lt_or_ge i ops.toList.length with hi | hi
  · rw [List.drop_eq_getElem_cons hi]
    exact ⟨h _ (List.getElem?_eq_getElem hi), h2⟩
  · rw [List.drop_eq_nil_of_le hi]; trivial
theorem Steps.done {i : Nat} (hi : Nat.ble ops.toList.length i = true) : Steps P w0 ops base vals writes mem (ops.toList.drop i) i := by
  rw [List.drop_eq_nil_of_le (Nat.le_of_ble_eq_true hi)]; trivial

theorem keep_mem {j : Nat} (hw : writes.contains j = false) (S : Nat → Bool) : writes.map (upS S j) = writes.map S :=
  List.map_congr_left fun k hk => upS_ne S (fun e => by subst e; simp [hk] at hw)

/-- Operations that only read. -/
def runP (P : Program) (ops : List Oper) (M : Mem) (F : Slots) : List Oper → List Nat → Option (List Value × List (Nat × Nat))
  | [], _ => some ([], [])
  | o :: r, hs => match guardF ops F o with
    | some true => match opVal P M F (hs.headD 0) o with
      | some (v, es) => match runP P ops M F r hs.tail with
        | some (vs, es') => some (v :: vs, es ++ es')
        | none => none
      | none => none
    | some false => match runP P ops M F r hs.tail with
      | some (vs, es) => some (undef :: vs, es)
      | none => none
    | none => none
structure OkP (r : Option (List Value × List (Nat × Nat))) (vs : List Value) : Prop where
  fst : r.map Prod.fst = some vs := by kernel_rfl
  snd : lefts r = rights r := by kernel_rfl

theorem runP_steps (Mr : Mem) (hv : ∀ S γ w, Sat w0 (mem (writes.map S) γ) w → Sat w0 Mr w) : ∀ (l : List Oper) (i : Nat) (hs : List Nat) (rest : List Oper), (∀ k, k < l.length → writes.contains (i + k) = false) →
    (∀ γ, ∃ vs es, runP P ops.toList Mr (allS ops.toList base (vals γ)) l hs = some (vs, es) ∧ (∀ p ∈ es, p.1 = p.2) ∧ ∀ (k : Nat) v, vs[k]? = some v → (vals γ)[i + k]? = some v) →
    Steps P w0 ops base vals writes mem rest (i + l.length) → Steps P w0 ops base vals writes mem (l ++ rest) i
  | [], i, hs, rest, _, _, h => h
  | o :: l, i, hs, rest, hw, hr, h => by
    have hw0 := hw 0 (by simp)
    rw [Nat.add_zero] at hw0
    refine ⟨fun S γ w hSi _ _ hM => ?_, ?_⟩
    · obtain ⟨vs, es, h1, h2, h3⟩ := hr γ
      rw [keep_mem hw0]
      simp only [runP] at h1
      split at h1
      · rename_i hg
        try rw [hg]
        split at h1
        · rename_i v es1 hv1
          split at h1
          · rename_i vs2 es2 hr2
            simp only [Option.some.injEq, Prod.mk.injEq] at h1
            obtain ⟨rfl, rfl⟩ := h1
            have hval := h3 0 v rfl
            rw [Nat.add_zero] at hval
            unfold opVal at hv1
            cases hb : (o.op.operands.toList.all (known (allS ops.toList base (vals γ))) && !isSelect o.op) with
            | false => rw [hb] at hv1; cases hv1
            | true =>
              rw [hb] at hv1
              simp only [cond_true] at hv1
              unfold GivesK
              split at hv1
              · rename_i u es' hm
                simp only [Option.some.injEq, Prod.mk.injEq] at hv1
                obtain ⟨rfl, rfl⟩ := hv1
                rw [mr_sound (hv S γ w hM) _ _ _ hm (fun p hp => h2 p (by simp [hp]))]
                exact ⟨γ, fun _ _ => rfl, hval, hM⟩
              · rename_i es' hm
                simp only [Option.some.injEq, Prod.mk.injEq] at hv1
                obtain ⟨rfl, rfl⟩ := hv1
                rw [mr_sound (hv S γ w hM) _ _ _ hm (fun p hp => h2 p (by simp [hp]))]
                exact ⟨γ, fun _ _ => rfl, hval, hM⟩
              · cases hv1
          · cases h1
        · cases h1
      · rename_i hg
        try rw [hg]
        split at h1
        · rename_i vs2 es2 hr2
          simp only [Option.some.injEq, Prod.mk.injEq] at h1
          obtain ⟨rfl, rfl⟩ := h1
          have hval := h3 0 undef rfl
          rw [Nat.add_zero] at hval
          exact ⟨hval, hM⟩
        · cases h1
      · cases h1
    · have h' : Steps P w0 ops base vals writes mem rest (i + 1 + l.length) := by rwa [List.length_cons, show i + (l.length + 1) = i + 1 + l.length by omega] at h
      have hw' : ∀ k, k < l.length → writes.contains (i + 1 + k) = false := fun k hk => by have := hw (k + 1) (by simp; omega); rwa [show i + (k + 1) = i + 1 + k by omega] at this
      refine runP_steps Mr hv l (i + 1) hs.tail rest hw' (fun γ => ?_) h'
      obtain ⟨vs, es, h1, h2, h3⟩ := hr γ
      simp only [runP] at h1
      have h4 : ∀ (v0 : Value) (vs2 : List Value), vs = v0 :: vs2 → ∀ (k : Nat) v, vs2[k]? = some v → (vals γ)[i + 1 + k]? = some v := fun v0 vs2 e k v hk => by
        have := h3 (k + 1) v (by rw [e]; simpa using hk)
        rwa [show i + (k + 1) = i + 1 + k by omega] at this
      split at h1
      · split at h1
        · split at h1
          · rename_i vs2 es2 hr2
            simp only [Option.some.injEq, Prod.mk.injEq] at h1
            obtain ⟨rfl, rfl⟩ := h1
            exact ⟨vs2, es2, hr2, fun p hp => h2 p (by simp [hp]), h4 _ vs2 rfl⟩
          · cases h1
        · cases h1
      · split at h1
        · rename_i vs2 es2 hr2
          simp only [Option.some.injEq, Prod.mk.injEq] at h1
          obtain ⟨rfl, rfl⟩ := h1
          exact ⟨vs2, es2, hr2, h2, h4 _ vs2 rfl⟩
        · cases h1
      · cases h1

theorem Steps.run (k : Nat) (hs : List Nat) (Mr : Mem) {i : Nat} (hik : Nat.ble i k = true) (hk : Nat.ble k ops.toList.length = true) (hv : ∀ S γ w, Sat w0 (mem (writes.map S) γ) w → Sat w0 Mr w) (hw : ((List.range (k - i)).all fun j => !writes.contains (i + j)) = true)
    (hr : ∀ γ, OkP (runP P ops.toList Mr (allS ops.toList base (vals γ)) ((ops.toList.drop i).take (k - i)) hs) (((vals γ).drop i).take (k - i)))
    (h : Steps P w0 ops base vals writes mem (ops.toList.drop k) k) : Steps P w0 ops base vals writes mem (ops.toList.drop i) i := by
  have h1 := Nat.le_of_ble_eq_true hik
  have h2 := Nat.le_of_ble_eq_true hk
  have hl : ((ops.toList.drop i).take (k - i)).length = k - i := by rw [List.length_take, List.length_drop]; omega
  rw [split_at ops.toList h1]
  refine runP_steps Mr hv _ i hs _ (fun j hj => ?_) (fun γ => ?_) (by rw [hl, show i + (k - i) = k by omega]; exact h)
  · rw [hl] at hj
    simpa using List.all_eq_true.1 hw j (List.mem_range.2 hj)
  · obtain ⟨h3, h4⟩ := hr γ
    cases hc : runP P ops.toList Mr (allS ops.toList base (vals γ)) ((ops.toList.drop i).take (k - i)) hs with
    | none => rw [hc] at h3; cases h3
    | some x =>
      rw [hc] at h3 h4
      simp only [Option.map_some, Option.some.injEq] at h3
      refine ⟨x.1, x.2, rfl, eqs_of _ h4, fun q v hq => ?_⟩
      rw [h3, List.getElem?_take] at hq
      split at hq
      · rwa [List.getElem?_drop] at hq
      · cases hq

/-- An operation whose value is known by a law of its own; Mv: the own memory that it reads. -/
theorem Steps.val (s : G → Sem Next) (d : Option Tmp) (v : G → Value) (Mv : G → Mem) {i : Nat} (hw : writes.contains i = false)
    (hM : ∀ S γ w, (∀ e : Nat, (aftAt ops.toList i).contains e = true → S e = true) → Sat w0 (mem (writes.map S) γ) w → Sat w0 (Mv γ) w) (hv : ∀ γ w, Sat w0 (Mv γ) w → (s γ).run P w = .ok (.value (v γ)) w)
    (hs : ∀ γ, semAt ops.toList (allS ops.toList base (vals γ)) i = some (s γ, d)) (hval : ∀ γ, (vals γ)[i]? = some (v γ))
    (h : Steps P w0 ops base vals writes mem (ops.toList.drop (i + 1)) (i + 1)) : Steps P w0 ops base vals writes mem (ops.toList.drop i) i := by
  refine Steps.cons_of (fun o ho S γ w hSi hd hc hMw => ?_) h
  obtain ⟨o', h1, h2, h3, h4⟩ := semAt_get (hs γ)
  rw [ho] at h1
  simp only [Option.some.injEq] at h1
  subst h1
  rw [h2, keep_mem hw]
  simp only
  unfold GivesK
  rw [h3, hv γ w (hM S γ w (fun e he => hd e (by unfold aftAt at he; rw [ho] at he; simpa using he)) hMw)]
  exact ⟨γ, fun _ _ => rfl, hval γ, hMw⟩

/-- .. that knows as well what else is done and not done yet. -/
theorem Steps.valL (s : G → Sem Next) (d : Option Tmp) (v : G → Value) (Mv : G → Mem) {i : Nat} (hw : writes.contains i = false)
    (hM : ∀ S γ w, S i = false → (∀ e : Nat, (aftAt ops.toList i).contains e = true → S e = true) → (∀ j k : Nat, (aftAt ops.toList k).contains j = true → S k = true → S j = true) → Sat w0 (mem (writes.map S) γ) w → Sat w0 (Mv γ) w) (hv : ∀ γ w, Sat w0 (Mv γ) w → (s γ).run P w = .ok (.value (v γ)) w)
    (hs : ∀ γ, semAt ops.toList (allS ops.toList base (vals γ)) i = some (s γ, d)) (hval : ∀ γ, (vals γ)[i]? = some (v γ))
    (h : Steps P w0 ops base vals writes mem (ops.toList.drop (i + 1)) (i + 1)) : Steps P w0 ops base vals writes mem (ops.toList.drop i) i := by
  refine Steps.cons_of (fun o ho S γ w hSi hd hc hMw => ?_) h
  obtain ⟨o', h1, h2, h3, h4⟩ := semAt_get (hs γ)
  rw [ho] at h1
  simp only [Option.some.injEq] at h1
  subst h1
  rw [h2, keep_mem hw]
  simp only
  unfold GivesK
  rw [h3, hv γ w (hM S γ w hSi (fun e he => hd e (by unfold aftAt at he; rw [ho] at he; simpa using he)) (fun j k hjk hk => by
    unfold aftAt at hjk
    split at hjk
    · rename_i o2 ho2
      exact hc k o2 ho2 hk j (by simpa using hjk)
    · simp at hjk) hMw)]
  exact ⟨γ, fun _ _ => rfl, hval γ, hMw⟩
theorem lat {S : Nat → Bool} {j k : Nat} (h : S k = true → S j = true) (hj : S j = false) : S k = false := by
  cases hk : S k with
  | false => rfl
  | true => rw [h hk] at hj; cases hj

def callAt' (P : Program) (ops : List Oper) (F : Slots) (i : Nat) : Option (FuncId × Array Value × Option Tmp) := callAt P ops F i

/-- A call that makes nothing that is handed back. -/
theorem Steps.call (f : FuncId) (args : G → Array Value) (d : Option Tmp) (v : G → Value) (Mv : G → Mem) {i : Nat} (hw : writes.contains i = false)
    (hM : ∀ S γ w, (∀ e : Nat, (aftAt ops.toList i).contains e = true → S e = true) → Sat w0 (mem (writes.map S) γ) w → Sat w0 (Mv γ) w) (hv : ∀ γ w, Sat w0 (Mv γ) w → Calls P f (args γ) w (Ret w (v γ)))
    (hs : ∀ γ, callAt P ops.toList (allS ops.toList base (vals γ)) i = some (f, args γ, d)) (hval : ∀ γ, (vals γ)[i]? = some (v γ))
    (h : Steps P w0 ops base vals writes mem (ops.toList.drop (i + 1)) (i + 1)) : Steps P w0 ops base vals writes mem (ops.toList.drop i) i := by
  refine Steps.cons_of (fun o ho S γ w hSi hd hc hMw => ?_) h
  have hsγ := hs γ
  unfold callAt at hsγ
  split at hsγ
  · rename_i s d' hsem
    split at hsγ
    · rename_i f' args' hm
      simp only [Option.some.injEq, Prod.mk.injEq] at hsγ
      obtain ⟨rfl, hargs, rfl⟩ := hsγ
      obtain ⟨o', h1, h2, h3, h4⟩ := semAt_get hsem
      rw [ho] at h1
      simp only [Option.some.injEq] at h1
      subst h1
      rw [h2, keep_mem hw]
      simp only
      unfold GivesK
      rw [h3, mr_sound (Sat.start w) s _ _ hm (by simp)]
      simp only
      rw [hargs]
      exact (hv γ w (hM S γ w (fun e he => hd e (by unfold aftAt at he; rw [ho] at he; simpa using he)) hMw)).mono fun e w' he => ⟨_, he.1, γ, fun _ _ => rfl, hval γ, hMw.later he.2⟩
    · cases hsγ
  · cases hsγ

/-! An operation that makes or writes memory. -/

def maskL (D : List Nat) : Nat → List Value → List Value
  | _, [] => []
  | k, v :: vs => (bif D.contains k then undef else v) :: maskL D (k + 1) vs
theorem maskL_get (D : List Nat) : ∀ (vs : List Value) (k i : Nat), (maskL D k vs)[i]? = (vs[i]?).map fun v => bif D.contains (k + i) then undef else v
  | [], k, i => by simp [maskL]
  | v :: vs, k, 0 => by simp [maskL]
  | v :: vs, k, i + 1 => by
    simp only [maskL, List.getElem?_cons_succ]
    rw [maskL_get D vs (k + 1) i, show k + 1 + i = k + (i + 1) by omega]

/-- Those that hang on operation j. -/
def depB (ops : List Oper) (j : Nat) (D : List Nat) : Bool := D.all fun i => Nat.beq i j || (aftAt ops i).any fun e => D.contains e && Nat.blt e i

theorem dep_spec {j : Nat} {D : List Nat} (hD : depB ops.toList j D = true) {S : Nat → Bool} (hSj : S j = false) (hc : ∀ i o', ops.toList[i]? = some o' → S i = true → ∀ e ∈ aft o', S e = true) : ∀ (m i : Nat), i < m → i ∈ D → S i = false := by
  intro m
  induction m with
  | zero => intro i hi; exact absurd hi (Nat.not_lt_zero _)
  | succ m ih =>
    intro i hi hm
    have := List.all_eq_true.1 hD i hm
    simp only [Bool.or_eq_true, List.any_eq_true, Bool.and_eq_true] at this
    rcases this with h | ⟨e, he, h1, h2⟩
    · rw [Nat.eq_of_beq_eq_true h]; exact hSj
    · have hlt : e < i := Nat.le_of_ble_eq_true h2
      have hSe := ih e (by omega) (by simpa using h1)
      cases hSi : S i with
      | false => rfl
      | true =>
        unfold aftAt at he
        split at he
        · rename_i o ho
          rw [hc i o ho hSi e he] at hSe; cases hSe
        · cases he

theorem agree {j : Nat} {D : List Nat} (hD : depB ops.toList j D = true) {S : Nat → Bool} (hSj : S j = false) (hc : ∀ i o', ops.toList[i]? = some o' → S i = true → ∀ e ∈ aft o', S e = true) {γ γ' : G}
    (hm : maskL D 0 (vals γ') = maskL D 0 (vals γ)) : ∀ i : Nat, S i = true → (vals γ')[i]? = (vals γ)[i]? := fun i hi => by
  have hn : D.contains (0 + i) = false := by
    cases hc2 : D.contains (0 + i) with
    | false => rfl
    | true =>
      have := dep_spec hD hSj hc (i + 1) i (Nat.lt_succ_self _) (by simpa using hc2)
      rw [hi] at this; cases this
  have := congrArg (fun l => l[i]?) hm
  simp only [maskL_get, hn, cond_false, Option.map_id'] at this
  simpa using this

theorem later_of {i : Nat} {S : Nat → Bool} (hSi : S i = false) (hc : ∀ k o', ops.toList[k]? = some o' → S k = true → ∀ e ∈ aft o', S e = true) : ∀ k : Nat, (aftAt ops.toList k).contains i = true → S k = false := fun k hk => by
  cases hS : S k with
  | false => rfl
  | true =>
    unfold aftAt at hk
    split at hk
    · rename_i o ho
      rw [hc k o ho hS i (by simpa using hk)] at hSi; cases hSi
    · cases hk

/-- E: the entries that it looks at or writes; X: the others; set: what is open of its result is told to γ. -/
theorem Steps.op {Γ : Type} (set : Γ → G → G) (E : G → Mem) (E' : Γ → G → Mem) (X : (Nat → Bool) → G → Mem) (D : List Nat) (s : G → Sem Next) (d : Option Tmp) (v : Γ → G → Value) {i : Nat}
    (hpre : ∀ S γ, S i = false → (∀ e : Nat, (aftAt ops.toList i).contains e = true → S e = true) → (∀ k : Nat, (aftAt ops.toList k).contains i = true → S k = false) → (mem (writes.map S) γ).Perm (E γ ++ X S γ))
    (hpost : ∀ S γ g, (∀ k : Nat, (aftAt ops.toList k).contains i = true → S k = false) → (E' g γ ++ X S γ).Perm (mem (writes.map (upS S i)) (set g γ)))
    (hv : ∀ γ M' w, Sat w0 (E γ ++ M') w → ∃ g w', (s γ).run P w = .ok (.value (v g γ)) w' ∧ Sat w0 (E' g γ ++ M') w')
    (hs : ∀ γ, semAt ops.toList (allS ops.toList base (vals γ)) i = some (s γ, d)) (hval : ∀ γ g, (vals (set g γ))[i]? = some (v g γ))
    (hD : depB ops.toList i D = true) (hmask : ∀ γ g, maskL D 0 (vals (set g γ)) = maskL D 0 (vals γ))
    (h : Steps P w0 ops base vals writes mem (ops.toList.drop (i + 1)) (i + 1)) : Steps P w0 ops base vals writes mem (ops.toList.drop i) i := by
  refine Steps.cons_of (fun o ho S γ w hSi hd hc hMw => ?_) h
  obtain ⟨o', h1, h2, h3, h4⟩ := semAt_get (hs γ)
  rw [ho] at h1
  simp only [Option.some.injEq] at h1
  subst h1
  have hd' : ∀ e : Nat, (aftAt ops.toList i).contains e = true → S e = true := fun e he => hd e (by unfold aftAt at he; rw [ho] at he; simpa using he)
  rw [h2]
  simp only
  unfold GivesK
  obtain ⟨g, w', hr, hM'⟩ := hv γ _ w (hMw.perm (hpre S γ hSi hd' (later_of hSi hc)))
  rw [h3, hr]
  exact ⟨set g γ, agree hD hSi hc (hmask γ g), hval γ g, hM'.perm (hpost S γ g (later_of hSi hc))⟩

/-- .. that hands back nothing (a store). -/
theorem Steps.put (E : G → Mem) (E' : G → Mem) (X : (Nat → Bool) → G → Mem) (s : G → Sem Next) (d : Option Tmp) {i : Nat}
    (hpre : ∀ S γ, S i = false → (∀ e : Nat, (aftAt ops.toList i).contains e = true → S e = true) → (∀ k : Nat, (aftAt ops.toList k).contains i = true → S k = false) → (mem (writes.map S) γ).Perm (E γ ++ X S γ))
    (hpost : ∀ S γ, (∀ k : Nat, (aftAt ops.toList k).contains i = true → S k = false) → (E' γ ++ X S γ).Perm (mem (writes.map (upS S i)) γ))
    (hv : ∀ γ M' w, Sat w0 (E γ ++ M') w → ∃ w', (s γ).run P w = .ok .skip w' ∧ Sat w0 (E' γ ++ M') w')
    (hs : ∀ γ, semAt ops.toList (allS ops.toList base (vals γ)) i = some (s γ, d)) (hval : ∀ γ, (vals γ)[i]? = some undef)
    (h : Steps P w0 ops base vals writes mem (ops.toList.drop (i + 1)) (i + 1)) : Steps P w0 ops base vals writes mem (ops.toList.drop i) i := by
  refine Steps.cons_of (fun o ho S γ w hSi hd hc hMw => ?_) h
  obtain ⟨o', h1, h2, h3, h4⟩ := semAt_get (hs γ)
  rw [ho] at h1
  simp only [Option.some.injEq] at h1
  subst h1
  have hd' : ∀ e : Nat, (aftAt ops.toList i).contains e = true → S e = true := fun e he => hd e (by unfold aftAt at he; rw [ho] at he; simpa using he)
  rw [h2]
  simp only
  unfold GivesK
  obtain ⟨w', hr, hM'⟩ := hv γ _ w (hMw.perm (hpre S γ hSi hd' (later_of hSi hc)))
  rw [h3, hr]
  exact ⟨γ, fun _ _ => rfl, hval γ, hM'.perm (hpost S γ (later_of hSi hc))⟩

/-- .. a call that hands back memory. -/
theorem Steps.callN {Γ : Type} (set : Γ → G → G) (f : FuncId) (args : G → Array Value) (Mv : G → Mem) (E' : Γ → G → Mem) (D : List Nat) (d : Option Tmp) (v : Γ → G → Value) {i : Nat}
    (hM : ∀ S γ w, (∀ e : Nat, (aftAt ops.toList i).contains e = true → S e = true) → Sat w0 (mem (writes.map S) γ) w → Sat w0 (Mv γ) w)
    (hpost : ∀ S γ g, S i = false → (∀ e : Nat, (aftAt ops.toList i).contains e = true → S e = true) → (E' g γ ++ mem (writes.map S) γ).Perm (mem (writes.map (upS S i)) (set g γ)))
    (hv : ∀ γ w, Sat w0 (Mv γ) w → Calls P f (args γ) w (RetM (cx w) (fun g => v g γ) (fun g => E' g γ)))
    (hs : ∀ γ, callAt P ops.toList (allS ops.toList base (vals γ)) i = some (f, args γ, d)) (hval : ∀ γ g, (vals (set g γ))[i]? = some (v g γ))
    (hD : depB ops.toList i D = true) (hmask : ∀ γ g, maskL D 0 (vals (set g γ)) = maskL D 0 (vals γ))
    (h : Steps P w0 ops base vals writes mem (ops.toList.drop (i + 1)) (i + 1)) : Steps P w0 ops base vals writes mem (ops.toList.drop i) i := by
  refine Steps.cons_of (fun o ho S γ w hSi hd hc hMw => ?_) h
  have hd' : ∀ e : Nat, (aftAt ops.toList i).contains e = true → S e = true := fun e he => hd e (by unfold aftAt at he; rw [ho] at he; simpa using he)
  have hsγ := hs γ
  unfold callAt at hsγ
  split at hsγ
  · rename_i s d' hsem
    split at hsγ
    · rename_i f' args' hm
      simp only [Option.some.injEq, Prod.mk.injEq] at hsγ
      obtain ⟨rfl, hargs, rfl⟩ := hsγ
      obtain ⟨o', h1, h2, h3, h4⟩ := semAt_get hsem
      rw [ho] at h1
      simp only [Option.some.injEq] at h1
      subst h1
      rw [h2]
      simp only
      unfold GivesK
      rw [h3, mr_sound (Sat.start w) s _ _ hm (by simp)]
      simp only
      rw [hargs]
      refine (hv γ w (hM S γ w hd' hMw)).mono fun e w' he => ?_
      obtain ⟨g, rfl, hMn⟩ := he
      refine ⟨_, rfl, set g γ, agree hD hSi hc (hmask γ g), hval γ g, ?_⟩
      refine (Sat.call (Mp := []) (Mr := mem (writes.map S) γ) hMw ?_).perm (hpost S γ g hSi hd')
      exact ⟨⟨hMn.chg.os, hMn.chg.tape, hMn.chg.output, hMn.chg.size, fun k hk _ => hMn.chg.block k hk (fun h => h), hMn.chg.drawn⟩, fun e he => ⟨(hMn.own e he).1, fun b hb => by
        rcases (hMn.own e he).2 b hb with h5 | h5
        · exact h5.elim
        · exact .inr h5⟩, hMn.apart⟩
    · cases hsγ
  · cases hsγ
end

theorem sub_keep {s l m : Mem} {e : Ent} (hs : s = [e]) (h : l.Sublist m) : (e :: l).Sublist (s ++ m) := by subst hs; exact h.cons_cons e
theorem sub_one {l m : Mem} {e : Ent} (h : l.Sublist m) : (e :: l).Sublist ([e] ++ m) := h.cons_cons e
theorem sub_skip {s l m : Mem} (h : l.Sublist m) : l.Sublist (s ++ m) := List.sublist_append_of_sublist_right h
theorem perm_mid {α : Type} (a e b : List α) : (a ++ (e ++ b)).Perm (e ++ (a ++ b)) := List.perm_append_comm_assoc a e b

/-- A new block. -/
theorem run_new {P : Program} {w0 : Ctx} {s : Sem Next} {v : Nat → Value} {o : Obj} (h : ∀ (b : Nat) (M : Mem), mw P 0 b s M = some (.value (v b), .inl (b, o) :: M, [])) (M' : Mem) (w : World) (hM : Sat w0 ([] ++ M') w) :
    ∃ (b : Nat) (w' : World), s.run P w = .ok (.value (v b)) w' ∧ Sat w0 ([.inl (b, o)] ++ M') w' := by
  obtain ⟨w', h1, h2⟩ := mw_sound s M' w _ _ _ hM rfl (h w.heap.size M') (by simp)
  exact ⟨w.heap.size, w', h1, h2⟩
def putM : Option (Next × Mem × List (Nat × Nat)) → Option (Next × Mem)
  | some (x, m, _) => some (x, m)
  | none => none
def putL : Option (Next × Mem × List (Nat × Nat)) → List Nat × List Nat
  | some (_, _, es) => (es.map Prod.fst, es.map Prod.snd)
  | none => ([], [])
/-- A store into a block that is spelled out. -/
theorem run_put {P : Program} {w0 : Ctx} {s : Sem Next} {e e' : Ent} (h : ∀ (b : Nat) (M : Mem), putM (mw P 0 b s (e :: M)) = some (.skip, e' :: M)) (h2 : ∀ (b : Nat) (M : Mem), (putL (mw P 0 b s (e :: M))).1 = (putL (mw P 0 b s (e :: M))).2)
    (M' : Mem) (w : World) (hM : Sat w0 ([e] ++ M') w) : ∃ (w' : World), s.run P w = .ok .skip w' ∧ Sat w0 ([e'] ++ M') w' := by
  have h1 := h w.heap.size M'
  have h3 := h2 w.heap.size M'
  cases hm : mw P 0 w.heap.size s (e :: M') with
  | none => rw [hm] at h1; cases h1
  | some x =>
    obtain ⟨x, m, es⟩ := x
    rw [hm] at h1 h3
    simp only [putM, Option.some.injEq, Prod.mk.injEq] at h1
    obtain ⟨rfl, rfl⟩ := h1
    exact mw_sound s (e :: M') w _ _ _ hM rfl hm (eqs_of _ h3)

theorem TC.bsplit {P : Program} {n : Nat} {w0 : Ctx} {Q : Exit → Act → World → Prop} {F : Slots} {M : Mem} {c : Code} (b : Bool) (h1 : b = true → TC P n w0 Q c F M) (h2 : b = false → TC P n w0 Q c F M) : TC P n w0 Q c F M := by
  cases hb : b with
  | true => exact h1 hb
  | false => exact h2 hb

end Go.Eng
