/- Lemmas toward the given statement (part 3 of 16): Plan Glue Ok Fct Thick Delta Thr Strs StrB SkyS. Each theorem states its own conditions; nothing is assumed beyond them. -/
import Derived.Test.YtiknacdnhekekaaSw02
import Derived.ProofKit
import Derived.SizedLaws
import Derived.Deep.Slices
import Derived.Test.YtiknacdnhekekaaSw01
import Derived.Laws.BytesString
import Derived.Laws.Cells
import Derived.Laws.IdiomStrings
section
namespace Go.Eng
def upS (S : Nat → Bool) (j : Nat) : Nat → Bool := fun k => bif Nat.beq k j then true else S k
theorem upS_self (S : Nat → Bool) (j : Nat) : upS S j j = true := by simp [upS]
theorem mS2 {S : Nat → Bool} {a0 a1 : Nat} {x0 x1 : Bool} (h0 : S a0 = x0) (h1 : S a1 = x1) : List.map S [a0, a1] = [x0, x1] := by subst h0 h1; rfl
theorem mS3 {S : Nat → Bool} {a0 a1 a2 : Nat} {x0 x1 x2 : Bool} (h0 : S a0 = x0) (h1 : S a1 = x1) (h2 : S a2 = x2) : List.map S [a0, a1, a2] = [x0, x1, x2] := by subst h0 h1 h2; rfl
theorem mS4 {S : Nat → Bool} {a0 a1 a2 a3 : Nat} {x0 x1 x2 x3 : Bool} (h0 : S a0 = x0) (h1 : S a1 = x1) (h2 : S a2 = x2) (h3 : S a3 = x3) : List.map S [a0, a1, a2, a3] = [x0, x1, x2, x3] := by subst h0 h1 h2 h3; rfl
theorem mS6 {S : Nat → Bool} {a0 a1 a2 a3 a4 a5 : Nat} {x0 x1 x2 x3 x4 x5 : Bool} (h0 : S a0 = x0) (h1 : S a1 = x1) (h2 : S a2 = x2) (h3 : S a3 = x3) (h4 : S a4 = x4) (h5 : S a5 = x5) : List.map S [a0, a1, a2, a3, a4, a5] = [x0, x1, x2, x3, x4, x5] := by subst h0 h1 h2 h3 h4 h5; rfl
theorem upS_ne (S : Nat → Bool) {j k : Nat} (h : k ≠ j) : upS S j k = S k := by
  have : Nat.beq k j = false := by
    cases hb : Nat.beq k j with
    | false => rfl
    | true => exact absurd (Nat.eq_of_beq_eq_true hb) h
  simp [upS, this]
def aft (o : Oper) : List Nat := (o.after.toList.filter (Region.binds .any)).map (·.on)
def opTmps (o : Oper) : List Nat := o.op.operands.toList.filterMap fun x => match x with | .tmp t => some t | _ => none
def gdTmp (ops : List Oper) (o : Oper) : List Nat := match o.guard with
  | none => []
  | some (j, _) => match (ops[j]?).bind (·.dst) with | some d => [d] | none => []
def seen (ops : List Oper) (o : Oper) : List Nat := opTmps o ++ gdTmp ops o
def dstIs (t : Nat) (o : Oper) : Bool := match o.dst with | some d => Nat.beq d t | none => false
def writers (ops : List Oper) (t : Nat) : List Nat := (List.range ops.length).filter fun i => match ops[i]? with | some o => dstIs t o | none => false
def aftAt (ops : List Oper) (i : Nat) : List Nat := match ops[i]? with | some o => aft o | none => []
def slotB (ops : List Oper) (base : List Nat) (j : Nat) (o : Oper) (t : Nat) : Bool :=
  bif base.contains t then (writers ops t).all (fun i => !(Nat.beq i j) && (aftAt ops i).contains j)
  else match writers ops t with
    | [i] => (aft o).contains i
    | _ => false
def planB (ops : List Oper) (base : List Nat) : Bool :=
  (List.range ops.length).all fun j => match ops[j]? with
    | some o => !isSelect o.op && (seen ops o).all (slotB ops base j o) && (match o.dst with | some d => (match writers ops d with | [_] => true | _ => false) | none => true)
    | none => false
theorem mem_writers {ops : List Oper} {t i : Nat} : i ∈ writers ops t ↔ ∃ o, ops[i]? = some o ∧ o.dst = some t := by
  unfold writers
  rw [List.mem_filter, List.mem_range]
  constructor
  · rintro ⟨hi, h⟩
    rw [List.getElem?_eq_getElem hi] at h
    refine ⟨ops[i], List.getElem?_eq_getElem hi, ?_⟩
    simp only [dstIs] at h
    split at h
    · rename_i d hd; rw [hd, Nat.eq_of_beq_eq_true h]
    · cases h
  · rintro ⟨o, ho, hd⟩
    refine ⟨(List.getElem?_eq_some_iff.1 ho).1, ?_⟩
    rw [ho]
    simp [dstIs, hd]
structure Kn (n : Nat) (ops : List Oper) (base : Slots) (vals : List Value) (S : Nat → Bool) (a : Act) : Prop where
  size : a.tmps.size = n
  defers : a.defers = []
  old : ∀ t v, look t base = some v → (∀ i ∈ writers ops t, S i = false) → a.tmps[t]? = some v
  new : ∀ i o d, ops[i]? = some o → o.dst = some d → S i = true → a.tmps[d]? = vals[i]?
def zipD : List Oper → List Value → Slots
  | o :: os, v :: vs => match o.dst with | some d => (d, v) :: zipD os vs | none => zipD os vs
  | _, _ => []
def allS (ops : List Oper) (base : Slots) (vals : List Value) : Slots := base ++ zipD ops vals
theorem look_append (t : Nat) : ∀ (F G : Slots), look t (F ++ G) = match look t F with | some v => some v | none => look t G
  | [], G => rfl
  | (k, v) :: F, G => by
    by_cases e : k = t
    · subst e; rw [List.cons_append, look_cons_self, look_cons_self]
    · rw [List.cons_append, look_cons_ne v _ e, look_cons_ne v _ e]; exact look_append t F G
theorem look_zipD : ∀ (os : List Oper) (vs : List Value) (t i : Nat), vs.length = os.length → (∃ o, os[i]? = some o ∧ o.dst = some t) → (∀ k o, os[k]? = some o → o.dst = some t → k = i) → look t (zipD os vs) = vs[i]?
  | [], _, t, i, _, ⟨o, ho, _⟩, _ => by simp at ho
  | o0 :: os, [], t, i, hl, _, _ => by simp at hl
  | o0 :: os, v :: vs, t, 0, hl, ⟨o, ho, hd⟩, hu => by
    simp only [List.getElem?_cons_zero, Option.some.injEq] at ho
    subst ho
    simp only [zipD, hd, look_cons_self, List.getElem?_cons_zero]
  | o0 :: os, v :: vs, t, i + 1, hl, ⟨o, ho, hd⟩, hu => by
    simp only [List.getElem?_cons_succ] at ho ⊢
    have ih := look_zipD os vs t i (by simpa using hl) ⟨o, ho, hd⟩ fun k o hk hd => by
      have := hu (k + 1) o (by simpa using hk) hd; omega
    simp only [zipD]
    cases h0 : o0.dst with
    | none => exact ih
    | some d =>
      simp only
      by_cases e : d = t
      · subst e
        have := hu 0 o0 rfl h0; omega
      · rw [look_cons_ne v _ e]; exact ih
section
variable {P : Program} {n : Nat} {ops : Array Oper} {base : Slots} {vals : List Value} {S : Nat → Bool} {a : Act}
def need (F : Slots) (ts : List Nat) : Slots := ts.filterMap fun t => (look t F).map fun v => (t, v)
theorem look_need (F : Slots) : ∀ (ts : List Nat) (t : Nat) (v : Value), look t (need F ts) = some v → look t F = some v ∧ t ∈ ts
  | [], t, v, h => by cases h
  | s :: ts, t, v, h => by
    unfold need at h
    rw [List.filterMap_cons] at h
    cases hs : look s F with
    | none =>
      rw [hs] at h
      obtain ⟨h1, h2⟩ := look_need F ts t v h
      exact ⟨h1, List.mem_cons_of_mem _ h2⟩
    | some u =>
      rw [hs] at h
      simp only [Option.map_some] at h
      by_cases e : s = t
      · subst e
        rw [look_cons_self] at h
        exact ⟨hs.trans h, List.mem_cons_self ..⟩
      · rw [look_cons_ne _ _ e] at h
        obtain ⟨h1, h2⟩ := look_need F ts t v h
        exact ⟨h1, List.mem_cons_of_mem _ h2⟩
theorem look_need_of (F : Slots) : ∀ (ts : List Nat) (t : Nat), t ∈ ts → look t (need F ts) = look t F
  | [], t, h => by cases h
  | s :: ts, t, h => by
    unfold need
    rw [List.filterMap_cons]
    by_cases e : s = t
    · subst e
      cases hs : look s F with
      | none =>
        simp only [Option.map_none]
        by_cases hm : s ∈ ts
        · exact (look_need_of F ts s hm).trans hs
        · cases hc : look s (List.filterMap (fun t => (look t F).map fun v => (t, v)) ts) with
          | none => rfl
          | some v => exact absurd (look_need F ts s v hc).2 hm
      | some u => simp only [Option.map_some, look_cons_self]
    · have hm : t ∈ ts := by rcases List.mem_cons.1 h with h | h; (exact absurd h.symm e); exact h
      cases hs : look s F with
      | none => exact look_need_of F ts t hm
      | some u => simp only [Option.map_some]; rw [look_cons_ne _ _ e]; exact look_need_of F ts t hm
theorem look_contains (t : Nat) : ∀ (F : Slots), (look t F).isSome = (F.map Prod.fst).contains t
  | [] => rfl
  | (k, v) :: F => by
    by_cases e : k = t
    · subst e; rw [look_cons_self]; simp
    · rw [look_cons_ne v _ e, look_contains t F]
      simp [Ne.symm e]
theorem seen_spec (hB : planB ops.toList (base.map Prod.fst) = true) {j : Nat} {o : Oper} (ho : ops.toList[j]? = some o) : isSelect o.op = false ∧ ∀ t ∈ seen ops.toList o, slotB ops.toList (base.map Prod.fst) j o t = true := by
  have hb := List.all_eq_true.1 hB j (List.mem_range.2 (List.getElem?_eq_some_iff.1 ho).1)
  rw [ho] at hb
  simp only [Bool.and_eq_true, Bool.not_eq_true'] at hb
  exact ⟨hb.1.1, List.all_eq_true.1 hb.1.2⟩
theorem all_known (hl : vals.length = ops.toList.length) (hB : planB ops.toList (base.map Prod.fst) = true) {j : Nat} {o : Oper} (ho : ops.toList[j]? = some o) {t : Nat} (ht : t ∈ seen ops.toList o) :
    (∃ v, look t base = some v ∧ look t (allS ops.toList base vals) = some v ∧ ∀ i ∈ writers ops.toList t, i ≠ j ∧ j ∈ aftAt ops.toList i) ∨
    (look t base = none ∧ ∃ i o' v, ops.toList[i]? = some o' ∧ o'.dst = some t ∧ i ∈ aft o ∧ vals[i]? = some v ∧ look t (allS ops.toList base vals) = some v) := by
  have hs := (seen_spec hB ho).2 t ht
  unfold slotB at hs
  rw [← look_contains] at hs
  unfold allS
  rw [look_append]
  cases hb : look t base with
  | some v =>
    rw [hb] at hs
    simp only [Option.isSome_some, cond_true] at hs
    refine .inl ⟨v, rfl, rfl, fun i hi => ?_⟩
    have := List.all_eq_true.1 hs i hi
    simp only [Bool.and_eq_true, Bool.not_eq_true', List.contains_iff_mem] at this
    exact ⟨fun e => by subst e; simp at this, this.2⟩
  | none =>
    rw [hb] at hs
    simp only [Option.isSome_none, cond_false] at hs
    split at hs
    · rename_i i hw
      obtain ⟨o', h1, h2⟩ := mem_writers.1 (show i ∈ writers ops.toList t by rw [hw]; exact List.mem_cons_self ..)
      have hil := (List.getElem?_eq_some_iff.1 h1).1
      have hv : vals[i]? = some vals[i] := List.getElem?_eq_getElem (by omega)
      refine .inr ⟨rfl, i, o', _, h1, h2, by simpa using hs, hv, ?_⟩
      simp only
      rw [look_zipD ops.toList vals t i hl ⟨o', h1, h2⟩ (fun k o2 hk hd => ?_)]
      · exact hv
      · have := mem_writers.2 ⟨o2, hk, hd⟩
        rw [hw] at this
        simpa using this
    · cases hs
theorem Kn.fr (h : Kn n ops.toList base vals S a) (hl : vals.length = ops.toList.length) (hB : planB ops.toList (base.map Prod.fst) = true) {j : Nat} {o : Oper} (ho : ops.toList[j]? = some o) (hj : S j = false)
    (hd : ∀ e ∈ aft o, S e = true) (hc : ∀ i o', ops.toList[i]? = some o' → S i = true → ∀ e ∈ aft o', S e = true) : Fr n (need (allS ops.toList base vals) (seen ops.toList o)) a := by
  refine ⟨h.size, h.defers, fun t v ht => ?_⟩
  obtain ⟨h1, h2⟩ := look_need _ _ _ _ ht
  rcases all_known hl hB ho h2 with ⟨u, hb, hu, hw⟩ | ⟨hb, i, o', u, hi, hdst, hia, hv, hu⟩
  · rw [h1] at hu
    simp only [Option.some.injEq] at hu
    subst hu
    refine h.old t v hb fun i hi => ?_
    obtain ⟨o', h3, h4⟩ := mem_writers.1 hi
    cases hSi : S i with
    | false => rfl
    | true =>
      have := (hw i hi).2
      unfold aftAt at this
      rw [h3] at this
      have := hc i o' h3 hSi j this
      rw [hj] at this; cases this
  · rw [h1] at hu
    simp only [Option.some.injEq] at hu
    subst hu
    exact (h.new i o' t hi hdst (hd i hia)).trans hv
theorem known_need (hl : vals.length = ops.toList.length) (hB : planB ops.toList (base.map Prod.fst) = true) {j : Nat} {o : Oper} (ho : ops.toList[j]? = some o) :
    o.op.operands.toList.all (known (need (allS ops.toList base vals) (seen ops.toList o))) = true := by
  refine List.all_eq_true.2 fun x hx => ?_
  cases x with
  | tmp t =>
    have ht : t ∈ seen ops.toList o := List.mem_append_left _ (List.mem_filterMap.2 ⟨_, hx, rfl⟩)
    simp only [known]
    rw [look_need_of _ _ _ ht]
    rcases all_known hl hB ho ht with ⟨u, _, hu, _⟩ | ⟨_, _, _, u, _, _, _, _, hu⟩ <;> rw [hu] <;> rfl
  | const v => rfl
  | global g => rfl
  | func f => rfl
theorem rho_need {o : Oper} {x : Operand} (hx : x ∈ o.op.operands.toList) (F : Slots) : rho (need F (seen ops.toList o)) x = rho F x := by
  cases x with
  | tmp t =>
    have ht : t ∈ seen ops.toList o := List.mem_append_left _ (List.mem_filterMap.2 ⟨_, hx, rfl⟩)
    simp only [rho]
    rw [look_need_of _ _ _ ht]
  | const v => rfl
  | global g => rfl
  | func f => rfl
theorem guard_need (o : Oper) (F : Slots) : guardF ops.toList (need F (seen ops.toList o)) o = guardF ops.toList F o := by
  unfold guardF
  cases hg : o.guard with
  | none => rfl
  | some p =>
    obtain ⟨j, want⟩ := p
    simp only
    cases hd : (ops.toList[j]?).bind (·.dst) with
    | none => rfl
    | some d =>
      have ht : d ∈ seen ops.toList o := List.mem_append_right _ (by unfold gdTmp; rw [hg]; simp only [hd]; exact List.mem_cons_self ..)
      simp only
      rw [look_need_of _ _ _ ht]
end
def GivesK (P : Program) (s : Sem Next) (w : World) (K : Value → World → Prop) : Prop :=
  match s.run P w with
  | .ok (.value u) w' => K u w'
  | .ok .skip w' => K undef w'
  | .ok (.enter f args) w' => Calls P f args w' (fun e w'' => ∃ u, e = .returned u ∧ K u w'')
  | _ => False
def StepAt {G : Type} (P : Program) (w0 : Ctx) (ops : Array Oper) (base : Slots) (vals : G → List Value) (writes : List Nat) (mem : List Bool → G → Mem) (j : Nat) (o : Oper) : Prop :=
  ∀ (S : Nat → Bool) (γ : G) (w : World), S j = false → (∀ e ∈ aft o, S e = true) → (∀ i o', ops.toList[i]? = some o' → S i = true → ∀ e ∈ aft o', S e = true) → Sat w0 (mem (writes.map S) γ) w →
    match guardF ops.toList (allS ops.toList base (vals γ)) o with
    | some true => GivesK P (execOp (rho (allS ops.toList base (vals γ))) o) w (fun u w' => ∃ γ', (∀ i : Nat, S i = true → (vals γ')[i]? = (vals γ)[i]?) ∧ (vals γ')[j]? = some u ∧ Sat w0 (mem (writes.map (upS S j)) γ') w')
    | some false => (vals γ)[j]? = some undef ∧ Sat w0 (mem (writes.map (upS S j)) γ) w
    | none => False
def Steps {G : Type} (P : Program) (w0 : Ctx) (ops : Array Oper) (base : Slots) (vals : G → List Value) (writes : List Nat) (mem : List Bool → G → Mem) : List Oper → Nat → Prop
  | [], _ => True
  | o :: r, j => StepAt P w0 ops base vals writes mem j o ∧ Steps P w0 ops base vals writes mem r (j + 1)
section
variable {G : Type} {P : Program} {n : Nat} {w0 : Ctx} {ops : Array Oper} {base : Slots} {vals : G → List Value} {writes : List Nat} {mem : List Bool → G → Mem}
theorem Steps.get : ∀ {l : List Oper} {i : Nat}, Steps P w0 ops base vals writes mem l i → ∀ k o, l[k]? = some o → StepAt P w0 ops base vals writes mem (i + k) o
  | [], _, _, k, o, hk => by simp at hk
  | o0 :: l, i, h, 0, o, hk => by
    simp only [List.getElem?_cons_zero, Option.some.injEq] at hk
    subst hk
    exact h.1
  | o0 :: l, i, h, k + 1, o, hk => by
    simp only [List.getElem?_cons_succ] at hk
    have := h.2.get k o hk
    rwa [show i + 1 + k = i + (k + 1) by omega] at this
def left (S : Nat → Bool) : Nat → Nat
  | 0 => 0
  | N + 1 => left S N + bif S N then 0 else 1
theorem left_up (S : Nat → Bool) (j : Nat) (hj : S j = false) : ∀ N, (j < N → left (upS S j) N + 1 = left S N) ∧ (N ≤ j → left (upS S j) N = left S N)
  | 0 => ⟨fun h => absurd h (Nat.not_lt_zero _), fun _ => rfl⟩
  | N + 1 => by
    obtain ⟨h1, h2⟩ := left_up S j hj N
    constructor
    · intro h
      simp only [left]
      by_cases e : j = N
      · subst e
        rw [h2 (Nat.le_refl _), upS_self, hj]; simp
      · rw [upS_ne S (show N ≠ j from fun h => e h.symm)]
        have := h1 (by omega)
        omega
    · intro h
      simp only [left]
      rw [h2 (by omega), upS_ne S (show N ≠ j by omega)]
theorem left_zero (S : Nat → Bool) : ∀ N, left S N = 0 → ∀ k, k < N → S k = true
  | 0, _, k, hk => absurd hk (Nat.not_lt_zero _)
  | N + 1, h, k, hk => by
    simp only [left] at h
    by_cases e : k = N
    · subst e
      cases hS : S k with
      | true => rfl
      | false => rw [hS] at h; simp at h
    · exact left_zero S N (by omega) k (by omega)
theorem left_least (S : Nat → Bool) : ∀ N, left S N ≠ 0 → ∃ k, k < N ∧ S k = false ∧ ∀ i, i < k → S i = true
  | 0, h => absurd rfl h
  | N + 1, h => by
    by_cases h0 : left S N = 0
    · have := left_zero S N h0
      refine ⟨N, Nat.lt_succ_self _, ?_, this⟩
      simp only [left, h0] at h
      cases hS : S N with
      | false => rfl
      | true => rw [hS] at h; simp at h
    · obtain ⟨k, h1, h2, h3⟩ := left_least S N h0
      exact ⟨k, by omega, h2, h3⟩
def orderB (ops : List Oper) (writes : List Nat) : Bool :=
  ((List.range ops.length).all fun j => (aftAt ops j).all fun e => Nat.blt e j) && writes.all (fun k => Nat.blt k ops.length)
theorem plan_any {Q : Exit → Act → World → Prop} (hB : planB ops.toList (base.map Prod.fst) = true) (hO : orderB ops.toList writes = true) (hl : ∀ γ, (vals γ).length = ops.toList.length)
    (hD : (ops.toList.all fun o => match o.dst with | some d => Nat.blt d n | none => true) = true) (hs : ∀ j o, ops.toList[j]? = some o → StepAt P w0 ops base vals writes mem j o)
    (hend : ∀ γ a w, (∀ S : Nat → Bool, (∀ k, k < ops.size → S k = true) → Kn n ops.toList base (vals γ) S a) → Sat w0 (mem (writes.map fun _ => true) γ) w → Q .normal a w) :
    ∀ (f : Nat) (listed : Array Bool) (S : Nat → Bool) (γ : G) (a : Act) (w : World), listed.size = ops.size → (∀ k, k < ops.size → ∀ d, listed.getD k d = S k) → (∀ i o', ops.toList[i]? = some o' → S i = true → ∀ e ∈ aft o', S e = true) →
      left S ops.size ≤ f → Kn n ops.toList base (vals γ) S a → Sat w0 (mem (writes.map S) γ) w → wpAny P .any ops Q f listed a w := by
  simp only [orderB, Bool.and_eq_true] at hO
  have hlt : ∀ j o, ops.toList[j]? = some o → ∀ e ∈ aft o, e < j := fun j o ho e he => by
    have := List.all_eq_true.1 hO.1 j (List.mem_range.2 (List.getElem?_eq_some_iff.1 ho).1)
    unfold aftAt at this
    rw [ho] at this
    exact Nat.le_of_ble_eq_true (List.all_eq_true.1 this e he)
  have hfin : ∀ (S : Nat → Bool) (γ : G) (a : Act) (w : World), left S ops.size = 0 → Kn n ops.toList base (vals γ) S a → Sat w0 (mem (writes.map S) γ) w → Q .normal a w := fun S γ a w h0 hK hM => by
    have hall := left_zero S _ h0
    have hwr : writes.map S = writes.map fun _ => true := List.map_congr_left fun k hk => hall k (by have := Nat.le_of_ble_eq_true (List.all_eq_true.1 hO.2 k hk); simp at this; omega)
    rw [hwr] at hM
    refine hend γ a w (fun S' hS' => ⟨hK.size, hK.defers, fun t v ht hw => hK.old t v ht fun i hi => ?_, fun i o d ho hd _ => hK.new i o d ho hd ?_⟩) hM
    · obtain ⟨o, ho, _⟩ := mem_writers.1 hi
      have := hw i hi
      rw [hS' i (by have := (List.getElem?_eq_some_iff.1 ho).1; simpa using this)] at this
      cases this
    · exact hall i (by have := (List.getElem?_eq_some_iff.1 ho).1; simpa using this)
  have hready : ∀ (listed : Array Bool) (S : Nat → Bool), listed.size = ops.size → (∀ k, k < ops.size → ∀ d, listed.getD k d = S k) → Region.ready .any ops listed = [] → left S ops.size = 0 := fun listed S hsz hg hr => by
    rcases Nat.eq_zero_or_pos (left S ops.size) with h | h
    · exact h
    · obtain ⟨k, h1, h2, h3⟩ := left_least S ops.size (by omega)
      have hk : ops[k]? = some ops[k] := Array.getElem?_eq_getElem h1
      have hm : k ∈ Region.ready .any ops listed := mem_ready.2 ⟨by rw [hg k h1, h2], _, hk, fun e he hb => by
        have hea : e.on ∈ aft ops[k] := List.mem_map.2 ⟨e, List.mem_filter.2 ⟨by simpa using he, hb⟩, rfl⟩
        have := hlt k _ (by rw [Array.getElem?_toList]; exact hk) e.on hea
        rw [hg _ (by omega)]
        exact h3 _ this⟩
      rw [hr] at hm; cases hm
  intro f
  induction f with
  | zero =>
    intro listed S γ a w hsz hg hc hf hK hM
    have h0 : left S ops.size = 0 := by omega
    refine ⟨?_, hfin S γ a w h0 hK hM⟩
    refine List.eq_nil_iff_forall_not_mem.2 fun i hi => ?_
    obtain ⟨h1, o, ho, _⟩ := mem_ready.1 hi
    have hil := (Array.getElem?_eq_some_iff.1 ho).1
    rw [hg i hil, left_zero S _ h0 i hil] at h1
    cases h1
  | succ f ih =>
    intro listed S γ a w hsz hg hc hf hK hM
    refine ⟨fun hr => hfin S γ a w (hready listed S hsz hg hr) hK hM, fun i hi => ?_⟩
    obtain ⟨h1, o, ho, hdeps⟩ := mem_ready.1 hi
    have hil := (Array.getElem?_eq_some_iff.1 ho).1
    have hSi : S i = false := by rw [← hg i hil true]; exact h1
    have ho' : ops.toList[i]? = some o := by simpa using ho
    have hd : ∀ e ∈ aft o, S e = true := fun e he => by
      obtain ⟨e', he', rfl⟩ := List.mem_map.1 he
      obtain ⟨he1, he2⟩ := List.mem_filter.1 he'
      have hlt' := hlt i o ho' _ he
      rw [← hg _ (by omega) false]
      exact hdeps e' (by simpa using he1) he2
    have hFr := hK.fr (hl γ) hB ho' hSi hd hc
    have hexec : execOp a.eval o = execOp (rho (allS ops.toList base (vals γ))) o := by
      rw [execOp_rho hFr o (known_need (hl γ) hB ho') (seen_spec hB ho').1]
      exact execOp_congr o (fun cs b e => by have := (seen_spec hB ho').1; rw [e] at this; cases this) fun x hx => rho_need (by simpa using hx) _
    have hst := hs i o ho' S γ w hSi hd hc hM
    have next : ∀ (u : Value) (γ' : G) (w' : World), (∀ k : Nat, S k = true → (vals γ')[k]? = (vals γ)[k]?) → (vals γ')[i]? = some u → Sat w0 (mem (writes.map (upS S i)) γ') w' → wpAny P .any ops Q f (listed.setIfInBounds i true) (a.put o.dst u) w' := by
      intro u γ' w' hag hu hM'
      refine ih _ (upS S i) γ' _ w' (by rw [Array.size_setIfInBounds]; exact hsz) (fun k hk d => ?_) (fun k o2 hk hSk e he => ?_) ?_ ?_ hM'
      · by_cases e : k = i
        · subst e; rw [upS_self]; simp [hsz, hk]
        · rw [upS_ne S e, getD_set_ne d (Ne.symm e)]; exact hg k hk d
      · by_cases e1 : k = i
        · subst e1
          rw [ho'] at hk
          simp only [Option.some.injEq] at hk
          subst hk
          have := hlt k o ho' e he
          rw [upS_ne S (by omega)]
          exact hd e he
        · rw [upS_ne S e1] at hSk
          have hSe := hc k o2 hk hSk e he
          by_cases e2 : e = i
          · subst e2; rw [hSi] at hSe; cases hSe
          · rw [upS_ne S e2]; exact hSe
      · have := (left_up S i hSi ops.size).1 hil
        omega
      · have huniq : ∀ d, o.dst = some d → ∀ k o2, ops.toList[k]? = some o2 → o2.dst = some d → k = i := fun d hd0 k o2 hk hd2 => by
          have hb := List.all_eq_true.1 hB i (List.mem_range.2 (by simpa using hil))
          rw [ho'] at hb
          simp only [Bool.and_eq_true, hd0] at hb
          have hb2 := hb.2
          split at hb2
          · rename_i q hq
            have m1 := mem_writers.2 ⟨o, ho', hd0⟩
            have m2 := mem_writers.2 ⟨o2, hk, hd2⟩
            rw [hq] at m1 m2
            simp only [List.mem_singleton] at m1 m2
            omega
          · cases hb2
        refine ⟨by rw [← hK.size]; cases o.dst <;> simp [Act.put], by rw [← hK.defers]; cases o.dst <;> simp [Act.put], fun t v ht hw => ?_, fun k o2 d hk hd2 hSk => ?_⟩
        · have hne : o.dst ≠ some t := fun e => by
            have := hw i (mem_writers.2 ⟨o, ho', e⟩)
            rw [upS_self] at this; cases this
          have hold := hK.old t v ht fun k hk => by
            have := hw k hk
            by_cases e : k = i
            · subst e; rw [upS_self] at this; cases this
            · rwa [upS_ne S e] at this
          cases hdst : o.dst with
          | none => simpa [Act.put] using hold
          | some d =>
            have : d ≠ t := fun e => hne (by rw [hdst, e])
            simpa [Act.put, Array.getElem?_setIfInBounds_ne this] using hold
        · by_cases e : k = i
          · subst e
            rw [ho'] at hk
            simp only [Option.some.injEq] at hk
            subst hk
            rw [hd2, hu]
            have hdn := List.all_eq_true.1 hD o (List.mem_of_getElem? ho')
            rw [hd2] at hdn
            have hdn : d < n := Nat.le_of_ble_eq_true hdn
            simp [Act.put, hK.size, hdn]
          · rw [upS_ne S e] at hSk
            have hnew := (hK.new k o2 d hk hd2 hSk).trans (hag k hSk).symm
            cases hdst : o.dst with
            | none => simpa [Act.put] using hnew
            | some d' =>
              have : d' ≠ d := fun e2 => e (huniq d' hdst k o2 hk (by rw [hd2, e2]))
              simpa [Act.put, Array.getElem?_setIfInBounds_ne this] using hnew
    unfold wpOp
    simp only [ho]
    split at hst
    · rename_i hgv
      have hw := guardF_wanted hFr ((guard_need o _).trans hgv)
      rw [if_pos hw]
      refine .inl ?_
      unfold GivesK at hst
      rw [← hexec] at hst
      unfold Oper.wp
      generalize (execOp a.eval o).run P w = r at hst
      cases r with
      | ok x w' =>
        cases x <;> simp only at hst <;> simp only [Oper.upon]
        case value u => obtain ⟨γ', q1, q2, q3⟩ := hst; exact next _ γ' w' q1 q2 q3
        case skip => obtain ⟨γ', q1, q2, q3⟩ := hst; exact next _ γ' w' q1 q2 q3
        case enter g args => exact hst.mono fun e w'' ⟨u, he, γ', q1, q2, q3⟩ => by subst he; exact next _ γ' w'' q1 q2 q3
      | halt x w' => simp only at hst
    · rename_i hgv
      have hw := guardF_wanted hFr ((guard_need o _).trans hgv)
      rw [hw]
      simp only [Bool.false_eq_true, if_false]
      exact next _ γ w (fun _ _ => rfl) hst.1 hst.2
    · exact hst.elim
theorem plan_wp {F : Slots} {M : Mem} {Q : Exit → Act → World → Prop} (γ0 : G) (Fe : G → Slots) (hb : pick (base.map Prod.fst) F = some base) (hB : planB ops.toList (base.map Prod.fst) = true) (hO : orderB ops.toList writes = true)
    (hD : (ops.toList.all fun o => match o.dst with | some d => Nat.blt d n | none => true) = true) (hl : ∀ γ, Nat.beq (vals γ).length ops.toList.length = true)
    (h0 : ∀ w, Sat w0 M w → Sat w0 (mem (writes.map fun _ => false) γ0) w) (he : ∀ γ, pick ((Fe γ).map Prod.fst) (zipD ops.toList (vals γ) ++ base) = some (Fe γ))
    (hs : Steps P w0 ops base vals writes mem (ops.toList.drop 0) 0) (k : ∀ γ, TE n w0 Q .normal (Fe γ) (mem (writes.map fun _ => true) γ)) : ∀ a w, Fr n F a → Sat w0 M w → wpAny P .any ops Q ops.size (Array.replicate ops.size false) a { w with drawn := w.drawn + 1 } := by
  rw [List.drop_zero] at hs
  intro a w hF hM
  refine plan_any hB hO (fun γ => Nat.eq_of_beq_eq_true (hl γ)) hD (fun j o ho => by have := hs.get j o ho; rwa [Nat.zero_add] at this) (fun γ a' w' hK hM' => ?_) ops.size _ (fun _ => false) γ0 a _ (by simp) (fun k hk d => by simp [hk]) (fun _ _ _ h => by cases h) ?_ ?_ (h0 _ (hM.drawn _))
  · have hK := hK (fun _ => true) (fun _ _ => rfl)
    refine k γ a' w' ⟨hK.size, hK.defers, fun t v ht => ?_⟩ hM'
    have h1 := pick_look _ _ _ (he γ) t v ht
    rw [look_append] at h1
    by_cases hw : ∃ i, i ∈ writers ops.toList t
    · obtain ⟨i, hi⟩ := hw
      obtain ⟨o, ho, hd⟩ := mem_writers.1 hi
      have hu : ∀ k o2, ops.toList[k]? = some o2 → o2.dst = some t → k = i := fun k o2 hk hd2 => by
        have hb := List.all_eq_true.1 hB i (List.mem_range.2 (List.getElem?_eq_some_iff.1 ho).1)
        rw [ho] at hb
        simp only [Bool.and_eq_true, hd] at hb
        have hb2 := hb.2
        split at hb2
        · rename_i q hq
          have m2 := mem_writers.2 ⟨o2, hk, hd2⟩
          rw [hq] at hi m2
          simp only [List.mem_singleton] at hi m2
          omega
        · cases hb2
      have hln := Nat.eq_of_beq_eq_true (hl γ)
      rw [look_zipD ops.toList (vals γ) t i hln ⟨o, ho, hd⟩ hu] at h1
      have hi2 := (List.getElem?_eq_some_iff.1 ho).1
      rw [List.getElem?_eq_getElem (by omega)] at h1
      simp only [Option.some.injEq] at h1
      rw [hK.new i o t ho hd rfl, List.getElem?_eq_getElem (by omega), h1]
    · have hz : look t (zipD ops.toList (vals γ)) = none := by
        cases hz : look t (zipD ops.toList (vals γ)) with
        | none => rfl
        | some u =>
          exfalso
          have key : ∀ (os : List Oper) (vs : List Value), look t (zipD os vs) = some u → ∃ o ∈ os, o.dst = some t := by
            intro os
            induction os with
            | nil => intro vs h; cases vs <;> cases h
            | cons o os ih =>
              intro vs h
              cases vs with
              | nil => cases h
              | cons v vs =>
                simp only [zipD] at h
                cases hd : o.dst with
                | none =>
                  rw [hd] at h
                  obtain ⟨o2, h2, h3⟩ := ih vs h
                  exact ⟨o2, List.mem_cons_of_mem _ h2, h3⟩
                | some d =>
                  rw [hd] at h
                  simp only at h
                  by_cases e : d = t
                  · subst e; exact ⟨o, List.mem_cons_self .., hd⟩
                  · rw [look_cons_ne _ _ e] at h
                    obtain ⟨o2, h2, h3⟩ := ih vs h
                    exact ⟨o2, List.mem_cons_of_mem _ h2, h3⟩
          obtain ⟨o, ho, hd⟩ := key _ _ hz
          obtain ⟨i, hi⟩ := List.getElem?_of_mem ho
          exact hw ⟨i, mem_writers.2 ⟨o, hi, hd⟩⟩
      rw [hz] at h1
      exact hK.old t v h1 fun i hi => absurd ⟨i, hi⟩ hw
  · have : ∀ N, left (fun _ => false) N = N := fun N => by induction N with | zero => rfl | succ N ih => simp [left, ih]
    rw [this]; exact Nat.le_refl _
  · exact ⟨hF.size, hF.defers, fun t v ht _ => hF.has t v (pick_look _ _ _ hb t v ht), fun _ _ _ _ _ h => by cases h⟩
theorem TC.plan {F : Slots} {M : Mem} {Q : Exit → Act → World → Prop} {id : Nat} (γ0 : G) (Fe : G → Slots) (hm : P.follows .mixedOrders = true) (hb : pick (base.map Prod.fst) F = some base) (hB : planB ops.toList (base.map Prod.fst) = true) (hO : orderB ops.toList writes = true)
    (hD : (ops.toList.all fun o => match o.dst with | some d => Nat.blt d n | none => true) = true) (hl : ∀ γ, Nat.beq (vals γ).length ops.toList.length = true)
    (h0 : ∀ w, Sat w0 M w → Sat w0 (mem (writes.map fun _ => false) γ0) w) (he : ∀ γ, pick ((Fe γ).map Prod.fst) (zipD ops.toList (vals γ) ++ base) = some (Fe γ))
    (hs : Steps P w0 ops base vals writes mem (ops.toList.drop 0) 0) (k : ∀ γ, TE n w0 Q .normal (Fe γ) (mem (writes.map fun _ => true) γ)) : TC P n w0 Q (.region id ops true) F M :=
  fun a w hF hM => wp_region_any hm (plan_wp γ0 Fe hb hB hO hD hl h0 he hs k a w hF hM)
theorem semAt_get {F : Slots} {j : Nat} {s : Sem Next} {d : Option Tmp} (h : semAt ops.toList F j = some (s, d)) : ∃ o, ops.toList[j]? = some o ∧ guardF ops.toList F o = some true ∧ execOp (rho F) o = s ∧ o.dst = d := by
  unfold semAt at h
  split at h
  · rename_i o ho
    simp only [Option.some.injEq, Prod.mk.injEq] at h
    unfold opAt at ho
    split at ho
    · rename_i o' ho'
      split at ho
      · rename_i hg
        cases hb : (o'.op.operands.toList.all (known F) && !isSelect o'.op) with
        | false => rw [hb] at ho; cases ho
        | true =>
          rw [hb] at ho
          simp only [cond_true, Option.some.injEq] at ho
          subst ho
          exact ⟨_, ho', hg, h.1, h.2⟩
      · cases ho
    · cases ho
  · cases h
theorem Steps.cons_of {i : Nat} (h : ∀ o, ops.toList[i]? = some o → StepAt P w0 ops base vals writes mem i o) (h2 : Steps P w0 ops base vals writes mem (ops.toList.drop (i + 1)) (i + 1)) : Steps P w0 ops base vals writes mem (ops.toList.drop i) i := by
  rcases Nat.lt_or_ge i ops.toList.length with hi | hi
  · rw [List.drop_eq_getElem_cons hi]
    exact ⟨h _ (List.getElem?_eq_getElem hi), h2⟩
  · rw [List.drop_eq_nil_of_le hi]; trivial
theorem Steps.done {i : Nat} (hi : Nat.ble ops.toList.length i = true) : Steps P w0 ops base vals writes mem (ops.toList.drop i) i := by
  rw [List.drop_eq_nil_of_le (Nat.le_of_ble_eq_true hi)]; trivial
theorem keep_mem {j : Nat} (hw : writes.contains j = false) (S : Nat → Bool) : writes.map (upS S j) = writes.map S :=
  List.map_congr_left fun k hk => upS_ne S (fun e => by subst e; simp [hk] at hw)
def runP (P : Program) (ops : List Oper) (M : Mem) (F : Slots) : List Oper → List Nat → Option (List Value × List (Nat × Nat))
  | [], _ => some ([], [])
  | o :: r, hs => match guardF ops F o with
    | some true => match opVal P M F (hs.headD 0) o with
      | some (v, es) => match runP P ops M F r hs.tail with
        | some (vs, es') => some (v :: vs, es ++ es')
        | none => none
      | none => none
    | some false => match runP P ops M F r hs.tail with
      | some (vs, es) => some (undef :: vs, es)
      | none => none
    | none => none
structure OkP (r : Option (List Value × List (Nat × Nat))) (vs : List Value) : Prop where
  fst : r.map Prod.fst = some vs := by kernel_rfl
  snd : lefts r = rights r := by kernel_rfl
theorem runP_steps (Mr : Mem) (hv : ∀ S γ w, Sat w0 (mem (writes.map S) γ) w → Sat w0 Mr w) : ∀ (l : List Oper) (i : Nat) (hs : List Nat) (rest : List Oper), (∀ k, k < l.length → writes.contains (i + k) = false) →
    (∀ γ, ∃ vs es, runP P ops.toList Mr (allS ops.toList base (vals γ)) l hs = some (vs, es) ∧ (∀ p ∈ es, p.1 = p.2) ∧ ∀ (k : Nat) v, vs[k]? = some v → (vals γ)[i + k]? = some v) →
    Steps P w0 ops base vals writes mem rest (i + l.length) → Steps P w0 ops base vals writes mem (l ++ rest) i
  | [], i, hs, rest, _, _, h => h
  | o :: l, i, hs, rest, hw, hr, h => by
    have hw0 := hw 0 (by simp)
    rw [Nat.add_zero] at hw0
    refine ⟨fun S γ w hSi _ _ hM => ?_, ?_⟩
    · obtain ⟨vs, es, h1, h2, h3⟩ := hr γ
      rw [keep_mem hw0]
      simp only [runP] at h1
      split at h1
      · rename_i hg
        try rw [hg]
        split at h1
        · rename_i v es1 hv1
          split at h1
          · rename_i vs2 es2 hr2
            simp only [Option.some.injEq, Prod.mk.injEq] at h1
            obtain ⟨rfl, rfl⟩ := h1
            have hval := h3 0 v rfl
            rw [Nat.add_zero] at hval
            unfold opVal at hv1
            cases hb : (o.op.operands.toList.all (known (allS ops.toList base (vals γ))) && !isSelect o.op) with
            | false => rw [hb] at hv1; cases hv1
            | true =>
              rw [hb] at hv1
              simp only [cond_true] at hv1
              unfold GivesK
              split at hv1
              · rename_i u es' hm
                simp only [Option.some.injEq, Prod.mk.injEq] at hv1
                obtain ⟨rfl, rfl⟩ := hv1
                rw [mr_sound (hv S γ w hM) _ _ _ hm (fun p hp => h2 p (by simp [hp]))]
                exact ⟨γ, fun _ _ => rfl, hval, hM⟩
              · rename_i es' hm
                simp only [Option.some.injEq, Prod.mk.injEq] at hv1
                obtain ⟨rfl, rfl⟩ := hv1
                rw [mr_sound (hv S γ w hM) _ _ _ hm (fun p hp => h2 p (by simp [hp]))]
                exact ⟨γ, fun _ _ => rfl, hval, hM⟩
              · cases hv1
          · cases h1
        · cases h1
      · rename_i hg
        try rw [hg]
        split at h1
        · rename_i vs2 es2 hr2
          simp only [Option.some.injEq, Prod.mk.injEq] at h1
          obtain ⟨rfl, rfl⟩ := h1
          have hval := h3 0 undef rfl
          rw [Nat.add_zero] at hval
          exact ⟨hval, hM⟩
        · cases h1
      · cases h1
    · have h' : Steps P w0 ops base vals writes mem rest (i + 1 + l.length) := by rwa [List.length_cons, show i + (l.length + 1) = i + 1 + l.length by omega] at h
      have hw' : ∀ k, k < l.length → writes.contains (i + 1 + k) = false := fun k hk => by have := hw (k + 1) (by simp; omega); rwa [show i + (k + 1) = i + 1 + k by omega] at this
      refine runP_steps Mr hv l (i + 1) hs.tail rest hw' (fun γ => ?_) h'
      obtain ⟨vs, es, h1, h2, h3⟩ := hr γ
      simp only [runP] at h1
      have h4 : ∀ (v0 : Value) (vs2 : List Value), vs = v0 :: vs2 → ∀ (k : Nat) v, vs2[k]? = some v → (vals γ)[i + 1 + k]? = some v := fun v0 vs2 e k v hk => by
        have := h3 (k + 1) v (by rw [e]; simpa using hk)
        rwa [show i + (k + 1) = i + 1 + k by omega] at this
      split at h1
      · split at h1
        · split at h1
          · rename_i vs2 es2 hr2
            simp only [Option.some.injEq, Prod.mk.injEq] at h1
            obtain ⟨rfl, rfl⟩ := h1
            exact ⟨vs2, es2, hr2, fun p hp => h2 p (by simp [hp]), h4 _ vs2 rfl⟩
          · cases h1
        · cases h1
      · split at h1
        · rename_i vs2 es2 hr2
          simp only [Option.some.injEq, Prod.mk.injEq] at h1
          obtain ⟨rfl, rfl⟩ := h1
          exact ⟨vs2, es2, hr2, h2, h4 _ vs2 rfl⟩
        · cases h1
      · cases h1
theorem Steps.run (k : Nat) (hs : List Nat) (Mr : Mem) {i : Nat} (hik : Nat.ble i k = true) (hk : Nat.ble k ops.toList.length = true) (hv : ∀ S γ w, Sat w0 (mem (writes.map S) γ) w → Sat w0 Mr w) (hw : ((List.range (k - i)).all fun j => !writes.contains (i + j)) = true)
    (hr : ∀ γ, OkP (runP P ops.toList Mr (allS ops.toList base (vals γ)) ((ops.toList.drop i).take (k - i)) hs) (((vals γ).drop i).take (k - i)))
    (h : Steps P w0 ops base vals writes mem (ops.toList.drop k) k) : Steps P w0 ops base vals writes mem (ops.toList.drop i) i := by
  have h1 := Nat.le_of_ble_eq_true hik
  have h2 := Nat.le_of_ble_eq_true hk
  have hl : ((ops.toList.drop i).take (k - i)).length = k - i := by rw [List.length_take, List.length_drop]; omega
  rw [split_at ops.toList h1]
  refine runP_steps Mr hv _ i hs _ (fun j hj => ?_) (fun γ => ?_) (by rw [hl, show i + (k - i) = k by omega]; exact h)
  · rw [hl] at hj
    simpa using List.all_eq_true.1 hw j (List.mem_range.2 hj)
  · obtain ⟨h3, h4⟩ := hr γ
    cases hc : runP P ops.toList Mr (allS ops.toList base (vals γ)) ((ops.toList.drop i).take (k - i)) hs with
    | none => rw [hc] at h3; cases h3
    | some x =>
      rw [hc] at h3 h4
      simp only [Option.map_some, Option.some.injEq] at h3
      refine ⟨x.1, x.2, rfl, eqs_of _ h4, fun q v hq => ?_⟩
      rw [h3, List.getElem?_take] at hq
      split at hq
      · rwa [List.getElem?_drop] at hq
      · cases hq
theorem Steps.val (s : G → Sem Next) (d : Option Tmp) (v : G → Value) (Mv : G → Mem) {i : Nat} (hw : writes.contains i = false)
    (hM : ∀ S γ w, (∀ e : Nat, (aftAt ops.toList i).contains e = true → S e = true) → Sat w0 (mem (writes.map S) γ) w → Sat w0 (Mv γ) w) (hv : ∀ γ w, Sat w0 (Mv γ) w → (s γ).run P w = .ok (.value (v γ)) w)
    (hs : ∀ γ, semAt ops.toList (allS ops.toList base (vals γ)) i = some (s γ, d)) (hval : ∀ γ, (vals γ)[i]? = some (v γ))
    (h : Steps P w0 ops base vals writes mem (ops.toList.drop (i + 1)) (i + 1)) : Steps P w0 ops base vals writes mem (ops.toList.drop i) i := by
  refine Steps.cons_of (fun o ho S γ w hSi hd hc hMw => ?_) h
  obtain ⟨o', h1, h2, h3, h4⟩ := semAt_get (hs γ)
  rw [ho] at h1
  simp only [Option.some.injEq] at h1
  subst h1
  rw [h2, keep_mem hw]
  simp only
  unfold GivesK
  rw [h3, hv γ w (hM S γ w (fun e he => hd e (by unfold aftAt at he; rw [ho] at he; simpa using he)) hMw)]
  exact ⟨γ, fun _ _ => rfl, hval γ, hMw⟩
theorem Steps.valL (s : G → Sem Next) (d : Option Tmp) (v : G → Value) (Mv : G → Mem) {i : Nat} (hw : writes.contains i = false)
    (hM : ∀ S γ w, S i = false → (∀ e : Nat, (aftAt ops.toList i).contains e = true → S e = true) → (∀ j k : Nat, (aftAt ops.toList k).contains j = true → S k = true → S j = true) → Sat w0 (mem (writes.map S) γ) w → Sat w0 (Mv γ) w) (hv : ∀ γ w, Sat w0 (Mv γ) w → (s γ).run P w = .ok (.value (v γ)) w)
    (hs : ∀ γ, semAt ops.toList (allS ops.toList base (vals γ)) i = some (s γ, d)) (hval : ∀ γ, (vals γ)[i]? = some (v γ))
    (h : Steps P w0 ops base vals writes mem (ops.toList.drop (i + 1)) (i + 1)) : Steps P w0 ops base vals writes mem (ops.toList.drop i) i := by
  refine Steps.cons_of (fun o ho S γ w hSi hd hc hMw => ?_) h
  obtain ⟨o', h1, h2, h3, h4⟩ := semAt_get (hs γ)
  rw [ho] at h1
  simp only [Option.some.injEq] at h1
  subst h1
  rw [h2, keep_mem hw]
  simp only
  unfold GivesK
  rw [h3, hv γ w (hM S γ w hSi (fun e he => hd e (by unfold aftAt at he; rw [ho] at he; simpa using he)) (fun j k hjk hk => by
    unfold aftAt at hjk
    split at hjk
    · rename_i o2 ho2
      exact hc k o2 ho2 hk j (by simpa using hjk)
    · simp at hjk) hMw)]
  exact ⟨γ, fun _ _ => rfl, hval γ, hMw⟩
theorem lat {S : Nat → Bool} {j k : Nat} (h : S k = true → S j = true) (hj : S j = false) : S k = false := by
  cases hk : S k with
  | false => rfl
  | true => rw [h hk] at hj; cases hj
theorem Steps.call (f : FuncId) (args : G → Array Value) (d : Option Tmp) (v : G → Value) (Mv : G → Mem) {i : Nat} (hw : writes.contains i = false)
    (hM : ∀ S γ w, (∀ e : Nat, (aftAt ops.toList i).contains e = true → S e = true) → Sat w0 (mem (writes.map S) γ) w → Sat w0 (Mv γ) w) (hv : ∀ γ w, Sat w0 (Mv γ) w → Calls P f (args γ) w (Ret w (v γ)))
    (hs : ∀ γ, callAt P ops.toList (allS ops.toList base (vals γ)) i = some (f, args γ, d)) (hval : ∀ γ, (vals γ)[i]? = some (v γ))
    (h : Steps P w0 ops base vals writes mem (ops.toList.drop (i + 1)) (i + 1)) : Steps P w0 ops base vals writes mem (ops.toList.drop i) i := by
  refine Steps.cons_of (fun o ho S γ w hSi hd hc hMw => ?_) h
  have hsγ := hs γ
  unfold callAt at hsγ
  split at hsγ
  · rename_i s d' hsem
    split at hsγ
    · rename_i f' args' hm
      simp only [Option.some.injEq, Prod.mk.injEq] at hsγ
      obtain ⟨rfl, hargs, rfl⟩ := hsγ
      obtain ⟨o', h1, h2, h3, h4⟩ := semAt_get hsem
      rw [ho] at h1
      simp only [Option.some.injEq] at h1
      subst h1
      rw [h2, keep_mem hw]
      simp only
      unfold GivesK
      rw [h3, mr_sound (Sat.start w) s _ _ hm (by simp)]
      simp only
      rw [hargs]
      exact (hv γ w (hM S γ w (fun e he => hd e (by unfold aftAt at he; rw [ho] at he; simpa using he)) hMw)).mono fun e w' he => ⟨_, he.1, γ, fun _ _ => rfl, hval γ, hMw.later he.2⟩
    · cases hsγ
  · cases hsγ
def maskL (D : List Nat) : Nat → List Value → List Value
  | _, [] => []
  | k, v :: vs => (bif D.contains k then undef else v) :: maskL D (k + 1) vs
theorem maskL_get (D : List Nat) : ∀ (vs : List Value) (k i : Nat), (maskL D k vs)[i]? = (vs[i]?).map fun v => bif D.contains (k + i) then undef else v
  | [], k, i => by simp [maskL]
  | v :: vs, k, 0 => by simp [maskL]
  | v :: vs, k, i + 1 => by
    simp only [maskL, List.getElem?_cons_succ]
    rw [maskL_get D vs (k + 1) i, show k + 1 + i = k + (i + 1) by omega]
def depB (ops : List Oper) (j : Nat) (D : List Nat) : Bool := D.all fun i => Nat.beq i j || (aftAt ops i).any fun e => D.contains e && Nat.blt e i
theorem dep_spec {j : Nat} {D : List Nat} (hD : depB ops.toList j D = true) {S : Nat → Bool} (hSj : S j = false) (hc : ∀ i o', ops.toList[i]? = some o' → S i = true → ∀ e ∈ aft o', S e = true) : ∀ (m i : Nat), i < m → i ∈ D → S i = false := by
  intro m
  induction m with
  | zero => intro i hi; exact absurd hi (Nat.not_lt_zero _)
  | succ m ih =>
    intro i hi hm
    have := List.all_eq_true.1 hD i hm
    simp only [Bool.or_eq_true, List.any_eq_true, Bool.and_eq_true] at this
    rcases this with h | ⟨e, he, h1, h2⟩
    · rw [Nat.eq_of_beq_eq_true h]; exact hSj
    · have hlt : e < i := Nat.le_of_ble_eq_true h2
      have hSe := ih e (by omega) (by simpa using h1)
      cases hSi : S i with
      | false => rfl
      | true =>
        unfold aftAt at he
        split at he
        · rename_i o ho
          rw [hc i o ho hSi e he] at hSe; cases hSe
        · cases he
theorem agree {j : Nat} {D : List Nat} (hD : depB ops.toList j D = true) {S : Nat → Bool} (hSj : S j = false) (hc : ∀ i o', ops.toList[i]? = some o' → S i = true → ∀ e ∈ aft o', S e = true) {γ γ' : G}
    (hm : maskL D 0 (vals γ') = maskL D 0 (vals γ)) : ∀ i : Nat, S i = true → (vals γ')[i]? = (vals γ)[i]? := fun i hi => by
  have hn : D.contains (0 + i) = false := by
    cases hc2 : D.contains (0 + i) with
    | false => rfl
    | true =>
      have := dep_spec hD hSj hc (i + 1) i (Nat.lt_succ_self _) (by simpa using hc2)
      rw [hi] at this; cases this
  have := congrArg (fun l => l[i]?) hm
  simp only [maskL_get, hn, cond_false, Option.map_id'] at this
  simpa using this
theorem later_of {i : Nat} {S : Nat → Bool} (hSi : S i = false) (hc : ∀ k o', ops.toList[k]? = some o' → S k = true → ∀ e ∈ aft o', S e = true) : ∀ k : Nat, (aftAt ops.toList k).contains i = true → S k = false := fun k hk => by
  cases hS : S k with
  | false => rfl
  | true =>
    unfold aftAt at hk
    split at hk
    · rename_i o ho
      rw [hc k o ho hS i (by simpa using hk)] at hSi; cases hSi
    · cases hk
theorem Steps.op {Γ : Type} (set : Γ → G → G) (E : G → Mem) (E' : Γ → G → Mem) (X : (Nat → Bool) → G → Mem) (D : List Nat) (s : G → Sem Next) (d : Option Tmp) (v : Γ → G → Value) {i : Nat}
    (hpre : ∀ S γ, S i = false → (∀ e : Nat, (aftAt ops.toList i).contains e = true → S e = true) → (∀ k : Nat, (aftAt ops.toList k).contains i = true → S k = false) → (mem (writes.map S) γ).Perm (E γ ++ X S γ))
    (hpost : ∀ S γ g, (∀ k : Nat, (aftAt ops.toList k).contains i = true → S k = false) → (E' g γ ++ X S γ).Perm (mem (writes.map (upS S i)) (set g γ)))
    (hv : ∀ γ M' w, Sat w0 (E γ ++ M') w → ∃ g w', (s γ).run P w = .ok (.value (v g γ)) w' ∧ Sat w0 (E' g γ ++ M') w')
    (hs : ∀ γ, semAt ops.toList (allS ops.toList base (vals γ)) i = some (s γ, d)) (hval : ∀ γ g, (vals (set g γ))[i]? = some (v g γ))
    (hD : depB ops.toList i D = true) (hmask : ∀ γ g, maskL D 0 (vals (set g γ)) = maskL D 0 (vals γ))
    (h : Steps P w0 ops base vals writes mem (ops.toList.drop (i + 1)) (i + 1)) : Steps P w0 ops base vals writes mem (ops.toList.drop i) i := by
  refine Steps.cons_of (fun o ho S γ w hSi hd hc hMw => ?_) h
  obtain ⟨o', h1, h2, h3, h4⟩ := semAt_get (hs γ)
  rw [ho] at h1
  simp only [Option.some.injEq] at h1
  subst h1
  have hd' : ∀ e : Nat, (aftAt ops.toList i).contains e = true → S e = true := fun e he => hd e (by unfold aftAt at he; rw [ho] at he; simpa using he)
  rw [h2]
  simp only
  unfold GivesK
  obtain ⟨g, w', hr, hM'⟩ := hv γ _ w (hMw.perm (hpre S γ hSi hd' (later_of hSi hc)))
  rw [h3, hr]
  exact ⟨set g γ, agree hD hSi hc (hmask γ g), hval γ g, hM'.perm (hpost S γ g (later_of hSi hc))⟩
theorem Steps.put (E : G → Mem) (E' : G → Mem) (X : (Nat → Bool) → G → Mem) (s : G → Sem Next) (d : Option Tmp) {i : Nat}
    (hpre : ∀ S γ, S i = false → (∀ e : Nat, (aftAt ops.toList i).contains e = true → S e = true) → (∀ k : Nat, (aftAt ops.toList k).contains i = true → S k = false) → (mem (writes.map S) γ).Perm (E γ ++ X S γ))
    (hpost : ∀ S γ, (∀ k : Nat, (aftAt ops.toList k).contains i = true → S k = false) → (E' γ ++ X S γ).Perm (mem (writes.map (upS S i)) γ))
    (hv : ∀ γ M' w, Sat w0 (E γ ++ M') w → ∃ w', (s γ).run P w = .ok .skip w' ∧ Sat w0 (E' γ ++ M') w')
    (hs : ∀ γ, semAt ops.toList (allS ops.toList base (vals γ)) i = some (s γ, d)) (hval : ∀ γ, (vals γ)[i]? = some undef)
    (h : Steps P w0 ops base vals writes mem (ops.toList.drop (i + 1)) (i + 1)) : Steps P w0 ops base vals writes mem (ops.toList.drop i) i := by
  refine Steps.cons_of (fun o ho S γ w hSi hd hc hMw => ?_) h
  obtain ⟨o', h1, h2, h3, h4⟩ := semAt_get (hs γ)
  rw [ho] at h1
  simp only [Option.some.injEq] at h1
  subst h1
  have hd' : ∀ e : Nat, (aftAt ops.toList i).contains e = true → S e = true := fun e he => hd e (by unfold aftAt at he; rw [ho] at he; simpa using he)
  rw [h2]
  simp only
  unfold GivesK
  obtain ⟨w', hr, hM'⟩ := hv γ _ w (hMw.perm (hpre S γ hSi hd' (later_of hSi hc)))
  rw [h3, hr]
  exact ⟨γ, fun _ _ => rfl, hval γ, hM'.perm (hpost S γ (later_of hSi hc))⟩
theorem Steps.callN {Γ : Type} (set : Γ → G → G) (f : FuncId) (args : G → Array Value) (Mv : G → Mem) (E' : Γ → G → Mem) (D : List Nat) (d : Option Tmp) (v : Γ → G → Value) {i : Nat}
    (hM : ∀ S γ w, (∀ e : Nat, (aftAt ops.toList i).contains e = true → S e = true) → Sat w0 (mem (writes.map S) γ) w → Sat w0 (Mv γ) w)
    (hpost : ∀ S γ g, S i = false → (∀ e : Nat, (aftAt ops.toList i).contains e = true → S e = true) → (E' g γ ++ mem (writes.map S) γ).Perm (mem (writes.map (upS S i)) (set g γ)))
    (hv : ∀ γ w, Sat w0 (Mv γ) w → Calls P f (args γ) w (RetM (cx w) (fun g => v g γ) (fun g => E' g γ)))
    (hs : ∀ γ, callAt P ops.toList (allS ops.toList base (vals γ)) i = some (f, args γ, d)) (hval : ∀ γ g, (vals (set g γ))[i]? = some (v g γ))
    (hD : depB ops.toList i D = true) (hmask : ∀ γ g, maskL D 0 (vals (set g γ)) = maskL D 0 (vals γ))
    (h : Steps P w0 ops base vals writes mem (ops.toList.drop (i + 1)) (i + 1)) : Steps P w0 ops base vals writes mem (ops.toList.drop i) i := by
  refine Steps.cons_of (fun o ho S γ w hSi hd hc hMw => ?_) h
  have hd' : ∀ e : Nat, (aftAt ops.toList i).contains e = true → S e = true := fun e he => hd e (by unfold aftAt at he; rw [ho] at he; simpa using he)
  have hsγ := hs γ
  unfold callAt at hsγ
  split at hsγ
  · rename_i s d' hsem
    split at hsγ
    · rename_i f' args' hm
      simp only [Option.some.injEq, Prod.mk.injEq] at hsγ
      obtain ⟨rfl, hargs, rfl⟩ := hsγ
      obtain ⟨o', h1, h2, h3, h4⟩ := semAt_get hsem
      rw [ho] at h1
      simp only [Option.some.injEq] at h1
      subst h1
      rw [h2]
      simp only
      unfold GivesK
      rw [h3, mr_sound (Sat.start w) s _ _ hm (by simp)]
      simp only
      rw [hargs]
      refine (hv γ w (hM S γ w hd' hMw)).mono fun e w' he => ?_
      obtain ⟨g, rfl, hMn⟩ := he
      refine ⟨_, rfl, set g γ, agree hD hSi hc (hmask γ g), hval γ g, ?_⟩
      refine (Sat.call (Mp := []) (Mr := mem (writes.map S) γ) hMw ?_).perm (hpost S γ g hSi hd')
      exact ⟨⟨hMn.chg.os, hMn.chg.tape, hMn.chg.output, hMn.chg.size, fun k hk _ => hMn.chg.block k hk (fun h => h), hMn.chg.drawn⟩, fun e he => ⟨(hMn.own e he).1, fun b hb => by
        rcases (hMn.own e he).2 b hb with h5 | h5
        · exact h5.elim
        · exact .inr h5⟩, hMn.apart⟩
    · cases hsγ
  · cases hsγ
end
theorem sub_keep {s l m : Mem} {e : Ent} (hs : s = [e]) (h : l.Sublist m) : (e :: l).Sublist (s ++ m) := by subst hs; exact h.cons_cons e
theorem sub_one {l m : Mem} {e : Ent} (h : l.Sublist m) : (e :: l).Sublist ([e] ++ m) := h.cons_cons e
theorem sub_skip {s l m : Mem} (h : l.Sublist m) : l.Sublist (s ++ m) := List.sublist_append_of_sublist_right h
theorem perm_mid {α : Type} (a e b : List α) : (a ++ (e ++ b)).Perm (e ++ (a ++ b)) := List.perm_append_comm_assoc a e b
theorem run_new {P : Program} {w0 : Ctx} {s : Sem Next} {v : Nat → Value} {o : Obj} (h : ∀ (b : Nat) (M : Mem), mw P 0 b s M = some (.value (v b), .inl (b, o) :: M, [])) (M' : Mem) (w : World) (hM : Sat w0 ([] ++ M') w) :
    ∃ (b : Nat) (w' : World), s.run P w = .ok (.value (v b)) w' ∧ Sat w0 ([.inl (b, o)] ++ M') w' := by
  obtain ⟨w', h1, h2⟩ := mw_sound s M' w _ _ _ hM rfl (h w.heap.size M') (by simp)
  exact ⟨w.heap.size, w', h1, h2⟩
def putM : Option (Next × Mem × List (Nat × Nat)) → Option (Next × Mem)
  | some (x, m, _) => some (x, m)
  | none => none
def putL : Option (Next × Mem × List (Nat × Nat)) → List Nat × List Nat
  | some (_, _, es) => (es.map Prod.fst, es.map Prod.snd)
  | none => ([], [])
theorem run_put {P : Program} {w0 : Ctx} {s : Sem Next} {e e' : Ent} (h : ∀ (b : Nat) (M : Mem), putM (mw P 0 b s (e :: M)) = some (.skip, e' :: M)) (h2 : ∀ (b : Nat) (M : Mem), (putL (mw P 0 b s (e :: M))).1 = (putL (mw P 0 b s (e :: M))).2)
    (M' : Mem) (w : World) (hM : Sat w0 ([e] ++ M') w) : ∃ (w' : World), s.run P w = .ok .skip w' ∧ Sat w0 ([e'] ++ M') w' := by
  have h1 := h w.heap.size M'
  have h3 := h2 w.heap.size M'
  cases hm : mw P 0 w.heap.size s (e :: M') with
  | none => rw [hm] at h1; cases h1
  | some x =>
    obtain ⟨x, m, es⟩ := x
    rw [hm] at h1 h3
    simp only [putM, Option.some.injEq, Prod.mk.injEq] at h1
    obtain ⟨rfl, rfl⟩ := h1
    exact mw_sound s (e :: M') w _ _ _ hM rfl hm (eqs_of _ h3)
end Go.Eng
end
section
namespace Go.Glue
open Go.ChangeShapes Go.WideShapes Go.ChangeAt Go.RowKit Go.Deep Go.Eng
section
variable {H : Type} {enc : TypeId × Value → H} {P : Program}
theorem post_of_below {f : Func} {s : ChangeSpec} {apart fresh handsOn again : Bool} {W W' : World} {args : Array Value} {v : Value} {ds gs : List (DataW H)} {before pa pv : List MemPlace}
    (hW : DataW.Whole enc P f.params.toList s.vars apart W args.toList ds gs before)
    (hres : ∀ (b : Nat) (sp : Nat → Bool) (hd : Bool), DataW.TrodAll enc P W' b sp hd f.resultTypes.toList (v.resultList f.resultTypes.size) (s.fn H (ds ++ gs)).results [])
    (hargs : ∀ sp : Nat → Bool, (∀ p ∈ before, sp p.block = true) → DataW.TrodAll enc P W' 0 sp true f.params.toList args.toList (s.fn H (ds ++ gs)).args pa)
    (hvars : ∀ sp : Nat → Bool, (∀ p ∈ before, sp p.block = true) → DataW.TrodVars enc P W' sp s.vars (s.fn H (ds ++ gs)).vars pv)
    (hps : before = pa ++ pv) (hb : RowKit.Below W.heap.size W W')
    (hok : ∀ (j : Nat) (t : TypeId) (r : Value), f.resultTypes[j]? = some t → (v.resultList f.resultTypes.size)[j]? = some r → Value.okWide P W' .any 0 t r) :
    s.post enc P f apart fresh handsOn again W args v W' := by
  have hlt : ∀ p ∈ before, p.block < W.heap.size := fun p hp => hW.lt p hp
  have hold : ∀ p ∈ before, (fun b => decide (b < W.heap.size)) p.block = true := fun p hp => by simpa using hlt p hp
  refine ⟨ds, gs, before, [], pa, pv, hW, hres _ _ _, hargs _ hold, hvars _ hold, World.keptBut_mono (fun p hp => ⟨hp, ?_⟩) (hb.frame (· ∈ before)), fun _ => ?_⟩
  · rw [hps, List.mem_append] at hp
    exact Or.inr hp
  · obtain ⟨_, _, _, _, _, hz, hn⟩ := hW
    refine ⟨hok, _, _, ([] ++ pa) ++ pv, ⟨[] ++ pa, pv, trodAll_append (hargs _ (fun _ _ => rfl)) (hres _ _ _), hvars _ (fun _ _ => rfl), rfl, ?_, ?_⟩, ?_⟩
    · intro b off hp
      have hin : MemPlace.cell b off ∈ before := by rw [hps]; simpa using hp
      rw [hb.frozen (hlt _ hin)]
      exact hz b off hin
    · intro ha
      have := hn ha
      rw [hps] at this
      simpa using this
    · intro p hp _
      rw [hps]
      simpa using hp
theorem trodAll_len {W : World} {base : Nat} {sp : Nat → Bool} {hd : Bool} : ∀ {ts : List TypeId} {vs : List Value} {ds : List (DataW H)} {ps : List MemPlace}, DataW.TrodAll enc P W base sp hd ts vs ds ps → ds.length = ts.length
  | [], _, _, _, h => by
    obtain ⟨_, rfl, _⟩ := trodAll_nil h
    rfl
  | t :: ts, _, _, _, h => by
    obtain ⟨v, vs, d, ds, p, q, rfl, rfl, rfl, _, h1⟩ := trodAll_cons h
    simp [trodAll_len h1]
theorem args_stay (hl : laidOutB P = true) {W W' : World} (hb : RowKit.Below W.heap.size W W') {sp : Nat → Bool} : ∀ {ts : List TypeId} {vs : List Value} {ds : List (DataW H)} {ps : List MemPlace},
    ts.all (fun t => P.readableRec t && decide (t < P.types.size)) = true → DataW.TrodAll enc P W 0 (fun _ => true) true ts vs ds ps → (∀ p ∈ ps, p.block < W.heap.size) → (∀ p ∈ ps, sp p.block = true) →
    DataW.TrodAll enc P W' 0 sp true ts vs ds ps
  | [], _, _, _, _, h, _, _ => by
    obtain ⟨rfl, rfl, rfl⟩ := trodAll_nil h
    exact trodAll_mk0
  | t :: ts, _, _, _, ht, h, hlt, hsp => by
    obtain ⟨v, vs, d, ds, p, q, rfl, rfl, rfl, h0, h1⟩ := trodAll_cons h
    simp only [List.all_cons, Bool.and_eq_true, decide_eq_true_eq] at ht
    exact ⟨p, q, WideElems.Trod_stays hl ht.1.1 ht.1.2 h0 (fun x hx => hb.same (hlt x (List.mem_append_left _ hx))) (fun x hx => hsp x (List.mem_append_left _ hx)),
      args_stay hl hb ht.2 h1 (fun x hx => hlt x (List.mem_append_right _ hx)) (fun x hx => hsp x (List.mem_append_right _ hx)), rfl⟩
theorem lift {C : Checked} {os : Os} {f : FuncId} {fn : Func} {s : ChangeSpec} {tb : TypeId} (own : ownKnob C.prog.godebug = none) (started : os.Started) (noInit : C.prog.inits.idxOf? f = none) (hfn : C.prog.funcs[f]? = some fn)
    (hl : laidOutB C.prog = true) (hread : fn.params.toList.all (fun t => C.prog.readableRec t && decide (t < C.prog.types.size)) = true) (hv : s.vars = []) (hres : fn.resultTypes = #[tb]) (htb : C.prog.underlying tb = some .bool)
    (hs : ∀ ds : List (DataW H), ds.length = fn.params.size → s.fn H ds = { results := [.lit (.bool true)], args := ds })
    (witness : ∃ (w : World) (tape : Tape) (i : Input), w.os = os ∧ (w.forCall tape i).Shaped C.prog ∧ i.vars = [] ∧ Input.okWide C.prog (w.forCall tape i) .any w.heap.size f i ∧
      s.pre6 enc C.prog fn [] false (w.forCall tape i).memory i.args ∧ ({} : Assume).holds C.prog (lone (Frame.enter C.prog f i.args .normal) [] (w.forCall tape i)))
    (law : ∀ (W : World) (base : Nat) (args : Array Value) (ds : List (DataW H)) (p : List MemPlace), (∀ (j : Nat) t v, fn.params[j]? = some t → args[j]? = some v → Value.okWide C.prog W .any base t v) →
      DataW.TrodAll enc C.prog W 0 (fun _ => true) true fn.params.toList args.toList ds p → (∀ (j : Nat) (t : TypeId) (d : DataW H), fn.params.toList[j]? = some t → ds[j]? = some d → ∀ n ∈ d.weights C.prog t, n ≤ reachBytes) →
      Calls C.prog f args W (Ret W (.bool true))) :
    ReturnsInHanded {} C os f .any (s.pre6 enc C.prog fn [] false) (s.post enc C.prog fn false true false false) := by
  refine returnsInHanded_of_change_sized own started noInit hfn witness ?_
  intro W base args ds gs before hval hW _ hsz _
  have hW' := hW
  obtain ⟨p, q, hA, hV, rfl, hfz, hnd⟩ := hW
  rw [hv] at hV
  obtain ⟨rfl, rfl⟩ := trodVars_none hV
  have hlen : ds.length = fn.params.size := by
    have := trodAll_len hA
    simpa using this
  have hlt : ∀ x ∈ p, x.block < W.heap.size := fun x hx => hW'.lt x (List.mem_append_left _ hx)
  refine (law W base args ds p hval hA fun j t d ht hd n hn => ?_).mono fun e W' ⟨he, hb⟩ => ?_
  · have h1 : n ∈ DataW.weightsEach C.prog (fn.params.toList ++ s.plain.varTypes C.prog) (ds ++ []) :=
      DataW.weights_mem_each (j := j) (by rw [List.getElem?_append_left (by exact (List.getElem?_eq_some_iff.1 ht).1)]; exact ht) (by simpa using hd) n hn
    exact of_decide_eq_true (List.all_eq_true.1 hsz n h1)
  · refine ⟨_, he, post_of_below (pa := p) (pv := []) hW' (fun b sp hd => ?_) (fun sp hsp => ?_) (fun sp _ => ?_) rfl hb.kit ?_⟩
    · rw [hres, List.append_nil, hs ds hlen]; exact trodAll_mk1 (shut_bool htb true)
    · rw [List.append_nil, hs ds hlen]; exact args_stay hl hb.kit hread hA hlt (fun x hx => hsp x (List.mem_append_left _ hx))
    · rw [hv, List.append_nil, hs ds hlen]; rfl
    · exact ok_one hres rfl (okWide_bool_mk htb true)
end
def Opens (P : Program) (t : TypeId) {α : Type} (c : α → Array Value) (ok : α → Prop) : Prop :=
  ∀ {H : Type} {enc : TypeId × Value → H} {W : World} {base : Nat} {sp : Nat → Bool} {hd : Bool} {fuel : Nat} {cs : List Value} {x : DataW H × List MemPlace},
    DataW.trod enc P W base sp hd fuel t cs = some x → ∃ a, cs = (c a).toList ∧ ok a
def I64 (x : Int) : Prop := -9223372036854775808 ≤ x ∧ x ≤ 9223372036854775807
theorem wf_i64' {x : Int} (h : (Lit.int .i64 x).wf = true) : I64 x := by
  simp only [Lit.wf, Bool.and_eq_true, decide_eq_true_eq] at h
  exact h
theorem opens_int {P : Program} {t : TypeId} (ht : P.underlying t = some (.int .i64)) : Opens P t ic I64 := by
  intro H enc W base sp hd fuel cs x h
  obtain ⟨n, rfl, _, hw⟩ := DataW.trod_int ht h
  exact ⟨n, rfl, wf_i64' hw⟩
theorem cat2 {cs A B : List Value} {o n N : Nat} (hn : N = n) (e : (cs.drop o).take N = A) (rest : cs.drop (o + n) = B) : cs.drop o = A ++ B := by
  subst hn e rest
  rw [← List.drop_drop, List.take_append_drop]
theorem field_at {P : Program} {H : Type} {enc : TypeId × Value → H} {W : World} {base : Nat} {sp : Nat → Bool} {hd : Bool} {n : Nat} {cs : List Value} {fs : Array Field} {xs : List (DataW H × List MemPlace)} (hlen : xs.length = fs.size)
    (h : ∀ (i : Nat) (f : Field), fs[i]? = some f → DataW.trod enc P W base sp hd n f.type ((cs.drop f.offset).take (P.cellsOf f.type)) = xs[i]?) (i : Nat) (f : Field) (hf : fs[i]? = some f) :
    ∃ x, DataW.trod enc P W base sp hd n f.type ((cs.drop f.offset).take (P.cellsOf f.type)) = some x := by
  have hi : i < xs.length := by rw [hlen]; exact (Array.getElem?_eq_some_iff.1 hf).1
  exact ⟨xs[i], by rw [h i f hf]; exact List.getElem?_eq_getElem hi⟩
section
variable {H : Type} {enc : TypeId × Value → H} {P : Program} {W : World} {base b0 : Nat} {sp : Nat → Bool} {hd : Bool} {t : TypeId} {v : Value} {d : DataW H} {p : List MemPlace}
theorem list_of {α : Type} {ok : α → Prop} (n : Nat) {q : Nat → α → Prop} (h : ∀ i, i < n → ∃ a, q i a ∧ ok a) : ∃ l : List α, l.length = n ∧ (∀ a ∈ l, ok a) ∧ ∀ i a, l[i]? = some a → q i a := by
  induction n with
  | zero => exact ⟨[], rfl, by simp, by simp⟩
  | succ n ih =>
    obtain ⟨l, hl, hk, hq⟩ := ih fun i hi => h i (by omega)
    obtain ⟨a, ha, hka⟩ := h n (by omega)
    refine ⟨l ++ [a], by simp [hl], fun b hb => ?_, fun i b hb => ?_⟩
    · rcases List.mem_append.1 hb with hb | hb
      · exact hk b hb
      · rw [List.mem_singleton.1 hb]; exact hka
    · by_cases hi : i < l.length
      · rw [List.getElem?_append_left hi] at hb; exact hq i b hb
      · have : i = l.length := by
          have := (List.getElem?_eq_some_iff.1 hb).1
          simp at this; omega
        subst this
        simp at hb
        subst hb
        rw [hl]; exact ha
end
end Go.Glue
end
section
namespace Go.Sky
open Go.Glue
def P.ok (x : P) : Prop := I64 x.X ∧ I64 x.Y
def Plot.ok (x : Plot) : Prop := I64 x.Radar ∧ I64 x.Time ∧ I64 x.Range ∧ I64 x.Azimuth ∧ I64 x.Height ∧ I64 x.Code
def BiasOffset.ok (x : BiasOffset) : Prop := I64 x.Range ∧ I64 x.Azimuth ∧ I64 x.Time
def RadarSite.ok (x : RadarSite) : Prop := I64 x.ID ∧ x.At.ok ∧ I64 x.Reach ∧ I64 x.RangeError ∧ I64 x.AzimuthError
def Track.ok (x : Track) : Prop := I64 x.ID ∧ I64 x.State ∧ I64 x.Time ∧ x.At.ok ∧ x.Speed.ok ∧ I64 x.Height ∧ I64 x.Rate ∧ I64 x.Radius ∧ I64 x.Code ∧ I64 x.Hits ∧ I64 x.Misses
def Spot.ok (x : Spot) : Prop := I64 x.Time ∧ x.At.ok ∧ I64 x.Height ∧ I64 x.Code ∧ I64 x.Error
def FilterTrack.ok (x : FilterTrack) : Prop := x.Track.ok ∧ I64 x.Slack ∧ x.Last.ok
def BeginState.ok (x : BeginState) : Prop := I64 x.Hits ∧ I64 x.Scans
def ClimbReport.ok (x : ClimbReport) : Prop := I64 x.Time ∧ I64 x.Level
def Sep.ok (x : Sep) : Prop := I64 x.Lateral ∧ I64 x.Vertical
def AlertPair.ok (x : AlertPair) : Prop := I64 x.A ∧ I64 x.B ∧ I64 x.Seconds
def Span.ok (x : Span) : Prop := I64 x.From ∧ I64 x.To
def Node.ok (x : Node) : Prop := I64 x.Time ∧ x.At.ok ∧ I64 x.Height
def TubeNode.ok (x : TubeNode) : Prop := x.Node.ok ∧ I64 x.Radius ∧ I64 x.Band
def TrackerRules.ok (x : TrackerRules) : Prop := I64 x.Need ∧ I64 x.Of ∧ I64 x.Misses ∧ I64 x.Accel ∧ I64 x.Place ∧ I64 x.Speed
def followed.ok (x : followed) : Prop := x.f.ok ∧ x.history.ok
end Go.Sky
end
section
namespace Go.Eng
def Fact (p : Prop) : Res where
  foot _ := False
  holds _ := p
  lt _ _ _ h := h.elim
  kept _ _ h _ := h
theorem Sat.fact {w0 : Ctx} {w : World} {M : Mem} {p : Prop} (h : Sat w0 M w) (hp : p) : Sat w0 (.inr (Fact p) :: M) w := h.push (Below.refl _ _) _ hp (fun _ hb => hb.elim)
theorem Sat.fact_at {w0 : Ctx} {w : World} {M : Mem} {p : Prop} (h : Sat w0 M w) (j : Nat) (hj : M[j]? = some (.inr (Fact p))) : p := h.res hj
section
variable {α : Type} {p : List (List α)} {r : List (Sl α)} {s : Sl α} {x : List α}
theorem sl_get (h : p = r.map Sl.l) (k : Nat) : (r[k]?.getD Sl.zero).l = p[k]?.getD [] := by
  subst h
  rw [List.getElem?_map]
  cases r[k]? <;> rfl
theorem sl_at (h : p = r.map Sl.l) {k : Nat} (hx : p[k]? = some x) : (r[k]?.getD Sl.zero).l = x := by rw [sl_get h, hx]; rfl
theorem sl_len (h : p = r.map Sl.l) : p.length = (r.map Sl.c).length := by subst h; simp
theorem sl_len' (h : p = r.map Sl.l) : p.length = r.length := by subst h; simp
theorem sl_lt (h : p = r.map Sl.l) {k : Nat} (hk : k < p.length) : k < r.length := by rw [← sl_len' h]; exact hk
theorem sl_le' (h : p = r.map Sl.l) {k : Nat} (hk : r.length ≤ k) : p.length ≤ k := by rw [sl_len' h]; exact hk
theorem sl_all {w : World} {sz : Nat} {c : α → Array Value} (h : ∀ s ∈ r, s.rd w sz c) (k : Nat) : (r[k]?.getD Sl.zero).rd w sz c := by
  cases hk : r[k]? with
  | none => exact Sl.rd_zero w sz c
  | some s => exact h s (List.mem_of_getElem? hk)
theorem el_rd {w : World} {sz : Nat} {c : α → Array Value} (h : s.rd w sz c) (e : s.l = x) : Rd w sz s.A (x.map c) := by subst e; exact h.rd
theorem el_le {w : World} {sz : Nat} {c : α → Array Value} (h : s.rd w sz c) (e : s.l = x) : x.length ≤ s.cap := by subst e; exact h.le
theorem sl_app (h : p = r.map Sl.l) : p ++ [s.l] = (r ++ [s]).map Sl.l := by subst h; simp
theorem sl_cons (e : s.l = x) (h : p = r.map Sl.l) : x :: p = (s :: r).map Sl.l := by subst h e; rfl
end
end Go.Eng
namespace Go.Eng
end Go.Eng
namespace Go.Sky
open Go Go.Eng
end Go.Sky
namespace Go.Eng
theorem Sat.pass {w0 : Ctx} {w : World} {Mp Mr : Mem} (h : Sat w0 (Mp ++ Mr) w) : Sat ⟨w, feet Mp⟩ Mp w :=
  ⟨Chg.refl _ _, fun e he => ⟨(h.own e (List.mem_append_left _ he)).1, fun _ hb => .inl ⟨e, he, hb⟩⟩, (List.pairwise_append.1 h.apart).1⟩
end Go.Eng
end
section
namespace Go.Glue
open Go.ChangeShapes Go.WideShapes Go.ChangeAt Go.RowKit Go.Deep Go.Eng
def OpensW (P : Program) (t : TypeId) {α : Type} (c : α → Array Value) (ok : World → α → Prop) : Prop :=
  ∀ {H : Type} {enc : TypeId × Value → H} {W : World} {base : Nat} {sp : Nat → Bool} {hd : Bool} {fuel : Nat} {cs : List Value} {x : DataW H × List MemPlace},
    DataW.trod enc P W base sp hd fuel t cs = some x → (∀ n ∈ x.1.weights P t, n ≤ reachBytes) → ∃ a, cs = (c a).toList ∧ ok W a
theorem Opens.w {P : Program} {t : TypeId} {α : Type} {c : α → Array Value} {ok : α → Prop} (h : Opens P t c ok) : OpensW P t c (fun _ => ok) := fun h1 _ => h h1
theorem weights_all {H : Type} {P : Program} {e : TypeId} : ∀ {l : List (DataW H)} {d : DataW H}, d ∈ l → ∀ n ∈ d.weights P e, n ∈ DataW.weightsAll P e l
  | [], _, hd, _, _ => by cases hd
  | d0 :: l, d, hd, n, hn => by
    rw [DataW.weightsAll]
    rcases List.mem_cons.1 hd with rfl | hd
    · exact List.mem_append_left _ hn
    · exact List.mem_append_right _ (weights_all hd n hn)
section
variable {H : Type} {enc : TypeId × Value → H} {P : Program} {W : World} {base b0 : Nat} {sp : Nat → Bool} {hd : Bool} {t : TypeId} {v : Value} {d : DataW H} {p : List MemPlace}
theorem opensW_slice' {α : Type} {c : α → Array Value} {ok : World → α → Prop} {e : TypeId} {sz by_ : Nat} (ho : OpensW P e c ok) (ht : P.underlying t = some (.slice e)) (hc : P.cellsOf e = sz) (hp : 0 < sz) (hby : P.bytesOf e = by_) (hbp : 0 < by_)
    {fuel : Nat} {cs : List Value} {x : DataW H × List MemPlace} (h : DataW.trod enc P W base sp hd fuel t cs = some x) (hw : ∀ n ∈ x.1.weights P t, n ≤ reachBytes) :
    ∃ (A : Option Addr) (cap : Nat) (l : List α), cs = [.slice A l.length cap] ∧ Rd W sz A (l.map c) ∧ l.length ≤ cap ∧ ∀ a ∈ l, ok W a := by
  rcases open_slice ht h with ⟨rfl, rfl⟩ | ⟨a, len, cap, m, n, D, Pl, rfl, hb, hlc, hm, rfl, rfl, hx⟩
  · exact ⟨none, 0, [], rfl, Rd.nil _ _, Nat.le_refl _, by simp⟩
  · have hlm : len ≤ (if sp a.block then cap else len) := by split <;> omega
    have hwx : ∀ i, i < len → ∀ k ∈ (D i).weights P e, k ≤ reachBytes := fun i hi k hk => hw k (by
      show k ∈ DataW.weights P t (.slice _ _)
      simp only [DataW.weights, ht]
      exact List.mem_cons_of_mem _ (List.mem_append_left _ (weights_all (List.mem_map.2 ⟨i, List.mem_range.2 hi, rfl⟩) k hk)))
    obtain ⟨l, hl, hk, hq⟩ := list_of (ok := ok W) len (q := fun i r => W.cells? base (a.add (i * P.cellsOf e)) (P.cellsOf e) = some (c r).toList) (fun i hi => by
      obtain ⟨cs', h1, h2⟩ := hx i (by omega)
      obtain ⟨r, rfl, k⟩ := ho h2 (hwx i hi)
      exact ⟨r, h1, k⟩)
    refine ⟨some a, cap, l, by rw [hl], ⟨?_, fun i r hi => ?_⟩, by omega, hk⟩
    · have := hw _ (by show _ ∈ DataW.weights P t (.slice _ _); simp only [DataW.weights, ht]; exact List.mem_cons_self ..)
      rw [hby] at this
      simp only [List.length_map, List.length_range] at this
      have h2 : len * 1 ≤ (len + ((if sp a.block then cap else len) - len)) * by_ := Nat.mul_le_mul (by omega) hbp
      simp only [List.length_map, hl]
      have : reachBytes < 4611686018427387904 := by decide
      omega
    · rw [List.getElem?_map] at hi
      obtain ⟨y, hy, rfl⟩ := Option.map_eq_some_iff.1 hi
      obtain ⟨_, h3, h4⟩ := World.cells?_some (hq i y hy)
      rw [hc] at h3 h4
      have hcell : ∀ (j : Nat) (u : Value), (c y)[j]? = some u → W.cell? (a.add (i * sz + j)) = some u := fun j u hu => by
        have hj : j < sz := by
          have := (Array.getElem?_eq_some_iff.1 hu).1
          rw [← h3]; simpa using this
        rw [← add_add', h4 j hj, Array.getElem?_toList]; exact hu
      refine ⟨by rw [← h3]; simp, a, rfl, ?_, hcell⟩
      have h0 := hcell 0 ((c y)[0]'(by rw [← Array.length_toList, h3]; exact hp)) (Array.getElem?_eq_getElem _)
      unfold World.cell? at h0
      rw [add_block'] at h0
      split at h0
      · rename_i hh
        exact (Array.getElem?_eq_some_iff.1 hh).1
      · cases h0
end
def slOk {α : Type} (sz : Nat) (c : α → Array Value) (ok : World → α → Prop) (W : World) (s : Sl α) : Prop := s.rd W sz c ∧ ∀ a ∈ s.l, ok W a
theorem opensW_slice {P : Program} {t : TypeId} {α : Type} {c : α → Array Value} {ok : World → α → Prop} {e : TypeId} {sz by_ : Nat} (ho : OpensW P e c ok) (ht : P.underlying t = some (.slice e)) (hc : P.cellsOf e = sz) (hp : 0 < sz) (hby : P.bytesOf e = by_) (hbp : 0 < by_) :
    OpensW P t (Sl.c (α := α)) (slOk sz c ok) := by
  intro H enc W base sp hd fuel cs x h hw
  obtain ⟨A, cap, l, h1, h2, h3, h4⟩ := opensW_slice' ho ht hc hp hby hbp h hw
  exact ⟨⟨A, cap, l⟩, h1, ⟨h2, h3⟩, h4⟩
theorem opensW_string {P : Program} {t : TypeId} (ht : P.underlying t = some .string) : OpensW P t (fun s : ByteArray => #[.string s]) (fun _ s => s.size ≤ reachBytes) := by
  intro H enc W base sp hd fuel cs x h hw
  obtain ⟨s, rfl, rfl, _⟩ := DataW.trod_string ht h
  exact ⟨s, rfl, hw _ (by simp [DataW.weights])⟩
theorem fieldW_at {P : Program} {H : Type} {enc : TypeId × Value → H} {W : World} {base : Nat} {sp : Nat → Bool} {hd : Bool} {n : Nat} {t : TypeId} {cs : List Value} {fs : Array Field} (ht : P.underlying t = some (.struct fs)) {xs : List (DataW H × List MemPlace)} (hlen : xs.length = fs.size)
    (h : ∀ (i : Nat) (f : Field), fs[i]? = some f → DataW.trod enc P W base sp hd n f.type ((cs.drop f.offset).take (P.cellsOf f.type)) = xs[i]?) (hw : ∀ k ∈ (DataW.agg (xs.map (·.1))).weights P t, k ≤ reachBytes) (i : Nat) (f : Field) (hf : fs[i]? = some f) :
    ∃ x, DataW.trod enc P W base sp hd n f.type ((cs.drop f.offset).take (P.cellsOf f.type)) = some x ∧ ∀ k ∈ x.1.weights P f.type, k ≤ reachBytes := by
  have hi : i < xs.length := by rw [hlen]; exact (Array.getElem?_eq_some_iff.1 hf).1
  refine ⟨xs[i], by rw [h i f hf]; exact List.getElem?_eq_getElem hi, fun k hk => hw k ?_⟩
  show k ∈ DataW.weights P t (.agg _)
  simp only [DataW.weights, ht]
  refine DataW.weights_mem_each (j := i) (t := f.type) (d := xs[i].1) ?_ ?_ k hk
  · rw [List.getElem?_map, Array.getElem?_toList, hf]; rfl
  · rw [List.getElem?_map, List.getElem?_eq_getElem hi]; rfl
section
variable {H : Type} {enc : TypeId × Value → H} {P : Program} {W : World} {base b0 : Nat} {sp : Nat → Bool} {hd : Bool} {t : TypeId} {v : Value} {d : DataW H} {p : List MemPlace}
theorem argW_struct {α : Type} {c : α → Array Value} {ok : World → α → Prop} (ho : OpensW P t c ok) {fs : Array Field} (ht : P.underlying t = some (.struct fs)) (hval : Value.okWide P W .any b0 t v) (h : DataW.Trod enc P W base sp hd t v d p) (hw : ∀ n ∈ d.weights P t, n ≤ reachBytes) :
    ∃ a, v = .agg (c a) ∧ ok W a := by
  obtain ⟨cs, rfl, _⟩ := okWide_struct ht hval
  obtain ⟨fuel, hf⟩ := h
  obtain ⟨a, e, k⟩ := ho hf hw
  exact ⟨a, by rw [show cs = c a from Array.toList_inj.1 e], k⟩
end
end Go.Glue
namespace Go.Sky
open Go Go.Eng Go.Glue
structure TerrainGrid where
  (At : P)
  (Size NX NY : Int)
  (Heights : List Int)
deriving DecidableEq
def TerrainGrid.zero : TerrainGrid := ⟨⟨0, 0⟩, 0, 0, 0, []⟩
def TerrainGrid.ok (x : TerrainGrid) : Prop := x.At.ok ∧ I64 x.Size ∧ I64 x.NX ∧ I64 x.NY ∧ (x.Heights.length < 4611686018427387904 ∧ ∀ a ∈ x.Heights, I64 a)
structure TerrainGridR where
  (At : P)
  (Size NX NY : Int)
  (Heights : Sl Int)
def TerrainGridR.p (x : TerrainGridR) : TerrainGrid := ⟨x.At, x.Size, x.NX, x.NY, x.Heights.l⟩
def TerrainGridR.c (x : TerrainGridR) : Array Value := #[.int .i64 x.At.X, .int .i64 x.At.Y, .int .i64 x.Size, .int .i64 x.NX, .int .i64 x.NY, .slice x.Heights.A x.Heights.l.length x.Heights.cap]
theorem TerrainGridR.one (x : TerrainGridR) : x.c.toList.all Value.oneCell' = true := rfl
structure WireFrame where
  (Radar Time : Int)
  (Plots : List Plot)
deriving DecidableEq
def WireFrame.zero : WireFrame := ⟨0, 0, []⟩
def WireFrame.ok (x : WireFrame) : Prop := I64 x.Radar ∧ I64 x.Time ∧ (x.Plots.length < 4611686018427387904 ∧ ∀ a ∈ x.Plots, a.ok)
structure WireFrameR where
  (Radar Time : Int)
  (Plots : Sl Plot)
def WireFrameR.p (x : WireFrameR) : WireFrame := ⟨x.Radar, x.Time, x.Plots.l⟩
def WireFrameR.c (x : WireFrameR) : Array Value := #[.int .i64 x.Radar, .int .i64 x.Time, .slice x.Plots.A x.Plots.l.length x.Plots.cap]
theorem WireFrameR.one (x : WireFrameR) : x.c.toList.all Value.oneCell' = true := rfl
end Go.Sky
end
section
namespace Go.Eng
theorem look_more (t : Nat) (F : Slots) : ∀ A : Slots, look t (A ++ F) = match look t A with | some v => some v | none => look t F
  | [] => rfl
  | (k, v) :: A => by
    by_cases e : k = t
    · subst e; rw [List.cons_append, look_cons_self, look_cons_self]
    · rw [List.cons_append, look_cons_ne _ _ e, look_cons_ne _ _ e]; exact look_more t F A
def freshB (A F : Slots) (l : List Oper) : Bool := l.all fun o => match o.dst with
  | none => true
  | some d => (look d A).isSome || !(look d F).isSome
theorem putD_frame {n : Nat} {F G : Slots} {d : Option Tmp} {v : Value} {t : Nat} (h : putD n F d v = some G) (ht : d ≠ some t) : look t G = look t F := by
  unfold putD at h
  split at h
  · simp only [Option.some.injEq] at h; subst h; rfl
  · rename_i d'
    cases hb : Nat.blt d' n with
    | false => rw [hb] at h; cases h
    | true =>
      rw [hb] at h
      simp only [cond_true, Option.some.injEq] at h
      subst h
      exact look_cons_ne _ _ (fun e => ht (by rw [e]))
theorem runR_frame {P : Program} {n : Nat} {ops : List Oper} {M : Mem} {t : Nat} : ∀ (l : List Oper) (hs : List Nat) (F G : Slots) (es : List (Nat × Nat)), runR P n ops M l hs F = some (G, es) → (∀ o ∈ l, o.dst ≠ some t) → look t G = look t F
  | [], hs, F, G, es, h, _ => by simp only [runR, Option.some.injEq, Prod.mk.injEq] at h; rw [h.1]
  | o :: l, hs, F, G, es, h, ht => by
    have h0 := ht o (List.mem_cons_self ..)
    have h1 : ∀ o ∈ l, o.dst ≠ some t := fun o ho => ht o (List.mem_cons_of_mem _ ho)
    simp only [runR] at h
    split at h
    · split at h
      · split at h
        · rename_i hF1
          split at h
          · rename_i hr
            simp only [Option.some.injEq, Prod.mk.injEq] at h
            rw [← h.1, runR_frame l _ _ _ _ hr h1, putD_frame hF1 h0]
          · cases h
        · cases h
      · cases h
    · split at h
      · rename_i hF1
        rw [runR_frame l _ _ _ _ h h1, putD_frame hF1 h0]
      · cases h
    · cases h
structure OkA (P : Program) (n : Nat) (l : List Oper) (ops : List Oper) (M : Mem) (i k : Nat) (hs : List Nat) (A F0 F : Slots) : Prop where
  le : Nat.ble i k = true := by kernel_rfl
  fst : keptR A (runR P n ops M ((l.drop i).take (k - i)) hs F0) = some A := by kernel_rfl
  snd : lefts (runR P n ops M ((l.drop i).take (k - i)) hs F0) = rights (runR P n ops M ((l.drop i).take (k - i)) hs F0) := by kernel_rfl
  thd : freshB A F ((l.drop i).take (k - i)) = true := by kernel_rfl
theorem okA_spec {P : Program} {n : Nat} {l ops : List Oper} {M : Mem} {i k : Nat} {hs : List Nat} {A F0 F : Slots} (h : OkA P n l ops M i k hs A F0 F) (hsub : ∀ s v, look s F = some v → look s F0 = some v) :
    ∃ G es, runR P n ops M ((l.drop i).take (k - i)) hs F0 = some (G, es) ∧ (∀ p ∈ es, p.1 = p.2) ∧ ∀ t v, look t (A ++ F) = some v → look t G = some v := by
  obtain ⟨_, h1, h2, h3⟩ := h
  cases hr : runR P n ops M ((l.drop i).take (k - i)) hs F0 with
  | none => rw [hr] at h1; cases h1
  | some x =>
    rw [hr] at h1 h2
    refine ⟨x.1, x.2, rfl, eqs_of _ h2, fun t v ht => ?_⟩
    rw [look_more] at ht
    cases hA : look t A with
    | some u => rw [hA] at ht; simp only [Option.some.injEq] at ht; subst ht; exact pick_look _ _ _ h1 t u hA
    | none =>
      rw [hA] at ht
      simp only at ht
      rw [runR_frame _ _ _ _ _ hr (fun o ho e => ?_)]
      · exact hsub t v ht
      · have := List.all_eq_true.1 h3 o ho
        rw [e] at this
        simp only [hA, ht] at this
        cases this
section
variable {P : Program} {n : Nat} {w0 : Ctx} {ops : Array Oper} {Q : Exit → Act → World → Prop} {F : Slots} {M : Mem}
theorem TL.core (k : Nat) (hs : List Nat) (A F0 : Slots) {i : Nat} (hsub : ∀ s v, look s F = some v → look s F0 = some v) (hr : OkA P n ops.toList ops.toList M i k hs A F0 F) (h : TL P n w0 ops Q k (A ++ F) M) : TL P n w0 ops Q i F0 M := by
  intro a w hF hM
  obtain ⟨G, es, hG, he, hs'⟩ := okA_spec hr hsub
  rw [split_at ops.toList (Nat.le_of_ble_eq_true hr.le)]
  exact runR_wpList _ _ _ _ _ _ a w hF hM hG he (fun a' ha' => h a' w (ha'.sub hs') hM)
theorem TL.r (k : Nat) (hs : List Nat) (A : Slots) {i : Nat} (hr : OkA P n ops.toList ops.toList M i k hs A F F) (h : TL P n w0 ops Q k (A ++ F) M) : TL P n w0 ops Q i F M :=
  TL.core k hs A F (fun _ _ h => h) hr h
theorem look_bool {t : Nat} {b : Bool} (ht : look t F = some (.bool b)) : ∀ s v, look s F = some v → look s ((t, .bool b) :: F) = some v := fun s v hv => by
  by_cases e : t = s
  · subst e; rw [look_cons_self]; exact ht.symm.trans hv
  · rw [look_cons_ne _ _ e]; exact hv
theorem TL.j (t : Nat) (b : Bool) (k : Nat) (hs1 hs2 : List Nat) (A : Bool → Slots) {i : Nat} (ht : look t F = some (.bool b)) (h1 : OkA P n ops.toList ops.toList M i k hs1 (A true) ((t, .bool true) :: F) F)
    (h2 : OkA P n ops.toList ops.toList M i k hs2 (A false) ((t, .bool false) :: F) F) (h : TL P n w0 ops Q k (A b ++ F) M) : TL P n w0 ops Q i F M := by
  refine TL.split t b ht (fun e => ?_) (fun e => ?_)
  · subst e; exact TL.core k hs1 (A true) _ (look_bool ht) h1 h
  · subst e; exact TL.core k hs2 (A false) _ (look_bool ht) h2 h
structure SemOk (n : Nat) (ops : List Oper) (F : Slots) (i : Nat) (s : Sem Next) (d : Nat) : Prop where
  at_ : semAt ops F i = some (s, some d) := by kernel_rfl
  lt : Nat.blt d n = true := by kernel_rfl
structure CallOk (P : Program) (n : Nat) (ops : List Oper) (F : Slots) (i : Nat) (f : FuncId) (args : Array Value) (d : Nat) : Prop where
  at_ : callAt P ops F i = some (f, args, some d) := by kernel_rfl
  lt : Nat.blt d n = true := by kernel_rfl
theorem put_fr {a : Act} {d : Nat} {v : Value} (hF : Fr n F a) (hd : Nat.blt d n = true) : Fr n ((d, v) :: F) (a.put (some d) v) := hF.put (Nat.le_of_ble_eq_true hd) v
structure OkN (r : Option ((Slots × Mem) × List (Nat × Nat))) (F' : Slots) (M' : Mem) : Prop where
  fst : r.map Prod.fst = some (F', M') := by kernel_rfl
  snd : lefts r = rights r := by kernel_rfl
theorem OkN.okW {r : Option ((Slots × Mem) × List (Nat × Nat))} {F' : Slots} {M' : Mem} (h : OkN r F' M') : ∃ es, r = some ((F', M'), es) ∧ ∀ p ∈ es, p.1 = p.2 := by
  obtain ⟨h1, h2⟩ := h
  cases r with
  | none => cases h1
  | some x =>
    obtain ⟨y, es⟩ := x
    simp only [Option.map_some, Option.some.injEq] at h1
    subst h1
    exact ⟨es, rfl, eqs_of _ h2⟩
theorem TL.wr (j : Nat) (F' : Nat → Slots) (M' : Nat → Mem) {i : Nat} (hr : ∀ b, OkN (wrAt P n ops.toList F M j b i) (F' b) (M' b)) (h : ∀ b, TL P n w0 ops Q (i + 1) (F' b) (M' b)) : TL P n w0 ops Q i F M := by
  intro a w hF hM
  obtain ⟨es, hG, he⟩ := (hr w.heap.size).okW
  unfold wrAt at hG
  split at hG
  · rename_i s d hs
    obtain ⟨o, h1, h2, h3, h4⟩ := semAt_spec hF hs
    rw [h1]
    refine wpList_of_wp h2 ?_
    unfold Oper.wp
    rw [h3]
    split at hG
    · rename_i v m es' hm
      split at hG
      · rename_i G' hp
        simp only [Option.some.injEq, Prod.mk.injEq] at hG
        obtain ⟨⟨rfl, rfl⟩, rfl⟩ := hG
        obtain ⟨w', hrun, hM'⟩ := mw_sound s M w _ _ _ hM rfl hm he
        rw [hrun]
        subst h4
        exact h w.heap.size _ w' (putD_fr hF hp) hM'
      · cases hG
    · rename_i m es' hm
      split at hG
      · rename_i G' hp
        simp only [Option.some.injEq, Prod.mk.injEq] at hG
        obtain ⟨⟨rfl, rfl⟩, rfl⟩ := hG
        obtain ⟨w', hrun, hM'⟩ := mw_sound s M w _ _ _ hM rfl hm he
        rw [hrun]
        subst h4
        exact h w.heap.size _ w' (putD_fr hF hp) hM'
      · cases hG
    · cases hG
  · cases hG
theorem TL.nw (d : Nat) (v : Nat → Value) (e : Nat → Ent) {i : Nat} (hr : ∀ b, OkN (wrAt P n ops.toList F M 0 b i) ((d, v b) :: F) (e b :: M)) (h : ∀ b, TL P n w0 ops Q (i + 1) ((d, v b) :: F) (e b :: M)) : TL P n w0 ops Q i F M :=
  TL.wr 0 _ _ hr h
theorem TL.s (j : Nat) (e : Ent) {i : Nat} (hr : ∀ b, OkN (wrAt P n ops.toList F M j b i) F (M.set j e)) (h : TL P n w0 ops Q (i + 1) F (M.set j e)) : TL P n w0 ops Q i F M :=
  TL.wr j (fun _ => F) (fun _ => M.set j e) hr (fun _ => h)
theorem TL.c {α : Type} (d : Nat) (x : α) (e : α → Value) {i : Nat} {f : FuncId} {args : Array Value} (hc : ∀ w, Sat w0 M w → Calls P f args w (Ret w (e x))) (hs : CallOk P n ops.toList F i f args d)
    (h : ∀ r, x = r → TL P n w0 ops Q (i + 1) ((d, e r) :: F) M) : TL P n w0 ops Q i F M := by
  intro a w hF hM
  obtain ⟨o, h1, h2, h3, h4⟩ := callAt_spec hF hs.at_
  rw [h1]
  refine wpList_of_wp h2 ?_
  unfold Oper.wp
  rw [h3 w]
  refine (hc w hM).mono fun e w' he => ?_
  obtain ⟨rfl, hb⟩ := he
  simp only
  rw [h4]
  exact h x rfl _ w' (put_fr hF hs.lt) (hM.later hb)
theorem TL.v (s : Sem Next) (d : Nat) (v : Value) {i : Nat} (hv : ∀ w, Sat w0 M w → s.run P w = .ok (.value v) w) (hs : SemOk n ops.toList F i s d) (h : TL P n w0 ops Q (i + 1) ((d, v) :: F) M) : TL P n w0 ops Q i F M := by
  intro a w hF hM
  obtain ⟨o, h1, h2, h3, h4⟩ := semAt_spec hF hs.at_
  rw [h1]
  refine wpList_of_wp h2 ?_
  unfold Oper.wp
  rw [h3, hv w hM]
  simp only [Oper.upon]
  rw [h4]
  exact h _ w (put_fr hF hs.lt) hM
theorem TL.o {Γ : Type} (s : Sem Next) (d : Nat) (v : Γ → Value) (M' : Γ → Mem) {i : Nat} (hv : ∀ w, Sat w0 M w → ∃ g w', s.run P w = .ok (.value (v g)) w' ∧ Sat w0 (M' g) w') (hs : SemOk n ops.toList F i s d)
    (h : ∀ g, TL P n w0 ops Q (i + 1) ((d, v g) :: F) (M' g)) : TL P n w0 ops Q i F M := by
  intro a w hF hM
  obtain ⟨o, h1, h2, h3, h4⟩ := semAt_spec hF hs.at_
  rw [h1]
  refine wpList_of_wp h2 ?_
  unfold Oper.wp
  obtain ⟨g, w', hr, hM'⟩ := hv w hM
  rw [h3, hr]
  simp only [Oper.upon]
  rw [h4]
  exact h g _ w' (put_fr hF hs.lt) hM'
theorem TL.os {Γ : Type} (s : Sem Next) (d : Nat) (v : Γ → Value) (j : Nat) (e : Γ → Ent) {i : Nat} (hv : ∀ w, Sat w0 M w → ∃ g w', s.run P w = .ok (.value (v g)) w' ∧ Sat w0 (M.set j (e g)) w') (hs : SemOk n ops.toList F i s d)
    (h : ∀ g, TL P n w0 ops Q (i + 1) ((d, v g) :: F) (M.set j (e g))) : TL P n w0 ops Q i F M := TL.o s d v (fun g => M.set j (e g)) hv hs h
theorem TL.on {Γ : Type} (s : Sem Next) (d : Nat) (v : Γ → Value) (e : Γ → Ent) {i : Nat} (hv : ∀ w, Sat w0 M w → ∃ g w', s.run P w = .ok (.value (v g)) w' ∧ Sat w0 (e g :: M) w') (hs : SemOk n ops.toList F i s d)
    (h : ∀ g, TL P n w0 ops Q (i + 1) ((d, v g) :: F) (e g :: M)) : TL P n w0 ops Q i F M := TL.o s d v (fun g => e g :: M) hv hs h
theorem TL.ks {Γ : Type} (s : Sem Next) (j : Nat) (e : Ent) {i : Nat} (hv : ∀ w, Sat w0 M w → ∃ (_ : Γ) (w' : World), s.run P w = .ok .skip w' ∧ Sat w0 (M.set j e) w') (hs : semAt ops.toList F i = some (s, none))
    (h : TL P n w0 ops Q (i + 1) F (M.set j e)) : TL P n w0 ops Q i F M := by
  intro a w hF hM
  obtain ⟨o, h1, h2, h3, h4⟩ := semAt_spec hF hs
  rw [h1]
  refine wpList_of_wp h2 ?_
  unfold Oper.wp
  obtain ⟨_, w', hr, hM'⟩ := hv w hM
  rw [h3, hr]
  simp only [Oper.upon]
  rw [h4]
  exact h _ w' (putD_fr (dst := none) (v := undef) hF rfl) hM'
theorem Sat.given {w0 : Ctx} {w : World} {Mp Mr : Mem} (h : Sat w0 (Mp ++ Mr) w) : Sat ⟨w, feet Mp⟩ Mp w :=
  ⟨Chg.refl _ _, fun e he => ⟨(h.own e (List.mem_append_left _ he)).1, fun _ hb => .inl ⟨e, he, hb⟩⟩, (List.pairwise_append.1 h.apart).1⟩
theorem TL.cm {α Γ : Type} (k : Nat) (d : Nat) (x : α) (v : α → Γ → Value) (Mn : α → Γ → Mem) (Mp : Mem) {i : Nat} {f : FuncId} {args : Array Value}
    (he : M = Mp ++ M.drop k) (hc : ∀ w, Sat ⟨w, feet Mp⟩ Mp w → Calls P f args w (RetM ⟨w, feet Mp⟩ (v x) (Mn x))) (hs : CallOk P n ops.toList F i f args d)
    (h : ∀ r, x = r → ∀ g, TL P n w0 ops Q (i + 1) ((d, v r g) :: F) (Mn r g ++ M.drop k)) : TL P n w0 ops Q i F M := by
  intro a w hF hM
  obtain ⟨o, h1, h2, h3, h4⟩ := callAt_spec hF hs.at_
  rw [h1]
  refine wpList_of_wp h2 ?_
  unfold Oper.wp
  rw [h3 w]
  refine (hc w (Sat.given (Mr := M.drop k) (by rw [← he]; exact hM))).mono fun e w' hq => ?_
  obtain ⟨g, rfl, hb⟩ := hq
  simp only
  rw [h4]
  exact h x rfl g _ w' (put_fr hF hs.lt) (Sat.call (by rw [← he]; exact hM) hb)
theorem TL.cn {α Γ : Type} (d : Nat) (x : α) (v : α → Γ → Value) (Mn : α → Γ → Mem) {i : Nat} {f : FuncId} {args : Array Value}
    (hc : ∀ w, Sat w0 M w → Calls P f args w (RetM (cx w) (v x) (Mn x))) (hs : CallOk P n ops.toList F i f args d)
    (h : ∀ r, x = r → ∀ g, TL P n w0 ops Q (i + 1) ((d, v r g) :: F) (Mn r g ++ M)) : TL P n w0 ops Q i F M := by
  intro a w hF hM
  obtain ⟨o, h1, h2, h3, h4⟩ := callAt_spec hF hs.at_
  rw [h1]
  refine wpList_of_wp h2 ?_
  unfold Oper.wp
  rw [h3 w]
  refine (hc w hM).mono fun e w' hq => ?_
  obtain ⟨g, rfl, h2⟩ := hq
  simp only
  rw [h4]
  refine h x rfl g _ w' (put_fr hF hs.lt) (Sat.call (Mp := []) (Mr := M) hM ?_)
  refine ⟨⟨h2.chg.os, h2.chg.tape, h2.chg.output, h2.chg.size, fun k hk _ => h2.chg.block k hk (fun h => h), h2.chg.drawn⟩, fun e he => ⟨(h2.own e he).1, fun b hb => ?_⟩, h2.apart⟩
  rcases (h2.own e he).2 b hb with h3 | h3
  · exact h3.elim
  · exact .inr h3
theorem TC.sr {id : Nat} {y : Code} (h : TL P n w0 ops (Exit.then (y.wp P Q) Q) 0 F M) : TC P n w0 Q (.seq (.region id ops false) y) F M := TC.seq (TC.region h)
theorem TL.ns {x y : Code} {i : Nat} (h : TC P n w0 (Exit.then (y.wp P Q) Q) x F M) (hi : Nat.ble ops.toList.length i = true := by kernel_rfl) : TL P n w0 ops (Exit.then ((Code.seq x y).wp P Q) Q) i F M := TL.next hi (TC.seq h)
theorem TL.nr {ops2 : Array Oper} {id : Nat} {y : Code} {i : Nat} (h : TL P n w0 ops2 (Exit.then (y.wp P Q) Q) 0 F M) (hi : Nat.ble ops.toList.length i = true := by kernel_rfl) : TL P n w0 ops (Exit.then ((Code.seq (.region id ops2 false) y).wp P Q) Q) i F M := TL.next hi (TC.sr h)
theorem TC.sn {y : Code} (h : TC P n w0 Q y F M) : TC P n w0 (Exit.then (y.wp P Q) Q) .skip F M := TC.skip (TE.next h)
theorem TC.snr {id : Nat} {y : Code} (h : TL P n w0 ops (Exit.then (y.wp P Q) Q) 0 F M) : TC P n w0 (Exit.then ((Code.seq (.region id ops false) y).wp P Q) Q) .skip F M := TC.sn (TC.sr h)
theorem TE.nr {id : Nat} {y : Code} (h : TL P n w0 ops (Exit.then (y.wp P Q) Q) 0 F M) : TE n w0 (Exit.then ((Code.seq (.region id ops false) y).wp P Q) Q) .normal F M := TE.next (TC.sr h)
theorem TE.rt {K : Act → World → Prop} (h : TE n w0 Q .ret F M) : TE n w0 (Exit.then K Q) .ret F M := h
theorem TE.rb {id : Nat} (h : TE n w0 Q .ret F M) : TE n w0 (Exit.inBlock id Q) .ret F M := h
theorem TE.et {id : Nat} {K : Act → World → Prop} (h : TE n w0 Q (.exit id) F M) : TE n w0 (Exit.then K Q) (.exit id) F M := h
theorem TE.nb {id : Nat} (h : TE n w0 Q .normal F M) : TE n w0 (Exit.inBlock id Q) .normal F M := h
theorem TC.lw {X : Type} (Fs : X → Slots) (Ms : X → Mem) (m : X → Nat) (I : X → Prop) {c : Code}
    (round : ∀ x, I x → TC P n w0 (Exit.then (fun a w => ∃ y, I y ∧ m y < m x ∧ Fr n (Fs y) a ∧ Sat w0 (Ms y) w) Q) c (Fs x) (Ms x)) (x : X) (hx : I x) (hp : pick ((Fs x).map Prod.fst) F = some (Fs x)) (hs : (Ms x).Sublist M) : TC P n w0 Q (.loop c) F M :=
  TC.weak (Fs x) hp (TC.forget (Ms x) hs (TC.loop Fs Ms m I round x hx))
end
section
variable {P : Program} {n : Nat} {w0 : Ctx} {ops : Array Oper} {Q : Act → Prop} {N : Nat} {F : Slots} {M : Mem}
theorem TQ.core (k : Nat) (hs : List Nat) (A F0 : Slots) {i : Nat} (hsub : ∀ s v, look s F = some v → look s F0 = some v) (hr : OkA P n (ops.toList.take N) ops.toList M i k hs A F0 F) (h : TQ P n w0 ops Q N k (A ++ F) M) : TQ P n w0 ops Q N i F0 M := by
  intro a hF
  obtain ⟨G, es, hG, he, hs'⟩ := okA_spec hr hsub
  rw [split_at (ops.toList.take N) (Nat.le_of_ble_eq_true hr.le)]
  exact runR_wpQuiet _ _ _ _ _ _ a hF hG he (fun a' ha' => h a' (ha'.sub hs'))
theorem TQ.r (k : Nat) (hs : List Nat) (A : Slots) {i : Nat} (hr : OkA P n (ops.toList.take N) ops.toList M i k hs A F F) (h : TQ P n w0 ops Q N k (A ++ F) M) : TQ P n w0 ops Q N i F M :=
  TQ.core k hs A F (fun _ _ h => h) hr h
theorem TQ.j (t : Nat) (b : Bool) (k : Nat) (hs1 hs2 : List Nat) (A : Bool → Slots) {i : Nat} (ht : look t F = some (.bool b)) (h1 : OkA P n (ops.toList.take N) ops.toList M i k hs1 (A true) ((t, .bool true) :: F) F)
    (h2 : OkA P n (ops.toList.take N) ops.toList M i k hs2 (A false) ((t, .bool false) :: F) F) (h : TQ P n w0 ops Q N k (A b ++ F) M) : TQ P n w0 ops Q N i F M := by
  refine TQ.split t b ht (fun e => ?_) (fun e => ?_)
  · subst e; exact TQ.core k hs1 (A true) _ (look_bool ht) h1 h
  · subst e; exact TQ.core k hs2 (A false) _ (look_bool ht) h2 h
theorem TQ.c {α : Type} (d : Nat) (x : α) (e : α → Value) {i : Nat} {f : FuncId} {args : Array Value} (hc : ∀ w, Sat w0 M w → Calls P f args w (Ret w (e x))) (hi : Nat.blt i N = true) (hs : CallOk P n ops.toList F i f args d)
    (h : ∀ r, x = r → TQ P n w0 ops Q N (i + 1) ((d, e r) :: F) M) : TQ P n w0 ops Q N i F M := by
  intro a hF
  obtain ⟨o, h1, h2, h3, h4⟩ := callAt_spec hF hs.at_
  obtain ⟨r, h5, rfl⟩ := take_at hi h1
  rw [h5]
  unfold wpQuiet
  rw [if_pos h2]
  refine ⟨e x, fun w hM => ?_, by rw [h4]; exact h x rfl _ (put_fr hF hs.lt)⟩
  unfold Oper.quietAt
  rw [h3 w]
  exact ⟨rfl, (hc w hM).mono fun e w' he => ⟨he.1, hM.later he.2⟩⟩
theorem TQ.v (s : Sem Next) (d : Nat) (v : Value) {i : Nat} (hv : ∀ w, Sat w0 M w → s.run P w = .ok (.value v) w) (hi : Nat.blt i N = true) (hs : SemOk n ops.toList F i s d) (h : TQ P n w0 ops Q N (i + 1) ((d, v) :: F) M) : TQ P n w0 ops Q N i F M := by
  intro a hF
  obtain ⟨o, h1, h2, h3, h4⟩ := semAt_spec hF hs.at_
  obtain ⟨r, h5, rfl⟩ := take_at hi h1
  rw [h5]
  unfold wpQuiet
  rw [if_pos h2]
  refine ⟨v, fun w hM => ?_, by rw [h4]; exact h _ (put_fr hF hs.lt)⟩
  unfold Oper.quietAt
  rw [h3, hv w hM]
  exact ⟨rfl, rfl⟩
end
end Go.Eng
end
section
namespace Go.Eng
def sc (s : ByteArray) : Array Value := #[.string s]
theorem sc_one (s : ByteArray) : (sc s).toList.all Value.oneCell' = true := rfl
section
variable {ρ π α : Type} {f : ρ → π} {p : List π} {r : List ρ} {s : ρ} {x : π}
theorem dl_len {c : ρ → Array Value} (h : p = r.map f) : p.length = (r.map c).length := by subst h; simp
theorem dl_len' (h : p = r.map f) : p.length = r.length := by subst h; simp
theorem dl_lt (h : p = r.map f) {k : Nat} (hk : k < p.length) : k < r.length := by rw [← dl_len' h]; exact hk
theorem dl_le (h : p = r.map f) {k : Nat} (hk : p.length ≤ k) : r.length ≤ k := by rw [← dl_len' h]; exact hk
theorem dl_get (h : p = r.map f) (k : Nat) {z : ρ} : f (r[k]?.getD z) = p[k]?.getD (f z) := by
  subst h
  rw [List.getElem?_map]
  cases r[k]? <;> rfl
theorem dl_at (h : p = r.map f) {k : Nat} {z : ρ} (hx : p[k]? = some x) : f (r[k]?.getD z) = x := by rw [dl_get h, hx]; rfl
theorem dl_all {w : World} {sz : Nat} {c : α → Array Value} {S : ρ → Sl α} {z : ρ} (hz : S z = Sl.zero) (h : ∀ s ∈ r.map S, s.rd w sz c) (k : Nat) : (S (r[k]?.getD z)).rd w sz c := by
  cases hk : r[k]? with
  | none => rw [Option.getD_none, hz]; exact Sl.rd_zero w sz c
  | some y => exact h _ (List.mem_map_of_mem (List.mem_of_getElem? hk))
theorem dl_take (h : p = r.map f) (n : Nat) : p.take n = (r.take n).map f := by subst h; rw [List.map_take]
theorem dl_takeh {q : Sl α → Prop} {S : ρ → Sl α} (h : ∀ s ∈ r.map S, q s) (n : Nat) : ∀ y ∈ (r.take n).map S, q y := fun y hy => by
  rw [List.map_take] at hy
  exact h y (List.mem_of_mem_take hy)
theorem Sat.bag_addm {f : ρ → Sl α} {w0 : Ctx} {w : World} {M : Mem} {e sz : Nat} {c : α → Array Value} {o : List ρ} (y : ρ) (h : Sat w0 (.inr (Own (f y).A (f y).cap e sz ((f y).l.map c)) :: .inr (Bag e sz c (o.map f)) :: M) w) :
    Sat w0 (.inr (Bag e sz c ((o ++ [y]).map f)) :: M) w := by
  have := Sat.bag_add h
  rw [List.map_append]
  exact this
end
end Go.Eng
namespace Go.Sky
open Go Go.Eng
def WireFrameR.zero : WireFrameR := ⟨0, 0, Sl.zero⟩
theorem WireFrameR.c_at {x : WireFrameR} {y : WireFrame} (h : x.p = y) : x.c = #[.int .i64 y.Radar, .int .i64 y.Time, .slice x.Plots.A y.Plots.length x.Plots.cap] := by subst h; rfl
end Go.Sky
end
section
namespace Go.Eng
open Go.RowKit (Below)
def ic8 (x : Int) : Array Value := #[.int .u8 x]
def seq (x y : ByteArray) : Bool := x.toList == y.toList
def strOf (l : List Int) : ByteArray := l.foldl (fun r n => r.push (UInt8.ofNat n.toNat)) ByteArray.empty
theorem data_fold : ∀ (l : List Int) (b : ByteArray), (l.foldl (fun r n => r.push (UInt8.ofNat n.toNat)) b).data.toList = b.data.toList ++ l.map (fun n => UInt8.ofNat n.toNat)
  | [], b => by simp
  | x :: l, b => by
    rw [List.foldl_cons, data_fold l]
    simp [ByteArray.push]
theorem data_strOf (l : List Int) : (strOf l).data.toList = l.map (fun n => UInt8.ofNat n.toNat) := by
  unfold strOf; rw [data_fold]; rfl
theorem size_strOf (l : List Int) : (strOf l).size = l.length := by
  have := congrArg List.length (data_strOf l)
  rw [List.length_map, Array.length_toList] at this
  exact this
end Go.Eng
end
section
namespace Go.Eng
open Go.RowKit (Below)
def lb (s : ByteArray) : List Int := s.data.toList.map fun b => (b.toNat : Int)
theorem lb_length (s : ByteArray) : (lb s).length = s.size := by unfold lb; rw [List.length_map, Array.length_toList]; rfl
def RdoH (A : Option Addr) (cap sz : Nat) (rows : List (Array Value)) (w : World) : Prop :=
  ∃ (b : Nat) (cur : Array Value) (e : TypeId) (fz : Nat × Nat) (rest : List Value), A = some ⟨b, 0, none⟩ ∧ w.heap[b]? = some (.cells cur e fz) ∧ rows.length ≤ cap ∧ rows.length < 4611686018427387904 ∧ (∀ r ∈ rows, r.size = sz) ∧ cur.toList = flat rows ++ rest
def Rdo (A : Option Addr) (cap sz : Nat) (rows : List (Array Value)) : Res where
  foot b := ∃ a, A = some a ∧ a.block = b
  holds := RdoH A cap sz rows
  lt w h b hb := by
    obtain ⟨g, cur, e, fz, rest, h1, h2, _⟩ := h
    obtain ⟨a, ha, rfl⟩ := hb
    rw [h1] at ha; simp only [Option.some.injEq] at ha; subst ha; exact heap_lt h2
  kept w w' h hk := by
    obtain ⟨g, cur, e, fz, rest, h1, h2, h3⟩ := h
    exact ⟨g, cur, e, fz, rest, h1, (hk g ⟨_, h1, rfl⟩).trans h2, h3⟩
theorem Sat.rdo_at {w0 : Ctx} {w : World} {M : Mem} {A : Option Addr} {cap sz : Nat} {rows : List (Array Value)} (h : Sat w0 M w) (j : Nat) (hj : M[j]? = some (.inr (Rdo A cap sz rows))) : Rd w sz A rows := by
  obtain ⟨b, cur, e, fz, rest, rfl, hb, hle, hl, hs, hc⟩ := h.res hj
  refine ⟨hl, fun i r hi => ⟨hs r (List.mem_of_getElem? hi), _, rfl, heap_lt hb, fun k v hv => ?_⟩⟩
  rw [add_zero_addr, cell_of_row w b _ cur e fz hb]
  have h2 : (Go.Eng.flat rows)[i * sz + k]? = some v := flat_at rows hs i r hi k v hv
  rw [← Array.getElem?_toList, hc, List.getElem?_append_left (by obtain ⟨h, _⟩ := List.getElem?_eq_some_iff.1 h2; exact h)]
  exact h2
theorem flat_ic8' (l : List Int) : Go.Eng.flat (l.map ic8) = l.map fun x => Value.int .u8 x := by
  induction l with
  | nil => rfl
  | cons x l ih => rw [List.map_cons, flat_cons, ih]; rfl
theorem bytes_at {P : Program} {w0 : Ctx} {M : Mem} {src dst e : TypeId} (s : ByteArray) (hs : P.underlying src = some .string) (hd : P.underlying dst = some (.slice e)) (he : P.underlying e = some (.int .u8))
    (hn : s.size < 4611686018427387904) (w : World) (hM : Sat w0 M w) :
    ∃ (g : Option Addr × Nat) (w' : World), (sV (convert src dst (.string s))).run P w = .ok (.value (.slice g.1 (lb s).length g.2)) w' ∧ Sat w0 (.inr (Rdo g.1 g.2 1 ((lb s).map ic8)) :: M) w' := by
  refine ⟨(some ⟨w.heap.size, 0, none⟩, grownCap w s.size 0 e), _, by rw [lb_length]; exact run_sVw (run_bytes_of_string w src dst e s hs hd he), ?_⟩
  refine hM.push (((Below.refl _ w).drew).alloc (Nat.le_refl _) _) _ ?_ (fun b' hb' => ?_)
  · refine ⟨_, _, e, _, List.replicate (grownCap w s.size 0 e - s.size) (.int .u8 0), rfl, heap_alloc_new w.drew _, ?_, ?_, ?_, ?_⟩
    · rw [List.length_map, lb_length]; exact grownCap_ge w s.size 0 e
    · rw [List.length_map, lb_length]; exact hn
    · intro r hr
      obtain ⟨x, _, rfl⟩ := List.mem_map.1 hr
      rfl
    · rw [flat_ic8']
      unfold bytesRow lb
      rw [Array.toList_append, Array.toList_map, Array.toList_replicate, List.map_map]
      rfl
  · obtain ⟨ad, h2, rfl⟩ := hb'
    simp only [Option.some.injEq] at h2
    subst h2
    exact Nat.le_refl _
end Go.Eng
end
section
namespace Go.Eng
def slt (x y : ByteArray) : Bool := Op.bytesLess x.toList y.toList
end Go.Eng
namespace Go.Sky
open Go Go.Eng
structure Fix where
  (Name : ByteArray)
  (At : P)
deriving DecidableEq
def Fix.c (x : Fix) : Array Value := #[.string x.Name, .int .i64 x.At.X, .int .i64 x.At.Y]
def Fix.v (x : Fix) : Value := .agg #[.string x.Name, .int .i64 x.At.X, .int .i64 x.At.Y]
def Fix.zero : Fix := ⟨⟨#[]⟩, ⟨0, 0⟩⟩
theorem Fix.one (x : Fix) : x.c.toList.all Value.oneCell' = true := rfl
structure item where
  (priority : Int)
  (number : Int)
  (value : Int)
deriving DecidableEq
def item.c (x : item) : Array Value := #[.int .i64 x.priority, .int .i64 x.number, .int .i64 x.value]
def item.v (x : item) : Value := .agg #[.int .i64 x.priority, .int .i64 x.number, .int .i64 x.value]
def item.zero : item := ⟨0, 0, 0⟩
theorem item.one (x : item) : x.c.toList.all Value.oneCell' = true := rfl
structure Airway where
  (Name : ByteArray)
  (Fixes : List ByteArray)
deriving DecidableEq
def Airway.zero : Airway := ⟨⟨#[]⟩, []⟩
structure AirwayR where
  (Name : ByteArray)
  (Fixes : Sl ByteArray)
def AirwayR.p (x : AirwayR) : Airway := ⟨x.Name, x.Fixes.l⟩
def AirwayR.c (x : AirwayR) : Array Value := #[.string x.Name, .slice x.Fixes.A x.Fixes.l.length x.Fixes.cap]
theorem AirwayR.one (x : AirwayR) : x.c.toList.all Value.oneCell' = true := rfl
def AirwayR.zero : AirwayR := ⟨⟨#[]⟩, Sl.zero⟩
theorem AirwayR.c_at {x : AirwayR} {y : Airway} (h : x.p = y) : x.c = #[.string y.Name, .slice x.Fixes.A y.Fixes.length x.Fixes.cap] := by subst h; rfl
structure Way where
  (Names : List ByteArray)
  (Length : Int)
deriving DecidableEq
def Way.zero : Way := ⟨[], 0⟩
structure WayR where
  (Names : Sl ByteArray)
  (Length : Int)
def WayR.p (x : WayR) : Way := ⟨x.Names.l, x.Length⟩
def WayR.c (x : WayR) : Array Value := #[.slice x.Names.A x.Names.l.length x.Names.cap, .int .i64 x.Length]
theorem WayR.one (x : WayR) : x.c.toList.all Value.oneCell' = true := rfl
def WayR.zero : WayR := ⟨Sl.zero, 0⟩
theorem WayR.c_at {x : WayR} {y : Way} (h : x.p = y) : x.c = #[.slice x.Names.A y.Names.length x.Names.cap, .int .i64 y.Length] := by subst h; rfl
structure Chart where
  (Fixes : List Fix)
  (Airways : List Airway)
deriving DecidableEq
def Chart.zero : Chart := ⟨[], []⟩
structure net where
  (names : List ByteArray)
  (links long : List (List Int))
deriving DecidableEq
def net.zero : net := ⟨[], [], []⟩
structure Queue where
  (heap : List item)
  (next : Int)
deriving DecidableEq
def Queue.zero : Queue := ⟨[], 0⟩
instance : Inhabited Queue := ⟨Queue.zero⟩
instance : Inhabited net := ⟨net.zero⟩
instance : Inhabited Way := ⟨Way.zero⟩
end Go.Sky
end
