/- The engine, second part: walking code. A triple says: from every frame that holds these slots and every world that holds this own memory, the code's weakest precondition holds. Conditions: none. -/
import Derived.Test.YtngnagndhikafaaDoorEng
namespace Go.Eng

/-! ### A run of operations that only read -/

def guardF (ops : List Oper) (F : Slots) (o : Oper) : Option Bool :=
  match o.guard with
  | none => some true
  | some (j, want) => match (ops[j]?).bind (·.dst) with
    | none => some false
    | some d => match look d F with
      | some (.bool b) => some (b == want)
      | some _ => some false
      | none => none

theorem guardF_wanted {ops : Array Oper} {F : Slots} {o : Oper} {n : Nat} {a : Act} {g : Bool} (h : Fr n F a) (hg : guardF ops.toList F o = some g) :
    Region.wanted o (yielded ops a.tmps) = g := by
  unfold guardF at hg
  unfold Region.wanted
  split at hg
  · rename_i h0; rw [h0]; simpa using hg
  · rename_i j want h0
    rw [h0]
    simp only
    rw [Array.getElem?_toList] at hg
    split at hg
    · rename_i hd
      simp only [Option.some.injEq] at hg
      subst hg
      simp [yielded, hd]
    · rename_i d hd
      split at hg
      · rename_i b hb
        simp only [Option.some.injEq] at hg
        subst hg
        have := h.has _ _ hb
        simp only [yielded, hd, Option.bind_some, this]
        cases b <;> cases want <;> rfl
      · rename_i v hnb hv
        simp only [Option.some.injEq] at hg
        subst hg
        have := h.has _ _ hv
        simp only [yielded, hd, Option.bind_some, this]
        cases v <;> first | rfl | (exact absurd rfl (hnb _))
      · cases hg

def putD (n : Nat) (F : Slots) (dst : Option Tmp) (v : Value) : Option Slots :=
  match dst with
  | none => some F
  | some d => bif Nat.blt d n then some ((d, v) :: F) else none

theorem putD_fr {n : Nat} {F F' : Slots} {dst : Option Tmp} {v : Value} {a : Act} (h : Fr n F a) (hp : putD n F dst v = some F') : Fr n F' (a.put dst v) := by
  unfold putD at hp
  split at hp
  · simp only [Option.some.injEq] at hp; subst hp; exact h
  · rename_i d
    cases hb : Nat.blt d n with
    | true =>
      rw [hb] at hp
      simp only [cond_true, Option.some.injEq] at hp
      subst hp
      exact h.put (Nat.le_of_ble_eq_true hb) v
    | false => rw [hb] at hp; cases hp

def isSelect : Op → Bool
  | .select _ _ => true
  | _ => false

/-- One operation that only reads: its value, the slots behind it. -/
def opVal (P : Program) (M : Mem) (F : Slots) (j : Nat) (o : Oper) : Option (Value × List (Nat × Nat)) :=
  bif o.op.operands.toList.all (known F) && !isSelect o.op then
    match mr P M j (execOp (rho F) o) with
    | some (.value v, es) => some (v, es)
    | some (.skip, es) => some (undef, es)
    | _ => none
  else none

def isLoad : Op → Bool
  | .load _ _ => true
  | _ => false

/-- Operations in a row, none of which writes memory or calls; 'hs': for each load the own block that it reads. -/
def runR (P : Program) (n : Nat) (ops : List Oper) (M : Mem) : List Oper → List Nat → Slots → Option (Slots × List (Nat × Nat))
  | [], _, F => some (F, [])
  | o :: r, hs, F => match guardF ops F o with
    | some true => match opVal P M F (hs.headD 0) o with
      | some (v, es) => match putD n F o.dst v with
        | some F' => match runR P n ops M r (bif isLoad o.op then hs.tail else hs) F' with
          | some (G, es') => some (G, es ++ es')
          | none => none
        | none => none
      | none => none
    | some false => match putD n F o.dst undef with
      | some F' => runR P n ops M r hs F'
      | none => none
    | none => none

theorem execOp_rho {n : Nat} {F : Slots} {a : Act} (h : Fr n F a) (o : Oper) (hk : o.op.operands.toList.all (known F) = true) (hs : isSelect o.op = false) :
    execOp a.eval o = execOp (rho F) o :=
  execOp_congr o (fun cs b e => by rw [e] at hs; cases hs) fun x hx => h.eval x (List.all_eq_true.1 hk x (by simpa using hx))

theorem opVal_sound {P : Program} {w0 : Ctx} {w : World} {n : Nat} {M : Mem} {F : Slots} {j : Nat} {o : Oper} {v : Value} {es : List (Nat × Nat)} {a : Act} (hF : Fr n F a) (hM : Sat w0 M w)
    (h : opVal P M F j o = some (v, es)) (he : ∀ p ∈ es, p.1 = p.2) : (execOp a.eval o).run P w = .ok (.value v) w ∨ ((execOp a.eval o).run P w = .ok .skip w ∧ v = undef) := by
  unfold opVal at h
  cases hb : (o.op.operands.toList.all (known F) && !isSelect o.op) with
  | false => rw [hb] at h; cases h
  | true =>
    rw [hb] at h
    simp only [cond_true] at h
    simp only [Bool.and_eq_true, Bool.not_eq_true'] at hb
    rw [execOp_rho hF o hb.1 hb.2]
    split at h
    · rename_i u es' hm
      simp only [Option.some.injEq, Prod.mk.injEq] at h
      obtain ⟨rfl, rfl⟩ := h
      exact .inl (mr_sound hM _ _ _ hm he)
    · rename_i es' hm
      simp only [Option.some.injEq, Prod.mk.injEq] at h
      obtain ⟨rfl, rfl⟩ := h
      exact .inr ⟨mr_sound hM _ _ _ hm he, rfl⟩
    · cases h

/-! ### Plain regions -/

/-- From operation number i on. -/
def TL (P : Program) (n : Nat) (w0 : Ctx) (ops : Array Oper) (Q : Exit → Act → World → Prop) (i : Nat) (F : Slots) (M : Mem) : Prop :=
  ∀ a w, Fr n F a → Sat w0 M w → wpList P ops Q (ops.toList.drop i) a w

def TC (P : Program) (n : Nat) (w0 : Ctx) (Q : Exit → Act → World → Prop) (c : Code) (F : Slots) (M : Mem) : Prop :=
  ∀ a w, Fr n F a → Sat w0 M w → c.wp P Q a w

/-- An exit. -/
def TE (n : Nat) (w0 : Ctx) (Q : Exit → Act → World → Prop) (e : Exit) (F : Slots) (M : Mem) : Prop :=
  ∀ a w, Fr n F a → Sat w0 M w → Q e a w

/-- Only reading, in whatever order. -/
def TQ (P : Program) (n : Nat) (w0 : Ctx) (ops : Array Oper) (Q : Act → Prop) (N i : Nat) (F : Slots) (M : Mem) : Prop :=
  ∀ a, Fr n F a → wpQuiet P ops (Sat w0 M) Q ((ops.toList.take N).drop i) a

section
variable {P : Program} {n : Nat} {w0 : Ctx} {ops : Array Oper} {Q : Exit → Act → World → Prop} {F F' : Slots} {M M' : Mem}

theorem wpList_of_wp {o : Oper} {rest : List Oper} {a : Act} {w : World} (hw : Region.wanted o (yielded ops a.tmps) = true) (h : o.wp P a w (wpList P ops Q rest) Q) :
    wpList P ops Q (o :: rest) a w := by
  unfold wpList; rw [if_pos hw]; exact .inl h

theorem runR_wpList : ∀ (l : List Oper) (hs : List Nat) (F G : Slots) (es : List (Nat × Nat)) (rest : List Oper) (a : Act) (w : World), Fr n F a → Sat w0 M w →
    runR P n ops.toList M l hs F = some (G, es) → (∀ p ∈ es, p.1 = p.2) → (∀ a', Fr n G a' → wpList P ops Q rest a' w) → wpList P ops Q (l ++ rest) a w
  | [], hs, F, G, es, rest, a, w, hF, hM, h, he, hk => by
    simp only [runR, Option.some.injEq, Prod.mk.injEq] at h
    obtain ⟨rfl, rfl⟩ := h
    exact hk a hF
  | o :: l, hs, F, G, es, rest, a, w, hF, hM, h, he, hk => by
    simp only [runR] at h
    split at h
    · rename_i hg
      have hw := guardF_wanted hF hg
      split at h
      · rename_i v es1 hv
        split at h
        · rename_i F1 hF1
          split at h
          · rename_i G' es2 hr
            simp only [Option.some.injEq, Prod.mk.injEq] at h
            obtain ⟨rfl, rfl⟩ := h
            have ih := runR_wpList l _ F1 G' es2 rest (a.put o.dst v) w (putD_fr hF hF1) hM hr (fun p hp => he p (by simp [hp])) hk
            refine wpList_of_wp hw ?_
            unfold Oper.wp
            rcases opVal_sound hF hM hv (fun p hp => he p (by simp [hp])) with e | ⟨e, rfl⟩
            · rw [e]; exact ih
            · rw [e]; exact ih
          · cases h
        · cases h
      · cases h
    · rename_i hg
      have hw := guardF_wanted hF hg
      split at h
      · rename_i F1 hF1
        have ih := runR_wpList l _ F1 G es rest (a.put o.dst undef) w (putD_fr hF hF1) hM h he hk
        show wpList P ops Q (o :: (l ++ rest)) a w
        unfold wpList
        rw [hw]
        simpa using ih
      · cases h
    · cases h

def lefts {α : Type} : Option (α × List (Nat × Nat)) → List Nat
  | some (_, es) => es.map Prod.fst
  | none => []
def rights {α : Type} : Option (α × List (Nat × Nat)) → List Nat
  | some (_, es) => es.map Prod.snd
  | none => []
def keptR (F' : Slots) : Option (Slots × List (Nat × Nat)) → Option Slots
  | some (G, _) => pick (F'.map Prod.fst) G
  | none => none
/-- What is asked of a run: the kept slots; that all addresses are those of own blocks. -/
structure OkR (r : Option (Slots × List (Nat × Nat))) (F' : Slots) : Prop where
  fst : keptR F' r = some F' := by kernel_rfl
  snd : lefts r = rights r := by kernel_rfl

theorem eqs_of : ∀ (es : List (Nat × Nat)), es.map Prod.fst = es.map Prod.snd → ∀ p ∈ es, p.1 = p.2
  | [], _, p, hp => by cases hp
  | q :: es, h, p, hp => by
    simp only [List.map_cons, List.cons.injEq] at h
    rcases List.mem_cons.1 hp with rfl | hp
    · exact h.1
    · exact eqs_of es h.2 p hp

theorem okR_spec {r : Option (Slots × List (Nat × Nat))} (h : OkR r F') : ∃ G es, r = some (G, es) ∧ (∀ p ∈ es, p.1 = p.2) ∧ ∀ t v, look t F' = some v → look t G = some v := by
  obtain ⟨h1, h2⟩ := h
  cases r with
  | none => cases h1
  | some x => exact ⟨x.1, x.2, rfl, eqs_of _ h2, pick_look _ _ _ h1⟩

theorem split_at (l : List Oper) {i k : Nat} (h : i ≤ k) : l.drop i = (l.drop i).take (k - i) ++ l.drop k := by
  have : l.drop k = (l.drop i).drop (k - i) := by rw [List.drop_drop]; congr 1; omega
  rw [this, List.take_append_drop]

/-- A run of reading operations, from number i to number k. -/
theorem TL.run (k : Nat) (hs : List Nat) (F' : Slots) {i : Nat} (hik : Nat.ble i k = true) (hr : OkR (runR P n ops.toList M ((ops.toList.drop i).take (k - i)) hs F) F')
    (h : TL P n w0 ops Q k F' M) : TL P n w0 ops Q i F M := by
  intro a w hF hM
  obtain ⟨G, es, hG, he, hsub⟩ := okR_spec hr
  rw [split_at ops.toList (Nat.le_of_ble_eq_true hik)]
  exact runR_wpList _ _ _ _ _ _ a w hF hM hG he (fun a' ha' => h a' w (ha'.sub hsub) hM)

/-- A Bool in a slot: both cases. -/
theorem TL.split (t : Nat) (b : Bool) {i : Nat} (ht : look t F = some (.bool b)) (h1 : b = true → TL P n w0 ops Q i ((t, .bool true) :: F) M)
    (h2 : b = false → TL P n w0 ops Q i ((t, .bool false) :: F) M) : TL P n w0 ops Q i F M := by
  have key : ∀ (c : Bool), b = c → ∀ a, Fr n F a → Fr n ((t, .bool c) :: F) a := by
    rintro c rfl a hF
    refine hF.sub fun s v hv => ?_
    by_cases e : t = s
    · subst e; rw [look_cons_self] at hv; rw [ht]; exact hv
    · rw [look_cons_ne _ _ e] at hv; exact hv
  intro a w hF hM
  cases hb : b with
  | true => exact h1 hb a w (key true hb a hF) hM
  | false => exact h2 hb a w (key false hb a hF) hM

/-- A Bool in a slot, both cases of which come to one form (a chain of || or &&). -/
theorem TL.join (t : Nat) (b : Bool) (k : Nat) (hs1 hs2 : List Nat) (G : Bool → Slots) {i : Nat} (ht : look t F = some (.bool b)) (hik : Nat.ble i k = true)
    (h1 : OkR (runR P n ops.toList M ((ops.toList.drop i).take (k - i)) hs1 ((t, .bool true) :: F)) (G true))
    (h2 : OkR (runR P n ops.toList M ((ops.toList.drop i).take (k - i)) hs2 ((t, .bool false) :: F)) (G false))
    (h : TL P n w0 ops Q k (G b) M) : TL P n w0 ops Q i F M := by
  refine TL.split t b ht (fun e => ?_) (fun e => ?_)
  · subst e; exact TL.run k hs1 (G true) hik h1 h
  · subst e; exact TL.run k hs2 (G false) hik h2 h

/-! One operation of another kind. -/

/-- The operation at i, if its guard says yes and all that it names is known. -/
def opAt (ops : List Oper) (F : Slots) (i : Nat) : Option Oper :=
  match ops[i]? with
  | some o => match guardF ops F o with
    | some true => bif o.op.operands.toList.all (known F) && !isSelect o.op then some o else none
    | _ => none
  | none => none

theorem opAt_spec {i : Nat} {o : Oper} {a : Act} (hF : Fr n F a) (h : opAt ops.toList F i = some o) :
    ops.toList.drop i = o :: ops.toList.drop (i + 1) ∧ Region.wanted o (yielded ops a.tmps) = true ∧ execOp a.eval o = execOp (rho F) o := by
  unfold opAt at h
  split at h
  · rename_i o' ho
    split at h
    · rename_i hg
      cases hb : (o'.op.operands.toList.all (known F) && !isSelect o'.op) with
      | false => rw [hb] at h; cases h
      | true =>
        rw [hb] at h
        simp only [cond_true, Option.some.injEq] at h
        subst h
        simp only [Bool.and_eq_true, Bool.not_eq_true'] at hb
        refine ⟨?_, guardF_wanted hF hg, execOp_rho hF _ hb.1 hb.2⟩
        obtain ⟨hlt, hget⟩ := List.getElem?_eq_some_iff.1 ho
        rw [List.drop_eq_getElem_cons hlt, hget]
    · cases h
  · cases h

/-- What operation i does, as the model's own text has it over the known slots; and its destination. -/
def semAt (ops : List Oper) (F : Slots) (i : Nat) : Option (Sem Next × Option Tmp) :=
  match opAt ops F i with
  | some o => some (execOp (rho F) o, o.dst)
  | none => none

theorem semAt_spec {i : Nat} {s : Sem Next} {d : Option Tmp} {a : Act} (hF : Fr n F a) (h : semAt ops.toList F i = some (s, d)) :
    ∃ o, ops.toList.drop i = o :: ops.toList.drop (i + 1) ∧ Region.wanted o (yielded ops a.tmps) = true ∧ execOp a.eval o = s ∧ o.dst = d := by
  unfold semAt at h
  split at h
  · rename_i o ho
    simp only [Option.some.injEq, Prod.mk.injEq] at h
    obtain ⟨h1, h2, h3⟩ := opAt_spec hF ho
    exact ⟨o, h1, h2, h3.trans h.1, h.2⟩
  · cases h

/-- What a write at i leaves. -/
def wrAt (P : Program) (n : Nat) (ops : List Oper) (F : Slots) (M : Mem) (j b i : Nat) : Option ((Slots × Mem) × List (Nat × Nat)) :=
  match semAt ops F i with
  | some (s, d) => match mw P j b s M with
    | some (.value v, m, es) => match putD n F d v with | some G => some ((G, m), es) | none => none
    | some (.skip, m, es) => match putD n F d undef with | some G => some ((G, m), es) | none => none
    | _ => none
  | none => none

def keptW (F' : Slots) : Option ((Slots × Mem) × List (Nat × Nat)) → Option (Slots × Mem)
  | some ((G, m), _) => match pick (F'.map Prod.fst) G with
    | some f => some (f, m)
    | none => none
  | none => none

structure OkW (r : Option ((Slots × Mem) × List (Nat × Nat))) (F' : Slots) (M' : Mem) : Prop where
  fst : keptW F' r = some (F', M') := by kernel_rfl
  snd : lefts r = rights r := by kernel_rfl

theorem okW_spec {r : Option ((Slots × Mem) × List (Nat × Nat))} (h : OkW r F' M') : ∃ G es, r = some ((G, M'), es) ∧ (∀ p ∈ es, p.1 = p.2) ∧ ∀ t v, look t F' = some v → look t G = some v := by
  obtain ⟨h1, h2⟩ := h
  cases r with
  | none => cases h1
  | some x =>
    obtain ⟨⟨G, m⟩, es⟩ := x
    simp only [keptW] at h1
    split at h1
    · rename_i f hf
      simp only [Option.some.injEq, Prod.mk.injEq] at h1
      obtain ⟨rfl, rfl⟩ := h1
      exact ⟨G, es, rfl, eqs_of _ h2, pick_look _ _ _ hf⟩
    · cases h1

/-- A write into own memory, or a new own block (b: its number, whatever it be). -/
theorem TL.write (j : Nat) (F' : Nat → Slots) (M' : Nat → Mem) {i : Nat} (hr : ∀ b, OkW (wrAt P n ops.toList F M j b i) (F' b) (M' b))
    (h : ∀ b, TL P n w0 ops Q (i + 1) (F' b) (M' b)) : TL P n w0 ops Q i F M := by
  intro a w hF hM
  obtain ⟨G, es, hG, he, hsub⟩ := okW_spec (hr w.heap.size)
  unfold wrAt at hG
  split at hG
  · rename_i s d hs
    obtain ⟨o, h1, h2, h3, h4⟩ := semAt_spec hF hs
    rw [h1]
    refine wpList_of_wp h2 ?_
    unfold Oper.wp
    rw [h3]
    split at hG
    · rename_i v m es' hm
      split at hG
      · rename_i G' hp
        simp only [Option.some.injEq, Prod.mk.injEq] at hG
        obtain ⟨⟨rfl, rfl⟩, rfl⟩ := hG
        obtain ⟨w', hrun, hM'⟩ := mw_sound s M w _ _ _ hM rfl hm he
        rw [hrun]
        subst h4
        exact h w.heap.size _ w' ((putD_fr hF hp).sub hsub) hM'
      · cases hG
    · rename_i m es' hm
      split at hG
      · rename_i G' hp
        simp only [Option.some.injEq, Prod.mk.injEq] at hG
        obtain ⟨⟨rfl, rfl⟩, rfl⟩ := hG
        obtain ⟨w', hrun, hM'⟩ := mw_sound s M w _ _ _ hM rfl hm he
        rw [hrun]
        subst h4
        exact h w.heap.size _ w' ((putD_fr hF hp).sub hsub) hM'
      · cases hG
    · cases hG
  · cases hG

/-! ### Calls -/

/-- A call that hands back v, and whose world differs from the old one by new blocks alone. -/
def Ret (w : World) (v : Value) : Ending → World → Prop := fun e w' => e = .returned v ∧ Below w.heap.size w w'

/-- A call that hands back a value and memory of the caller's own from then on; g: what is open of both. -/
def RetM {Γ : Type} (w0 : Ctx) (v : Γ → Value) (M : Γ → Mem) : Ending → World → Prop := fun e w' => ∃ g, e = .returned (v g) ∧ Sat w0 (M g) w'

/-- The blocks in which these entries lie. -/
def feet (M : Mem) : Nat → Prop := fun b => ∃ e ∈ M, footE e b

/-- Behind a call that was handed the entries Mp and left Mn in their place. -/
theorem Sat.call {w0 : Ctx} {w w' : World} {Mp Mr Mn : Mem} (h : Sat w0 (Mp ++ Mr) w) (h' : Sat ⟨w, feet Mp⟩ Mn w') : Sat w0 (Mn ++ Mr) w' := by
  have hp : ∀ e ∈ Mp, holdsE e w ∧ ∀ b, footE e b → w0.D b ∨ w0.w0.heap.size ≤ b := fun e he => h.own e (List.mem_append_left _ he)
  have hr : ∀ e ∈ Mr, holdsE e w ∧ ∀ b, footE e b → w0.D b ∨ w0.w0.heap.size ≤ b := fun e he => h.own e (List.mem_append_right _ he)
  have hap := List.pairwise_append.1 h.apart
  have far : ∀ f ∈ Mr, ∀ b, footE f b → ¬ feet Mp b := fun f hf b hb ⟨e, he, hb2⟩ => hap.2.2 e he f hf b hb2 hb
  refine ⟨⟨h'.chg.os.trans h.chg.os, h'.chg.tape.trans h.chg.tape, h'.chg.output.trans h.chg.output, Nat.le_trans h.chg.size h'.chg.size, fun k hk hd => ?_, Nat.le_trans h.chg.drawn h'.chg.drawn⟩, fun e he => ?_, ?_⟩
  · refine (h'.chg.block k (Nat.lt_of_lt_of_le hk h.chg.size) ?_).trans (h.chg.block k hk hd)
    rintro ⟨e, he, hf⟩
    rcases (hp e he).2 k hf with h1 | h1
    · exact hd h1
    · omega
  · rcases List.mem_append.1 he with he | he
    · refine ⟨(h'.own e he).1, fun b hb => ?_⟩
      rcases (h'.own e he).2 b hb with ⟨f, hf, hb2⟩ | h1
      · exact (hp f hf).2 b hb2
      · exact .inr (Nat.le_trans h.chg.size h1)
    · exact ⟨keptE (hr e he).1 fun b hb => h'.chg.block b (ltE (hr e he).1 b hb) (far e he b hb), (hr e he).2⟩
  · refine List.pairwise_append.2 ⟨h'.apart, hap.2.1, fun e he f hf b hb1 hb2 => ?_⟩
    rcases (h'.own e he).2 b hb1 with h1 | h1
    · exact far f hf b hb2 h1
    · have h2 : w.heap.size ≤ b := h1
      have := ltE (hr f hf).1 b hb2
      omega

/-- The call at i: callee, arguments, destination. -/
def callAt (P : Program) (ops : List Oper) (F : Slots) (i : Nat) : Option (FuncId × Array Value × Option Tmp) :=
  match semAt ops F i with
  | some (s, d) => match mr P [] 0 s with
    | some (.enter f args, []) => some (f, args, d)
    | _ => none
  | none => none

theorem callAt_spec {i : Nat} {f : FuncId} {args : Array Value} {d : Option Tmp} {a : Act} (hF : Fr n F a) (h : callAt P ops.toList F i = some (f, args, d)) :
    ∃ o, ops.toList.drop i = o :: ops.toList.drop (i + 1) ∧ Region.wanted o (yielded ops a.tmps) = true ∧ (∀ w, (execOp a.eval o).run P w = .ok (.enter f args) w) ∧ o.dst = d := by
  unfold callAt at h
  split at h
  · rename_i s d' hs
    split at h
    · rename_i f' args' hm
      simp only [Option.some.injEq, Prod.mk.injEq] at h
      obtain ⟨rfl, rfl, rfl⟩ := h
      obtain ⟨o, h1, h2, h3, h4⟩ := semAt_spec hF hs
      exact ⟨o, h1, h2, fun w => by rw [h3]; exact mr_sound (Sat.start w) s _ _ hm (by simp), h4⟩
    · cases h
  · cases h

def pickD (F' : Slots) (G : Option Slots) : Option Slots :=
  match G with | some g => pick (F'.map Prod.fst) g | none => none

theorem pickD_spec {d : Option Tmp} {v : Value} {a : Act} (hF : Fr n F a) (h : pickD F' (putD n F d v) = some F') : Fr n F' (a.put d v) := by
  unfold pickD at h
  split at h
  · rename_i g hg
    exact (putD_fr hF hg).sub (pick_look _ _ _ h)
  · cases h

theorem TL.call (d : Option Tmp) (F' : Slots) {i : Nat} {f : FuncId} {args : Array Value} {v : Value} (hc : ∀ w, Sat w0 M w → Calls P f args w (Ret w v))
    (hs : callAt P ops.toList F i = some (f, args, d)) (hp : pickD F' (putD n F d v) = some F') (h : TL P n w0 ops Q (i + 1) F' M) : TL P n w0 ops Q i F M := by
  intro a w hF hM
  obtain ⟨o, h1, h2, h3, h4⟩ := callAt_spec hF hs
  rw [h1]
  refine wpList_of_wp h2 ?_
  unfold Oper.wp
  rw [h3 w]
  refine (hc w hM).mono fun e w' he => ?_
  obtain ⟨rfl, hb⟩ := he
  subst h4
  exact h _ w' (pickD_spec hF hp) (hM.later hb)

/-- A call of a function that takes over the entries Mp (none: it only makes memory) and hands back others. -/
theorem TL.callM {Γ : Type} (v : Γ → Value) (Mn : Γ → Mem) (Mp Mr : Mem) (d : Option Tmp) (F' : Γ → Slots) {i : Nat} {f : FuncId} {args : Array Value}
    (hc : ∀ w, Sat w0 (Mp ++ Mr) w → Calls P f args w (RetM ⟨w, feet Mp⟩ v Mn))
    (hs : callAt P ops.toList F i = some (f, args, d)) (hp : ∀ g, pickD (F' g) (putD n F d (v g)) = some (F' g)) (h : ∀ g, TL P n w0 ops Q (i + 1) (F' g) (Mn g ++ Mr)) : TL P n w0 ops Q i F (Mp ++ Mr) := by
  intro a w hF hM
  obtain ⟨o, h1, h2, h3, h4⟩ := callAt_spec hF hs
  rw [h1]
  refine wpList_of_wp h2 ?_
  unfold Oper.wp
  rw [h3 w]
  refine (hc w hM).mono fun e w' he => ?_
  obtain ⟨g, rfl, hb⟩ := he
  subst h4
  exact h g _ w' (pickD_spec hF (hp g)) (hM.call hb)

/-- .. that makes memory alone. -/
theorem TL.callN {Γ : Type} (v : Γ → Value) (Mn : Γ → Mem) (M2 : Γ → Mem) (he : ∀ g, Mn g ++ M = M2 g) (d : Option Tmp) (F' : Γ → Slots) {i : Nat} {f : FuncId} {args : Array Value}
    (hc : ∀ w, Sat w0 M w → Calls P f args w (RetM (cx w) v Mn))
    (hs : callAt P ops.toList F i = some (f, args, d)) (hp : ∀ g, pickD (F' g) (putD n F d (v g)) = some (F' g)) (h : ∀ g, TL P n w0 ops Q (i + 1) (F' g) (M2 g)) : TL P n w0 ops Q i F M := by
  refine TL.callM (Mp := []) (Mr := M) v Mn d F' (fun w hM => ?_) hs hp (fun g => by rw [he g]; exact h g)
  refine (hc w hM).mono fun e w' he => ?_
  obtain ⟨g, h1, h2⟩ := he
  refine ⟨g, h1, ⟨h2.chg.os, h2.chg.tape, h2.chg.output, h2.chg.size, fun k hk _ => h2.chg.block k hk (fun h => h), h2.chg.drawn⟩, fun e he => ⟨(h2.own e he).1, fun b hb => ?_⟩, h2.apart⟩
  rcases (h2.own e he).2 b hb with h3 | h3
  · exact h3.elim
  · exact .inr h3

/-- An operation that turns the world, known by a law of its own. -/
theorem TL.opM {Γ : Type} (s : Sem Next) (d : Option Tmp) (v : Γ → Value) (M' : Γ → Mem) (F' : Γ → Slots) {i : Nat} (hv : ∀ w, Sat w0 M w → ∃ g w', s.run P w = .ok (.value (v g)) w' ∧ Sat w0 (M' g) w')
    (hs : semAt ops.toList F i = some (s, d)) (hp : ∀ g, pickD (F' g) (putD n F d (v g)) = some (F' g)) (h : ∀ g, TL P n w0 ops Q (i + 1) (F' g) (M' g)) : TL P n w0 ops Q i F M := by
  intro a w hF hM
  obtain ⟨o, h1, h2, h3, h4⟩ := semAt_spec hF hs
  rw [h1]
  refine wpList_of_wp h2 ?_
  unfold Oper.wp
  obtain ⟨g, w', hr, hM'⟩ := hv w hM
  rw [h3, hr]
  subst h4
  exact h g _ w' (pickD_spec hF (hp g)) hM'
theorem TL.skipM {Γ : Type} (s : Sem Next) (d : Option Tmp) (M' : Γ → Mem) (F' : Γ → Slots) {i : Nat} (hv : ∀ w, Sat w0 M w → ∃ g w', s.run P w = .ok .skip w' ∧ Sat w0 (M' g) w')
    (hs : semAt ops.toList F i = some (s, d)) (hp : ∀ g, pickD (F' g) (putD n F d undef) = some (F' g)) (h : ∀ g, TL P n w0 ops Q (i + 1) (F' g) (M' g)) : TL P n w0 ops Q i F M := by
  intro a w hF hM
  obtain ⟨o, h1, h2, h3, h4⟩ := semAt_spec hF hs
  rw [h1]
  refine wpList_of_wp h2 ?_
  unfold Oper.wp
  obtain ⟨g, w', hr, hM'⟩ := hv w hM
  rw [h3, hr]
  subst h4
  exact h g _ w' (pickD_spec hF (hp g)) hM'

theorem TL.conv (M' : Mem) (hs : ∀ w, Sat w0 M w → Sat w0 M' w) {i : Nat} (h : TL P n w0 ops Q i F M') : TL P n w0 ops Q i F M :=
  fun a w hF hM => h a w hF (hs w hM)

/-- An operation whose value is known by a law of its own. -/
theorem TL.val (s : Sem Next) (d : Option Tmp) (v : Value) (F' : Slots) {i : Nat} (hv : ∀ w, Sat w0 M w → s.run P w = .ok (.value v) w) (hs : semAt ops.toList F i = some (s, d))
    (hp : pickD F' (putD n F d v) = some F') (h : TL P n w0 ops Q (i + 1) F' M) : TL P n w0 ops Q i F M := by
  intro a w hF hM
  obtain ⟨o, h1, h2, h3, h4⟩ := semAt_spec hF hs
  rw [h1]
  refine wpList_of_wp h2 ?_
  unfold Oper.wp
  rw [h3, hv w hM]
  subst h4
  exact h _ w (pickD_spec hF hp) hM

theorem TL.forget (M' : Mem) (hs : M'.Sublist M) {i : Nat} (h : TL P n w0 ops Q i F M') : TL P n w0 ops Q i F M :=
  fun a w hF hM => h a w hF (hM.sub hs)

/-! ### Code -/

theorem TL.done {i : Nat} (hi : Nat.ble ops.toList.length i = true) (h : TE n w0 Q .normal F M) : TL P n w0 ops Q i F M := by
  intro a w hF hM
  rw [List.drop_eq_nil_of_le (Nat.le_of_ble_eq_true hi)]
  exact h a w hF hM

theorem TE.next {y : Code} (h : TC P n w0 Q y F M) : TE n w0 (Exit.then (y.wp P Q) Q) .normal F M := h
theorem TL.next {y : Code} {i : Nat} (hi : Nat.ble ops.toList.length i = true) (h : TC P n w0 Q y F M) : TL P n w0 ops (Exit.then (y.wp P Q) Q) i F M := TL.done hi h

theorem TC.seq {x y : Code} (h : TC P n w0 (Exit.then (y.wp P Q) Q) x F M) : TC P n w0 Q (.seq x y) F M := fun a w hF hM => wp_seq (h a w hF hM)
theorem TC.region {id : Nat} (h : TL P n w0 ops Q 0 F M) : TC P n w0 Q (.region id ops false) F M := fun a w hF hM => wp_region_list (by simpa using h a w hF hM)
theorem TC.skip (h : TE n w0 Q .normal F M) : TC P n w0 Q .skip F M := fun a w hF hM => wp_skip (h a w hF hM)
theorem TC.ret (h : TE n w0 Q .ret F M) : TC P n w0 Q .ret F M := fun a w hF hM => wp_ret (h a w hF hM)
theorem TC.exit {id : Nat} (h : TE n w0 Q (.exit id) F M) : TC P n w0 Q (.exit id) F M := fun a w hF hM => wp_exit (h a w hF hM)
theorem TC.block {id : Nat} {c : Code} (h : TC P n w0 (Exit.inBlock id Q) c F M) : TC P n w0 Q (.block id c) F M := fun a w hF hM => wp_block (h a w hF hM)

theorem TC.cond {c : Operand} {x y : Code} (b : Bool) (hk : known F c = true) (hc : rho F c = .bool b) (h1 : b = true → TC P n w0 Q x F M) (h2 : b = false → TC P n w0 Q y F M) :
    TC P n w0 Q (.cond c x y) F M := fun a w hF hM =>
  wp_cond_split ((hF.eval c hk).trans hc) (fun e => h1 e a w hF hM) (fun e => h2 e a w hF hM)
theorem TC.condT {c : Operand} {x y : Code} (hk : known F c = true) (hc : rho F c = .bool true) (h : TC P n w0 Q x F M) : TC P n w0 Q (.cond c x y) F M :=
  fun a w hF hM => wp_cond_true ((hF.eval c hk).trans hc) (h a w hF hM)
theorem TC.condF {c : Operand} {x y : Code} (hk : known F c = true) (hc : rho F c = .bool false) (h : TC P n w0 Q y F M) : TC P n w0 Q (.cond c x y) F M :=
  fun a w hF hM => wp_cond_false ((hF.eval c hk).trans hc) (h a w hF hM)

/-- What own memory tells of plain data. -/
theorem TL.know {p : Prop} (hs : ∀ w, Sat w0 M w → p) {i : Nat} (h : p → TL P n w0 ops Q i F M) : TL P n w0 ops Q i F M := fun a w hF hM => h (hs w hM) a w hF hM
theorem TC.know {p : Prop} (hs : ∀ w, Sat w0 M w → p) {c : Code} (h : p → TC P n w0 Q c F M) : TC P n w0 Q c F M := fun a w hF hM => h (hs w hM) a w hF hM
theorem TE.know {p : Prop} (hs : ∀ w, Sat w0 M w → p) {e : Exit} (h : p → TE n w0 Q e F M) : TE n w0 Q e F M := fun a w hF hM => h (hs w hM) a w hF hM
theorem TC.conv (M' : Mem) (hs : ∀ w, Sat w0 M w → Sat w0 M' w) {c : Code} (h : TC P n w0 Q c F M') : TC P n w0 Q c F M := fun a w hF hM => h a w hF (hs w hM)
theorem TE.conv (M' : Mem) (hs : ∀ w, Sat w0 M w → Sat w0 M' w) {e : Exit} (h : TE n w0 Q e F M') : TE n w0 Q e F M := fun a w hF hM => h a w hF (hs w hM)
theorem TC.forget (M' : Mem) (hs : M'.Sublist M) {c : Code} (h : TC P n w0 Q c F M') : TC P n w0 Q c F M := fun a w hF hM => h a w hF (hM.sub hs)
theorem TC.weak (F' : Slots) {c : Code} (hp : pick (F'.map Prod.fst) F = some F') (h : TC P n w0 Q c F' M) : TC P n w0 Q c F M := fun a w hF hM => h a w (hF.sub (pick_look _ _ _ hp)) hM

/-! exits pass -/
theorem TE.ret_then {K : Act → World → Prop} (h : TE n w0 Q .ret F M) : TE n w0 (Exit.then K Q) .ret F M := h
theorem TE.ret_block {id : Nat} (h : TE n w0 Q .ret F M) : TE n w0 (Exit.inBlock id Q) .ret F M := h
theorem TE.exit_then {id : Nat} {K : Act → World → Prop} (h : TE n w0 Q (.exit id) F M) : TE n w0 (Exit.then K Q) (.exit id) F M := h
theorem TE.exit_same {id : Nat} (h : TE n w0 Q .normal F M) : TE n w0 (Exit.inBlock id Q) (.exit id) F M := fun a w hF hM => by simp only [Exit.inBlock, if_true]; exact h a w hF hM
theorem TE.exit_other {id id' : Nat} (hne : Nat.beq id' id = false) (h : TE n w0 Q (.exit id') F M) : TE n w0 (Exit.inBlock id Q) (.exit id') F M := fun a w hF hM => by
  have : ¬ id' = id := fun e => by subst e; simp at hne
  simp only [Exit.inBlock, if_neg this]; exact h a w hF hM
theorem TE.normal_block {id : Nat} (h : TE n w0 Q .normal F M) : TE n w0 (Exit.inBlock id Q) .normal F M := h

/-- A loop, its state x : X; a round leads to a state of smaller measure, or leaves. -/
theorem TC.loop {X : Type} (Fs : X → Slots) (Ms : X → Mem) (m : X → Nat) (I : X → Prop) {c : Code}
    (round : ∀ x, I x → TC P n w0 (Exit.then (fun a w => ∃ y, I y ∧ m y < m x ∧ Fr n (Fs y) a ∧ Sat w0 (Ms y) w) Q) c (Fs x) (Ms x)) :
    ∀ x, I x → TC P n w0 Q (.loop c) (Fs x) (Ms x) := by
  intro x hx a w hF hM
  refine wp_loop_rounds (m x + 1) ?_
  have key : ∀ (k : Nat) (x : X), m x ≤ k → I x → ∀ a w, Fr n (Fs x) a → Sat w0 (Ms x) w → Code.rounds P c Q (k + 1) a w := by
    intro k
    induction k with
    | zero =>
      intro x hk hx a w hF hM
      rw [rounds_succ]
      refine wp_mono (round x hx a w hF hM) fun e a' w' h => ?_
      cases e with
      | normal => obtain ⟨y, _, hlt, _⟩ := h; omega
      | _ => exact h
    | succ k ih =>
      intro x hk hx a w hF hM
      rw [rounds_succ]
      refine wp_mono (round x hx a w hF hM) fun e a' w' h => ?_
      cases e with
      | normal => obtain ⟨y, hy, hlt, hFy, hMy⟩ := h; exact ih y (by omega) hy a' w' hFy hMy
      | _ => exact h
  exact key (m x) x (Nat.le_refl _) hx a w hF hM

/-- The end of a round. -/
theorem TE.again {X : Type} {Fs : X → Slots} {Ms : X → Mem} {m : X → Nat} {I : X → Prop} {x : X} (y : X) (hI : I y) (hm : m y < m x)
    (hp : pick ((Fs y).map Prod.fst) F = some (Fs y)) (hs : (Ms y).Sublist M) :
    TE n w0 (Exit.then (fun a w => ∃ y, I y ∧ m y < m x ∧ Fr n (Fs y) a ∧ Sat w0 (Ms y) w) Q) .normal F M :=
  fun _ _ hF hM => ⟨y, hI, hm, hF.sub (pick_look _ _ _ hp), hM.sub hs⟩

/-! ### A function -/

def argSlots : Nat → List Value → Slots
  | _, [] => []
  | k, v :: vs => (k, v) :: argSlots (k + 1) vs

theorem argSlots_look : ∀ (vs : List Value) (k t : Nat) (v : Value), look t (argSlots k vs) = some v → ∃ i, t = k + i ∧ vs[i]? = some v
  | [], _, _, _, h => by cases h
  | u :: vs, k, t, v, h => by
    by_cases e : k = t
    · subst e
      simp only [argSlots, look_cons_self, Option.some.injEq] at h
      exact ⟨0, rfl, by simp [h]⟩
    · simp only [argSlots, look_cons_ne _ _ e] at h
      obtain ⟨i, hi, hv⟩ := argSlots_look vs (k + 1) t v h
      exact ⟨i + 1, by omega, by simpa using hv⟩

theorem calls_introM {f : FuncId} {fn : Func} {c : Code} {vs : List Value} {R : Ending → World → Prop} (hM : Sat w0 M w0.w0) (hf : P.funcs[f]? = some fn) (hb : fn.body = some c) (hn : fn.ntmps = n)
    (hl : Nat.ble vs.length n = true) (h : TC P n w0 (bodyPost P fn R) c (argSlots 0 vs) M) : Calls P f vs.toArray w0.w0 R := by
  refine calls_of_wp hf hb (h _ _ ⟨?_, rfl, fun t v ht => ?_⟩ hM)
  · have := Nat.le_of_ble_eq_true hl
    simp [hn]; omega
  · obtain ⟨i, hi, hv⟩ := argSlots_look vs 0 t v ht
    have hlt : i < vs.length := (List.getElem?_eq_some_iff.1 hv).1
    have : t = i := by omega
    subst this
    simp only
    rw [Array.getElem?_append_left (by simpa using hlt)]
    simpa using hv

theorem calls_intro {w : World} {f : FuncId} {fn : Func} {c : Code} {vs : List Value} {R : Ending → World → Prop} (hf : P.funcs[f]? = some fn) (hb : fn.body = some c) (hn : fn.ntmps = n)
    (hl : Nat.ble vs.length n = true) (h : TC P n (cx w) (bodyPost P fn R) c (argSlots 0 vs) []) : Calls P f vs.toArray w R := calls_introM (w0 := cx w) (Sat.start w) hf hb hn hl h

end
end Go.Eng
