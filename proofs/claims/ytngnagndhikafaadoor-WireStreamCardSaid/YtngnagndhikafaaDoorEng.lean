/- The engine: symbolic execution of a Go function over known slots and known own memory, proved sound once. Conditions: none. -/
import Derived.WalkKit
import Derived.Deep.Quiet
import Derived.StillTail
import Derived.KernelRfl
namespace Go
abbrev Value.i (x : Int) : Value := .int .i64 x
abbrev Value.b (x : Bool) : Value := .bool x
abbrev Value.pt (b n : Nat) : Value := .pointer (some ⟨b, n, none⟩)
abbrev Value.p0 (b : Nat) : Value := .pointer (some ⟨b, 0, none⟩)
abbrev Value.pq (a : Addr) : Value := .pointer (some a)
end Go
namespace Go.Eng

abbrev Slots := List (Nat × Value)

/-- Go's int arithmetic wraps. -/
def w64 (x : Int) : Int := IntKind.i64.wrap x

def look (t : Nat) : Slots → Option Value
  | [] => none
  | (k, v) :: r => bif Nat.beq k t then some v else look t r

def rho (F : Slots) : Operand → Value
  | .tmp t => (look t F).getD undef
  | .const v => v
  | .global g => .pointer (some ⟨g, 0, none⟩)
  | .func f => .func (.func f) #[] #[]

def known (F : Slots) : Operand → Bool
  | .tmp t => (look t F).isSome
  | _ => true

/-- The frame holds these slots. -/
structure Fr (n : Nat) (F : Slots) (a : Act) : Prop where
  size : a.tmps.size = n
  defers : a.defers = []
  has : ∀ t v, look t F = some v → a.tmps[t]? = some v

theorem Fr.eval {n : Nat} {F : Slots} {a : Act} (h : Fr n F a) (x : Operand) (hk : known F x = true) : a.eval x = rho F x := by
  cases x with
  | tmp t =>
    simp only [known] at hk
    obtain ⟨v, hv⟩ := Option.isSome_iff_exists.1 hk
    have := h.has t v hv
    simp only [Act.eval, rho, hv, Option.getD_some]
    rw [Array.getD_eq_getD_getElem?, this]; rfl
  | const v => rfl
  | global g => rfl
  | func f => rfl

theorem look_cons_self (t : Nat) (v : Value) (F : Slots) : look t ((t, v) :: F) = some v := by
  have : Nat.beq t t = true := by simp
  simp only [look, this, cond_true]

theorem look_cons_ne {t k : Nat} (v : Value) (F : Slots) (h : k ≠ t) : look t ((k, v) :: F) = look t F := by
  have : Nat.beq k t = false := by
    cases hb : Nat.beq k t with
    | false => rfl
    | true => exact absurd (Nat.eq_of_beq_eq_true hb) h
  simp only [look, this, cond_false]

theorem Fr.put {n d : Nat} {F : Slots} {a : Act} (h : Fr n F a) (hd : d < n) (v : Value) : Fr n ((d, v) :: F) (a.put (some d) v) := by
  refine ⟨by simpa [Act.put] using h.size, by simpa [Act.put] using h.defers, fun t u ht => ?_⟩
  by_cases e : d = t
  · subst e
    rw [look_cons_self] at ht
    have hs := h.size
    simp only [Option.some.injEq] at ht
    subst ht
    simp [Act.put, hs, hd]
  · rw [look_cons_ne v F e] at ht
    have := h.has t u ht
    simp [Act.put, Array.getElem?_setIfInBounds_ne e, this]

/-- Which slots are kept, in the order that is asked. -/
def pick : List Nat → Slots → Option Slots
  | [], _ => some []
  | k :: ks, G => match look k G with
    | some v => match pick ks G with
      | some r => some ((k, v) :: r)
      | none => none
    | none => none

theorem pick_look : ∀ (ks : List Nat) (G F : Slots), pick ks G = some F → ∀ t v, look t F = some v → look t G = some v
  | [], G, F, h, t, v, hl => by simp only [pick, Option.some.injEq] at h; subst h; cases hl
  | k :: ks, G, F, h, t, v, hl => by
    simp only [pick] at h
    split at h
    · rename_i u hu
      split at h
      · rename_i r hr
        simp only [Option.some.injEq] at h; subst h
        by_cases e : k = t
        · subst e; rw [look_cons_self] at hl; rw [hu]; exact hl
        · rw [look_cons_ne u r e] at hl; exact pick_look ks G r hr t v hl
      · cases h
    · cases h

theorem Fr.sub {n : Nat} {G F : Slots} {a : Act} (h : Fr n G a) (hs : ∀ t v, look t F = some v → look t G = some v) : Fr n F a :=
  ⟨h.size, h.defers, fun t v ht => h.has t v (hs t v ht)⟩

/-! ### Own memory -/

/-- The world at the start, and which old blocks may be written. -/
structure Ctx where
  w0 : World
  D : Nat → Prop

def no : Nat → Prop := fun _ => False
/-- The context of a function that writes no old block. -/
def cx (w : World) : Ctx := ⟨w, no⟩

/-- Below block number B the world w' is as w was; no answer of the tape has been taken back. -/
structure Below (B : Nat) (w w' : World) : Prop where
  os : w'.os = w.os
  tape : w'.tape = w.tape
  output : w'.output = w.output
  size : w.heap.size ≤ w'.heap.size
  block : ∀ k, k < B → w'.heap[k]? = w.heap[k]?
  drawn : w.drawn * 0 ≤ w'.drawn * 0

theorem Below.refl (B : Nat) (w : World) : Below B w w := ⟨rfl, rfl, rfl, Nat.le_refl _, fun _ _ => rfl, Nat.le_refl _⟩
theorem Below.kit {B : Nat} {w w' : World} (h : Below B w w') : Go.RowKit.Below B w w' := ⟨h.os, h.tape, h.output, h.size, h.block⟩
theorem Below.trans {B : Nat} {a b c : World} (h : Below B a b) (k : Below B b c) : Below B a c :=
  ⟨k.os.trans h.os, k.tape.trans h.tape, k.output.trans h.output, Nat.le_trans h.size k.size, fun i hi => (k.block i hi).trans (h.block i hi), Nat.le_trans h.drawn k.drawn⟩
theorem Below.drew {B : Nat} {a w : World} (h : Below B a w) : Below B a w.drew := ⟨h.os, h.tape, h.output, h.size, h.block, h.drawn⟩
theorem Below.alloc {B : Nat} {a w : World} (h : Below B a w) (hB : B ≤ w.heap.size) (o : Obj) : Below B a (w.alloc o) :=
  h.trans ⟨rfl, rfl, rfl, by simp, fun k hk => Go.RowKit.Below.heap_alloc _ _ _ (by omega), Nat.le_refl _⟩
theorem Below.cell {B : Nat} {w w' : World} (h : Below B w w') {a : Addr} (ha : a.block < B) : w'.cell? a = w.cell? a := h.kit.cell ha

/-- But for the blocks of D the old world is as it was. -/
structure Chg (D : Nat → Prop) (w w' : World) : Prop where
  os : w'.os = w.os
  tape : w'.tape = w.tape
  output : w'.output = w.output
  size : w.heap.size ≤ w'.heap.size
  block : ∀ k, k < w.heap.size → ¬ D k → w'.heap[k]? = w.heap[k]?
  drawn : w.drawn * 0 ≤ w'.drawn * 0

theorem Chg.refl (D : Nat → Prop) (w : World) : Chg D w w := ⟨rfl, rfl, rfl, Nat.le_refl _, fun _ _ _ => rfl, Nat.le_refl _⟩
theorem Chg.below {w w' : World} (h : Chg no w w') : Below w.heap.size w w' := ⟨h.os, h.tape, h.output, h.size, fun k hk => h.block k hk (fun h => h), h.drawn⟩
theorem Chg.of_below {D : Nat → Prop} {w w' : World} (h : Below w.heap.size w w') : Chg D w w' := ⟨h.os, h.tape, h.output, h.size, fun k hk _ => h.block k hk, h.drawn⟩

/-- Memory of the call's own that is not spelled out: the blocks in which it lies, what it says of the world. -/
structure Res where
  foot : Nat → Prop
  holds : World → Prop
  lt : ∀ w, holds w → ∀ b, foot b → b < w.heap.size
  kept : ∀ w w', holds w → (∀ b, foot b → w'.heap[b]? = w.heap[b]?) → holds w'

abbrev Ent := (Nat × Obj) ⊕ Res
abbrev Mem := List Ent
/-! ### Short words for what walks say often -/
abbrev Pa (b : Nat) : Option Addr := some ⟨b, 0, none⟩
abbrev Bk (b : Nat) (c : Array Value) (T : Nat) : Ent := .inl (b, .cells c T (0, 0))
abbrev AN := Option Addr × Nat
theorem Kr {α : Sort _} {a b : α} (h : a = b := by kernel_rfl) : a = b := h

def footE : Ent → Nat → Prop
  | .inl p => fun b => b = p.1
  | .inr r => r.foot
def holdsE : Ent → World → Prop
  | .inl p, w => w.heap[p.1]? = some p.2
  | .inr r, w => r.holds w
def apartE (e f : Ent) : Prop := ∀ b, footE e b → ¬ footE f b

theorem apartE.symm {e f : Ent} (h : apartE e f) : apartE f e := fun b h1 h2 => h b h2 h1

theorem heap_lt {w : World} {b : Nat} {o : Obj} (h : w.heap[b]? = some o) : b < w.heap.size := by
  rcases Nat.lt_or_ge b w.heap.size with hl | hg
  · exact hl
  · rw [Array.getElem?_eq_none hg] at h; cases h

theorem ltE {e : Ent} {w : World} (h : holdsE e w) : ∀ b, footE e b → b < w.heap.size := by
  cases e with
  | inl p => intro b hb; simp only [footE] at hb; subst hb; exact heap_lt h
  | inr r => exact r.lt w h

theorem keptE {e : Ent} {w w' : World} (h : holdsE e w) (hk : ∀ b, footE e b → w'.heap[b]? = w.heap[b]?) : holdsE e w' := by
  cases e with
  | inl p => exact (hk p.1 rfl).trans h
  | inr r => exact r.kept w w' h hk

/-- The old world is as it was but for D; these blocks are the call's own and hold this. -/
structure Sat (w0 : Ctx) (M : Mem) (w : World) : Prop where
  chg : Chg w0.D w0.w0 w
  own : ∀ e ∈ M, holdsE e w ∧ ∀ b, footE e b → w0.D b ∨ w0.w0.heap.size ≤ b
  apart : M.Pairwise apartE

theorem Sat.start (w : World) : Sat (cx w) [] w := ⟨Chg.refl _ _, by simp, .nil⟩

theorem Sat.below {w : World} {M : Mem} {w' : World} (h : Sat (cx w) M w') : Below w.heap.size w w' := h.chg.below

theorem Sat.block {w0 : Ctx} {w : World} {M : Mem} (h : Sat w0 M w) {b : Nat} {o : Obj} (hp : Sum.inl (b, o) ∈ M) : w.heap[b]? = some o := (h.own _ hp).1

theorem Sat.lt {w0 : Ctx} {w : World} {M : Mem} (h : Sat w0 M w) {b : Nat} {o : Obj} (hp : Sum.inl (b, o) ∈ M) : b < w.heap.size := heap_lt (h.block hp)

/-- A step that leaves the blocks below as they are. -/
theorem Sat.later {w0 : Ctx} {w w' : World} {M : Mem} (h : Sat w0 M w) (hb : Below w.heap.size w w') : Sat w0 M w' :=
  ⟨⟨hb.os.trans h.chg.os, hb.tape.trans h.chg.tape, hb.output.trans h.chg.output, Nat.le_trans h.chg.size hb.size, fun k hk hd => (hb.block k (Nat.lt_of_lt_of_le hk h.chg.size)).trans (h.chg.block k hk hd), Nat.le_trans h.chg.drawn hb.drawn⟩,
    fun e he => ⟨keptE (h.own e he).1 fun b hf => hb.block b (ltE (h.own e he).1 b hf), (h.own e he).2⟩, h.apart⟩

theorem Sat.sub {w0 : Ctx} {w : World} {M M' : Mem} (h : Sat w0 M w) (hs : M'.Sublist M) : Sat w0 M' w :=
  ⟨h.chg, fun p hp => h.own p (hs.subset hp), h.apart.sublist hs⟩

theorem Sat.perm {w0 : Ctx} {w : World} {M M' : Mem} (h : Sat w0 M w) (hs : M.Perm M') : Sat w0 M' w :=
  ⟨h.chg, fun p hp => h.own p (hs.mem_iff.2 hp), (hs.pairwise_iff (fun {_ _} h => apartE.symm h)).1 h.apart⟩

/-- A new entry that lies in new blocks. -/
theorem Sat.push {w0 : Ctx} {w w' : World} {M : Mem} (h : Sat w0 M w) (hb : Below w.heap.size w w') (e : Ent) (he : holdsE e w') (hf : ∀ b, footE e b → w.heap.size ≤ b) : Sat w0 (e :: M) w' := by
  have h2 := h.later hb
  refine ⟨h2.chg, fun p hp => ?_, ?_⟩
  · rcases List.mem_cons.1 hp with rfl | hp
    · exact ⟨he, fun b hb => .inr (Nat.le_trans h.chg.size (hf b hb))⟩
    · exact h2.own p hp
  · refine List.pairwise_cons.2 ⟨fun f hfm b h1 h3 => ?_, h.apart⟩
    have := ltE (h.own f hfm).1 b h3
    have := hf b h1
    omega

theorem below_alloc (w : World) (o : Obj) : Below w.heap.size w (w.alloc o) := (Below.refl _ _).alloc (Nat.le_refl _) o

theorem Sat.alloc {w0 : Ctx} {w : World} {M : Mem} (h : Sat w0 M w) (o : Obj) : Sat w0 (.inl (w.heap.size, o) :: M) (w.alloc o) :=
  h.push (below_alloc w o) _ (heap_alloc_new w o) (fun b hb => by simp only [footE] at hb; omega)

theorem Sat.drawn {w0 : Ctx} {w : World} {M : Mem} (h : Sat w0 M w) (k : Nat) (hk : w.drawn ≤ k := by exact Nat.le_succ _) : Sat w0 M { w with drawn := k } :=
  h.later ⟨rfl, rfl, rfl, Nat.le_refl _, fun _ _ => rfl, Nat.mul_le_mul_right 0 hk⟩

theorem pairwise_set {R : Ent → Ent → Prop} (hs : ∀ {a b}, R a b → R b a) {M : Mem} (h : M.Pairwise R) {j : Nat} {e' : Ent} (he : ∀ i f, M[i]? = some f → i ≠ j → R e' f) : (M.set j e').Pairwise R := by
  rw [List.pairwise_iff_getElem] at h ⊢
  intro i k hi hk hik
  simp only [List.length_set] at hi hk
  rw [List.getElem_set, List.getElem_set]
  by_cases e1 : j = i
  · subst e1
    rw [if_pos rfl, if_neg (by omega)]
    exact he k _ (List.getElem?_eq_getElem hk) (by omega)
  · rw [if_neg e1]
    by_cases e2 : j = k
    · subst e2
      rw [if_pos rfl]
      exact hs (he i _ (List.getElem?_eq_getElem hi) (by omega))
    · rw [if_neg e2]
      exact h i k hi hk hik

theorem apart_at {M : Mem} (h : M.Pairwise apartE) {i j : Nat} {e f : Ent} (hi : M[i]? = some e) (hj : M[j]? = some f) (hne : i ≠ j) : apartE e f := by
  rw [List.pairwise_iff_getElem] at h
  obtain ⟨a1, rfl⟩ := List.getElem?_eq_some_iff.1 hi
  obtain ⟨a2, rfl⟩ := List.getElem?_eq_some_iff.1 hj
  rcases Nat.lt_or_gt_of_ne hne with hl | hl
  · exact h i j a1 a2 hl
  · exact (h j i a2 a1 hl).symm

/-- A step that writes entry j alone. -/
theorem Sat.step {w0 : Ctx} {w w' : World} {M : Mem} (h : Sat w0 M w) {j : Nat} {e e' : Ent} (hj : M[j]? = some e) (hc : Chg (footE e) w w') (he : holdsE e' w')
    (hf : ∀ b, footE e' b → footE e b ∨ w.heap.size ≤ b) : Sat w0 (M.set j e') w' := by
  have hmem := List.mem_of_getElem? hj
  have howe := h.own _ hmem
  refine ⟨⟨hc.os.trans h.chg.os, hc.tape.trans h.chg.tape, hc.output.trans h.chg.output, Nat.le_trans h.chg.size hc.size, fun k hk hd => ?_, Nat.le_trans h.chg.drawn hc.drawn⟩, fun f hfm => ?_, pairwise_set apartE.symm h.apart ?_⟩
  · refine (hc.block k (Nat.lt_of_lt_of_le hk h.chg.size) fun hfk => ?_).trans (h.chg.block k hk hd)
    rcases howe.2 k hfk with h1 | h1
    · exact hd h1
    · omega
  · obtain ⟨i, hi⟩ := List.getElem?_of_mem hfm
    rw [List.getElem?_set] at hi
    by_cases e1 : j = i
    · rw [if_pos e1] at hi
      split at hi
      · simp only [Option.some.injEq] at hi
        subst hi
        refine ⟨he, fun b hb => ?_⟩
        rcases hf b hb with h1 | h1
        · exact howe.2 b h1
        · exact .inr (Nat.le_trans h.chg.size h1)
      · cases hi
    · rw [if_neg e1] at hi
      have hfo := h.own f (List.mem_of_getElem? hi)
      exact ⟨keptE hfo.1 fun b hb => hc.block b (ltE hfo.1 b hb) fun hb2 => apart_at h.apart hj hi e1 b hb2 hb, hfo.2⟩
  · intro i f hi hne b h1 h2
    rcases hf b h1 with h3 | h3
    · exact apart_at h.apart hj hi (Ne.symm hne) b h3 h2
    · have := ltE (h.own f (List.mem_of_getElem? hi)).1 b h2
      omega

theorem Sat.store {w0 : Ctx} {w : World} {M : Mem} (h : Sat w0 M w) {j b : Nat} {c : Array Value} {T : TypeId} (hj : M[j]? = some (.inl (b, .cells c T (0, 0)))) {x : Addr} (hx : x.block = b)
    (hs : x.spot = none) (v : Value) : Sat w0 (M.set j (.inl (b, .cells (c.setIfInBounds x.off v) T (0, 0)))) (w.setCell x v) := by
  have hb := h.block (List.mem_of_getElem? hj)
  refine h.step hj ⟨rfl, rfl, rfl, by simp [World.setCell], fun k _ hk => Go.RowKit.Below.heap_setCell _ _ _ _ (fun e => hk (by rw [e, hx]; rfl)), Nat.le_refl _⟩ ?_ (fun b' hb' => .inl hb')
  simp [holdsE, World.setCell, Array.getElem?_modify, hx, hb, hs]

/-- Read-only evaluation of an operation over own memory; 'j': which own block it reads. -/
def mr {α : Type} (P : Program) (M : Mem) (j : Nat) : Sem α → Option (α × List (Nat × Nat))
  | .pure a => some (a, [])
  | .program k => mr P M j (k P)
  | .mark _ k => mr P M j k
  | .load _ a k => match M[j]? with
    | some (.inl (b, .cells c _ _)) => match a.spot with
      | none => match c[a.off]? with
        | some v => match mr P M j (k v) with
          | some (r, es) => some (r, (a.block, b) :: es)
          | none => none
        | none => none
      | some _ => none
    | _ => none
  | .shape r k => match M[j]? with
    | some (.inl (b, .cells c T _)) => match mr P M j (k (some (T, c.size))) with
      | some (x, es) => some (x, (r, b) :: es)
      | none => none
    | _ => none
  | _ => none

theorem mr_sound {α : Type} {P : Program} {w0 : Ctx} {w : World} {M : Mem} {j : Nat} (h : Sat w0 M w) (s : Sem α) :
    ∀ (v : α) (es : List (Nat × Nat)), mr P M j s = some (v, es) → (∀ p ∈ es, p.1 = p.2) → s.run P w = .ok v w := by
  induction s with
  | pure a => intro v es hr _; simp only [mr, Option.some.injEq, Prod.mk.injEq] at hr; obtain ⟨rfl, rfl⟩ := hr; rfl
  | program k ih => intro v es hr he; exact ih P v es hr he
  | mark m k ih => intro v es hr he; exact ih v es hr he
  | load m a k ih =>
    intro v es hr he
    simp only [mr] at hr
    split at hr
    · rename_i b c T fz hj
      split at hr
      · rename_i hsp
        split at hr
        · rename_i u hu
          split at hr
          · rename_i r es' hk
            simp only [Option.some.injEq, Prod.mk.injEq] at hr
            obtain ⟨rfl, rfl⟩ := hr
            have hab : a.block = b := he (a.block, b) (by simp)
            have hcell : w.cell? a = some u := by
              have := h.block (List.mem_of_getElem? hj)
              simp [World.cell?, hab, this, hsp, hu]
            simp only [Sem.run, hcell]
            exact ih u _ _ hk (fun p hp => he p (by simp [hp]))
          · cases hr
        · cases hr
      · cases hr
    · cases hr
  | shape r k ih =>
    intro v es hr he
    simp only [mr] at hr
    split at hr
    · rename_i b c T fz hj
      split at hr
      · rename_i x es' hk
        simp only [Option.some.injEq, Prod.mk.injEq] at hr
        obtain ⟨rfl, rfl⟩ := hr
        have hab : r = b := he (r, b) (by simp)
        have hsh : w.shape? r = some (T, c.size) := by
          have := h.block (List.mem_of_getElem? hj)
          simp [World.shape?, hab, this]
        simp only [Sem.run, hsh]
        exact ih _ _ _ hk (fun p hp => he p (by simp [hp]))
      · cases hr
    · cases hr
  | _ => intro v es hr _; simp only [mr] at hr; cases hr

def isPlain : Value → Bool
  | .agg _ => false
  | .tuple _ => false
  | _ => true

/-- An operation that writes own memory, or makes one new block 'b' (and is pure from there on). -/
def mw {α : Type} (P : Program) (j b : Nat) : Sem α → Mem → Option (α × Mem × List (Nat × Nat))
  | .pure a, M => some (a, M, [])
  | .program k, M => mw P j b (k P) M
  | .mark _ k, M => mw P j b k M
  | .load _ a k, M => match M[j]? with
    | some (.inl (b', .cells c _ _)) => match a.spot with
      | none => match c[a.off]? with
        | some v => match mw P j b (k v) M with
          | some (r, M', es) => some (r, M', (a.block, b') :: es)
          | none => none
        | none => none
      | some _ => none
    | _ => none
  | .store _ a v k, M => match isPlain v with
    | false => none
    | true => match M[j]? with
      | some (.inl (b', .cells c T (0, 0))) => match a.spot with
        | none => match c[a.off]? with
          | some _ => match mw P j b k (M.set j (.inl (b', .cells (c.setIfInBounds a.off v) T (0, 0)))) with
            | some (r, M', es) => some (r, M', (a.block, b') :: es)
            | none => none
          | none => none
        | some _ => none
      | _ => none
  | .new o k, M => match mr P M j (k b) with
    | some (r, es) => some (r, .inl (b, o) :: M, es)
    | none => none
  | _, _ => none

theorem run_store_plain {α : Type} (P : Program) (w : World) (m : Mode) (a : Addr) (v u : Value) (k : Sem α) (hp : isPlain v = true) (hc : w.cell? a = some u) (hf : w.frozen? a = false) :
    (Sem.store m a v k).run P w = k.run P (w.setCell a v) := by
  cases v <;> simp [isPlain] at hp <;> simp [Sem.run, hc, hf]

theorem mw_sound {α : Type} {P : Program} {w0 : Ctx} {j b : Nat} (s : Sem α) :
    ∀ (M : Mem) (w : World) (v : α) (M' : Mem) (es : List (Nat × Nat)), Sat w0 M w → b = w.heap.size → mw P j b s M = some (v, M', es) → (∀ p ∈ es, p.1 = p.2) →
      ∃ w', s.run P w = .ok v w' ∧ Sat w0 M' w' := by
  induction s with
  | pure a => intro M w v M' es h _ hr _; simp only [mw, Option.some.injEq, Prod.mk.injEq] at hr; obtain ⟨rfl, rfl, rfl⟩ := hr; exact ⟨w, rfl, h⟩
  | program k ih => intro M w v M' es h hb hr he; exact ih P M w v M' es h hb hr he
  | mark m k ih => intro M w v M' es h hb hr he; exact ih M w v M' es h hb hr he
  | load m a k ih =>
    intro M w v M' es h hbw hr he
    simp only [mw] at hr
    split at hr
    · rename_i b' c T fz hj
      split at hr
      · rename_i hsp
        split at hr
        · rename_i u hu
          split at hr
          · rename_i r M2 es' hk
            simp only [Option.some.injEq, Prod.mk.injEq] at hr
            obtain ⟨rfl, rfl, rfl⟩ := hr
            have hab : a.block = b' := he (a.block, b') (by simp)
            have hcell : w.cell? a = some u := by
              have := h.block (List.mem_of_getElem? hj)
              simp [World.cell?, hab, this, hsp, hu]
            simp only [Sem.run, hcell]
            exact ih u M w _ _ _ h hbw hk (fun p hp => he p (by simp [hp]))
          · cases hr
        · cases hr
      · cases hr
    · cases hr
  | store m a x k ih =>
    intro M w v M' es h hbw hr he
    simp only [mw] at hr
    split at hr
    · cases hr
    · rename_i hpl
      split at hr
      · rename_i b' c T hj
        split at hr
        · rename_i hsp
          split at hr
          · rename_i u hu
            split at hr
            · rename_i r M2 es' hk
              simp only [Option.some.injEq, Prod.mk.injEq] at hr
              obtain ⟨rfl, rfl, rfl⟩ := hr
              have hab : a.block = b' := he (a.block, b') (by simp)
              have hblk := h.block (List.mem_of_getElem? hj)
              have hcell : w.cell? a = some u := by simp [World.cell?, hab, hblk, hsp, hu]
              have hfz : w.frozen? a = false := by simp [World.frozen?, hab, hblk]
              rw [run_store_plain P w m a x u k hpl hcell hfz]
              exact ih _ (w.setCell a x) _ _ _ (h.store hj hab hsp x) (by simpa [World.setCell] using hbw) hk (fun p hp => he p (by simp [hp]))
            · cases hr
          · cases hr
        · cases hr
      · cases hr
  | new o k ih =>
    intro M w v M' es h hbw hr he
    simp only [mw] at hr
    split at hr
    · rename_i r es' hk
      simp only [Option.some.injEq, Prod.mk.injEq] at hr
      obtain ⟨rfl, rfl, rfl⟩ := hr
      subst hbw
      have h2 := h.alloc o
      refine ⟨w.alloc o, ?_, h2⟩
      have h3 : Sat w0 M (w.alloc o) := h2.sub (List.sublist_cons_self _ _)
      exact mr_sound h3 (k w.heap.size) _ _ hk he
    · cases hr
  | _ => intro M w v M' es _ _ hr _; simp only [mw] at hr; cases hr

end Go.Eng
